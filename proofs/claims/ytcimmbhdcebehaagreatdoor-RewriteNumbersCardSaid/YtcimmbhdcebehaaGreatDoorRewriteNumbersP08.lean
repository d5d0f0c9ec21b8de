/- What the card of the law stands on: ParC, ParD, Lives, CPlain, Row4, CPl2, Encb, Box4, Encode, RowC, DPl, REncb, Claims, Pick, RFoldN, Rewr, Wire, Wire2, RowG, Valid, HPl, Mix, Grp, Gst, HSum. -/
import Derived.Test.YtcimmbhdcebehaaGreatDoorRewriteNumbersP06
import Derived.Test.YtcimmbhdcebehaaGreatDoorRewriteNumbersP07
import Derived.Test.YtcimmbhdcebehaaGreatDoorRewriteNumbersP04
import Derived.Test.YtcimmbhdcebehaaGreatDoorRewriteNumbersP01
import Derived.Deep.MidRow
import Derived.StillTailTactics
import Derived.Deep.DeepCutAuto
import Derived.Deep.QuietTactic
import Derived.BigQuiet
import Derived.Test.YtcimmbhdcebehaaGreatDoorProg
set_option maxRecDepth 100000
set_option maxHeartbeats 12800000
set_option linter.unusedVariables false
set_option linter.unusedSimpArgs false
namespace Go.Proofs.YtcimmbhdcebehaaGreatDoor
open Go.RowKit Pl
def idxI (ls:List ByteArray) (s:ByteArray):Int:=match ls.findIdx? fun a=>a.toList==s.toList with
 |some j=>(j:Nat)
 |none=> -1
theorem idxI_at {ls:List ByteArray} {s a:ByteArray} {j:Nat} (h:ls[j]? =some a) (he:(a.toList==s.toList)=true) (hn:∀(i:Nat) (a:ByteArray),i<j→ls[i]? =some a→(a.toList==s.toList)=false):idxI ls s=(j:Nat):=by
 have hj:=(List.getElem?_eq_some_iff.1 h).1;have:ls.findIdx? (fun a=>a.toList==s.toList)=some j:=by
  rw[List.findIdx?_eq_some_iff_getElem];refine⟨hj,?_,fun i hi=>?_⟩
  ·rw[(List.getElem?_eq_some_iff.1 h).2];exact he
  rw[hn i _ hi (List.getElem?_eq_getElem (by omega))];simp
 unfold idxI;rw[this]
theorem idxI_none {ls:List ByteArray} {s:ByteArray} (hn:∀(i:Nat) (a:ByteArray),ls[i]? =some a→(a.toList==s.toList)=false):idxI ls s= -1:=by
 have:ls.findIdx? (fun a=>a.toList==s.toList)=none:=by
  rw[List.findIdx?_eq_none_iff];intro a ha;obtain⟨i,hi⟩:=List.getElem?_of_mem ha;exact hn i a hi
 unfold idxI;rw[this]
theorem indexAt_any (v:Value) (ls:List ByteArray) (s:ByteArray) (w:World) (h:RdR w w.heap.size 1 v (ls.map fun s=>[Value.string s])) (hl:ls.length≤1000000):Calls Tryz.prog 101 #[v,.string s] w (fun e w'=>e= .returned (.int .i64 (idxI ls s))∧w'=w):=by
 obtain⟨A,c,rfl,hc,hx⟩:=h;rw[List.length_map]at hc hx ⊢;obtain⟨n,hn⟩:∃n,ls.length=n:=⟨_,rfl⟩;rw[hn]at hc hx hl ⊢;have HN:=Lib.hid hn;have HX:=Lib.hid hx;clear hn hx;go_enter Tryz.func101,Tryz.ntmps101;go_wp2_with fail;go_loopw [5,8] (fun _ i wr=>∃(j:Nat),j≤n∧(i= .int .i64 (j:Nat)∧w=wr)∧∀(i:Nat) (a:ByteArray),i<j→ls[i]? =some a→(a.toList==s.toList)=false) (fun _ i _=>n-(intOf i).toNat)
 case atStart=>exact⟨0,by omega,⟨rfl,rfl⟩,fun i a h _=>by omega⟩
 case round=>
  obtain⟨j,hj,⟨rfl,rfl⟩,hinv⟩:=hrel;have HI:=Lib.hid hinv;clear hinv;by_cases hlt:j<n
  ·obtain⟨b,o,rfl,hb,hcell⟩:=HX.out (by omega);obtain⟨a,ha⟩:∃a,ls[j]? =some a:=⟨_,List.getElem?_eq_getElem (by rw[HN.out];exact hlt)⟩;have hcl:w.cell? ⟨b,o+j,none⟩=some (.string a):=by
    have:=hcell j [.string a] (by rw[List.getElem?_map,ha];rfl) 0 _ rfl;rw[Nat.mul_one]at this;exact this
   have HA:=Lib.hid ha;clear ha hcell;by_cases he:a.toList=s.toList
   ·have t1:(a.toList==s.toList)=true:=by rw[beq_iff_eq];exact he
    have t2:(s.toList==a.toList)=true:=by rw[beq_iff_eq];exact he.symm
    have HF:=Lib.hid (idxI_at HA.out t1 HI.out);clear he;go_wp2_with fail;go_ret;exact⟨by rw[HF.out];rfl,rfl⟩
   have t1:(a.toList==s.toList)=false:=by rw[beq_eq_false_iff_ne];exact he
   have t2:(s.toList==a.toList)=false:=by rw[beq_eq_false_iff_ne];exact fun h=>he h.symm
   have HC:=Lib.hid (show ∀(i:Nat) (a:ByteArray),i<j+1→ls[i]? =some a→(a.toList==s.toList)=false from fun i a' hi ha'=>by
    by_cases hij:i=j
    ·subst hij;rw[HA.out]at ha';obtain rfl:=Option.some.inj ha';exact t1
    exact HI.out i a' (by omega) ha')
   clear he;go_wp2_with fail;go_roundw
   case rel=>exact⟨j+1,by omega,⟨by go_num,by simp⟩,HC.out⟩
   case measure=>simp[intOf];omega
  have HF:=Lib.hid (idxI_none (ls:=ls) (s:=s) fun i a h=>HI.out i a (by have:=(List.getElem?_eq_some_iff.1 h).1;have:=HN.out;omega) h);obtain rfl:j=n:=by omega
  go_wp2_with fail;go_ret;exact⟨by rw[HF.out];rfl,rfl⟩
def FTab (w:World):Prop:=4<w.heap.size∧∀j s,funL[j]? =some s→w.cell? ⟨4,j,none⟩=some (.string s)
theorem FTab.keep {S:Nat→Prop} {w w':World} (h:FTab w) (g:Keeps S w w') (hs:¬S 4):FTab w':=⟨Nat.lt_of_lt_of_le h.1 g.size,fun j s hj=>(World.cell?_of_block (a:=⟨4,j,none⟩) (g.block _ h.1 hs)).trans (h.2 j s hj)⟩
theorem FTab.rd {w:World} (h:FTab w):RdR w w.heap.size 1 (.slice (some ⟨4,0,none⟩) 8 8) (funL.map fun s=>[Value.string s]):=by
 refine⟨_,8,rfl,by decide,fun _=>⟨_,0,rfl,h.1,fun j cs hj k u hk=>?_⟩⟩;rw[Nat.zero_add,Nat.mul_one];rw[List.getElem?_map]at hj;obtain⟨x,hx,rfl⟩:=Option.map_eq_some_iff.1 hj;obtain⟨rfl,rfl⟩:k=0∧Value.string x=u:=by
  cases k with
  |zero=>exact⟨rfl,by simpa using hk⟩
  |succ k=>simp at hk
 exact h.2 j x hx
def OTab (w:World):Prop:=0<w.heap.size∧∀j s,opL[j]? =some s→w.cell? ⟨0,j,none⟩=some (.string s)
theorem OTab.keep {S:Nat→Prop} {w w':World} (h:OTab w) (g:Keeps S w w') (hs:¬S 0):OTab w':=⟨Nat.lt_of_lt_of_le h.1 g.size,fun j s hj=>(World.cell?_of_block (a:=⟨0,j,none⟩) (g.block _ h.1 hs)).trans (h.2 j s hj)⟩
def selL (f wd:Int) (name:ByteArray):List Value:=[.int .i64 1,.int .i64 f,.int .i64 wd,.int .i64 0,.int .i64 0,.int .i64 0,.int .i64 0,.string name,.slice none 0 0,.slice none 0 0,.slice none 0 0]
theorem pfun_any (w:World) (g z:Nat) (n:Int) (name:ByteArray) (ts us:List Tok) (f wd:Nat) (h:PSt w g n ts) (hz:Box w z 34 (selL 0 0 name).toArray) (hgz:g<z) (hft:FTab w) (hfz:4<g) (hf:funP ts=some (f,wd,us)):
  Calls Tryz.prog 112 #[.pointer (some ⟨g,0,none⟩),.pointer (some ⟨z,0,none⟩)] w fun e w'=>e= .returned (.tuple #[])∧PSt w' g n us∧Box w' z 34 (selL (f:Nat) (wd:Nat) name).toArray∧Keeps (fun i=>i=g∨i=z) w w':=by
 rcases ts with _|⟨⟨tk,tt,tn,tf⟩,ts⟩
 ·cases hf
 simp only[funP]at hf;by_cases hk0:tk=0
 ·subst hk0;rw[if_pos rfl]at hf;cases hx:funL.findIdx? (fun a=>a.toList==tt.toList)with
  |none=>rw[hx]at hf;cases hf
  |some q=>
   rw[hx]at hf;dsimp only at hf;have hq:idxI funL tt=(q:Nat):=by unfold idxI;rw[hx]
   have hq8:q<8:=by
    have:=(List.findIdx?_eq_some_iff_getElem.1 hx).1;exact this
   have HK:=Lib.hid (show ∀w',PSt w' g n (⟨0,tt,tn,tf⟩::ts)→Calls Tryz.prog 99 #[.pointer (some ⟨g,0,none⟩),.int .i64 0] w' (fun e w''=>e= .returned (.bool true)∧w''=w')from fun w' h=>pkind_any w' g n (⟨0,tt,tn,tf⟩::ts) 0 h);have HI:=Lib.hid (show ∀w',FTab w'→Calls Tryz.prog 101 #[.slice (some ⟨4,0,none⟩) 8 8,.string tt] w' (fun e w''=>e= .returned (.int .i64 (q:Nat))∧w''=w')from fun w' h=>by have h1:=indexAt_any _ funL tt w' h.rd (by decide);rwa[hq]at h1);obtain⟨A,m,c,hb,hr,hl⟩:=id h;obtain⟨b,o,rfl, -, -,k0,k1, -⟩:=tok_at hr;rw[List.length_cons]at hl;obtain⟨m',hm'⟩:∃m',ts.length=m':=⟨_,rfl⟩;rw[hm']at hl;subst hl;have c0:w.cell? ⟨g,0,none⟩=some (.slice (some ⟨b,o,none⟩) (m'+1) c):=hb.cell 0;have k0:w.cell? ⟨b,o,none⟩=some (.int .i64 0):=k0;have k1:w.cell? ⟨b,o+1,none⟩=some (.string tt):=k1;have f1:w.frozen? ⟨z,1,none⟩=false:=hz.frozen 1;have z1:w.cell? ⟨z,1,none⟩=some (.int .i64 0):=hz.cell 1;have HP:=Lib.hid h;have HZ:=Lib.hid hz;have HF:=Lib.hid hft;have HFF:=Lib.hid hf;clear h hz hft hf hx hq hb hr hm';go_enter Tryz.func112,Tryz.ntmps112;go_upto_region 1 with(go_at_call 99;(with_reducible refine(HK.out _ HP.out).mono ?_);rintro e3 w3 ⟨rfl,rfl⟩);refine wp_region_still_tail 12 (by kernel_rfl) (by kernel_rfl) ?_;simp only[List.take_succ_cons,List.take_zero,List.drop_succ_cons,List.drop_zero]
   repeat still_step
   still_call (HI.out w3.drew (HF.out.keep (Keeps.drew (Keeps.refl (fun _=>False) w3)) (fun h=>h)))
   repeat still_step
   refine wpStill_nil ?_;change wpList _ _ _ _ _ w3.drew;go_upto_region 2 with fail;have hb4:Box (w3.setCell ⟨z,1,none⟩ (.int .i64 (q:Nat))).drew z 34 (selL (q:Nat) 0 name).toArray:=(HZ.out.set_ 1 _:Box _ _ _ _).drew;have k4:Keeps (fun i=>i=z) w3 (w3.setCell ⟨z,1,none⟩ (.int .i64 (q:Nat))).drew:=Keeps.drew (Keeps.setCell (S:=fun i=>i=z) (p:=⟨z,1,none⟩) (Keeps.refl _ w3) (.inl rfl) _);generalize (w3.setCell ⟨z,1,none⟩ (.int .i64 (q:Nat))).drew=w4 at*;have hp4:=HP.out.keep k4 (fun i hi e=>by omega);have z1':w4.cell? ⟨z,1,none⟩=some (.int .i64 (q:Nat)):=hb4.cell 1;have HP4:=Lib.hid hp4;have HB4:=Lib.hid hb4;have HK4:=Lib.hid k4;have HT:=Lib.hid (ptake_any w4 g n ⟨0,tt,tn,tf⟩ ts hp4);clear hb4 k4 hp4 c0 k0 k1 f1;have tq:decide ((q:Int)<0)=false:=by rw[decide_eq_false_iff_not];omega
   by_cases hq0:q=0
   ·subst hq0;have hff:=HFF.out;rw[if_pos rfl]at hff;simp only[Option.some.injEq,Prod.mk.injEq]at hff;obtain⟨rfl,rfl,rfl⟩:=hff;go_wp2_with(first|(go_at_call 99;(with_reducible refine(HK.out _ HP4.out).mono ?_);rintro e3 w3' ⟨rfl,rfl⟩)|(go_at_call 98;(with_reducible refine HT.out.mono ?_);rintro e3 w5 ⟨rfl,hp5,hk5⟩;have hb5:=HB4.out.keep hk5 (by omega);have z5:w5.cell? ⟨z,1,none⟩=some (.int .i64 0):=hb5.cell 1;have HR5:=Lib.hid (And.intro hp5 (And.intro hk5 hb5));clear hp5 hk5 hb5));refine bodyPost_ret (results_none rfl _ _ _) rfl ?_;exact⟨rfl,HR5.out.1,HR5.out.2.2,Keeps.then_ (Keeps.mono HK4.out fun _ _ e=> .inr e) HR5.out.2.1 fun _ _ e=> .inl e⟩
   have hff:=HFF.out;rw[if_neg hq0]at hff;have tq0:((q:Int)==0)=false:=by rw[beq_eq_false_iff_ne];omega
   by_cases hq7:q=7
   ·rw[if_pos hq7]at hff;cases hff
   rw[if_neg hq7]at hff;have tq7:((q:Int)==7)=false:=by rw[beq_eq_false_iff_ne];omega
   by_cases hs1:isT ts 3 ⟨#[40]⟩=true
   ·rw[if_pos hs1]at hff;obtain⟨ta,tb,rfl⟩:=isT_cons hs1;rw[List.tail_cons]at hff;rcases tb with _|⟨⟨tck,tct,tcn,tcf⟩,td⟩
    ·cases hff
    dsimp only at hff;by_cases hcond:tck=1∧1≤tcn∧tcn≤4096∧isT td 3 ⟨#[41]⟩=true
    ·rw[if_pos hcond]at hff;simp only[Option.some.injEq,Prod.mk.injEq]at hff;obtain⟨rfl,rfl,hus⟩:=hff;obtain⟨hc1,hc2,hc3,hc4⟩:=hcond;obtain⟨te,tg,rfl⟩:=isT_cons hc4;obtain rfl:tg=us:=hus;have HS1:=Lib.hid (fun w' h=>psym_any w' g n ta (⟨tck,tct,tcn,tcf⟩::te::tg) ⟨#[40]⟩ h hs1);have HN:=Lib.hid (show ∀w',PSt w' g n (⟨tck,tct,tcn,tcf⟩::te::tg)→Calls Tryz.prog 109 #[.pointer (some ⟨g,0,none⟩),.int .i64 1,.int .i64 4096] w' (fun e w''=>e= .returned (.int .i64 (tcn:Nat))∧PSt w'' g n (te::tg)∧PKeeps g w' w'')from fun w' h=>pnum_any w' g n ⟨tck,tct,tcn,tcf⟩ (te::tg) 1 4096 h hc1 (by show(1:Int)≤(tcn:Int);omega) (by show(tcn:Int)≤4096;omega));have HS2:=Lib.hid (fun w' h=>psym_any w' g n te tg ⟨#[41]⟩ h hc4);clear hc1 hc2 hc3 hc4 hs1 hq0 hq7 HFF;go_upto_region 8 with(first|(go_at_call 99;(with_reducible refine(HK.out _ HP4.out).mono ?_);rintro e3 w3' ⟨rfl,rfl⟩)|(go_at_call 98;(with_reducible refine HT.out.mono ?_);rintro e3 w5 ⟨rfl,hp5,hk5⟩;have hb5:=HB4.out.keep hk5 (by omega);have z5:w5.cell? ⟨z,1,none⟩=some (.int .i64 (q:Nat)):=hb5.cell 1;have HR5:=Lib.hid (And.intro hp5 (And.intro hk5 hb5));clear hp5 hk5 hb5)|(go_at_call 100;(with_reducible refine(HS1.out _ HR5.out.1).mono ?_);rintro e3 w6 ⟨rfl,hp6,hk6⟩;have HR6:=Lib.hid (And.intro hp6 (And.intro hk6 (HR5.out.2.2.keep hk6 (by omega))));clear hp6 hk6)|(go_at_call 109;(with_reducible refine(HN.out _ HR6.out.1).mono ?_);rintro e3 w7 ⟨rfl,hp7,hk7⟩;have hb7:=HR6.out.2.2.keep hk7 (by omega);have z7:w7.cell? ⟨z,2,none⟩=some (.int .i64 0):=hb7.cell 2;have f7:w7.frozen? ⟨z,2,none⟩=false:=hb7.frozen 2;have HR7:=Lib.hid (And.intro hp7 (And.intro hk7 hb7));clear hp7 hk7 hb7));have hb8:Box (w7.setCell ⟨z,2,none⟩ (.int .i64 (tcn:Nat))) z 34 (selL (q:Nat) (tcn:Nat) name).toArray:=HR7.out.2.2.set_ 2 _;have k8:Keeps (fun i=>i=z) w7 (w7.setCell ⟨z,2,none⟩ (.int .i64 (tcn:Nat))):=Keeps.setCell (S:=fun i=>i=z) (p:=⟨z,2,none⟩) (Keeps.refl _ w7) (.inl rfl) _;generalize w7.setCell ⟨z,2,none⟩ (.int .i64 (tcn:Nat))=w8 at*;have hp8:=HR7.out.1.keep k8 (fun i hi e=>by omega);have z8:w8.cell? ⟨z,1,none⟩=some (.int .i64 (q:Nat)):=hb8.cell 1;have HR8:=Lib.hid (And.intro hp8 (And.intro k8 hb8));clear hp8 k8 hb8;go_wp2_with(go_at_call 100;(with_reducible refine(HS2.out _ HR8.out.1).mono ?_);rintro e3 w9 ⟨rfl,hp9,hk9⟩);go_end0;have kA:Keeps (fun i=>i=g∨i=z) w3 w7:=Keeps.then_ (Keeps.then_ (Keeps.then_ (Keeps.mono HK4.out fun _ _ e=> .inr e) HR5.out.2.1 fun _ _ e=> .inl e) HR6.out.2.1 fun _ _ e=> .inl e) HR7.out.2.1 fun _ _ e=> .inl e
     exact⟨rfl,hp9,HR8.out.2.2.keep hk9 (by omega),Keeps.then_ (Keeps.then_ kA HR8.out.2.1 fun _ _ e=> .inr e) hk9 fun _ _ e=> .inl e⟩
    rw[if_neg hcond]at hff;cases hff
   rw[if_neg hs1]at hff;cases hff
 rw[if_neg hk0]at hf;cases hf
theorem selL_ones (f wd:Int) (name:ByteArray):∀v∈selL f wd name,v.oneCell'=true:=by
 intro v hv;simp[selL]at hv;rcases hv with rfl|rfl|rfl|rfl|rfl|rfl|rfl|rfl|rfl|rfl|rfl<;>rfl
def SelPost (g:Nat) (n:Int) (us:List Tok) (f wd:Nat) (name:ByteArray) (w:World) (e:Ending) (w':World):Prop:=e= .returned (.agg (selL (f:Nat) (wd:Nat) name).toArray)∧PSt w' g n us∧PKeeps g w w'
theorem psel_any (w:World) (g:Nat) (n:Int) (name:ByteArray) (ts us:List Tok) (f wd:Nat) (h:PSt w g n ts) (hft:FTab w) (hfz:4<g) (hsel:selP name ts=some (selE (f:Nat) (wd:Nat) name,us)):
  Calls Tryz.prog 103 #[.pointer (some ⟨g,0,none⟩),.string name] w (SelPost g n us f wd name w):=by
 have hg:=h.lt;have hb0:=Box.new w 34 (numL 0 0).toArray;have hg0:=(Grew.refl w).alloc (.cells (numL 0 0).toArray 34);have hs0:(w.alloc (.cells (numL 0 0).toArray 34)).heap.size=w.heap.size+1:=by simp
 have hp0:=h.grew hg0;have hf0:=hft.keep hg0 (fun h=>h);have HS:=Lib.hid (And.intro hs0 hg);have HG:=Lib.hid hg0;have HSel:=Lib.hid hsel;clear hsel hft h hs0 hg0;go_enter Tryz.func103,Tryz.ntmps103;go_upto_region 1 with fail;change Code.wp _ _ _ _ (w.alloc (.cells (numL 0 0).toArray 34));generalize w.alloc (.cells (numL 0 0).toArray 34)=w1 at*;have HP0:=Lib.hid hp0;have HF0:=Lib.hid hf0;have HB0:=Lib.hid hb0;clear hp0 hf0 hb0;go_upto_region 2 with(((with_reducible refine at_store 34 (.tmp 5) (.tmp 7) rfl ?_);refine stN 34 (.tmp 5) (.tmp 7) w1.heap.size (selL 0 0 name) (numL 0 0) 34 infoX rfl (selL_ones _ _ _) rfl rfl rfl rfl (Box.new w1 34 _) ?_;intro w2 hb2 k2 d2;have HG2:=Lib.hid (show Grew w1 w2 from Keeps.then_ ((Grew.refl w1).alloc _) k2 (fun i hi e=>by omega));clear k2 d2));have HP2:=Lib.hid (HP0.out.grew HG2.out);have HF2:=Lib.hid (HF0.out.keep HG2.out (fun h=>h));have HB2:=Lib.hid (And.intro hb2 (HB0.out.grew HG2.out));have hsel:=HSel.out;unfold selP at hsel;by_cases h1:isT ts 3 ⟨#[123]⟩=true
 ·rw[if_pos h1]at hsel;cases hsel
 rw[if_neg h1]at hsel;have HN1:=Lib.hid (ptry_no w2 g n ts ⟨#[123]⟩ HP2.out (by simpa using h1));by_cases h2:isT ts 3 ⟨#[46]⟩=true
 ·rw[if_pos h2]at hsel;obtain⟨t,tb,rfl⟩:=isT_cons h2;rw[List.tail_cons]at hsel;cases hfp:funP tb with
  |none=>rw[hfp]at hsel;cases hsel
  |some p=>
   obtain⟨f',wd',us'⟩:=p;rw[hfp]at hsel;dsimp only at hsel;by_cases h3:isT us' 3 ⟨#[64]⟩=true
   ·rw[if_pos h3]at hsel;cases hsel
   rw[if_neg h3]at hsel;simp only[Option.some.injEq,Prod.mk.injEq,selE,Ex.mk.injEq,true_and,and_true]at hsel;obtain⟨⟨hf,hwd⟩,rfl⟩:=hsel;obtain rfl:f'=f:=by omega
   obtain rfl:wd'=wd:=by omega
   have HY:=Lib.hid (ptry_yes w2 g n t tb ⟨#[46]⟩ HP2.out h2);have HFn:=Lib.hid (fun w' (h:PSt w' g n tb) hz hft=>pfun_any w' g w1.heap.size n name tb us' f' wd' h hz (by have:=HS.out;omega) hft hfz hfp);have HN3:=Lib.hid (fun w' h=>ptry_no w' g n us' ⟨#[64]⟩ h (by simpa using h3));clear h1 h2 h3 hfp hf hwd HSel;go_upto_region 7 with(go_at_call 79;(with_reducible refine HN1.out.mono ?_);rintro e3 w3 ⟨rfl,rfl⟩);clear HN1;go_upto_region 8 with(go_at_call 79;(with_reducible refine HY.out.mono ?_);rintro e3 w4 ⟨rfl,hp4,hk4⟩;have HR4:=Lib.hid (And.intro hp4 (And.intro hk4 (HB2.out.1.keep hk4 (by have:=HS.out;omega))));clear hp4 hk4);clear HY;go_upto_region 9 with(go_at_call 112;(with_reducible refine(HFn.out _ HR4.out.1 HR4.out.2.2 (HF2.out.keep HR4.out.2.1 (by omega))).mono ?_);rintro e3 w5 ⟨rfl,hp5,hb5,hk5⟩;have HR5:=Lib.hid (And.intro hp5 (And.intro hk5 ((HB2.out.2.keep HR4.out.2.1 (by have:=HS.out;omega)).keep hk5 (by have:=HS.out;omega))));clear hp5 hk5);clear HFn;go_upto_region 11 with(go_at_call 79;(with_reducible refine(HN3.out _ HR5.out.1).mono ?_);rintro e3 w3 ⟨rfl,rfl⟩);clear HN3;have hr0:=HR5.out.2.2;go_wp2_with(first|((with_reducible refine at_load 34 (.tmp 5) rfl ?_);refine ldN 34 Tryz.underlying34 rfl (.tmp 5) w1.heap.size (selL (f':Nat) (wd':Nat) name) 34 infoX rfl rfl rfl hb5 ?_)|((with_reducible refine at_store 34 (.tmp 4) (.tmp 45) rfl ?_);refine stN 34 (.tmp 4) (.tmp 45) w.heap.size (selL (f':Nat) (wd':Nat) name) (numL 0 0) 34 infoX rfl (selL_ones _ _ _) rfl rfl rfl rfl hr0 ?_;intro w8 hb8 k8 d8));refine bodyPost_ret (results_one rfl rfl infoX Tryz.underlying34 rfl hb8) rfl ?_;have hS:=HS.out;have k2:=Grew.keeps (S:=fun i=>i=g) (HG.out.trans HG2.out);exact⟨rfl,HR5.out.1.keep k8 (fun i hi e=>by omega),Keeps.then_ (Keeps.then_ (Keeps.then_ k2 HR4.out.2.1 fun _ _ e=>e) HR5.out.2.1 fun i hi e=>by omega) k8 fun i hi e=>by omega⟩
 rw[if_neg h2]at hsel;by_cases h3:isT ts 3 ⟨#[64]⟩=true
 ·rw[if_pos h3]at hsel;cases hsel
 rw[if_neg h3]at hsel;simp only[Option.some.injEq,Prod.mk.injEq,selE,Ex.mk.injEq,true_and,and_true]at hsel;obtain⟨⟨hf,hwd⟩,rfl⟩:=hsel;obtain rfl:f=0:=by omega
 obtain rfl:wd=0:=by omega
 have HN2:=Lib.hid (ptry_no w2 g n ts ⟨#[46]⟩ HP2.out (by simpa using h2));have HN3:=Lib.hid (ptry_no w2 g n ts ⟨#[64]⟩ HP2.out (by simpa using h3));clear h1 h2 h3 hf hwd HSel;have hb5:=HB2.out.1;have hr0:=HB2.out.2;go_upto_region 7 with(go_at_call 79;(with_reducible refine HN1.out.mono ?_);rintro e3 w3 ⟨rfl,rfl⟩);go_upto_region 9 with(go_at_call 79;(with_reducible refine HN2.out.mono ?_);rintro e3 w3 ⟨rfl,rfl⟩);go_upto_region 11 with(go_at_call 79;(with_reducible refine HN3.out.mono ?_);rintro e3 w3 ⟨rfl,rfl⟩);have HR:=Lib.hid (And.intro HP2.out (HG.out.trans HG2.out));go_wp2_with(first|((with_reducible refine at_load 34 (.tmp 5) rfl ?_);refine ldN 34 Tryz.underlying34 rfl (.tmp 5) w1.heap.size (selL 0 0 name) 34 infoX rfl rfl rfl hb5 ?_)|((with_reducible refine at_store 34 (.tmp 4) (.tmp 45) rfl ?_);refine stN 34 (.tmp 4) (.tmp 45) w.heap.size (selL 0 0 name) (numL 0 0) 34 infoX rfl (selL_ones _ _ _) rfl rfl rfl rfl hr0 ?_;intro w8 hb8 k8 d8));refine bodyPost_ret (results_one rfl rfl infoX Tryz.underlying34 rfl hb8) rfl ?_;have hS:=HS.out;exact⟨rfl,HR.out.1.keep k8 (fun i hi e=>by omega),Keeps.then_ HR.out.2.keeps k8 fun i hi e=>by omega⟩
theorem Rd.laid (w:World) (t:TypeId) (xs:List Value):Rd (w.alloc (.cells xs.toArray t)) (w.heap.size+1) (.slice (some ⟨w.heap.size,0,none⟩) xs.length xs.length) xs:=by
 refine⟨_,_,rfl,Nat.le_refl _,fun _=>⟨_,rfl,by show w.heap.size<w.heap.size+1;omega,fun j u hu=>?_⟩⟩;have e1:(⟨w.heap.size,0,none⟩:Addr).add j=⟨w.heap.size,j,none⟩:=by unfold Addr.add;split<;>simp_all
 rw[e1,(Box.new w t xs.toArray).cell];simpa using hu
end Go.Proofs.YtcimmbhdcebehaaGreatDoor
namespace Go.Proofs.YtcimmbhdcebehaaGreatDoor.Pl
open Go.RowKit
abbrev Clm:=Int×Int×Int×Int
def zc:Clm:=(0,0,0,0)
def R40 (x:Int):Prop:= -1099511627776≤x∧x≤1099511627776
instance (x:Int):Decidable (R40 x):=by unfold R40;infer_instance
def okC (c:Clm):Prop:=R40 c.1∧R40 c.2.1∧R40 c.2.2.1∧R40 c.2.2.2
instance (c:Clm):Decidable (okC c):=by unfold okC;infer_instance
def n0 (b a c:Clm):Int:=wrap64 (c.1-2*a.1+b.1)
def n1 (a c:Clm):Int:=wrap64 ((c.2.1-c.1)-(a.2.1-a.1))
def n2 (a c:Clm):Int:=wrap64 (c.2.2.1-a.2.2.1)
def n3 (a c:Clm):Int:=wrap64 ((c.2.2.2-c.2.2.1)-(a.2.2.2-a.2.2.1))
def c4 (b a c:Clm):List Int:=[n0 b a c,n1 a c,n2 a c,n3 a c]
def cnums:Clm→Clm→List Clm→List Int
 |_,_,[]=>[]
 |b,a,c::l=>c4 b a c++cnums a c l
def cbits (l:List Clm):List Bool:=code l.length++codes (cnums zc zc l)
def encE (l:List Clm):Int:=if 4096<l.length then 4 else if ∀c∈l,okC c then 0 else 5
def encB (l:List Clm):List Nat:=if encE l=0 then pack (cbits l)else[]
def nextC (b a:Clm) (d:Clm):Clm:=
 (wrap64 (d.1+2*a.1-b.1),
  wrap64 (wrap64 (d.1+2*a.1-b.1)+d.2.1+(a.2.1-a.1)),
  wrap64 (d.2.2.1+a.2.2.1),
  wrap64 (wrap64 (d.2.2.1+a.2.2.1)+d.2.2.2+(a.2.2.2-a.2.2.1)))
def parse4 (s:List Bool):Option (Clm×List Bool):=
 match parse s with
 |none=>none
 |some (d0,s0)=>
  match parse s0 with
  |none=>none
  |some (d1,s1)=>
   match parse s1 with
   |none=>none
   |some (d2,s2)=>
    match parse s2 with
    |none=>none
    |some (d3,s3)=>some ((d0,d1,d2,d3),s3)
def l4 (d:Clm):List Int:=[d.1,d.2.1,d.2.2.1,d.2.2.2]
def creads:Nat→Clm→Clm→List Bool→Option (List Clm×List Bool)
 |0,_,_,s=>some ([],s)
 |k+1,b,a,s=>
  match parse4 s with
  |none=>none
  |some (d,t)=>(creads k a (nextC b a d) t).map fun p=>(nextC b a d::p.1,p.2)
def dreads:Nat→Clm→Clm→List Bool→Option (List Clm×List Bool)
 |0,_,_,s=>some ([],s)
 |k+1,b,a,s=>
  match parse4 s with
  |none=>none
  |some (d,t)=>if okC (nextC b a d)then(dreads k a (nextC b a d) t).map fun p=>(nextC b a d::p.1,p.2)else none
end Go.Proofs.YtcimmbhdcebehaaGreatDoor.Pl
namespace Go.Proofs.YtcimmbhdcebehaaGreatDoor
open Go.RowKit Pl
def cells4 (c:Clm):List Value:=[.int .i64 c.1,.int .i64 c.2.1,.int .i64 c.2.2.1,.int .i64 c.2.2.2]
def flat (cs:List Clm):List Value:=cs.flatMap cells4
theorem flat_append (cs ds:List Clm):flat (cs++ds)=flat cs++flat ds:=by unfold flat;rw[List.flatMap_append]
theorem flat_at {cs:List Clm} {j k:Nat} (hj:j<cs.length) (hk:k<4):(flat cs)[j*4+k]? =(cells4 (cs.getD j zc))[k]? :=by
 induction cs generalizing j with
 |nil=>simp at hj
 |cons c cs ih=>
  unfold flat at*;rw[List.flatMap_cons];cases j with
  |zero=>
   rw[List.getElem?_append_left (by simp[cells4];omega)];simp
  |succ j=>
   rw[List.getElem?_append_right (by simp[cells4];omega)];have:(j+1)*4+k-(cells4 c).length=j*4+k:=by simp[cells4];omega
   rw[this,ih (by simpa using hj)];simp
def RdC (w:World) (B:Nat) (v:Value) (cs:List Clm):Prop:=
 ∃A c,v= .slice A cs.length c∧cs.length≤c∧(0<cs.length→∃b o,A=some ⟨b,o,none⟩∧b<B∧∀j u,(flat cs)[j]? =some u→w.cell? ⟨b,o+j,none⟩=some u)
section
variable {w w':World} {B B':Nat} {v:Value} {cs:List Clm} {S:Nat→Prop}
theorem RdC.keep (h:RdC w B v cs) (hB:B≤w.heap.size) (hk:Keeps S w w') (hs:∀i,i<B→¬S i):RdC w' B v cs:=by
 obtain⟨A,c,hv,hc,hx⟩:=h;refine⟨A,c,hv,hc,fun hn=>?_⟩;obtain⟨b,o,e,hb,hcell⟩:=hx hn;exact⟨b,o,e,hb,fun j u hu=>(World.cell?_of_block (a:=⟨b,o+j,none⟩) (hk.block b (by omega) (hs _ hb))).trans (hcell j u hu)⟩
theorem RdC.grew (h:RdC w B v cs) (hB:B≤w.heap.size) (hk:Grew w w'):RdC w' B v cs:=h.keep hB hk fun _ _ e=>e
theorem RdC.more (h:RdC w B v cs) (hB:B≤B'):RdC w B' v cs:=by
 obtain⟨A,c,hv,hc,hx⟩:=h;refine⟨A,c,hv,hc,fun hn=>?_⟩;obtain⟨b,o,e,hb,hcell⟩:=hx hn;exact⟨b,o,e,by omega,hcell⟩
theorem RdC.form (h:RdC w B v cs):∃A n c,v= .slice A n c∧n=cs.length∧n≤c:=by
 obtain⟨A,c,rfl,hc,_⟩:=h;exact⟨A,_,c,rfl,rfl,hc⟩
theorem RdC.nil (w:World) (B:Nat):RdC w B (.slice none 0 0) []:=⟨none,0,rfl,Nat.le_refl _,fun h=>absurd h (by simp)⟩
theorem RdC.at_ {A:Option Addr} {n c j:Nat} (h:RdC w B (.slice A n c) cs) (hj:j<cs.length):
  ∃b o,A=some ⟨b,o,none⟩∧b<B∧∀k u,(cells4 (cs.getD j zc))[k]? =some u→w.cell? ⟨b,o+(j*4+k),none⟩=some u:=by
 obtain⟨A',c',hv,_,hx⟩:=h;injection hv with hA;subst hA;obtain⟨b,o,rfl,hb,hc⟩:=hx (by omega);refine⟨b,o,rfl,hb,fun k u hu=>?_⟩;have hk:k<4:=by simpa[cells4]using(List.getElem?_eq_some_iff.1 hu).1
 exact hc _ u (by rw[flat_at hj hk];exact hu)
end
def q1 (cs:List Clm) (j:Nat):Clm:=(zc::cs).getD j zc
def q2 (cs:List Clm) (j:Nat):Clm:=(zc::zc::cs).getD j zc
theorem wn2 (a c:Clm):wrap64 (c.2.2.1-a.2.2.1)=n2 a c:=rfl
section
variable {ops:Array Oper} {rest:List Oper} {o:Oper} {a:Act} {w:World} {Q:Exit→Act→World→Prop}
end
def EncPost (cs:List Clm) (w:World) (e:Ending) (w':World):Prop:=
 Grew w w'∧((encE cs=0∧∃v,e= .returned (.tuple #[v,.int .i64 0])∧Mine w' w.heap.size 5 v ((pack (cbits cs)).map vb))∨
  (encE cs≠0∧e= .returned (.tuple #[.slice none 0 0,.int .i64 (encE cs)])))
section
variable {w w':World} {base:Nat} {v:Value} {cs:List Clm} {S:Nat→Prop}
end
def Off (v:Value) (g:Nat):Prop:=∀k,v.ownBlock=some k→k≠g
theorem Off.nil (g:Nat):Off (.slice none 0 0) g:=fun k h=>by cases h
theorem add_none (b o j:Nat):(⟨b,o,none⟩:Addr).add j=⟨b,o+j,none⟩:=by unfold Addr.add;split<;>simp_all
section
variable {w:World} {base:Nat} {v:Value} {cs:List Clm}
end
def readK:Nat→List Bool→Option (List Int×List Bool)
 |0,s=>some ([],s)
 |k+1,s=>
  match parse s with
  |none=>none
  |some (d,t)=>(readK k t).map fun p=>(d::p.1,p.2)
theorem parse4_readK (s:List Bool):parse4 s=(readK 4 s).map fun p=>((p.1.getD 0 0,p.1.getD 1 0,p.1.getD 2 0,p.1.getD 3 0),p.2):=by
 unfold parse4;simp only[readK];cases parse s with
 |none=>rfl
 |some p=>
  obtain⟨d0,s0⟩:=p;simp only;cases parse s0 with
  |none=>rfl
  |some p=>
   obtain⟨d1,s1⟩:=p;simp only;cases parse s1 with
   |none=>rfl
   |some p=>
    obtain⟨d2,s2⟩:=p;simp only;cases parse s2 with
    |none=>rfl
    |some p=>rfl
def P4 (s0:List Bool) (j:Nat) (c:Clm) (s:List Bool):Prop:=j≤4∧readK 4 s0=(readK (4-j) s).map fun p=>((l4 c).take j++p.1,p.2)
def setC (c:Clm) (j:Nat) (d:Int):Clm:=
 match j with
 |0=>(d,c.2.1,c.2.2.1,c.2.2.2)
 |1=>(c.1,d,c.2.2.1,c.2.2.2)
 |2=>(c.1,c.2.1,d,c.2.2.2)
 |_=>(c.1,c.2.1,c.2.2.1,d)
theorem P4.start (s:List Bool) (c:Clm):P4 s 0 c s:=⟨by omega,by cases readK 4 s<;>simp⟩
theorem P4.step {s0 s t:List Bool} {j:Nat} {c:Clm} {d:Int} (h:P4 s0 j c s) (hj:j<4) (hp:parse s=some (d,t)):P4 s0 (j+1) (setC c j d) t:=by
 refine⟨by omega,?_⟩;rw[h.2];obtain⟨m,hm⟩:∃m,4-j=m+1:=⟨4-j-1,by omega⟩;rw[hm,show 4-(j+1)=m by omega];simp only[readK,hp];have hl:(l4 (setC c j d)).take (j+1)=(l4 c).take j++[d]:=by
  have:j=0∨j=1∨j=2∨j=3:=by omega
  rcases this with rfl|rfl|rfl|rfl<;>rfl
 rw[hl];cases readK m t<;>simp
theorem P4.fail {s0 s:List Bool} {j:Nat} {c:Clm} (h:P4 s0 j c s) (hj:j<4) (hp:parse s=none):parse4 s0=none:=by
 rw[parse4_readK,h.2];obtain⟨m,hm⟩:∃m,4-j=m+1:=⟨4-j-1,by omega⟩;rw[hm];simp only[readK,hp];rfl
theorem P4.done {s0 s:List Bool} {c:Clm} (h:P4 s0 4 c s):parse4 s0=some (c,s):=by
 rw[parse4_readK,h.2];simp[readK,l4]
def RestC (N:Nat) (t0:List Bool) (j:Nat) (be la:Clm) (s:List Bool) (acc:List Clm):Prop:=
 j≤N∧dreads N zc zc t0=(dreads (N-j) be la s).map fun p=>(acc++p.1,p.2)
theorem RestC.start (N:Nat) (t0:List Bool):RestC N t0 0 zc zc t0 []:=⟨by omega,by cases dreads N zc zc t0<;>simp⟩
theorem RestC.step {N j:Nat} {t0 s t:List Bool} {be la d:Clm} {acc:List Clm} (h:RestC N t0 j be la s acc) (hj:j<N) (hp:parse4 s=some (d,t)) (ho:okC (nextC be la d)):RestC N t0 (j+1) la (nextC be la d) t (acc++[nextC be la d]):=by
 refine⟨by omega,?_⟩;rw[h.2];obtain⟨m,hm⟩:∃m,N-j=m+1:=⟨N-j-1,by omega⟩;rw[hm,show N-(j+1)=m by omega];simp only[dreads,hp,if_pos ho];cases dreads m la (nextC be la d) t<;>simp
theorem RestC.fail {N j:Nat} {t0 s:List Bool} {be la:Clm} {acc:List Clm} (h:RestC N t0 j be la s acc) (hj:j<N) (hp:parse4 s=none):dreads N zc zc t0=none:=by
 rw[h.2];obtain⟨m,hm⟩:∃m,N-j=m+1:=⟨N-j-1,by omega⟩;rw[hm];simp only[dreads,hp];rfl
theorem RestC.out {N j:Nat} {t0 s t:List Bool} {be la d:Clm} {acc:List Clm} (h:RestC N t0 j be la s acc) (hj:j<N) (hp:parse4 s=some (d,t)) (ho:¬okC (nextC be la d)):dreads N zc zc t0=none:=by
 rw[h.2];obtain⟨m,hm⟩:∃m,N-j=m+1:=⟨N-j-1,by omega⟩;rw[hm];simp only[dreads,hp,if_neg ho];rfl
theorem RestC.done {N:Nat} {t0 s:List Bool} {be la:Clm} {acc:List Clm} (h:RestC N t0 N be la s acc):dreads N zc zc t0=some (acc,s):=by
 rw[h.2,Nat.sub_self];simp[dreads]
def RestR (N:Nat) (t0:List Bool) (j:Nat) (be la:Clm) (s:List Bool) (acc:List Clm):Prop:=
 j≤N∧creads N zc zc t0=(creads (N-j) be la s).map fun p=>(acc++p.1,p.2)
theorem RestR.start (N:Nat) (t0:List Bool):RestR N t0 0 zc zc t0 []:=⟨by omega,by cases creads N zc zc t0<;>simp⟩
theorem RestR.step {N j:Nat} {t0 s t:List Bool} {be la d:Clm} {acc:List Clm} (h:RestR N t0 j be la s acc) (hj:j<N) (hp:parse4 s=some (d,t)):RestR N t0 (j+1) la (nextC be la d) t (acc++[nextC be la d]):=by
 refine⟨by omega,?_⟩;rw[h.2];obtain⟨m,hm⟩:∃m,N-j=m+1:=⟨N-j-1,by omega⟩;rw[hm,show N-(j+1)=m by omega];simp only[creads,hp];cases creads m la (nextC be la d) t<;>simp
theorem RestR.fail {N j:Nat} {t0 s:List Bool} {be la:Clm} {acc:List Clm} (h:RestR N t0 j be la s acc) (hj:j<N) (hp:parse4 s=none):creads N zc zc t0=none:=by
 rw[h.2];obtain⟨m,hm⟩:∃m,N-j=m+1:=⟨N-j-1,by omega⟩;rw[hm];simp only[creads,hp];rfl
theorem RestR.done {N:Nat} {t0 s:List Bool} {be la:Clm} {acc:List Clm} (h:RestR N t0 N be la s acc):creads N zc zc t0=some (acc,s):=by
 rw[h.2,Nat.sub_self];simp[creads]
theorem cells11_ones (e:Ex) (A1 A2 A3:Option Addr) (n1 n2 n3 c1 c2 c3:Nat):∀v∈cells11 e (.slice A1 n1 c1) (.slice A2 n2 c2) (.slice A3 n3 c3),v.oneCell'=true:=by
 intro v hv;simp[cells11]at hv;rcases hv with rfl|rfl|rfl|rfl|rfl|rfl|rfl|rfl|rfl|rfl|rfl<;>rfl
def TreePost (w:World) (B0:Nat) (e:Ex) (e':Ending) (w':World):Prop:=∃cs,e'= .returned (.agg cs.toArray)∧RdEQ w' (Two B0 w.heap.size w'.heap.size) e cs∧Grew w w'
def FoldOk (e:Ex):Prop:=Num64 e∧Pair3 e
def RdG (w:World) (B:Nat) (v:Value) (cs:List Clm):Prop:=
 ∃A c,v= .slice A cs.length c∧cs.length≤c∧(0<cs.length→∃ad,A=some ad∧ad.block<B∧∀j u,(flat cs)[j]? =some u→w.cell? (ad.add j)=some u)
section
variable {w w':World} {B B':Nat} {v:Value} {cs:List Clm} {S:Nat→Prop}
theorem RdG.keep (h:RdG w B v cs) (hB:B≤w.heap.size) (hk:Keeps S w w') (hs:∀i,i<B→¬S i):RdG w' B v cs:=by
 obtain⟨A,c,hv,hc,hx⟩:=h;refine⟨A,c,hv,hc,fun hn=>?_⟩;obtain⟨ad,e,hb,hcell⟩:=hx hn;refine⟨ad,e,hb,fun j u hu=>(World.cell?_of_block ?_).trans (hcell j u hu)⟩;rw[block_add];exact hk.block _ (by omega) (hs _ hb)
theorem RdG.grew (h:RdG w B v cs) (hB:B≤w.heap.size) (hk:Grew w w'):RdG w' B v cs:=h.keep hB hk fun _ _ e=>e
theorem RdG.more (h:RdG w B v cs) (hB:B≤B'):RdG w B' v cs:=by
 obtain⟨A,c,hv,hc,hx⟩:=h;refine⟨A,c,hv,hc,fun hn=>?_⟩;obtain⟨ad,e,hb,hcell⟩:=hx hn;exact⟨ad,e,by omega,hcell⟩
theorem RdG.form (h:RdG w B v cs):∃A n c,v= .slice A n c∧n=cs.length∧n≤c:=by
 obtain⟨A,c,rfl,hc,_⟩:=h;exact⟨A,_,c,rfl,rfl,hc⟩
theorem flat_take (cs:List Clm) (m j:Nat) (u:Value) (h:(flat (cs.take m))[j]? =some u):(flat cs)[j]? =some u:=by
 have e:flat cs=flat (cs.take m)++flat (cs.drop m):=by rw[←flat_append,List.take_append_drop]
 have hj:j<(flat (cs.take m)).length:=(List.getElem?_eq_some_iff.1 h).1;rw[e,List.getElem?_append_left hj];exact h
theorem RdG.take {A:Option Addr} {n c:Nat} (h:RdG w B (.slice A n c) cs) {m:Nat} (hm:m≤cs.length):RdG w B (.slice A m c) (cs.take m):=by
 obtain⟨A',c',hv,hc,hx⟩:=h;injection hv with hA _ hcc;subst hA hcc;have hl:(cs.take m).length=m:=by rw[List.length_take];omega
 refine⟨A,c,by rw[hl],by omega,fun h0=>?_⟩;obtain⟨ad,rfl,hb,hcell⟩:=hx (by omega);exact⟨ad,rfl,hb,fun j u hu=>hcell j u (flat_take cs m j u hu)⟩
end
section
variable {w:World} {base:Nat} {v:Value} {cs:List Clm}
end
theorem encB_ok {cs:List Clm} (h:encE cs=0):encB cs=pack (cbits cs):=by unfold encB;rw[if_pos h]
theorem encB_no {cs:List Clm} (h:encE cs≠0):encB cs=[]:=by unfold encB;rw[if_neg h]
def EncAll (cs:List Clm) (w:World) (e:Ending) (w':World):Prop:=
 ∃v,e= .returned (.tuple #[v,.int .i64 (encE cs)])∧Mine w' w.heap.size 5 v ((encB cs).map vb)∧Grew w w'
theorem EncPost.all {cs:List Clm} {w w':World} {e:Ending} (h:EncPost cs w e w'):EncAll cs w e w':=by
 obtain⟨hg,⟨h0,v,rfl,hm⟩|⟨h0,rfl⟩⟩:=h
 ·exact⟨v,by rw[h0],by rw[encB_ok h0];exact hm,hg⟩
 exact⟨_,rfl,by rw[encB_no h0];exact Mine.nil _ _ _,hg⟩
def pLo (k:Nat):Int:=if k=1∨k=3 then 1 else 0
def pHi (k:Nat):Int:=if k=0 then 0 else if k=1∨k=2 then 1073741824 else if k=3 then 4096 else 1048576
def okB (x:Clm):Prop:=0≤x.1∧x.1<4096∧0≤x.2.1∧x.2.1≤4∧pLo x.2.1.toNat≤x.2.2.1∧x.2.2.1≤pHi x.2.1.toNat∧0≤x.2.2.2∧x.2.2.2≤4398046511104∧(x.2.1≠0∨x.2.2.2=0)
instance (x:Clm):Decidable (okB x):=by unfold okB;infer_instance
end Go.Proofs.YtcimmbhdcebehaaGreatDoor
namespace Go.Proofs.YtcimmbhdcebehaaGreatDoor.Pl
open Go.RowKit
end Go.Proofs.YtcimmbhdcebehaaGreatDoor.Pl
namespace Go.Proofs.YtcimmbhdcebehaaGreatDoor
open Go.RowKit Pl
end Go.Proofs.YtcimmbhdcebehaaGreatDoor
namespace Go.Proofs.YtcimmbhdcebehaaGreatDoor
open Go.RowKit Go.Shelf Pl
attribute [local go_sem] Oper.semAt_some
def KpB (B0 Bn:Nat) (W W':World):Prop:=∀k,(k<B0∨k=Bn)→W'.heap[k]? =W.heap[k]?
theorem KpB.trans {B0 Bn:Nat} {A B C:World} (h:KpB B0 Bn A B) (k:KpB B0 Bn B C):KpB B0 Bn A C:=fun i hi=>(k i hi).trans (h i hi)
theorem KpB.cell {B0 Bn:Nat} {W W':World} (h:KpB B0 Bn W W') {o:Nat}:W'.cell? ⟨Bn,o,none⟩=W.cell? ⟨Bn,o,none⟩:=World.cell?_of_block (h Bn (.inr rfl))
theorem KpB.rd {B0 Bn:Nat} {W W':World} (h:KpB B0 Bn W W') {v:Value} {xs:List Value} (hr:Rd W B0 v xs):Rd W' B0 v xs:=by
 obtain⟨A,c,hv,hc,hx⟩:=hr;refine⟨A,c,hv,hc,fun hn=>?_⟩;obtain⟨ad,e,hb,hcell⟩:=hx hn;refine⟨ad,e,hb,fun j u hu=>(World.cell?_of_block ?_).trans (hcell j u hu)⟩;rw[block_add];exact h _ (.inl hb)
attribute [local go_sem] Oper.semAt_some
attribute [local go_sem] Oper.semAt_some
end Go.Proofs.YtcimmbhdcebehaaGreatDoor
