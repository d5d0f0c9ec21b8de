/- What the card of the law stands on: ParA, ParB, OrdS, RFold. -/
import Derived.Test.YtcimmbhdcebehaaGreatDoorRewriteNumbersP01
import Derived.Test.YtcimmbhdcebehaaGreatDoorRewriteNumbersP05
import Derived.Test.YtcimmbhdcebehaaGreatDoorRewriteNumbersP04
import Derived.Test.YtcimmbhdcebehaaGreatDoorRewriteNumbersP03
set_option maxRecDepth 100000
set_option maxHeartbeats 12800000
set_option linter.unusedVariables false
set_option linter.unusedSimpArgs false
namespace Go.Proofs.YtcimmbhdcebehaaGreatDoor
open Go.RowKit Pl
section
variable {P:Program} {t e:TypeId} {sz bytes:Nat} {z:Value} {w:World} {B:Nat} {rows:List (List Value)} {ops:Array Oper} {rest:List Oper} {o:Oper} {a:Act} {Q:Exit→Act→World→Prop}
theorem run_fromS (T:SlR P t e sz bytes z) {A:Option Addr} {n c k:Nat} (hk:k≤n):
  (Instr.sliceAt t (.slice A n c) (some (.int .i64 (k:Nat))) none none).run P w= .ok (.slice (if c=k then A else A.map (·.add (k*sz))) (n-k) (c-k)) w:=by
 obtain⟨i,hi,hz,hs,hby⟩:=info_parts T.info;simp[Instr.sliceAt,Instr.slice,run_underlying T.under,Instr.sliceBounds,Instr.sliceBound,asIntOf,sizeOf,typeInfo,hi,hs];omega
theorem RdR.cutS {A:Option Addr} {n c:Nat} (h:RdR w B sz (.slice A n c) rows) {k:Nat} (hk:k≤n):RdR w B sz (.slice (if c=k then A else A.map (·.add (k*sz))) (n-k) (c-k)) (rows.drop k):=by
 obtain⟨A0,c',hv,hc,hx⟩:=h;injection hv with e1 e2 e3;subst e1 e2 e3;refine⟨_,c-k,by rw[List.length_drop],by rw[List.length_drop];omega,fun h0=>?_⟩;rw[List.length_drop]at h0;obtain⟨b,o,rfl,hb,hcell⟩:=hx (by omega);rw[if_neg (by omega)];refine⟨b,o+k*sz,?_,hb,fun j cs hj=>?_⟩
 ·rw[Option.map_some];unfold Addr.add;split<;>simp_all
 rw[List.getElem?_drop]at hj;have:=hcell (k+j) cs hj;rwa[show o+(k+j)*sz=o+k*sz+j*sz by rw[Nat.add_mul];omega]at this
theorem sl_fromS (T:SlR P t e sz bytes z) (hgd:o.guard=none) (x y:Operand) (ho:o.op= .slice t x (some y) none none) {A:Option Addr} {n c:Nat} (hx:a.eval x= .slice A n c) {k:Nat} (hy:a.eval y= .int .i64 (k:Nat)) (hk:k≤n)
  (hr:RdR w B sz (.slice A n c) rows)
  (h:∀A' m c',m=n-k→RdR w B sz (.slice A' m c') (rows.drop k)→wpList P ops Q rest (a.put o.dst (.slice A' m c')) w):wpList P ops Q (o::rest) a w:=by
 refine wpList_plain hgd fun K hK=>?_
 unfold Oper.wp execOp;simp only[ho,hx,hy,Option.map_some,Option.map_none];have:=run_fromS (w:=w) T (A:=A) (c:=c) hk;simp only[this,Sem.run_bind,Sem.run_pure,Result.andThen_ok];exact hK _ _ (h _ _ _ rfl (hr.cutS hk))
theorem at_slice (T:TypeId) (x:Operand) (y:Option Operand) (_:o.op= .slice T x y none none) (h:wpList P ops Q (o::rest) a w):wpList P ops Q (o::rest) a w:=h
end
def zeroT:Value:= .agg #[.int .i64 0,.string ⟨#[]⟩,.int .i64 0,.int .i64 0]
theorem slK:SlR Tryz.prog 52 95 4 40 zeroT:=⟨Tryz.underlying52,by kernel_rfl,rfl,by decide,by decide⟩
def PSt (w:World) (g:Nat) (n:Int) (ts:List Tok):Prop:=∃A k c,Box w g 60 #[.slice A k c,.int .i64 n]∧RdR w g 4 (.slice A k c) (ts.map Tok.cells)∧k=ts.length
theorem PSt.keep {S:Nat→Prop} {w w':World} {g:Nat} {n:Int} {ts:List Tok} (h:PSt w g n ts) (k:Keeps S w w') (hs:∀i,i≤g→¬S i):PSt w' g n ts:=by
 obtain⟨A,m,c,hb,hr,hl⟩:=h;exact⟨A,m,c,hb.keep k (hs g (Nat.le_refl _)),hr.keep (Nat.le_of_lt hb.lt) (Nat.le_refl _) k (fun i hi=>hs i (by omega)),hl⟩
theorem PSt.grew {w w':World} {g:Nat} {n:Int} {ts:List Tok} (h:PSt w g n ts) (k:Grew w w'):PSt w' g n ts:=h.keep k fun _ _ h=>h
theorem PSt.lt {w:World} {g:Nat} {n:Int} {ts:List Tok} (h:PSt w g n ts):g<w.heap.size:=by
 obtain⟨A,m,c,hb, -⟩:=h;exact hb.lt
theorem tok_at {w:World} {g k c:Nat} {A:Option Addr} {t:Tok} {ts:List Tok} (hr:RdR w g 4 (.slice A k c) ((t::ts).map Tok.cells)):
  ∃b o,A=some ⟨b,o,none⟩∧b<g∧w.rangeAt b o t.cells∧w.cell? ⟨b,o,none⟩=some (.int .i64 (t.kind:Nat))∧w.cell? ⟨b,o+1,none⟩=some (.string t.text)∧w.cell? ⟨b,o+2,none⟩=some (.int .i64 (t.num:Nat)):=by
 obtain⟨A0,c',hv,hc,hx⟩:=hr;injection hv with e1 e2 e3;subst e1;obtain⟨b,o,rfl,hb,hcell⟩:=hx (by simp);have h:=hcell 0 t.cells (by simp);rw[Nat.zero_mul,Nat.add_zero]at h;exact⟨b,o,rfl,hb,h,h 0 _ rfl,h 1 _ rfl,h 2 _ rfl⟩
theorem pis_any (w:World) (g:Nat) (n:Int) (ts:List Tok) (k:Nat) (s:ByteArray) (h:PSt w g n ts):
  Calls Tryz.prog 78 #[.pointer (some ⟨g,0,none⟩),.int .i64 (k:Nat),.string s] w fun e w'=>e= .returned (.bool (isT ts k s))∧w'=w:=by
 obtain⟨A,m,c,hb,hr,rfl⟩:=h;rcases ts with _|⟨t,us⟩
 ·have c0:w.cell? ⟨g,0,none⟩=some (.slice A 0 c):=hb.cell 0;clear hb hr;go_enter Tryz.func78,Tryz.ntmps78;go_wp2_with fail;go_ret;exact⟨rfl,rfl⟩
 obtain⟨b,o,rfl, -, -,k0,k1, -⟩:=tok_at hr;have c0:w.cell? ⟨g,0,none⟩=some (.slice (some ⟨b,o,none⟩) (t::us).length c):=hb.cell 0;rw[List.length_cons]at c0;obtain⟨m,hm⟩:∃m,us.length=m:=⟨_,rfl⟩;rw[hm]at c0;have tl:decide (((m+1:Nat):Int)>0)=true:=by rw[decide_eq_true_iff];omega
 have tl2:decide ((m:Int)+1>0)=true:=by rw[decide_eq_true_iff];omega
 have HF:=Lib.hid (show isT (t::us) k s=(decide (t.kind=k)&&(t.text.toList==s.toList))from rfl);clear hb hr hm;obtain⟨tk,tt,tn,tf⟩:=t;have k0:w.cell? ⟨b,o,none⟩=some (.int .i64 (tk:Nat)):=k0;have k1:w.cell? ⟨b,o+1,none⟩=some (.string tt):=k1;have HF:=Lib.hid (show isT (⟨tk,tt,tn,tf⟩::us) k s=(decide (tk=k)&&(tt.toList==s.toList))from rfl);by_cases h1:tk=k
 ·have t1:((tk:Int)==(k:Int))=true:=by rw[beq_iff_eq];omega
  rcases h2:(tt.toList==s.toList)
  ·have HF:=Lib.hid (show isT (⟨tk,tt,tn,tf⟩::us) k s=false by rw[HF.out,h2];simp);clear h1;go_enter Tryz.func78,Tryz.ntmps78;go_wp2_with fail;go_ret;exact⟨by rw[HF.out];rfl,rfl⟩
  have HF:=Lib.hid (show isT (⟨tk,tt,tn,tf⟩::us) k s=true by rw[HF.out,h2,h1];simp);clear h1;go_enter Tryz.func78,Tryz.ntmps78;go_wp2_with fail;go_ret;exact⟨by rw[HF.out];rfl,rfl⟩
 have t1:((tk:Int)==(k:Int))=false:=by rw[beq_eq_false_iff_ne];omega
 have HF:=Lib.hid (show isT (⟨tk,tt,tn,tf⟩::us) k s=false by rw[HF.out];simp[h1]);clear h1;go_enter Tryz.func78,Tryz.ntmps78;go_wp2_with fail;go_ret;exact⟨by rw[HF.out];rfl,rfl⟩
theorem pkind_any (w:World) (g:Nat) (n:Int) (ts:List Tok) (k:Nat) (h:PSt w g n ts):
  Calls Tryz.prog 99 #[.pointer (some ⟨g,0,none⟩),.int .i64 (k:Nat)] w fun e w'=>e= .returned (.bool (kindT ts k))∧w'=w:=by
 obtain⟨A,m,c,hb,hr,rfl⟩:=h;rcases ts with _|⟨t,us⟩
 ·have c0:w.cell? ⟨g,0,none⟩=some (.slice A 0 c):=hb.cell 0;clear hb hr;go_enter Tryz.func99,Tryz.ntmps99;go_wp2_with fail;go_ret;exact⟨rfl,rfl⟩
 obtain⟨b,o,rfl, -, -,k0, -, -⟩:=tok_at hr;have c0:w.cell? ⟨g,0,none⟩=some (.slice (some ⟨b,o,none⟩) (t::us).length c):=hb.cell 0;rw[List.length_cons]at c0;obtain⟨m,hm⟩:∃m,us.length=m:=⟨_,rfl⟩;rw[hm]at c0;have tl:decide (((m+1:Nat):Int)>0)=true:=by rw[decide_eq_true_iff];omega
 have tl2:decide ((m:Int)+1>0)=true:=by rw[decide_eq_true_iff];omega
 clear hb hr hm;obtain⟨tk,tt,tn,tf⟩:=t;have k0:w.cell? ⟨b,o,none⟩=some (.int .i64 (tk:Nat)):=k0;by_cases h1:tk=k
 ·have t1:((tk:Int)==(k:Int))=true:=by rw[beq_iff_eq];omega
  have HF:=Lib.hid (show kindT (⟨tk,tt,tn,tf⟩::us) k=true from by rw[show kindT (⟨tk,tt,tn,tf⟩::us) k=decide (tk=k)from rfl,h1];simp);clear h1;go_enter Tryz.func99,Tryz.ntmps99;go_wp2_with fail;go_ret;exact⟨by rw[HF.out];rfl,rfl⟩
 have t1:((tk:Int)==(k:Int))=false:=by rw[beq_eq_false_iff_ne];omega
 have HF:=Lib.hid (show kindT (⟨tk,tt,tn,tf⟩::us) k=false from by rw[show kindT (⟨tk,tt,tn,tf⟩::us) k=decide (tk=k)from rfl];simp[h1]);clear h1;go_enter Tryz.func99,Tryz.ntmps99;go_wp2_with fail;go_ret;exact⟨by rw[HF.out];rfl,rfl⟩
abbrev PKeeps (g:Nat) (w w':World):Prop:=Keeps (fun i=>i=g) w w'
theorem ptake_any (w:World) (g:Nat) (n:Int) (t:Tok) (ts:List Tok) (h:PSt w g n (t::ts)):
  Calls Tryz.prog 98 #[.pointer (some ⟨g,0,none⟩)] w fun e w'=>e= .returned (.agg t.cells.toArray)∧PSt w' g n ts∧PKeeps g w w':=by
 have hg:=h.lt;have hb0:=Box.new w 95 [.int .i64 0,.string ⟨#[]⟩,.int .i64 0,.int .i64 0].toArray;have hg0:=(Grew.refl w).alloc (.cells [.int .i64 0,.string ⟨#[]⟩,.int .i64 0,.int .i64 0].toArray 95);have hs0:(w.alloc (.cells [.int .i64 0,.string ⟨#[]⟩,.int .i64 0,.int .i64 0].toArray 95)).heap.size=w.heap.size+1:=by simp
 have HP:=Lib.hid (h.grew hg0);clear h;go_enter Tryz.func98,Tryz.ntmps98;go_upto_region 1 with fail;change Code.wp _ _ _ _ (w.alloc (.cells [.int .i64 0,.string ⟨#[]⟩,.int .i64 0,.int .i64 0].toArray 95));generalize w.alloc (.cells [.int .i64 0,.string ⟨#[]⟩,.int .i64 0,.int .i64 0].toArray 95)=w1 at*;have HS:=Lib.hid (And.intro hs0 hg);have HG:=Lib.hid hg0;clear hs0 hg0 hg;obtain⟨A,m,c,hb,hr,rfl⟩:=HP.out;obtain⟨b,o,rfl,hbg,hrg, -⟩:=tok_at hr;rw[List.length_cons]at hb hr;obtain⟨m,hm⟩:∃m,ts.length=m:=⟨_,rfl⟩;rw[hm]at hb hr;have c0:w1.cell? ⟨g,0,none⟩=some (.slice (some ⟨b,o,none⟩) (m+1) c):=hb.cell 0;have HR:=Lib.hid (And.intro hr hm);have HRG:=Lib.hid hrg;have HB:=Lib.hid hb;have HB0:=Lib.hid hb0;clear hr hm hb hb0 hrg;go_upto_region 2 with(first|((with_reducible refine at_load 95 (.tmp 8) rfl ?_);refine wpList_load_mid rfl 95 (.tmp 8) rfl b o rfl t.cells _ HRG.out Tryz.underlying95 rfl infoK ?_)|((with_reducible refine at_store 95 (.tmp 3) (.tmp 9) rfl ?_);refine stN 95 (.tmp 3) (.tmp 9) w1.heap.size t.cells [.int .i64 0,.string ⟨#[]⟩,.int .i64 0,.int .i64 0] 95 infoK rfl (tok_ones _ _ _ _) rfl rfl rfl rfl (Box.new w1 95 _) ?_;intro w2 hb2 k2 d2;have HG2:=Lib.hid (show Grew w1 w2 from Keeps.then_ ((Grew.refl w1).alloc _) k2 (fun i hi e=>by omega));clear k2 d2));have hb3:=HB.out.grew HG2.out;have c0':w2.cell? ⟨g,0,none⟩=some (.slice (some ⟨b,o,none⟩) (m+1) c):=hb3.cell 0;have f0:=hb3.frozen 0;have hr2:RdR w2 g 4 (.slice (some ⟨b,o,none⟩) (m+1) c) ((t::ts).map Tok.cells):=HR.out.1.keep (Nat.le_of_lt HB.out.lt) (Nat.le_refl _) HG2.out (fun _ _ h=>h);have HR2:=Lib.hid hr2;have HB2:=Lib.hid hb2;have HB3:=Lib.hid hb3;clear c0 hr2 hb3;go_upto_region 3 with(first|((with_reducible refine at_slice 52 (.tmp 14) _ rfl ?_);refine sl_fromS slK rfl (.tmp 14) (.const (.int .i64 1)) rfl rfl (k:=1) rfl (by omega) HR2.out ?_;intro A7 m7 c7 hm7 r7;have HR7:=Lib.hid r7;have HM7:=Lib.hid (show m7=ts.length from by rw[HR.out.2];omega);clear r7 hm7));have hb4:=HB3.out.set_ 0 (.slice A7 m7 c7);have k4:Keeps (fun i=>i=g) w2 (w2.setCell ⟨g,0,none⟩ (.slice A7 m7 c7)):=Keeps.setCell (S:=fun i=>i=g) (p:=⟨g,0,none⟩) (Keeps.refl _ w2) (.inl rfl) _;have hz:=HB2.out.far (p:=⟨g,0,none⟩) (by have:=HS.out;show w1.heap.size≠g;omega) (.slice A7 m7 c7);have hr4:RdR (w2.setCell ⟨g,0,none⟩ (.slice A7 m7 c7)) g 4 (.slice A7 m7 c7) (ts.map Tok.cells):=by
  have h7:=HR7.out;rw[List.map_cons,List.drop_succ_cons,List.drop_zero]at h7;exact h7.keep (Nat.le_of_lt HB3.out.lt) (Nat.le_refl _) k4 (fun i hi e=>by omega)
 have hr0:=(HB0.out.grew HG2.out).far (p:=⟨g,0,none⟩) (by have:=HS.out;show w.heap.size≠g;omega) (.slice A7 m7 c7);have HP4:=Lib.hid (show PSt (w2.setCell ⟨g,0,none⟩ (.slice A7 m7 c7)) g n ts from⟨A7,m7,c7,hb4,hr4,HM7.out⟩);have HK4:=Lib.hid (show Keeps (fun i=>i=g) w (w2.setCell ⟨g,0,none⟩ (.slice A7 m7 c7))from Keeps.then_ (HG.out.trans HG2.out).keeps k4 (fun i _ h=>h));clear hb4 k4 hr4 c0' f0;generalize w2.setCell ⟨g,0,none⟩ (.slice A7 m7 c7)=w4 at*;go_wp2_with(first|((with_reducible refine at_load 95 (.tmp 3) rfl ?_);refine ldN 95 Tryz.underlying95 rfl (.tmp 3) w1.heap.size t.cells 95 infoK rfl rfl rfl hz ?_)|((with_reducible refine at_store 95 (.tmp 2) (.tmp 18) rfl ?_);refine stN 95 (.tmp 2) (.tmp 18) w.heap.size t.cells [.int .i64 0,.string ⟨#[]⟩,.int .i64 0,.int .i64 0] 95 infoK rfl (tok_ones _ _ _ _) rfl rfl rfl rfl hr0 ?_;intro w8 hb8 k8 d8));refine bodyPost_ret (results_one rfl rfl infoK Tryz.underlying95 rfl hb8) rfl ?_;have hS:=HS.out;exact⟨rfl,HP4.out.keep k8 (fun i hi e=>by omega),Keeps.then_ HK4.out k8 fun b hb e=>by omega⟩
theorem run_tokN (w:World) (k:Int) (s:ByteArray) (n f:Int):(Instr.field 95 (.agg #[.int .i64 k,.string s,.int .i64 n,.int .i64 f]) 2).run Tryz.prog w= .ok (.int .i64 n) w:=by kernel_rfl
theorem run_tokS (w:World) (k:Int) (s:ByteArray) (n f:Int):(Instr.field 95 (.agg #[.int .i64 k,.string s,.int .i64 n,.int .i64 f]) 1).run Tryz.prog w= .ok (.string s) w:=by kernel_rfl
theorem isT_cons {ts:List Tok} {k:Nat} {s:ByteArray} (h:isT ts k s=true):∃t us,ts=t::us:=by
 rcases ts with _|⟨t,us⟩
 ·cases h
 exact⟨t,us,rfl⟩
theorem ptry_no (w:World) (g:Nat) (n:Int) (ts:List Tok) (s:ByteArray) (h:PSt w g n ts) (hf:isT ts 3 s=false):
  Calls Tryz.prog 79 #[.pointer (some ⟨g,0,none⟩),.string s] w fun e w'=>e= .returned (.bool false)∧w'=w:=by
 have h1:=pis_any w g n ts 3 s h;rw[hf]at h1;have HI:=Lib.hid (show Calls Tryz.prog 78 #[.pointer (some ⟨g,0,none⟩),.int .i64 3,.string s] w (fun e w'=>e= .returned (.bool false)∧w'=w)from h1);clear h h1 hf;go_enter Tryz.func79,Tryz.ntmps79;go_wp2_with(go_at_call 78;(with_reducible refine HI.out.mono ?_);rintro e3 w3 ⟨rfl,rfl⟩);go_ret;exact⟨rfl,rfl⟩
theorem ptry_yes (w:World) (g:Nat) (n:Int) (t:Tok) (ts:List Tok) (s:ByteArray) (h:PSt w g n (t::ts)) (hf:isT (t::ts) 3 s=true):
  Calls Tryz.prog 79 #[.pointer (some ⟨g,0,none⟩),.string s] w fun e w'=>e= .returned (.bool true)∧PSt w' g n ts∧PKeeps g w w':=by
 have h1:=pis_any w g n (t::ts) 3 s h;rw[hf]at h1;have HI:=Lib.hid (show Calls Tryz.prog 78 #[.pointer (some ⟨g,0,none⟩),.int .i64 3,.string s] w (fun e w'=>e= .returned (.bool true)∧w'=w)from h1);have HT:=Lib.hid (ptake_any w g n t ts h);clear h h1 hf;go_enter Tryz.func79,Tryz.ntmps79;go_wp2_with(first|(go_at_call 78;(with_reducible refine HI.out.mono ?_);rintro e3 w3 ⟨rfl,rfl⟩)|(go_at_call 98;(with_reducible refine HT.out.mono ?_);rintro e3 w4 ⟨rfl,hp,hk⟩));go_ret;exact⟨rfl,hp,hk⟩
theorem psym_any (w:World) (g:Nat) (n:Int) (t:Tok) (ts:List Tok) (s:ByteArray) (h:PSt w g n (t::ts)) (hf:isT (t::ts) 3 s=true):
  Calls Tryz.prog 100 #[.pointer (some ⟨g,0,none⟩),.string s] w fun e w'=>e= .returned (.tuple #[])∧PSt w' g n ts∧PKeeps g w w':=by
 have h1:=pis_any w g n (t::ts) 3 s h;rw[hf]at h1;have HI:=Lib.hid (show Calls Tryz.prog 78 #[.pointer (some ⟨g,0,none⟩),.int .i64 3,.string s] w (fun e w'=>e= .returned (.bool true)∧w'=w)from h1);have HT:=Lib.hid (ptake_any w g n t ts h);clear h h1 hf;go_enter Tryz.func100,Tryz.ntmps100;go_wp2_with(first|(go_at_call 78;(with_reducible refine HI.out.mono ?_);rintro e3 w3 ⟨rfl,rfl⟩)|(go_at_call 98;(with_reducible refine HT.out.mono ?_);rintro e3 w4 ⟨rfl,hp,hk⟩));go_end0;exact⟨rfl,hp,hk⟩
theorem pnum_any (w:World) (g:Nat) (n:Int) (t:Tok) (ts:List Tok) (lo hi:Int) (h:PSt w g n (t::ts)) (hk1:t.kind=1) (hlo:lo≤(t.num:Nat)) (hhi:(t.num:Nat)≤hi):
  Calls Tryz.prog 109 #[.pointer (some ⟨g,0,none⟩),.int .i64 lo,.int .i64 hi] w fun e w'=>e= .returned (.int .i64 (t.num:Nat))∧PSt w' g n ts∧PKeeps g w w':=by
 have h1:=pkind_any w g n (t::ts) 1 h;rw[show kindT (t::ts) 1=true from by rw[show kindT (t::ts) 1=decide (t.kind=1)from rfl,hk1];rfl]at h1;have HI:=Lib.hid (show Calls Tryz.prog 99 #[.pointer (some ⟨g,0,none⟩),.int .i64 1] w (fun e w'=>e= .returned (.bool true)∧w'=w)from h1);obtain⟨A,m,c,hb,hr,rfl⟩:=id h;obtain⟨b,o,rfl, -, -, -, -,k2⟩:=tok_at hr;have c0:w.cell? ⟨g,0,none⟩=some (.slice (some ⟨b,o,none⟩) (t::ts).length c):=hb.cell 0;rw[List.length_cons]at c0;obtain⟨m,hm⟩:∃m,ts.length=m:=⟨_,rfl⟩;rw[hm]at c0;obtain⟨tk,tt,tn,tf⟩:=t;have HT:=Lib.hid (show Calls Tryz.prog 98 #[.pointer (some ⟨g,0,none⟩)] w (fun e w'=>e= .returned (.agg #[.int .i64 (tk:Nat),.string tt,.int .i64 (tn:Nat),.int .i64 (tf:Nat)])∧PSt w' g n ts∧PKeeps g w w')from ptake_any w g n ⟨tk,tt,tn,tf⟩ ts h);have k2:w.cell? ⟨b,o+2,none⟩=some (.int .i64 (tn:Nat)):=k2;have hlo:lo≤(tn:Int):=hlo;have hhi:(tn:Int)≤hi:=hhi;have t1:decide ((tn:Int)<lo)=false:=by rw[decide_eq_false_iff_not];omega
 have t2:decide ((tn:Int)>hi)=false:=by rw[decide_eq_false_iff_not];omega
 have hfd:=fun w'=>run_tokN w' (tk:Nat) tt (tn:Nat) (tf:Nat)
 clear h h1 hk1 hlo hhi hr hb hm;go_enter Tryz.func109,Tryz.ntmps109;go_wp2_with(first|(go_at_call 99;(with_reducible refine HI.out.mono ?_);rintro e3 w3 ⟨rfl,rfl⟩)|(go_at_call 98;(with_reducible refine HT.out.mono ?_);rintro e3 w4 ⟨rfl,hp,hk⟩));go_ret;exact⟨rfl,hp,hk⟩
end Go.Proofs.YtcimmbhdcebehaaGreatDoor
namespace Go.Proofs.YtcimmbhdcebehaaGreatDoor
open Go Go.RowKit
section
variable {P:Program} {ops:Array Oper} {Q:Exit→Act→World→Prop} {md:Region.Mode}
def slotsB (md:Region.Mode) (ops:Array Oper) (i:Nat):Bool:=match ops[i]? with
 |some o=>o.guard.isNone&&(o.op.operands.all fun x=>match x with
   | .tmp t=>(List.range ops.size).all fun j=>(match ops[j]? with|some oj=>oj.dst !=some t||Region.waitsFor md ops i j|none=>true)
   |_=>true)
 |none=>false
def storeB (md:Region.Mode) (ops:Array Oper) (s:Nat) (pures:List Nat):Bool:=
 decide (s<ops.size)&&(List.range ops.size).all (slotsB md ops)&&backB md ops&&(List.range ops.size).all fun i=>i==s||pures.contains i||Region.waitsFor md ops s i
structure SInv (ops:Array Oper) (s:Nat) (pures:List Nat) (ia:Option Nat) (G:Nat→Act) (w0:World) (B C:Nat→World→Prop) (listed:Array Bool) (a:Act) (w:World):Prop where
 ex:∃z,(∀k,(∀j o,ops[j]? =some o→o.dst=some k→listed.getD j false=true)→a.tmps[k]? =(G z).tmps[k]?)∧a.tmps.size=(G z).tmps.size∧a.defers=(G z).defers∧
  (listed.getD s false=false→Grew w0 w∧(∀i,ia=some i→listed.getD i false=true→B z w))∧(listed.getD s false=true→C z w)
 size:listed.size=ops.size
 shut:listed.getD s false=true→∀i,i<ops.size→pures.contains i=false→listed.getD i false=true
theorem store_any {s:Nat} {pures:List Nat} (hB0:storeB md ops s pures=true) (hs:Region.noSelect ops=true) (hps:pures.contains s=false) (ia:Option Nat) (d8:Tmp) (G:Nat→Act) (w0:World) (B C:Nat→World→Prop)
  (hGk:∀z z' k,k≠d8→(G z).tmps[k]? =(G z').tmps[k]?) (hGs:∀z z',(G z).tmps.size=(G z').tmps.size) (hGd:∀z z',(G z).defers=(G z').defers)
  (hBg:∀z w w',B z w→Grew w w'→B z w')
  (hst:∀i o,i≠s→ia≠some i→pures.contains i=false→ops[i]? =some o→∀z w,Grew w0 w→o.wp P (G z) w (fun a' w'=>a'=G z∧Grew w w') (fun _ _ _=>False))
  (hpu:∀i o,pures.contains i=true→ops[i]? =some o→∀z w,o.wp P (G z) w (fun a' w'=>a'=G z∧w'=w) (fun _ _ _=>False))
  (hal:∀i o,ia=some i→ops[i]? =some o→pures.contains i=false∧i≠s∧o.dst=some d8∧(∀z,(G z).tmps[d8]? =some (.pointer (some ⟨z,0,none⟩)))∧∀a w K,Grew w0 w→(∀z w',Grew w w'→B z w'→K (a.put (some d8) (.pointer (some ⟨z,0,none⟩))) w')→o.wp P a w K Q)
  (hstore:∀o,ops[s]? =some o→o.dst=none∧∀z a w K,Grew w0 w→(∀i,ia=some i→B z w)→(∀x∈o.op.operands,a.eval x=(G z).eval x)→(∀w',C z w'→K a w')→o.wp P a w K Q)
  (hend:∀z w,C z w→Q .normal (G z) w) (hia:∀i,ia=some i→i<ops.size):
  ∀fuel listed a w,SInv ops s pures ia G w0 B C listed a w→cnt ops.size listed≤fuel→wpAny P md ops Q fuel listed a w:=by
 unfold storeB at hB0;simp only[Bool.and_eq_true,decide_eq_true_eq]at hB0;obtain⟨⟨⟨hsn,hhd⟩,hbk⟩,hwt⟩:=hB0;have hdone:∀listed a w,SInv ops s pures ia G w0 B C listed a w→cnt ops.size listed=0→Q .normal a w:=by
  intro listed a w hI h0;obtain⟨z,hk,hsz,hdf, -,hC⟩:=hI.ex;have hall:=cnt_zero h0;have ha:a=G z:=by
   have ht:a.tmps=(G z).tmps:=Array.ext_getElem? fun k=>hk k fun j o ho _=>hall j (Array.getElem?_eq_some_iff.1 ho).1
   cases a;cases hg:G z;rw[hg]at ht hdf;simp at ht hdf;rw[ht,hdf]
  rw[ha];exact hend z w (hC (hall s hsn))
 have hempty:∀listed:Array Bool,cnt ops.size listed=0→Region.ready md ops listed=[]:=by
  intro listed h0;apply List.eq_nil_iff_forall_not_mem.2;intro i hi;obtain⟨hun,oi,hoi, -⟩:=mem_ready.1 hi;have:=cnt_zero h0 i (Array.getElem?_eq_some_iff.1 hoi).1;rw[getD_both hun]at this;cases this
 intro fuel
 induction fuel with
 |zero=>
  intro listed a w hI hc;exact⟨hempty listed (by omega),hdone listed a w hI (by omega)⟩
 |succ fuel ih=>
  intro listed a w hI hc;rcases Nat.eq_zero_or_pos (cnt ops.size listed)with h0|hpos
  ·exact⟨fun _=>hdone listed a w hI h0,by rw[hempty listed h0];simp⟩
  obtain⟨j0,hj0,hl0⟩:=cnt_pos hpos;refine⟨fun hr=>absurd hr (ready_of_unlisted hbk hI.size j0 j0 (Nat.le_refl _) hj0 hl0),fun i hi=>?_⟩;obtain⟨hun,oi,hoi,hdep⟩:=mem_ready.1 hi;have hisz:i<ops.size:=(Array.getElem?_eq_some_iff.1 hoi).1;have hun':listed.getD i false=false:=getD_both hun;have hhi:=List.all_eq_true.1 hhd i (List.mem_range.2 hisz);unfold slotsB at hhi;simp only[hoi,Bool.and_eq_true]at hhi;obtain⟨hgd,hopr⟩:=hhi;have hgd':oi.guard=none:=by simpa using hgd
  have hc':cnt ops.size (listed.setIfInBounds i true)+1=cnt ops.size listed:=cnt_set listed _ i hisz (by rw[hI.size];exact hisz) hun';have hsz':(listed.setIfInBounds i true).size=ops.size:=by rw[Array.size_setIfInBounds,hI.size]
  obtain⟨z,hk,hsz,hdf,hpre,hpost⟩:=hI.ex;have hoper:∀x∈oi.op.operands,a.eval x=(G z).eval x:=by
   intro x hx;cases x with
   |tmp t=>
    have h1:=Array.all_eq_true'.1 hopr _ hx;simp only[List.all_eq_true,List.mem_range]at h1;have h2:a.tmps[t]? =(G z).tmps[t]? :=hk t fun j o ho hod=>by
     have h3:=h1 j (Array.getElem?_eq_some_iff.1 ho).1;simp only[ho,hod]at h3;have h4:Region.waitsFor md ops i j=true:=by simpa using h3
     obtain⟨o',ho',e,he,hbd,hon⟩:=Region.waitsFor_spec h4;obtain rfl:oi=o':=Option.some.inj (hoi.symm.trans ho');rw[←hon];exact hdep e he hbd
    simp only[Act.eval,Array.getD_eq_getD_getElem?,h2]
   |_=>rfl
  have keepk:∀(k:Tmp) (zz:Nat),(∀o,oi.dst=some o→o≠k)→((G zz).tmps[k]? =(G z).tmps[k]?)→(∀j o,ops[j]? =some o→o.dst=some k→(listed.setIfInBounds i true).getD j false=true)→a.tmps[k]? =(G zz).tmps[k]? :=by
   intro k zz hne hzz hkk;rw[hzz];refine hk k fun j o ho hod=>?_
   have h1:=hkk j o ho hod;by_cases hij:i=j
   ·subst hij;obtain rfl:oi=o:=Option.some.inj (hoi.symm.trans ho);exact absurd rfl (hne k hod)
   rwa[getD_set_ne false hij]at h1
  have valk:∀v,(G z).put oi.dst v=G z→(∀k,(∀j o,ops[j]? =some o→o.dst=some k→(listed.setIfInBounds i true).getD j false=true)→(a.put oi.dst v).tmps[k]? =(G z).tmps[k]?)∧(a.put oi.dst v).tmps.size=(G z).tmps.size∧(a.put oi.dst v).defers=(G z).defers:=by
   intro v hv;refine⟨fun k hkk=>?_,(put_size _ _ _).1.trans hsz,(put_size _ _ _).2.trans hdf⟩;cases hd:oi.dst with
   |none=>exact keepk k z (fun o h=>by rw[hd]at h;cases h) rfl hkk
   |some d=>
    rw[hd]at hv;rw[put_get];by_cases hdk:d=k
    ·subst hdk;rw[if_pos rfl];have h1:((G z).put (some d) v).tmps[d]? =(G z).tmps[d]? :=by rw[hv]
     rw[put_get,if_pos rfl]at h1;rw[←h1,hsz]
    rw[if_neg hdk];exact keepk k z (fun o h=>by rw[hd]at h;cases h;exact hdk) rfl hkk
  unfold wpOp;simp only[hoi];rw[if_pos (by simp[Region.wanted,hgd'])];refine .inl ?_;have hns:=fun cs b=>Region.noSelect_spec hs i oi cs b hoi
  by_cases his:i=s
  ·subst his;obtain⟨hdn,hst'⟩:=hstore oi hoi;obtain⟨hg0,hB⟩:=hpre hun';have hlist:∀j,j<ops.size→pures.contains j=false→j≠i→listed.getD j false=true:=by
    intro j hj hpj hji;have h1:=List.all_eq_true.1 hwt j (List.mem_range.2 hj);simp only[Bool.or_eq_true,beq_iff_eq,hpj,Bool.false_eq_true,or_false]at h1;have h2:=h1.resolve_left hji;obtain⟨o',ho',e,he,hbd,hon⟩:=Region.waitsFor_spec h2;obtain rfl:oi=o':=Option.some.inj (hoi.symm.trans ho');rw[←hon];exact hdep e he hbd
   refine hst' z a w _ hg0 (fun i' hi'=>?_) hoper fun w' hC=>ih _ _ _ ⟨⟨z,fun k hkk=>keepk k z (fun o h=>by rw[hdn]at h;cases h) rfl hkk,hsz,hdf,fun h=>?_,fun _=>hC⟩,hsz',fun _ j hj hpj=>?_⟩ (by omega)
   ·have:=hal i' (ops[i']'(hia i' hi')) hi' (Array.getElem?_eq_getElem (hia i' hi'));exact hB i' hi' (hlist i' (hia i' hi') this.1 this.2.1)
   ·rw[getD_set_self (by rw[hI.size];exact hisz)]at h;cases h
   by_cases hji:j=i
   ·subst hji;exact getD_set_self (by rw[hI.size];exact hisz)
   rw[getD_set_ne false (Ne.symm hji)];exact hlist j hj hpj hji
  have hsl:(listed.setIfInBounds i true).getD s false=listed.getD s false:=getD_set_ne false his;have hshut':(listed.setIfInBounds i true).getD s false=true→∀j,j<ops.size→pures.contains j=false→(listed.setIfInBounds i true).getD j false=true:=fun h j hj hpj=>by
   rw[hsl]at h;exact getD_set_true (hI.shut h j hj hpj)
  by_cases hpi:pures.contains i=true
  ·refine wp_transfer (R:=fun w'=>w'=w) hns (hpu i oi hpi hoi z w) hoper fun v w' hv hw=>?_
   subst hw;obtain⟨h1,h2,h3⟩:=valk v hv;refine ih _ _ _ ⟨⟨z,h1,h2,h3,fun h=>?_,fun h=>?_⟩,hsz',hshut'⟩ (by omega)
   ·rw[hsl]at h;obtain⟨hg0,hB⟩:=hpre h;refine⟨hg0,fun i' hi' hl'=>hB i' hi' ?_⟩;have hne:i≠i':=fun e=>by
     have:=(hal i' (ops[i']'(hia i' hi')) hi' (Array.getElem?_eq_getElem (hia i' hi'))).1;rw[←e,hpi]at this;cases this
    rwa[getD_set_ne false hne]at hl'
   rw[hsl]at h;exact hpost h
  have hpi':pures.contains i=false:=by simpa using hpi
  have hsf:listed.getD s false=false:=by
   cases hx:listed.getD s false with
   |false=>rfl
   |true=>
    have:=hI.shut hx i hisz hpi';rw[hun']at this;cases this
  obtain⟨hg0,hB⟩:=hpre hsf;by_cases hii:ia=some i
  ·obtain⟨-, -,hd,hG8,hal'⟩:=hal i oi hii hoi;refine hal' a w _ hg0 fun z' w' hg hb=>ih _ _ _ ⟨⟨z',fun k hkk=>?_,?_,?_,fun _=>⟨hg0.trans hg,fun _ _ _=>hb⟩,fun h=>?_⟩,hsz',hshut'⟩ (by omega)
   ·rw[put_get];by_cases hdk:d8=k
    ·subst hdk;rw[if_pos rfl];have h1:=hG8 z';have h2:d8<a.tmps.size:=by
      rw[hsz,hGs z z'];exact(Array.getElem?_eq_some_iff.1 h1).1
     rw[if_pos h2,h1]
    rw[if_neg hdk];exact keepk k z' (fun o h=>by rw[hd]at h;cases h;exact hdk) (hGk z' z k (fun e=>hdk e.symm)) hkk
   ·simp only[Act.put,Array.size_setIfInBounds];rw[hsz,hGs z z']
   ·simp only[Act.put];rw[hdf,hGd z z']
   rw[hsl,hsf]at h;cases h
  refine wp_transfer (R:=fun w'=>Grew w w') hns (hst i oi his hii hpi' hoi z w hg0) hoper fun v w' hv hg=>?_
  obtain⟨h1,h2,h3⟩:=valk v hv;refine ih _ _ _ ⟨⟨z,h1,h2,h3,fun _=>⟨hg0.trans hg,fun i' hi' hl'=>?_⟩,fun h=>?_⟩,hsz',hshut'⟩ (by omega)
  ·have hne:i≠i':=fun e=>hii (by rw[e,hi'])
   rw[getD_set_ne false hne]at hl';exact hBg z w w' (hB i' hi' hl') hg
  rw[hsl,hsf]at h;cases h
def HeadsS (P:Program) (w0:World) (ia:Option Nat) (s:Nat) (pures:List Nat) (G:Nat→Act):Nat→List Oper→Prop
 |_,[]=>True
 |i,o::r=>((i≠s→ia≠some i→pures.contains i=false→∀z w,Grew w0 w→o.wp P (G z) w (fun a' w'=>a'=G z∧Grew w w') (fun _ _ _=>False))∧(pures.contains i=true→∀z w,o.wp P (G z) w (fun a' w'=>a'=G z∧w'=w) (fun _ _ _=>False)))∧HeadsS P w0 ia s pures G (i+1) r
section
variable {w0:World} {ia:Option Nat} {s i:Nat} {pures:List Nat} {G:Nat→Act} {o:Oper} {r:List Oper}
theorem headS_nil:HeadsS P w0 ia s pures G i []:=trivial
theorem headS_grow (hp:pures.contains i=false) (h:∀z w,Grew w0 w→o.wp P (G z) w (fun a' w'=>a'=G z∧Grew w w') (fun _ _ _=>False)) (h2:HeadsS P w0 ia s pures G (i+1) r):HeadsS P w0 ia s pures G i (o::r):=⟨⟨fun _ _ _=>h,fun e=>by rw[hp]at e;cases e⟩,h2⟩
theorem headS_pure (hp:pures.contains i=true) (h:∀z w,o.wp P (G z) w (fun a' w'=>a'=G z∧w'=w) (fun _ _ _=>False)) (h2:HeadsS P w0 ia s pures G (i+1) r):HeadsS P w0 ia s pures G i (o::r):=⟨⟨fun _ _ e=>(by rw[hp]at e;cases e),fun _=>h⟩,h2⟩
theorem headS_store (hp:pures.contains i=false) (h2:HeadsS P w0 ia i pures G (i+1) r):HeadsS P w0 ia i pures G i (o::r):=⟨⟨fun e=>absurd rfl e,fun e=>by rw[hp]at e;cases e⟩,h2⟩
theorem headS_alloc (hp:pures.contains i=false) (h2:HeadsS P w0 (some i) s pures G (i+1) r):HeadsS P w0 (some i) s pures G i (o::r):=⟨⟨fun _ e=>absurd rfl e,fun e=>by rw[hp]at e;cases e⟩,h2⟩
theorem headsS_spec:∀{l:List Oper} {n:Nat},HeadsS P w0 ia s pures G n l→∀i o,l[i]? =some o→(n+i≠s→ia≠some (n+i)→pures.contains (n+i)=false→∀z w,Grew w0 w→o.wp P (G z) w (fun a' w'=>a'=G z∧Grew w w') (fun _ _ _=>False))∧(pures.contains (n+i)=true→∀z w,o.wp P (G z) w (fun a' w'=>a'=G z∧w'=w) (fun _ _ _=>False))
 |[],_,_,_,_,h=>by simp at h
 |_::_,n,h,0,o,ho=>by
  obtain rfl:=Option.some.inj ho;exact h.1
 |_::r,n,h,i+1,o,ho=>by
  have:=headsS_spec h.2 i o (by simpa using ho);rwa[Nat.add_assoc,Nat.add_comm 1]at this
end
theorem region_store {id:Nat} {a:Act} {w:World} (hm:P.follows .mixedOrders=true) (s ia:Nat) (d8:Tmp) (pures:List Nat) (vals:List Value) (ty:TypeId) (zs:List Value) (G:Nat→Act) (hB0:storeB .any ops s pures=true) (hs:Region.noSelect ops=true) (hps:pures.contains s=false) (hpa:pures.contains ia=false) (hias:ia≠s) (hia:ia<ops.size)
  (hG:G=fun z=>(putAll ops.toList vals a).put (some d8) (.pointer (some ⟨z,0,none⟩))) (hd8:d8<a.tmps.size) (hda:(ops[ia]?).map (·.dst)=some (some d8))
  (hH:HeadsS P w.drew (some ia) s pures G 0 ops.toList)
  (hal:∀o,ops[ia]? =some o→∀a w K,(∀w',w'=w.alloc (.cells zs.toArray ty)→K (a.put o.dst (.pointer (some ⟨w.heap.size,0,none⟩))) w')→o.wp P a w K Q)
  (vs:List Value) (x y:Operand) (T:TypeId) (o:Oper) (ho:ops[s]? =some o) (hop:o.op= .store T x y) (hd:o.dst=none) (hxo:x∈o.op.operands) (hyo:y∈o.op.operands) (hT:(P.info? T).map (·.size)=some vs.length) (hl:zs.length=vs.length) (h1:∀v∈vs,v.oneCell'=true)
  (hx:∀z,(G z).eval x= .pointer (some ⟨z,0,none⟩)) (hy:∀z,(G z).eval y= .agg vs.toArray)
  (h:∀z w',w.heap.size≤z→Box w' z ty vs.toArray→Grew w w'→Q .normal (G z) w'):(Code.region id ops true).wp P Q a w:=by
 refine wp_region_any hm ?_;have hsz:∀z,(G z).tmps.size=a.tmps.size:=fun z=>by rw[hG];exact(put_size _ _ _).1.trans (putAll_size _ _ _).1
 have hdf:∀z,(G z).defers=a.defers:=fun z=>by rw[hG];exact(put_size _ _ _).2.trans (putAll_size _ _ _).2
 refine store_any (s:=s) (pures:=pures) hB0 hs hps (some ia) d8 G w.drew (fun z w'=>Box w' z ty zs.toArray∧w.heap.size≤z) (fun z w'=>w.heap.size≤z∧Box w' z ty vs.toArray∧Grew w w') ?_ (fun z z'=>by rw[hsz,hsz]) (fun z z'=>by rw[hdf,hdf]) (fun z w1 w2 hb hg=>⟨hb.1.grew hg,hb.2⟩) ?_ ?_ ?_ ?_ (fun z w1 hc=>h z w1 hc.1 hc.2.1 hc.2.2) (fun i hi=>by cases hi;exact hia) ops.size _ _ _ ⟨⟨0,?_,(hsz 0).symm,(hdf 0).symm,fun _=>⟨Grew.refl _,?_⟩,?_⟩,by simp,?_⟩ ?_
 ·intro z z' k hk;rw[hG];simp only[put_get];rw[if_neg (fun e=>hk e.symm),if_neg (fun e=>hk e.symm)]
 ·intro i o' his hne hp ho' z w1 hg;exact(headsS_spec hH i o' (by simpa using ho')).1 (by simpa using his) (by simpa using hne) (by simpa using hp) z w1 hg
 ·intro i o' hp ho' z w1;exact(headsS_spec hH i o' (by simpa using ho')).2 (by simpa using hp) z w1
 ·intro i o' hi ho';cases hi;rw[ho']at hda;have hdo:o'.dst=some d8:=by simpa using hda
  refine⟨hpa,hias,hdo,fun z=>?_,fun a1 w1 K hg hK=>?_⟩
  ·rw[hG];simp only[put_get];rw[if_pos trivial,if_pos];rw[(putAll_size _ _ _).1];exact hd8
  refine hal o' ho' a1 w1 K fun w' hw'=>?_
  subst hw';rw[hdo];exact hK _ _ ((Grew.refl w1).alloc _) ⟨Box.new w1 ty zs.toArray,hg.size⟩
 ·intro o' ho';obtain rfl:o=o':=Option.some.inj (ho.symm.trans ho');refine⟨hd,fun z a1 w1 K hg hb hev hK=>?_⟩;obtain⟨hb,hz⟩:=hb ia rfl;refine wp_stN T x y z vs zs ty hT hl h1 hop ((hev x hxo).trans (hx z)) ((hev y hyo).trans (hy z)) hb fun w2 k1 k2=>?_
  have e:a1.put o.dst undef=a1:=by rw[hd];rfl
  rw[e];have hg':Grew w w1:=(Keeps.drew (Grew.refl w)).trans hg;exact hK w2 ⟨hz,k1,Keeps.then_ hg' k2 (fun i hi e=>by omega)⟩
 ·intro k hk;rw[hG];simp only[];rw[put_get];by_cases hkd:d8=k
  ·exfalso;subst hkd;have hex:∃o',ops[ia]? =some o'∧o'.dst=some d8:=by
    cases ho':ops[ia]? with
    |none=>rw[ho']at hda;cases hda
    |some o'=>rw[ho']at hda;exact⟨o',rfl,by simpa using hda⟩
   obtain⟨o',ho',hdo⟩:=hex;have:=hk ia o' ho' hdo;rw[getD_replicate_false]at this;cases this
  rw[if_neg hkd];refine(putAll_get _ _ _ _ fun o' ho' hdo=>?_).symm;obtain⟨j,hj⟩:=List.getElem?_of_mem ho';have:=hk j o' (by simpa using hj) hdo;rw[getD_replicate_false]at this;cases this
 ·intro i hi hl';rw[getD_replicate_false]at hl';cases hl'
 ·intro hl';rw[getD_replicate_false]at hl';cases hl'
 ·intro hl';rw[getD_replicate_false]at hl';cases hl'
 have:∀k,cnt k (Array.replicate ops.size false)≤k:=by
  intro k
  induction k with
  |zero=>exact Nat.le_refl _
  |succ k ih=>unfold cnt;split<;>omega
 exact this ops.size
end
end Go.Proofs.YtcimmbhdcebehaaGreatDoor
namespace Go.Proofs.YtcimmbhdcebehaaGreatDoor
open Go.RowKit Pl
def numL (x y:Int):List Value:=[.int .i64 0,.int .i64 0,.int .i64 0,.int .i64 0,.int .i64 0,.int .i64 x,.int .i64 y,.string ⟨#[]⟩,.slice none 0 0,.slice none 0 0,.slice none 0 0]
theorem numL_ones (x y:Int):∀v∈numL x y,v.oneCell'=true:=by
 intro v hv;simp[numL]at hv;rcases hv with rfl|rfl|rfl|rfl|rfl<;>rfl
theorem results_ex {fn:Func} {p q:Tmp} {ty:TypeId} (h:fn.results=#[.cell p ty,.tmp q]) {tmps:Array Value} {w:World} {g:Nat} {vs:List Value} {v:Value} {t:TypeId} (hp:tmps.getD p undef= .pointer (some ⟨g,0,none⟩)) (hq:tmps.getD q undef=v) (hT:(Tryz.prog.info? ty).map (·.size)=some vs.length) {d:TypeDesc} (hu:Tryz.prog.underlying ty=some d) (hd:d.isRow=true) (hb:Box w g t vs.toArray):
  (results fn tmps).run Tryz.prog w= .ok (.tuple #[.agg vs.toArray,v]) w:=results_frac h hp hq hT hu hd hb
end Go.Proofs.YtcimmbhdcebehaaGreatDoor
