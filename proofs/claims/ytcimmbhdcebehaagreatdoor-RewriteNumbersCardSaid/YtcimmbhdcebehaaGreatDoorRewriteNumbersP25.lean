/- What the card of the law stands on: WrN, PrintN, SeqG. -/
import Derived.Test.YtcimmbhdcebehaaGreatDoorRewriteNumbersP01
import Derived.Test.YtcimmbhdcebehaaGreatDoorRewriteNumbersP22
import Derived.Test.YtcimmbhdcebehaaGreatDoorRewriteNumbersP24
import Derived.Test.YtcimmbhdcebehaaGreatDoorRewriteNumbersP23
import Derived.Test.YtcimmbhdcebehaaGreatDoorRewriteNumbersP19
import Derived.Test.YtcimmbhdcebehaaGreatDoorRewriteNumbersP06
import Derived.Test.YtcimmbhdcebehaaGreatDoorRewriteNumbersP10
set_option maxRecDepth 100000
set_option maxHeartbeats 12800000
set_option linter.unusedVariables false
set_option linter.unusedSimpArgs false
namespace Go.Proofs.YtcimmbhdcebehaaGreatDoor
open Go.RowKit Pl
theorem WS.set_ {w:World} {base g z:Nat} {bs:List Nat} {t:TypeId} {xs:Array Value} (h:WS w base g bs) (hb:Box w z t xs) (h1:t≠48) (h2:t≠5) (i:Nat) (u:Value):WS (w.setCell ⟨z,i,none⟩ u) base g bs:=by
 obtain⟨a,b,p,v,s⟩:=h;have k:Keeps (fun j=>j=z) w (w.setCell ⟨z,i,none⟩ u):=Keeps.setCell (S:=fun j=>j=z) (p:=⟨z,i,none⟩) (Keeps.refl _ w) (.inl rfl) u;refine⟨a,Nat.le_trans b k.size,p,v,s.box.keep k ?_,s.row.keep k ?_,s.self⟩
 ·rintro rfl;have hx:=s.box;unfold Box at hx hb;rw[hx]at hb;simp at hb;exact h1 hb.2.symm
 intro j hj e;exact s.row.ne_box hj hb (Ne.symm h2) e
structure NS (w:World) (base g:Nat) (d:Int) (T:List Nat) (w':World) (bs r:List Nat) (f:Int):Prop where
 ws:WS w' base g bs
 k:Keeps (fun i=>base≤i) w w'
 kb:KB w w'
 bx:Box w' w.heap.size 23 (fracL f d).toArray
 p:P10 w'
 e:bs++r=T
section
variable {w w' w'':World} {base g:Nat} {d f:Int} {T bs r:List Nat}
theorem NS.grew (h:NS w base g d T w' bs r f) (k:Grew w' w''):NS w base g d T w'' bs r f:=⟨h.ws.grew k,h.k.grew k,h.kb.trans (KB.grew k),h.bx.grew k,h.p.grew k,h.e⟩
theorem NS.len (h:NS w base g d T w' bs r f) (hT:T.length<900000000):bs.length<900000000:=by
 have:=congrArg List.length h.e;rw[List.length_append]at this;omega
theorem NS.byte {c:Nat} (h:NS w base g d T w' bs (c::r) f) (hT:T.length<900000000) (hg:6<base):
  Calls Tryz.prog 69 #[.pointer (some ⟨g,0,none⟩),.int .u8 (c:Nat)] w' fun e w''=>(∃u,e= .returned u)∧NS w base g d T w'' (bs++[c]) r f:=by
 refine(wrByte_any w' base g bs c h.ws (h.len hT)).mono ?_;rintro e w'' ⟨he,hws,hk,hkb⟩;exact⟨he,⟨hws,h.k.then_ hk (fun i _ e=>e),h.kb.trans hkb,hkb _ _ _ h.bx (by decide) (by decide),h.p.keep hk (by omega),by rw[←h.e];simp⟩⟩
theorem NS.str {s:ByteArray} (h:NS w base g d T w' bs (bl s++r) f) (hs:s.size≤1000000) (hT:T.length<900000000) (hg:6<base):
  Calls Tryz.prog 48 #[.pointer (some ⟨g,0,none⟩),.string s] w' fun e w''=>(∃u,e= .returned u)∧NS w base g d T w'' (bs++bl s) r f:=by
 refine(wrStr_any w' base g bs s h.ws (h.len hT) hs).mono ?_;rintro e w'' ⟨he,hws,hk,hkb⟩;exact⟨he,⟨hws,h.k.then_ hk (fun i _ e=>e),h.kb.trans hkb,hkb _ _ _ h.bx (by decide) (by decide),h.p.keep hk (by omega),by rw[←h.e];simp⟩⟩
theorem NS.set_ (h:NS w base g d T w' bs r f) (hb:base≤w.heap.size) (hg:6<base) (u:Int):NS w base g d T (w'.setCell ⟨w.heap.size,0,none⟩ (.int .i64 u)) bs r u:=by
 have k:Keeps (fun j=>j=w.heap.size) w' (w'.setCell ⟨w.heap.size,0,none⟩ (.int .i64 u)):=Keeps.setCell (S:=fun j=>j=w.heap.size) (p:=⟨w.heap.size,0,none⟩) (Keeps.refl _ w') (.inl rfl) _;have hlt:=h.bx.lt;refine⟨h.ws.set_ h.bx (by decide) (by decide) 0 _,h.k.then_ k fun i hi e=>by omega,fun i t xs hx h1 h2=>(h.kb i t xs hx h1 h2).keep k ?_,?_,h.p.keep k ?_,h.e⟩
 ·intro e;have:=hx.lt;omega
 ·have:=h.bx.set_ 0 (.int .i64 u);exact this
 intro e;omega
end
theorem naturalN_any (n d:Int) (hn:n.natAbs≤1073741824) (w:World):Calls Tryz.prog 67 #[.agg (fracL n d).toArray] w fun e w'=>e= .returned (.bool (decide (d=1∧0≤n)))∧Grew w w':=by
 have hb:=Box.new w 23 (fracL n d).toArray;have hg:=(Grew.refl w).alloc (.cells (fracL n d).toArray 23);go_enter Tryz.func67,Tryz.ntmps67;go_upto_region 1 with fail;change Code.wp _ _ _ _ (w.alloc (.cells (fracL n d).toArray 23));generalize w.alloc (.cells (fracL n d).toArray 23)=w1 at*;have c0:w1.cell? ⟨w.heap.size,0,none⟩=some (.int .i64 n):=hb.cell 0;have c1:w1.cell? ⟨w.heap.size,1,none⟩=some (.int .i64 d):=hb.cell 1;have HG:=Lib.hid hg;clear hb hg;by_cases hd:d=1
 ·have t0:(d==1)=true:=beq_iff_eq.2 hd;by_cases h0:0≤n
  ·have t1:decide (n≥0)=true:=decide_eq_true h0;have t2:decide (n≤1073741824)=true:=decide_eq_true (by omega);have HV:=Lib.hid (show decide (d=1∧0≤n)=true from decide_eq_true ⟨hd,h0⟩);clear hd h0 hn;go_wp2_with fail;go_ret;exact⟨by rw[HV.out];rfl,HG.out⟩
  have t1:decide (n≥0)=false:=decide_eq_false h0;have HV:=Lib.hid (show decide (d=1∧0≤n)=false from decide_eq_false fun h=>h0 h.2);clear hd h0 hn;go_wp2_with fail;go_ret;exact⟨by rw[HV.out];rfl,HG.out⟩
 have t0:(d==1)=false:=beq_eq_false_iff_ne.2 hd;have HV:=Lib.hid (show decide (d=1∧0≤n)=false from decide_eq_false fun h=>hd h.1);clear hd hn;go_wp2_with fail;go_ret;exact⟨by rw[HV.out];rfl,HG.out⟩
theorem dcN_len:∀(k n:Nat),n<10^(k+1)→(dcN n).length≤k+1
 |0,n,h=>by rw[dcN_rec,if_pos (by simpa using h)];exact Nat.le_refl _
 |k+1,n,h=>by
  rw[dcN_rec];split
  ·simp
  rw[List.length_append];have:=dcN_len k (n/10) (by rw[Nat.div_lt_iff_lt_mul (by decide)];rwa[Nat.pow_succ]at h);simp;omega
theorem decS_size {n:Nat} (h:n≤1073741824):(decS n).size≤1000000:=by
 have h1:=dcN_len 9 n (by omega);rw[←bl_decS,bl_size]at h1;omega
theorem wrNumN_any (w:World) (base g:Nat) (bs:List Nat) (n d:Int) (hn:n.natAbs≤1073741824) (hd:1≤d∧d≤1073741824) (h:WS w base g bs) (hp:P10 w) (hg:6<base) (hl:(bs++prNum n d).length<900000000):
  Calls Tryz.prog 43 #[.pointer (some ⟨g,0,none⟩),.agg (fracL n d).toArray] w (WPost base g (bs++prNum n d) w):=by
 obtain⟨T,hTe⟩:∃T,bs++prNum n d=T:=⟨_,rfl⟩;rw[hTe]at hl ⊢;have HT:=Lib.hid hl;have HGB:=Lib.hid hg;have HB:=Lib.hid h.2.1;have hb:=Box.new w 23 (fracL n d).toArray;have hgw:=(Grew.refl w).alloc (.cells (fracL n d).toArray 23);have hns:NS w base g d T (w.alloc (.cells (fracL n d).toArray 23)) bs (prNum n d) n:=⟨h.grew hgw,hgw.keeps,KB.grew hgw,hb,hp.grew hgw,hTe⟩;have HF:=Lib.hid (fun(w8:World) (b8:List Nat) (f:Int) (x:NS w base g d T w8 b8 [] f)=>show WPost base g T w (.returned (.tuple #[])) w8 from⟨⟨_,rfl⟩,by have:=x.ws;rwa[show b8=T by simpa using x.e]at this,x.k,x.kb⟩);have HN:=Lib.hid (fun w'=>naturalN_any n d hn w');have HZ:=Lib.hid (show(⟨#[48,45]⟩:ByteArray).size≤1000000 by show(2:Nat)≤1000000;omega);clear h hp hl hg hb hgw hTe;obtain⟨D,rfl⟩:∃D:Nat,d=(D:Int):=⟨d.toNat,by omega⟩;have HI2:=Lib.hid (fun w' (x:P10 w')=>itoaN_any D (by omega) w' x);go_enter Tryz.func43,Tryz.ntmps43;go_upto_region 1 with fail;change Code.wp _ _ _ _ (w.alloc (.cells (fracL n (D:Int)).toArray 23));generalize w.alloc (.cells (fracL n (D:Int)).toArray 23)=w1 at*;by_cases h0:(D:Int)=1∧0≤n
 ·obtain⟨m,rfl⟩:∃m:Nat,n=(m:Int):=⟨n.toNat,by omega⟩;have hpr:prNum (m:Int) (D:Int)=bl (decS m)++[]:=by unfold prNum;rw[if_pos h0,bl_decS,List.append_nil];rfl
  rw[decide_eq_true h0]at HN;rw[hpr]at hns;have HI:=Lib.hid (fun w' (x:P10 w')=>itoaN_any m (by omega) w' x);have HM:=Lib.hid (show m≤1073741824 by omega);have HS1:=Lib.hid hns;clear hns hpr h0 hn hd;go_upto_region 2 with(first|((with_reducible refine at_load 23 (.tmp 3) rfl ?_);refine ldN 23 Tryz.underlying23 rfl (.tmp 3) (w.heap.size) (fracL (m:Int) (D:Int)) 23 infoF rfl rfl rfl HS1.out.bx ?_)|(go_at_call 67;(with_reducible refine(HN.out _).mono ?_);rintro e3 w2 ⟨rfl,k2⟩;have HS2:=Lib.hid (HS1.out.grew k2);have c0:w2.cell? ⟨w.heap.size,0,none⟩=some (.int .i64 (m:Int)):=HS2.out.bx.cell 0;clear k2));go_wp2_with(first|(go_at_call 68;(with_reducible refine(HI.out _ HS2.out.p).mono ?_);rintro e3 w3 ⟨rfl,k3⟩;have HS3:=Lib.hid (HS2.out.grew k3);clear k3)|(go_at_call 48;(with_reducible refine(NS.str (s:=decS m) HS3.out (decS_size HM.out) HT.out HGB.out).mono ?_);rintro e3 w4 ⟨⟨u,rfl⟩,hns⟩;have HS4:=Lib.hid hns;clear hns));refine bodyPost_ret (results_none rfl _ _ _) rfl ?_;exact HF.out _ _ _ HS4.out
 have HN':Hid (∀w',Calls Tryz.prog 67 #[.agg (fracL n (D:Int)).toArray] w' fun e w''=>e= .returned (.bool false)∧Grew w' w''):=Lib.hid (fun w'=>by have:=HN.out w';rwa[decide_eq_false h0]at this);clear HN;have HN:=HN';clear HN';by_cases hneg:n<0
 ·by_cases hone:(D:Int)=1
  ·obtain⟨m,hm⟩:∃m:Nat,n= -(m:Int):=⟨n.natAbs,by omega⟩;have hpr:prNum n (D:Int)=40::(bl ⟨#[48,45]⟩++(bl (decS m)++[41])):=by
    unfold prNum;rw[if_neg h0,if_pos hneg,if_pos hone,bl_decS,show n.natAbs=m by omega];rfl
   rw[hpr]at hns;have HI:=Lib.hid (fun w' (x:P10 w')=>itoaN_any m (by omega) w' x);have HM:=Lib.hid (show m≤1073741824 by omega);have HD:=Lib.hid (show D≤1073741824 by omega);have t0:decide (n<0)=true:=decide_eq_true hneg;have e0:IntKind.i64.wrap (-n)=(m:Int):=by rw[show -n=(m:Int) by omega];exact IntWalk.i64_in _ (by omega)
   have t1:((D:Int) !=1)=false:=by rw[bne,beq_iff_eq.2 hone];rfl
   have HS1:=Lib.hid hns;clear hns hpr h0 hn hd hneg hone hm;go_upto_region 3 with(first|((with_reducible refine at_load 23 (.tmp 3) rfl ?_);refine ldN 23 Tryz.underlying23 rfl (.tmp 3) (w.heap.size) (fracL n (D:Int)) 23 infoF rfl rfl rfl HS1.out.bx ?_)|(go_at_call 67;(with_reducible refine(HN.out _).mono ?_);rintro e3 w2 ⟨rfl,k2⟩;have HS2:=Lib.hid (HS1.out.grew k2);have c0:w2.cell? ⟨w.heap.size,0,none⟩=some (.int .i64 n):=HS2.out.bx.cell 0;clear k2));clear c0;go_upto_region 4 with((go_at_call 69;(with_reducible refine(NS.byte (c:=40) HS2.out HT.out HGB.out:Calls _ _ #[.pointer (some ⟨g,0,none⟩),.int .u8 40] _ _).mono ?_);rintro e3 w3 ⟨⟨u,rfl⟩,hns⟩;have HS3:=Lib.hid hns;clear hns;have c0:w3.cell? ⟨w.heap.size,0,none⟩=some (.int .i64 n):=HS3.out.bx.cell 0));go_upto_region 6 with((go_at_call 48;(with_reducible refine(NS.str (s:=⟨#[48,45]⟩) HS3.out HZ.out HT.out HGB.out).mono ?_);rintro e3 w4 ⟨⟨u,rfl⟩,hns⟩;have HS4:=Lib.hid hns;clear hns;have c0:w4.cell? ⟨w.heap.size,0,none⟩=some (.int .i64 n):=HS4.out.bx.cell 0));have f0:w4.frozen? ⟨w.heap.size,0,none⟩=false:=HS4.out.bx.frozen 0;go_upto_region 7 with fail;have hx:=HS4.out.set_ HB.out HGB.out (m:Int);generalize w4.setCell ⟨w.heap.size,0,none⟩ (.int .i64 (m:Int))=w5 at*;have HS5:=Lib.hid hx;clear hx c0 f0 e0 t0;have c0:w5.cell? ⟨w.heap.size,0,none⟩=some (.int .i64 (m:Int)):=HS5.out.bx.cell 0;go_upto_region 8 with(first|(go_at_call 68;(with_reducible refine(HI.out _ HS5.out.p).mono ?_);rintro e3 w6 ⟨rfl,k3⟩;have HS6:=Lib.hid (HS5.out.grew k3);clear k3)|(go_at_call 48;(with_reducible refine(NS.str (s:=decS m) HS6.out (decS_size HM.out) HT.out HGB.out).mono ?_);rintro e3 w7 ⟨⟨u,rfl⟩,hns⟩;have HS7:=Lib.hid hns;clear hns;have c1:w7.cell? ⟨w.heap.size,1,none⟩=some (.int .i64 (D:Int)):=HS7.out.bx.cell 1));go_wp2_with((go_at_call 69;(with_reducible refine(NS.byte (c:=41) HS7.out HT.out HGB.out:Calls _ _ #[.pointer (some ⟨g,0,none⟩),.int .u8 41] _ _).mono ?_);rintro e3 w9 ⟨⟨u,rfl⟩,hns⟩;have HS9:=Lib.hid hns;clear hns));refine bodyPost_ret (results_none rfl _ _ _) rfl ?_;exact HF.out _ _ _ HS9.out
  obtain⟨m,hm⟩:∃m:Nat,n= -(m:Int):=⟨n.natAbs,by omega⟩;have hpr:prNum n (D:Int)=40::(bl ⟨#[48,45]⟩++(bl (decS m)++(47::(bl (decS D)++[41])))):=by
   unfold prNum;rw[if_neg h0,if_pos hneg,if_neg hone,bl_decS,bl_decS,show n.natAbs=m by omega];rfl
  rw[hpr]at hns;have HI:=Lib.hid (fun w' (x:P10 w')=>itoaN_any m (by omega) w' x);have HM:=Lib.hid (show m≤1073741824 by omega);have HD:=Lib.hid (show D≤1073741824 by omega);have t0:decide (n<0)=true:=decide_eq_true hneg;have e0:IntKind.i64.wrap (-n)=(m:Int):=by rw[show -n=(m:Int) by omega];exact IntWalk.i64_in _ (by omega)
  have t1:((D:Int) !=1)=true:=by rw[bne,beq_eq_false_iff_ne.2 hone];rfl
  have HS1:=Lib.hid hns;clear hns hpr h0 hn hd hneg hone hm;go_upto_region 3 with(first|((with_reducible refine at_load 23 (.tmp 3) rfl ?_);refine ldN 23 Tryz.underlying23 rfl (.tmp 3) (w.heap.size) (fracL n (D:Int)) 23 infoF rfl rfl rfl HS1.out.bx ?_)|(go_at_call 67;(with_reducible refine(HN.out _).mono ?_);rintro e3 w2 ⟨rfl,k2⟩;have HS2:=Lib.hid (HS1.out.grew k2);have c0:w2.cell? ⟨w.heap.size,0,none⟩=some (.int .i64 n):=HS2.out.bx.cell 0;clear k2));clear c0;go_upto_region 4 with((go_at_call 69;(with_reducible refine(NS.byte (c:=40) HS2.out HT.out HGB.out:Calls _ _ #[.pointer (some ⟨g,0,none⟩),.int .u8 40] _ _).mono ?_);rintro e3 w3 ⟨⟨u,rfl⟩,hns⟩;have HS3:=Lib.hid hns;clear hns;have c0:w3.cell? ⟨w.heap.size,0,none⟩=some (.int .i64 n):=HS3.out.bx.cell 0));go_upto_region 6 with((go_at_call 48;(with_reducible refine(NS.str (s:=⟨#[48,45]⟩) HS3.out HZ.out HT.out HGB.out).mono ?_);rintro e3 w4 ⟨⟨u,rfl⟩,hns⟩;have HS4:=Lib.hid hns;clear hns;have c0:w4.cell? ⟨w.heap.size,0,none⟩=some (.int .i64 n):=HS4.out.bx.cell 0));have f0:w4.frozen? ⟨w.heap.size,0,none⟩=false:=HS4.out.bx.frozen 0;go_upto_region 7 with fail;have hx:=HS4.out.set_ HB.out HGB.out (m:Int);generalize w4.setCell ⟨w.heap.size,0,none⟩ (.int .i64 (m:Int))=w5 at*;have HS5:=Lib.hid hx;clear hx c0 f0 e0 t0;have c0:w5.cell? ⟨w.heap.size,0,none⟩=some (.int .i64 (m:Int)):=HS5.out.bx.cell 0;go_upto_region 8 with(first|(go_at_call 68;(with_reducible refine(HI.out _ HS5.out.p).mono ?_);rintro e3 w6 ⟨rfl,k3⟩;have HS6:=Lib.hid (HS5.out.grew k3);clear k3)|(go_at_call 48;(with_reducible refine(NS.str (s:=decS m) HS6.out (decS_size HM.out) HT.out HGB.out).mono ?_);rintro e3 w7 ⟨⟨u,rfl⟩,hns⟩;have HS7:=Lib.hid hns;clear hns;have c1:w7.cell? ⟨w.heap.size,1,none⟩=some (.int .i64 (D:Int)):=HS7.out.bx.cell 1));go_upto_region 10 with((go_at_call 69;(with_reducible refine(NS.byte (c:=47) HS7.out HT.out HGB.out:Calls _ _ #[.pointer (some ⟨g,0,none⟩),.int .u8 47] _ _).mono ?_);rintro e3 w8 ⟨⟨u,rfl⟩,hns⟩;have HS8:=Lib.hid hns;clear hns;clear c1;have c1:w8.cell? ⟨w.heap.size,1,none⟩=some (.int .i64 (D:Int)):=HS8.out.bx.cell 1));go_upto_region 11 with(first|(go_at_call 68;(with_reducible refine(HI2.out _ HS8.out.p).mono ?_);rintro e3 w9 ⟨rfl,k3⟩;have HS9:=Lib.hid (HS8.out.grew k3);clear k3)|(go_at_call 48;(with_reducible refine(NS.str (s:=decS D) HS9.out (decS_size HD.out) HT.out HGB.out).mono ?_);rintro e3 w10 ⟨⟨u,rfl⟩,hns⟩;have HS10:=Lib.hid hns;clear hns));go_wp2_with((go_at_call 69;(with_reducible refine(NS.byte (c:=41) HS10.out HT.out HGB.out:Calls _ _ #[.pointer (some ⟨g,0,none⟩),.int .u8 41] _ _).mono ?_);rintro e3 w19 ⟨⟨u,rfl⟩,hns⟩;have HS19:=Lib.hid hns;clear hns));refine bodyPost_ret (results_none rfl _ _ _) rfl ?_;exact HF.out _ _ _ HS19.out
 have hone:¬(D:Int)=1:=fun e=>h0 ⟨e,by omega⟩
 obtain⟨m,rfl⟩:∃m:Nat,n=(m:Int):=⟨n.natAbs,by omega⟩;have hpr:prNum (m:Int) (D:Int)=40::((bl (decS m)++(47::(bl (decS D)++[41])))):=by
  unfold prNum;rw[if_neg h0,if_neg hneg,if_neg hone,bl_decS,bl_decS];rfl
 rw[hpr]at hns;have HI:=Lib.hid (fun w' (x:P10 w')=>itoaN_any m (by omega) w' x);have HM:=Lib.hid (show m≤1073741824 by omega);have HD:=Lib.hid (show D≤1073741824 by omega);have t0:decide ((m:Int)<0)=false:=decide_eq_false hneg;have t1:((D:Int) !=1)=true:=by rw[bne,beq_eq_false_iff_ne.2 hone];rfl
 have HS1:=Lib.hid hns;clear hns hpr h0 hn hd hneg hone;go_upto_region 3 with(first|((with_reducible refine at_load 23 (.tmp 3) rfl ?_);refine ldN 23 Tryz.underlying23 rfl (.tmp 3) (w.heap.size) (fracL (m:Int) (D:Int)) 23 infoF rfl rfl rfl HS1.out.bx ?_)|(go_at_call 67;(with_reducible refine(HN.out _).mono ?_);rintro e3 w2 ⟨rfl,k2⟩;have HS2:=Lib.hid (HS1.out.grew k2);have c0:w2.cell? ⟨w.heap.size,0,none⟩=some (.int .i64 (m:Int)):=HS2.out.bx.cell 0;clear k2));clear c0;go_upto_region 4 with((go_at_call 69;(with_reducible refine(NS.byte (c:=40) HS2.out HT.out HGB.out:Calls _ _ #[.pointer (some ⟨g,0,none⟩),.int .u8 40] _ _).mono ?_);rintro e3 w3 ⟨⟨u,rfl⟩,hns⟩;have HS3:=Lib.hid hns;clear hns;have c0:w3.cell? ⟨w.heap.size,0,none⟩=some (.int .i64 (m:Int)):=HS3.out.bx.cell 0));go_upto_region 8 with(first|(go_at_call 68;(with_reducible refine(HI.out _ HS3.out.p).mono ?_);rintro e3 w4 ⟨rfl,k3⟩;have HS4:=Lib.hid (HS3.out.grew k3);clear k3)|(go_at_call 48;(with_reducible refine(NS.str (s:=decS m) HS4.out (decS_size HM.out) HT.out HGB.out).mono ?_);rintro e3 w5 ⟨⟨u,rfl⟩,hns⟩;have HS5:=Lib.hid hns;clear hns;have c1:w5.cell? ⟨w.heap.size,1,none⟩=some (.int .i64 (D:Int)):=HS5.out.bx.cell 1));go_upto_region 10 with((go_at_call 69;(with_reducible refine(NS.byte (c:=47) HS5.out HT.out HGB.out:Calls _ _ #[.pointer (some ⟨g,0,none⟩),.int .u8 47] _ _).mono ?_);rintro e3 w6 ⟨⟨u,rfl⟩,hns⟩;have HS6:=Lib.hid hns;clear hns;clear c1;have c1:w6.cell? ⟨w.heap.size,1,none⟩=some (.int .i64 (D:Int)):=HS6.out.bx.cell 1));go_upto_region 11 with(first|(go_at_call 68;(with_reducible refine(HI2.out _ HS6.out.p).mono ?_);rintro e3 w7 ⟨rfl,k3⟩;have HS7:=Lib.hid (HS6.out.grew k3);clear k3)|(go_at_call 48;(with_reducible refine(NS.str (s:=decS D) HS7.out (decS_size HD.out) HT.out HGB.out).mono ?_);rintro e3 w8 ⟨⟨u,rfl⟩,hns⟩;have HS8:=Lib.hid hns;clear hns));go_wp2_with((go_at_call 69;(with_reducible refine(NS.byte (c:=41) HS8.out HT.out HGB.out:Calls _ _ #[.pointer (some ⟨g,0,none⟩),.int .u8 41] _ _).mono ?_);rintro e3 w19 ⟨⟨u,rfl⟩,hns⟩;have HS19:=Lib.hid hns;clear hns));refine bodyPost_ret (results_none rfl _ _ _) rfl ?_;exact HF.out _ _ _ HS19.out
theorem good_valid {N D:Nat} {e:Ex} (h:GoodT N D e) (hN:N≤200) (hD:D≤12):validE e=0:=by
 unfold validE;rw[if_neg (by have:=h.1;have:=h.2.1;omega),(checkE_all _ e (Nat.le_refl _)).2 (AllE.mono (fun _ h=>h.2) (nodesE e) e (Nat.le_refl _) h.2.2)]
theorem good_ok {N D:Nat} {e:Ex} (h:GoodT N D e):AllE NodeOk e:=AllE.mono (fun _ h=>h.1) (nodesE e) e (Nat.le_refl _) h.2.2
theorem prNum_len (n d:Int) (hn:n.natAbs≤1073741824) (hd:d.natAbs≤1073741824):0<(prNum n d).length∧(prNum n d).length≤2000:=by
 have a1:=dcN_len 9 n.natAbs (by omega);have a2:=dcN_len 9 d.toNat (by omega);have a3:=dcN_len 9 n.toNat (by omega);have a4:=(dcN_spec n.toNat).2.2;unfold prNum;split
 ·omega
 simp only[List.length_cons,List.length_append,List.length_nil];have b1:(if n<0 then[48,45]else[]).length≤2:=by split<;>simp
 have b2:(if d=1 then[]else 47::dcN d.toNat).length≤11:=by split<;>simp<;>omega
 omega
theorem prNum_bytes (n d:Int):Bytes (prNum n d):=by
 have hdc:∀m,∀c∈dcN m,c<256:=fun m c hc=>by have:=(dcN_spec m).2.1 c hc;omega
 intro c hc;unfold prNum at hc;split at hc
 ·exact hdc _ c hc
 simp only[List.mem_cons,List.mem_append]at hc;rcases hc with rfl|hc|hc|hc|hc
 ·decide
 ·split at hc<;>simp at hc;omega
 ·exact hdc _ c hc
 ·split at hc
  ·cases hc
  rcases List.mem_cons.1 hc with rfl|hc
  ·decide
  exact hdc _ c hc
 rcases hc with rfl|hc
 ·decide
 cases hc
theorem printableN_any (n d:Int) (hn:n.natAbs≤1073741824) (hd:d≤1073741824) (w:World):
  Calls Tryz.prog 20 #[.agg (numL n d).toArray] w fun e' w'=>e'= .returned (.bool true)∧Grew w w':=by
 have hbx:=Box.new w 34 (numL n d).toArray;have hG:=(Grew.refl w).alloc (.cells (numL n d).toArray 34);have t1:decide (n≥ -1073741824)=true:=by rw[decide_eq_true_iff];omega
 have t2:decide (n≤1073741824)=true:=by rw[decide_eq_true_iff];omega
 have t3:decide (d≤1073741824)=true:=decide_eq_true hd;go_enter Tryz.func20,Tryz.ntmps20;go_upto_region 1 with fail;change Code.wp _ _ _ _ (w.alloc (.cells (numL n d).toArray 34));generalize w.alloc (.cells (numL n d).toArray 34)=w1 at*;have HG:=Lib.hid hG;have c0:w1.cell? ⟨w.heap.size,0,none⟩=some (.int .i64 0):=hbx.cell 0;have c5:w1.cell? ⟨w.heap.size,5,none⟩=some (.int .i64 n):=hbx.cell 5;have c6:w1.cell? ⟨w.heap.size,6,none⟩=some (.int .i64 d):=hbx.cell 6;clear hbx hG hn hd;go_wp2_with fail;go_ret;exact⟨rfl,HG.out⟩
theorem writeN_any (n d:Int) (hn:n.natAbs≤1073741824) (hd:1≤d∧d≤1073741824) (base g:Nat) (w:World) (bs:List Nat) (hp:P10 w) (hob:6<base) (h:WS w base g bs) (hl:(bs++prNum n d).length<900000000):
  Calls Tryz.prog 21 #[.pointer (some ⟨g,0,none⟩),.agg (numL n d).toArray] w (WPost base g (bs++prNum n d) w):=by
 have hb:=Box.new w 34 (numL n d).toArray;have hg:=(Grew.refl w).alloc (.cells (numL n d).toArray 34);have HW:=Lib.hid (And.intro (h.grew hg) (And.intro h.2.1 (hp.grew hg)));have HN:=Lib.hid (fun w' (h:WS w' base g bs) (hp:P10 w')=>wrNumN_any w' base g bs n d hn hd h hp hob hl);clear h hl hob hp hn hd;go_enter Tryz.func21,Tryz.ntmps21;go_upto_region 1 with fail;change Code.wp _ _ _ _ (w.alloc (.cells (numL n d).toArray 34));generalize w.alloc (.cells (numL n d).toArray 34)=w1 at*;have c0:w1.cell? ⟨w.heap.size,0,none⟩=some (.int .i64 0):=hb.cell 0;have hrf:w1.rangeAt w.heap.size 5 (fracL n d):=hb.rangeN 5 (fracL n d) rfl;have HG:=Lib.hid hg;clear hg hb;go_wp2_with(first|((with_reducible refine at_load 23 (.tmp 10) rfl ?_);refine wpList_load_mid rfl 23 (.tmp 10) rfl w.heap.size 5 rfl (fracL n d) _ hrf Tryz.underlying23 rfl infoF ?_)|(go_at_call 43;(with_reducible refine(HN.out w1 HW.out.1 HW.out.2.2).mono ?_);rintro e3 w4 ⟨⟨u,rfl⟩,hws,hk,hkb⟩;have HF:=Lib.hid (And.intro hws (And.intro hk hkb));clear hws hk hkb));go_end0;exact⟨⟨_,rfl⟩,HF.out.1,Keeps.then_ (Grew.keeps HG.out) HF.out.2.1 fun i _ h=>h,(KB.grew HG.out).trans HF.out.2.2⟩
def PrintNPost (n d:Int) (w:World) (e':Ending) (w':World):Prop:=∃s,e'= .returned (.tuple #[.string s,.int .i64 0])∧bl s=prNum n d∧Grew w w'
theorem printN_any (n d:Int) (hv:validF n d=true) (hn:n.natAbs≤1073741824) (hd:d≤1073741824) (w:World) (hwt:WTab w) (hp10:P10 w):
  Calls Tryz.prog 7 #[.agg (numL n d).toArray] w (PrintNPost n d w):=by
 have hv0:=valid_nums hv;have hl:=prNum_len n d hn (by omega);have hby:=prNum_bytes n d;have hr:RdE w w.heap.size (numE n d) (numL n d):=RdEQ.toB (fun b (hb:b<w.heap.size)=>hb) _ _ (numL_rd w (fun b=>b<w.heap.size) n d).loose;have hb:=Box.new w 34 (numL n d).toArray;have hg:=(Grew.refl w).alloc (.cells (numL n d).toArray 34);have HR:=Lib.hid (fun w' (g:Grew w w')=>hr.grew g);have HVd:=Lib.hid (fun w' (g:Grew w w')=>pvalid_any (numE n d) (Nat.le_trans (num_good hv).1 (by decide)) (good_ok (num_good hv)) w' (numL n d) (hwt.grew g) (hr.grew g));rw[show validE (numE n d)=0 from good_valid (num_good hv) (by decide) (by decide)]at HVd;have HPb:=Lib.hid (fun w' (g:Grew w w')=>printableN_any n d hn hd w');have HOT:=Lib.hid (fun w' (g:Grew w w')=>hp10.grew g);have HL:=Lib.hid (And.intro hl hby);have HNn:=Lib.hid (And.intro hn (And.intro (show 1≤d by omega) hd));have hcl:(numL n d).length=11:=rfl;clear hr hv hv0 hl hby hwt hp10 hn hd hcl;go_enter Tryz.func7,Tryz.ntmps7;go_upto_region 1 with fail;change Code.wp _ _ _ _ (w.alloc (.cells (numL n d).toArray 34));generalize w.alloc (.cells (numL n d).toArray 34)=w1 at*;have HG:=Lib.hid hg;have HB:=Lib.hid hb;clear hg;go_upto_region 2 with(first|((with_reducible refine at_load 34 (.tmp 1) rfl ?_);refine ldN 34 Tryz.underlying34 rfl (.tmp 1) (w.heap.size) (numL n d) 34 infoX rfl rfl rfl hb ?_)|(go_at_call 19;(with_reducible refine(HVd.out _ HG.out).mono ?_);rintro e3 w2 ⟨rfl,k2⟩;have HG2:=Lib.hid (HG.out.trans k2);have hb2:=HB.out.grew k2;clear k2));clear hb;go_upto_region 6 with(first|((with_reducible refine at_load 34 (.tmp 1) rfl ?_);refine ldN 34 Tryz.underlying34 rfl (.tmp 1) (w.heap.size) (numL n d) 34 infoX rfl rfl rfl hb2 ?_)|(go_at_call 20;(with_reducible refine(HPb.out _ HG2.out).mono ?_);rintro e3 w3 ⟨rfl,k3⟩;have HG3:=Lib.hid (HG2.out.trans k3);have hb3:=hb2.grew k3;clear k3));have HB3:=Lib.hid hb3;clear hb2 hb3;go_upto_region 7 with fail;have hbs:=Box.new w3 48 #[.pointer none,.slice none 0 0];have hg4:=(Grew.refl w3).alloc (.cells #[.pointer none,.slice none 0 0] 48);have hws:WS (w3.alloc (.cells #[.pointer none,.slice none 0 0] 48)) w3.heap.size w3.heap.size []:=⟨Nat.le_refl _,by simp,_,_,hbs,Mine.nil _ _ _,.inl rfl⟩;generalize w3.alloc (.cells #[.pointer none,.slice none 0 0] 48)=w4 at*;have HWS:=Lib.hid hws;have HWr:=Lib.hid (writeN_any n d HNn.out.1 HNn.out.2 w3.heap.size w3.heap.size w4 [] ((HOT.out _ HG3.out).grew hg4) (HOT.out _ HG3.out).1 hws (by have:=HL.out.1;simp;omega));have hb4:=HB3.out.grew hg4;have HG4:=Lib.hid hg4;clear hbs hg4 hws;go_upto_region 8 with(first|((with_reducible refine at_load 34 (.tmp 1) rfl ?_);refine ldN 34 Tryz.underlying34 rfl (.tmp 1) (w.heap.size) (numL n d) 34 infoX rfl rfl rfl hb4 ?_)|(go_at_call 21;(with_reducible refine HWr.out.mono ?_);rintro e3 w5 ⟨⟨u,rfl⟩,hws5,hk5, -⟩;have HW5:=Lib.hid hws5;have HK5:=Lib.hid (show Grew w3 w5 from Keeps.then_ HG4.out hk5 fun i hi e=>by omega);clear hws5 hk5));have HLn:=Lib.hid (sbLen_any w5 w3.heap.size w3.heap.size _ HW5.out);rw[List.nil_append]at HLn HW5;obtain⟨ln,hln⟩:∃ln,(prNum n d).length=ln:=⟨_,rfl⟩;rw[hln]at HLn;have tl:decide ((ln:Int)>2000)=false:=by rw[decide_eq_false_iff_not];have:=HL.out.1;omega
 have HStr:=Lib.hid (show Calls Tryz.prog 23 #[.pointer (some ⟨w3.heap.size,0,none⟩)] w5 (fun e1 w'=>∃s,e1= .returned (.string s)∧bl s=prNum n d∧Keeps (fun i=>w3.heap.size≤i) w5 w')from by
  obtain⟨-, -,p,v,hsb⟩:=HW5.out;exact sbString_any w3.heap.size w3.heap.size p v (prNum n d) w5 hsb HL.out.1.1 HL.out.2 (by have:=HL.out.1;omega))
 have HLX:=Lib.hid hln;clear hln;go_wp2_with(first|(go_at_call 22;(with_reducible refine HLn.out.mono ?_);rintro e3 w9 ⟨rfl,hw9⟩;obtain rfl:=hw9.symm;clear hw9)|(go_at_call 23;(with_reducible refine HStr.out.mono ?_);rintro e3 w6 ⟨s,rfl,hs,hk6⟩;have HS6:=Lib.hid (And.intro hs hk6);clear hs hk6));refine bodyPost_ret (by simp[results,Tryz.func7];rfl) rfl ?_;exact⟨s,rfl,HS6.out.1,HG3.out.trans (Keeps.then_ HK5.out HS6.out.2 fun i hi e=>by omega)⟩
end Go.Proofs.YtcimmbhdcebehaaGreatDoor
namespace Go.Proofs.YtcimmbhdcebehaaGreatDoor
section
variable {P:Program} {ops:Array Oper} {Q:Exit→Act→World→Prop}
def freeOf (l:List Oper) (t:Tmp):Bool:=l.all fun o=>o.dst !=some t
def okSeq (ops:Array Oper):List Oper→Bool
 |[]=>true
 |o::r=>(match o.guard with
   |none=>true
   |some (j,_)=>match ops[j]? with
    |some oj=>match oj.dst with
     |some t=>freeOf (o::r) t
     |none=>true
    |none=>true)&&(o.op.operands.all fun x=>match x with
   | .tmp t=>freeOf (o::r) t
   |_=>true)&&okSeq ops r
theorem free_spec {l:List Oper} {t:Tmp} (h:freeOf l t=true):∀o∈l,o.dst≠some t:=fun o ho e=>by
 have:=List.all_eq_true.1 h o ho;rw[e]at this;simp at this
theorem seq_all {G:Act} {w0:World} (T:∀w,Grew w0 w→Q .normal G w):∀(l:List Oper),okSeq ops l=true→(∀o∈l,∀cs b,o.op≠.select cs b)→HeadsG P ops w0 G l→∀(a:Act) (w:World),
  (∀k,(∀o∈l,o.dst≠some k)→a.tmps[k]? =G.tmps[k]?)→a.tmps.size=G.tmps.size→a.defers=G.defers→Grew w0 w→wpList P ops Q l a w
 |[],_,_,_,a,w,hk,hs,hd,hg=>by
  have ht:a.tmps=G.tmps:=Array.ext_getElem? fun k=>hk k fun o ho=>by cases ho
  have:a=G:=by
   cases a;cases G;simp at ht hd;rw[ht,hd]
  subst this;unfold wpList;exact T w hg
 |o::r,hok,hns,hH,a,w,hk,hs,hd,hg=>by
  unfold okSeq at hok;simp only[Bool.and_eq_true]at hok;obtain⟨⟨hgd,hopr⟩,hok⟩:=hok;have slot:∀t,freeOf (o::r) t=true→a.tmps[t]? =G.tmps[t]? :=fun t h=>hk t (free_spec h)
  have hwt:Region.wanted o (yielded ops a.tmps)=Region.wanted o (yielded ops G.tmps):=by
   unfold Region.wanted;cases hg:o.guard with
   |none=>rfl
   |some p=>
    obtain⟨j,b⟩:=p;rw[hg]at hgd;simp only at hgd ⊢;have:yielded ops a.tmps j=yielded ops G.tmps j:=by
     unfold yielded;cases hoj:ops[j]? with
     |none=>rfl
     |some oj=>
      rw[hoj]at hgd;simp only at hgd;cases hdj:oj.dst with
      |none=>simp[hdj]
      |some t=>
       rw[hdj]at hgd;simp only[Option.bind_some,hdj];rw[slot t hgd]
    rw[this]
  have key:∀v w',(G.put o.dst v=G)→Grew w w'→wpList P ops Q r (a.put o.dst v) w':=fun v w' hv hgr=>by
   refine seq_all T r hok (fun o' ho'=>hns o' (List.mem_cons_of_mem _ ho')) hH.2 _ _ (fun k hkk=>?_) ?_ ?_ (hg.trans hgr)
   ·cases hdo:o.dst with
    |none=>
     refine hk k fun o' ho'=>?_
     rcases List.mem_cons.1 ho' with rfl|ho'
     ·rw[hdo];simp
     exact hkk o' ho'
    |some d=>
     rw[hdo]at hv;rw[put_get];by_cases hdk:d=k
     ·subst hdk;rw[if_pos rfl];have h1:(G.put (some d) v).tmps[d]? =G.tmps[d]? :=by rw[hv]
      rw[put_get,if_pos rfl]at h1;rw[←h1,hs]
     rw[if_neg hdk];refine hk k fun o' ho'=>?_
     rcases List.mem_cons.1 ho' with rfl|ho'
     ·rw[hdo];simpa using hdk
     exact hkk o' ho'
   ·cases o.dst with
    |none=>exact hs
    |some d=>simp only[Act.put,Array.size_setIfInBounds];exact hs
   cases o.dst with
   |none=>exact hd
   |some d=>exact hd
  refine wpList_step fun K hK=>?_
  rw[hwt];obtain⟨hst1,hst2⟩:=hH.1;cases hww:Region.wanted o (yielded ops G.tmps)with
  |true=>
   rw[if_pos rfl];have h1:=wp_transfer (Q:=Q) (K:=K) (a:=a) (fun cs b=>hns o List.mem_cons_self cs b) (hst1 hww w hg) (fun x hx=>?_) fun v w' hv hgr=>hK _ _ (key v w' hv hgr)
   ·exact h1
   cases x with
   |tmp t=>
    have h1:=Array.all_eq_true'.1 hopr _ hx;simp only[Act.eval,Array.getD_eq_getD_getElem?,slot t h1]
   |_=>rfl
  |false=>
   rw[if_neg (by simp)];exact hK _ _ (key undef w (hst2 hww) (Grew.refl _))
theorem seq_G {l:List Oper} {a:Act} {w:World} (vals:List Value) (G:Act) (hok:okSeq ops l=true) (hns:(l.all fun o=>match o.op with| .select _ _=>false|_=>true)=true)
  (hG:G=putAll l vals a) (hH:HeadsG P ops w G l) (h:∀w1,Grew w w1→Q .normal G w1):wpList P ops Q l a w:=by
 refine seq_all h l hok (fun o ho cs b e=>?_) hH a w (fun k hk=>?_) ?_ ?_ (Grew.refl _)
 ·have:=List.all_eq_true.1 hns o ho;rw[e]at this;cases this
 ·rw[hG];exact(putAll_get _ _ _ k hk).symm
 ·rw[hG];exact(putAll_size _ _ _).1.symm
 rw[hG];exact(putAll_size _ _ _).2.symm
theorem region_seqG {id:Nat} {a:Act} {w:World} (vals:List Value) (G:Act) (hok:okSeq ops ops.toList=true) (hns:(ops.toList.all fun o=>match o.op with| .select _ _=>false|_=>true)=true)
  (hG:G=putAll ops.toList vals a) (hH:HeadsG P ops w G ops.toList) (h:∀w1,Grew w w1→Q .normal G w1):(Code.region id ops false).wp P Q a w:=by
 refine wp_region ?_;have h1:=seq_G (Q:=Q) vals G hok hns hG hH h;rw[←wpOps_eq_wpList ops.toList 0 (fun j=>by simp)]at h1;rw[List.range_eq_range'];simpa using h1
theorem ld_one {o:Oper} {a:Act} {w:World} {K:Act→World→Prop} (T:TypeId) (x:Operand) {b k:Nat} {v:Value} (hl:∀(w:World) (v:Value),w.cell? ⟨b,k,none⟩=some v→(loadVar T ⟨b,k,none⟩).run P w= .ok v w) (ho:o.op= .load T x) (hx:a.eval x= .pointer (some ⟨b,k,none⟩)) (hc:w.cell? ⟨b,k,none⟩=some v) (hK:K (a.put o.dst v) w):o.wp P a w K Q:=by
 unfold Oper.wp execOp;simp only[ho,hx,Instr.loadAt,Instr.sureAddr,Sem.run_bind,Sem.run_pure,Result.andThen_ok,hl w v hc];exact hK
theorem pure_step {o:Oper} {rest:List Oper} {a:Act} {w:World} (v:Value) (hgd:o.guard=none) (hy:∀w,(execOp a.eval o).run P w= .ok (.value v) w) (h:wpList P ops Q rest (a.put o.dst v) w):wpList P ops Q (o::rest) a w:=
 wpList_plain hgd fun K hK=>by
  unfold Oper.wp;rw[hy];exact hK _ _ h
end
end Go.Proofs.YtcimmbhdcebehaaGreatDoor
