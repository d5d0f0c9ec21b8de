/- What the card of the law stands on: LexC, RangeX. -/
import Derived.Test.YthpflelgbadkcaaGreatDoorRewriteTypesP05
import Derived.Test.YthpflelgbadkcaaGreatDoorRewriteTypesP31
import Derived.Test.YthpflelgbadkcaaGreatDoorRewriteTypesP04
import Derived.Test.YthpflelgbadkcaaGreatDoorRewriteTypesP01
import Derived.RangeFuncNested
import Derived.RangeFuncBound
import Derived.RangeFuncCalls
import Derived.RangeFuncLeaves
set_option maxRecDepth 100000
set_option maxHeartbeats 12800000
set_option linter.unusedVariables false
set_option linter.unusedSimpArgs false
namespace Go.Proofs.YthpflelgbadkcaaGreatDoor
open Go.RowKit Go.Shelf Pl
attribute [local go_sem] Oper.semAt_some
inductive Dq (s:ByteArray):Nat→List C7→Prop
 |stop {i:Nat}:s.size≤i→Dq s i []
 |blank {i:Nat} {ts:List C7}:i<s.size→blank (FR s i)=true→Dq s (i+1) ts→Dq s i ts
 |tok {i j:Nat} {t:C7} {ts:List C7}:i<s.size→blank (FR s i)=false→GJ s i=some (t,j)→Dq s j ts→Dq s i (t::ts)
theorem GO {s:ByteArray}:∀(k i:Nat) (ts:List C7),Oc s k i=some ts→Dq s i ts
 |0,i,ts,h=>by cases h
 |k+1,i,ts,h=>by
  unfold Oc at h;by_cases hi:i<s.size
  ·rw[VN hi]at h;rcases hb:blank (FR s i)
   ·rw[hb,VM (by simp)]at h;cases ht:GJ s i with
    |none=>rw[ht]at h;cases h
    |some p=>
     obtain⟨t,j⟩:=p;rw[ht]at h;dsimp only at h;cases hr:Oc s k j with
     |none=>rw[hr]at h;cases h
     |some us=>
      rw[hr]at h;obtain rfl:t::us=ts:=by simpa using h
      exact .tok hi hb ht (GO k j us hr)
   rw[hb,VN rfl]at h;exact .blank hi hb (GO k (i+1) ts h)
  rw[VM hi]at h;obtain rfl:[]=ts:=by simpa using h
  exact .stop (by omega)
def FE (w0:World) (bt M:Nat) (pre:List C7) (W:World):Prop:=∃v,AR W bt 143 #[v]∧B8 W M 184 4 v (pre.map C7.cells)∧A4 w0 W
def NX (bt:Nat) (W:World) (i:Nat):Prop:=i=bt∨∃v,W.cell? ⟨bt,0,none⟩=some v∧v.ownBlock=some i
theorem FE.keep {w0 A B:World} {bt M:Nat} {pre:List C7} {S:Nat→Prop} (h:FE w0 bt M pre A) (k:AA S A B) (h1:¬S bt) (h2:∀i,M≤i→¬S i) (h3:∀i,S i→w0.heap.size≤i):FE w0 bt M pre B:=by
 obtain⟨v,hb,hm,hg⟩:=h;exact⟨v,hb.keep k h1,hm.keep k (fun i hi=>h2 i (hm.lt i hi).1),VV hg k fun i hi e=>by have:=h3 i e;omega⟩
def Su (g bt M l D:Nat) (w0:World) (oL oD:Obj) (s:ByteArray) (ts:List C7) (W:World) (i:Nat) (pre us:List C7):Prop:=E1 W g s i 0∧FE w0 bt M pre W∧W.heap[l]? =some oL∧W.heap[D]? =some oD∧Dq s i us∧pre++us=ts
theorem Su.grew {g bt M l D:Nat} {w0 A B:World} {oL oD:Obj} {s:ByteArray} {ts:List C7} {i:Nat} {pre us:List C7} (h:Su g bt M l D w0 oL oD s ts A i pre us) (k:A4 A B):Su g bt M l D w0 oL oD s ts B i pre us:=
 ⟨h.1.grew k,h.2.1.keep k (fun h=>h) (fun _ _ h=>h) (fun _ h=>h.elim),(k.block l (VK.1 h.2.2.1).1 (fun h=>h)).trans h.2.2.1,(k.block D (VK.1 h.2.2.2.1).1 (fun h=>h)).trans h.2.2.2.1,h.2.2.2.2⟩
theorem Ls {s:ByteArray} {i:Nat} {us:List C7} (h:Dq s i us) (hi:i<s.size) (hb:blank (FR s i)=true):Dq s (i+1) us:=by
 cases h with
 |stop h=>omega
 |blank _ _ h=>exact h
 |tok _ h2 _ _=>rw[hb]at h2;cases h2
theorem PI {s:ByteArray} {i:Nat} {us:List C7} (h:Dq s i us) (hi:i<s.size) (hb:blank (FR s i)=false):∃t j ts,us=t::ts∧GJ s i=some (t,j)∧Dq s j ts:=by
 cases h with
 |stop h=>omega
 |blank _ h2 _=>rw[hb]at h2;cases h2
 |tok _ _ h3 h4=>exact⟨_,_,_,rfl,h3,h4⟩
theorem Gp {s:ByteArray} {i j:Nat} {t:C7} (h:GJ s i=some (t,j)) (hl:GH (FR s i)=true):Bv s Ck (s.size-i) i-i≤16∧t=⟨0,s.extract i (Bv s Ck (s.size-i) i),0,i⟩∧j=Bv s Ck (s.size-i) i:=by
 unfold GJ at h;rw[hl,VN rfl]at h;split at h
 ·rename_i h1
  injection h with h;injection h with h2 h3;exact⟨h1,h2.symm,h3.symm⟩
 cases h
theorem F1 {s:ByteArray} {i j:Nat} {t:C7} (h:GJ s i=some (t,j)) (hl:GH (FR s i)=false) (hd:C8 (FR s i)=true):Fb s i (Bv s C8 (s.size-i) i-i)≤1073741824∧t=⟨1,s.extract i (Bv s C8 (s.size-i) i),Fb s i (Bv s C8 (s.size-i) i-i),i⟩∧j=Bv s C8 (s.size-i) i:=by
 unfold GJ at h;rw[hl,hd,VM (by simp),VN rfl]at h;split at h
 ·rename_i h1
  injection h with h;injection h with h2 h3;exact⟨h1,h2.symm,h3.symm⟩
 cases h
theorem F0 {s:ByteArray} {i j:Nat} {t:C7} (h:GJ s i=some (t,j)) (hl:GH (FR s i)=false) (hd:C8 (FR s i)=false):FR s i≠34∧CZ s i≠0∧t=⟨3,s.extract i (i+CZ s i),0,i⟩∧j=i+CZ s i:=by
 unfold GJ at h;rw[hl,hd,VM (by simp),VM (by simp)]at h;split at h
 ·cases h
 ·rename_i h1
  split at h
  ·cases h
  ·rename_i h2
   injection h with h;injection h with h3 h4;exact⟨h1,h2,h3.symm,h4.symm⟩
theorem Iq {w0 A B:World} {bt M i:Nat} {pre:List C7} (h:FE w0 bt M pre A) (hc:B.cell? ⟨bt,0,none⟩=A.cell? ⟨bt,0,none⟩) (hs:NX bt B i):i=bt∨(M≤i∧i<A.heap.size):=by
 rcases hs with hs|⟨v,hv,ho⟩
 ·exact .inl hs
 obtain⟨v',hb,hm, -⟩:=h;rw[hc,show A.cell? ⟨bt,0,none⟩=some v' from hb.cell 0]at hv;obtain rfl:v'=v:=by simpa using hv
 exact .inr (hm.lt i ho)
theorem G6 {s:ByteArray} {i:Nat} (hi:i<s.size) (h:CZ s i≠0):i+CZ s i≤s.size∧1≤CZ s i:=by
 rcases JU rfl h with⟨h1, -⟩|⟨h1, -,h2, -⟩<;>omega
theorem DG {s:ByteArray} {i j:Nat} (h1:i≤j) (h2:j≤s.size):(s.extract i j).size=j-i:=by
 rw[ByteArray.size_extract];omega
theorem Ro (l g bt M:Nat) (w0:World) (oL oD:Obj) (D:Nat) (s:ByteArray) (hs:s.size≤1000000) (hg:w0.heap.size≤g∧g<bt∧bt<M∧M≤D∧D<l) (ts:List C7) (hlx:Dq s 0 ts)
  (hY:∀pre (x:C7) W1,(∃us,pre++x::us=ts)→FE w0 bt M pre W1→W1.heap[l]? =some oL→W1.heap[D]? =some oD→YieldAt Fence.wide 3 Tryz.prog l #[.agg x.cells.toArray] W1 fun e W'=>
   e= .returned (.bool true)∧FE w0 bt M (pre++[x]) W'∧W'.heap[l]? =some oL∧W'.heap[D]? =some oD∧AA (NX bt W1) W1 W')
  (W:World) (hq:E1 W g s 0 0) (h0:FE w0 bt M [] W) (hl:W.heap[l]? =some oL) (hd:W.heap[D]? =some oD):
  CallsIn Fence.wide 4 Tryz.prog 124 #[.pointer (some ⟨g,0,none⟩),.func (.yield l) #[] #[]] W fun e W'=>(∃v,e= .returned v)∧
   ∃xs,(xs=ts∧FE w0 bt M xs W'∧E1 W' g s s.size 0)∧W'.heap[l]? =some oL∧W'.heap[D]? =some oD:=by
 refine callsIn_of_wp Tryz.func124 rfl trivial ?_ rfl;simp only[Tryz.ntmps124,List.size_toArray,List.length_cons,List.length_nil,Nat.reduceAdd,Nat.reduceSub,Array.replicate_succ,Array.replicate_zero,List.push_toArray,List.append_toArray,List.nil_append,List.cons_append];have HY:=V3 hY;have HLX:=V3 hlx;have HQ:=V3 hq;have H0:=V3 h0;have HLD:=V3 (V5 hl hd);have hmx:Tryz.prog.follows .mixedOrders=true:=by kernel_rfl
 clear hY hlx hq h0 hl hd
 gi_wp2
 gi_loopw [] (fun wr=>∃(i:Nat) (pre us:List C7),i≤s.size∧E1 wr g s i 0∧FE w0 bt M pre wr∧wr.heap[l]? =some oL∧wr.heap[D]? =some oD∧Dq s i us∧pre++us=ts) (fun wr=>s.size-(match wr.cell? ⟨g,1,none⟩with|some v=>(intOf v).toNat|none=>0))
 case atStart=>exact⟨0,[],ts,Nat.zero_le _,HQ.out,H0.out,HLD.out.1,HLD.out.2,HLX.out,rfl⟩
 case round=>
  obtain⟨i,pre,us,hi,hsr,hti,hl,hd,hlx,hpre⟩:=hrel;have c0:wr.cell? ⟨g,0,none⟩=some (.string s):=hsr.cell 0;have c1:wr.cell? ⟨g,1,none⟩=some (.int .i64 (i:Nat)):=hsr.cell 1;have HST:=V3 (show Su g bt M l D w0 oL oD s ts wr i pre us from⟨hsr,hti,hl,hd,hlx,hpre⟩);clear hsr hti hl hd hlx hpre
  gi_wp2
  by_cases hlt:i<s.size
  ·have t0:decide ((i:Int)<(s.size:Int))=true:=by simp;omega
   gi_quiet (fail)
   have hgq:A4 wr (wr.drewN nq):=Va (VU wr) nq;have HS2:=V3 (HST.out.grew hgq);clear c0 c1;generalize wr.drewN nq=w2 at*;clear hgq
   gi_wp2
   change Code.wpIn _ _ _ _ _ _ (w2.alloc (.cells [.int .i64 0,.string ⟨#[]⟩,.int .i64 0,.int .i64 0].toArray 184));have hgz:=(VU w2).alloc (.cells [.int .i64 0,.string ⟨#[]⟩,.int .i64 0,.int .i64 0].toArray 184);have hbz:=VW w2 184 [.int .i64 0,.string ⟨#[]⟩,.int .i64 0,.int .i64 0].toArray;obtain⟨w3,hw3⟩:∃w',w2.alloc (.cells [.int .i64 0,.string ⟨#[]⟩,.int .i64 0,.int .i64 0].toArray 184)=w':=⟨_,rfl⟩;rw[hw3]at hgz hbz;rw[hw3];have HS3:=V3 (HS2.out.grew hgz);have HBZ:=V3 hbz;have HZ:=V3 hgz;clear hgz hbz hw3;have c0:w3.cell? ⟨g,0,none⟩=some (.string s):=HS3.out.1.cell 0;have c1:w3.cell? ⟨g,1,none⟩=some (.int .i64 (i:Nat)):=HS3.out.1.cell 1;obtain⟨b,hbe⟩:∃b,(s[i]'hlt).toNat=b:=⟨_,rfl⟩;have LP:=hlt;have HCH:=V3 (IA hlt hbe)
   gi_quiet (fail)
   have hgq:A4 w3 (w3.drewN nq):=Va (VU w3) nq;have HS4:=V3 (HS3.out.grew hgq);have HBZ4:=V3 (HBZ.out.grew hgq);have HZ4:=V3 (HZ.out.trans hgq);clear c0 c1;generalize w3.drewN nq=w4 at*;clear hgq;have c0:w4.cell? ⟨g,0,none⟩=some (.string s):=HS4.out.1.cell 0;have c1:w4.cell? ⟨g,1,none⟩=some (.int .i64 (i:Nat)):=HS4.out.1.cell 1;have f1:w4.frozen? ⟨g,1,none⟩=false:=HS4.out.1.frozen 1;have hz4:w2.heap.size<w4.heap.size:=HBZ4.out.lt;have HMZ:=V3 (show M≤w2.heap.size from by
    have h1:=(VK.1 HS2.out.2.2.2.1).1;omega)
   have HBU:=V3 (show b<256 from by rw[←hbe];exact(s[i]'hlt).toNat_lt);rcases hbl:blank b
   ·have hnb:=hbl;unfold blank at hnb;have hnb':¬(b=9∨b=10∨b=13∨b=32):=by simpa using hnb
    clear hnb;have e9:((b:Int)==9)=false:=by rw[V4];omega
    have e10:((b:Int)==10)=false:=by rw[V4];omega
    have e13:((b:Int)==13)=false:=by rw[V4];omega
    have e32:((b:Int)==32)=false:=by rw[V4];omega
    clear hnb';obtain⟨t,j,us',rfl,htk,hlx⟩:=PI HS4.out.2.2.2.2.1 hlt (by rw[HCH.out];exact hbl);clear hbl;rcases hlc:GH b
    ·rcases hdc:C8 b
     ·obtain⟨h34,hsl,rfl,rfl⟩:=F0 htk (by rw[HCH.out];exact hlc) (by rw[HCH.out];exact hdc);have HL:=V3 (show Calls Tryz.prog 137 #[.int .u8 b] w4 (fun e w'=>e= .returned (.bool false)∧w'=w4)from by have h:=EO b w4;rwa[hlc]at h);have HDg:=V3 (show Calls Tryz.prog 139 #[.int .u8 b] w4 (fun e w'=>e= .returned (.bool false)∧w'=w4)from by have h:=F8 b w4;rwa[hdc]at h);have hj1:=(G6 hlt hsl).2;have hj2:=(G6 hlt hsl).1;have HT:=V3 (N6 w4 g s i HS4.out.1 hlt hs hsl);have e34:((b:Int)==34)=false:=by rw[V4];have:=HCH.out;omega
      obtain⟨r,hr⟩:∃r,i+CZ s i=r:=⟨_,rfl⟩;rw[hr]at hj2 HT hlx HS4 HS2;have hj:i<r:=by omega
      clear hj1;have HLX2:=V3 hlx;have HJ:=V3 (V5 hj hj2);clear hlx htk hlc hsl hdc h34 hr hj hj2
      gi_wp2_with (first|(refine⟨trivial,?_⟩;gi_at_call 137;refine(callsIn_wide.2 HL.out).mono ?_;rintro e3 w4 ⟨rfl,rfl⟩)|(refine⟨trivial,?_⟩;gi_at_call 139;refine(callsIn_wide.2 HDg.out).mono ?_;rintro e3 w4 ⟨rfl,rfl⟩)|(refine⟨trivial,?_⟩;gi_at_call 142;refine(callsIn_wide.2 HT.out).mono ?_;rintro e3 w5 ⟨rfl,k5⟩;have hb5:=HBZ4.out.grew k5;have HK5:=V3 k5;clear k5)|((with_reducible refine Fx 184 (.tmp 4) (.tmp 27) rfl ?_);refine Kq 184 (.tmp 4) (.tmp 27) w2.heap.size [.int .i64 3,.string (s.extract i r),.int .i64 0,.int .i64 (i:Nat)] [.int .i64 0,.string ⟨#[]⟩,.int .i64 0,.int .i64 0] 184 E4 rfl (Cp _ _ _ _) rfl rfl rfl rfl hb5 ?_;intro w8 hb8 k8 d8;have hg28:A4 w2 w8:=VV (HZ4.out.trans HK5.out) k8 (fun i hi e=>by omega);have HS8:=V3 (HS2.out.grew hg28);obtain⟨fn,tmps,assign,body,hy0,hR⟩:=HY.out pre ⟨3,s.extract i r,0,i⟩ w8 ⟨us',HS8.out.2.2.2.2.2⟩ HS8.out.2.1 HS8.out.2.2.1 HS8.out.2.2.2.1;have hy:(Instr.yield l #[.agg #[.int .i64 3,.string (s.extract i r),.int .i64 0,.int .i64 (i:Nat)]]).run Tryz.prog w8= .ok (.round l fn tmps assign body) w8:=hy0;have HRR:=V3 hR;have HG28:=V3 hg28;have HB8:=V3 hb8;have c2:w8.cell? ⟨g,2,none⟩=some (.int .i64 0):=HS8.out.1.cell 2;have z0:w8.cell? ⟨w2.heap.size,0,none⟩=some (.int .i64 3):=hb8.cell 0;have z1:w8.cell? ⟨w2.heap.size,1,none⟩=some (.string (s.extract i r)):=hb8.cell 1;have z2:w8.cell? ⟨w2.heap.size,2,none⟩=some (.int .i64 0):=hb8.cell 2;have z3:w8.cell? ⟨w2.heap.size,3,none⟩=some (.int .i64 (i:Nat)):=hb8.cell 3;clear hy0 hR hg28 hb8 k8 d8 hb5 c0 c1 f1))
      refine HRR.out.mono ?_;rintro e9 W9 ⟨rfl,hti9,hl9,hd9,k9⟩;have hcb:w8.cell? ⟨bt,0,none⟩=w2.cell? ⟨bt,0,none⟩:=World.cell?_of_block (a:=⟨bt,0,none⟩) (HG28.out.block bt (by have:=HMZ.out;omega) (fun h=>h));have hns:∀i,(i=g∨i=w2.heap.size)→¬NX bt w8 i:=fun i hi hS=>by
       have h1:=HMZ.out;rcases Iq HS2.out.2.1 hcb hS with h|h<;>omega
      have HQ9:=V3 (show E1 W9 g s i 0 from HS8.out.1.keep k9 (hns g (.inl rfl)));have hb9:=HB8.out.keep k9 (hns _ (.inr rfl));have c1:W9.cell? ⟨g,1,none⟩=some (.int .i64 (i:Nat)):=HQ9.out.cell 1;have f1:W9.frozen? ⟨g,1,none⟩=false:=HQ9.out.frozen 1;have y1:W9.cell? ⟨w2.heap.size,1,none⟩=some (.string (s.extract i r)):=hb9.cell 1;have HST9:=V3 (V5 hti9 (V5 hl9 hd9));have hsz:=DG (s:=s) (i:=i) (j:=r) (by have:=HJ.out;omega) HJ.out.2;obtain⟨L,hL⟩:∃L,(s.extract i r).size=L:=⟨_,rfl⟩;rw[hL]at hsz;have HLL:=V3 (show i+L=r from by have:=HJ.out;omega);clear hcb hns hti9 hl9 hd9 k9 hb9 c2 z0 z1 z2 z3 hsz;have hwl:IntKind.i64.wrap (L:Int)=(L:Int):=by have:=HLL.out;have:=HJ.out;unfold IntKind.wrap;simp[IntKind.bits,IntKind.signed];omega
      have hwr:IntKind.i64.wrap ((i:Int)+(L:Int))=(r:Int):=by have:=HLL.out;have:=HJ.out;unfold IntKind.wrap;simp[IntKind.bits,IntKind.signed];omega
      have HB10:=V3 (show E1 (W9.setCell ⟨g,1,none⟩ (.int .i64 (r:Nat))).drew g s r 0 from(HQ9.out.set_ 1 _:AR _ _ _ _).drew);have HK10:=V3 (show AA (fun b=>b=g) W9 (W9.setCell ⟨g,1,none⟩ (.int .i64 (r:Nat))).drew from VX (VZ (S:=fun b=>b=g) (p:=⟨g,1,none⟩) (VY _ W9) (.inl rfl) _));have HFIN:=V3 (show Su g bt M l D w0 oL oD s ts (W9.setCell ⟨g,1,none⟩ (.int .i64 (r:Nat))).drew r (pre++[⟨3,s.extract i r,0,i⟩]) us' from⟨HB10.out,HST9.out.1.keep HK10.out (by omega) (fun i h e=>by omega) (fun i e=>by omega),(HK10.out.block l (VK.1 HST9.out.2.1).1 (by omega)).trans HST9.out.2.1,(HK10.out.block D (VK.1 HST9.out.2.2).1 (by omega)).trans HST9.out.2.2,HLX2.out,by rw[←HS8.out.2.2.2.2.2];simp⟩);have m1:(W9.setCell ⟨g,1,none⟩ (.int .i64 (r:Nat))).drew.cell? ⟨g,1,none⟩=some (.int .i64 ((r:Nat):Int)):=HB10.out.cell 1;have m2:wr.cell? ⟨g,1,none⟩=some (.int .i64 ((i:Nat):Int)):=HST.out.1.cell 1;have HM12:=V3 (V5 m1 m2);clear m1 m2
      gi_wp2
      gi_region_with_o (fail)
      all_goals gi_wp2
      all_goals go_roundw
      all_goals try(case rel=>exact⟨r,pre++[⟨3,s.extract i r,0,i⟩],us',HJ.out.2,HFIN.out.1,HFIN.out.2.1,HFIN.out.2.2.1,HFIN.out.2.2.2.1,HFIN.out.2.2.2.2.1,HFIN.out.2.2.2.2.2⟩)
      all_goals
       have m12:=HM12.out;have hj:=HJ.out;rw[m12.1,m12.2];simp[intOf];omega
     obtain⟨hnv,rfl,rfl⟩:=F1 htk (by rw[HCH.out];exact hlc) (by rw[HCH.out];exact hdc);have HL:=V3 (show Calls Tryz.prog 137 #[.int .u8 b] w4 (fun e w'=>e= .returned (.bool false)∧w'=w4)from by have h:=EO b w4;rwa[hlc]at h);have HDg:=V3 (show Calls Tryz.prog 139 #[.int .u8 b] w4 (fun e w'=>e= .returned (.bool true)∧w'=w4)from by have h:=F8 b w4;rwa[hdc]at h);have hj:=Im (s:=s) (p:=C8) hlt (by rw[HCH.out];exact hdc);have hj2:=(EN (s:=s) (p:=C8) (s.size-i) i hi).2;have HT:=V3 (Mq w4 g s i HS4.out.1 hi hs hnv);obtain⟨r,hr⟩:∃r,Bv s C8 (s.size-i) i=r:=⟨_,rfl⟩;rw[hr]at hj hj2 HT hlx HS4 HS2;obtain⟨V,hV⟩:∃V,Fb s i (r-i)=V:=⟨_,rfl⟩;rw[hV]at HT HS4 HS2;have HLX2:=V3 hlx;have HJ:=V3 (V5 hj hj2);clear hlx htk hlc hnv hdc hV hr hj hj2
     gi_wp2_with (first|(refine⟨trivial,?_⟩;gi_at_call 137;refine(callsIn_wide.2 HL.out).mono ?_;rintro e3 w4 ⟨rfl,rfl⟩)|(refine⟨trivial,?_⟩;gi_at_call 139;refine(callsIn_wide.2 HDg.out).mono ?_;rintro e3 w4 ⟨rfl,rfl⟩)|(refine⟨trivial,?_⟩;gi_at_call 140;refine(callsIn_wide.2 HT.out).mono ?_;rintro e3 w5 ⟨rfl,k5⟩;have hb5:=HBZ4.out.grew k5;have HK5:=V3 k5;clear k5)|((with_reducible refine Fx 184 (.tmp 4) (.tmp 59) rfl ?_);refine Kq 184 (.tmp 4) (.tmp 59) w2.heap.size [.int .i64 1,.string (s.extract i r),.int .i64 (V:Nat),.int .i64 (i:Nat)] [.int .i64 0,.string ⟨#[]⟩,.int .i64 0,.int .i64 0] 184 E4 rfl (Cp _ _ _ _) rfl rfl rfl rfl hb5 ?_;intro w8 hb8 k8 d8;have hg28:A4 w2 w8:=VV (HZ4.out.trans HK5.out) k8 (fun i hi e=>by omega);have HS8:=V3 (HS2.out.grew hg28);obtain⟨fn,tmps,assign,body,hy0,hR⟩:=HY.out pre ⟨1,s.extract i r,V,i⟩ w8 ⟨us',HS8.out.2.2.2.2.2⟩ HS8.out.2.1 HS8.out.2.2.1 HS8.out.2.2.2.1;have hy:(Instr.yield l #[.agg #[.int .i64 1,.string (s.extract i r),.int .i64 (V:Nat),.int .i64 (i:Nat)]]).run Tryz.prog w8= .ok (.round l fn tmps assign body) w8:=hy0;have HRR:=V3 hR;have HG28:=V3 hg28;have HB8:=V3 hb8;have c2:w8.cell? ⟨g,2,none⟩=some (.int .i64 0):=HS8.out.1.cell 2;have z0:w8.cell? ⟨w2.heap.size,0,none⟩=some (.int .i64 1):=hb8.cell 0;have z1:w8.cell? ⟨w2.heap.size,1,none⟩=some (.string (s.extract i r)):=hb8.cell 1;have z2:w8.cell? ⟨w2.heap.size,2,none⟩=some (.int .i64 (V:Nat)):=hb8.cell 2;have z3:w8.cell? ⟨w2.heap.size,3,none⟩=some (.int .i64 (i:Nat)):=hb8.cell 3;clear hy0 hR hg28 hb8 k8 d8 hb5 c0 c1 f1))
     refine HRR.out.mono ?_;rintro e9 W9 ⟨rfl,hti9,hl9,hd9,k9⟩;have hcb:w8.cell? ⟨bt,0,none⟩=w2.cell? ⟨bt,0,none⟩:=World.cell?_of_block (a:=⟨bt,0,none⟩) (HG28.out.block bt (by have:=HMZ.out;omega) (fun h=>h));have hns:∀i,(i=g∨i=w2.heap.size)→¬NX bt w8 i:=fun i hi hS=>by
      have h1:=HMZ.out;rcases Iq HS2.out.2.1 hcb hS with h|h<;>omega
     have HQ9:=V3 (show E1 W9 g s i 0 from HS8.out.1.keep k9 (hns g (.inl rfl)));have hb9:=HB8.out.keep k9 (hns _ (.inr rfl));have c1:W9.cell? ⟨g,1,none⟩=some (.int .i64 (i:Nat)):=HQ9.out.cell 1;have f1:W9.frozen? ⟨g,1,none⟩=false:=HQ9.out.frozen 1;have y1:W9.cell? ⟨w2.heap.size,1,none⟩=some (.string (s.extract i r)):=hb9.cell 1;have HST9:=V3 (V5 hti9 (V5 hl9 hd9));have hsz:=DG (s:=s) (i:=i) (j:=r) (by have:=HJ.out;omega) HJ.out.2;obtain⟨L,hL⟩:∃L,(s.extract i r).size=L:=⟨_,rfl⟩;rw[hL]at hsz;have HLL:=V3 (show i+L=r from by have:=HJ.out;omega);clear hcb hns hti9 hl9 hd9 k9 hb9 c2 z0 z1 z2 z3 hsz;have hwl:IntKind.i64.wrap (L:Int)=(L:Int):=by have:=HLL.out;have:=HJ.out;unfold IntKind.wrap;simp[IntKind.bits,IntKind.signed];omega
     have hwr:IntKind.i64.wrap ((i:Int)+(L:Int))=(r:Int):=by have:=HLL.out;have:=HJ.out;unfold IntKind.wrap;simp[IntKind.bits,IntKind.signed];omega
     have HB10:=V3 (show E1 (W9.setCell ⟨g,1,none⟩ (.int .i64 (r:Nat))).drew g s r 0 from(HQ9.out.set_ 1 _:AR _ _ _ _).drew);have HK10:=V3 (show AA (fun b=>b=g) W9 (W9.setCell ⟨g,1,none⟩ (.int .i64 (r:Nat))).drew from VX (VZ (S:=fun b=>b=g) (p:=⟨g,1,none⟩) (VY _ W9) (.inl rfl) _));have HFIN:=V3 (show Su g bt M l D w0 oL oD s ts (W9.setCell ⟨g,1,none⟩ (.int .i64 (r:Nat))).drew r (pre++[⟨1,s.extract i r,V,i⟩]) us' from⟨HB10.out,HST9.out.1.keep HK10.out (by omega) (fun i h e=>by omega) (fun i e=>by omega),(HK10.out.block l (VK.1 HST9.out.2.1).1 (by omega)).trans HST9.out.2.1,(HK10.out.block D (VK.1 HST9.out.2.2).1 (by omega)).trans HST9.out.2.2,HLX2.out,by rw[←HS8.out.2.2.2.2.2];simp⟩);have m1:(W9.setCell ⟨g,1,none⟩ (.int .i64 (r:Nat))).drew.cell? ⟨g,1,none⟩=some (.int .i64 ((r:Nat):Int)):=HB10.out.cell 1;have m2:wr.cell? ⟨g,1,none⟩=some (.int .i64 ((i:Nat):Int)):=HST.out.1.cell 1;have HM12:=V3 (V5 m1 m2);clear m1 m2
     gi_wp2
     gi_region_with_o (fail)
     all_goals gi_wp2
     all_goals go_roundw
     all_goals try(case rel=>exact⟨r,pre++[⟨1,s.extract i r,V,i⟩],us',HJ.out.2,HFIN.out.1,HFIN.out.2.1,HFIN.out.2.2.1,HFIN.out.2.2.2.1,HFIN.out.2.2.2.2.1,HFIN.out.2.2.2.2.2⟩)
     all_goals
      have m12:=HM12.out;have hj:=HJ.out;rw[m12.1,m12.2];simp[intOf];omega
    obtain⟨hwl,rfl,rfl⟩:=Gp htk (by rw[HCH.out];exact hlc);have HL:=V3 (show Calls Tryz.prog 137 #[.int .u8 b] w4 (fun e w'=>e= .returned (.bool true)∧w'=w4)from by have h:=EO b w4;rwa[hlc]at h);have hj:=Im (s:=s) (p:=Ck) hlt (by rw[HCH.out];unfold Ck;rw[hlc];rfl);have hj2:=(EN (s:=s) (p:=Ck) (s.size-i) i hi).2;have HT:=V3 (Q9 w4 g s i HS4.out.1 hi hs hwl);obtain⟨r,hr⟩:∃r,Bv s Ck (s.size-i) i=r:=⟨_,rfl⟩;rw[hr]at hj hj2 HT hlx HS4 HS2;have HLX2:=V3 hlx;have HJ:=V3 (V5 hj hj2);clear hlx htk hlc hwl hr hj hj2
    gi_wp2_with (first|(refine⟨trivial,?_⟩;gi_at_call 137;refine(callsIn_wide.2 HL.out).mono ?_;rintro e3 w4 ⟨rfl,rfl⟩)|(refine⟨trivial,?_⟩;gi_at_call 138;refine(callsIn_wide.2 HT.out).mono ?_;rintro e3 w5 ⟨rfl,k5⟩;have hb5:=HBZ4.out.grew k5;have HK5:=V3 k5;clear k5)|((with_reducible refine Fx 184 (.tmp 4) (.tmp 54) rfl ?_);refine Kq 184 (.tmp 4) (.tmp 54) w2.heap.size [.int .i64 0,.string (s.extract i r),.int .i64 0,.int .i64 (i:Nat)] [.int .i64 0,.string ⟨#[]⟩,.int .i64 0,.int .i64 0] 184 E4 rfl (Cp _ _ _ _) rfl rfl rfl rfl hb5 ?_;intro w8 hb8 k8 d8;have hg28:A4 w2 w8:=VV (HZ4.out.trans HK5.out) k8 (fun i hi e=>by omega);have HS8:=V3 (HS2.out.grew hg28);obtain⟨fn,tmps,assign,body,hy0,hR⟩:=HY.out pre ⟨0,s.extract i r,0,i⟩ w8 ⟨us',HS8.out.2.2.2.2.2⟩ HS8.out.2.1 HS8.out.2.2.1 HS8.out.2.2.2.1;have hy:(Instr.yield l #[.agg #[.int .i64 0,.string (s.extract i r),.int .i64 0,.int .i64 (i:Nat)]]).run Tryz.prog w8= .ok (.round l fn tmps assign body) w8:=hy0;have HRR:=V3 hR;have HG28:=V3 hg28;have HB8:=V3 hb8;have c2:w8.cell? ⟨g,2,none⟩=some (.int .i64 0):=HS8.out.1.cell 2;have z0:w8.cell? ⟨w2.heap.size,0,none⟩=some (.int .i64 0):=hb8.cell 0;have z1:w8.cell? ⟨w2.heap.size,1,none⟩=some (.string (s.extract i r)):=hb8.cell 1;have z2:w8.cell? ⟨w2.heap.size,2,none⟩=some (.int .i64 0):=hb8.cell 2;have z3:w8.cell? ⟨w2.heap.size,3,none⟩=some (.int .i64 (i:Nat)):=hb8.cell 3;clear hy0 hR hg28 hb8 k8 d8 hb5 c0 c1 f1))
    refine HRR.out.mono ?_;rintro e9 W9 ⟨rfl,hti9,hl9,hd9,k9⟩;have hcb:w8.cell? ⟨bt,0,none⟩=w2.cell? ⟨bt,0,none⟩:=World.cell?_of_block (a:=⟨bt,0,none⟩) (HG28.out.block bt (by have:=HMZ.out;omega) (fun h=>h));have hns:∀i,(i=g∨i=w2.heap.size)→¬NX bt w8 i:=fun i hi hS=>by
     have h1:=HMZ.out;rcases Iq HS2.out.2.1 hcb hS with h|h<;>omega
    have HQ9:=V3 (show E1 W9 g s i 0 from HS8.out.1.keep k9 (hns g (.inl rfl)));have hb9:=HB8.out.keep k9 (hns _ (.inr rfl));have c1:W9.cell? ⟨g,1,none⟩=some (.int .i64 (i:Nat)):=HQ9.out.cell 1;have f1:W9.frozen? ⟨g,1,none⟩=false:=HQ9.out.frozen 1;have y1:W9.cell? ⟨w2.heap.size,1,none⟩=some (.string (s.extract i r)):=hb9.cell 1;have HST9:=V3 (V5 hti9 (V5 hl9 hd9));have hsz:=DG (s:=s) (i:=i) (j:=r) (by have:=HJ.out;omega) HJ.out.2;obtain⟨L,hL⟩:∃L,(s.extract i r).size=L:=⟨_,rfl⟩;rw[hL]at hsz;have HLL:=V3 (show i+L=r from by have:=HJ.out;omega);clear hcb hns hti9 hl9 hd9 k9 hb9 c2 z0 z1 z2 z3 hsz;have hwl:IntKind.i64.wrap (L:Int)=(L:Int):=by have:=HLL.out;have:=HJ.out;unfold IntKind.wrap;simp[IntKind.bits,IntKind.signed];omega
    have hwr:IntKind.i64.wrap ((i:Int)+(L:Int))=(r:Int):=by have:=HLL.out;have:=HJ.out;unfold IntKind.wrap;simp[IntKind.bits,IntKind.signed];omega
    have HB10:=V3 (show E1 (W9.setCell ⟨g,1,none⟩ (.int .i64 (r:Nat))).drew g s r 0 from(HQ9.out.set_ 1 _:AR _ _ _ _).drew);have HK10:=V3 (show AA (fun b=>b=g) W9 (W9.setCell ⟨g,1,none⟩ (.int .i64 (r:Nat))).drew from VX (VZ (S:=fun b=>b=g) (p:=⟨g,1,none⟩) (VY _ W9) (.inl rfl) _));have HFIN:=V3 (show Su g bt M l D w0 oL oD s ts (W9.setCell ⟨g,1,none⟩ (.int .i64 (r:Nat))).drew r (pre++[⟨0,s.extract i r,0,i⟩]) us' from⟨HB10.out,HST9.out.1.keep HK10.out (by omega) (fun i h e=>by omega) (fun i e=>by omega),(HK10.out.block l (VK.1 HST9.out.2.1).1 (by omega)).trans HST9.out.2.1,(HK10.out.block D (VK.1 HST9.out.2.2).1 (by omega)).trans HST9.out.2.2,HLX2.out,by rw[←HS8.out.2.2.2.2.2];simp⟩);have m1:(W9.setCell ⟨g,1,none⟩ (.int .i64 (r:Nat))).drew.cell? ⟨g,1,none⟩=some (.int .i64 ((r:Nat):Int)):=HB10.out.cell 1;have m2:wr.cell? ⟨g,1,none⟩=some (.int .i64 ((i:Nat):Int)):=HST.out.1.cell 1;have HM12:=V3 (V5 m1 m2);clear m1 m2
    gi_wp2
    gi_region_with_o (fail)
    all_goals gi_wp2
    all_goals go_roundw
    all_goals try(case rel=>exact⟨r,pre++[⟨0,s.extract i r,0,i⟩],us',HJ.out.2,HFIN.out.1,HFIN.out.2.1,HFIN.out.2.2.1,HFIN.out.2.2.2.1,HFIN.out.2.2.2.2.1,HFIN.out.2.2.2.2.2⟩)
    all_goals
     have m12:=HM12.out;have hj:=HJ.out;rw[m12.1,m12.2];simp[intOf];omega
   have hb4:b=9∨b=10∨b=13∨b=32:=by unfold blank at hbl;simpa using hbl
   have HLX1:=V3 (Ls HS4.out.2.2.2.2.1 hlt (by rw[HCH.out];exact hbl));have HB5:=V3 (show E1 (w4.setCell ⟨g,1,none⟩ (.int .i64 ((i:Int)+1))) g s (i+1) 0 from HS4.out.1.set_ 1 _);have HK5:=V3 (show AA (fun b=>b=g) w4 (w4.setCell ⟨g,1,none⟩ (.int .i64 ((i:Int)+1)))from VZ (S:=fun b=>b=g) (p:=⟨g,1,none⟩) (VY _ w4) (.inl rfl) _);clear hbl;have HW:=V3 (show IntKind.i64.wrap ((i:Int)+1)=(i:Int)+1 from by unfold IntKind.wrap;simp[IntKind.bits,IntKind.signed];omega);rcases hb4 with rfl|rfl|rfl|rfl
   all_goals gi_wp2
   all_goals go_roundw
   all_goals try(case rel=>exact⟨i+1,pre,us,by omega,HB5.out,HS4.out.2.1.keep HK5.out (by omega) (fun i h e=>by omega) (fun i e=>by omega),(HK5.out.block l (VK.1 HS4.out.2.2.1).1 (by omega)).trans HS4.out.2.2.1,(HK5.out.block D (VK.1 HS4.out.2.2.2.1).1 (by omega)).trans HS4.out.2.2.2.1,HLX1.out,HS4.out.2.2.2.2.2⟩)
   all_goals
    have m1:(w4.setCell ⟨g,1,none⟩ (.int .i64 ((i:Int)+1))).cell? ⟨g,1,none⟩=some (.int .i64 ((i+1:Nat):Int)):=HB5.out.cell 1;have m2:wr.cell? ⟨g,1,none⟩=some (.int .i64 ((i:Nat):Int)):=HST.out.1.cell 1;rw[m1,m2];simp[intOf];omega
  have t0:decide ((i:Int)<(s.size:Int))=false:=by simp;omega
  gi_quiet (fail)
  have hgq:A4 wr (wr.drewN nq):=Va (VU wr) nq;have HS2:=V3 (HST.out.grew hgq);clear c0 c1;generalize wr.drewN nq=w2 at*
  gi_wp2
  go_end0;have hlx:=HS2.out.2.2.2.2.1;have hus:us=[]:=by
   cases hlx with
   |stop h=>rfl
   |blank h=>omega
   |tok h=>omega
  obtain rfl:i=s.size:=by omega
  refine⟨⟨_,rfl⟩,pre,⟨by rw[←HS2.out.2.2.2.2.2,hus,List.append_nil],HS2.out.2.1,HS2.out.1⟩,HS2.out.2.2.1,HS2.out.2.2.2.1⟩
end Go.Proofs.YthpflelgbadkcaaGreatDoor
namespace Go.Proofs.YthpflelgbadkcaaGreatDoor
open Go.RowKit
variable {F:Fence} {n:Nat} {P:Program}
theorem Hz {α:Type} {g:Operand} {ps:Array Tmp} {assign body:Code} {Q:Exit→Act→World→Prop} {a:Act} {w:World}
  (hro:F.round=none) (h1:1≤n) {gf:Nat} {fs lb:Array Value} (hg:a.eval g= .func (.func gf) fs lb) (hFg:F.fn gf) (eg:∀args w,(callFunc gf args).run P w= .ok (.enter gf args) w)
  {encs:α→Array Value} (hps:∀x,(encs x).size=ps.size)
  (ok:List α→α→Prop) (I:List α→World→Prop) (hI:OwnFrom w.heap.size I) (h0:I [] w) (a₁:α→Nat→Act) (t₁:TypeId) (cs₁:α→Array Value)
  (S:World→Nat→Prop) (hS:∀W W' i,(∀b,b<w.heap.size→W'.heap[b]? =W.heap[b]?)→S W' i→S W i)
  (R:List α→World→Prop) (hR:OwnFrom w.heap.size R)
  (hseq:∀(l:Nat) (oL oD:Obj) (W:World),w.heap.size<l→W.heap[l]? =some oL→W.heap[w.heap.size]? =some oD→I [] W→A4 w W→
   (∀pre x W1,ok pre x→I pre W1→W1.heap[l]? =some oL→W1.heap[w.heap.size]? =some oD→YieldAt F (n-1-1) P l (encs x) W1 fun e W'=>
    e= .returned (.bool true)∧I (pre++[x]) W'∧W'.heap[l]? =some oL∧W'.heap[w.heap.size]? =some oD∧AA (S W1) W1 W')→
   CallsIn F (n-1) P gf (fs++#[.func (.yield l) #[] #[]]++lb) W fun e W'=>(∃v,e= .returned v)∧∃xs,R xs W'∧W'.heap[l]? =some oL∧W'.heap[w.heap.size]? =some oD)
  (hassign:∀(l:Nat) (x:α) (W:World) (K:Act→World→Prop),(∀W',A4 W W'→KeepsOthers W W'→AR W' W.heap.size t₁ (cs₁ x)→K (a₁ x W.heap.size) W')→
   assign.wpIn (F.inRound l) (n-1-1) P (Exit.then K (fun _ _ _=>False)) { tmps:=(ps.zip (encs x)).foldl (fun t (p,v)=>t.setIfInBounds p v) a.tmps,defers:=[] } W)
  (hbody:∀(l:Nat) (pre:List α) (x:α) (z:Nat) (W:World),ok pre x→I pre W→AR W z t₁ (cs₁ x)→w.heap.size<l→l<z→¬S W z→body.wpIn (F.inRound l) (n-1-1) P (fun e _ W'=>e= .normal∧KeepsOthers W W'∧AA (S W) W W'∧I (pre++[x]) W') (a₁ x z) W)
  (hSz:∀pre W z,I pre W→S W z→z<W.heap.size)
  (hdone:∀(xs:List α) (W:World),R xs W→W.heap[w.heap.size]? =some (.deferred (some []))→Q .normal { a with defers:={ target:= .collected w.heap.size,args:=#[] }::a.defers } W):
  (Code.rangeFunc g ps assign body).wpIn F n P Q a w:=by
 refine wpIn_rangeFunc fun fn hfn=>?_
 rw[hro];obtain⟨rec,hrec⟩:∃rec:LoopState→Loop,rec=fun st=>{ state:=st,pending:=none,fn,tmps:=a.tmps,params:=ps,assign,body,defers:=w.heap.size }:=⟨_,rfl⟩
 have hA:A4 w ((w.alloc (.deferred (some []))).alloc (.loop (rec .ready))):=((VU w).alloc _).alloc _;have hL1:((w.alloc (.deferred (some []))).alloc (.loop (rec .ready))).heap[w.heap.size+1]? =some (.loop (rec .ready)):=by
  have:=World.alloc_heap_new (w.alloc (.deferred (some []))) (.loop (rec .ready));rwa[World.size_alloc]at this
 have hD1:((w.alloc (.deferred (some []))).alloc (.loop (rec .ready))).heap[w.heap.size]? =some (.deferred (some [])):=
  (Below.heap_alloc _ _ _ (by simp)).trans (World.alloc_heap_new w _)
 have hI1:I [] ((w.alloc (.deferred (some []))).alloc (.loop (rec .ready))):=hI.alloc _ (hI.alloc _ h0);refine⟨w.heap.size+1,[{ target:= .collected w.heap.size,args:=#[] }],(w.alloc (.deferred (some []))).alloc (.loop (rec .ready)),{ target:= .fn (.func gf) lb,args:=fs++#[.func (.yield (w.heap.size+1)) #[] #[]] },
  (w.alloc (.deferred (some []))).alloc (.loop (rec .ready)),gf,fs++#[.func (.yield (w.heap.size+1)) #[] #[]]++lb,(w.alloc (.deferred (some []))).alloc (.loop (rec .ready)),?_,?_,?_,?_,fun _=>h1,?_⟩
 ·rw[hrec];exact run_enterLoop_outer _ _ _ _ _
 ·simp only[resolve,hg];simp[go_sem]
 ·intro f' hf';simp[Target.leads]at hf';subst hf';exact hFg
 ·simp[invoke,go_sem,eg]
 refine(hseq (w.heap.size+1) _ _ _ (by omega) hL1 hD1 hI1 hA fun pre x W hok hi hl hd=>?_).mono ?_
 ·have hlt:w.heap.size+1<W.heap.size:=(VK.1 hl).1;have hy:=run_yield (P:=P) (args:=encs x) hl (by rw[hrec];exact hps x);rw[hrec]at hy;refine⟨fn,_,assign,body,hy,roundIn_of_wpIn hfn (hassign _ x W _ fun Wa ga ka hba=>?_)⟩;have hla:=ka.same _ _ hl rfl;have hda:=ka.same _ _ hd rfl;refine⟨_,run_beginRound hla (by rw[hrec]),?_⟩;have hlta:w.heap.size+1<Wa.heap.size:=(VK.1 hla).1;have hgn:∀r,(none:Option Nat)=some r→w.heap.size≤r∧∃o:Obj,W.heap[r]? =some o∧o.isCells=false:=fun r e=>by cases e
  have hia:I pre Wa:=hI pre W Wa none hi ⟨ga.os,ga.tape,ga.output,ga.size,fun i hi _=>ga.block i hi (fun h=>h)⟩ hgn;have hl2:(Wa.putObj (w.heap.size+1) (.loop { rec .ready with state:= .busy })).heap[w.heap.size+1]? =some (.loop { rec .ready with state:= .busy }):=World.putObj_heap_same hlta;have hd2:(Wa.putObj (w.heap.size+1) (.loop { rec .ready with state:= .busy })).heap[w.heap.size]? =some (.deferred (some [])):=(World.putObj_heap_other (by omega)).trans hda;have hbz:AR (Wa.putObj (w.heap.size+1) (.loop { rec .ready with state:= .busy })) W.heap.size t₁ (cs₁ x):=(World.putObj_heap_other (by omega)).trans hba;have hSa:∀i,S (Wa.putObj (w.heap.size+1) (.loop { rec .ready with state:= .busy })) i→S W i:=fun i=>hS _ _ i (fun b hb=>(World.putObj_heap_other (by omega)).trans (ga.block b (by omega) (fun h=>h)))
  refine wpIn_mono (hbody _ pre x W.heap.size _ hok (hI.putObj _ hia (by omega) hla rfl) hbz (by omega) hlt (fun h=>absurd (hSz pre W _ hi (hSa _ h)) (Nat.lt_irrefl _))) ?_;rintro e a3 W3 ⟨rfl,ho3,k3,hi3⟩;have hl3:=ho3.same _ _ hl2 rfl;have hr:=run_endRound (P:=P) none hl3;have hl4:(W3.putObj (w.heap.size+1) (.loop (rec .ready))).heap[w.heap.size+1]? =some (.loop (rec .ready)):=World.putObj_heap_same (VK.1 hl3).1;refine⟨_,_,hr,?_⟩;rw[hrec]at hl4 ⊢;refine⟨rfl,hI.putObj _ hi3 (by omega) hl3 rfl,hl4,(World.putObj_heap_other (by omega)).trans (ho3.same _ _ hd2 rfl),?_⟩;refine⟨k3.os.trans ga.os,k3.tape.trans ga.tape,k3.output.trans ga.output,?_,fun i hib hn=>?_⟩
  ·have h1:=k3.size;have h2:=ga.size;simp[World.putObj]at h1 ⊢;omega
  by_cases hil:i=w.heap.size+1
  ·subst hil;rw[hrec]at hl;exact hl4.trans hl.symm
  refine(World.putObj_heap_other hil).trans ((k3.block i (by have:=ga.size;simp[World.putObj];omega) fun hs=>hn (hSa _ hs)).trans ((World.putObj_heap_other hil).trans (ga.block i hib (fun h=>h))))
 rintro e W2 ⟨⟨v,rfl⟩,xs,hr,hl,hd⟩;exact⟨none,_,by have:=run_endLoop (P:=P) hl (by rw[hrec];simp);rw[hrec]at this;exact this,hdone xs _ (hR.putObj _ hr (by omega) hl rfl) ((World.putObj_heap_other (by omega)).trans hd)⟩
end Go.Proofs.YthpflelgbadkcaaGreatDoor
