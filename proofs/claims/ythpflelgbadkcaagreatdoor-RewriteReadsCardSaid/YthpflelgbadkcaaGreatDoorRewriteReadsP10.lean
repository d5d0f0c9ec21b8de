/- What the card of the law stands on: Within, Check, RNamed, RShaped, RCheck, Count, Depth, TValid, RFoldT, Mul64. -/
import Derived.Test.YthpflelgbadkcaaGreatDoorRewriteReadsP01
import Derived.Test.YthpflelgbadkcaaGreatDoorRewriteReadsP03
import Derived.Test.YthpflelgbadkcaaGreatDoorRewriteReadsP06
import Derived.Test.YthpflelgbadkcaaGreatDoorRewriteReadsP09
import Derived.Test.YthpflelgbadkcaaGreatDoorRewriteReadsP08
import Derived.Deep.DeepCutAuto
import Derived.Test.YthpflelgbadkcaaGreatDoorRewriteReadsP04
import Derived.Shelf.Bits.Mul64
import Derived.Test.YthpflelgbadkcaaGreatDoorRewriteReadsP02
set_option maxRecDepth 100000
set_option maxHeartbeats 12800000
set_option linter.unusedVariables false
set_option linter.unusedSimpArgs false
namespace Go.Proofs.YthpflelgbadkcaaGreatDoor
open Go.RowKit Pl
theorem Ll (e:Ex) (vm vb vk:Value) (w:World) (hsh:e.kind≠1→e.kind≠2→e.k=0):Calls Tryz.prog 65 #[.agg (AE e vm vb vk).toArray] w fun e' w'=>e'= .returned (.bool (Ai e))∧A5 w w':=by
 have hb:=Sc w 29 (AE e vm vb vk).toArray;have hG:=(Sa w).alloc (.cells (AE e vm vb vk).toArray 29);go_enter Tryz.func65,Tryz.ntmps65;go_upto_region 1 with fail;generalize w.alloc (.cells (AE e vm vb vk).toArray 29)=w1 at*;have c0:w1.cell? ⟨w.heap.size,0,none⟩=some (.int .i64 e.kind):=hb.cell 0;have c1:w1.cell? ⟨w.heap.size,1,none⟩=some (.int .i64 e.fn):=hb.cell 1;have c2:w1.cell? ⟨w.heap.size,2,none⟩=some (.int .i64 e.window):=hb.cell 2;have c3:w1.cell? ⟨w.heap.size,3,none⟩=some (.int .i64 e.offset):=hb.cell 3;have c4:w1.cell? ⟨w.heap.size,4,none⟩=some (.int .i64 e.k):=hb.cell 4;have HG:=S9 hG;clear hG hb;by_cases h0:e.kind=1
 ·have f0:(e.kind==1)=true:=by simpa using h0
  by_cases h1:e.offset<0
  ·have f1:decide (e.offset<0)=true:=by simpa using h1
   have HV:=S9 (show Ai e=false by clear HG c0 c1 c2 c3 c4;unfold Ai;(repeat' split)<;>(try simp)<;>(try(intros;omega)));clear h0 h1;go_wp2_with fail;go_ret;exact⟨by rw[HV.out];rfl,HG.out⟩
  have f1:decide (e.offset<0)=false:=by simpa using h1
  by_cases h2:4096<e.offset
  ·have f2:decide (4096<e.offset)=true:=by simpa using h2
   have HV:=S9 (show Ai e=false by clear HG c0 c1 c2 c3 c4;unfold Ai;(repeat' split)<;>(try simp)<;>(try(intros;omega)));clear h0 h1 h2;go_wp2_with fail;go_ret;exact⟨by rw[HV.out];rfl,HG.out⟩
  have f2:decide (4096<e.offset)=false:=by simpa using h2
  by_cases h3:e.fn=0
  ·have f3:(e.fn==0)=true:=by simpa using h3
   by_cases h4:e.window=0
   ·have f4:(e.window==0)=true:=by simpa using h4
    by_cases h5:e.k=0
    ·have f5:(e.k==0)=true:=by simpa using h5
     have HV:=S9 (show Ai e=true by clear HG c0 c1 c2 c3 c4;unfold Ai;(repeat' split)<;>(try simp)<;>(try(intros;omega)));clear h0 h1 h2 h3 h4 h5;go_wp2_with fail;go_ret;exact⟨by rw[HV.out];rfl,HG.out⟩
    have f5:(e.k==0)=false:=by simpa using h5
    have HV:=S9 (show Ai e=false by clear HG c0 c1 c2 c3 c4;unfold Ai;(repeat' split)<;>(try simp)<;>(try(intros;omega)));clear h0 h1 h2 h3 h4 h5;go_wp2_with fail;go_ret;exact⟨by rw[HV.out];rfl,HG.out⟩
   have f4:(e.window==0)=false:=by simpa using h4
   have HV:=S9 (show Ai e=false by clear HG c0 c1 c2 c3 c4;unfold Ai;(repeat' split)<;>(try simp)<;>(try(intros;omega)));clear h0 h1 h2 h3 h4;go_wp2_with fail;go_ret;exact⟨by rw[HV.out];rfl,HG.out⟩
  have f3:(e.fn==0)=false:=by simpa using h3
  by_cases h4:e.window<1
  ·have f4:decide (e.window<1)=true:=by simpa using h4
   have HV:=S9 (show Ai e=false by clear HG c0 c1 c2 c3 c4;unfold Ai;(repeat' split)<;>(try simp)<;>(try(intros;omega)));clear h0 h1 h2 h3 h4;go_wp2_with fail;go_ret;exact⟨by rw[HV.out];rfl,HG.out⟩
  have f4:decide (e.window<1)=false:=by simpa using h4
  by_cases h5:4096<e.window
  ·have f5:decide (4096<e.window)=true:=by simpa using h5
   have HV:=S9 (show Ai e=false by clear HG c0 c1 c2 c3 c4;unfold Ai;(repeat' split)<;>(try simp)<;>(try(intros;omega)));clear h0 h1 h2 h3 h4 h5;go_wp2_with fail;go_ret;exact⟨by rw[HV.out];rfl,HG.out⟩
  have f5:decide (4096<e.window)=false:=by simpa using h5
  by_cases h6:e.fn=7
  ·have f6:(e.fn==7)=true:=by simpa using h6
   by_cases h7:1≤e.k
   ·have f7:decide (1≤e.k)=true:=by simpa using h7
    by_cases h8:e.k≤e.window
    ·have f8:decide (e.k≤e.window)=true:=by simpa using h8
     have HV:=S9 (show Ai e=true by clear HG c0 c1 c2 c3 c4;unfold Ai;(repeat' split)<;>(try simp)<;>(try(intros;omega)));clear h0 h1 h2 h3 h4 h5 h6 h7 h8;go_wp2_with fail;go_ret;exact⟨by rw[HV.out];rfl,HG.out⟩
    have f8:decide (e.k≤e.window)=false:=by simpa using h8
    have HV:=S9 (show Ai e=false by clear HG c0 c1 c2 c3 c4;unfold Ai;(repeat' split)<;>(try simp)<;>(try(intros;omega)));clear h0 h1 h2 h3 h4 h5 h6 h7 h8;go_wp2_with fail;go_ret;exact⟨by rw[HV.out];rfl,HG.out⟩
   have f7:decide (1≤e.k)=false:=by simpa using h7
   have HV:=S9 (show Ai e=false by clear HG c0 c1 c2 c3 c4;unfold Ai;(repeat' split)<;>(try simp)<;>(try(intros;omega)));clear h0 h1 h2 h3 h4 h5 h6 h7;go_wp2_with fail;go_ret;exact⟨by rw[HV.out];rfl,HG.out⟩
  have f6:(e.fn==7)=false:=by simpa using h6
  by_cases h7:e.k=0
  ·have f7:(e.k==0)=true:=by simpa using h7
   have HV:=S9 (show Ai e=true by clear HG c0 c1 c2 c3 c4;unfold Ai;(repeat' split)<;>(try simp)<;>(try(intros;omega)));clear h0 h1 h2 h3 h4 h5 h6 h7;go_wp2_with fail;go_ret;exact⟨by rw[HV.out];rfl,HG.out⟩
  have f7:(e.k==0)=false:=by simpa using h7
  have HV:=S9 (show Ai e=false by clear HG c0 c1 c2 c3 c4;unfold Ai;(repeat' split)<;>(try simp)<;>(try(intros;omega)));clear h0 h1 h2 h3 h4 h5 h6 h7;go_wp2_with fail;go_ret;exact⟨by rw[HV.out];rfl,HG.out⟩
 have f0:(e.kind==1)=false:=by simpa using h0
 by_cases h1:e.kind=2
 ·have f1:(e.kind==2)=true:=by simpa using h1
  by_cases h2:e.fn=4
  ·have f2:(e.fn==4)=true:=by simpa using h2
   by_cases h3:1≤e.k
   ·have f3:decide (1≤e.k)=true:=by simpa using h3
    by_cases h4:e.k≤4096
    ·have f4:decide (e.k≤4096)=true:=by simpa using h4
     have HV:=S9 (show Ai e=true by clear HG c0 c1 c2 c3 c4;unfold Ai;(repeat' split)<;>(try simp)<;>(try(intros;omega)));clear h0 h1 h2 h3 h4;go_wp2_with fail;go_ret;exact⟨by rw[HV.out];rfl,HG.out⟩
    have f4:decide (e.k≤4096)=false:=by simpa using h4
    have HV:=S9 (show Ai e=false by clear HG c0 c1 c2 c3 c4;unfold Ai;(repeat' split)<;>(try simp)<;>(try(intros;omega)));clear h0 h1 h2 h3 h4;go_wp2_with fail;go_ret;exact⟨by rw[HV.out];rfl,HG.out⟩
   have f3:decide (1≤e.k)=false:=by simpa using h3
   have HV:=S9 (show Ai e=false by clear HG c0 c1 c2 c3 c4;unfold Ai;(repeat' split)<;>(try simp)<;>(try(intros;omega)));clear h0 h1 h2 h3;go_wp2_with fail;go_ret;exact⟨by rw[HV.out];rfl,HG.out⟩
  have f2:(e.fn==4)=false:=by simpa using h2
  by_cases h3:e.k=0
  ·have f3:(e.k==0)=true:=by simpa using h3
   have HV:=S9 (show Ai e=true by clear HG c0 c1 c2 c3 c4;unfold Ai;(repeat' split)<;>(try simp)<;>(try(intros;omega)));clear h0 h1 h2 h3;go_wp2_with fail;go_ret;exact⟨by rw[HV.out];rfl,HG.out⟩
  have f3:(e.k==0)=false:=by simpa using h3
  have HV:=S9 (show Ai e=false by clear HG c0 c1 c2 c3 c4;unfold Ai;(repeat' split)<;>(try simp)<;>(try(intros;omega)));clear h0 h1 h2 h3;go_wp2_with fail;go_ret;exact⟨by rw[HV.out];rfl,HG.out⟩
 have f1:(e.kind==2)=false:=by simpa using h1
 have HV:=S9 (show Ai e=true by clear HG c0 c1 c2 c3 c4;unfold Ai;(repeat' split)<;>(try simp)<;>(try(intros;omega)));clear h0 h1;go_wp2_with fail;go_ret;exact⟨by rw[HV.out];rfl,HG.out⟩
def Be (e:Ex):Prop:=Ea e∧Qn e
theorem Oz {e:Ex} (h:BN e=true):e.kind≠1→e.kind≠2→e.k=0:=by
 intro h1 h2;unfold BN at h;simp only[Bool.and_eq_true,decide_eq_true_eq]at h;exact h.1.2 h1 h2
theorem JS:∀(k:Nat) (e:Ex),AL e≤k→k≤1000000→BL Be e→∀(w:World) (cs:List Value),D5 w→BZ w w.heap.size e cs→
  Calls Tryz.prog 31 #[.agg cs.toArray] w fun e' w'=>e'= .returned (.int .i64 (C9 e))∧A5 w w'
 |0,e,h,_,_,_,_,_,_=>absurd (Aw e) (by omega)
 |k+1,e,hk,hk2,hok,w,cs,hwt,hr=>by
  obtain⟨vm,vb,vk,rfl,hms,hby,hT⟩:=hr.open_;obtain⟨Am,nm,km,rfl,hnm⟩:∃A n c,vm= .slice A n c∧n=e.ms.length:=by obtain⟨A,c,h, -⟩:=hms;exact⟨A,_,c,h,by simp⟩
  obtain⟨Ab,nb,kb,rfl,hnb⟩:∃A n c,vb= .slice A n c∧n=e.bys.length:=by obtain⟨A,c,h, -⟩:=hby;exact⟨A,_,c,h,by simp⟩
  obtain⟨A,n,c,rfl,hn, -⟩:=hT.slice;have hne:=B9 e;have hkl:=Bh e.kids;have hnb':n≤1000000:=by omega
  have hnml:nm≤1000:=by have:=hok.top.2.2.2.2.1;omega
  have hnbl:nb≤1000:=by have:=hok.top.2.2.2.2.2;omega
  have HIH:=S9 (fun(e':Ex) (w':World) (cs:List Value) (h1:e'∈e.kids) (h3:D5 w') (h2:BZ w' w'.heap.size e' cs)=>JS k e' (by have:=Aa h1;omega) (by omega) (hok.kid h1) w' cs h3 h2);have HT:=S9 hT;have HN:=S9 hn;have HE:=S9 (Gu e);obtain⟨q1,hq1⟩:∃q,BN e=q:=⟨_,rfl⟩;obtain⟨q2,hq2⟩:∃q,Bo e=q:=⟨_,rfl⟩;obtain⟨q3,hq3⟩:∃q,Ai e=q:=⟨_,rfl⟩;have HSh:=S9 (fun w'=>Lp e Am Ab A nm km nb kb n c hnm hnb hn w' hok.top.1);have HNd:=S9 (fun w' (g:A5 w w')=>My e Am Ab A nm km nb kb n c hnm hnb w' (hms.keep (SD _) g.size g (fun _ _ h=>h)) (hby.keep (SD _) g.size g (fun _ _ h=>h)) hok.top.2 (hwt.grew g));have HRg:=S9 (fun(hsh:q1=true) w'=>Ll e (.slice Am nm km) (.slice Ab nb kb) (.slice A n c) w' (Oz (by rw[hq1];exact hsh)));have HWT:=S9 hwt;rw[hq1]at HSh;rw[hq2]at HNd;rw[hq3]at HRg;have HV:=S9 (show Bj e=if q1=false then 1 else if q2=false then 8 else if 8<nm∨8<nb then 4 else if q3=false then 5 else 0 by unfold Bj;rw[hq1,hq2,hq3,hnm,hnb]);have hb1:=Sc w 29 (AE e (.slice Am nm km) (.slice Ab nb kb) (.slice A n c)).toArray;have hG:=(Sa w).alloc (.cells (AE e (.slice Am nm km) (.slice Ab nb kb) (.slice A n c)).toArray 29);clear hr hms hby hT hn hne hkl hk hk2 hok hq1 hq2 hq3 hnm hnb hwt;go_enter Tryz.func31,Tryz.ntmps31;go_upto_region 1 with fail;generalize w.alloc (.cells (AE e (.slice Am nm km) (.slice Ab nb kb) (.slice A n c)).toArray 29)=w1 at*;have HG:=S9 hG;have hs1:Hid (w.heap.size<w1.heap.size):=S9 hb1.lt;clear hG;rcases q1 with _|_
  ·have HF:=S9 (show C9 e=1 by rw[HE.out,HV.out];rfl);go_wp2_with(first|((with_reducible refine AG 29 (.tmp 1) rfl ?_);refine BR 29 Tryz.underlying29 rfl (.tmp 1) (w.heap.size) (AE e (.slice Am nm km) (.slice Ab nb kb) (.slice A n c)) 29 AD rfl rfl rfl hb1 ?_)|(go_at_call 63;(with_reducible refine(HSh.out _).mono ?_);rintro e3 w3 ⟨rfl,k3⟩));go_ret;exact⟨by rw[HF.out];rfl,HG.out.trans k3⟩
  replace HRg:=S9 (HRg.out rfl);go_upto_region 3 with(first|((with_reducible refine AG 29 (.tmp 1) rfl ?_);refine BR 29 Tryz.underlying29 rfl (.tmp 1) (w.heap.size) (AE e (.slice Am nm km) (.slice Ab nb kb) (.slice A n c)) 29 AD rfl rfl rfl hb1 ?_)|(go_at_call 63;(with_reducible refine(HSh.out _).mono ?_);rintro e3 w3 ⟨rfl,k3⟩));have hb3:=hb1.grew k3;have HG3:=S9 (HG.out.trans k3);clear hb1 k3 HSh;rcases q2 with _|_
  ·have HF:=S9 (show C9 e=8 by rw[HE.out,HV.out];rfl);go_wp2_with(first|((with_reducible refine AG 29 (.tmp 1) rfl ?_);refine BR 29 Tryz.underlying29 rfl (.tmp 1) (w.heap.size) (AE e (.slice Am nm km) (.slice Ab nb kb) (.slice A n c)) 29 AD rfl rfl rfl hb3 ?_)|(go_at_call 64;(with_reducible refine(HNd.out _ HG3.out).mono ?_);rintro e4 w4 ⟨rfl,k4⟩));go_ret;exact⟨by rw[HF.out];rfl,HG3.out.trans k4⟩
  go_upto_region 5 with(first|((with_reducible refine AG 29 (.tmp 1) rfl ?_);refine BR 29 Tryz.underlying29 rfl (.tmp 1) (w.heap.size) (AE e (.slice Am nm km) (.slice Ab nb kb) (.slice A n c)) 29 AD rfl rfl rfl hb3 ?_)|(go_at_call 64;(with_reducible refine(HNd.out _ HG3.out).mono ?_);rintro e4 w4 ⟨rfl,k4⟩));have hb4:=hb3.grew k4;have HG4:=S9 (HG3.out.trans k4);clear hb3 k4 HNd;have c8:w4.cell? ⟨w.heap.size,8,none⟩=some (.slice Am nm km):=hb4.cell 8;have c9:w4.cell? ⟨w.heap.size,9,none⟩=some (.slice Ab nb kb):=hb4.cell 9;by_cases hm8:8<nm
  ·have t8:decide ((8:Int)<(nm:Int))=true:=by simp;omega
   have HF:=S9 (show C9 e=4 by rw[HE.out,show Bj e=4 by rw[HV.out,SQ (by simp),SQ (by simp),SR (.inl hm8)]];rfl);clear hm8;go_wp2_with fail;go_ret;exact⟨by rw[HF.out];rfl,HG4.out⟩
  have t8:decide ((8:Int)<(nm:Int))=false:=by simp;omega
  by_cases hb8:8<nb
  ·have t9:decide ((8:Int)<(nb:Int))=true:=by simp;omega
   have HF:=S9 (show C9 e=4 by rw[HE.out,show Bj e=4 by rw[HV.out,SQ (by simp),SQ (by simp),SR (.inr hb8)]];rfl);clear hm8 hb8;go_wp2_with fail;go_ret;exact⟨by rw[HF.out];rfl,HG4.out⟩
  have t9:decide ((8:Int)<(nb:Int))=false:=by simp;omega
  have HN8:=S9 (show ¬(8<nm∨8<nb) by omega);clear hm8 hb8;go_upto_region 7 with fail;clear c8 c9;rcases q3 with _|_
  ·have HF:=S9 (show C9 e=5 by rw[HE.out,show Bj e=5 by rw[HV.out,SQ (by simp),SQ (by simp),SQ HN8.out,SR rfl]];rfl);go_wp2_with(first|((with_reducible refine AG 29 (.tmp 1) rfl ?_);refine BR 29 Tryz.underlying29 rfl (.tmp 1) (w.heap.size) (AE e (.slice Am nm km) (.slice Ab nb kb) (.slice A n c)) 29 AD rfl rfl rfl hb4 ?_)|(go_at_call 65;(with_reducible refine(HRg.out _).mono ?_);rintro e5 w5 ⟨rfl,k5⟩));go_ret;exact⟨by rw[HF.out];rfl,HG4.out.trans k5⟩
  have HF:=S9 (show C9 e=Bv e.kids by rw[HE.out,show Bj e=0 by rw[HV.out,SQ (by simp),SQ (by simp),SQ HN8.out,SQ (by simp)]];rfl);go_upto_region 9 with(first|((with_reducible refine AG 29 (.tmp 1) rfl ?_);refine BR 29 Tryz.underlying29 rfl (.tmp 1) (w.heap.size) (AE e (.slice Am nm km) (.slice Ab nb kb) (.slice A n c)) 29 AD rfl rfl rfl hb4 ?_)|(go_at_call 65;(with_reducible refine(HRg.out _).mono ?_);rintro e5 w5 ⟨rfl,k5⟩));have HB5:=S9 (hb4.grew k5);have HG5:=S9 (HG4.out.trans k5);clear hb4 k5 HRg HV HN8 HE;have c10:w5.cell? ⟨w.heap.size,10,none⟩=some (.slice A n c):=HB5.out.cell 10;go_wp2_with fail;go_loopw [4,5,28] (fun _ _ i wr=>∃j:Nat,j≤n∧i= .int .i64 (j:Nat)∧A5 w5 wr∧Bv (e.kids.take j)=0) (fun _ _ i _=>n-(intOf i).toNat)
  case atStart=>exact⟨0,by omega,rfl,Sa _,rfl⟩
  case round=>
   obtain⟨j,hj,rfl,hGr,hz⟩:=hrel;have HZ:=S9 hz;have HGR:=S9 hGr;have c10:wr.cell? ⟨w.heap.size,10,none⟩=some (.slice A n c):=(HB5.out.grew hGr).cell 10;clear hz hGr;by_cases hlt:j<n
   ·have hjl:j<e.kids.length:=by rw[←HN.out];exact hlt
    obtain⟨e',he'⟩:∃e',e.kids[j]? =some e':=⟨_,SF hjl⟩;have hmem:e'∈e.kids:=SN he';obtain⟨b,o,cs,hA,hb,hrg,hre⟩:=(HT.out.grew (HG5.out.trans HGR.out)).at_ he';subst hA;obtain⟨vm',vb',vk',hcs,hm',hy',hT'⟩:=hre.open_;subst hcs;obtain⟨A1,n1,c1,rfl⟩:∃A n c,vm'= .slice A n c:=by obtain⟨A,c,h, -⟩:=hm';exact⟨A,_,c,h⟩
    obtain⟨A2,n2,c2,rfl⟩:∃A n c,vb'= .slice A n c:=by obtain⟨A,c,h, -⟩:=hy';exact⟨A,_,c,h⟩
    obtain⟨A3,n3,c3,rfl, -⟩:=hT'.slice;obtain⟨q,hq⟩:∃q,C9 e'=q:=⟨_,rfl⟩;have HI:=S9 (fun w' (g:A5 wr w')=>HIH.out e' w' _ hmem (HWT.out.grew ((HG5.out.trans HGR.out).trans g)) (hre.grew g));rw[hq]at HI;have HSn:=S9 (show Bv (e.kids.take (j+1))=q by rw[Jw he' HZ.out,hq]);have HRk:=S9 hrg;have g0:=Sa wr;clear hjl he' hmem hrg hre hq hm' hy' hT';by_cases hq0:q=0
    ·subst hq0;have HSn:=HSn;go_wp2_with(first|((with_reducible refine AG 29 (.tmp 30) rfl ?_);refine wpList_load_mid rfl 29 (.tmp 30) rfl b (o+j*11) rfl (AE e' (.slice A1 n1 c1) (.slice A2 n2 c2) (.slice A3 n3 c3)) _ HRk.out Tryz.underlying29 rfl AD ?_)|((with_reducible refine AF 29 (.tmp 4) (.tmp 31) rfl ?_);refine Ar 29 (.tmp 4) (.tmp 31) (wr.heap.size) (AE e' (.slice A1 n1 c1) (.slice A2 n2 c2) (.slice A3 n3 c3)) (AH 0 0) 29 AD rfl (Ay _ _ _ _ _ _ _ _ _ _) rfl rfl rfl rfl (Sc wr 29 _) ?_;intro w6 hb6 k6 d6;have g6:A5 wr w6:=Sb ((Sa wr).alloc _) k6 (fun i hi e=>by omega))|((with_reducible refine AG 29 (.tmp 4) rfl ?_);refine BR 29 Tryz.underlying29 rfl (.tmp 4) (wr.heap.size) (AE e' (.slice A1 n1 c1) (.slice A2 n2 c2) (.slice A3 n3 c3)) 29 AD rfl rfl rfl hb6 ?_)|(go_at_call 31;(with_reducible refine(HI.out _ g6).mono ?_);rintro e7 w7 ⟨rfl,k7⟩));go_roundw
     case rel=>exact⟨j+1,by omega,by go_num,HGR.out.trans (g6.trans k7),HSn.out⟩
     case measure=>simp[intOf];omega
    have t1:(q==0)=false:=by rw[SA];exact hq0
    have t2:(q !=0)=true:=by rw[bne,t1];rfl
    have HFF:=S9 (show C9 e=q by rw[HF.out,JB (by rw[HSn.out];exact hq0),HSn.out]);clear hq0;go_wp2_with(first|((with_reducible refine AG 29 (.tmp 30) rfl ?_);refine wpList_load_mid rfl 29 (.tmp 30) rfl b (o+j*11) rfl (AE e' (.slice A1 n1 c1) (.slice A2 n2 c2) (.slice A3 n3 c3)) _ HRk.out Tryz.underlying29 rfl AD ?_)|((with_reducible refine AF 29 (.tmp 4) (.tmp 31) rfl ?_);refine Ar 29 (.tmp 4) (.tmp 31) (wr.heap.size) (AE e' (.slice A1 n1 c1) (.slice A2 n2 c2) (.slice A3 n3 c3)) (AH 0 0) 29 AD rfl (Ay _ _ _ _ _ _ _ _ _ _) rfl rfl rfl rfl (Sc wr 29 _) ?_;intro w6 hb6 k6 d6;have g6:A5 wr w6:=Sb ((Sa wr).alloc _) k6 (fun i hi e=>by omega))|((with_reducible refine AG 29 (.tmp 4) rfl ?_);refine BR 29 Tryz.underlying29 rfl (.tmp 4) (wr.heap.size) (AE e' (.slice A1 n1 c1) (.slice A2 n2 c2) (.slice A3 n3 c3)) 29 AD rfl rfl rfl hb6 ?_)|(go_at_call 31;(with_reducible refine(HI.out _ g6).mono ?_);rintro e7 w7 ⟨rfl,k7⟩));go_ret;exact⟨by rw[HFF.out];rfl,(HG5.out.trans HGR.out).trans (g6.trans k7)⟩
   obtain rfl:j=n:=by omega
   have HFF:=S9 (show C9 e=0 by rw[HF.out,←HZ.out,List.take_of_length_le (by rw[←HN.out];exact SD _)]);go_wp2_with fail;go_ret;exact⟨by rw[HFF.out];rfl,HG5.out.trans HGR.out⟩
theorem Nu (es:List Ex) (dp:Nat) (l:Int) (h0: -1≤l) (h1:l≤200): -1≤Bx es dp l∧Bx es dp l≤200:=by
 by_cases hl:l<0
 ·rw[Df hl];omega
 obtain⟨h2,h3⟩:=(Iq (Af es+1)).2 es dp l (by omega) (by omega);by_cases h:((Af es:Nat):Int)≤l∧dp+BI es≤13∨es=[]
 ·rw[h2 h];rcases h with h|rfl
  ·omega
  simp[Af];omega
 rw[h3 h];omega
theorem JT:∀(k:Nat) (e:Ex),AL e≤k→k≤1000000→∀(w:World) (B0 g dp:Nat) (l:Int) (cs:List Value),BZ w B0 e cs→B0≤g→dp≤13→0≤l→l≤200→Ag w g 3 #[.int .i64 l]→
  Calls Tryz.prog 62 #[.agg cs.toArray,.int .i64 (dp:Nat),.pointer (some ⟨g,0,none⟩)] w fun e' w'=>e'= .returned (.tuple #[])∧Ag w' g 3 #[.int .i64 (F2 e dp l)]∧AC (fun i=>i=g) w w'
 |0,e,h,_,_,_,_,_,_,_,_,_,_,_,_,_=>absurd (Aw e) (by omega)
 |k+1,e,hk,hk2,w,B0,g,dp,l,cs,hr,hB0,hdp,hl0,hl1,hg=>by
  obtain⟨vm,vb,vk,rfl, -, -,hT⟩:=hr.open_;have hne:=B9 e;have hkl:=Bh e.kids;obtain⟨A,n,c,rfl,hn, -⟩:=hT.slice;have HIH:=S9 (fun(e':Ex) (h1:e'∈e.kids)=>JT k e' (by have:=Aa h1;omega) (by omega));have hgl:=hg.lt;have HT:=S9 hT;have HN:=S9 hn;have hbx:=Sc w 29 (AE e vm vb (.slice A n c)).toArray;have hG:=(Sa w).alloc (.cells (AE e vm vb (.slice A n c)).toArray 29);have hg1:=hg.alloc (.cells (AE e vm vb (.slice A n c)).toArray 29);have hnb:n≤1000000:=by omega
  have HC:=S9 (MZ e dp l);have HB0:=S9 hB0;have HGL:=S9 hgl;clear hr hT hn hne hkl hk hk2 hB0 hgl;go_enter Tryz.func62,Tryz.ntmps62;go_upto_region 1 with fail;generalize w.alloc (.cells (AE e vm vb (.slice A n c)).toArray 29)=w1 at*;have HBx:=S9 hbx;have HG:=S9 hG;clear hbx hG;have a0:w1.cell? ⟨g,0,none⟩=some (.int .i64 l):=hg1.cell 0;have a1:w1.frozen? ⟨g,0,none⟩=false:=hg1.frozen 0;have hd1:Ag (w1.setCell ⟨g,0,none⟩ (.int .i64 (l-1))) g 3 #[.int .i64 (l-1)]:=hg1.set_ 0 _;have kd1:AC (fun i=>i=g) w1 (w1.setCell ⟨g,0,none⟩ (.int .i64 (l-1))):=Sf (S:=fun i=>i=g) (p:=⟨g,0,none⟩) (Se _ w1) (.inl rfl) _;have HG1:=S9 hg1;clear hg1;go_upto_region 2 with fail;generalize w1.setCell ⟨g,0,none⟩ (.int .i64 (l-1))=w2 at*;clear a0 a1;have a0:w2.cell? ⟨g,0,none⟩=some (.int .i64 (l-1)):=hd1.cell 0;have a1:w2.frozen? ⟨g,0,none⟩=false:=hd1.frozen 0;have hbx2:=HBx.out.keep kd1 (by have:=HGL.out;omega);by_cases h12:12<dp
  ·have t12:decide ((12:Int)<(dp:Int))=true:=by simp;omega
   have he1:Ag (w2.setCell ⟨g,0,none⟩ (.int .i64 (-1))) g 3 #[.int .i64 (-1)]:=hd1.set_ 0 _;have ke1:AC (fun i=>i=g) w1 (w2.setCell ⟨g,0,none⟩ (.int .i64 (-1))):=Sf (S:=fun i=>i=g) (p:=⟨g,0,none⟩) kd1 (.inl rfl) _;have hbx3:=hbx2.far (p:=⟨g,0,none⟩) (by have:=HGL.out;simp;omega) (.int .i64 (-1));have HC2:=S9 (show F2 e dp l= -1 by rw[HC.out,SR h12,Df (by omega)]);clear h12 hbx2 hd1 kd1;go_upto_region 4 with fail;generalize w2.setCell ⟨g,0,none⟩ (.int .i64 (-1))=w3 at*;clear a0 a1;have a0:w3.cell? ⟨g,0,none⟩=some (.int .i64 (-1)):=he1.cell 0;have a2:w3.cell? ⟨w.heap.size,10,none⟩=some (.slice A n c):=hbx3.cell 10;clear hbx3;go_wp2_with fail;go_loopw [6] (fun i wr=>i= .int .i64 0∧wr=w3) (fun i _=>0)
   case atStart=>exact⟨rfl,rfl⟩
   case round=>
    obtain⟨rfl,rfl⟩:=hrel;by_cases hn0:0<n
    ·have t0:decide ((0:Int)<(n:Int))=true:=by simp;omega
     go_wp2_with fail;go_end0;exact⟨rfl,by rw[HC2.out];exact he1,Sb (Si HG.out) ke1 fun i hi e=>e⟩
    have t0:decide ((0:Int)<(n:Int))=false:=by simp;omega
    go_wp2_with fail;go_end0;exact⟨rfl,by rw[HC2.out];exact he1,Sb (Si HG.out) ke1 fun i hi e=>e⟩
  have t12:decide ((12:Int)<(dp:Int))=false:=by simp;omega
  have HC2:=S9 (show F2 e dp l=Bx e.kids (dp+1) (l-1) by rw[HC.out,SQ h12]);have HD:=S9 h12;have HBX2:=S9 hbx2;have HD1:=S9 hd1;have HK1:=S9 kd1;clear h12 hbx2 hd1 kd1;go_wp2_with fail;go_loopw [6] (fun i wr=>∃(j:Nat),j≤n∧i= .int .i64 (j:Nat)∧Ag wr g 3 #[.int .i64 (Bx (e.kids.take j) (dp+1) (l-1))]∧AC (fun i=>i=g) w1 wr) (fun i _=>n-(intOf i).toNat)
  case atStart=>exact⟨0,by omega,rfl,HD1.out,HK1.out⟩
  case round=>
   obtain⟨j,hj,rfl,hb,hkr⟩:=hrel;obtain⟨hz0,hz1⟩:=Nu (e.kids.take j) (dp+1) (l-1) (by omega) (by omega);obtain⟨z,hz⟩:∃z,Bx (e.kids.take j) (dp+1) (l-1)=z:=⟨_,rfl⟩;rw[hz]at hb hz0 hz1;have HZ:=S9 hz;have c10:wr.cell? ⟨w.heap.size,10,none⟩=some (.slice A n c):=(HBx.out.keep hkr (by have:=HGL.out;omega)).cell 10;have a0:wr.cell? ⟨g,0,none⟩=some (.int .i64 z):=hb.cell 0;have HB:=S9 hb;have HKR:=S9 hkr;clear hz hb hkr;by_cases hlt:j<n
   ·by_cases hzn:z<0
    ·have t0:decide ((0:Int)≤z)=false:=by simp;omega
     have HF:=S9 (show F2 e dp l=z by rw[HC2.out,KS (by rw[HZ.out];exact hzn),HZ.out]);clear hzn;go_wp2_with fail;go_end0;exact⟨rfl,by rw[HF.out];exact HB.out,Sb (Si HG.out) HKR.out fun i hi e=>e⟩
    have t0:decide ((0:Int)≤z)=true:=by simp;omega
    have hjl:j<e.kids.length:=by rw[←HN.out];exact hlt
    obtain⟨e',he'⟩:∃e',e.kids[j]? =some e':=⟨_,SF hjl⟩;have hmem:e'∈e.kids:=SN he';have hTw:I1 wr B0 (.slice A n c) e.kids:=HT.out.keep (by have:=HB0.out;have:=HGL.out;omega) (SD _) (Sb (S:=fun i=>i=g) (Si HG.out) HKR.out fun i hi e=>e) (fun i hi e=>by have:=HB0.out;omega);obtain⟨b,o,cs,rfl,hb,hrg,hre⟩:=hTw.at_ he';obtain⟨vm',vb',vk',hcs, -⟩:=hre.open_;subst hcs;have hI:=HIH.out e' hmem wr B0 g (dp+1) z _ hre (by have:=HB0.out;omega) (by have:=HD.out;omega) (by omega) hz1 HB.out;rw[show(((dp+1:Nat)):Int)=(dp:Int)+1 by omega]at hI;have HI:=S9 hI;have HSn:=S9 (show Bx (e.kids.take (j+1)) (dp+1) (l-1)=F2 e' (dp+1) z by rw[MO he' (by rw[HZ.out];omega),HZ.out]);have HRg:=S9 hrg;have hd14:dp≤12:=by have:=HD.out;omega
    clear hjl he' hmem hTw hrg hre hzn hI;go_wp2_with(refine wpList_load_mid rfl 29 (.tmp 32) rfl b (o+j*11) rfl (AE e' vm' vb' vk') _ HRg.out Tryz.underlying29 rfl AD ?_);refine HI.out.mono ?_;rintro e2 w3 ⟨rfl,hb3,k3⟩;have HB3:=S9 hb3;have HK3:=S9 (Sb HKR.out k3 fun i hi e=>e);clear hb3 k3 HI c10 a0;go_wp2_with fail;go_roundw
    case rel=>exact⟨j+1,by omega,by go_num,by rw[HSn.out];exact HB3.out,HK3.out⟩
    case measure=>simp[intOf];omega
   obtain rfl:j=n:=by omega
   have HF:=S9 (show F2 e dp l=z by rw[HC2.out,←HZ.out,List.take_of_length_le (by rw[←HN.out];exact SD _)]);go_wp2_with fail;go_end0;exact⟨rfl,by rw[HF.out];exact HB.out,Sb (Si HG.out) HKR.out fun i hi e=>e⟩
theorem KT (e:Ex) (hn:AL e≤1000000) (w:World) (cs:List Value) (hr:BZ w w.heap.size e cs):
  Calls Tryz.prog 30 #[.agg cs.toArray] w fun e' w'=>e'= .returned (.bool (decide (0≤F2 e 1 200)))∧A5 w w':=by
 obtain⟨vm,vb,vk,rfl, -⟩:=hr.open_;have hb1:=Sc w 29 (AE e vm vb vk).toArray;have hG:=(Sa w).alloc (.cells (AE e vm vb vk).toArray 29);have hs1:(w.alloc (.cells (AE e vm vb vk).toArray 29)).heap.size=w.heap.size+1:=by simp
 obtain⟨z,hz⟩:∃z,F2 e 1 200=z:=⟨_,rfl⟩;have HR:=S9 hr;have HS:=S9 hs1;have HN:=S9 hn;have HZ:=S9 hz;rw[hz];clear hr hn hz;go_enter Tryz.func30,Tryz.ntmps30;go_upto_region 1 with fail;generalize w.alloc (.cells (AE e vm vb vk).toArray 29)=w1 at*;have hI2:=Sc w1 3 #[.int .i64 200];have hG2:A5 w1 (w1.alloc (.cells #[.int .i64 200] 3)):=(Sa w1).alloc _;rw[hs1]at hI2;have HG2:=S9 (hG.trans hG2);have HI2:=S9 hI2;have HB1:=S9 (hb1.grew hG2);clear hG hI2 hG2 hb1;go_upto_region 2 with fail;generalize w1.alloc (.cells #[.int .i64 200] 3)=w2 at*;have hb2:=HB1.out;have hC:=JT (AL e) e (SD _) HN.out w2 w.heap.size (w.heap.size+1) 1 200 _ (BZ.keep (SD _) (SD _) HG2.out (fun _ _ h=>h) _ _ HR.out) (by omega) (by omega) (by omega) (by omega) HI2.out;rw[HZ.out]at hC;have HC:=S9 hC;clear hs1 hC;go_wp2_with(first|((with_reducible refine AG 29 (.tmp 1) rfl ?_);refine BR 29 Tryz.underlying29 rfl (.tmp 1) (w.heap.size) (AE e vm vb vk) 29 AD rfl rfl rfl hb2 ?_)|(go_at_call 62;refine HC.out.mono ?_;rintro e2 w3 ⟨rfl,hb3,k3⟩;have a0:w3.cell? ⟨w.heap.size+1,0,none⟩=some (.int .i64 z):=hb3.cell 0));go_ret;exact⟨rfl,Sb HG2.out k3 fun i hi e=>by omega⟩
theorem Dv (e:Ex):BF e=BI e.kids+1:=by
 cases e;rw[BF];rfl
theorem Gt (e:Ex):1≤BF e:=by rw[Dv];omega
theorem Ek (e:Ex) (hn:AL e≤1000000) (hok:BL Be e) (w:World) (cs:List Value) (hwt:D5 w) (hr:BZ w w.heap.size e cs):
  Calls Tryz.prog 12 #[.agg cs.toArray] w fun e' w'=>e'= .returned (.int .i64 (Ca e))∧A5 w w':=by
 obtain⟨vm,vb,vk,rfl, -⟩:=hr.open_;have HR:=S9 (fun w' (g:A5 w w')=>hr.grew g);have hb1:=Sc w 29 (AE e vm vb vk).toArray;have hG:=(Sa w).alloc (.cells (AE e vm vb vk).toArray 29);have HFt:=S9 (fun w' (g:A5 w w')=>KT e hn w' (AE e vm vb vk) (hr.grew g));have HCk:=S9 (fun w' (g:A5 w w')=>JS (AL e) e (SD _) hn hok w' (AE e vm vb vk) (hwt.grew g) (hr.grew g));obtain⟨q,hq⟩:∃q,decide (0≤F2 e 1 200)=q:=⟨_,rfl⟩;rw[hq]at HFt;obtain⟨z,hz⟩:∃z,C9 e=z:=⟨_,rfl⟩;rw[hz]at HCk;have HV:=S9 (show Ca e=if q=true then z else 4 by
  unfold Ca;rw[←hz];by_cases h:0≤F2 e 1 200
  ·rw[SQ ((IP e).1 h),SR (hq.symm.trans (decide_eq_true h))]
  rw[SR (Decidable.of_not_not fun h'=>h ((IP e).2 h')),SQ (fun hc=>h (SL (hq.trans hc)))])
 clear hr hok hwt hn hq hz;go_enter Tryz.func12,Tryz.ntmps12;go_upto_region 1 with fail;generalize w.alloc (.cells (AE e vm vb vk).toArray 29)=w1 at*;have HG:=S9 hG;clear hG;rcases q with _|_
 ·go_wp2_with(first|((with_reducible refine AG 29 (.tmp 1) rfl ?_);refine BR 29 Tryz.underlying29 rfl (.tmp 1) (w.heap.size) (AE e vm vb vk) 29 AD rfl rfl rfl hb1 ?_)|(go_at_call 30;(with_reducible refine(HFt.out _ HG.out).mono ?_);rintro e3 w3 ⟨rfl,k3⟩));go_ret;exact⟨by rw[HV.out];rfl,HG.out.trans k3⟩
 go_upto_region 3 with(first|((with_reducible refine AG 29 (.tmp 1) rfl ?_);refine BR 29 Tryz.underlying29 rfl (.tmp 1) (w.heap.size) (AE e vm vb vk) 29 AD rfl rfl rfl hb1 ?_)|(go_at_call 30;(with_reducible refine(HFt.out _ HG.out).mono ?_);rintro e3 w3 ⟨rfl,k3⟩));have hb3:=hb1.grew k3;have HG3:=S9 (HG.out.trans k3);clear hb1 k3 HFt;go_wp2_with(first|((with_reducible refine AG 29 (.tmp 1) rfl ?_);refine BR 29 Tryz.underlying29 rfl (.tmp 1) (w.heap.size) (AE e vm vb vk) 29 AD rfl rfl rfl hb3 ?_)|(go_at_call 31;(with_reducible refine(HCk.out _ HG3.out).mono ?_);rintro e4 w4 ⟨rfl,k4⟩));go_ret;exact⟨by rw[HV.out];rfl,HG3.out.trans k4⟩
theorem BL.and {p q:Ex→Prop}:∀(n:Nat) (e:Ex),AL e≤n→BL p e→BL q e→BL (fun e=>p e∧q e) e
 |0,e,h,_,_=>absurd (Aw e) (by omega)
 |n+1,e,h,hp,hq=>BA.2 ⟨⟨hp.top,hq.top⟩,fun k hk=>BL.and n k (by
   have h1:=Aa hk;have h2:=B9 e;omega) (hp.kid hk) (hq.kid hk)⟩
theorem De {w w5 w8:World} {B0 M:Nat} {e:Ex} {cs:List Value} (k8:AC (fun i=>i=w.heap.size+1) w5 w8) (hB:B0≤w.heap.size) (hM:w.heap.size+2≤M) (h:AW w5 (CW B0 M w5.heap.size) e cs):AW w8 (CW B0 w.heap.size w8.heap.size) e cs:=by
 have hsz:=k8.size;exact AW.keep (S:=fun i=>i=w.heap.size+1) (fun b hb=>⟨hb.2,fun h=>by rcases hb.1 with h1|h1<;>omega,by rcases hb.1 with h1|h1;exact .inl h1;exact .inr (by omega),by have:=hb.2;omega⟩) k8 _ _ h
end Go.Proofs.YthpflelgbadkcaaGreatDoor
namespace Go.Proofs.YthpflelgbadkcaaGreatDoor
open Go.Shelf Go.RowKit Pl
def O3:Go.Shelf.Ren:=⟨fun|264=>118|n=>n,fun|46=>194|53=>123|148=>172|n=>n,fun|n=>n⟩
theorem Qm:Go.Proofs.Lays.n264 Tryz.prog O3:={
 mixed:=by kernel_rfl
 f264:=Tryz.func118.trans (congrArg some (by kernel_rfl))
 t46:=Tryz.underlying194
 a46:=Tryz.isAgg194
 z46:=Tryz.sizeOf194
 v46:=Tryz.zeroValue194
 t53:=Tryz.underlying123
 a53:=Tryz.isAgg123
 z53:=Tryz.sizeOf123
 v53:=Tryz.zeroValue123 }
theorem JZ (x y:Nat) (hx:x<18446744073709551616) (hy:y<18446744073709551616) (w:World):
  Calls Tryz.prog 118 #[.int .u64 (x:Nat),.int .u64 (y:Nat)] w fun e w'=>e= .returned (.tuple #[.int .u64 ((x*y/18446744073709551616:Nat):Int),.int .u64 ((x*y%18446744073709551616:Nat):Int)])∧w'=w:=
 Go.Proofs.Any.bits_Mul64 Qm x y hx hy w
end Go.Proofs.YthpflelgbadkcaaGreatDoor
