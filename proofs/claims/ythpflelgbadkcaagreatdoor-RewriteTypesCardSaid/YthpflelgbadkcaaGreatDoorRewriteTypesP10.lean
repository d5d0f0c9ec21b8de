/- What the card of the law stands on: Shaped, Within, Check, RNamed, RShaped, RCheck, Count, Depth, TValid. -/
import Derived.Test.YthpflelgbadkcaaGreatDoorRewriteTypesP01
import Derived.Test.YthpflelgbadkcaaGreatDoorRewriteTypesP03
import Derived.Test.YthpflelgbadkcaaGreatDoorRewriteTypesP06
import Derived.Test.YthpflelgbadkcaaGreatDoorRewriteTypesP04
import Derived.Test.YthpflelgbadkcaaGreatDoorRewriteTypesP02
import Derived.Deep.DeepCutAuto
import Derived.Test.YthpflelgbadkcaaGreatDoorRewriteTypesP09
import Derived.Test.YthpflelgbadkcaaGreatDoorRewriteTypesP08
set_option maxRecDepth 100000
set_option maxHeartbeats 12800000
set_option linter.unusedVariables false
set_option linter.unusedSimpArgs false
namespace Go.Proofs.YthpflelgbadkcaaGreatDoor
open Go.RowKit Pl
def DC (e:Ex):Bool:=decide (e.window=0∧e.offset=0∧e.name.size=0∧e.ms.length=0)
def EE (e:Ex):Bool:=decide (e.num=0∧e.den=0)
theorem EA (e:Ex) (n nm nb:Nat) (hnm:nm=e.ms.length) (hnn:n=e.kids.length) (hnb:nb=e.bys.length):BH e=
  (if e.kind=0 then decide (e.fn=0∧n=0∧DC e=true∧e.k=0∧nb=0∧Al e.num e.den=true)
  else if e.kind=1 then decide (0≤e.fn∧e.fn≤7∧n=0∧EE e=true∧nb=0)
  else if e.kind=2 then decide (0≤e.fn∧e.fn≤4∧n=1∧EE e=true∧DC e=true)
  else if e.kind=3 then decide (0≤e.fn∧e.fn≤3∧n=2∧EE e=true∧DC e=true∧e.k=0∧nb=0)
  else false):=by
 subst hnm hnn hnb;unfold BH DC EE;rw[Bool.eq_iff_iff]
 (repeat' split)<;>simp[*]<;>(try omega)<;>grind
theorem NT {s:ByteArray} (h:s.size=0):s.toList.isEmpty=true:=by
 rw[ByteArray.toList_eq,List.isEmpty_iff];exact List.eq_nil_of_length_eq_zero h
theorem PO {s:ByteArray} (h:¬s.size=0):s.toList.isEmpty=false:=by
 rw[ByteArray.toList_eq,List.isEmpty_eq_false_iff];intro h0;exact h (congrArg List.length h0)
theorem Mn (e:Ex) (Am Ab A:Option Addr) (nm km nb kb n c:Nat) (hnm:nm=e.ms.length) (hnb:nb=e.bys.length) (hnn:n=e.kids.length) (w:World) (h64:Ji e):Calls Tryz.prog 63 #[.agg (AC e (.slice Am nm km) (.slice Ab nb kb) (.slice A n c)).toArray] w fun e' w'=>e'= .returned (.bool (BH e))∧A4 w w':=by
 have hb:=VW w 29 (AC e (.slice Am nm km) (.slice Ab nb kb) (.slice A n c)).toArray;have hG:=(VU w).alloc (.cells (AC e (.slice Am nm km) (.slice Ab nb kb) (.slice A n c)).toArray 29);have HFV:=V3 (fun w'=>Jd e.num e.den w' h64.2.2.2.2.2.1 h64.2.2.2.2.2.2);have HL:=V3 (V5 hnm (V5 hnn hnb));clear h64 hnm hnn hnb;go_enter Tryz.func63,Tryz.ntmps63;go_upto_region 1 with fail;generalize w.alloc (.cells (AC e (.slice Am nm km) (.slice Ab nb kb) (.slice A n c)).toArray 29)=w1 at*;have c0:w1.cell? ⟨w.heap.size,0,none⟩=some (.int .i64 e.kind):=hb.cell 0;have c1:w1.cell? ⟨w.heap.size,1,none⟩=some (.int .i64 e.fn):=hb.cell 1;have c2:w1.cell? ⟨w.heap.size,2,none⟩=some (.int .i64 e.window):=hb.cell 2;have c3:w1.cell? ⟨w.heap.size,3,none⟩=some (.int .i64 e.offset):=hb.cell 3;have c4:w1.cell? ⟨w.heap.size,4,none⟩=some (.int .i64 e.k):=hb.cell 4;have c7:w1.cell? ⟨w.heap.size,7,none⟩=some (.string e.name):=hb.cell 7;have c8:w1.cell? ⟨w.heap.size,8,none⟩=some (.slice Am nm km):=hb.cell 8;have c9:w1.cell? ⟨w.heap.size,9,none⟩=some (.slice Ab nb kb):=hb.cell 9;have c10:w1.cell? ⟨w.heap.size,10,none⟩=some (.slice A n c):=hb.cell 10;have HG:=V3 hG;have HB:=V3 hb;clear hG hb;go_cut [3] (fun s3 wx=>s3= .bool (DC e)∧w1=wx)
 case first=>
  refine if h0:e.window=0 then if h1:e.offset=0 then if h2:e.name.size=0 then if h3:nm=0 then ?_ else ?_ else ?_ else ?_ else ?_
  all_goals
   try first|have f0:(e.window==0)=true:=VC.2 h0|have f0:(e.window==0)=false:=V4.2 h0
   try first|have f1:(e.offset==0)=true:=VC.2 h1|have f1:(e.offset==0)=false:=V4.2 h1
   try first|have f2:=NT h2|have f2:=PO h2
   try first|have f3:((nm:Int)==0)=true:=by rw[VC];omega|have f3:((nm:Int)==0)=false:=by rw[V4];omega
   first|have HV:=V3 (show DC e=true by obtain⟨hnm,hnn,hnb⟩:=HL.out;unfold DC;rw[←hnm];exact decide_eq_true (by omega))|have HV:=V3 (show DC e=false by obtain⟨hnm,hnn,hnb⟩:=HL.out;unfold DC;rw[←hnm];exact VI (by omega))
   clear h0
   try clear h1
   try clear h2
   try clear h3
   go_wp2_with fail;go_meet;exact⟨by(try rw[HV.out]);(try rw[f3]),rfl⟩
 case rest=>
  obtain⟨rfl,rfl⟩:=hcut;have c5:w1.rangeAt w.heap.size 5 (AI e.num e.den):=HB.out.rangeN 5 (AI e.num e.den) rfl;have hq:=fun w=>(show(binOp .eql 24 (.agg (AI e.num e.den).toArray) (.agg #[.int .i64 0,.int .i64 0])).run Tryz.prog w= .ok (.bool (EE e)) w from F6 e.num e.den 0 0 (EE e) rfl w)
  go_upto_region 3 with(first|((with_reducible refine AF 24 (.tmp 24) rfl ?_);refine wpList_load_mid rfl 24 (.tmp 24) rfl w.heap.size 5 rfl (AI e.num e.den) _ c5 Tryz.underlying24 rfl Ao ?_));have c5':w1.cell? ⟨w.heap.size,5,none⟩=some (.int .i64 e.num):=HB.out.cell 5;have c6':w1.cell? ⟨w.heap.size,6,none⟩=some (.int .i64 e.den):=HB.out.cell 6;clear c5 hq;refine if hk0:e.kind=0 then if hf:e.fn=0 then if hn0:n=0 then if hs:DC e=true then if hq:e.k=0 then if hb:nb=0 then if hv:Al e.num e.den=true then ?_ else ?_ else ?_ else ?_ else ?_ else ?_ else ?_ else if hk1:e.kind=1 then if hg:0≤e.fn then if hu7:e.fn≤7 then if hn0:n=0 then if hm:EE e=true then if hb:nb=0 then ?_ else ?_ else ?_ else ?_ else ?_ else ?_ else if hk2:e.kind=2 then if hg:0≤e.fn then if hu4:e.fn≤4 then if hn1:n=1 then if hm:EE e=true then if hs:DC e=true then ?_ else ?_ else ?_ else ?_ else ?_ else ?_ else if hk3:e.kind=3 then if hg:0≤e.fn then if hu3:e.fn≤3 then if hn2:n=2 then if hm:EE e=true then if hs:DC e=true then if hq:e.k=0 then if hb:nb=0 then ?_ else ?_ else ?_ else ?_ else ?_ else ?_ else ?_ else ?_ else ?_
  all_goals
   try first|have qk0:(e.kind==0)=true:=VC.2 hk0|have qk0:(e.kind==0)=false:=V4.2 hk0
   try first|have qk1:(e.kind==1)=true:=VC.2 hk1|have qk1:(e.kind==1)=false:=V4.2 hk1
   try first|have qk2:(e.kind==2)=true:=VC.2 hk2|have qk2:(e.kind==2)=false:=V4.2 hk2
   try first|have qk3:(e.kind==3)=true:=VC.2 hk3|have qk3:(e.kind==3)=false:=V4.2 hk3
   try first|have qf:(e.fn==0)=true:=VC.2 hf|have qf:(e.fn==0)=false:=V4.2 hf
   try first|have qg:decide (0≤e.fn)=true:=decide_eq_true hg|have qg:decide (0≤e.fn)=false:=VI hg
   try first|have qu7:decide (e.fn≤7)=true:=decide_eq_true hu7|have qu7:decide (e.fn≤7)=false:=VI hu7
   try first|have qu4:decide (e.fn≤4)=true:=decide_eq_true hu4|have qu4:decide (e.fn≤4)=false:=VI hu4
   try first|have qu3:decide (e.fn≤3)=true:=decide_eq_true hu3|have qu3:decide (e.fn≤3)=false:=VI hu3
   try first|have qn0:((n:Int)==0)=true:=by rw[VC];omega|have qn0:((n:Int)==0)=false:=by rw[V4];omega
   try first|have qn1:((n:Int)==1)=true:=by rw[VC];omega|have qn1:((n:Int)==1)=false:=by rw[V4];omega
   try first|have qn2:((n:Int)==2)=true:=by rw[VC];omega|have qn2:((n:Int)==2)=false:=by rw[V4];omega
   try first|have qs:DC e=true:=hs|have qs:DC e=false:=by simpa using hs
   try first|have qm:EE e=true:=hm|have qm:EE e=false:=by simpa using hm
   try first|have qv:Al e.num e.den=true:=hv|have qv:Al e.num e.den=false:=by simpa using hv
   try first|have qq:(e.k==0)=true:=VC.2 hq|have qq:(e.k==0)=false:=V4.2 hq
   try first|have qb:((nb:Int)==0)=true:=by rw[VC];omega|have qb:((nb:Int)==0)=false:=by rw[V4];omega
   first|have HV:=V3 (show BH e=false by obtain⟨hnm,hnn,hnb⟩:=HL.out;clear HG HB c0 c1 c2 c3 c4 c7 c8 c9 c10 HFV c5' c6';rw[EA e n nm nb hnm hnn hnb];first|((repeat' split)<;>first|omega|rfl|exact VI (by omega)|exact VI (by grind))|fail)|have HV:=V3 (show BH e=true by obtain⟨hnm,hnn,hnb⟩:=HL.out;clear HG HB c0 c1 c2 c3 c4 c7 c8 c9 c10 HFV c5' c6';rw[EA e n nm nb hnm hnn hnb];first|((repeat' split)<;>first|omega|exact decide_eq_true (by grind))|fail)
   try clear hk0
   try clear hk1
   try clear hk2
   try clear hk3
   try clear hf
   try clear hg
   try clear hu7
   try clear hu4
   try clear hu3
   try clear hn0
   try clear hn1
   try clear hn2
   try clear hs
   try clear hm
   try clear hv
   try clear hq
   try clear hb
   go_wp2_with(first|(go_at_call 92;refine(HFV.out _).mono ?_;rintro e3 w3 ⟨rfl,k3⟩));go_ret
   first|exact⟨by(try rw[HV.out]);rfl,HG.out⟩|exact⟨by(try rw[HV.out]);rfl,HG.out.trans k3⟩
theorem NJ (e:Ex) (vm vb vk:Value) (w:World) (hsh:e.kind≠1→e.kind≠2→e.k=0):Calls Tryz.prog 65 #[.agg (AC e vm vb vk).toArray] w fun e' w'=>e'= .returned (.bool (Ad e))∧A4 w w':=by
 have hb:=VW w 29 (AC e vm vb vk).toArray;have hG:=(VU w).alloc (.cells (AC e vm vb vk).toArray 29);go_enter Tryz.func65,Tryz.ntmps65;go_upto_region 1 with fail;generalize w.alloc (.cells (AC e vm vb vk).toArray 29)=w1 at*;have c0:w1.cell? ⟨w.heap.size,0,none⟩=some (.int .i64 e.kind):=hb.cell 0;have c1:w1.cell? ⟨w.heap.size,1,none⟩=some (.int .i64 e.fn):=hb.cell 1;have c2:w1.cell? ⟨w.heap.size,2,none⟩=some (.int .i64 e.window):=hb.cell 2;have c3:w1.cell? ⟨w.heap.size,3,none⟩=some (.int .i64 e.offset):=hb.cell 3;have c4:w1.cell? ⟨w.heap.size,4,none⟩=some (.int .i64 e.k):=hb.cell 4;have HG:=V3 hG;clear hG hb;by_cases h0:e.kind=1
 ·have f0:(e.kind==1)=true:=by simpa using h0
  by_cases h1:e.offset<0
  ·have f1:decide (e.offset<0)=true:=by simpa using h1
   have HV:=V3 (show Ad e=false by clear HG c0 c1 c2 c3 c4;unfold Ad;(repeat' split)<;>(try simp)<;>(try(intros;omega)));clear h0 h1;go_wp2_with fail;go_ret;exact⟨by rw[HV.out];rfl,HG.out⟩
  have f1:decide (e.offset<0)=false:=by simpa using h1
  by_cases h2:4096<e.offset
  ·have f2:decide (4096<e.offset)=true:=by simpa using h2
   have HV:=V3 (show Ad e=false by clear HG c0 c1 c2 c3 c4;unfold Ad;(repeat' split)<;>(try simp)<;>(try(intros;omega)));clear h0 h1 h2;go_wp2_with fail;go_ret;exact⟨by rw[HV.out];rfl,HG.out⟩
  have f2:decide (4096<e.offset)=false:=by simpa using h2
  by_cases h3:e.fn=0
  ·have f3:(e.fn==0)=true:=by simpa using h3
   by_cases h4:e.window=0
   ·have f4:(e.window==0)=true:=by simpa using h4
    by_cases h5:e.k=0
    ·have f5:(e.k==0)=true:=by simpa using h5
     have HV:=V3 (show Ad e=true by clear HG c0 c1 c2 c3 c4;unfold Ad;(repeat' split)<;>(try simp)<;>(try(intros;omega)));clear h0 h1 h2 h3 h4 h5;go_wp2_with fail;go_ret;exact⟨by rw[HV.out];rfl,HG.out⟩
    have f5:(e.k==0)=false:=by simpa using h5
    have HV:=V3 (show Ad e=false by clear HG c0 c1 c2 c3 c4;unfold Ad;(repeat' split)<;>(try simp)<;>(try(intros;omega)));clear h0 h1 h2 h3 h4 h5;go_wp2_with fail;go_ret;exact⟨by rw[HV.out];rfl,HG.out⟩
   have f4:(e.window==0)=false:=by simpa using h4
   have HV:=V3 (show Ad e=false by clear HG c0 c1 c2 c3 c4;unfold Ad;(repeat' split)<;>(try simp)<;>(try(intros;omega)));clear h0 h1 h2 h3 h4;go_wp2_with fail;go_ret;exact⟨by rw[HV.out];rfl,HG.out⟩
  have f3:(e.fn==0)=false:=by simpa using h3
  by_cases h4:e.window<1
  ·have f4:decide (e.window<1)=true:=by simpa using h4
   have HV:=V3 (show Ad e=false by clear HG c0 c1 c2 c3 c4;unfold Ad;(repeat' split)<;>(try simp)<;>(try(intros;omega)));clear h0 h1 h2 h3 h4;go_wp2_with fail;go_ret;exact⟨by rw[HV.out];rfl,HG.out⟩
  have f4:decide (e.window<1)=false:=by simpa using h4
  by_cases h5:4096<e.window
  ·have f5:decide (4096<e.window)=true:=by simpa using h5
   have HV:=V3 (show Ad e=false by clear HG c0 c1 c2 c3 c4;unfold Ad;(repeat' split)<;>(try simp)<;>(try(intros;omega)));clear h0 h1 h2 h3 h4 h5;go_wp2_with fail;go_ret;exact⟨by rw[HV.out];rfl,HG.out⟩
  have f5:decide (4096<e.window)=false:=by simpa using h5
  by_cases h6:e.fn=7
  ·have f6:(e.fn==7)=true:=by simpa using h6
   by_cases h7:1≤e.k
   ·have f7:decide (1≤e.k)=true:=by simpa using h7
    by_cases h8:e.k≤e.window
    ·have f8:decide (e.k≤e.window)=true:=by simpa using h8
     have HV:=V3 (show Ad e=true by clear HG c0 c1 c2 c3 c4;unfold Ad;(repeat' split)<;>(try simp)<;>(try(intros;omega)));clear h0 h1 h2 h3 h4 h5 h6 h7 h8;go_wp2_with fail;go_ret;exact⟨by rw[HV.out];rfl,HG.out⟩
    have f8:decide (e.k≤e.window)=false:=by simpa using h8
    have HV:=V3 (show Ad e=false by clear HG c0 c1 c2 c3 c4;unfold Ad;(repeat' split)<;>(try simp)<;>(try(intros;omega)));clear h0 h1 h2 h3 h4 h5 h6 h7 h8;go_wp2_with fail;go_ret;exact⟨by rw[HV.out];rfl,HG.out⟩
   have f7:decide (1≤e.k)=false:=by simpa using h7
   have HV:=V3 (show Ad e=false by clear HG c0 c1 c2 c3 c4;unfold Ad;(repeat' split)<;>(try simp)<;>(try(intros;omega)));clear h0 h1 h2 h3 h4 h5 h6 h7;go_wp2_with fail;go_ret;exact⟨by rw[HV.out];rfl,HG.out⟩
  have f6:(e.fn==7)=false:=by simpa using h6
  by_cases h7:e.k=0
  ·have f7:(e.k==0)=true:=by simpa using h7
   have HV:=V3 (show Ad e=true by clear HG c0 c1 c2 c3 c4;unfold Ad;(repeat' split)<;>(try simp)<;>(try(intros;omega)));clear h0 h1 h2 h3 h4 h5 h6 h7;go_wp2_with fail;go_ret;exact⟨by rw[HV.out];rfl,HG.out⟩
  have f7:(e.k==0)=false:=by simpa using h7
  have HV:=V3 (show Ad e=false by clear HG c0 c1 c2 c3 c4;unfold Ad;(repeat' split)<;>(try simp)<;>(try(intros;omega)));clear h0 h1 h2 h3 h4 h5 h6 h7;go_wp2_with fail;go_ret;exact⟨by rw[HV.out];rfl,HG.out⟩
 have f0:(e.kind==1)=false:=by simpa using h0
 by_cases h1:e.kind=2
 ·have f1:(e.kind==2)=true:=by simpa using h1
  by_cases h2:e.fn=4
  ·have f2:(e.fn==4)=true:=by simpa using h2
   by_cases h3:1≤e.k
   ·have f3:decide (1≤e.k)=true:=by simpa using h3
    by_cases h4:e.k≤4096
    ·have f4:decide (e.k≤4096)=true:=by simpa using h4
     have HV:=V3 (show Ad e=true by clear HG c0 c1 c2 c3 c4;unfold Ad;(repeat' split)<;>(try simp)<;>(try(intros;omega)));clear h0 h1 h2 h3 h4;go_wp2_with fail;go_ret;exact⟨by rw[HV.out];rfl,HG.out⟩
    have f4:decide (e.k≤4096)=false:=by simpa using h4
    have HV:=V3 (show Ad e=false by clear HG c0 c1 c2 c3 c4;unfold Ad;(repeat' split)<;>(try simp)<;>(try(intros;omega)));clear h0 h1 h2 h3 h4;go_wp2_with fail;go_ret;exact⟨by rw[HV.out];rfl,HG.out⟩
   have f3:decide (1≤e.k)=false:=by simpa using h3
   have HV:=V3 (show Ad e=false by clear HG c0 c1 c2 c3 c4;unfold Ad;(repeat' split)<;>(try simp)<;>(try(intros;omega)));clear h0 h1 h2 h3;go_wp2_with fail;go_ret;exact⟨by rw[HV.out];rfl,HG.out⟩
  have f2:(e.fn==4)=false:=by simpa using h2
  by_cases h3:e.k=0
  ·have f3:(e.k==0)=true:=by simpa using h3
   have HV:=V3 (show Ad e=true by clear HG c0 c1 c2 c3 c4;unfold Ad;(repeat' split)<;>(try simp)<;>(try(intros;omega)));clear h0 h1 h2 h3;go_wp2_with fail;go_ret;exact⟨by rw[HV.out];rfl,HG.out⟩
  have f3:(e.k==0)=false:=by simpa using h3
  have HV:=V3 (show Ad e=false by clear HG c0 c1 c2 c3 c4;unfold Ad;(repeat' split)<;>(try simp)<;>(try(intros;omega)));clear h0 h1 h2 h3;go_wp2_with fail;go_ret;exact⟨by rw[HV.out];rfl,HG.out⟩
 have f1:(e.kind==2)=false:=by simpa using h1
 have HV:=V3 (show Ad e=true by clear HG c0 c1 c2 c3 c4;unfold Ad;(repeat' split)<;>(try simp)<;>(try(intros;omega)));clear h0 h1;go_wp2_with fail;go_ret;exact⟨by rw[HV.out];rfl,HG.out⟩
def Bz (e:Ex):Prop:=Ji e∧TK e
theorem Ra {e:Ex} (h:BH e=true):e.kind≠1→e.kind≠2→e.k=0:=by
 intro h1 h2;unfold BH at h;simp only[Bool.and_eq_true,decide_eq_true_eq]at h;exact h.1.2 h1 h2
theorem Kd:∀(k:Nat) (e:Ex),AH e≤k→k≤1000000→BW Bz e→∀(w:World) (cs:List Value),DI w→BU w w.heap.size e cs→
  Calls Tryz.prog 31 #[.agg cs.toArray] w fun e' w'=>e'= .returned (.int .i64 (CB e))∧A4 w w'
 |0,e,h,_,_,_,_,_,_=>absurd (Aj e) (by omega)
 |k+1,e,hk,hk2,hok,w,cs,hwt,hr=>by
  obtain⟨vm,vb,vk,rfl,hms,hby,hT⟩:=hr.open_;obtain⟨Am,nm,km,rfl,hnm⟩:∃A n c,vm= .slice A n c∧n=e.ms.length:=by obtain⟨A,c,h, -⟩:=hms;exact⟨A,_,c,h,by simp⟩
  obtain⟨Ab,nb,kb,rfl,hnb⟩:∃A n c,vb= .slice A n c∧n=e.bys.length:=by obtain⟨A,c,h, -⟩:=hby;exact⟨A,_,c,h,by simp⟩
  obtain⟨A,n,c,rfl,hn, -⟩:=hT.slice;have hne:=Az e;have hkl:=CF e.kids;have hnb':n≤1000000:=by omega
  have hnml:nm≤1000:=by have:=hok.top.2.2.2.2.1;omega
  have hnbl:nb≤1000:=by have:=hok.top.2.2.2.2.2;omega
  have HIH:=V3 (fun(e':Ex) (w':World) (cs:List Value) (h1:e'∈e.kids) (h3:DI w') (h2:BU w' w'.heap.size e' cs)=>Kd k e' (by have:=AT h1;omega) (by omega) (hok.kid h1) w' cs h3 h2);have HT:=V3 hT;have HN:=V3 hn;have HE:=V3 (I3 e);obtain⟨q1,hq1⟩:∃q,BH e=q:=⟨_,rfl⟩;obtain⟨q2,hq2⟩:∃q,Bs e=q:=⟨_,rfl⟩;obtain⟨q3,hq3⟩:∃q,Ad e=q:=⟨_,rfl⟩;have HSh:=V3 (fun w'=>Mn e Am Ab A nm km nb kb n c hnm hnb hn w' hok.top.1);have HNd:=V3 (fun w' (g:A4 w w')=>Oa e Am Ab A nm km nb kb n c hnm hnb w' (hms.keep (V6 _) g.size g (fun _ _ h=>h)) (hby.keep (V6 _) g.size g (fun _ _ h=>h)) hok.top.2 (hwt.grew g));have HRg:=V3 (fun(hsh:q1=true) w'=>NJ e (.slice Am nm km) (.slice Ab nb kb) (.slice A n c) w' (Ra (by rw[hq1];exact hsh)));have HWT:=V3 hwt;rw[hq1]at HSh;rw[hq2]at HNd;rw[hq3]at HRg;have HV:=V3 (show Bq e=if q1=false then 1 else if q2=false then 8 else if 8<nm∨8<nb then 4 else if q3=false then 5 else 0 by unfold Bq;rw[hq1,hq2,hq3,hnm,hnb]);have hb1:=VW w 29 (AC e (.slice Am nm km) (.slice Ab nb kb) (.slice A n c)).toArray;have hG:=(VU w).alloc (.cells (AC e (.slice Am nm km) (.slice Ab nb kb) (.slice A n c)).toArray 29);clear hr hms hby hT hn hne hkl hk hk2 hok hq1 hq2 hq3 hnm hnb hwt;go_enter Tryz.func31,Tryz.ntmps31;go_upto_region 1 with fail;generalize w.alloc (.cells (AC e (.slice Am nm km) (.slice Ab nb kb) (.slice A n c)).toArray 29)=w1 at*;have HG:=V3 hG;have hs1:Hid (w.heap.size<w1.heap.size):=V3 hb1.lt;clear hG;rcases q1 with _|_
  ·have HF:=V3 (show CB e=1 by rw[HE.out,HV.out];rfl);go_wp2_with(first|((with_reducible refine AF 29 (.tmp 1) rfl ?_);refine BZ 29 Tryz.underlying29 rfl (.tmp 1) (w.heap.size) (AC e (.slice Am nm km) (.slice Ab nb kb) (.slice A n c)) 29 AE rfl rfl rfl hb1 ?_)|(go_at_call 63;(with_reducible refine(HSh.out _).mono ?_);rintro e3 w3 ⟨rfl,k3⟩));go_ret;exact⟨by rw[HF.out];rfl,HG.out.trans k3⟩
  replace HRg:=V3 (HRg.out rfl);go_upto_region 3 with(first|((with_reducible refine AF 29 (.tmp 1) rfl ?_);refine BZ 29 Tryz.underlying29 rfl (.tmp 1) (w.heap.size) (AC e (.slice Am nm km) (.slice Ab nb kb) (.slice A n c)) 29 AE rfl rfl rfl hb1 ?_)|(go_at_call 63;(with_reducible refine(HSh.out _).mono ?_);rintro e3 w3 ⟨rfl,k3⟩));have hb3:=hb1.grew k3;have HG3:=V3 (HG.out.trans k3);clear hb1 k3 HSh;rcases q2 with _|_
  ·have HF:=V3 (show CB e=8 by rw[HE.out,HV.out];rfl);go_wp2_with(first|((with_reducible refine AF 29 (.tmp 1) rfl ?_);refine BZ 29 Tryz.underlying29 rfl (.tmp 1) (w.heap.size) (AC e (.slice Am nm km) (.slice Ab nb kb) (.slice A n c)) 29 AE rfl rfl rfl hb3 ?_)|(go_at_call 64;(with_reducible refine(HNd.out _ HG3.out).mono ?_);rintro e4 w4 ⟨rfl,k4⟩));go_ret;exact⟨by rw[HF.out];rfl,HG3.out.trans k4⟩
  go_upto_region 5 with(first|((with_reducible refine AF 29 (.tmp 1) rfl ?_);refine BZ 29 Tryz.underlying29 rfl (.tmp 1) (w.heap.size) (AC e (.slice Am nm km) (.slice Ab nb kb) (.slice A n c)) 29 AE rfl rfl rfl hb3 ?_)|(go_at_call 64;(with_reducible refine(HNd.out _ HG3.out).mono ?_);rintro e4 w4 ⟨rfl,k4⟩));have hb4:=hb3.grew k4;have HG4:=V3 (HG3.out.trans k4);clear hb3 k4 HNd;have c8:w4.cell? ⟨w.heap.size,8,none⟩=some (.slice Am nm km):=hb4.cell 8;have c9:w4.cell? ⟨w.heap.size,9,none⟩=some (.slice Ab nb kb):=hb4.cell 9;by_cases hm8:8<nm
  ·have t8:decide ((8:Int)<(nm:Int))=true:=by simp;omega
   have HF:=V3 (show CB e=4 by rw[HE.out,show Bq e=4 by rw[HV.out,VM (by simp),VM (by simp),VN (.inl hm8)]];rfl);clear hm8;go_wp2_with fail;go_ret;exact⟨by rw[HF.out];rfl,HG4.out⟩
  have t8:decide ((8:Int)<(nm:Int))=false:=by simp;omega
  by_cases hb8:8<nb
  ·have t9:decide ((8:Int)<(nb:Int))=true:=by simp;omega
   have HF:=V3 (show CB e=4 by rw[HE.out,show Bq e=4 by rw[HV.out,VM (by simp),VM (by simp),VN (.inr hb8)]];rfl);clear hm8 hb8;go_wp2_with fail;go_ret;exact⟨by rw[HF.out];rfl,HG4.out⟩
  have t9:decide ((8:Int)<(nb:Int))=false:=by simp;omega
  have HN8:=V3 (show ¬(8<nm∨8<nb) by omega);clear hm8 hb8;go_upto_region 7 with fail;clear c8 c9;rcases q3 with _|_
  ·have HF:=V3 (show CB e=5 by rw[HE.out,show Bq e=5 by rw[HV.out,VM (by simp),VM (by simp),VM HN8.out,VN rfl]];rfl);go_wp2_with(first|((with_reducible refine AF 29 (.tmp 1) rfl ?_);refine BZ 29 Tryz.underlying29 rfl (.tmp 1) (w.heap.size) (AC e (.slice Am nm km) (.slice Ab nb kb) (.slice A n c)) 29 AE rfl rfl rfl hb4 ?_)|(go_at_call 65;(with_reducible refine(HRg.out _).mono ?_);rintro e5 w5 ⟨rfl,k5⟩));go_ret;exact⟨by rw[HF.out];rfl,HG4.out.trans k5⟩
  have HF:=V3 (show CB e=Bw e.kids by rw[HE.out,show Bq e=0 by rw[HV.out,VM (by simp),VM (by simp),VM HN8.out,VM (by simp)]];rfl);go_upto_region 9 with(first|((with_reducible refine AF 29 (.tmp 1) rfl ?_);refine BZ 29 Tryz.underlying29 rfl (.tmp 1) (w.heap.size) (AC e (.slice Am nm km) (.slice Ab nb kb) (.slice A n c)) 29 AE rfl rfl rfl hb4 ?_)|(go_at_call 65;(with_reducible refine(HRg.out _).mono ?_);rintro e5 w5 ⟨rfl,k5⟩));have HB5:=V3 (hb4.grew k5);have HG5:=V3 (HG4.out.trans k5);clear hb4 k5 HRg HV HN8 HE;have c10:w5.cell? ⟨w.heap.size,10,none⟩=some (.slice A n c):=HB5.out.cell 10;go_wp2_with fail;go_loopw [4,5,28] (fun _ _ i wr=>∃j:Nat,j≤n∧i= .int .i64 (j:Nat)∧A4 w5 wr∧Bw (e.kids.take j)=0) (fun _ _ i _=>n-(intOf i).toNat)
  case atStart=>exact⟨0,by omega,rfl,VU _,rfl⟩
  case round=>
   obtain⟨j,hj,rfl,hGr,hz⟩:=hrel;have HZ:=V3 hz;have HGR:=V3 hGr;have c10:wr.cell? ⟨w.heap.size,10,none⟩=some (.slice A n c):=(HB5.out.grew hGr).cell 10;clear hz hGr;by_cases hlt:j<n
   ·have hjl:j<e.kids.length:=by rw[←HN.out];exact hlt
    obtain⟨e',he'⟩:∃e',e.kids[j]? =some e':=⟨_,VB hjl⟩;have hmem:e'∈e.kids:=VJ he';obtain⟨b,o,cs,hA,hb,hrg,hre⟩:=(HT.out.grew (HG5.out.trans HGR.out)).at_ he';subst hA;obtain⟨vm',vb',vk',hcs,hm',hy',hT'⟩:=hre.open_;subst hcs;obtain⟨A1,n1,c1,rfl⟩:∃A n c,vm'= .slice A n c:=by obtain⟨A,c,h, -⟩:=hm';exact⟨A,_,c,h⟩
    obtain⟨A2,n2,c2,rfl⟩:∃A n c,vb'= .slice A n c:=by obtain⟨A,c,h, -⟩:=hy';exact⟨A,_,c,h⟩
    obtain⟨A3,n3,c3,rfl, -⟩:=hT'.slice;obtain⟨q,hq⟩:∃q,CB e'=q:=⟨_,rfl⟩;have HI:=V3 (fun w' (g:A4 wr w')=>HIH.out e' w' _ hmem (HWT.out.grew ((HG5.out.trans HGR.out).trans g)) (hre.grew g));rw[hq]at HI;have HSn:=V3 (show Bw (e.kids.take (j+1))=q by rw[Kz he' HZ.out,hq]);have HRk:=V3 hrg;have g0:=VU wr;clear hjl he' hmem hrg hre hq hm' hy' hT';by_cases hq0:q=0
    ·subst hq0;have HSn:=HSn;go_wp2_with(first|((with_reducible refine AF 29 (.tmp 30) rfl ?_);refine wpList_load_mid rfl 29 (.tmp 30) rfl b (o+j*11) rfl (AC e' (.slice A1 n1 c1) (.slice A2 n2 c2) (.slice A3 n3 c3)) _ HRk.out Tryz.underlying29 rfl AE ?_)|((with_reducible refine AG 29 (.tmp 4) (.tmp 31) rfl ?_);refine BL 29 (.tmp 4) (.tmp 31) (wr.heap.size) (AC e' (.slice A1 n1 c1) (.slice A2 n2 c2) (.slice A3 n3 c3)) (AJ 0 0) 29 AE rfl (B1 _ _ _ _ _ _ _ _ _ _) rfl rfl rfl rfl (VW wr 29 _) ?_;intro w6 hb6 k6 d6;have g6:A4 wr w6:=VV ((VU wr).alloc _) k6 (fun i hi e=>by omega))|((with_reducible refine AF 29 (.tmp 4) rfl ?_);refine BZ 29 Tryz.underlying29 rfl (.tmp 4) (wr.heap.size) (AC e' (.slice A1 n1 c1) (.slice A2 n2 c2) (.slice A3 n3 c3)) 29 AE rfl rfl rfl hb6 ?_)|(go_at_call 31;(with_reducible refine(HI.out _ g6).mono ?_);rintro e7 w7 ⟨rfl,k7⟩));go_roundw
     case rel=>exact⟨j+1,by omega,by go_num,HGR.out.trans (g6.trans k7),HSn.out⟩
     case measure=>simp[intOf];omega
    have t1:(q==0)=false:=by rw[V4];exact hq0
    have t2:(q !=0)=true:=by rw[bne,t1];rfl
    have HFF:=V3 (show CB e=q by rw[HF.out,Jz (by rw[HSn.out];exact hq0),HSn.out]);clear hq0;go_wp2_with(first|((with_reducible refine AF 29 (.tmp 30) rfl ?_);refine wpList_load_mid rfl 29 (.tmp 30) rfl b (o+j*11) rfl (AC e' (.slice A1 n1 c1) (.slice A2 n2 c2) (.slice A3 n3 c3)) _ HRk.out Tryz.underlying29 rfl AE ?_)|((with_reducible refine AG 29 (.tmp 4) (.tmp 31) rfl ?_);refine BL 29 (.tmp 4) (.tmp 31) (wr.heap.size) (AC e' (.slice A1 n1 c1) (.slice A2 n2 c2) (.slice A3 n3 c3)) (AJ 0 0) 29 AE rfl (B1 _ _ _ _ _ _ _ _ _ _) rfl rfl rfl rfl (VW wr 29 _) ?_;intro w6 hb6 k6 d6;have g6:A4 wr w6:=VV ((VU wr).alloc _) k6 (fun i hi e=>by omega))|((with_reducible refine AF 29 (.tmp 4) rfl ?_);refine BZ 29 Tryz.underlying29 rfl (.tmp 4) (wr.heap.size) (AC e' (.slice A1 n1 c1) (.slice A2 n2 c2) (.slice A3 n3 c3)) 29 AE rfl rfl rfl hb6 ?_)|(go_at_call 31;(with_reducible refine(HI.out _ g6).mono ?_);rintro e7 w7 ⟨rfl,k7⟩));go_ret;exact⟨by rw[HFF.out];rfl,(HG5.out.trans HGR.out).trans (g6.trans k7)⟩
   obtain rfl:j=n:=by omega
   have HFF:=V3 (show CB e=0 by rw[HF.out,←HZ.out,List.take_of_length_le (by rw[←HN.out];exact V6 _)]);go_wp2_with fail;go_ret;exact⟨by rw[HFF.out];rfl,HG5.out.trans HGR.out⟩
theorem Oz (es:List Ex) (dp:Nat) (l:Int) (h0: -1≤l) (h1:l≤200): -1≤C4 es dp l∧C4 es dp l≤200:=by
 by_cases hl:l<0
 ·rw[Dw hl];omega
 obtain⟨h2,h3⟩:=(Je (Ar es+1)).2 es dp l (by omega) (by omega);by_cases h:((Ar es:Nat):Int)≤l∧dp+Br es≤13∨es=[]
 ·rw[h2 h];rcases h with h|rfl
  ·omega
  simp[Ar];omega
 rw[h3 h];omega
theorem Kc:∀(k:Nat) (e:Ex),AH e≤k→k≤1000000→∀(w:World) (B0 g dp:Nat) (l:Int) (cs:List Value),BU w B0 e cs→B0≤g→dp≤13→0≤l→l≤200→AR w g 3 #[.int .i64 l]→
  Calls Tryz.prog 62 #[.agg cs.toArray,.int .i64 (dp:Nat),.pointer (some ⟨g,0,none⟩)] w fun e' w'=>e'= .returned (.tuple #[])∧AR w' g 3 #[.int .i64 (FV e dp l)]∧AA (fun i=>i=g) w w'
 |0,e,h,_,_,_,_,_,_,_,_,_,_,_,_,_=>absurd (Aj e) (by omega)
 |k+1,e,hk,hk2,w,B0,g,dp,l,cs,hr,hB0,hdp,hl0,hl1,hg=>by
  obtain⟨vm,vb,vk,rfl, -, -,hT⟩:=hr.open_;have hne:=Az e;have hkl:=CF e.kids;obtain⟨A,n,c,rfl,hn, -⟩:=hT.slice;have HIH:=V3 (fun(e':Ex) (h1:e'∈e.kids)=>Kc k e' (by have:=AT h1;omega) (by omega));have hgl:=hg.lt;have HT:=V3 hT;have HN:=V3 hn;have hbx:=VW w 29 (AC e vm vb (.slice A n c)).toArray;have hG:=(VU w).alloc (.cells (AC e vm vb (.slice A n c)).toArray 29);have hg1:=hg.alloc (.cells (AC e vm vb (.slice A n c)).toArray 29);have hnb:n≤1000000:=by omega
  have HC:=V3 (O8 e dp l);have HB0:=V3 hB0;have HGL:=V3 hgl;clear hr hT hn hne hkl hk hk2 hB0 hgl;go_enter Tryz.func62,Tryz.ntmps62;go_upto_region 1 with fail;generalize w.alloc (.cells (AC e vm vb (.slice A n c)).toArray 29)=w1 at*;have HBx:=V3 hbx;have HG:=V3 hG;clear hbx hG;have a0:w1.cell? ⟨g,0,none⟩=some (.int .i64 l):=hg1.cell 0;have a1:w1.frozen? ⟨g,0,none⟩=false:=hg1.frozen 0;have hd1:AR (w1.setCell ⟨g,0,none⟩ (.int .i64 (l-1))) g 3 #[.int .i64 (l-1)]:=hg1.set_ 0 _;have kd1:AA (fun i=>i=g) w1 (w1.setCell ⟨g,0,none⟩ (.int .i64 (l-1))):=VZ (S:=fun i=>i=g) (p:=⟨g,0,none⟩) (VY _ w1) (.inl rfl) _;have HG1:=V3 hg1;clear hg1;go_upto_region 2 with fail;generalize w1.setCell ⟨g,0,none⟩ (.int .i64 (l-1))=w2 at*;clear a0 a1;have a0:w2.cell? ⟨g,0,none⟩=some (.int .i64 (l-1)):=hd1.cell 0;have a1:w2.frozen? ⟨g,0,none⟩=false:=hd1.frozen 0;have hbx2:=HBx.out.keep kd1 (by have:=HGL.out;omega);by_cases h12:12<dp
  ·have t12:decide ((12:Int)<(dp:Int))=true:=by simp;omega
   have he1:AR (w2.setCell ⟨g,0,none⟩ (.int .i64 (-1))) g 3 #[.int .i64 (-1)]:=hd1.set_ 0 _;have ke1:AA (fun i=>i=g) w1 (w2.setCell ⟨g,0,none⟩ (.int .i64 (-1))):=VZ (S:=fun i=>i=g) (p:=⟨g,0,none⟩) kd1 (.inl rfl) _;have hbx3:=hbx2.far (p:=⟨g,0,none⟩) (by have:=HGL.out;simp;omega) (.int .i64 (-1));have HC2:=V3 (show FV e dp l= -1 by rw[HC.out,VN h12,Dw (by omega)]);clear h12 hbx2 hd1 kd1;go_upto_region 4 with fail;generalize w2.setCell ⟨g,0,none⟩ (.int .i64 (-1))=w3 at*;clear a0 a1;have a0:w3.cell? ⟨g,0,none⟩=some (.int .i64 (-1)):=he1.cell 0;have a2:w3.cell? ⟨w.heap.size,10,none⟩=some (.slice A n c):=hbx3.cell 10;clear hbx3;go_wp2_with fail;go_loopw [6] (fun i wr=>i= .int .i64 0∧wr=w3) (fun i _=>0)
   case atStart=>exact⟨rfl,rfl⟩
   case round=>
    obtain⟨rfl,rfl⟩:=hrel;by_cases hn0:0<n
    ·have t0:decide ((0:Int)<(n:Int))=true:=by simp;omega
     go_wp2_with fail;go_end0;exact⟨rfl,by rw[HC2.out];exact he1,VV (Vb HG.out) ke1 fun i hi e=>e⟩
    have t0:decide ((0:Int)<(n:Int))=false:=by simp;omega
    go_wp2_with fail;go_end0;exact⟨rfl,by rw[HC2.out];exact he1,VV (Vb HG.out) ke1 fun i hi e=>e⟩
  have t12:decide ((12:Int)<(dp:Int))=false:=by simp;omega
  have HC2:=V3 (show FV e dp l=C4 e.kids (dp+1) (l-1) by rw[HC.out,VM h12]);have HD:=V3 h12;have HBX2:=V3 hbx2;have HD1:=V3 hd1;have HK1:=V3 kd1;clear h12 hbx2 hd1 kd1;go_wp2_with fail;go_loopw [6] (fun i wr=>∃(j:Nat),j≤n∧i= .int .i64 (j:Nat)∧AR wr g 3 #[.int .i64 (C4 (e.kids.take j) (dp+1) (l-1))]∧AA (fun i=>i=g) w1 wr) (fun i _=>n-(intOf i).toNat)
  case atStart=>exact⟨0,by omega,rfl,HD1.out,HK1.out⟩
  case round=>
   obtain⟨j,hj,rfl,hb,hkr⟩:=hrel;obtain⟨hz0,hz1⟩:=Oz (e.kids.take j) (dp+1) (l-1) (by omega) (by omega);obtain⟨z,hz⟩:∃z,C4 (e.kids.take j) (dp+1) (l-1)=z:=⟨_,rfl⟩;rw[hz]at hb hz0 hz1;have HZ:=V3 hz;have c10:wr.cell? ⟨w.heap.size,10,none⟩=some (.slice A n c):=(HBx.out.keep hkr (by have:=HGL.out;omega)).cell 10;have a0:wr.cell? ⟨g,0,none⟩=some (.int .i64 z):=hb.cell 0;have HB:=V3 hb;have HKR:=V3 hkr;clear hz hb hkr;by_cases hlt:j<n
   ·by_cases hzn:z<0
    ·have t0:decide ((0:Int)≤z)=false:=by simp;omega
     have HF:=V3 (show FV e dp l=z by rw[HC2.out,Lj (by rw[HZ.out];exact hzn),HZ.out]);clear hzn;go_wp2_with fail;go_end0;exact⟨rfl,by rw[HF.out];exact HB.out,VV (Vb HG.out) HKR.out fun i hi e=>e⟩
    have t0:decide ((0:Int)≤z)=true:=by simp;omega
    have hjl:j<e.kids.length:=by rw[←HN.out];exact hlt
    obtain⟨e',he'⟩:∃e',e.kids[j]? =some e':=⟨_,VB hjl⟩;have hmem:e'∈e.kids:=VJ he';have hTw:JG wr B0 (.slice A n c) e.kids:=HT.out.keep (by have:=HB0.out;have:=HGL.out;omega) (V6 _) (VV (S:=fun i=>i=g) (Vb HG.out) HKR.out fun i hi e=>e) (fun i hi e=>by have:=HB0.out;omega);obtain⟨b,o,cs,rfl,hb,hrg,hre⟩:=hTw.at_ he';obtain⟨vm',vb',vk',hcs, -⟩:=hre.open_;subst hcs;have hI:=HIH.out e' hmem wr B0 g (dp+1) z _ hre (by have:=HB0.out;omega) (by have:=HD.out;omega) (by omega) hz1 HB.out;rw[show(((dp+1:Nat)):Int)=(dp:Int)+1 by omega]at hI;have HI:=V3 hI;have HSn:=V3 (show C4 (e.kids.take (j+1)) (dp+1) (l-1)=FV e' (dp+1) z by rw[NR he' (by rw[HZ.out];omega),HZ.out]);have HRg:=V3 hrg;have hd14:dp≤12:=by have:=HD.out;omega
    clear hjl he' hmem hTw hrg hre hzn hI;go_wp2_with(refine wpList_load_mid rfl 29 (.tmp 32) rfl b (o+j*11) rfl (AC e' vm' vb' vk') _ HRg.out Tryz.underlying29 rfl AE ?_);refine HI.out.mono ?_;rintro e2 w3 ⟨rfl,hb3,k3⟩;have HB3:=V3 hb3;have HK3:=V3 (VV HKR.out k3 fun i hi e=>e);clear hb3 k3 HI c10 a0;go_wp2_with fail;go_roundw
    case rel=>exact⟨j+1,by omega,by go_num,by rw[HSn.out];exact HB3.out,HK3.out⟩
    case measure=>simp[intOf];omega
   obtain rfl:j=n:=by omega
   have HF:=V3 (show FV e dp l=z by rw[HC2.out,←HZ.out,List.take_of_length_le (by rw[←HN.out];exact V6 _)]);go_wp2_with fail;go_end0;exact⟨rfl,by rw[HF.out];exact HB.out,VV (Vb HG.out) HKR.out fun i hi e=>e⟩
theorem MN (e:Ex) (hn:AH e≤1000000) (w:World) (cs:List Value) (hr:BU w w.heap.size e cs):
  Calls Tryz.prog 30 #[.agg cs.toArray] w fun e' w'=>e'= .returned (.bool (decide (0≤FV e 1 200)))∧A4 w w':=by
 obtain⟨vm,vb,vk,rfl, -⟩:=hr.open_;have hb1:=VW w 29 (AC e vm vb vk).toArray;have hG:=(VU w).alloc (.cells (AC e vm vb vk).toArray 29);have hs1:(w.alloc (.cells (AC e vm vb vk).toArray 29)).heap.size=w.heap.size+1:=by simp
 obtain⟨z,hz⟩:∃z,FV e 1 200=z:=⟨_,rfl⟩;have HR:=V3 hr;have HS:=V3 hs1;have HN:=V3 hn;have HZ:=V3 hz;rw[hz];clear hr hn hz;go_enter Tryz.func30,Tryz.ntmps30;go_upto_region 1 with fail;generalize w.alloc (.cells (AC e vm vb vk).toArray 29)=w1 at*;have hI2:=VW w1 3 #[.int .i64 200];have hG2:A4 w1 (w1.alloc (.cells #[.int .i64 200] 3)):=(VU w1).alloc _;rw[hs1]at hI2;have HG2:=V3 (hG.trans hG2);have HI2:=V3 hI2;have HB1:=V3 (hb1.grew hG2);clear hG hI2 hG2 hb1;go_upto_region 2 with fail;generalize w1.alloc (.cells #[.int .i64 200] 3)=w2 at*;have hb2:=HB1.out;have hC:=Kc (AH e) e (V6 _) HN.out w2 w.heap.size (w.heap.size+1) 1 200 _ (BU.keep (V6 _) (V6 _) HG2.out (fun _ _ h=>h) _ _ HR.out) (by omega) (by omega) (by omega) (by omega) HI2.out;rw[HZ.out]at hC;have HC:=V3 hC;clear hs1 hC;go_wp2_with(first|((with_reducible refine AF 29 (.tmp 1) rfl ?_);refine BZ 29 Tryz.underlying29 rfl (.tmp 1) (w.heap.size) (AC e vm vb vk) 29 AE rfl rfl rfl hb2 ?_)|(go_at_call 62;refine HC.out.mono ?_;rintro e2 w3 ⟨rfl,hb3,k3⟩;have a0:w3.cell? ⟨w.heap.size+1,0,none⟩=some (.int .i64 z):=hb3.cell 0));go_ret;exact⟨rfl,VV HG2.out k3 fun i hi e=>by omega⟩
theorem Ei (e:Ex):BN e=Br e.kids+1:=by
 cases e;rw[BN];rfl
theorem IN (e:Ex):1≤BN e:=by rw[Ei];omega
theorem FG (e:Ex) (hn:AH e≤1000000) (hok:BW Bz e) (w:World) (cs:List Value) (hwt:DI w) (hr:BU w w.heap.size e cs):
  Calls Tryz.prog 12 #[.agg cs.toArray] w fun e' w'=>e'= .returned (.int .i64 (DP e))∧A4 w w':=by
 obtain⟨vm,vb,vk,rfl, -⟩:=hr.open_;have HR:=V3 (fun w' (g:A4 w w')=>hr.grew g);have hb1:=VW w 29 (AC e vm vb vk).toArray;have hG:=(VU w).alloc (.cells (AC e vm vb vk).toArray 29);have HFt:=V3 (fun w' (g:A4 w w')=>MN e hn w' (AC e vm vb vk) (hr.grew g));have HCk:=V3 (fun w' (g:A4 w w')=>Kd (AH e) e (V6 _) hn hok w' (AC e vm vb vk) (hwt.grew g) (hr.grew g));obtain⟨q,hq⟩:∃q,decide (0≤FV e 1 200)=q:=⟨_,rfl⟩;rw[hq]at HFt;obtain⟨z,hz⟩:∃z,CB e=z:=⟨_,rfl⟩;rw[hz]at HCk;have HV:=V3 (show DP e=if q=true then z else 4 by
  unfold DP;rw[←hz];by_cases h:0≤FV e 1 200
  ·rw[VM ((JN e).1 h),VN (hq.symm.trans (decide_eq_true h))]
  rw[VN (Decidable.of_not_not fun h'=>h ((JN e).2 h')),VM (fun hc=>h (VH (hq.trans hc)))])
 clear hr hok hwt hn hq hz;go_enter Tryz.func12,Tryz.ntmps12;go_upto_region 1 with fail;generalize w.alloc (.cells (AC e vm vb vk).toArray 29)=w1 at*;have HG:=V3 hG;clear hG;rcases q with _|_
 ·go_wp2_with(first|((with_reducible refine AF 29 (.tmp 1) rfl ?_);refine BZ 29 Tryz.underlying29 rfl (.tmp 1) (w.heap.size) (AC e vm vb vk) 29 AE rfl rfl rfl hb1 ?_)|(go_at_call 30;(with_reducible refine(HFt.out _ HG.out).mono ?_);rintro e3 w3 ⟨rfl,k3⟩));go_ret;exact⟨by rw[HV.out];rfl,HG.out.trans k3⟩
 go_upto_region 3 with(first|((with_reducible refine AF 29 (.tmp 1) rfl ?_);refine BZ 29 Tryz.underlying29 rfl (.tmp 1) (w.heap.size) (AC e vm vb vk) 29 AE rfl rfl rfl hb1 ?_)|(go_at_call 30;(with_reducible refine(HFt.out _ HG.out).mono ?_);rintro e3 w3 ⟨rfl,k3⟩));have hb3:=hb1.grew k3;have HG3:=V3 (HG.out.trans k3);clear hb1 k3 HFt;go_wp2_with(first|((with_reducible refine AF 29 (.tmp 1) rfl ?_);refine BZ 29 Tryz.underlying29 rfl (.tmp 1) (w.heap.size) (AC e vm vb vk) 29 AE rfl rfl rfl hb3 ?_)|(go_at_call 31;(with_reducible refine(HCk.out _ HG3.out).mono ?_);rintro e4 w4 ⟨rfl,k4⟩));go_ret;exact⟨by rw[HV.out];rfl,HG3.out.trans k4⟩
end Go.Proofs.YthpflelgbadkcaaGreatDoor
