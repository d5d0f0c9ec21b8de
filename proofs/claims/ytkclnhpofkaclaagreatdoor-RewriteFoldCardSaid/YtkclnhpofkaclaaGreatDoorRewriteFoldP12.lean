/- What the card of the law stands on: ParPl, LexA, LexB, Slc, ParA. -/
import Derived.Test.YtkclnhpofkaclaaGreatDoorRewriteFoldP01
import Derived.Test.YtkclnhpofkaclaaGreatDoorRewriteFoldP02
import Derived.Test.YtkclnhpofkaclaaGreatDoorRewriteFoldP11
import Derived.Test.YtkclnhpofkaclaaGreatDoorRewriteFoldP04
import Derived.Test.YtkclnhpofkaclaaGreatDoorRewriteFoldP05
import Derived.StillTailTactics
import Derived.Deep.CutBlock
import Derived.Deep.Slices
import Derived.Test.YtkclnhpofkaclaaGreatDoorRewriteFoldP10
set_option maxRecDepth 100000
set_option maxHeartbeats 12800000
set_option linter.unusedVariables false
set_option linter.unusedSimpArgs false
namespace Go.Proofs.YtkclnhpofkaclaaGreatDoor
open Go.RowKit
def TY:List ByteArray:=[⟨#[43]⟩,⟨#[45]⟩,⟨#[42]⟩,⟨#[47]⟩]
def M5 (f:Nat):ByteArray:=TY[f]?.getD ⟨#[]⟩
def O1:List ByteArray:=["last".toUTF8,"least".toUTF8,"greatest".toUTF8,"total".toUTF8,"mean".toUTF8,"increase".toUTF8,"rate".toUTF8,"kth".toUTF8]
def Ey (ts:List Bw) (k:Nat) (s:ByteArray):Bool:=
 match ts with
 |[]=>false
 |t::_=>decide (t.kind=k)&&(t.text.toList==s.toList)
def IL (ts:List Bw) (k:Nat):Bool:=
 match ts with
 |[]=>false
 |t::_=>decide (t.kind=k)
def O8 (ts:List Bw):Option (Nat×Nat×List Bw):=
 match ts with
 |[]=>none
 |t::ts=>
  if t.kind=0 then
   match O1.findIdx? fun a=>a.toList==t.text.toList with
   |none=>none
   |some f=>
    if f=0 then some (0,0,ts)
    else if f=7 then none
    else if Ey ts 3 ⟨#[40]⟩then
     match ts.tail with
     |[]=>none
     |n::us=>if n.kind=1∧1≤n.num∧n.num≤4096∧Ey us 3 ⟨#[41]⟩=true then some (f,n.num,us.tail)else none
    else none
  else none
def E5 (f wd:Nat) (name:ByteArray):Ex:= .mk 1 f wd 0 0 0 0 name [] [] []
def MO (name:ByteArray) (ts:List Bw):Option (Ex×List Bw):=
 if Ey ts 3 ⟨#[123]⟩then none
 else if Ey ts 3 ⟨#[46]⟩then
  match O8 ts.tail with
  |none=>none
  |some (f,wd,us)=>if Ey us 3 ⟨#[64]⟩then none else some (E5 f wd name,us)
 else if Ey ts 3 ⟨#[64]⟩then none
 else some (E5 0 0 name,ts)
mutual
def C6:Nat→Nat→List Bw→Option (Ex×List Bw)
 |0,_,_=>none
 |k+1,0,ts=>
  match C6 k 1 ts with
  |none=>none
  |some (e,us)=>F9 k 0 e us
 |k+1,1,ts=>
  match C6 k 2 ts with
  |none=>none
  |some (e,us)=>F9 k 1 e us
 |k+1,_+2,ts=>
  match ts with
  |[]=>none
  |t::us=>
   if t.kind=1 then some (Ay t.num 1,us)
   else if Ey (t::us) 3 ⟨#[40]⟩then
    match C6 k 0 us with
    |none=>none
    |some (e,vs)=>if Ey vs 3 ⟨#[41]⟩then some (e,vs.tail)else none
   else if t.kind=0 then(if H5 C0 t.text then none else MO t.text us)
   else none
def F9:Nat→Nat→Ex→List Bw→Option (Ex×List Bw)
 |0,_,_,_=>none
 |k+1,l,e,ts=>
  if Ey ts 3 (M5 (2*l))then
   match C6 k (l+1) ts.tail with
   |none=>none
   |some (r,us)=>F9 k l (Af ((2*l:Nat):Int) e r) us
  else if Ey ts 3 (M5 (2*l+1))then
   match C6 k (l+1) ts.tail with
   |none=>none
   |some (r,us)=>F9 k l (Af ((2*l+1:Nat):Int) e r) us
  else some (e,ts)
end
theorem Q8 {ts us:List Bw} {f wd:Nat} (h:O8 ts=some (f,wd,us)):us.length≤ts.length:=by
 unfold O8 at h;split at h
 ·cases h
 split at h
 ·split at h
  ·cases h
  split at h
  ·simp only[Ur,Uq]at h;obtain⟨-, -,rfl⟩:=h;simp
  split at h
  ·cases h
  split at h
  ·split at h
   ·cases h
   ·rename_i n us' hts
    have h1:=congrArg List.length hts;split at h
    ·simp only[Ur,Uq]at h;obtain⟨-, -,rfl⟩:=h;simp at h1 ⊢;omega
    cases h
  cases h
 cases h
theorem QF {name:ByteArray} {ts us:List Bw} {e:Ex} (h:MO name ts=some (e,us)):us.length≤ts.length:=by
 unfold MO at h;split at h
 ·cases h
 split at h
 ·split at h
  ·cases h
  ·rename_i hf
   split at h
   ·cases h
   simp only[Ur,Uq]at h;obtain⟨-,rfl⟩:=h;have:=Q8 hf;rw[List.length_tail]at this;omega
 split at h
 ·cases h
 simp only[Ur,Uq]at h;obtain⟨-,rfl⟩:=h;exact Ua _
theorem Lf (k l:Nat) (ts:List Bw):C6 (k+1) (l+2) ts=match ts with
  |[]=>none
  |t::us=>
   if t.kind=1 then some (Ay t.num 1,us)
   else if Ey (t::us) 3 ⟨#[40]⟩then
    match C6 k 0 us with
    |none=>none
    |some (e,vs)=>if Ey vs 3 ⟨#[41]⟩then some (e,vs.tail)else none
   else if t.kind=0 then(if H5 C0 t.text then none else MO t.text us)
   else none:=by
 rw[C6.eq_def]
theorem M3:∀k,(∀l ts e us,C6 k l ts=some (e,us)→us.length<ts.length)∧(∀l e0 ts e us,F9 k l e0 ts=some (e,us)→us.length≤ts.length)
 |0=>⟨fun l ts e us h=>(by rw[C6]at h;cases h),fun l e0 ts e us h=>(by rw[F9]at h;cases h)⟩
 |k+1=>by
  obtain⟨hp,hl⟩:=M3 k;refine⟨fun l ts e us h=>?_,fun l e0 ts e us h=>?_⟩
  ·rcases l with _|_|l
   ·rw[C6]at h;split at h
    ·cases h
    ·rename_i h1
     have:=hp _ _ _ _ h1;have:=hl _ _ _ _ _ h;omega
   ·rw[C6]at h;split at h
    ·cases h
    ·rename_i h1
     have:=hp _ _ _ _ h1;have:=hl _ _ _ _ _ h;omega
   change C6 (k+1) (l+2) ts=some (e,us)at h;rw[Lf]at h;split at h
   ·cases h
   split at h
   ·simp only[Ur,Uq]at h;obtain⟨-,rfl⟩:=h;simp
   split at h
   ·split at h
    ·cases h
    ·rename_i h1
     split at h
     ·simp only[Ur,Uq]at h;obtain⟨-,rfl⟩:=h;have:=hp _ _ _ _ h1;simp;omega
     cases h
   split at h
   ·split at h
    ·cases h
    have:=QF h;simp;omega
   cases h
  rw[F9]at h;split at h
  ·split at h
   ·cases h
   ·rename_i h1
    have:=hp _ _ _ _ h1;have:=hl _ _ _ _ _ h;rw[List.length_tail]at*;omega
  split at h
  ·split at h
   ·cases h
   ·rename_i h1
    have:=hp _ _ _ _ h1;have:=hl _ _ _ _ _ h;rw[List.length_tail]at*;omega
  simp only[Ur,Uq]at h;obtain⟨-,rfl⟩:=h;exact Ua _
theorem GW {k l:Nat} {ts us:List Bw} {e:Ex} (h:C6 k l ts=some (e,us)):us.length<ts.length:=(M3 k).1 _ _ _ _ h
def KI (s:ByteArray):Option Ex:=
 match OI s 2001 0 with
 |none=>none
 |some ts=>match C6 (4*ts.length+4) 0 ts with
  |some (e,[])=>some e
  |_=>none
def UA:ByteArray:=⟨#[40,97,43,97,46,109,101,97,110,40,51,41,41,45,97,46,109,101,97,110,40,51,41]⟩
end Go.Proofs.YtkclnhpofkaclaaGreatDoor
namespace Go.Proofs.YtkclnhpofkaclaaGreatDoor
open Go.RowKit Pl
theorem EA (b:Nat) (w:World):Calls Tryz.prog 145 #[.int .u8 b] w fun e w'=>e= .returned (.bool (Fd b))∧w'=w:=by
 go_enter Tryz.func145,Tryz.ntmps145;by_cases h1:97≤b
 ·have t1:decide ((97:Int)≤(b:Int))=true:=by simp;omega
  by_cases h2:b≤122
  ·have t2:decide ((b:Int)≤122)=true:=by simp;omega
   have HF:=UX (show Fd b=true by unfold Fd;simp;omega);clear h1 h2;go_wp2_with fail;go_ret;exact⟨by rw[HF.out];rfl,rfl⟩
  have t2:decide ((b:Int)≤122)=false:=by simp;omega
  have HF:=UX (show Fd b=false by unfold Fd;simp;omega);clear h1 h2;go_wp2_with fail;go_ret;exact⟨by rw[HF.out];rfl,rfl⟩
 have t1:decide ((97:Int)≤(b:Int))=false:=by simp;omega
 have HF:=UX (show Fd b=false by unfold Fd;simp;omega);clear h1;go_wp2_with fail;go_ret;exact⟨by rw[HF.out];rfl,rfl⟩
theorem Eh (b:Nat) (w:World):Calls Tryz.prog 147 #[.int .u8 b] w fun e w'=>e= .returned (.bool (C4 b))∧w'=w:=by
 go_enter Tryz.func147,Tryz.ntmps147;by_cases h1:48≤b
 ·have t1:decide ((48:Int)≤(b:Int))=true:=by simp;omega
  by_cases h2:b≤57
  ·have t2:decide ((b:Int)≤57)=true:=by simp;omega
   have HF:=UX (show C4 b=true by unfold C4;simp;omega);clear h1 h2;go_wp2_with fail;go_ret;exact⟨by rw[HF.out];rfl,rfl⟩
  have t2:decide ((b:Int)≤57)=false:=by simp;omega
  have HF:=UX (show C4 b=false by unfold C4;simp;omega);clear h1 h2;go_wp2_with fail;go_ret;exact⟨by rw[HF.out];rfl,rfl⟩
 have t1:decide ((48:Int)≤(b:Int))=false:=by simp;omega
 have HF:=UX (show C4 b=false by unfold C4;simp;omega);clear h1;go_wp2_with fail;go_ret;exact⟨by rw[HF.out];rfl,rfl⟩
theorem Mg (b:Nat) (w:World):Calls Tryz.prog 165 #[.int .u8 b] w fun e w'=>e= .returned (.bool (Ce b))∧w'=w:=by
 have HL:=UX (EA b w);have HD:=UX (Eh b w);go_enter Tryz.func165,Tryz.ntmps165;rcases hl:Fd b
 ·rw[hl]at HL;rcases hd:C4 b
  ·rw[hd]at HD;by_cases h9:b=95
   ·have t1:((b:Int)==95)=true:=by rw[Ud];omega
    have HF:=UX (show Ce b=true by unfold Ce;rw[hl,hd,h9];rfl);clear hl hd h9;go_wp2_with(first|(go_at_call 145;refine HL.out.mono ?_;rintro e3 w3 ⟨rfl,rfl⟩)|(go_at_call 147;refine HD.out.mono ?_;rintro e3 w3 ⟨rfl,rfl⟩));go_ret;exact⟨by rw[HF.out];rfl,rfl⟩
   have t1:((b:Int)==95)=false:=by rw[UY];omega
   have HF:=UX (show Ce b=false by unfold Ce;rw[hl,hd];simpa using h9);clear hl hd h9;go_wp2_with(first|(go_at_call 145;refine HL.out.mono ?_;rintro e3 w3 ⟨rfl,rfl⟩)|(go_at_call 147;refine HD.out.mono ?_;rintro e3 w3 ⟨rfl,rfl⟩));go_ret;exact⟨by rw[HF.out];rfl,rfl⟩
  rw[hd]at HD;have HF:=UX (show Ce b=true by unfold Ce;rw[hl,hd];rfl);clear hl hd;go_wp2_with(first|(go_at_call 145;refine HL.out.mono ?_;rintro e3 w3 ⟨rfl,rfl⟩)|(go_at_call 147;refine HD.out.mono ?_;rintro e3 w3 ⟨rfl,rfl⟩));go_ret;exact⟨by rw[HF.out];rfl,rfl⟩
 rw[hl]at HL;have HF:=UX (show Ce b=true by unfold Ce;rw[hl];rfl);clear hl;go_wp2_with(first|(go_at_call 145;refine HL.out.mono ?_;rintro e3 w3 ⟨rfl,rfl⟩)|(go_at_call 147;refine HD.out.mono ?_;rintro e3 w3 ⟨rfl,rfl⟩));go_ret;exact⟨by rw[HF.out];rfl,rfl⟩
def E2 (w:World) (g:Nat) (s:ByteArray) (i:Nat) (e:Int):Prop:=AK w g 128 #[.string s,.int .i64 (i:Nat),.int .i64 e]
theorem Py (w:World) (g:Nat) (s:ByteArray) (i0 i:Nat) (e0:Int) (h:E2 w g s i0 e0) (hi:i≤s.size) (hs:s.size≤1000000):
  Calls Tryz.prog 164 #[.pointer (some ⟨g,0,none⟩),.int .i64 (i:Nat),.func (.func 165) #[] #[]] w fun e w'=>e= .returned (.int .i64 (BX s Ce (s.size-i) i:Nat))∧w'=w:=by
 have c0:w.cell? ⟨g,0,none⟩=some (.string s):=h.cell 0;clear h;obtain⟨r,hr⟩:∃r,BX s Ce (s.size-i) i=r:=⟨_,rfl⟩;rw[hr];go_enter Tryz.func164,Tryz.ntmps164;go_upto_region 1 with fail;have HR:=UX hr;clear hr;go_loopw [1] (fun s1 wr=>∃(p:Nat),s1= .int .i64 (p:Nat)∧p≤s.size∧w=wr∧BX s Ce (s.size-p) p=r) (fun s1 _=>s.size-(intOf s1).toNat)
 case atStart=>exact⟨i,rfl,hi,rfl,HR.out⟩
 case round=>
  obtain⟨p,rfl,hp,rfl,hinv⟩:=hrel;have HI:=UX hinv;clear hinv hi;by_cases hlt:p<s.size
  ·obtain⟨b,hbe⟩:∃b,(s[p]'hlt).toNat=b:=⟨_,rfl⟩;have HC:=UX (Mg b w);have LP:=hlt;have tl:decide ((p:Int)<(s.size:Int))=true:=by simp;omega
   have hch:=He hlt hbe;rcases hb:Ce b
   ·have HS:=UX (show BX s Ce (s.size-p) p=p from FR (fun hc=>by rw[hch,hb]at hc;cases hc.2));rw[hb]at HC;clear hch hb;go_wp2_with(go_at_call 165;refine HC.out.mono ?_;rintro e3 w3 ⟨rfl,rfl⟩);go_ret;exact⟨by rw[←HI.out,HS.out];rfl,rfl⟩
   have HS:=UX (show BX s Ce (s.size-p) p=BX s Ce (s.size-(p+1)) (p+1)from Hc hlt (by rw[hch];exact hb));rw[hb]at HC;clear hch hb;go_wp2_with(go_at_call 165;refine HC.out.mono ?_;rintro e3 w3 ⟨rfl,rfl⟩);go_roundw
   case rel=>exact⟨p+1,by go_num,by omega,by simp,by rw[←HS.out];exact HI.out⟩
   case measure=>simp[intOf];omega
  have tl:decide ((p:Int)<(s.size:Int))=false:=by simp;omega
  have HS:=UX (show BX s Ce (s.size-p) p=p from FR (fun hc=>hlt hc.1));go_wp2_with fail;go_ret;exact⟨by rw[←HI.out,HS.out];rfl,rfl⟩
theorem PI (w:World) (g:Nat) (s:ByteArray) (i0 i:Nat) (e0:Int) (h:E2 w g s i0 e0) (hi:i≤s.size) (hs:s.size≤1000000):
  Calls Tryz.prog 164 #[.pointer (some ⟨g,0,none⟩),.int .i64 (i:Nat),.func (.func 147) #[] #[]] w fun e w'=>e= .returned (.int .i64 (BX s C4 (s.size-i) i:Nat))∧w'=w:=by
 have c0:w.cell? ⟨g,0,none⟩=some (.string s):=h.cell 0;clear h;obtain⟨r,hr⟩:∃r,BX s C4 (s.size-i) i=r:=⟨_,rfl⟩;rw[hr];go_enter Tryz.func164,Tryz.ntmps164;go_upto_region 1 with fail;have HR:=UX hr;clear hr;go_loopw [1] (fun s1 wr=>∃(p:Nat),s1= .int .i64 (p:Nat)∧p≤s.size∧w=wr∧BX s C4 (s.size-p) p=r) (fun s1 _=>s.size-(intOf s1).toNat)
 case atStart=>exact⟨i,rfl,hi,rfl,HR.out⟩
 case round=>
  obtain⟨p,rfl,hp,rfl,hinv⟩:=hrel;have HI:=UX hinv;clear hinv hi;by_cases hlt:p<s.size
  ·obtain⟨b,hbe⟩:∃b,(s[p]'hlt).toNat=b:=⟨_,rfl⟩;have HC:=UX (Eh b w);have LP:=hlt;have tl:decide ((p:Int)<(s.size:Int))=true:=by simp;omega
   have hch:=He hlt hbe;rcases hb:C4 b
   ·have HS:=UX (show BX s C4 (s.size-p) p=p from FR (fun hc=>by rw[hch,hb]at hc;cases hc.2));rw[hb]at HC;clear hch hb;go_wp2_with(go_at_call 147;refine HC.out.mono ?_;rintro e3 w3 ⟨rfl,rfl⟩);go_ret;exact⟨by rw[←HI.out,HS.out];rfl,rfl⟩
   have HS:=UX (show BX s C4 (s.size-p) p=BX s C4 (s.size-(p+1)) (p+1)from Hc hlt (by rw[hch];exact hb));rw[hb]at HC;clear hch hb;go_wp2_with(go_at_call 147;refine HC.out.mono ?_;rintro e3 w3 ⟨rfl,rfl⟩);go_roundw
   case rel=>exact⟨p+1,by go_num,by omega,by simp,by rw[←HS.out];exact HI.out⟩
   case measure=>simp[intOf];omega
  have tl:decide ((p:Int)<(s.size:Int))=false:=by simp;omega
  have HS:=UX (show BX s C4 (s.size-p) p=p from FR (fun hc=>hlt hc.1));go_wp2_with fail;go_ret;exact⟨by rw[←HI.out,HS.out];rfl,rfl⟩
theorem Kj:(Tryz.prog.info? 131).map (·.size)=some 4:=by kernel_rfl
theorem rK:J3 131 4:=⟨Kj,_,Tryz.underlying131,rfl⟩
theorem F6 (a c d:Int) (b:ByteArray):∀v∈([.int .i64 a,.string b,.int .i64 c,.int .i64 d]:List Value),v.oneCell'=true:=by
 intro v hv;simp at hv;rcases hv with rfl|rfl|rfl|rfl<;>rfl
theorem E2.grew {w w':World} {g:Nat} {s:ByteArray} {i:Nat} {e:Int} (h:E2 w g s i e) (k:A5 w w'):E2 w' g s i e:=AK.grew h k
def Jv (t:Bw) (w:World) (e:Ending) (w':World):Prop:=e= .returned (.agg t.cells.toArray)∧A5 w w'
theorem Ps (w:World) (g:Nat) (s:ByteArray) (i:Nat) (h:E2 w g s i 0) (hi:i≤s.size) (hs:s.size≤1000000) (hl:BX s Ce (s.size-i) i-i≤16):
  Calls Tryz.prog 146 #[.pointer (some ⟨g,0,none⟩)] w (Jv ⟨0,s.extract i (BX s Ce (s.size-i) i),0,i⟩ w):=by
 have hle:=E8 (s:=s) (p:=Ce) (s.size-i) i hi;have HRun:=fun w1 hh=>Py w1 g s i i 0 hh hi hs
 obtain⟨r,hr⟩:∃r,BX s Ce (s.size-i) i=r:=⟨_,rfl⟩;rw[hr]at hle hl HRun ⊢;have HR:=UX (show ∀w1,E2 w1 g s i 0→Calls Tryz.prog 164 #[.pointer (some ⟨g,0,none⟩),.int .i64 (i:Nat),.func (.func 165) #[] #[]] w1 fun e w'=>e= .returned (.int .i64 (r:Nat))∧w'=w1 from HRun);clear HRun hr;have c0:w.cell? ⟨g,0,none⟩=some (.string s):=h.cell 0;have hbr:=Ux w 131 [.int .i64 0,.string ⟨#[]⟩,.int .i64 0,.int .i64 0].toArray;have hg1:=(Uv w).alloc (.cells [.int .i64 0,.string ⟨#[]⟩,.int .i64 0,.int .i64 0].toArray 131);have HSR:=UX h;go_enter Tryz.func146,Tryz.ntmps146;go_upto_region 1 with fail;change Code.wp _ _ _ _ (w.alloc (.cells [.int .i64 0,.string ⟨#[]⟩,.int .i64 0,.int .i64 0].toArray 131));clear c0;generalize w.alloc (.cells [.int .i64 0,.string ⟨#[]⟩,.int .i64 0,.int .i64 0].toArray 131)=w1 at*;have HG:=UX hg1;have HB:=UX hbr;have hsr:=h.grew HG.out;have c0:w1.cell? ⟨g,0,none⟩=some (.string s):=hsr.cell 0;have c1:w1.cell? ⟨g,1,none⟩=some (.int .i64 (i:Nat)):=hsr.cell 1;have HSR1:=UX hsr;clear hg1 hbr h hsr;have t1:decide ((r:Int)-(i:Int)>16)=false:=by simp;omega
 go_upto_region 4 with(go_at_call 164;refine(HR.out _ HSR1.out).mono ?_;rintro e3 w1 ⟨rfl,rfl⟩);obtain⟨hz1,hz2⟩:(i:Int)≤(r:Int)∧(r:Int)≤(s.size:Int):=by omega
 refine wp_region_still_tail 15 (by kernel_rfl) (by kernel_rfl) ?_;simp only[List.take_succ_cons,List.take_zero,List.drop_succ_cons,List.drop_zero]
 repeat still_step
 refine wpStill_nil ?_;change wpList _ _ _ _ _ w1.drew;go_wp2_with(first|((refine sN (.tmp 2) (.tmp 34) ([.int .i64 0,.string (s.extract i r),.int .i64 0,.int .i64 (i:Nat)]) (HB.out.drew) rK ?_;intro w8 hb8 k8 d8))|fail);refine rO rK hb8 ?_;exact⟨rfl,Uw (Uy HG.out) k8 fun b hb e=>by omega⟩
theorem Mo (w:World) (g:Nat) (s:ByteArray) (i:Nat) (h:E2 w g s i 0) (hi:i≤s.size) (hs:s.size≤1000000) (hl:F2 s i (BX s C4 (s.size-i) i-i)≤1073741824):
  Calls Tryz.prog 148 #[.pointer (some ⟨g,0,none⟩)] w (Jv ⟨1,s.extract i (BX s C4 (s.size-i) i),F2 s i (BX s C4 (s.size-i) i-i),i⟩ w):=by
 have hle:=E8 (s:=s) (p:=C4) (s.size-i) i hi;have HRun:=fun w1 hh=>PI w1 g s i i 0 hh hi hs
 have hall:=Lr (s:=s) (p:=C4) (s.size-i) i;obtain⟨r,hr⟩:∃r,BX s C4 (s.size-i) i=r:=⟨_,rfl⟩;rw[hr]at hle hl HRun hall ⊢;obtain⟨V,hV⟩:∃V,F2 s i (r-i)=V:=⟨_,rfl⟩;rw[hV]at hl ⊢;have HALL:=UX hall;have HVV:=UX hV;have HR:=UX (show ∀w1,E2 w1 g s i 0→Calls Tryz.prog 164 #[.pointer (some ⟨g,0,none⟩),.int .i64 (i:Nat),.func (.func 147) #[] #[]] w1 fun e w'=>e= .returned (.int .i64 (r:Nat))∧w'=w1 from HRun);clear HRun hr hall hV;have c0:w.cell? ⟨g,0,none⟩=some (.string s):=h.cell 0;have hbr:=Ux w 131 [.int .i64 0,.string ⟨#[]⟩,.int .i64 0,.int .i64 0].toArray;have hg1:=(Uv w).alloc (.cells [.int .i64 0,.string ⟨#[]⟩,.int .i64 0,.int .i64 0].toArray 131);have HSR:=UX h;go_enter Tryz.func148,Tryz.ntmps148;go_upto_region 1 with fail;change Code.wp _ _ _ _ (w.alloc (.cells [.int .i64 0,.string ⟨#[]⟩,.int .i64 0,.int .i64 0].toArray 131));clear c0;generalize w.alloc (.cells [.int .i64 0,.string ⟨#[]⟩,.int .i64 0,.int .i64 0].toArray 131)=w1 at*;have HG:=UX hg1;have HB:=UX hbr;have hsr:=h.grew HG.out;have c0:w1.cell? ⟨g,0,none⟩=some (.string s):=hsr.cell 0;have c1:w1.cell? ⟨g,1,none⟩=some (.int .i64 (i:Nat)):=hsr.cell 1;have HSR1:=UX hsr;clear hg1 hbr h hsr;go_upto_region 4 with(go_at_call 164;refine(HR.out _ HSR1.out).mono ?_;rintro e3 w1 ⟨rfl,rfl⟩);go_loopw [4,5] (fun s4 s5 wr=>∃(p n:Nat),s5= .int .i64 (p:Nat)∧s4= .int .i64 (n:Nat)∧i≤p∧p≤r∧n=F2 s i (p-i)∧n≤1073741824∧w1=wr) (fun _ s5 _=>r-(intOf s5).toNat)
 case atStart=>exact⟨i,0,rfl,rfl,Ua _,by omega,by rw[Nat.sub_self];rfl,by omega,rfl⟩
 case round=>
  obtain⟨p,n,rfl,rfl,hip,hpr,hn,hn2,rfl⟩:=hrel;have HN:=UX hn;clear hn;have t2:decide ((n:Int)≤1073741824)=true:=by simp;omega
  by_cases hlt:p<r
  ·have t1:decide ((p:Int)<(r:Int))=true:=by simp;omega
   obtain⟨hps,hpd⟩:=HALL.out p hip hlt;have LP:=hps;obtain⟨b,hbe⟩:∃b,(s[p]'hps).toNat=b:=⟨_,rfl⟩;have hch:=He hps hbe;have hb2:48≤b∧b≤57:=by rw[hch]at hpd;unfold C4 at hpd;simpa using hpd
   have HNX:=UX (show n*10+(b-48)=F2 s i (p+1-i)from by rw[show p+1-i=(p-i)+1 by omega,show F2 s i (p-i+1)=F2 s i (p-i)*10+(Ew s (i+(p-i))-48)from rfl,←HN.out,show i+(p-i)=p by omega,hch]);have HNB:=UX (show n*10+(b-48)≤1073741824 from by rw[HNX.out];exact Ue (JK s i (p+1-i) (r-i) (by omega)) (by rw[HVV.out];exact hl));have hw1:IntKind.u8.wrap ((b:Int)-48)=((b-48:Nat):Int):=by unfold IntKind.wrap;simp[IntKind.bits,IntKind.signed];omega
   obtain⟨b8,hb8⟩:∃x,b-48=x:=⟨_,rfl⟩;rw[hb8]at hw1 HNX HNB;have hb89:b8≤9:=by omega
   clear hch hpd hb2 hb8;go_wp2_with fail;go_roundw
   case rel=>exact⟨p+1,n*10+b8,by go_num,by go_num,by omega,by omega,HNX.out,HNB.out,by simp⟩
   case measure=>simp[intOf];omega
  have t1:decide ((p:Int)<(r:Int))=false:=by simp;omega
  have HE:=UX (show n=V from by rw[HN.out,show p=r by omega,HVV.out]);have t3:decide ((n:Int)>1073741824)=false:=by simp;omega
  obtain⟨hz1,hz2⟩:(i:Int)≤(r:Int)∧(r:Int)≤(s.size:Int):=by omega
  go_upto_region 9 with fail;refine wp_region_still_tail 16 (by kernel_rfl) (by kernel_rfl) ?_;simp only[List.take_succ_cons,List.take_zero,List.drop_succ_cons,List.drop_zero]
  repeat still_step
  refine wpStill_nil ?_;change wpList _ _ _ _ _ w1.drew;go_wp2_with(first|((refine sN (.tmp 2) (.tmp 56) ([.int .i64 1,.string (s.extract i r),.int .i64 (n:Nat),.int .i64 (i:Nat)]) (HB.out.drew) rK ?_;intro w8 hb8 k8 d8))|fail);refine rO rK hb8 ?_;exact⟨by rw[HE.out];rfl,Uw (Uy HG.out) k8 fun b hb e=>by omega⟩
theorem IT {s:ByteArray} {i b:Nat} (hb:Ew s i=b) (h:CP s i≠0):(CP s i=1∧(b=43∨b=45∨b=42∨b=47∨b=40∨b=41∨b=123∨b=125∨b=44∨b=46∨b=64∨b=61))∨(CP s i=2∧(b=33∨b=94)∧i+1<s.size∧Ew s (i+1)=61):=by
 unfold CP at h ⊢;rw[hb]at h ⊢;by_cases h1:[43,45,42,47,40,41,123,125,44,46,64,61].contains b=true
 ·rw[Uo h1];left;refine⟨rfl,?_⟩;simpa using h1
 rw[Un h1]at h ⊢;by_cases h2:(b=33∨b=94)∧i+1<s.size∧Ew s (i+1)=61
 ·rw[Uo h2];exact .inr ⟨rfl,h2⟩
 rw[Un h2]at h;exact absurd rfl h
theorem MQ (w:World) (g:Nat) (s:ByteArray) (i:Nat) (h:E2 w g s i 0) (hi:i<s.size) (hs:s.size≤1000000) (hl:CP s i≠0):
  Calls Tryz.prog 150 #[.pointer (some ⟨g,0,none⟩)] w (Jv ⟨3,s.extract i (i+CP s i),0,i⟩ w):=by
 obtain⟨b,hbe⟩:∃b,(s[i]'hi).toNat=b:=⟨_,rfl⟩;have hch:=He hi hbe;have hcs:=IT hch hl;obtain⟨L,hL⟩:∃L,CP s i=L:=⟨_,rfl⟩;rw[hL]at hcs ⊢;obtain⟨j,hj⟩:∃j,i+L=j:=⟨_,rfl⟩;rw[hj];have HJ:=UX hj;clear hj;have LP:=hi;have hLb:(L=1∨L=2)∧i+L≤s.size:=by
  rcases hcs with⟨h1, -⟩|⟨h1, -,h2, -⟩<;>omega
 have HLb:=UX hLb;have HCS:=UX hcs;have hbu:b<256:=by rw[←hbe];exact(s[i]'hi).toNat_lt
 clear hch hcs hl hL hLb;have c0:w.cell? ⟨g,0,none⟩=some (.string s):=h.cell 0;have hbr:=Ux w 131 [.int .i64 0,.string ⟨#[]⟩,.int .i64 0,.int .i64 0].toArray;have hg1:=(Uv w).alloc (.cells [.int .i64 0,.string ⟨#[]⟩,.int .i64 0,.int .i64 0].toArray 131);have HSR:=UX h;go_enter Tryz.func150,Tryz.ntmps150;go_upto_region 1 with fail;change Code.wp _ _ _ _ (w.alloc (.cells [.int .i64 0,.string ⟨#[]⟩,.int .i64 0,.int .i64 0].toArray 131));clear c0;generalize w.alloc (.cells [.int .i64 0,.string ⟨#[]⟩,.int .i64 0,.int .i64 0].toArray 131)=w1 at*;have HG:=UX hg1;have HB:=UX hbr;have hsr:=h.grew HG.out;have c0:w1.cell? ⟨g,0,none⟩=some (.string s):=hsr.cell 0;have c1:w1.cell? ⟨g,1,none⟩=some (.int .i64 (i:Nat)):=hsr.cell 1;have HSR1:=UX hsr;clear hg1 hbr h hsr;go_upto_region 2 with fail;go_quiet (fail);have hg2:A5 w1 (w1.drewN nq):=V1 (Uv w1) nq;have HG:=UX (HG.out.trans hg2);have HB:=UX (HB.out.grew hg2);have HSR1:=UX (HSR1.out.grew hg2);clear c0 c1;generalize w1.drewN nq=w2 at*;clear hg2;have c0:w2.cell? ⟨g,0,none⟩=some (.string s):=HSR1.out.cell 0;have c1:w2.cell? ⟨g,1,none⟩=some (.int .i64 (i:Nat)):=HSR1.out.cell 1;go_upto_block 0 with fail;go_cut [3] (fun s3 wx=>s3= .int .i64 (L:Nat)∧A5 w2 wx)
 case first=>
  rcases HCS.out with⟨rfl,hb⟩|⟨rfl,hb,h1,h2⟩
  ·clear HCS;rcases hb with rfl|rfl|rfl|rfl|rfl|rfl|rfl|rfl|rfl|rfl|rfl|rfl<;>(go_wp2_with fail;go_meet;exact⟨rfl,Uv _⟩)
  clear HCS;obtain⟨b2,hb2⟩:∃b,(s[i+1]'h1).toNat=b:=⟨_,rfl⟩;have h2:b2=61:=by rw[←h2];exact(He h1 hb2).symm
  subst h2;have t1:decide ((i:Int)+1<(s.size:Int))=true:=by simp;omega
  have LP2:=h1;have hi1:IntKind.i64.wrap ((i:Int)+1)=((i+1:Nat):Int):=by unfold IntKind.wrap;simp[IntKind.bits,IntKind.signed];omega
  rcases hb with rfl|rfl
  ·go_upto_region 18 with fail;go_quiet (fail);go_wp2_with fail;go_meet;exact⟨rfl,V1 (Uv w2) _⟩
  go_upto_region 18 with fail;go_quiet (fail);go_wp2_with fail;go_meet;exact⟨rfl,V1 (Uv w2) _⟩
 case rest=>
  obtain⟨rfl,hgx⟩:=hcut;have hLb:=HLb.out;have t0:((L:Int)==0)=false:=by rw[UY];omega
  have HG:=UX (HG.out.trans hgx);have HB:=UX (HB.out.grew hgx);have HSR1:=UX (HSR1.out.grew hgx);clear c0 c1 hgx;have c0:wc.cell? ⟨g,0,none⟩=some (.string s):=HSR1.out.cell 0;have c1:wc.cell? ⟨g,1,none⟩=some (.int .i64 (i:Nat)):=HSR1.out.cell 1;have hj:=HJ.out;have hw1:IntKind.i64.wrap ((i:Int)+(L:Int))=((j:Nat):Int):=by rw[←hj];unfold IntKind.wrap;simp[IntKind.bits,IntKind.signed];omega
  obtain⟨hz1,hz2⟩:(i:Int)≤((j:Nat):Int)∧((j:Nat):Int)≤(s.size:Int):=by omega
  clear hj hLb;go_upto_region 22 with fail;refine wp_region_still_tail 20 (by kernel_rfl) (by kernel_rfl) ?_;simp only[List.take_succ_cons,List.take_zero,List.drop_succ_cons,List.drop_zero]
  repeat still_step
  refine wpStill_nil ?_;change wpList _ _ _ _ _ wc.drew;go_wp2_with(first|((refine sN (.tmp 2) (.tmp 77) ([.int .i64 3,.string (s.extract i j),.int .i64 0,.int .i64 (i:Nat)]) (HB.out.drew) rK ?_;intro w8 hb8 k8 d8))|fail);refine rO rK hb8 ?_;exact⟨rfl,Uw (Uy HG.out) k8 fun b hb e=>by omega⟩
end Go.Proofs.YtkclnhpofkaclaaGreatDoor
namespace Go.Proofs.YtkclnhpofkaclaaGreatDoor
open Go.RowKit
section
variable {P:Program} {t e:TypeId} {bytes:Nat} {z:Value} {w:World}
variable {B:Nat} {xs:List Value} {ops:Array Oper} {rest:List Oper} {o:Oper} {a:Act} {Q:Exit→Act→World→Prop}
end
end Go.Proofs.YtkclnhpofkaclaaGreatDoor
namespace Go.Proofs.YtkclnhpofkaclaaGreatDoor
open Go.RowKit Pl
section
variable {P:Program} {t e:TypeId} {sz bytes:Nat} {z:Value} {w:World} {B:Nat} {rows:List (List Value)} {ops:Array Oper} {rest:List Oper} {o:Oper} {a:Act} {Q:Exit→Act→World→Prop}
theorem OP (T:Kg P t e sz bytes z) {A:Option Addr} {n c k:Nat} (hk:k≤n):
  (Instr.sliceAt t (.slice A n c) (some (.int .i64 (k:Nat))) none none).run P w= .ok (.slice (if c=k then A else A.map (·.add (k*sz))) (n-k) (c-k)) w:=by
 obtain⟨i,hi,hz,hs,hby⟩:=info_parts T.info;simp[Instr.sliceAt,Instr.slice,run_underlying T.under,Instr.sliceBounds,Instr.sliceBound,asIntOf,sizeOf,typeInfo,hi,hs];omega
theorem Bs.cutS {A:Option Addr} {n c:Nat} (h:Bs w B sz (.slice A n c) rows) {k:Nat} (hk:k≤n):Bs w B sz (.slice (if c=k then A else A.map (·.add (k*sz))) (n-k) (c-k)) (rows.drop k):=by
 obtain⟨A0,c',hv,hc,hx⟩:=h;injection hv with e1 e2 e3;subst e1 e2 e3;refine⟨_,c-k,by rw[List.length_drop],by rw[List.length_drop];omega,fun h0=>?_⟩;rw[List.length_drop]at h0;obtain⟨b,o,rfl,hb,hcell⟩:=hx (by omega);rw[Un (by omega)];refine⟨b,o+k*sz,?_,hb,fun j cs hj=>?_⟩
 ·rw[Option.map_some];unfold Addr.add;split<;>simp_all
 rw[List.getElem?_drop]at hj;have:=hcell (k+j) cs hj;rwa[show o+(k+j)*sz=o+k*sz+j*sz by rw[Nat.add_mul];omega]at this
theorem Oj (T:Kg P t e sz bytes z) (hgd:o.guard=none) (x y:Operand) (ho:o.op= .slice t x (some y) none none) {A:Option Addr} {n c:Nat} (hx:a.eval x= .slice A n c) {k:Nat} (hy:a.eval y= .int .i64 (k:Nat)) (hk:k≤n)
  (hr:Bs w B sz (.slice A n c) rows)
  (h:∀A' m c',m=n-k→Bs w B sz (.slice A' m c') (rows.drop k)→wpList P ops Q rest (a.put o.dst (.slice A' m c')) w):wpList P ops Q (o::rest) a w:=by
 refine wpList_plain hgd fun K hK=>?_
 unfold Oper.wp execOp;simp only[ho,hx,hy,Option.map_some,Option.map_none];have:=OP (w:=w) T (A:=A) (c:=c) hk;simp only[this,Sem.run_bind,Sem.run_pure,Result.andThen_ok];exact hK _ _ (h _ _ _ rfl (hr.cutS hk))
theorem PR (T:TypeId) (x:Operand) (y:Option Operand) (_:o.op= .slice T x y none none) (h:wpList P ops Q (o::rest) a w):wpList P ops Q (o::rest) a w:=h
end
def SZ:Value:= .agg #[.int .i64 0,.string ⟨#[]⟩,.int .i64 0,.int .i64 0]
theorem Ty:Kg Tryz.prog 87 131 4 40 SZ:=⟨Tryz.underlying87,by kernel_rfl,rfl,by decide,by decide⟩
def Cu (w:World) (g:Nat) (n:Int) (ts:List Bw):Prop:=∃A k c,AK w g 95 #[.slice A k c,.int .i64 n]∧Bs w g 4 (.slice A k c) (ts.map Bw.cells)∧k=ts.length
theorem Cu.keep {S:Nat→Prop} {w w':World} {g:Nat} {n:Int} {ts:List Bw} (h:Cu w g n ts) (k:A4 S w w') (hs:∀i,i≤g→¬S i):Cu w' g n ts:=by
 obtain⟨A,m,c,hb,hr,hl⟩:=h;exact⟨A,m,c,hb.keep k (hs g (Ua _)),hr.keep (Nat.le_of_lt hb.lt) (Ua _) k (fun i hi=>hs i (by omega)),hl⟩
theorem Cu.grew {w w':World} {g:Nat} {n:Int} {ts:List Bw} (h:Cu w g n ts) (k:A5 w w'):Cu w' g n ts:=h.keep k fun _ _ h=>h
theorem Cu.lt {w:World} {g:Nat} {n:Int} {ts:List Bw} (h:Cu w g n ts):g<w.heap.size:=by
 obtain⟨A,m,c,hb, -⟩:=h;exact hb.lt
theorem In {w:World} {g k c:Nat} {A:Option Addr} {t:Bw} {ts:List Bw} (hr:Bs w g 4 (.slice A k c) ((t::ts).map Bw.cells)):
  ∃b o,A=some ⟨b,o,none⟩∧b<g∧w.rangeAt b o t.cells∧w.cell? ⟨b,o,none⟩=some (.int .i64 (t.kind:Nat))∧w.cell? ⟨b,o+1,none⟩=some (.string t.text)∧w.cell? ⟨b,o+2,none⟩=some (.int .i64 (t.num:Nat)):=by
 obtain⟨A0,c',hv,hc,hx⟩:=hr;injection hv with e1 e2 e3;subst e1;obtain⟨b,o,rfl,hb,hcell⟩:=hx (by simp);have h:=hcell 0 t.cells (by simp);rw[Nat.zero_mul,Nat.add_zero]at h;exact⟨b,o,rfl,hb,h,h 0 _ rfl,h 1 _ rfl,h 2 _ rfl⟩
theorem GU (w:World) (g:Nat) (n:Int) (ts:List Bw) (k:Nat) (s:ByteArray) (h:Cu w g n ts):
  Calls Tryz.prog 151 #[.pointer (some ⟨g,0,none⟩),.int .i64 (k:Nat),.string s] w fun e w'=>e= .returned (.bool (Ey ts k s))∧w'=w:=by
 obtain⟨A,m,c,hb,hr,rfl⟩:=h;rcases ts with _|⟨t,us⟩
 ·have c0:w.cell? ⟨g,0,none⟩=some (.slice A 0 c):=hb.cell 0;clear hb hr;go_enter Tryz.func151,Tryz.ntmps151;go_wp2_with fail;go_ret;exact⟨rfl,rfl⟩
 obtain⟨b,o,rfl, -, -,k0,k1, -⟩:=In hr;have c0:w.cell? ⟨g,0,none⟩=some (.slice (some ⟨b,o,none⟩) (t::us).length c):=hb.cell 0;rw[List.length_cons]at c0;obtain⟨m,hm⟩:∃m,us.length=m:=⟨_,rfl⟩;rw[hm]at c0;have tl:decide (((m+1:Nat):Int)>0)=true:=by rw[decide_eq_true_iff];omega
 have tl2:decide ((m:Int)+1>0)=true:=by rw[decide_eq_true_iff];omega
 have HF:=UX (show Ey (t::us) k s=(decide (t.kind=k)&&(t.text.toList==s.toList))from rfl);clear hb hr hm;obtain⟨tk,tt,tn,tf⟩:=t;have k0:w.cell? ⟨b,o,none⟩=some (.int .i64 (tk:Nat)):=k0;have k1:w.cell? ⟨b,o+1,none⟩=some (.string tt):=k1;have HF:=UX (show Ey (⟨tk,tt,tn,tf⟩::us) k s=(decide (tk=k)&&(tt.toList==s.toList))from rfl);by_cases h1:tk=k
 ·have t1:((tk:Int)==(k:Int))=true:=by rw[Ud];omega
  rcases h2:(tt.toList==s.toList)
  ·have HF:=UX (show Ey (⟨tk,tt,tn,tf⟩::us) k s=false by rw[HF.out,h2];simp);clear h1;go_enter Tryz.func151,Tryz.ntmps151;go_wp2_with fail;go_ret;exact⟨by rw[HF.out];rfl,rfl⟩
  have HF:=UX (show Ey (⟨tk,tt,tn,tf⟩::us) k s=true by rw[HF.out,h2,h1];simp);clear h1;go_enter Tryz.func151,Tryz.ntmps151;go_wp2_with fail;go_ret;exact⟨by rw[HF.out];rfl,rfl⟩
 have t1:((tk:Int)==(k:Int))=false:=by rw[UY];omega
 have HF:=UX (show Ey (⟨tk,tt,tn,tf⟩::us) k s=false by rw[HF.out];simp[h1]);clear h1;go_enter Tryz.func151,Tryz.ntmps151;go_wp2_with fail;go_ret;exact⟨by rw[HF.out];rfl,rfl⟩
theorem FO (w:World) (g:Nat) (n:Int) (ts:List Bw) (k:Nat) (h:Cu w g n ts):
  Calls Tryz.prog 168 #[.pointer (some ⟨g,0,none⟩),.int .i64 (k:Nat)] w fun e w'=>e= .returned (.bool (IL ts k))∧w'=w:=by
 obtain⟨A,m,c,hb,hr,rfl⟩:=h;rcases ts with _|⟨t,us⟩
 ·have c0:w.cell? ⟨g,0,none⟩=some (.slice A 0 c):=hb.cell 0;clear hb hr;go_enter Tryz.func168,Tryz.ntmps168;go_wp2_with fail;go_ret;exact⟨rfl,rfl⟩
 obtain⟨b,o,rfl, -, -,k0, -, -⟩:=In hr;have c0:w.cell? ⟨g,0,none⟩=some (.slice (some ⟨b,o,none⟩) (t::us).length c):=hb.cell 0;rw[List.length_cons]at c0;obtain⟨m,hm⟩:∃m,us.length=m:=⟨_,rfl⟩;rw[hm]at c0;have tl:decide (((m+1:Nat):Int)>0)=true:=by rw[decide_eq_true_iff];omega
 have tl2:decide ((m:Int)+1>0)=true:=by rw[decide_eq_true_iff];omega
 clear hb hr hm;obtain⟨tk,tt,tn,tf⟩:=t;have k0:w.cell? ⟨b,o,none⟩=some (.int .i64 (tk:Nat)):=k0;by_cases h1:tk=k
 ·have t1:((tk:Int)==(k:Int))=true:=by rw[Ud];omega
  have HF:=UX (show IL (⟨tk,tt,tn,tf⟩::us) k=true from by rw[show IL (⟨tk,tt,tn,tf⟩::us) k=decide (tk=k)from rfl,h1];simp);clear h1;go_enter Tryz.func168,Tryz.ntmps168;go_wp2_with fail;go_ret;exact⟨by rw[HF.out];rfl,rfl⟩
 have t1:((tk:Int)==(k:Int))=false:=by rw[UY];omega
 have HF:=UX (show IL (⟨tk,tt,tn,tf⟩::us) k=false from by rw[show IL (⟨tk,tt,tn,tf⟩::us) k=decide (tk=k)from rfl];simp[h1]);clear h1;go_enter Tryz.func168,Tryz.ntmps168;go_wp2_with fail;go_ret;exact⟨by rw[HF.out];rfl,rfl⟩
abbrev Dl (g:Nat) (w w':World):Prop:=A4 (fun i=>i=g) w w'
theorem ES (w:World) (g:Nat) (n:Int) (t:Bw) (ts:List Bw) (h:Cu w g n (t::ts)):
  Calls Tryz.prog 167 #[.pointer (some ⟨g,0,none⟩)] w fun e w'=>e= .returned (.agg t.cells.toArray)∧Cu w' g n ts∧Dl g w w':=by
 have hg:=h.lt;have hb0:=Ux w 131 [.int .i64 0,.string ⟨#[]⟩,.int .i64 0,.int .i64 0].toArray;have hg0:=(Uv w).alloc (.cells [.int .i64 0,.string ⟨#[]⟩,.int .i64 0,.int .i64 0].toArray 131);have hs0:(w.alloc (.cells [.int .i64 0,.string ⟨#[]⟩,.int .i64 0,.int .i64 0].toArray 131)).heap.size=w.heap.size+1:=by simp
 have HP:=UX (h.grew hg0);clear h;go_enter Tryz.func167,Tryz.ntmps167;go_upto_region 1 with fail;change Code.wp _ _ _ _ (w.alloc (.cells [.int .i64 0,.string ⟨#[]⟩,.int .i64 0,.int .i64 0].toArray 131));generalize w.alloc (.cells [.int .i64 0,.string ⟨#[]⟩,.int .i64 0,.int .i64 0].toArray 131)=w1 at*;have HS:=UX (UZ hs0 hg);have HG:=UX hg0;clear hs0 hg0 hg;obtain⟨A,m,c,hb,hr,rfl⟩:=HP.out;obtain⟨b,o,rfl,hbg,hrg, -⟩:=In hr;rw[List.length_cons]at hb hr;obtain⟨m,hm⟩:∃m,ts.length=m:=⟨_,rfl⟩;rw[hm]at hb hr;have c0:w1.cell? ⟨g,0,none⟩=some (.slice (some ⟨b,o,none⟩) (m+1) c):=hb.cell 0;have HR:=UX (UZ hr hm);have HRG:=UX hrg;have HB:=UX hb;have HB0:=UX hb0;clear hr hm hb hb0 hrg;go_upto_region 2 with(first|(refine lM (.tmp 8) HRG.out rK ?_)|(refine sN (.tmp 3) (.tmp 9) t.cells (Ux w1 131 _) rK ?_ (us:=[.int .i64 0,.string ⟨#[]⟩,.int .i64 0,.int .i64 0]);intro w2 hb2 k2 d2;have HG2:=UX (show A5 w1 w2 from Uw ((Uv w1).alloc _) k2 (fun i hi e=>by omega));clear k2 d2)|fail);have hb3:=HB.out.grew HG2.out;have c0':w2.cell? ⟨g,0,none⟩=some (.slice (some ⟨b,o,none⟩) (m+1) c):=hb3.cell 0;have f0:=hb3.frozen 0;have hr2:Bs w2 g 4 (.slice (some ⟨b,o,none⟩) (m+1) c) ((t::ts).map Bw.cells):=HR.out.1.keep (Nat.le_of_lt HB.out.lt) (Ua _) HG2.out (fun _ _ h=>h);have HR2:=UX hr2;have HB2:=UX hb2;have HB3:=UX hb3;clear c0 hr2 hb3;go_upto_region 3 with(first|((with_reducible refine PR 87 (.tmp 14) _ rfl ?_);refine Oj Ty rfl (.tmp 14) (.const (.int .i64 1)) rfl rfl (k:=1) rfl (by omega) HR2.out ?_;intro A7 m7 c7 hm7 r7;have HR7:=UX r7;have HM7:=UX (show m7=ts.length from by rw[HR.out.2];omega);clear r7 hm7));have hb4:=HB3.out.set_ 0 (.slice A7 m7 c7);have k4:A4 (fun i=>i=g) w2 (w2.setCell ⟨g,0,none⟩ (.slice A7 m7 c7)):=V0 (S:=fun i=>i=g) (p:=⟨g,0,none⟩) (Uz _ w2) (.inl rfl) _;have hz:=HB2.out.far (p:=⟨g,0,none⟩) (by have:=HS.out;show w1.heap.size≠g;omega) (.slice A7 m7 c7);have hr4:Bs (w2.setCell ⟨g,0,none⟩ (.slice A7 m7 c7)) g 4 (.slice A7 m7 c7) (ts.map Bw.cells):=by
  have h7:=HR7.out;rw[List.map_cons,List.drop_succ_cons,List.drop_zero]at h7;exact h7.keep (Nat.le_of_lt HB3.out.lt) (Ua _) k4 (fun i hi e=>by omega)
 have hr0:=(HB0.out.grew HG2.out).far (p:=⟨g,0,none⟩) (by have:=HS.out;show w.heap.size≠g;omega) (.slice A7 m7 c7);have HP4:=UX (show Cu (w2.setCell ⟨g,0,none⟩ (.slice A7 m7 c7)) g n ts from⟨A7,m7,c7,hb4,hr4,HM7.out⟩);have HK4:=UX (show A4 (fun i=>i=g) w (w2.setCell ⟨g,0,none⟩ (.slice A7 m7 c7))from Uw (HG.out.trans HG2.out).keeps k4 (fun i _ h=>h));clear hb4 k4 hr4 c0' f0;generalize w2.setCell ⟨g,0,none⟩ (.slice A7 m7 c7)=w4 at*;go_wp2_with(first|(refine lN (.tmp 3) hz rK ?_)|(refine sN (.tmp 2) (.tmp 18) t.cells hr0 rK ?_;intro w8 hb8 k8 d8)|fail);refine rO rK hb8 ?_;have hS:=HS.out;exact⟨rfl,HP4.out.keep k8 (fun i hi e=>by omega),Uw HK4.out k8 fun b hb e=>by omega⟩
end Go.Proofs.YtkclnhpofkaclaaGreatDoor
