/- What the card of the law stands on: ParPl, LexA, LexB, Slc. -/
import Derived.Test.YtcimmbhdcebehaaGreatDoorRewriteNumbersP01
import Derived.Test.YtcimmbhdcebehaaGreatDoorRewriteNumbersP04
import Derived.Test.YtcimmbhdcebehaaGreatDoorRewriteNumbersP02
import Derived.StillTailTactics
import Derived.Deep.CutBlock
import Derived.Deep.Slices
set_option maxRecDepth 100000
set_option maxHeartbeats 12800000
set_option linter.unusedVariables false
set_option linter.unusedSimpArgs false
namespace Go.Proofs.YtcimmbhdcebehaaGreatDoor
open Go.RowKit
def opL:List ByteArray:=[⟨#[43]⟩,⟨#[45]⟩,⟨#[42]⟩,⟨#[47]⟩]
def opS (f:Nat):ByteArray:=opL[f]?.getD ⟨#[]⟩
def funL:List ByteArray:=["last".toUTF8,"least".toUTF8,"greatest".toUTF8,"total".toUTF8,"mean".toUTF8,"increase".toUTF8,"rate".toUTF8,"kth".toUTF8]
def isT (ts:List Tok) (k:Nat) (s:ByteArray):Bool:=
 match ts with
 |[]=>false
 |t::_=>decide (t.kind=k)&&(t.text.toList==s.toList)
def kindT (ts:List Tok) (k:Nat):Bool:=
 match ts with
 |[]=>false
 |t::_=>decide (t.kind=k)
def funP (ts:List Tok):Option (Nat×Nat×List Tok):=
 match ts with
 |[]=>none
 |t::ts=>
  if t.kind=0 then
   match funL.findIdx? fun a=>a.toList==t.text.toList with
   |none=>none
   |some f=>
    if f=0 then some (0,0,ts)
    else if f=7 then none
    else if isT ts 3 ⟨#[40]⟩then
     match ts.tail with
     |[]=>none
     |n::us=>if n.kind=1∧1≤n.num∧n.num≤4096∧isT us 3 ⟨#[41]⟩=true then some (f,n.num,us.tail)else none
    else none
  else none
def selE (f wd:Nat) (name:ByteArray):Ex:= .mk 1 f wd 0 0 0 0 name [] [] []
def selP (name:ByteArray) (ts:List Tok):Option (Ex×List Tok):=
 if isT ts 3 ⟨#[123]⟩then none
 else if isT ts 3 ⟨#[46]⟩then
  match funP ts.tail with
  |none=>none
  |some (f,wd,us)=>if isT us 3 ⟨#[64]⟩then none else some (selE f wd name,us)
 else if isT ts 3 ⟨#[64]⟩then none
 else some (selE 0 0 name,ts)
mutual
def parP:Nat→Nat→List Tok→Option (Ex×List Tok)
 |0,_,_=>none
 |k+1,0,ts=>
  match parP k 1 ts with
  |none=>none
  |some (e,us)=>lopP k 0 e us
 |k+1,1,ts=>
  match parP k 2 ts with
  |none=>none
  |some (e,us)=>lopP k 1 e us
 |k+1,_+2,ts=>
  match ts with
  |[]=>none
  |t::us=>
   if t.kind=1 then some (numE t.num 1,us)
   else if isT (t::us) 3 ⟨#[40]⟩then
    match parP k 0 us with
    |none=>none
    |some (e,vs)=>if isT vs 3 ⟨#[41]⟩then some (e,vs.tail)else none
   else if t.kind=0 then(if hasB groupL t.text then none else selP t.text us)
   else none
def lopP:Nat→Nat→Ex→List Tok→Option (Ex×List Tok)
 |0,_,_,_=>none
 |k+1,l,e,ts=>
  if isT ts 3 (opS (2*l))then
   match parP k (l+1) ts.tail with
   |none=>none
   |some (r,us)=>lopP k l (binE ((2*l:Nat):Int) e r) us
  else if isT ts 3 (opS (2*l+1))then
   match parP k (l+1) ts.tail with
   |none=>none
   |some (r,us)=>lopP k l (binE ((2*l+1:Nat):Int) e r) us
  else some (e,ts)
end
theorem funP_len {ts us:List Tok} {f wd:Nat} (h:funP ts=some (f,wd,us)):us.length≤ts.length:=by
 unfold funP at h;split at h
 ·cases h
 split at h
 ·split at h
  ·cases h
  split at h
  ·simp only[Option.some.injEq,Prod.mk.injEq]at h;obtain⟨-, -,rfl⟩:=h;simp
  split at h
  ·cases h
  split at h
  ·split at h
   ·cases h
   ·rename_i n us' hts
    have h1:=congrArg List.length hts;split at h
    ·simp only[Option.some.injEq,Prod.mk.injEq]at h;obtain⟨-, -,rfl⟩:=h;simp at h1 ⊢;omega
    cases h
  cases h
 cases h
theorem selP_len {name:ByteArray} {ts us:List Tok} {e:Ex} (h:selP name ts=some (e,us)):us.length≤ts.length:=by
 unfold selP at h;split at h
 ·cases h
 split at h
 ·split at h
  ·cases h
  ·rename_i hf
   split at h
   ·cases h
   simp only[Option.some.injEq,Prod.mk.injEq]at h;obtain⟨-,rfl⟩:=h;have:=funP_len hf;rw[List.length_tail]at this;omega
 split at h
 ·cases h
 simp only[Option.some.injEq,Prod.mk.injEq]at h;obtain⟨-,rfl⟩:=h;exact Nat.le_refl _
theorem parP_fac (k l:Nat) (ts:List Tok):parP (k+1) (l+2) ts=match ts with
  |[]=>none
  |t::us=>
   if t.kind=1 then some (numE t.num 1,us)
   else if isT (t::us) 3 ⟨#[40]⟩then
    match parP k 0 us with
    |none=>none
    |some (e,vs)=>if isT vs 3 ⟨#[41]⟩then some (e,vs.tail)else none
   else if t.kind=0 then(if hasB groupL t.text then none else selP t.text us)
   else none:=by
 rw[parP.eq_def]
theorem par_lens:∀k,(∀l ts e us,parP k l ts=some (e,us)→us.length<ts.length)∧(∀l e0 ts e us,lopP k l e0 ts=some (e,us)→us.length≤ts.length)
 |0=>⟨fun l ts e us h=>(by rw[parP]at h;cases h),fun l e0 ts e us h=>(by rw[lopP]at h;cases h)⟩
 |k+1=>by
  obtain⟨hp,hl⟩:=par_lens k;refine⟨fun l ts e us h=>?_,fun l e0 ts e us h=>?_⟩
  ·rcases l with _|_|l
   ·rw[parP]at h;split at h
    ·cases h
    ·rename_i h1
     have:=hp _ _ _ _ h1;have:=hl _ _ _ _ _ h;omega
   ·rw[parP]at h;split at h
    ·cases h
    ·rename_i h1
     have:=hp _ _ _ _ h1;have:=hl _ _ _ _ _ h;omega
   change parP (k+1) (l+2) ts=some (e,us)at h;rw[parP_fac]at h;split at h
   ·cases h
   split at h
   ·simp only[Option.some.injEq,Prod.mk.injEq]at h;obtain⟨-,rfl⟩:=h;simp
   split at h
   ·split at h
    ·cases h
    ·rename_i h1
     split at h
     ·simp only[Option.some.injEq,Prod.mk.injEq]at h;obtain⟨-,rfl⟩:=h;have:=hp _ _ _ _ h1;simp;omega
     cases h
   split at h
   ·split at h
    ·cases h
    have:=selP_len h;simp;omega
   cases h
  rw[lopP]at h;split at h
  ·split at h
   ·cases h
   ·rename_i h1
    have:=hp _ _ _ _ h1;have:=hl _ _ _ _ _ h;rw[List.length_tail]at*;omega
  split at h
  ·split at h
   ·cases h
   ·rename_i h1
    have:=hp _ _ _ _ h1;have:=hl _ _ _ _ _ h;rw[List.length_tail]at*;omega
  simp only[Option.some.injEq,Prod.mk.injEq]at h;obtain⟨-,rfl⟩:=h;exact Nat.le_refl _
theorem par_less {k l:Nat} {ts us:List Tok} {e:Ex} (h:parP k l ts=some (e,us)):us.length<ts.length:=(par_lens k).1 _ _ _ _ h
def parseP (s:ByteArray):Option Ex:=
 match lexF s 2001 0 with
 |none=>none
 |some ts=>match parP (4*ts.length+4) 0 ts with
  |some (e,[])=>some e
  |_=>none
end Go.Proofs.YtcimmbhdcebehaaGreatDoor
namespace Go.Proofs.YtcimmbhdcebehaaGreatDoor
open Go.RowKit Pl
theorem lletter_any (b:Nat) (w:World):Calls Tryz.prog 72 #[.int .u8 b] w fun e w'=>e= .returned (.bool (letC b))∧w'=w:=by
 go_enter Tryz.func72,Tryz.ntmps72;by_cases h1:97≤b
 ·have t1:decide ((97:Int)≤(b:Int))=true:=by simp;omega
  by_cases h2:b≤122
  ·have t2:decide ((b:Int)≤122)=true:=by simp;omega
   have HF:=Lib.hid (show letC b=true by unfold letC;simp;omega);clear h1 h2;go_wp2_with fail;go_ret;exact⟨by rw[HF.out];rfl,rfl⟩
  have t2:decide ((b:Int)≤122)=false:=by simp;omega
  have HF:=Lib.hid (show letC b=false by unfold letC;simp;omega);clear h1 h2;go_wp2_with fail;go_ret;exact⟨by rw[HF.out];rfl,rfl⟩
 have t1:decide ((97:Int)≤(b:Int))=false:=by simp;omega
 have HF:=Lib.hid (show letC b=false by unfold letC;simp;omega);clear h1;go_wp2_with fail;go_ret;exact⟨by rw[HF.out];rfl,rfl⟩
theorem ldigit_any (b:Nat) (w:World):Calls Tryz.prog 74 #[.int .u8 b] w fun e w'=>e= .returned (.bool (digC b))∧w'=w:=by
 go_enter Tryz.func74,Tryz.ntmps74;by_cases h1:48≤b
 ·have t1:decide ((48:Int)≤(b:Int))=true:=by simp;omega
  by_cases h2:b≤57
  ·have t2:decide ((b:Int)≤57)=true:=by simp;omega
   have HF:=Lib.hid (show digC b=true by unfold digC;simp;omega);clear h1 h2;go_wp2_with fail;go_ret;exact⟨by rw[HF.out];rfl,rfl⟩
  have t2:decide ((b:Int)≤57)=false:=by simp;omega
  have HF:=Lib.hid (show digC b=false by unfold digC;simp;omega);clear h1 h2;go_wp2_with fail;go_ret;exact⟨by rw[HF.out];rfl,rfl⟩
 have t1:decide ((48:Int)≤(b:Int))=false:=by simp;omega
 have HF:=Lib.hid (show digC b=false by unfold digC;simp;omega);clear h1;go_wp2_with fail;go_ret;exact⟨by rw[HF.out];rfl,rfl⟩
theorem lword1_any (b:Nat) (w:World):Calls Tryz.prog 96 #[.int .u8 b] w fun e w'=>e= .returned (.bool (wrdC b))∧w'=w:=by
 have HL:=Lib.hid (lletter_any b w);have HD:=Lib.hid (ldigit_any b w);go_enter Tryz.func96,Tryz.ntmps96;rcases hl:letC b
 ·rw[hl]at HL;rcases hd:digC b
  ·rw[hd]at HD;by_cases h9:b=95
   ·have t1:((b:Int)==95)=true:=by rw[beq_iff_eq];omega
    have HF:=Lib.hid (show wrdC b=true by unfold wrdC;rw[hl,hd,h9];rfl);clear hl hd h9;go_wp2_with(first|(go_at_call 72;refine HL.out.mono ?_;rintro e3 w3 ⟨rfl,rfl⟩)|(go_at_call 74;refine HD.out.mono ?_;rintro e3 w3 ⟨rfl,rfl⟩));go_ret;exact⟨by rw[HF.out];rfl,rfl⟩
   have t1:((b:Int)==95)=false:=by rw[beq_eq_false_iff_ne];omega
   have HF:=Lib.hid (show wrdC b=false by unfold wrdC;rw[hl,hd];simpa using h9);clear hl hd h9;go_wp2_with(first|(go_at_call 72;refine HL.out.mono ?_;rintro e3 w3 ⟨rfl,rfl⟩)|(go_at_call 74;refine HD.out.mono ?_;rintro e3 w3 ⟨rfl,rfl⟩));go_ret;exact⟨by rw[HF.out];rfl,rfl⟩
  rw[hd]at HD;have HF:=Lib.hid (show wrdC b=true by unfold wrdC;rw[hl,hd];rfl);clear hl hd;go_wp2_with(first|(go_at_call 72;refine HL.out.mono ?_;rintro e3 w3 ⟨rfl,rfl⟩)|(go_at_call 74;refine HD.out.mono ?_;rintro e3 w3 ⟨rfl,rfl⟩));go_ret;exact⟨by rw[HF.out];rfl,rfl⟩
 rw[hl]at HL;have HF:=Lib.hid (show wrdC b=true by unfold wrdC;rw[hl];rfl);clear hl;go_wp2_with(first|(go_at_call 72;refine HL.out.mono ?_;rintro e3 w3 ⟨rfl,rfl⟩)|(go_at_call 74;refine HD.out.mono ?_;rintro e3 w3 ⟨rfl,rfl⟩));go_ret;exact⟨by rw[HF.out];rfl,rfl⟩
def Src6 (w:World) (g:Nat) (s:ByteArray) (i:Nat) (e:Int):Prop:=Box w g 92 #[.string s,.int .i64 (i:Nat),.int .i64 e]
theorem runW_any (w:World) (g:Nat) (s:ByteArray) (i0 i:Nat) (e0:Int) (h:Src6 w g s i0 e0) (hi:i≤s.size) (hs:s.size≤1000000):
  Calls Tryz.prog 95 #[.pointer (some ⟨g,0,none⟩),.int .i64 (i:Nat),.func (.func 96) #[] #[]] w fun e w'=>e= .returned (.int .i64 (runE s wrdC (s.size-i) i:Nat))∧w'=w:=by
 have c0:w.cell? ⟨g,0,none⟩=some (.string s):=h.cell 0;clear h;obtain⟨r,hr⟩:∃r,runE s wrdC (s.size-i) i=r:=⟨_,rfl⟩;rw[hr];go_enter Tryz.func95,Tryz.ntmps95;go_upto_region 1 with fail;have HR:=Lib.hid hr;clear hr;go_loopw [1] (fun s1 wr=>∃(p:Nat),s1= .int .i64 (p:Nat)∧p≤s.size∧w=wr∧runE s wrdC (s.size-p) p=r) (fun s1 _=>s.size-(intOf s1).toNat)
 case atStart=>exact⟨i,rfl,hi,rfl,HR.out⟩
 case round=>
  obtain⟨p,rfl,hp,rfl,hinv⟩:=hrel;have HI:=Lib.hid hinv;clear hinv hi;by_cases hlt:p<s.size
  ·obtain⟨b,hbe⟩:∃b,(s[p]'hlt).toNat=b:=⟨_,rfl⟩;have HC:=Lib.hid (lword1_any b w);have LP:=hlt;have tl:decide ((p:Int)<(s.size:Int))=true:=by simp;omega
   have hch:=chr_eq hlt hbe;rcases hb:wrdC b
   ·have HS:=Lib.hid (show runE s wrdC (s.size-p) p=p from runE_stop (fun hc=>by rw[hch,hb]at hc;cases hc.2));rw[hb]at HC;clear hch hb;go_wp2_with(go_at_call 96;refine HC.out.mono ?_;rintro e3 w3 ⟨rfl,rfl⟩);go_ret;exact⟨by rw[←HI.out,HS.out];rfl,rfl⟩
   have HS:=Lib.hid (show runE s wrdC (s.size-p) p=runE s wrdC (s.size-(p+1)) (p+1)from runE_step hlt (by rw[hch];exact hb));rw[hb]at HC;clear hch hb;go_wp2_with(go_at_call 96;refine HC.out.mono ?_;rintro e3 w3 ⟨rfl,rfl⟩);go_roundw
   case rel=>exact⟨p+1,by go_num,by omega,by simp,by rw[←HS.out];exact HI.out⟩
   case measure=>simp[intOf];omega
  have tl:decide ((p:Int)<(s.size:Int))=false:=by simp;omega
  have HS:=Lib.hid (show runE s wrdC (s.size-p) p=p from runE_stop (fun hc=>hlt hc.1));go_wp2_with fail;go_ret;exact⟨by rw[←HI.out,HS.out];rfl,rfl⟩
theorem runD_any (w:World) (g:Nat) (s:ByteArray) (i0 i:Nat) (e0:Int) (h:Src6 w g s i0 e0) (hi:i≤s.size) (hs:s.size≤1000000):
  Calls Tryz.prog 95 #[.pointer (some ⟨g,0,none⟩),.int .i64 (i:Nat),.func (.func 74) #[] #[]] w fun e w'=>e= .returned (.int .i64 (runE s digC (s.size-i) i:Nat))∧w'=w:=by
 have c0:w.cell? ⟨g,0,none⟩=some (.string s):=h.cell 0;clear h;obtain⟨r,hr⟩:∃r,runE s digC (s.size-i) i=r:=⟨_,rfl⟩;rw[hr];go_enter Tryz.func95,Tryz.ntmps95;go_upto_region 1 with fail;have HR:=Lib.hid hr;clear hr;go_loopw [1] (fun s1 wr=>∃(p:Nat),s1= .int .i64 (p:Nat)∧p≤s.size∧w=wr∧runE s digC (s.size-p) p=r) (fun s1 _=>s.size-(intOf s1).toNat)
 case atStart=>exact⟨i,rfl,hi,rfl,HR.out⟩
 case round=>
  obtain⟨p,rfl,hp,rfl,hinv⟩:=hrel;have HI:=Lib.hid hinv;clear hinv hi;by_cases hlt:p<s.size
  ·obtain⟨b,hbe⟩:∃b,(s[p]'hlt).toNat=b:=⟨_,rfl⟩;have HC:=Lib.hid (ldigit_any b w);have LP:=hlt;have tl:decide ((p:Int)<(s.size:Int))=true:=by simp;omega
   have hch:=chr_eq hlt hbe;rcases hb:digC b
   ·have HS:=Lib.hid (show runE s digC (s.size-p) p=p from runE_stop (fun hc=>by rw[hch,hb]at hc;cases hc.2));rw[hb]at HC;clear hch hb;go_wp2_with(go_at_call 74;refine HC.out.mono ?_;rintro e3 w3 ⟨rfl,rfl⟩);go_ret;exact⟨by rw[←HI.out,HS.out];rfl,rfl⟩
   have HS:=Lib.hid (show runE s digC (s.size-p) p=runE s digC (s.size-(p+1)) (p+1)from runE_step hlt (by rw[hch];exact hb));rw[hb]at HC;clear hch hb;go_wp2_with(go_at_call 74;refine HC.out.mono ?_;rintro e3 w3 ⟨rfl,rfl⟩);go_roundw
   case rel=>exact⟨p+1,by go_num,by omega,by simp,by rw[←HS.out];exact HI.out⟩
   case measure=>simp[intOf];omega
  have tl:decide ((p:Int)<(s.size:Int))=false:=by simp;omega
  have HS:=Lib.hid (show runE s digC (s.size-p) p=p from runE_stop (fun hc=>hlt hc.1));go_wp2_with fail;go_ret;exact⟨by rw[←HI.out,HS.out];rfl,rfl⟩
theorem infoK:(Tryz.prog.info? 95).map (·.size)=some 4:=by kernel_rfl
theorem tok_ones (a c d:Int) (b:ByteArray):∀v∈([.int .i64 a,.string b,.int .i64 c,.int .i64 d]:List Value),v.oneCell'=true:=by
 intro v hv;simp at hv;rcases hv with rfl|rfl|rfl|rfl<;>rfl
theorem Src6.grew {w w':World} {g:Nat} {s:ByteArray} {i:Nat} {e:Int} (h:Src6 w g s i e) (k:Grew w w'):Src6 w' g s i e:=Box.grew h k
def TokPost (t:Tok) (w:World) (e:Ending) (w':World):Prop:=e= .returned (.agg t.cells.toArray)∧Grew w w'
theorem word_any (w:World) (g:Nat) (s:ByteArray) (i:Nat) (h:Src6 w g s i 0) (hi:i≤s.size) (hs:s.size≤1000000) (hl:runE s wrdC (s.size-i) i-i≤16):
  Calls Tryz.prog 73 #[.pointer (some ⟨g,0,none⟩)] w (TokPost ⟨0,s.extract i (runE s wrdC (s.size-i) i),0,i⟩ w):=by
 have hle:=runE_le (s:=s) (p:=wrdC) (s.size-i) i hi;have HRun:=fun w1 hh=>runW_any w1 g s i i 0 hh hi hs
 obtain⟨r,hr⟩:∃r,runE s wrdC (s.size-i) i=r:=⟨_,rfl⟩;rw[hr]at hle hl HRun ⊢;have HR:=Lib.hid (show ∀w1,Src6 w1 g s i 0→Calls Tryz.prog 95 #[.pointer (some ⟨g,0,none⟩),.int .i64 (i:Nat),.func (.func 96) #[] #[]] w1 fun e w'=>e= .returned (.int .i64 (r:Nat))∧w'=w1 from HRun);clear HRun hr;have c0:w.cell? ⟨g,0,none⟩=some (.string s):=h.cell 0;have hbr:=Box.new w 95 [.int .i64 0,.string ⟨#[]⟩,.int .i64 0,.int .i64 0].toArray;have hg1:=(Grew.refl w).alloc (.cells [.int .i64 0,.string ⟨#[]⟩,.int .i64 0,.int .i64 0].toArray 95);have HSR:=Lib.hid h;go_enter Tryz.func73,Tryz.ntmps73;go_upto_region 1 with fail;change Code.wp _ _ _ _ (w.alloc (.cells [.int .i64 0,.string ⟨#[]⟩,.int .i64 0,.int .i64 0].toArray 95));clear c0;generalize w.alloc (.cells [.int .i64 0,.string ⟨#[]⟩,.int .i64 0,.int .i64 0].toArray 95)=w1 at*;have HG:=Lib.hid hg1;have HB:=Lib.hid hbr;have hsr:=h.grew HG.out;have c0:w1.cell? ⟨g,0,none⟩=some (.string s):=hsr.cell 0;have c1:w1.cell? ⟨g,1,none⟩=some (.int .i64 (i:Nat)):=hsr.cell 1;have HSR1:=Lib.hid hsr;clear hg1 hbr h hsr;have t1:decide ((r:Int)-(i:Int)>16)=false:=by simp;omega
 go_upto_region 4 with(go_at_call 95;refine(HR.out _ HSR1.out).mono ?_;rintro e3 w1 ⟨rfl,rfl⟩);obtain⟨hz1,hz2⟩:(i:Int)≤(r:Int)∧(r:Int)≤(s.size:Int):=by omega
 refine wp_region_still_tail 15 (by kernel_rfl) (by kernel_rfl) ?_;simp only[List.take_succ_cons,List.take_zero,List.drop_succ_cons,List.drop_zero]
 repeat still_step
 refine wpStill_nil ?_;change wpList _ _ _ _ _ w1.drew;go_wp2_with(((with_reducible refine at_store 95 (.tmp 2) (.tmp 34) rfl ?_);refine stN 95 (.tmp 2) (.tmp 34) (w.heap.size) [.int .i64 0,.string (s.extract i r),.int .i64 0,.int .i64 (i:Nat)] [.int .i64 0,.string ⟨#[]⟩,.int .i64 0,.int .i64 0] 95 infoK rfl (tok_ones _ _ _ _) rfl rfl rfl rfl (HB.out.drew) ?_;intro w8 hb8 k8 d8));refine bodyPost_ret (results_one rfl rfl infoK Tryz.underlying95 rfl hb8) rfl ?_;exact⟨rfl,Keeps.then_ (Keeps.drew HG.out) k8 fun b hb e=>by omega⟩
theorem number_any (w:World) (g:Nat) (s:ByteArray) (i:Nat) (h:Src6 w g s i 0) (hi:i≤s.size) (hs:s.size≤1000000) (hl:numV s i (runE s digC (s.size-i) i-i)≤1073741824):
  Calls Tryz.prog 75 #[.pointer (some ⟨g,0,none⟩)] w (TokPost ⟨1,s.extract i (runE s digC (s.size-i) i),numV s i (runE s digC (s.size-i) i-i),i⟩ w):=by
 have hle:=runE_le (s:=s) (p:=digC) (s.size-i) i hi;have HRun:=fun w1 hh=>runD_any w1 g s i i 0 hh hi hs
 have hall:=runE_all (s:=s) (p:=digC) (s.size-i) i;obtain⟨r,hr⟩:∃r,runE s digC (s.size-i) i=r:=⟨_,rfl⟩;rw[hr]at hle hl HRun hall ⊢;obtain⟨V,hV⟩:∃V,numV s i (r-i)=V:=⟨_,rfl⟩;rw[hV]at hl ⊢;have HALL:=Lib.hid hall;have HVV:=Lib.hid hV;have HR:=Lib.hid (show ∀w1,Src6 w1 g s i 0→Calls Tryz.prog 95 #[.pointer (some ⟨g,0,none⟩),.int .i64 (i:Nat),.func (.func 74) #[] #[]] w1 fun e w'=>e= .returned (.int .i64 (r:Nat))∧w'=w1 from HRun);clear HRun hr hall hV;have c0:w.cell? ⟨g,0,none⟩=some (.string s):=h.cell 0;have hbr:=Box.new w 95 [.int .i64 0,.string ⟨#[]⟩,.int .i64 0,.int .i64 0].toArray;have hg1:=(Grew.refl w).alloc (.cells [.int .i64 0,.string ⟨#[]⟩,.int .i64 0,.int .i64 0].toArray 95);have HSR:=Lib.hid h;go_enter Tryz.func75,Tryz.ntmps75;go_upto_region 1 with fail;change Code.wp _ _ _ _ (w.alloc (.cells [.int .i64 0,.string ⟨#[]⟩,.int .i64 0,.int .i64 0].toArray 95));clear c0;generalize w.alloc (.cells [.int .i64 0,.string ⟨#[]⟩,.int .i64 0,.int .i64 0].toArray 95)=w1 at*;have HG:=Lib.hid hg1;have HB:=Lib.hid hbr;have hsr:=h.grew HG.out;have c0:w1.cell? ⟨g,0,none⟩=some (.string s):=hsr.cell 0;have c1:w1.cell? ⟨g,1,none⟩=some (.int .i64 (i:Nat)):=hsr.cell 1;have HSR1:=Lib.hid hsr;clear hg1 hbr h hsr;go_upto_region 4 with(go_at_call 95;refine(HR.out _ HSR1.out).mono ?_;rintro e3 w1 ⟨rfl,rfl⟩);go_loopw [4,5] (fun s4 s5 wr=>∃(p n:Nat),s5= .int .i64 (p:Nat)∧s4= .int .i64 (n:Nat)∧i≤p∧p≤r∧n=numV s i (p-i)∧n≤1073741824∧w1=wr) (fun _ s5 _=>r-(intOf s5).toNat)
 case atStart=>exact⟨i,0,rfl,rfl,Nat.le_refl _,by omega,by rw[Nat.sub_self];rfl,by omega,rfl⟩
 case round=>
  obtain⟨p,n,rfl,rfl,hip,hpr,hn,hn2,rfl⟩:=hrel;have HN:=Lib.hid hn;clear hn;have t2:decide ((n:Int)≤1073741824)=true:=by simp;omega
  by_cases hlt:p<r
  ·have t1:decide ((p:Int)<(r:Int))=true:=by simp;omega
   obtain⟨hps,hpd⟩:=HALL.out p hip hlt;have LP:=hps;obtain⟨b,hbe⟩:∃b,(s[p]'hps).toNat=b:=⟨_,rfl⟩;have hch:=chr_eq hps hbe;have hb2:48≤b∧b≤57:=by rw[hch]at hpd;unfold digC at hpd;simpa using hpd
   have HNX:=Lib.hid (show n*10+(b-48)=numV s i (p+1-i)from by rw[show p+1-i=(p-i)+1 by omega,show numV s i (p-i+1)=numV s i (p-i)*10+(chr s (i+(p-i))-48)from rfl,←HN.out,show i+(p-i)=p by omega,hch]);have HNB:=Lib.hid (show n*10+(b-48)≤1073741824 from by rw[HNX.out];exact Nat.le_trans (numV_mono s i (p+1-i) (r-i) (by omega)) (by rw[HVV.out];exact hl));have hw1:IntKind.u8.wrap ((b:Int)-48)=((b-48:Nat):Int):=by unfold IntKind.wrap;simp[IntKind.bits,IntKind.signed];omega
   obtain⟨b8,hb8⟩:∃x,b-48=x:=⟨_,rfl⟩;rw[hb8]at hw1 HNX HNB;have hb89:b8≤9:=by omega
   clear hch hpd hb2 hb8;go_wp2_with fail;go_roundw
   case rel=>exact⟨p+1,n*10+b8,by go_num,by go_num,by omega,by omega,HNX.out,HNB.out,by simp⟩
   case measure=>simp[intOf];omega
  have t1:decide ((p:Int)<(r:Int))=false:=by simp;omega
  have HE:=Lib.hid (show n=V from by rw[HN.out,show p=r by omega,HVV.out]);have t3:decide ((n:Int)>1073741824)=false:=by simp;omega
  obtain⟨hz1,hz2⟩:(i:Int)≤(r:Int)∧(r:Int)≤(s.size:Int):=by omega
  go_upto_region 9 with fail;refine wp_region_still_tail 16 (by kernel_rfl) (by kernel_rfl) ?_;simp only[List.take_succ_cons,List.take_zero,List.drop_succ_cons,List.drop_zero]
  repeat still_step
  refine wpStill_nil ?_;change wpList _ _ _ _ _ w1.drew;go_wp2_with(((with_reducible refine at_store 95 (.tmp 2) (.tmp 56) rfl ?_);refine stN 95 (.tmp 2) (.tmp 56) (w.heap.size) [.int .i64 1,.string (s.extract i r),.int .i64 (n:Nat),.int .i64 (i:Nat)] [.int .i64 0,.string ⟨#[]⟩,.int .i64 0,.int .i64 0] 95 infoK rfl (tok_ones _ _ _ _) rfl rfl rfl rfl (HB.out.drew) ?_;intro w8 hb8 k8 d8));refine bodyPost_ret (results_one rfl rfl infoK Tryz.underlying95 rfl hb8) rfl ?_;exact⟨by rw[HE.out];rfl,Keeps.then_ (Keeps.drew HG.out) k8 fun b hb e=>by omega⟩
theorem symLen_one {s:ByteArray} {i b:Nat} (hb:chr s i=b) (h:symLen s i≠0):(symLen s i=1∧(b=43∨b=45∨b=42∨b=47∨b=40∨b=41∨b=123∨b=125∨b=44∨b=46∨b=64∨b=61))∨(symLen s i=2∧(b=33∨b=94)∧i+1<s.size∧chr s (i+1)=61):=by
 unfold symLen at h ⊢;rw[hb]at h ⊢;by_cases h1:[43,45,42,47,40,41,123,125,44,46,64,61].contains b=true
 ·rw[if_pos h1];left;refine⟨rfl,?_⟩;simpa using h1
 rw[if_neg h1]at h ⊢;by_cases h2:(b=33∨b=94)∧i+1<s.size∧chr s (i+1)=61
 ·rw[if_pos h2];exact .inr ⟨rfl,h2⟩
 rw[if_neg h2]at h;exact absurd rfl h
theorem symbol_any (w:World) (g:Nat) (s:ByteArray) (i:Nat) (h:Src6 w g s i 0) (hi:i<s.size) (hs:s.size≤1000000) (hl:symLen s i≠0):
  Calls Tryz.prog 77 #[.pointer (some ⟨g,0,none⟩)] w (TokPost ⟨3,s.extract i (i+symLen s i),0,i⟩ w):=by
 obtain⟨b,hbe⟩:∃b,(s[i]'hi).toNat=b:=⟨_,rfl⟩;have hch:=chr_eq hi hbe;have hcs:=symLen_one hch hl;obtain⟨L,hL⟩:∃L,symLen s i=L:=⟨_,rfl⟩;rw[hL]at hcs ⊢;obtain⟨j,hj⟩:∃j,i+L=j:=⟨_,rfl⟩;rw[hj];have HJ:=Lib.hid hj;clear hj;have LP:=hi;have hLb:(L=1∨L=2)∧i+L≤s.size:=by
  rcases hcs with⟨h1, -⟩|⟨h1, -,h2, -⟩<;>omega
 have HLb:=Lib.hid hLb;have HCS:=Lib.hid hcs;have hbu:b<256:=by rw[←hbe];exact(s[i]'hi).toNat_lt
 clear hch hcs hl hL hLb;have c0:w.cell? ⟨g,0,none⟩=some (.string s):=h.cell 0;have hbr:=Box.new w 95 [.int .i64 0,.string ⟨#[]⟩,.int .i64 0,.int .i64 0].toArray;have hg1:=(Grew.refl w).alloc (.cells [.int .i64 0,.string ⟨#[]⟩,.int .i64 0,.int .i64 0].toArray 95);have HSR:=Lib.hid h;go_enter Tryz.func77,Tryz.ntmps77;go_upto_region 1 with fail;change Code.wp _ _ _ _ (w.alloc (.cells [.int .i64 0,.string ⟨#[]⟩,.int .i64 0,.int .i64 0].toArray 95));clear c0;generalize w.alloc (.cells [.int .i64 0,.string ⟨#[]⟩,.int .i64 0,.int .i64 0].toArray 95)=w1 at*;have HG:=Lib.hid hg1;have HB:=Lib.hid hbr;have hsr:=h.grew HG.out;have c0:w1.cell? ⟨g,0,none⟩=some (.string s):=hsr.cell 0;have c1:w1.cell? ⟨g,1,none⟩=some (.int .i64 (i:Nat)):=hsr.cell 1;have HSR1:=Lib.hid hsr;clear hg1 hbr h hsr;go_upto_region 2 with fail;go_quiet (fail);have hg2:Grew w1 (w1.drewN nq):=Keeps.drewN (Grew.refl w1) nq;have HG:=Lib.hid (HG.out.trans hg2);have HB:=Lib.hid (HB.out.grew hg2);have HSR1:=Lib.hid (HSR1.out.grew hg2);clear c0 c1;generalize w1.drewN nq=w2 at*;clear hg2;have c0:w2.cell? ⟨g,0,none⟩=some (.string s):=HSR1.out.cell 0;have c1:w2.cell? ⟨g,1,none⟩=some (.int .i64 (i:Nat)):=HSR1.out.cell 1;go_upto_block 0 with fail;go_cut [3] (fun s3 wx=>s3= .int .i64 (L:Nat)∧Grew w2 wx)
 case first=>
  rcases HCS.out with⟨rfl,hb⟩|⟨rfl,hb,h1,h2⟩
  ·clear HCS;rcases hb with rfl|rfl|rfl|rfl|rfl|rfl|rfl|rfl|rfl|rfl|rfl|rfl<;>(go_wp2_with fail;go_meet;exact⟨rfl,Grew.refl _⟩)
  clear HCS;obtain⟨b2,hb2⟩:∃b,(s[i+1]'h1).toNat=b:=⟨_,rfl⟩;have h2:b2=61:=by rw[←h2];exact(chr_eq h1 hb2).symm
  subst h2;have t1:decide ((i:Int)+1<(s.size:Int))=true:=by simp;omega
  have LP2:=h1;have hi1:IntKind.i64.wrap ((i:Int)+1)=((i+1:Nat):Int):=by unfold IntKind.wrap;simp[IntKind.bits,IntKind.signed];omega
  rcases hb with rfl|rfl
  ·go_upto_region 18 with fail;go_quiet (fail);go_wp2_with fail;go_meet;exact⟨rfl,Keeps.drewN (Grew.refl w2) _⟩
  go_upto_region 18 with fail;go_quiet (fail);go_wp2_with fail;go_meet;exact⟨rfl,Keeps.drewN (Grew.refl w2) _⟩
 case rest=>
  obtain⟨rfl,hgx⟩:=hcut;have hLb:=HLb.out;have t0:((L:Int)==0)=false:=by rw[beq_eq_false_iff_ne];omega
  have HG:=Lib.hid (HG.out.trans hgx);have HB:=Lib.hid (HB.out.grew hgx);have HSR1:=Lib.hid (HSR1.out.grew hgx);clear c0 c1 hgx;have c0:wc.cell? ⟨g,0,none⟩=some (.string s):=HSR1.out.cell 0;have c1:wc.cell? ⟨g,1,none⟩=some (.int .i64 (i:Nat)):=HSR1.out.cell 1;have hj:=HJ.out;have hw1:IntKind.i64.wrap ((i:Int)+(L:Int))=((j:Nat):Int):=by rw[←hj];unfold IntKind.wrap;simp[IntKind.bits,IntKind.signed];omega
  obtain⟨hz1,hz2⟩:(i:Int)≤((j:Nat):Int)∧((j:Nat):Int)≤(s.size:Int):=by omega
  clear hj hLb;go_upto_region 22 with fail;refine wp_region_still_tail 20 (by kernel_rfl) (by kernel_rfl) ?_;simp only[List.take_succ_cons,List.take_zero,List.drop_succ_cons,List.drop_zero]
  repeat still_step
  refine wpStill_nil ?_;change wpList _ _ _ _ _ wc.drew;go_wp2_with(((with_reducible refine at_store 95 (.tmp 2) (.tmp 77) rfl ?_);refine stN 95 (.tmp 2) (.tmp 77) (w.heap.size) [.int .i64 3,.string (s.extract i j),.int .i64 0,.int .i64 (i:Nat)] [.int .i64 0,.string ⟨#[]⟩,.int .i64 0,.int .i64 0] 95 infoK rfl (tok_ones _ _ _ _) rfl rfl rfl rfl (HB.out.drew) ?_;intro w8 hb8 k8 d8));refine bodyPost_ret (results_one rfl rfl infoK Tryz.underlying95 rfl hb8) rfl ?_;exact⟨rfl,Keeps.then_ (Keeps.drew HG.out) k8 fun b hb e=>by omega⟩
end Go.Proofs.YtcimmbhdcebehaaGreatDoor
namespace Go.Proofs.YtcimmbhdcebehaaGreatDoor
open Go.RowKit
section
variable {P:Program} {t e:TypeId} {bytes:Nat} {z:Value} {w:World}
variable {B:Nat} {xs:List Value} {ops:Array Oper} {rest:List Oper} {o:Oper} {a:Act} {Q:Exit→Act→World→Prop}
end
end Go.Proofs.YtcimmbhdcebehaaGreatDoor
