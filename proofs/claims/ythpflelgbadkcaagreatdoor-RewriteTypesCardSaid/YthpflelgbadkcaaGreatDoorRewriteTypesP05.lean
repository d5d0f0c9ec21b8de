/- What the card of the law stands on: LexA, LexB, Slc, ParA. -/
import Derived.Test.YthpflelgbadkcaaGreatDoorRewriteTypesP01
import Derived.Test.YthpflelgbadkcaaGreatDoorRewriteTypesP04
import Derived.Test.YthpflelgbadkcaaGreatDoorRewriteTypesP02
import Derived.StillTailTactics
import Derived.Deep.CutBlock
import Derived.Deep.Slices
set_option maxRecDepth 100000
set_option maxHeartbeats 12800000
set_option linter.unusedVariables false
set_option linter.unusedSimpArgs false
namespace Go.Proofs.YthpflelgbadkcaaGreatDoor
open Go.RowKit Pl
theorem EO (b:Nat) (w:World):Calls Tryz.prog 137 #[.int .u8 b] w fun e w'=>e= .returned (.bool (GH b))∧w'=w:=by
 go_enter Tryz.func137,Tryz.ntmps137;by_cases h1:97≤b
 ·have t1:decide ((97:Int)≤(b:Int))=true:=by simp;omega
  by_cases h2:b≤122
  ·have t2:decide ((b:Int)≤122)=true:=by simp;omega
   have HF:=V3 (show GH b=true by unfold GH;simp;omega);clear h1 h2;go_wp2_with fail;go_ret;exact⟨by rw[HF.out];rfl,rfl⟩
  have t2:decide ((b:Int)≤122)=false:=by simp;omega
  have HF:=V3 (show GH b=false by unfold GH;simp;omega);clear h1 h2;go_wp2_with fail;go_ret;exact⟨by rw[HF.out];rfl,rfl⟩
 have t1:decide ((97:Int)≤(b:Int))=false:=by simp;omega
 have HF:=V3 (show GH b=false by unfold GH;simp;omega);clear h1;go_wp2_with fail;go_ret;exact⟨by rw[HF.out];rfl,rfl⟩
theorem F8 (b:Nat) (w:World):Calls Tryz.prog 139 #[.int .u8 b] w fun e w'=>e= .returned (.bool (C8 b))∧w'=w:=by
 go_enter Tryz.func139,Tryz.ntmps139;by_cases h1:48≤b
 ·have t1:decide ((48:Int)≤(b:Int))=true:=by simp;omega
  by_cases h2:b≤57
  ·have t2:decide ((b:Int)≤57)=true:=by simp;omega
   have HF:=V3 (show C8 b=true by unfold C8;simp;omega);clear h1 h2;go_wp2_with fail;go_ret;exact⟨by rw[HF.out];rfl,rfl⟩
  have t2:decide ((b:Int)≤57)=false:=by simp;omega
  have HF:=V3 (show C8 b=false by unfold C8;simp;omega);clear h1 h2;go_wp2_with fail;go_ret;exact⟨by rw[HF.out];rfl,rfl⟩
 have t1:decide ((48:Int)≤(b:Int))=false:=by simp;omega
 have HF:=V3 (show C8 b=false by unfold C8;simp;omega);clear h1;go_wp2_with fail;go_ret;exact⟨by rw[HF.out];rfl,rfl⟩
theorem NH (b:Nat) (w:World):Calls Tryz.prog 153 #[.int .u8 b] w fun e w'=>e= .returned (.bool (Ck b))∧w'=w:=by
 have HL:=V3 (EO b w);have HD:=V3 (F8 b w);go_enter Tryz.func153,Tryz.ntmps153;rcases hl:GH b
 ·rw[hl]at HL;rcases hd:C8 b
  ·rw[hd]at HD;by_cases h9:b=95
   ·have t1:((b:Int)==95)=true:=by rw[VC];omega
    have HF:=V3 (show Ck b=true by unfold Ck;rw[hl,hd,h9];rfl);clear hl hd h9;go_wp2_with(first|(go_at_call 137;refine HL.out.mono ?_;rintro e3 w3 ⟨rfl,rfl⟩)|(go_at_call 139;refine HD.out.mono ?_;rintro e3 w3 ⟨rfl,rfl⟩));go_ret;exact⟨by rw[HF.out];rfl,rfl⟩
   have t1:((b:Int)==95)=false:=by rw[V4];omega
   have HF:=V3 (show Ck b=false by unfold Ck;rw[hl,hd];simpa using h9);clear hl hd h9;go_wp2_with(first|(go_at_call 137;refine HL.out.mono ?_;rintro e3 w3 ⟨rfl,rfl⟩)|(go_at_call 139;refine HD.out.mono ?_;rintro e3 w3 ⟨rfl,rfl⟩));go_ret;exact⟨by rw[HF.out];rfl,rfl⟩
  rw[hd]at HD;have HF:=V3 (show Ck b=true by unfold Ck;rw[hl,hd];rfl);clear hl hd;go_wp2_with(first|(go_at_call 137;refine HL.out.mono ?_;rintro e3 w3 ⟨rfl,rfl⟩)|(go_at_call 139;refine HD.out.mono ?_;rintro e3 w3 ⟨rfl,rfl⟩));go_ret;exact⟨by rw[HF.out];rfl,rfl⟩
 rw[hl]at HL;have HF:=V3 (show Ck b=true by unfold Ck;rw[hl];rfl);clear hl;go_wp2_with(first|(go_at_call 137;refine HL.out.mono ?_;rintro e3 w3 ⟨rfl,rfl⟩)|(go_at_call 139;refine HD.out.mono ?_;rintro e3 w3 ⟨rfl,rfl⟩));go_ret;exact⟨by rw[HF.out];rfl,rfl⟩
def E1 (w:World) (g:Nat) (s:ByteArray) (i:Nat) (e:Int):Prop:=AR w g 181 #[.string s,.int .i64 (i:Nat),.int .i64 e]
theorem RO (w:World) (g:Nat) (s:ByteArray) (i0 i:Nat) (e0:Int) (h:E1 w g s i0 e0) (hi:i≤s.size) (hs:s.size≤1000000):
  Calls Tryz.prog 152 #[.pointer (some ⟨g,0,none⟩),.int .i64 (i:Nat),.func (.func 153) #[] #[]] w fun e w'=>e= .returned (.int .i64 (Bv s Ck (s.size-i) i:Nat))∧w'=w:=by
 have c0:w.cell? ⟨g,0,none⟩=some (.string s):=h.cell 0;clear h;obtain⟨r,hr⟩:∃r,Bv s Ck (s.size-i) i=r:=⟨_,rfl⟩;rw[hr];go_enter Tryz.func152,Tryz.ntmps152;go_upto_region 1 with fail;have HR:=V3 hr;clear hr;go_loopw [1] (fun s1 wr=>∃(p:Nat),s1= .int .i64 (p:Nat)∧p≤s.size∧w=wr∧Bv s Ck (s.size-p) p=r) (fun s1 _=>s.size-(intOf s1).toNat)
 case atStart=>exact⟨i,rfl,hi,rfl,HR.out⟩
 case round=>
  obtain⟨p,rfl,hp,rfl,hinv⟩:=hrel;have HI:=V3 hinv;clear hinv hi;by_cases hlt:p<s.size
  ·obtain⟨b,hbe⟩:∃b,(s[p]'hlt).toNat=b:=⟨_,rfl⟩;have HC:=V3 (NH b w);have LP:=hlt;have tl:decide ((p:Int)<(s.size:Int))=true:=by simp;omega
   have hch:=IA hlt hbe;rcases hb:Ck b
   ·have HS:=V3 (show Bv s Ck (s.size-p) p=p from GA (fun hc=>by rw[hch,hb]at hc;cases hc.2));rw[hb]at HC;clear hch hb;go_wp2_with(go_at_call 153;refine HC.out.mono ?_;rintro e3 w3 ⟨rfl,rfl⟩);go_ret;exact⟨by rw[←HI.out,HS.out];rfl,rfl⟩
   have HS:=V3 (show Bv s Ck (s.size-p) p=Bv s Ck (s.size-(p+1)) (p+1)from Hx hlt (by rw[hch];exact hb));rw[hb]at HC;clear hch hb;go_wp2_with(go_at_call 153;refine HC.out.mono ?_;rintro e3 w3 ⟨rfl,rfl⟩);go_roundw
   case rel=>exact⟨p+1,by go_num,by omega,by simp,by rw[←HS.out];exact HI.out⟩
   case measure=>simp[intOf];omega
  have tl:decide ((p:Int)<(s.size:Int))=false:=by simp;omega
  have HS:=V3 (show Bv s Ck (s.size-p) p=p from GA (fun hc=>hlt hc.1));go_wp2_with fail;go_ret;exact⟨by rw[←HI.out,HS.out];rfl,rfl⟩
theorem Qu (w:World) (g:Nat) (s:ByteArray) (i0 i:Nat) (e0:Int) (h:E1 w g s i0 e0) (hi:i≤s.size) (hs:s.size≤1000000):
  Calls Tryz.prog 152 #[.pointer (some ⟨g,0,none⟩),.int .i64 (i:Nat),.func (.func 139) #[] #[]] w fun e w'=>e= .returned (.int .i64 (Bv s C8 (s.size-i) i:Nat))∧w'=w:=by
 have c0:w.cell? ⟨g,0,none⟩=some (.string s):=h.cell 0;clear h;obtain⟨r,hr⟩:∃r,Bv s C8 (s.size-i) i=r:=⟨_,rfl⟩;rw[hr];go_enter Tryz.func152,Tryz.ntmps152;go_upto_region 1 with fail;have HR:=V3 hr;clear hr;go_loopw [1] (fun s1 wr=>∃(p:Nat),s1= .int .i64 (p:Nat)∧p≤s.size∧w=wr∧Bv s C8 (s.size-p) p=r) (fun s1 _=>s.size-(intOf s1).toNat)
 case atStart=>exact⟨i,rfl,hi,rfl,HR.out⟩
 case round=>
  obtain⟨p,rfl,hp,rfl,hinv⟩:=hrel;have HI:=V3 hinv;clear hinv hi;by_cases hlt:p<s.size
  ·obtain⟨b,hbe⟩:∃b,(s[p]'hlt).toNat=b:=⟨_,rfl⟩;have HC:=V3 (F8 b w);have LP:=hlt;have tl:decide ((p:Int)<(s.size:Int))=true:=by simp;omega
   have hch:=IA hlt hbe;rcases hb:C8 b
   ·have HS:=V3 (show Bv s C8 (s.size-p) p=p from GA (fun hc=>by rw[hch,hb]at hc;cases hc.2));rw[hb]at HC;clear hch hb;go_wp2_with(go_at_call 139;refine HC.out.mono ?_;rintro e3 w3 ⟨rfl,rfl⟩);go_ret;exact⟨by rw[←HI.out,HS.out];rfl,rfl⟩
   have HS:=V3 (show Bv s C8 (s.size-p) p=Bv s C8 (s.size-(p+1)) (p+1)from Hx hlt (by rw[hch];exact hb));rw[hb]at HC;clear hch hb;go_wp2_with(go_at_call 139;refine HC.out.mono ?_;rintro e3 w3 ⟨rfl,rfl⟩);go_roundw
   case rel=>exact⟨p+1,by go_num,by omega,by simp,by rw[←HS.out];exact HI.out⟩
   case measure=>simp[intOf];omega
  have tl:decide ((p:Int)<(s.size:Int))=false:=by simp;omega
  have HS:=V3 (show Bv s C8 (s.size-p) p=p from GA (fun hc=>hlt hc.1));go_wp2_with fail;go_ret;exact⟨by rw[←HI.out,HS.out];rfl,rfl⟩
theorem E4:(Tryz.prog.info? 184).map (·.size)=some 4:=by kernel_rfl
theorem Cp (a c d:Int) (b:ByteArray):∀v∈([.int .i64 a,.string b,.int .i64 c,.int .i64 d]:List Value),v.oneCell'=true:=by
 intro v hv;simp at hv;rcases hv with rfl|rfl|rfl|rfl<;>rfl
theorem E1.grew {w w':World} {g:Nat} {s:ByteArray} {i:Nat} {e:Int} (h:E1 w g s i e) (k:A4 w w'):E1 w' g s i e:=AR.grew h k
def L5 (t:C7) (w:World) (e:Ending) (w':World):Prop:=e= .returned (.agg t.cells.toArray)∧A4 w w'
theorem Q9 (w:World) (g:Nat) (s:ByteArray) (i:Nat) (h:E1 w g s i 0) (hi:i≤s.size) (hs:s.size≤1000000) (hl:Bv s Ck (s.size-i) i-i≤16):
  Calls Tryz.prog 138 #[.pointer (some ⟨g,0,none⟩)] w (L5 ⟨0,s.extract i (Bv s Ck (s.size-i) i),0,i⟩ w):=by
 have hle:=EN (s:=s) (p:=Ck) (s.size-i) i hi;have HRun:=fun w1 hh=>RO w1 g s i i 0 hh hi hs
 obtain⟨r,hr⟩:∃r,Bv s Ck (s.size-i) i=r:=⟨_,rfl⟩;rw[hr]at hle hl HRun ⊢;have HR:=V3 (show ∀w1,E1 w1 g s i 0→Calls Tryz.prog 152 #[.pointer (some ⟨g,0,none⟩),.int .i64 (i:Nat),.func (.func 153) #[] #[]] w1 fun e w'=>e= .returned (.int .i64 (r:Nat))∧w'=w1 from HRun);clear HRun hr;have c0:w.cell? ⟨g,0,none⟩=some (.string s):=h.cell 0;have hbr:=VW w 184 [.int .i64 0,.string ⟨#[]⟩,.int .i64 0,.int .i64 0].toArray;have hg1:=(VU w).alloc (.cells [.int .i64 0,.string ⟨#[]⟩,.int .i64 0,.int .i64 0].toArray 184);have HSR:=V3 h;go_enter Tryz.func138,Tryz.ntmps138;go_upto_region 1 with fail;change Code.wp _ _ _ _ (w.alloc (.cells [.int .i64 0,.string ⟨#[]⟩,.int .i64 0,.int .i64 0].toArray 184));clear c0;generalize w.alloc (.cells [.int .i64 0,.string ⟨#[]⟩,.int .i64 0,.int .i64 0].toArray 184)=w1 at*;have HG:=V3 hg1;have HB:=V3 hbr;have hsr:=h.grew HG.out;have c0:w1.cell? ⟨g,0,none⟩=some (.string s):=hsr.cell 0;have c1:w1.cell? ⟨g,1,none⟩=some (.int .i64 (i:Nat)):=hsr.cell 1;have HSR1:=V3 hsr;clear hg1 hbr h hsr;have t1:decide ((r:Int)-(i:Int)>16)=false:=by simp;omega
 go_upto_region 4 with(go_at_call 152;refine(HR.out _ HSR1.out).mono ?_;rintro e3 w1 ⟨rfl,rfl⟩);obtain⟨hz1,hz2⟩:(i:Int)≤(r:Int)∧(r:Int)≤(s.size:Int):=by omega
 refine wp_region_still_tail 15 (by kernel_rfl) (by kernel_rfl) ?_;simp only[List.take_succ_cons,List.take_zero,List.drop_succ_cons,List.drop_zero]
 repeat still_step
 refine wpStill_nil ?_;change wpList _ _ _ _ _ w1.drew;go_wp2_with(((with_reducible refine AG 184 (.tmp 2) (.tmp 34) rfl ?_);refine BL 184 (.tmp 2) (.tmp 34) (w.heap.size) [.int .i64 0,.string (s.extract i r),.int .i64 0,.int .i64 (i:Nat)] [.int .i64 0,.string ⟨#[]⟩,.int .i64 0,.int .i64 0] 184 E4 rfl (Cp _ _ _ _) rfl rfl rfl rfl (HB.out.drew) ?_;intro w8 hb8 k8 d8));refine bodyPost_ret (AO rfl rfl E4 Tryz.underlying184 rfl hb8) rfl ?_;exact⟨rfl,VV (VX HG.out) k8 fun b hb e=>by omega⟩
theorem Mq (w:World) (g:Nat) (s:ByteArray) (i:Nat) (h:E1 w g s i 0) (hi:i≤s.size) (hs:s.size≤1000000) (hl:Fb s i (Bv s C8 (s.size-i) i-i)≤1073741824):
  Calls Tryz.prog 140 #[.pointer (some ⟨g,0,none⟩)] w (L5 ⟨1,s.extract i (Bv s C8 (s.size-i) i),Fb s i (Bv s C8 (s.size-i) i-i),i⟩ w):=by
 have hle:=EN (s:=s) (p:=C8) (s.size-i) i hi;have HRun:=fun w1 hh=>Qu w1 g s i i 0 hh hi hs
 have hall:=LW (s:=s) (p:=C8) (s.size-i) i;obtain⟨r,hr⟩:∃r,Bv s C8 (s.size-i) i=r:=⟨_,rfl⟩;rw[hr]at hle hl HRun hall ⊢;obtain⟨V,hV⟩:∃V,Fb s i (r-i)=V:=⟨_,rfl⟩;rw[hV]at hl ⊢;have HALL:=V3 hall;have HVV:=V3 hV;have HR:=V3 (show ∀w1,E1 w1 g s i 0→Calls Tryz.prog 152 #[.pointer (some ⟨g,0,none⟩),.int .i64 (i:Nat),.func (.func 139) #[] #[]] w1 fun e w'=>e= .returned (.int .i64 (r:Nat))∧w'=w1 from HRun);clear HRun hr hall hV;have c0:w.cell? ⟨g,0,none⟩=some (.string s):=h.cell 0;have hbr:=VW w 184 [.int .i64 0,.string ⟨#[]⟩,.int .i64 0,.int .i64 0].toArray;have hg1:=(VU w).alloc (.cells [.int .i64 0,.string ⟨#[]⟩,.int .i64 0,.int .i64 0].toArray 184);have HSR:=V3 h;go_enter Tryz.func140,Tryz.ntmps140;go_upto_region 1 with fail;change Code.wp _ _ _ _ (w.alloc (.cells [.int .i64 0,.string ⟨#[]⟩,.int .i64 0,.int .i64 0].toArray 184));clear c0;generalize w.alloc (.cells [.int .i64 0,.string ⟨#[]⟩,.int .i64 0,.int .i64 0].toArray 184)=w1 at*;have HG:=V3 hg1;have HB:=V3 hbr;have hsr:=h.grew HG.out;have c0:w1.cell? ⟨g,0,none⟩=some (.string s):=hsr.cell 0;have c1:w1.cell? ⟨g,1,none⟩=some (.int .i64 (i:Nat)):=hsr.cell 1;have HSR1:=V3 hsr;clear hg1 hbr h hsr;go_upto_region 4 with(go_at_call 152;refine(HR.out _ HSR1.out).mono ?_;rintro e3 w1 ⟨rfl,rfl⟩);go_loopw [4,5] (fun s4 s5 wr=>∃(p n:Nat),s5= .int .i64 (p:Nat)∧s4= .int .i64 (n:Nat)∧i≤p∧p≤r∧n=Fb s i (p-i)∧n≤1073741824∧w1=wr) (fun _ s5 _=>r-(intOf s5).toNat)
 case atStart=>exact⟨i,0,rfl,rfl,V6 _,by omega,by rw[Nat.sub_self];rfl,by omega,rfl⟩
 case round=>
  obtain⟨p,n,rfl,rfl,hip,hpr,hn,hn2,rfl⟩:=hrel;have HN:=V3 hn;clear hn;have t2:decide ((n:Int)≤1073741824)=true:=by simp;omega
  by_cases hlt:p<r
  ·have t1:decide ((p:Int)<(r:Int))=true:=by simp;omega
   obtain⟨hps,hpd⟩:=HALL.out p hip hlt;have LP:=hps;obtain⟨b,hbe⟩:∃b,(s[p]'hps).toNat=b:=⟨_,rfl⟩;have hch:=IA hps hbe;have hb2:48≤b∧b≤57:=by rw[hch]at hpd;unfold C8 at hpd;simpa using hpd
   have HNX:=V3 (show n*10+(b-48)=Fb s i (p+1-i)from by rw[show p+1-i=(p-i)+1 by omega,show Fb s i (p-i+1)=Fb s i (p-i)*10+(FR s (i+(p-i))-48)from rfl,←HN.out,show i+(p-i)=p by omega,hch]);have HNB:=V3 (show n*10+(b-48)≤1073741824 from by rw[HNX.out];exact VD (KQ s i (p+1-i) (r-i) (by omega)) (by rw[HVV.out];exact hl));have hw1:IntKind.u8.wrap ((b:Int)-48)=((b-48:Nat):Int):=by unfold IntKind.wrap;simp[IntKind.bits,IntKind.signed];omega
   obtain⟨b8,hb8⟩:∃x,b-48=x:=⟨_,rfl⟩;rw[hb8]at hw1 HNX HNB;have hb89:b8≤9:=by omega
   clear hch hpd hb2 hb8;go_wp2_with fail;go_roundw
   case rel=>exact⟨p+1,n*10+b8,by go_num,by go_num,by omega,by omega,HNX.out,HNB.out,by simp⟩
   case measure=>simp[intOf];omega
  have t1:decide ((p:Int)<(r:Int))=false:=by simp;omega
  have HE:=V3 (show n=V from by rw[HN.out,show p=r by omega,HVV.out]);have t3:decide ((n:Int)>1073741824)=false:=by simp;omega
  obtain⟨hz1,hz2⟩:(i:Int)≤(r:Int)∧(r:Int)≤(s.size:Int):=by omega
  go_upto_region 9 with fail;refine wp_region_still_tail 16 (by kernel_rfl) (by kernel_rfl) ?_;simp only[List.take_succ_cons,List.take_zero,List.drop_succ_cons,List.drop_zero]
  repeat still_step
  refine wpStill_nil ?_;change wpList _ _ _ _ _ w1.drew;go_wp2_with(((with_reducible refine AG 184 (.tmp 2) (.tmp 56) rfl ?_);refine BL 184 (.tmp 2) (.tmp 56) (w.heap.size) [.int .i64 1,.string (s.extract i r),.int .i64 (n:Nat),.int .i64 (i:Nat)] [.int .i64 0,.string ⟨#[]⟩,.int .i64 0,.int .i64 0] 184 E4 rfl (Cp _ _ _ _) rfl rfl rfl rfl (HB.out.drew) ?_;intro w8 hb8 k8 d8));refine bodyPost_ret (AO rfl rfl E4 Tryz.underlying184 rfl hb8) rfl ?_;exact⟨by rw[HE.out];rfl,VV (VX HG.out) k8 fun b hb e=>by omega⟩
theorem JU {s:ByteArray} {i b:Nat} (hb:FR s i=b) (h:CZ s i≠0):(CZ s i=1∧(b=43∨b=45∨b=42∨b=47∨b=40∨b=41∨b=123∨b=125∨b=44∨b=46∨b=64∨b=61))∨(CZ s i=2∧(b=33∨b=94)∧i+1<s.size∧FR s (i+1)=61):=by
 unfold CZ at h ⊢;rw[hb]at h ⊢;by_cases h1:[43,45,42,47,40,41,123,125,44,46,64,61].contains b=true
 ·rw[VN h1];left;refine⟨rfl,?_⟩;simpa using h1
 rw[VM h1]at h ⊢;by_cases h2:(b=33∨b=94)∧i+1<s.size∧FR s (i+1)=61
 ·rw[VN h2];exact .inr ⟨rfl,h2⟩
 rw[VM h2]at h;exact absurd rfl h
theorem N6 (w:World) (g:Nat) (s:ByteArray) (i:Nat) (h:E1 w g s i 0) (hi:i<s.size) (hs:s.size≤1000000) (hl:CZ s i≠0):
  Calls Tryz.prog 142 #[.pointer (some ⟨g,0,none⟩)] w (L5 ⟨3,s.extract i (i+CZ s i),0,i⟩ w):=by
 obtain⟨b,hbe⟩:∃b,(s[i]'hi).toNat=b:=⟨_,rfl⟩;have hch:=IA hi hbe;have hcs:=JU hch hl;obtain⟨L,hL⟩:∃L,CZ s i=L:=⟨_,rfl⟩;rw[hL]at hcs ⊢;obtain⟨j,hj⟩:∃j,i+L=j:=⟨_,rfl⟩;rw[hj];have HJ:=V3 hj;clear hj;have LP:=hi;have hLb:(L=1∨L=2)∧i+L≤s.size:=by
  rcases hcs with⟨h1, -⟩|⟨h1, -,h2, -⟩<;>omega
 have HLb:=V3 hLb;have HCS:=V3 hcs;have hbu:b<256:=by rw[←hbe];exact(s[i]'hi).toNat_lt
 clear hch hcs hl hL hLb;have c0:w.cell? ⟨g,0,none⟩=some (.string s):=h.cell 0;have hbr:=VW w 184 [.int .i64 0,.string ⟨#[]⟩,.int .i64 0,.int .i64 0].toArray;have hg1:=(VU w).alloc (.cells [.int .i64 0,.string ⟨#[]⟩,.int .i64 0,.int .i64 0].toArray 184);have HSR:=V3 h;go_enter Tryz.func142,Tryz.ntmps142;go_upto_region 1 with fail;change Code.wp _ _ _ _ (w.alloc (.cells [.int .i64 0,.string ⟨#[]⟩,.int .i64 0,.int .i64 0].toArray 184));clear c0;generalize w.alloc (.cells [.int .i64 0,.string ⟨#[]⟩,.int .i64 0,.int .i64 0].toArray 184)=w1 at*;have HG:=V3 hg1;have HB:=V3 hbr;have hsr:=h.grew HG.out;have c0:w1.cell? ⟨g,0,none⟩=some (.string s):=hsr.cell 0;have c1:w1.cell? ⟨g,1,none⟩=some (.int .i64 (i:Nat)):=hsr.cell 1;have HSR1:=V3 hsr;clear hg1 hbr h hsr;go_upto_region 2 with fail;go_quiet (fail);have hg2:A4 w1 (w1.drewN nq):=Va (VU w1) nq;have HG:=V3 (HG.out.trans hg2);have HB:=V3 (HB.out.grew hg2);have HSR1:=V3 (HSR1.out.grew hg2);clear c0 c1;generalize w1.drewN nq=w2 at*;clear hg2;have c0:w2.cell? ⟨g,0,none⟩=some (.string s):=HSR1.out.cell 0;have c1:w2.cell? ⟨g,1,none⟩=some (.int .i64 (i:Nat)):=HSR1.out.cell 1;go_upto_block 0 with fail;go_cut [3] (fun s3 wx=>s3= .int .i64 (L:Nat)∧A4 w2 wx)
 case first=>
  rcases HCS.out with⟨rfl,hb⟩|⟨rfl,hb,h1,h2⟩
  ·clear HCS;rcases hb with rfl|rfl|rfl|rfl|rfl|rfl|rfl|rfl|rfl|rfl|rfl|rfl<;>(go_wp2_with fail;go_meet;exact⟨rfl,VU _⟩)
  clear HCS;obtain⟨b2,hb2⟩:∃b,(s[i+1]'h1).toNat=b:=⟨_,rfl⟩;have h2:b2=61:=by rw[←h2];exact(IA h1 hb2).symm
  subst h2;have t1:decide ((i:Int)+1<(s.size:Int))=true:=by simp;omega
  have LP2:=h1;have hi1:IntKind.i64.wrap ((i:Int)+1)=((i+1:Nat):Int):=by unfold IntKind.wrap;simp[IntKind.bits,IntKind.signed];omega
  rcases hb with rfl|rfl
  ·go_upto_region 18 with fail;go_quiet (fail);go_wp2_with fail;go_meet;exact⟨rfl,Va (VU w2) _⟩
  go_upto_region 18 with fail;go_quiet (fail);go_wp2_with fail;go_meet;exact⟨rfl,Va (VU w2) _⟩
 case rest=>
  obtain⟨rfl,hgx⟩:=hcut;have hLb:=HLb.out;have t0:((L:Int)==0)=false:=by rw[V4];omega
  have HG:=V3 (HG.out.trans hgx);have HB:=V3 (HB.out.grew hgx);have HSR1:=V3 (HSR1.out.grew hgx);clear c0 c1 hgx;have c0:wc.cell? ⟨g,0,none⟩=some (.string s):=HSR1.out.cell 0;have c1:wc.cell? ⟨g,1,none⟩=some (.int .i64 (i:Nat)):=HSR1.out.cell 1;have hj:=HJ.out;have hw1:IntKind.i64.wrap ((i:Int)+(L:Int))=((j:Nat):Int):=by rw[←hj];unfold IntKind.wrap;simp[IntKind.bits,IntKind.signed];omega
  obtain⟨hz1,hz2⟩:(i:Int)≤((j:Nat):Int)∧((j:Nat):Int)≤(s.size:Int):=by omega
  clear hj hLb;go_upto_region 22 with fail;refine wp_region_still_tail 20 (by kernel_rfl) (by kernel_rfl) ?_;simp only[List.take_succ_cons,List.take_zero,List.drop_succ_cons,List.drop_zero]
  repeat still_step
  refine wpStill_nil ?_;change wpList _ _ _ _ _ wc.drew;go_wp2_with(((with_reducible refine AG 184 (.tmp 2) (.tmp 77) rfl ?_);refine BL 184 (.tmp 2) (.tmp 77) (w.heap.size) [.int .i64 3,.string (s.extract i j),.int .i64 0,.int .i64 (i:Nat)] [.int .i64 0,.string ⟨#[]⟩,.int .i64 0,.int .i64 0] 184 E4 rfl (Cp _ _ _ _) rfl rfl rfl rfl (HB.out.drew) ?_;intro w8 hb8 k8 d8));refine bodyPost_ret (AO rfl rfl E4 Tryz.underlying184 rfl hb8) rfl ?_;exact⟨rfl,VV (VX HG.out) k8 fun b hb e=>by omega⟩
end Go.Proofs.YthpflelgbadkcaaGreatDoor
namespace Go.Proofs.YthpflelgbadkcaaGreatDoor
open Go.RowKit
section
variable {P:Program} {t e:TypeId} {bytes:Nat} {z:Value} {w:World}
theorem Sy (T:SI P t e bytes z) {A:Option Addr} {n c k:Nat} (hk:k≤n) (hc:n≤c):
  (Instr.sliceAt t (.slice A n c) none (some (.int .i64 (k:Nat))) none).run P w= .ok (.slice (if c=0 then A else A.map (·.add 0)) k c) w:=by
 obtain⟨i,hi,hz,hs,hby⟩:=info_parts T.info;simp[Instr.sliceAt,Instr.slice,run_underlying T.under,Instr.sliceBounds,Instr.sliceBound,asIntOf,sizeOf,typeInfo,hi];omega
variable {B:Nat} {xs:List Value} {ops:Array Oper} {rest:List Oper} {o:Oper} {a:Act} {Q:Exit→Act→World→Prop}
theorem P1 (ad:Addr):ad.add 0=ad:=by
 cases ad;unfold Addr.add;split<;>simp_all
theorem Rd.upto {A:Option Addr} {n c:Nat} (h:Rd w B (.slice A n c) xs) {k:Nat} (hk:k≤n):Rd w B (.slice (if c=0 then A else A.map (·.add 0)) k c) (xs.take k):=by
 have hA:(if c=0 then A else A.map (·.add 0))=A:=by
  split
  ·rfl
  cases A with
  |none=>rfl
  |some ad=>simp[P1]
 rw[hA];obtain⟨A',c',hv,hc,hx⟩:=h;injection hv with e1 e2 e3;subst e1 e2 e3;have hl:(xs.take k).length=k:=by rw[List.length_take];omega
 refine⟨A,c,by rw[hl],by omega,fun h0=>?_⟩;obtain⟨ad,e,hb,hcell⟩:=hx (by omega);refine⟨ad,e,hb,fun j u hu=>hcell j u ?_⟩;rw[List.getElem?_take]at hu;split at hu
 ·exact hu
 cases hu
theorem TQ (T:SI P t e bytes z) (hgd:o.guard=none) (x y:Operand) (ho:o.op= .slice t x none (some y) none) {A:Option Addr} {n c:Nat} (hx:a.eval x= .slice A n c) {k:Nat} (hy:a.eval y= .int .i64 (k:Nat)) (hk:k≤n)
  (hr:Rd w B (.slice A n c) xs)
  (h:∀A' c',Rd w B (.slice A' k c') (xs.take k)→wpList P ops Q rest (a.put o.dst (.slice A' k c')) w):wpList P ops Q (o::rest) a w:=by
 refine wpList_plain hgd fun K hK=>?_
 unfold Oper.wp execOp;simp only[ho,hx,hy,Option.map_some,Option.map_none];obtain⟨A',n',c',hv,hc,hx'⟩:=hr.form;injection hv with e1 e2 e3;subst e1 e2 e3;have:=Sy (w:=w) T (A:=A) (c:=c) hk (by omega);simp only[this,Sem.run_bind,Sem.run_pure,Result.andThen_ok];exact hK _ _ (h _ _ (hr.upto hk))
end
end Go.Proofs.YthpflelgbadkcaaGreatDoor
namespace Go.Proofs.YthpflelgbadkcaaGreatDoor
open Go.RowKit Pl
section
variable {P:Program} {t e:TypeId} {sz bytes:Nat} {z:Value} {w:World} {B:Nat} {rows:List (List Value)} {ops:Array Oper} {rest:List Oper} {o:Oper} {a:Act} {Q:Exit→Act→World→Prop}
theorem OX (T:My P t e sz bytes z) {A:Option Addr} {n c k:Nat} (hk:k≤n):
  (Instr.sliceAt t (.slice A n c) (some (.int .i64 (k:Nat))) none none).run P w= .ok (.slice (if c=k then A else A.map (·.add (k*sz))) (n-k) (c-k)) w:=by
 obtain⟨i,hi,hz,hs,hby⟩:=info_parts T.info;simp[Instr.sliceAt,Instr.slice,run_underlying T.under,Instr.sliceBounds,Instr.sliceBound,asIntOf,sizeOf,typeInfo,hi,hs];omega
theorem Cg.cutS {A:Option Addr} {n c:Nat} (h:Cg w B sz (.slice A n c) rows) {k:Nat} (hk:k≤n):Cg w B sz (.slice (if c=k then A else A.map (·.add (k*sz))) (n-k) (c-k)) (rows.drop k):=by
 obtain⟨A0,c',hv,hc,hx⟩:=h;injection hv with e1 e2 e3;subst e1 e2 e3;refine⟨_,c-k,by rw[List.length_drop],by rw[List.length_drop];omega,fun h0=>?_⟩;rw[List.length_drop]at h0;obtain⟨b,o,rfl,hb,hcell⟩:=hx (by omega);rw[VM (by omega)];refine⟨b,o+k*sz,?_,hb,fun j cs hj=>?_⟩
 ·rw[Option.map_some];unfold Addr.add;split<;>simp_all
 rw[List.getElem?_drop]at hj;have:=hcell (k+j) cs hj;rwa[show o+(k+j)*sz=o+k*sz+j*sz by rw[Nat.add_mul];omega]at this
theorem Qj (T:My P t e sz bytes z) (hgd:o.guard=none) (x y:Operand) (ho:o.op= .slice t x (some y) none none) {A:Option Addr} {n c:Nat} (hx:a.eval x= .slice A n c) {k:Nat} (hy:a.eval y= .int .i64 (k:Nat)) (hk:k≤n)
  (hr:Cg w B sz (.slice A n c) rows)
  (h:∀A' m c',m=n-k→Cg w B sz (.slice A' m c') (rows.drop k)→wpList P ops Q rest (a.put o.dst (.slice A' m c')) w):wpList P ops Q (o::rest) a w:=by
 refine wpList_plain hgd fun K hK=>?_
 unfold Oper.wp execOp;simp only[ho,hx,hy,Option.map_some,Option.map_none];have:=OX (w:=w) T (A:=A) (c:=c) hk;simp only[this,Sem.run_bind,Sem.run_pure,Result.andThen_ok];exact hK _ _ (h _ _ _ rfl (hr.cutS hk))
theorem Qf (T:TypeId) (x:Operand) (y:Option Operand) (_:o.op= .slice T x y none none) (h:wpList P ops Q (o::rest) a w):wpList P ops Q (o::rest) a w:=h
end
def Td:Value:= .agg #[.int .i64 0,.string ⟨#[]⟩,.int .i64 0,.int .i64 0]
theorem Uo:My Tryz.prog 143 184 4 40 Td:=⟨Tryz.underlying143,by kernel_rfl,rfl,by decide,by decide⟩
def DB (w:World) (g:Nat) (n:Int) (ts:List C7):Prop:=∃A k c,AR w g 151 #[.slice A k c,.int .i64 n]∧Cg w g 4 (.slice A k c) (ts.map C7.cells)∧k=ts.length
theorem DB.keep {S:Nat→Prop} {w w':World} {g:Nat} {n:Int} {ts:List C7} (h:DB w g n ts) (k:AA S w w') (hs:∀i,i≤g→¬S i):DB w' g n ts:=by
 obtain⟨A,m,c,hb,hr,hl⟩:=h;exact⟨A,m,c,hb.keep k (hs g (V6 _)),hr.keep (Nat.le_of_lt hb.lt) (V6 _) k (fun i hi=>hs i (by omega)),hl⟩
theorem DB.grew {w w':World} {g:Nat} {n:Int} {ts:List C7} (h:DB w g n ts) (k:A4 w w'):DB w' g n ts:=h.keep k fun _ _ h=>h
theorem DB.lt {w:World} {g:Nat} {n:Int} {ts:List C7} (h:DB w g n ts):g<w.heap.size:=by
 obtain⟨A,m,c,hb, -⟩:=h;exact hb.lt
theorem JB {w:World} {g k c:Nat} {A:Option Addr} {t:C7} {ts:List C7} (hr:Cg w g 4 (.slice A k c) ((t::ts).map C7.cells)):
  ∃b o,A=some ⟨b,o,none⟩∧b<g∧w.rangeAt b o t.cells∧w.cell? ⟨b,o,none⟩=some (.int .i64 (t.kind:Nat))∧w.cell? ⟨b,o+1,none⟩=some (.string t.text)∧w.cell? ⟨b,o+2,none⟩=some (.int .i64 (t.num:Nat)):=by
 obtain⟨A0,c',hv,hc,hx⟩:=hr;injection hv with e1 e2 e3;subst e1;obtain⟨b,o,rfl,hb,hcell⟩:=hx (by simp);have h:=hcell 0 t.cells (by simp);rw[Nat.zero_mul,Nat.add_zero]at h;exact⟨b,o,rfl,hb,h,h 0 _ rfl,h 1 _ rfl,h 2 _ rfl⟩
theorem Hn (w:World) (g:Nat) (n:Int) (ts:List C7) (k:Nat) (s:ByteArray) (h:DB w g n ts):
  Calls Tryz.prog 143 #[.pointer (some ⟨g,0,none⟩),.int .i64 (k:Nat),.string s] w fun e w'=>e= .returned (.bool (FW ts k s))∧w'=w:=by
 obtain⟨A,m,c,hb,hr,rfl⟩:=h;rcases ts with _|⟨t,us⟩
 ·have c0:w.cell? ⟨g,0,none⟩=some (.slice A 0 c):=hb.cell 0;clear hb hr;go_enter Tryz.func143,Tryz.ntmps143;go_wp2_with fail;go_ret;exact⟨rfl,rfl⟩
 obtain⟨b,o,rfl, -, -,k0,k1, -⟩:=JB hr;have c0:w.cell? ⟨g,0,none⟩=some (.slice (some ⟨b,o,none⟩) (t::us).length c):=hb.cell 0;rw[List.length_cons]at c0;obtain⟨m,hm⟩:∃m,us.length=m:=⟨_,rfl⟩;rw[hm]at c0;have tl:decide (((m+1:Nat):Int)>0)=true:=by rw[decide_eq_true_iff];omega
 have tl2:decide ((m:Int)+1>0)=true:=by rw[decide_eq_true_iff];omega
 have HF:=V3 (show FW (t::us) k s=(decide (t.kind=k)&&(t.text.toList==s.toList))from rfl);clear hb hr hm;obtain⟨tk,tt,tn,tf⟩:=t;have k0:w.cell? ⟨b,o,none⟩=some (.int .i64 (tk:Nat)):=k0;have k1:w.cell? ⟨b,o+1,none⟩=some (.string tt):=k1;have HF:=V3 (show FW (⟨tk,tt,tn,tf⟩::us) k s=(decide (tk=k)&&(tt.toList==s.toList))from rfl);by_cases h1:tk=k
 ·have t1:((tk:Int)==(k:Int))=true:=by rw[VC];omega
  rcases h2:(tt.toList==s.toList)
  ·have HF:=V3 (show FW (⟨tk,tt,tn,tf⟩::us) k s=false by rw[HF.out,h2];simp);clear h1;go_enter Tryz.func143,Tryz.ntmps143;go_wp2_with fail;go_ret;exact⟨by rw[HF.out];rfl,rfl⟩
  have HF:=V3 (show FW (⟨tk,tt,tn,tf⟩::us) k s=true by rw[HF.out,h2,h1];simp);clear h1;go_enter Tryz.func143,Tryz.ntmps143;go_wp2_with fail;go_ret;exact⟨by rw[HF.out];rfl,rfl⟩
 have t1:((tk:Int)==(k:Int))=false:=by rw[V4];omega
 have HF:=V3 (show FW (⟨tk,tt,tn,tf⟩::us) k s=false by rw[HF.out];simp[h1]);clear h1;go_enter Tryz.func143,Tryz.ntmps143;go_wp2_with fail;go_ret;exact⟨by rw[HF.out];rfl,rfl⟩
theorem G0 (w:World) (g:Nat) (n:Int) (ts:List C7) (k:Nat) (h:DB w g n ts):
  Calls Tryz.prog 156 #[.pointer (some ⟨g,0,none⟩),.int .i64 (k:Nat)] w fun e w'=>e= .returned (.bool (Jc ts k))∧w'=w:=by
 obtain⟨A,m,c,hb,hr,rfl⟩:=h;rcases ts with _|⟨t,us⟩
 ·have c0:w.cell? ⟨g,0,none⟩=some (.slice A 0 c):=hb.cell 0;clear hb hr;go_enter Tryz.func156,Tryz.ntmps156;go_wp2_with fail;go_ret;exact⟨rfl,rfl⟩
 obtain⟨b,o,rfl, -, -,k0, -, -⟩:=JB hr;have c0:w.cell? ⟨g,0,none⟩=some (.slice (some ⟨b,o,none⟩) (t::us).length c):=hb.cell 0;rw[List.length_cons]at c0;obtain⟨m,hm⟩:∃m,us.length=m:=⟨_,rfl⟩;rw[hm]at c0;have tl:decide (((m+1:Nat):Int)>0)=true:=by rw[decide_eq_true_iff];omega
 have tl2:decide ((m:Int)+1>0)=true:=by rw[decide_eq_true_iff];omega
 clear hb hr hm;obtain⟨tk,tt,tn,tf⟩:=t;have k0:w.cell? ⟨b,o,none⟩=some (.int .i64 (tk:Nat)):=k0;by_cases h1:tk=k
 ·have t1:((tk:Int)==(k:Int))=true:=by rw[VC];omega
  have HF:=V3 (show Jc (⟨tk,tt,tn,tf⟩::us) k=true from by rw[show Jc (⟨tk,tt,tn,tf⟩::us) k=decide (tk=k)from rfl,h1];simp);clear h1;go_enter Tryz.func156,Tryz.ntmps156;go_wp2_with fail;go_ret;exact⟨by rw[HF.out];rfl,rfl⟩
 have t1:((tk:Int)==(k:Int))=false:=by rw[V4];omega
 have HF:=V3 (show Jc (⟨tk,tt,tn,tf⟩::us) k=false from by rw[show Jc (⟨tk,tt,tn,tf⟩::us) k=decide (tk=k)from rfl];simp[h1]);clear h1;go_enter Tryz.func156,Tryz.ntmps156;go_wp2_with fail;go_ret;exact⟨by rw[HF.out];rfl,rfl⟩
abbrev E7 (g:Nat) (w w':World):Prop:=AA (fun i=>i=g) w w'
theorem Ee (w:World) (g:Nat) (n:Int) (t:C7) (ts:List C7) (h:DB w g n (t::ts)):
  Calls Tryz.prog 155 #[.pointer (some ⟨g,0,none⟩)] w fun e w'=>e= .returned (.agg t.cells.toArray)∧DB w' g n ts∧E7 g w w':=by
 have hg:=h.lt;have hb0:=VW w 184 [.int .i64 0,.string ⟨#[]⟩,.int .i64 0,.int .i64 0].toArray;have hg0:=(VU w).alloc (.cells [.int .i64 0,.string ⟨#[]⟩,.int .i64 0,.int .i64 0].toArray 184);have hs0:(w.alloc (.cells [.int .i64 0,.string ⟨#[]⟩,.int .i64 0,.int .i64 0].toArray 184)).heap.size=w.heap.size+1:=by simp
 have HP:=V3 (h.grew hg0);clear h;go_enter Tryz.func155,Tryz.ntmps155;go_upto_region 1 with fail;change Code.wp _ _ _ _ (w.alloc (.cells [.int .i64 0,.string ⟨#[]⟩,.int .i64 0,.int .i64 0].toArray 184));generalize w.alloc (.cells [.int .i64 0,.string ⟨#[]⟩,.int .i64 0,.int .i64 0].toArray 184)=w1 at*;have HS:=V3 (V5 hs0 hg);have HG:=V3 hg0;clear hs0 hg0 hg;obtain⟨A,m,c,hb,hr,rfl⟩:=HP.out;obtain⟨b,o,rfl,hbg,hrg, -⟩:=JB hr;rw[List.length_cons]at hb hr;obtain⟨m,hm⟩:∃m,ts.length=m:=⟨_,rfl⟩;rw[hm]at hb hr;have c0:w1.cell? ⟨g,0,none⟩=some (.slice (some ⟨b,o,none⟩) (m+1) c):=hb.cell 0;have HR:=V3 (V5 hr hm);have HRG:=V3 hrg;have HB:=V3 hb;have HB0:=V3 hb0;clear hr hm hb hb0 hrg;go_upto_region 2 with(first|((with_reducible refine AF 184 (.tmp 8) rfl ?_);refine wpList_load_mid rfl 184 (.tmp 8) rfl b o rfl t.cells _ HRG.out Tryz.underlying184 rfl E4 ?_)|((with_reducible refine AG 184 (.tmp 3) (.tmp 9) rfl ?_);refine BL 184 (.tmp 3) (.tmp 9) w1.heap.size t.cells [.int .i64 0,.string ⟨#[]⟩,.int .i64 0,.int .i64 0] 184 E4 rfl (Cp _ _ _ _) rfl rfl rfl rfl (VW w1 184 _) ?_;intro w2 hb2 k2 d2;have HG2:=V3 (show A4 w1 w2 from VV ((VU w1).alloc _) k2 (fun i hi e=>by omega));clear k2 d2));have hb3:=HB.out.grew HG2.out;have c0':w2.cell? ⟨g,0,none⟩=some (.slice (some ⟨b,o,none⟩) (m+1) c):=hb3.cell 0;have f0:=hb3.frozen 0;have hr2:Cg w2 g 4 (.slice (some ⟨b,o,none⟩) (m+1) c) ((t::ts).map C7.cells):=HR.out.1.keep (Nat.le_of_lt HB.out.lt) (V6 _) HG2.out (fun _ _ h=>h);have HR2:=V3 hr2;have HB2:=V3 hb2;have HB3:=V3 hb3;clear c0 hr2 hb3;go_upto_region 3 with(first|((with_reducible refine Qf 143 (.tmp 14) _ rfl ?_);refine Qj Uo rfl (.tmp 14) (.const (.int .i64 1)) rfl rfl (k:=1) rfl (by omega) HR2.out ?_;intro A7 m7 c7 hm7 r7;have HR7:=V3 r7;have HM7:=V3 (show m7=ts.length from by rw[HR.out.2];omega);clear r7 hm7));have hb4:=HB3.out.set_ 0 (.slice A7 m7 c7);have k4:AA (fun i=>i=g) w2 (w2.setCell ⟨g,0,none⟩ (.slice A7 m7 c7)):=VZ (S:=fun i=>i=g) (p:=⟨g,0,none⟩) (VY _ w2) (.inl rfl) _;have hz:=HB2.out.far (p:=⟨g,0,none⟩) (by have:=HS.out;show w1.heap.size≠g;omega) (.slice A7 m7 c7);have hr4:Cg (w2.setCell ⟨g,0,none⟩ (.slice A7 m7 c7)) g 4 (.slice A7 m7 c7) (ts.map C7.cells):=by
  have h7:=HR7.out;rw[List.map_cons,List.drop_succ_cons,List.drop_zero]at h7;exact h7.keep (Nat.le_of_lt HB3.out.lt) (V6 _) k4 (fun i hi e=>by omega)
 have hr0:=(HB0.out.grew HG2.out).far (p:=⟨g,0,none⟩) (by have:=HS.out;show w.heap.size≠g;omega) (.slice A7 m7 c7);have HP4:=V3 (show DB (w2.setCell ⟨g,0,none⟩ (.slice A7 m7 c7)) g n ts from⟨A7,m7,c7,hb4,hr4,HM7.out⟩);have HK4:=V3 (show AA (fun i=>i=g) w (w2.setCell ⟨g,0,none⟩ (.slice A7 m7 c7))from VV (HG.out.trans HG2.out).keeps k4 (fun i _ h=>h));clear hb4 k4 hr4 c0' f0;generalize w2.setCell ⟨g,0,none⟩ (.slice A7 m7 c7)=w4 at*;go_wp2_with(first|((with_reducible refine AF 184 (.tmp 3) rfl ?_);refine BZ 184 Tryz.underlying184 rfl (.tmp 3) w1.heap.size t.cells 184 E4 rfl rfl rfl hz ?_)|((with_reducible refine AG 184 (.tmp 2) (.tmp 18) rfl ?_);refine BL 184 (.tmp 2) (.tmp 18) w.heap.size t.cells [.int .i64 0,.string ⟨#[]⟩,.int .i64 0,.int .i64 0] 184 E4 rfl (Cp _ _ _ _) rfl rfl rfl rfl hr0 ?_;intro w8 hb8 k8 d8));refine bodyPost_ret (AO rfl rfl E4 Tryz.underlying184 rfl hb8) rfl ?_;have hS:=HS.out;exact⟨rfl,HP4.out.keep k8 (fun i hi e=>by omega),VV HK4.out k8 fun b hb e=>by omega⟩
end Go.Proofs.YthpflelgbadkcaaGreatDoor
