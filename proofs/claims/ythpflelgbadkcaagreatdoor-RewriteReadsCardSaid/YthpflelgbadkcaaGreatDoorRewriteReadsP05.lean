/- What the card of the law stands on: LexB, Slc, ParA, ParB. -/
import Derived.Test.YthpflelgbadkcaaGreatDoorRewriteReadsP04
import Derived.Test.YthpflelgbadkcaaGreatDoorRewriteReadsP01
import Derived.Test.YthpflelgbadkcaaGreatDoorRewriteReadsP02
import Derived.StillTailTactics
import Derived.Deep.CutBlock
import Derived.Deep.Slices
set_option maxRecDepth 100000
set_option maxHeartbeats 12800000
set_option linter.unusedVariables false
set_option linter.unusedSimpArgs false
namespace Go.Proofs.YthpflelgbadkcaaGreatDoor
open Go.RowKit Pl
theorem Dk:(Tryz.prog.info? 184).map (·.size)=some 4:=by kernel_rfl
theorem Cg (a c d:Int) (b:ByteArray):∀v∈([.int .i64 a,.string b,.int .i64 c,.int .i64 d]:List Value),v.oneCell'=true:=by
 intro v hv;simp at hv;rcases hv with rfl|rfl|rfl|rfl<;>rfl
theorem Dn.grew {w w':World} {g:Nat} {s:ByteArray} {i:Nat} {e:Int} (h:Dn w g s i e) (k:A5 w w'):Dn w' g s i e:=Ag.grew h k
def Jp (t:C3) (w:World) (e:Ending) (w':World):Prop:=e= .returned (.agg t.cells.toArray)∧A5 w w'
theorem PI (w:World) (g:Nat) (s:ByteArray) (i:Nat) (h:Dn w g s i 0) (hi:i≤s.size) (hs:s.size≤1000000) (hl:Br s Cc (s.size-i) i-i≤16):
  Calls Tryz.prog 138 #[.pointer (some ⟨g,0,none⟩)] w (Jp ⟨0,s.extract i (Br s Cc (s.size-i) i),0,i⟩ w):=by
 have hle:=E4 (s:=s) (p:=Cc) (s.size-i) i hi;have HRun:=fun w1 hh=>Ox w1 g s i i 0 hh hi hs
 obtain⟨r,hr⟩:∃r,Br s Cc (s.size-i) i=r:=⟨_,rfl⟩;rw[hr]at hle hl HRun ⊢;have HR:=S9 (show ∀w1,Dn w1 g s i 0→Calls Tryz.prog 152 #[.pointer (some ⟨g,0,none⟩),.int .i64 (i:Nat),.func (.func 153) #[] #[]] w1 fun e w'=>e= .returned (.int .i64 (r:Nat))∧w'=w1 from HRun);clear HRun hr;have c0:w.cell? ⟨g,0,none⟩=some (.string s):=h.cell 0;have hbr:=Sc w 184 [.int .i64 0,.string ⟨#[]⟩,.int .i64 0,.int .i64 0].toArray;have hg1:=(Sa w).alloc (.cells [.int .i64 0,.string ⟨#[]⟩,.int .i64 0,.int .i64 0].toArray 184);have HSR:=S9 h;go_enter Tryz.func138,Tryz.ntmps138;go_upto_region 1 with fail;change Code.wp _ _ _ _ (w.alloc (.cells [.int .i64 0,.string ⟨#[]⟩,.int .i64 0,.int .i64 0].toArray 184));clear c0;generalize w.alloc (.cells [.int .i64 0,.string ⟨#[]⟩,.int .i64 0,.int .i64 0].toArray 184)=w1 at*;have HG:=S9 hg1;have HB:=S9 hbr;have hsr:=h.grew HG.out;have c0:w1.cell? ⟨g,0,none⟩=some (.string s):=hsr.cell 0;have c1:w1.cell? ⟨g,1,none⟩=some (.int .i64 (i:Nat)):=hsr.cell 1;have HSR1:=S9 hsr;clear hg1 hbr h hsr;have t1:decide ((r:Int)-(i:Int)>16)=false:=by simp;omega
 go_upto_region 4 with(go_at_call 152;refine(HR.out _ HSR1.out).mono ?_;rintro e3 w1 ⟨rfl,rfl⟩);obtain⟨hz1,hz2⟩:(i:Int)≤(r:Int)∧(r:Int)≤(s.size:Int):=by omega
 refine wp_region_still_tail 15 (by kernel_rfl) (by kernel_rfl) ?_;simp only[List.take_succ_cons,List.take_zero,List.drop_succ_cons,List.drop_zero]
 repeat still_step
 refine wpStill_nil ?_;change wpList _ _ _ _ _ w1.drew;go_wp2_with(((with_reducible refine AF 184 (.tmp 2) (.tmp 34) rfl ?_);refine Ar 184 (.tmp 2) (.tmp 34) (w.heap.size) [.int .i64 0,.string (s.extract i r),.int .i64 0,.int .i64 (i:Nat)] [.int .i64 0,.string ⟨#[]⟩,.int .i64 0,.int .i64 0] 184 Dk rfl (Cg _ _ _ _) rfl rfl rfl rfl (HB.out.drew) ?_;intro w8 hb8 k8 d8));refine bodyPost_ret (AP rfl rfl Dk Tryz.underlying184 rfl hb8) rfl ?_;exact⟨rfl,Sb (Sd HG.out) k8 fun b hb e=>by omega⟩
theorem M5 (w:World) (g:Nat) (s:ByteArray) (i:Nat) (h:Dn w g s i 0) (hi:i≤s.size) (hs:s.size≤1000000) (hl:FF s i (Br s C4 (s.size-i) i-i)≤1073741824):
  Calls Tryz.prog 140 #[.pointer (some ⟨g,0,none⟩)] w (Jp ⟨1,s.extract i (Br s C4 (s.size-i) i),FF s i (Br s C4 (s.size-i) i-i),i⟩ w):=by
 have hle:=E4 (s:=s) (p:=C4) (s.size-i) i hi;have HRun:=fun w1 hh=>PM w1 g s i i 0 hh hi hs
 have hall:=Kc (s:=s) (p:=C4) (s.size-i) i;obtain⟨r,hr⟩:∃r,Br s C4 (s.size-i) i=r:=⟨_,rfl⟩;rw[hr]at hle hl HRun hall ⊢;obtain⟨V,hV⟩:∃V,FF s i (r-i)=V:=⟨_,rfl⟩;rw[hV]at hl ⊢;have HALL:=S9 hall;have HVV:=S9 hV;have HR:=S9 (show ∀w1,Dn w1 g s i 0→Calls Tryz.prog 152 #[.pointer (some ⟨g,0,none⟩),.int .i64 (i:Nat),.func (.func 139) #[] #[]] w1 fun e w'=>e= .returned (.int .i64 (r:Nat))∧w'=w1 from HRun);clear HRun hr hall hV;have c0:w.cell? ⟨g,0,none⟩=some (.string s):=h.cell 0;have hbr:=Sc w 184 [.int .i64 0,.string ⟨#[]⟩,.int .i64 0,.int .i64 0].toArray;have hg1:=(Sa w).alloc (.cells [.int .i64 0,.string ⟨#[]⟩,.int .i64 0,.int .i64 0].toArray 184);have HSR:=S9 h;go_enter Tryz.func140,Tryz.ntmps140;go_upto_region 1 with fail;change Code.wp _ _ _ _ (w.alloc (.cells [.int .i64 0,.string ⟨#[]⟩,.int .i64 0,.int .i64 0].toArray 184));clear c0;generalize w.alloc (.cells [.int .i64 0,.string ⟨#[]⟩,.int .i64 0,.int .i64 0].toArray 184)=w1 at*;have HG:=S9 hg1;have HB:=S9 hbr;have hsr:=h.grew HG.out;have c0:w1.cell? ⟨g,0,none⟩=some (.string s):=hsr.cell 0;have c1:w1.cell? ⟨g,1,none⟩=some (.int .i64 (i:Nat)):=hsr.cell 1;have HSR1:=S9 hsr;clear hg1 hbr h hsr;go_upto_region 4 with(go_at_call 152;refine(HR.out _ HSR1.out).mono ?_;rintro e3 w1 ⟨rfl,rfl⟩);go_loopw [4,5] (fun s4 s5 wr=>∃(p n:Nat),s5= .int .i64 (p:Nat)∧s4= .int .i64 (n:Nat)∧i≤p∧p≤r∧n=FF s i (p-i)∧n≤1073741824∧w1=wr) (fun _ s5 _=>r-(intOf s5).toNat)
 case atStart=>exact⟨i,0,rfl,rfl,SD _,by omega,by rw[Nat.sub_self];rfl,by omega,rfl⟩
 case round=>
  obtain⟨p,n,rfl,rfl,hip,hpr,hn,hn2,rfl⟩:=hrel;have HN:=S9 hn;clear hn;have t2:decide ((n:Int)≤1073741824)=true:=by simp;omega
  by_cases hlt:p<r
  ·have t1:decide ((p:Int)<(r:Int))=true:=by simp;omega
   obtain⟨hps,hpd⟩:=HALL.out p hip hlt;have LP:=hps;obtain⟨b,hbe⟩:∃b,(s[p]'hps).toNat=b:=⟨_,rfl⟩;have hch:=Gv hps hbe;have hb2:48≤b∧b≤57:=by rw[hch]at hpd;unfold C4 at hpd;simpa using hpd
   have HNX:=S9 (show n*10+(b-48)=FF s i (p+1-i)from by rw[show p+1-i=(p-i)+1 by omega,show FF s i (p-i+1)=FF s i (p-i)*10+(F0 s (i+(p-i))-48)from rfl,←HN.out,show i+(p-i)=p by omega,hch]);have HNB:=S9 (show n*10+(b-48)≤1073741824 from by rw[HNX.out];exact SH (JN s i (p+1-i) (r-i) (by omega)) (by rw[HVV.out];exact hl));have hw1:IntKind.u8.wrap ((b:Int)-48)=((b-48:Nat):Int):=by unfold IntKind.wrap;simp[IntKind.bits,IntKind.signed];omega
   obtain⟨b8,hb8⟩:∃x,b-48=x:=⟨_,rfl⟩;rw[hb8]at hw1 HNX HNB;have hb89:b8≤9:=by omega
   clear hch hpd hb2 hb8;go_wp2_with fail;go_roundw
   case rel=>exact⟨p+1,n*10+b8,by go_num,by go_num,by omega,by omega,HNX.out,HNB.out,by simp⟩
   case measure=>simp[intOf];omega
  have t1:decide ((p:Int)<(r:Int))=false:=by simp;omega
  have HE:=S9 (show n=V from by rw[HN.out,show p=r by omega,HVV.out]);have t3:decide ((n:Int)>1073741824)=false:=by simp;omega
  obtain⟨hz1,hz2⟩:(i:Int)≤(r:Int)∧(r:Int)≤(s.size:Int):=by omega
  go_upto_region 9 with fail;refine wp_region_still_tail 16 (by kernel_rfl) (by kernel_rfl) ?_;simp only[List.take_succ_cons,List.take_zero,List.drop_succ_cons,List.drop_zero]
  repeat still_step
  refine wpStill_nil ?_;change wpList _ _ _ _ _ w1.drew;go_wp2_with(((with_reducible refine AF 184 (.tmp 2) (.tmp 56) rfl ?_);refine Ar 184 (.tmp 2) (.tmp 56) (w.heap.size) [.int .i64 1,.string (s.extract i r),.int .i64 (n:Nat),.int .i64 (i:Nat)] [.int .i64 0,.string ⟨#[]⟩,.int .i64 0,.int .i64 0] 184 Dk rfl (Cg _ _ _ _) rfl rfl rfl rfl (HB.out.drew) ?_;intro w8 hb8 k8 d8));refine bodyPost_ret (AP rfl rfl Dk Tryz.underlying184 rfl hb8) rfl ?_;exact⟨by rw[HE.out];rfl,Sb (Sd HG.out) k8 fun b hb e=>by omega⟩
theorem IW {s:ByteArray} {i b:Nat} (hb:F0 s i=b) (h:CP s i≠0):(CP s i=1∧(b=43∨b=45∨b=42∨b=47∨b=40∨b=41∨b=123∨b=125∨b=44∨b=46∨b=64∨b=61))∨(CP s i=2∧(b=33∨b=94)∧i+1<s.size∧F0 s (i+1)=61):=by
 unfold CP at h ⊢;rw[hb]at h ⊢;by_cases h1:[43,45,42,47,40,41,123,125,44,46,64,61].contains b=true
 ·rw[SR h1];left;refine⟨rfl,?_⟩;simpa using h1
 rw[SQ h1]at h ⊢;by_cases h2:(b=33∨b=94)∧i+1<s.size∧F0 s (i+1)=61
 ·rw[SR h2];exact .inr ⟨rfl,h2⟩
 rw[SQ h2]at h;exact absurd rfl h
theorem MC (w:World) (g:Nat) (s:ByteArray) (i:Nat) (h:Dn w g s i 0) (hi:i<s.size) (hs:s.size≤1000000) (hl:CP s i≠0):
  Calls Tryz.prog 142 #[.pointer (some ⟨g,0,none⟩)] w (Jp ⟨3,s.extract i (i+CP s i),0,i⟩ w):=by
 obtain⟨b,hbe⟩:∃b,(s[i]'hi).toNat=b:=⟨_,rfl⟩;have hch:=Gv hi hbe;have hcs:=IW hch hl;obtain⟨L,hL⟩:∃L,CP s i=L:=⟨_,rfl⟩;rw[hL]at hcs ⊢;obtain⟨j,hj⟩:∃j,i+L=j:=⟨_,rfl⟩;rw[hj];have HJ:=S9 hj;clear hj;have LP:=hi;have hLb:(L=1∨L=2)∧i+L≤s.size:=by
  rcases hcs with⟨h1, -⟩|⟨h1, -,h2, -⟩<;>omega
 have HLb:=S9 hLb;have HCS:=S9 hcs;have hbu:b<256:=by rw[←hbe];exact(s[i]'hi).toNat_lt
 clear hch hcs hl hL hLb;have c0:w.cell? ⟨g,0,none⟩=some (.string s):=h.cell 0;have hbr:=Sc w 184 [.int .i64 0,.string ⟨#[]⟩,.int .i64 0,.int .i64 0].toArray;have hg1:=(Sa w).alloc (.cells [.int .i64 0,.string ⟨#[]⟩,.int .i64 0,.int .i64 0].toArray 184);have HSR:=S9 h;go_enter Tryz.func142,Tryz.ntmps142;go_upto_region 1 with fail;change Code.wp _ _ _ _ (w.alloc (.cells [.int .i64 0,.string ⟨#[]⟩,.int .i64 0,.int .i64 0].toArray 184));clear c0;generalize w.alloc (.cells [.int .i64 0,.string ⟨#[]⟩,.int .i64 0,.int .i64 0].toArray 184)=w1 at*;have HG:=S9 hg1;have HB:=S9 hbr;have hsr:=h.grew HG.out;have c0:w1.cell? ⟨g,0,none⟩=some (.string s):=hsr.cell 0;have c1:w1.cell? ⟨g,1,none⟩=some (.int .i64 (i:Nat)):=hsr.cell 1;have HSR1:=S9 hsr;clear hg1 hbr h hsr;go_upto_region 2 with fail;go_quiet (fail);have hg2:A5 w1 (w1.drewN nq):=Sg (Sa w1) nq;have HG:=S9 (HG.out.trans hg2);have HB:=S9 (HB.out.grew hg2);have HSR1:=S9 (HSR1.out.grew hg2);clear c0 c1;generalize w1.drewN nq=w2 at*;clear hg2;have c0:w2.cell? ⟨g,0,none⟩=some (.string s):=HSR1.out.cell 0;have c1:w2.cell? ⟨g,1,none⟩=some (.int .i64 (i:Nat)):=HSR1.out.cell 1;go_upto_block 0 with fail;go_cut [3] (fun s3 wx=>s3= .int .i64 (L:Nat)∧A5 w2 wx)
 case first=>
  rcases HCS.out with⟨rfl,hb⟩|⟨rfl,hb,h1,h2⟩
  ·clear HCS;rcases hb with rfl|rfl|rfl|rfl|rfl|rfl|rfl|rfl|rfl|rfl|rfl|rfl<;>(go_wp2_with fail;go_meet;exact⟨rfl,Sa _⟩)
  clear HCS;obtain⟨b2,hb2⟩:∃b,(s[i+1]'h1).toNat=b:=⟨_,rfl⟩;have h2:b2=61:=by rw[←h2];exact(Gv h1 hb2).symm
  subst h2;have t1:decide ((i:Int)+1<(s.size:Int))=true:=by simp;omega
  have LP2:=h1;have hi1:IntKind.i64.wrap ((i:Int)+1)=((i+1:Nat):Int):=by unfold IntKind.wrap;simp[IntKind.bits,IntKind.signed];omega
  rcases hb with rfl|rfl
  ·go_upto_region 18 with fail;go_quiet (fail);go_wp2_with fail;go_meet;exact⟨rfl,Sg (Sa w2) _⟩
  go_upto_region 18 with fail;go_quiet (fail);go_wp2_with fail;go_meet;exact⟨rfl,Sg (Sa w2) _⟩
 case rest=>
  obtain⟨rfl,hgx⟩:=hcut;have hLb:=HLb.out;have t0:((L:Int)==0)=false:=by rw[SA];omega
  have HG:=S9 (HG.out.trans hgx);have HB:=S9 (HB.out.grew hgx);have HSR1:=S9 (HSR1.out.grew hgx);clear c0 c1 hgx;have c0:wc.cell? ⟨g,0,none⟩=some (.string s):=HSR1.out.cell 0;have c1:wc.cell? ⟨g,1,none⟩=some (.int .i64 (i:Nat)):=HSR1.out.cell 1;have hj:=HJ.out;have hw1:IntKind.i64.wrap ((i:Int)+(L:Int))=((j:Nat):Int):=by rw[←hj];unfold IntKind.wrap;simp[IntKind.bits,IntKind.signed];omega
  obtain⟨hz1,hz2⟩:(i:Int)≤((j:Nat):Int)∧((j:Nat):Int)≤(s.size:Int):=by omega
  clear hj hLb;go_upto_region 22 with fail;refine wp_region_still_tail 20 (by kernel_rfl) (by kernel_rfl) ?_;simp only[List.take_succ_cons,List.take_zero,List.drop_succ_cons,List.drop_zero]
  repeat still_step
  refine wpStill_nil ?_;change wpList _ _ _ _ _ wc.drew;go_wp2_with(((with_reducible refine AF 184 (.tmp 2) (.tmp 77) rfl ?_);refine Ar 184 (.tmp 2) (.tmp 77) (w.heap.size) [.int .i64 3,.string (s.extract i j),.int .i64 0,.int .i64 (i:Nat)] [.int .i64 0,.string ⟨#[]⟩,.int .i64 0,.int .i64 0] 184 Dk rfl (Cg _ _ _ _) rfl rfl rfl rfl (HB.out.drew) ?_;intro w8 hb8 k8 d8));refine bodyPost_ret (AP rfl rfl Dk Tryz.underlying184 rfl hb8) rfl ?_;exact⟨rfl,Sb (Sd HG.out) k8 fun b hb e=>by omega⟩
end Go.Proofs.YthpflelgbadkcaaGreatDoor
namespace Go.Proofs.YthpflelgbadkcaaGreatDoor
open Go.RowKit
section
variable {P:Program} {t e:TypeId} {bytes:Nat} {z:Value} {w:World}
variable {B:Nat} {xs:List Value} {ops:Array Oper} {rest:List Oper} {o:Oper} {a:Act} {Q:Exit→Act→World→Prop}
end
end Go.Proofs.YthpflelgbadkcaaGreatDoor
namespace Go.Proofs.YthpflelgbadkcaaGreatDoor
open Go.RowKit Pl
section
variable {P:Program} {t e:TypeId} {sz bytes:Nat} {z:Value} {w:World} {B:Nat} {rows:List (List Value)} {ops:Array Oper} {rest:List Oper} {o:Oper} {a:Act} {Q:Exit→Act→World→Prop}
theorem O2 (T:P7 P t e sz bytes z) {A:Option Addr} {n c k:Nat} (hk:k≤n):
  (Instr.sliceAt t (.slice A n c) (some (.int .i64 (k:Nat))) none none).run P w= .ok (.slice (if c=k then A else A.map (·.add (k*sz))) (n-k) (c-k)) w:=by
 obtain⟨i,hi,hz,hs,hby⟩:=info_parts T.info;simp[Instr.sliceAt,Instr.slice,run_underlying T.under,Instr.sliceBounds,Instr.sliceBound,asIntOf,sizeOf,typeInfo,hi,hs];omega
theorem Ch.cutS {A:Option Addr} {n c:Nat} (h:Ch w B sz (.slice A n c) rows) {k:Nat} (hk:k≤n):Ch w B sz (.slice (if c=k then A else A.map (·.add (k*sz))) (n-k) (c-k)) (rows.drop k):=by
 obtain⟨A0,c',hv,hc,hx⟩:=h;injection hv with e1 e2 e3;subst e1 e2 e3;refine⟨_,c-k,by rw[List.length_drop],by rw[List.length_drop];omega,fun h0=>?_⟩;rw[List.length_drop]at h0;obtain⟨b,o,rfl,hb,hcell⟩:=hx (by omega);rw[SQ (by omega)];refine⟨b,o+k*sz,?_,hb,fun j cs hj=>?_⟩
 ·rw[Option.map_some];unfold Addr.add;split<;>simp_all
 rw[List.getElem?_drop]at hj;have:=hcell (k+j) cs hj;rwa[show o+(k+j)*sz=o+k*sz+j*sz by rw[Nat.add_mul];omega]at this
theorem Oe (T:P7 P t e sz bytes z) (hgd:o.guard=none) (x y:Operand) (ho:o.op= .slice t x (some y) none none) {A:Option Addr} {n c:Nat} (hx:a.eval x= .slice A n c) {k:Nat} (hy:a.eval y= .int .i64 (k:Nat)) (hk:k≤n)
  (hr:Ch w B sz (.slice A n c) rows)
  (h:∀A' m c',m=n-k→Ch w B sz (.slice A' m c') (rows.drop k)→wpList P ops Q rest (a.put o.dst (.slice A' m c')) w):wpList P ops Q (o::rest) a w:=by
 refine wpList_plain hgd fun K hK=>?_
 unfold Oper.wp execOp;simp only[ho,hx,hy,Option.map_some,Option.map_none];have:=O2 (w:=w) T (A:=A) (c:=c) hk;simp only[this,Sem.run_bind,Sem.run_pure,Result.andThen_ok];exact hK _ _ (h _ _ _ rfl (hr.cutS hk))
theorem Oy (T:TypeId) (x:Operand) (y:Option Operand) (_:o.op= .slice T x y none none) (h:wpList P ops Q (o::rest) a w):wpList P ops Q (o::rest) a w:=h
end
def RM:Value:= .agg #[.int .i64 0,.string ⟨#[]⟩,.int .i64 0,.int .i64 0]
theorem Rw:P7 Tryz.prog 143 184 4 40 RM:=⟨Tryz.underlying143,by kernel_rfl,rfl,by decide,by decide⟩
def D4 (w:World) (g:Nat) (n:Int) (ts:List C3):Prop:=∃A k c,Ag w g 151 #[.slice A k c,.int .i64 n]∧Ch w g 4 (.slice A k c) (ts.map C3.cells)∧k=ts.length
theorem D4.keep {S:Nat→Prop} {w w':World} {g:Nat} {n:Int} {ts:List C3} (h:D4 w g n ts) (k:AC S w w') (hs:∀i,i≤g→¬S i):D4 w' g n ts:=by
 obtain⟨A,m,c,hb,hr,hl⟩:=h;exact⟨A,m,c,hb.keep k (hs g (SD _)),hr.keep (Nat.le_of_lt hb.lt) (SD _) k (fun i hi=>hs i (by omega)),hl⟩
theorem D4.grew {w w':World} {g:Nat} {n:Int} {ts:List C3} (h:D4 w g n ts) (k:A5 w w'):D4 w' g n ts:=h.keep k fun _ _ h=>h
theorem D4.lt {w:World} {g:Nat} {n:Int} {ts:List C3} (h:D4 w g n ts):g<w.heap.size:=by
 obtain⟨A,m,c,hb, -⟩:=h;exact hb.lt
theorem Ii {w:World} {g k c:Nat} {A:Option Addr} {t:C3} {ts:List C3} (hr:Ch w g 4 (.slice A k c) ((t::ts).map C3.cells)):
  ∃b o,A=some ⟨b,o,none⟩∧b<g∧w.rangeAt b o t.cells∧w.cell? ⟨b,o,none⟩=some (.int .i64 (t.kind:Nat))∧w.cell? ⟨b,o+1,none⟩=some (.string t.text)∧w.cell? ⟨b,o+2,none⟩=some (.int .i64 (t.num:Nat)):=by
 obtain⟨A0,c',hv,hc,hx⟩:=hr;injection hv with e1 e2 e3;subst e1;obtain⟨b,o,rfl,hb,hcell⟩:=hx (by simp);have h:=hcell 0 t.cells (by simp);rw[Nat.zero_mul,Nat.add_zero]at h;exact⟨b,o,rfl,hb,h,h 0 _ rfl,h 1 _ rfl,h 2 _ rfl⟩
theorem GK (w:World) (g:Nat) (n:Int) (ts:List C3) (k:Nat) (s:ByteArray) (h:D4 w g n ts):
  Calls Tryz.prog 143 #[.pointer (some ⟨g,0,none⟩),.int .i64 (k:Nat),.string s] w fun e w'=>e= .returned (.bool (F3 ts k s))∧w'=w:=by
 obtain⟨A,m,c,hb,hr,rfl⟩:=h;rcases ts with _|⟨t,us⟩
 ·have c0:w.cell? ⟨g,0,none⟩=some (.slice A 0 c):=hb.cell 0;clear hb hr;go_enter Tryz.func143,Tryz.ntmps143;go_wp2_with fail;go_ret;exact⟨rfl,rfl⟩
 obtain⟨b,o,rfl, -, -,k0,k1, -⟩:=Ii hr;have c0:w.cell? ⟨g,0,none⟩=some (.slice (some ⟨b,o,none⟩) (t::us).length c):=hb.cell 0;rw[List.length_cons]at c0;obtain⟨m,hm⟩:∃m,us.length=m:=⟨_,rfl⟩;rw[hm]at c0;have tl:decide (((m+1:Nat):Int)>0)=true:=by rw[decide_eq_true_iff];omega
 have tl2:decide ((m:Int)+1>0)=true:=by rw[decide_eq_true_iff];omega
 have HF:=S9 (show F3 (t::us) k s=(decide (t.kind=k)&&(t.text.toList==s.toList))from rfl);clear hb hr hm;obtain⟨tk,tt,tn,tf⟩:=t;have k0:w.cell? ⟨b,o,none⟩=some (.int .i64 (tk:Nat)):=k0;have k1:w.cell? ⟨b,o+1,none⟩=some (.string tt):=k1;have HF:=S9 (show F3 (⟨tk,tt,tn,tf⟩::us) k s=(decide (tk=k)&&(tt.toList==s.toList))from rfl);by_cases h1:tk=k
 ·have t1:((tk:Int)==(k:Int))=true:=by rw[SG];omega
  rcases h2:(tt.toList==s.toList)
  ·have HF:=S9 (show F3 (⟨tk,tt,tn,tf⟩::us) k s=false by rw[HF.out,h2];simp);clear h1;go_enter Tryz.func143,Tryz.ntmps143;go_wp2_with fail;go_ret;exact⟨by rw[HF.out];rfl,rfl⟩
  have HF:=S9 (show F3 (⟨tk,tt,tn,tf⟩::us) k s=true by rw[HF.out,h2,h1];simp);clear h1;go_enter Tryz.func143,Tryz.ntmps143;go_wp2_with fail;go_ret;exact⟨by rw[HF.out];rfl,rfl⟩
 have t1:((tk:Int)==(k:Int))=false:=by rw[SA];omega
 have HF:=S9 (show F3 (⟨tk,tt,tn,tf⟩::us) k s=false by rw[HF.out];simp[h1]);clear h1;go_enter Tryz.func143,Tryz.ntmps143;go_wp2_with fail;go_ret;exact⟨by rw[HF.out];rfl,rfl⟩
theorem Fc (w:World) (g:Nat) (n:Int) (ts:List C3) (k:Nat) (h:D4 w g n ts):
  Calls Tryz.prog 156 #[.pointer (some ⟨g,0,none⟩),.int .i64 (k:Nat)] w fun e w'=>e= .returned (.bool (IX ts k))∧w'=w:=by
 obtain⟨A,m,c,hb,hr,rfl⟩:=h;rcases ts with _|⟨t,us⟩
 ·have c0:w.cell? ⟨g,0,none⟩=some (.slice A 0 c):=hb.cell 0;clear hb hr;go_enter Tryz.func156,Tryz.ntmps156;go_wp2_with fail;go_ret;exact⟨rfl,rfl⟩
 obtain⟨b,o,rfl, -, -,k0, -, -⟩:=Ii hr;have c0:w.cell? ⟨g,0,none⟩=some (.slice (some ⟨b,o,none⟩) (t::us).length c):=hb.cell 0;rw[List.length_cons]at c0;obtain⟨m,hm⟩:∃m,us.length=m:=⟨_,rfl⟩;rw[hm]at c0;have tl:decide (((m+1:Nat):Int)>0)=true:=by rw[decide_eq_true_iff];omega
 have tl2:decide ((m:Int)+1>0)=true:=by rw[decide_eq_true_iff];omega
 clear hb hr hm;obtain⟨tk,tt,tn,tf⟩:=t;have k0:w.cell? ⟨b,o,none⟩=some (.int .i64 (tk:Nat)):=k0;by_cases h1:tk=k
 ·have t1:((tk:Int)==(k:Int))=true:=by rw[SG];omega
  have HF:=S9 (show IX (⟨tk,tt,tn,tf⟩::us) k=true from by rw[show IX (⟨tk,tt,tn,tf⟩::us) k=decide (tk=k)from rfl,h1];simp);clear h1;go_enter Tryz.func156,Tryz.ntmps156;go_wp2_with fail;go_ret;exact⟨by rw[HF.out];rfl,rfl⟩
 have t1:((tk:Int)==(k:Int))=false:=by rw[SA];omega
 have HF:=S9 (show IX (⟨tk,tt,tn,tf⟩::us) k=false from by rw[show IX (⟨tk,tt,tn,tf⟩::us) k=decide (tk=k)from rfl];simp[h1]);clear h1;go_enter Tryz.func156,Tryz.ntmps156;go_wp2_with fail;go_ret;exact⟨by rw[HF.out];rfl,rfl⟩
abbrev Dr (g:Nat) (w w':World):Prop:=AC (fun i=>i=g) w w'
theorem EO (w:World) (g:Nat) (n:Int) (t:C3) (ts:List C3) (h:D4 w g n (t::ts)):
  Calls Tryz.prog 155 #[.pointer (some ⟨g,0,none⟩)] w fun e w'=>e= .returned (.agg t.cells.toArray)∧D4 w' g n ts∧Dr g w w':=by
 have hg:=h.lt;have hb0:=Sc w 184 [.int .i64 0,.string ⟨#[]⟩,.int .i64 0,.int .i64 0].toArray;have hg0:=(Sa w).alloc (.cells [.int .i64 0,.string ⟨#[]⟩,.int .i64 0,.int .i64 0].toArray 184);have hs0:(w.alloc (.cells [.int .i64 0,.string ⟨#[]⟩,.int .i64 0,.int .i64 0].toArray 184)).heap.size=w.heap.size+1:=by simp
 have HP:=S9 (h.grew hg0);clear h;go_enter Tryz.func155,Tryz.ntmps155;go_upto_region 1 with fail;change Code.wp _ _ _ _ (w.alloc (.cells [.int .i64 0,.string ⟨#[]⟩,.int .i64 0,.int .i64 0].toArray 184));generalize w.alloc (.cells [.int .i64 0,.string ⟨#[]⟩,.int .i64 0,.int .i64 0].toArray 184)=w1 at*;have HS:=S9 (SC hs0 hg);have HG:=S9 hg0;clear hs0 hg0 hg;obtain⟨A,m,c,hb,hr,rfl⟩:=HP.out;obtain⟨b,o,rfl,hbg,hrg, -⟩:=Ii hr;rw[List.length_cons]at hb hr;obtain⟨m,hm⟩:∃m,ts.length=m:=⟨_,rfl⟩;rw[hm]at hb hr;have c0:w1.cell? ⟨g,0,none⟩=some (.slice (some ⟨b,o,none⟩) (m+1) c):=hb.cell 0;have HR:=S9 (SC hr hm);have HRG:=S9 hrg;have HB:=S9 hb;have HB0:=S9 hb0;clear hr hm hb hb0 hrg;go_upto_region 2 with(first|((with_reducible refine AG 184 (.tmp 8) rfl ?_);refine wpList_load_mid rfl 184 (.tmp 8) rfl b o rfl t.cells _ HRG.out Tryz.underlying184 rfl Dk ?_)|((with_reducible refine AF 184 (.tmp 3) (.tmp 9) rfl ?_);refine Ar 184 (.tmp 3) (.tmp 9) w1.heap.size t.cells [.int .i64 0,.string ⟨#[]⟩,.int .i64 0,.int .i64 0] 184 Dk rfl (Cg _ _ _ _) rfl rfl rfl rfl (Sc w1 184 _) ?_;intro w2 hb2 k2 d2;have HG2:=S9 (show A5 w1 w2 from Sb ((Sa w1).alloc _) k2 (fun i hi e=>by omega));clear k2 d2));have hb3:=HB.out.grew HG2.out;have c0':w2.cell? ⟨g,0,none⟩=some (.slice (some ⟨b,o,none⟩) (m+1) c):=hb3.cell 0;have f0:=hb3.frozen 0;have hr2:Ch w2 g 4 (.slice (some ⟨b,o,none⟩) (m+1) c) ((t::ts).map C3.cells):=HR.out.1.keep (Nat.le_of_lt HB.out.lt) (SD _) HG2.out (fun _ _ h=>h);have HR2:=S9 hr2;have HB2:=S9 hb2;have HB3:=S9 hb3;clear c0 hr2 hb3;go_upto_region 3 with(first|((with_reducible refine Oy 143 (.tmp 14) _ rfl ?_);refine Oe Rw rfl (.tmp 14) (.const (.int .i64 1)) rfl rfl (k:=1) rfl (by omega) HR2.out ?_;intro A7 m7 c7 hm7 r7;have HR7:=S9 r7;have HM7:=S9 (show m7=ts.length from by rw[HR.out.2];omega);clear r7 hm7));have hb4:=HB3.out.set_ 0 (.slice A7 m7 c7);have k4:AC (fun i=>i=g) w2 (w2.setCell ⟨g,0,none⟩ (.slice A7 m7 c7)):=Sf (S:=fun i=>i=g) (p:=⟨g,0,none⟩) (Se _ w2) (.inl rfl) _;have hz:=HB2.out.far (p:=⟨g,0,none⟩) (by have:=HS.out;show w1.heap.size≠g;omega) (.slice A7 m7 c7);have hr4:Ch (w2.setCell ⟨g,0,none⟩ (.slice A7 m7 c7)) g 4 (.slice A7 m7 c7) (ts.map C3.cells):=by
  have h7:=HR7.out;rw[List.map_cons,List.drop_succ_cons,List.drop_zero]at h7;exact h7.keep (Nat.le_of_lt HB3.out.lt) (SD _) k4 (fun i hi e=>by omega)
 have hr0:=(HB0.out.grew HG2.out).far (p:=⟨g,0,none⟩) (by have:=HS.out;show w.heap.size≠g;omega) (.slice A7 m7 c7);have HP4:=S9 (show D4 (w2.setCell ⟨g,0,none⟩ (.slice A7 m7 c7)) g n ts from⟨A7,m7,c7,hb4,hr4,HM7.out⟩);have HK4:=S9 (show AC (fun i=>i=g) w (w2.setCell ⟨g,0,none⟩ (.slice A7 m7 c7))from Sb (HG.out.trans HG2.out).keeps k4 (fun i _ h=>h));clear hb4 k4 hr4 c0' f0;generalize w2.setCell ⟨g,0,none⟩ (.slice A7 m7 c7)=w4 at*;go_wp2_with(first|((with_reducible refine AG 184 (.tmp 3) rfl ?_);refine BR 184 Tryz.underlying184 rfl (.tmp 3) w1.heap.size t.cells 184 Dk rfl rfl rfl hz ?_)|((with_reducible refine AF 184 (.tmp 2) (.tmp 18) rfl ?_);refine Ar 184 (.tmp 2) (.tmp 18) w.heap.size t.cells [.int .i64 0,.string ⟨#[]⟩,.int .i64 0,.int .i64 0] 184 Dk rfl (Cg _ _ _ _) rfl rfl rfl rfl hr0 ?_;intro w8 hb8 k8 d8));refine bodyPost_ret (AP rfl rfl Dk Tryz.underlying184 rfl hb8) rfl ?_;have hS:=HS.out;exact⟨rfl,HP4.out.keep k8 (fun i hi e=>by omega),Sb HK4.out k8 fun b hb e=>by omega⟩
theorem Kn (w:World) (k:Int) (s:ByteArray) (n f:Int):(Instr.field 184 (.agg #[.int .i64 k,.string s,.int .i64 n,.int .i64 f]) 2).run Tryz.prog w= .ok (.int .i64 n) w:=by kernel_rfl
theorem OC (w:World) (k:Int) (s:ByteArray) (n f:Int):(Instr.field 184 (.agg #[.int .i64 k,.string s,.int .i64 n,.int .i64 f]) 1).run Tryz.prog w= .ok (.string s) w:=by kernel_rfl
theorem DL {ts:List C3} {k:Nat} {s:ByteArray} (h:F3 ts k s=true):∃t us,ts=t::us:=by
 rcases ts with _|⟨t,us⟩
 ·cases h
 exact⟨t,us,rfl⟩
theorem Et (w:World) (g:Nat) (n:Int) (ts:List C3) (s:ByteArray) (h:D4 w g n ts) (hf:F3 ts 3 s=false):
  Calls Tryz.prog 144 #[.pointer (some ⟨g,0,none⟩),.string s] w fun e w'=>e= .returned (.bool false)∧w'=w:=by
 have h1:=GK w g n ts 3 s h;rw[hf]at h1;have HI:=S9 (show Calls Tryz.prog 143 #[.pointer (some ⟨g,0,none⟩),.int .i64 3,.string s] w (fun e w'=>e= .returned (.bool false)∧w'=w)from h1);clear h h1 hf;go_enter Tryz.func144,Tryz.ntmps144;go_wp2_with(go_at_call 143;(with_reducible refine HI.out.mono ?_);rintro e3 w3 ⟨rfl,rfl⟩);go_ret;exact⟨rfl,rfl⟩
theorem EP (w:World) (g:Nat) (n:Int) (t:C3) (ts:List C3) (s:ByteArray) (h:D4 w g n (t::ts)) (hf:F3 (t::ts) 3 s=true):
  Calls Tryz.prog 144 #[.pointer (some ⟨g,0,none⟩),.string s] w fun e w'=>e= .returned (.bool true)∧D4 w' g n ts∧Dr g w w':=by
 have h1:=GK w g n (t::ts) 3 s h;rw[hf]at h1;have HI:=S9 (show Calls Tryz.prog 143 #[.pointer (some ⟨g,0,none⟩),.int .i64 3,.string s] w (fun e w'=>e= .returned (.bool true)∧w'=w)from h1);have HT:=S9 (EO w g n t ts h);clear h h1 hf;go_enter Tryz.func144,Tryz.ntmps144;go_wp2_with(first|(go_at_call 143;(with_reducible refine HI.out.mono ?_);rintro e3 w3 ⟨rfl,rfl⟩)|(go_at_call 155;(with_reducible refine HT.out.mono ?_);rintro e3 w4 ⟨rfl,hp,hk⟩));go_ret;exact⟨rfl,hp,hk⟩
theorem IH (w:World) (g:Nat) (n:Int) (t:C3) (ts:List C3) (s:ByteArray) (h:D4 w g n (t::ts)) (hf:F3 (t::ts) 3 s=true):
  Calls Tryz.prog 157 #[.pointer (some ⟨g,0,none⟩),.string s] w fun e w'=>e= .returned (.tuple #[])∧D4 w' g n ts∧Dr g w w':=by
 have h1:=GK w g n (t::ts) 3 s h;rw[hf]at h1;have HI:=S9 (show Calls Tryz.prog 143 #[.pointer (some ⟨g,0,none⟩),.int .i64 3,.string s] w (fun e w'=>e= .returned (.bool true)∧w'=w)from h1);have HT:=S9 (EO w g n t ts h);clear h h1 hf;go_enter Tryz.func157,Tryz.ntmps157;go_wp2_with(first|(go_at_call 143;(with_reducible refine HI.out.mono ?_);rintro e3 w3 ⟨rfl,rfl⟩)|(go_at_call 155;(with_reducible refine HT.out.mono ?_);rintro e3 w4 ⟨rfl,hp,hk⟩));go_end0;exact⟨rfl,hp,hk⟩
theorem Pa (w:World) (g:Nat) (n:Int) (t:C3) (ts:List C3) (lo hi:Int) (h:D4 w g n (t::ts)) (hk1:t.kind=1) (hlo:lo≤(t.num:Nat)) (hhi:(t.num:Nat)≤hi):
  Calls Tryz.prog 164 #[.pointer (some ⟨g,0,none⟩),.int .i64 lo,.int .i64 hi] w fun e w'=>e= .returned (.int .i64 (t.num:Nat))∧D4 w' g n ts∧Dr g w w':=by
 have h1:=Fc w g n (t::ts) 1 h;rw[show IX (t::ts) 1=true from by rw[show IX (t::ts) 1=decide (t.kind=1)from rfl,hk1];rfl]at h1;have HI:=S9 (show Calls Tryz.prog 156 #[.pointer (some ⟨g,0,none⟩),.int .i64 1] w (fun e w'=>e= .returned (.bool true)∧w'=w)from h1);obtain⟨A,m,c,hb,hr,rfl⟩:=id h;obtain⟨b,o,rfl, -, -, -, -,k2⟩:=Ii hr;have c0:w.cell? ⟨g,0,none⟩=some (.slice (some ⟨b,o,none⟩) (t::ts).length c):=hb.cell 0;rw[List.length_cons]at c0;obtain⟨m,hm⟩:∃m,ts.length=m:=⟨_,rfl⟩;rw[hm]at c0;obtain⟨tk,tt,tn,tf⟩:=t;have HT:=S9 (show Calls Tryz.prog 155 #[.pointer (some ⟨g,0,none⟩)] w (fun e w'=>e= .returned (.agg #[.int .i64 (tk:Nat),.string tt,.int .i64 (tn:Nat),.int .i64 (tf:Nat)])∧D4 w' g n ts∧Dr g w w')from EO w g n ⟨tk,tt,tn,tf⟩ ts h);have k2:w.cell? ⟨b,o+2,none⟩=some (.int .i64 (tn:Nat)):=k2;have hlo:lo≤(tn:Int):=hlo;have hhi:(tn:Int)≤hi:=hhi;have t1:decide ((tn:Int)<lo)=false:=by rw[decide_eq_false_iff_not];omega
 have t2:decide ((tn:Int)>hi)=false:=by rw[decide_eq_false_iff_not];omega
 have hfd:=fun w'=>Kn w' (tk:Nat) tt (tn:Nat) (tf:Nat)
 clear h h1 hk1 hlo hhi hr hb hm;go_enter Tryz.func164,Tryz.ntmps164;go_wp2_with(first|(go_at_call 156;(with_reducible refine HI.out.mono ?_);rintro e3 w3 ⟨rfl,rfl⟩)|(go_at_call 155;(with_reducible refine HT.out.mono ?_);rintro e3 w4 ⟨rfl,hp,hk⟩));go_ret;exact⟨rfl,hp,hk⟩
end Go.Proofs.YthpflelgbadkcaaGreatDoor
