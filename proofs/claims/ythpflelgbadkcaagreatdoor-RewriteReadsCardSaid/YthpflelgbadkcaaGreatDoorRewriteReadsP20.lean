/- What the card of the law stands on: PEq2, Wr1, MsPl. -/
import Derived.Test.YthpflelgbadkcaaGreatDoorRewriteReadsP01
import Derived.Test.YthpflelgbadkcaaGreatDoorRewriteReadsP19
import Derived.Test.YthpflelgbadkcaaGreatDoorRewriteReadsP04
import Derived.Test.YthpflelgbadkcaaGreatDoorRewriteReadsP06
import Derived.Test.YthpflelgbadkcaaGreatDoorRewriteReadsP08
import Derived.Test.YthpflelgbadkcaaGreatDoorRewriteReadsP18
import Derived.Test.YthpflelgbadkcaaGreatDoorRewriteReadsP17
import Derived.Lib.Join
set_option maxRecDepth 100000
set_option maxHeartbeats 12800000
set_option linter.unusedVariables false
set_option linter.unusedSimpArgs false
namespace Go.Proofs.YthpflelgbadkcaaGreatDoor
open Go.RowKit Pl
theorem DJ (a b:Ex):FV a b=(decide (a.kind=b.kind∧a.fn=b.fn∧a.window=b.window∧a.offset=b.offset∧a.k=b.k∧a.num=b.num∧a.den=b.den∧a.name=b.name∧a.ms=b.ms∧a.bys=b.bys)&&EQ a.kids b.kids):=by
 cases a;cases b;rw[FV];rfl
theorem Ln {ls rs:List Ex} {j:Nat} {a b:Ex} (ha:ls[j]? =some a) (hb:rs[j]? =some b) (h:FV a b=false):EQ ls rs=false:=by
 induction ls generalizing rs j with
 |nil=>cases ha
 |cons x xs ih=>
  cases rs with
  |nil=>cases hb
  |cons y ys=>
   rw[EQ];cases j with
   |zero=>
    obtain rfl:x=a:=by simpa using ha
    obtain rfl:y=b:=by simpa using hb
    rw[h];rfl
   |succ j=>rw[ih (by simpa using ha) (by simpa using hb)];simp
theorem Ob {ls rs:List Ex} (h:ls.length≠rs.length):EQ ls rs=false:=by
 induction ls generalizing rs with
 |nil=>cases rs with
  |nil=>exact absurd rfl h
  |cons y ys=>simp[EQ]
 |cons x xs ih=>cases rs with
  |nil=>simp[EQ]
  |cons y ys=>rw[EQ,ih (by simpa using h)];simp
theorem O4 {ls rs:List Ex} (hl:ls.length=rs.length) (h:∀(j:Nat) (a b:Ex),ls[j]? =some a→rs[j]? =some b→FV a b=true):EQ ls rs=true:=by
 induction ls generalizing rs with
 |nil=>cases rs with
  |nil=>rw[EQ]
  |cons y ys=>cases hl
 |cons x xs ih=>cases rs with
  |nil=>cases hl
  |cons y ys=>
   rw[EQ,h 0 x y rfl rfl,ih (by simpa using hl) fun j a b ha hb=>h (j+1) a b (by simpa using ha) (by simpa using hb)];rfl
theorem BX {w:World} {B:Nat} {t:Ex} {cs:List Value} (h:BZ w B t cs):cs.length=11:=by
 obtain⟨a,b,c,rfl, -⟩:=h.open_;rfl
theorem Pw (ls rs:List Ex) (hIH:∀a∈ls,∀b∈rs,∀(w:World) (cs1 cs2:List Value),BZ w w.heap.size a cs1→BZ w w.heap.size b cs2→Calls Tryz.prog 13 #[.agg cs1.toArray,.agg cs2.toArray] w fun e' w'=>e'= .returned (.bool (FV a b))∧A5 w w')
  (hl1:ls.length≤1000000) (hl2:rs.length≤1000000) (v u:Value) (w:World) (h:I1 w w.heap.size v ls) (k:I1 w w.heap.size u rs):
  Calls Tryz.prog 34 #[v,u,.func (.func 13) #[] #[]] w fun e' w'=>e'= .returned (.bool (EQ ls rs))∧A5 w w':=by
 obtain⟨A1,n,k1,rfl,hn,hc1⟩:=h.slice;obtain⟨A2,n2,k2,rfl,hn2,hc2⟩:=k.slice;have HH:=S9 h;have HK:=S9 k;have HN:=S9 (SC hn hn2);have HI:=S9 hIH;have hb1:n≤1000000:=by omega
 have hb2:n2≤1000000:=by omega
 clear h k hn hn2 hIH hl1 hl2;by_cases hne:n=n2
 ·subst hne;have t0:((n:Int)==(n:Int))=true:=by simp
  have t0':((n:Int) !=(n:Int))=false:=by simp
  go_enter Tryz.func34,Tryz.ntmps34;go_wp2_with fail;go_loopw [7,8,9,17] (fun _ _ _ i wr=>∃(j:Nat),j≤n∧i= .int .i64 (j:Nat)∧(∀i a b,i<j→ls[i]? =some a→rs[i]? =some b→FV a b=true)∧A5 w wr) (fun _ _ _ i _=>n-(intOf i).toNat)
  case atStart=>exact⟨0,by omega,rfl,fun i a b h=>absurd h (by omega),Sa _⟩
  case round=>
   obtain⟨j,hj,rfl,htk,hGr⟩:=hrel;have HTK:=S9 htk;clear htk;by_cases hlt:j<n
   ·obtain⟨a,ha⟩:∃a,ls[j]? =some a:=⟨_,SF (by have:=HN.out;omega)⟩;obtain⟨b,hb⟩:∃b,rs[j]? =some b:=⟨_,SF (by have:=HN.out;omega)⟩;obtain⟨x1,y1,cs1,rfl, -,hr1,he1⟩:=(HH.out.grew hGr).at_ ha;obtain⟨x2,y2,cs2,rfl,hx2,hr2,he2⟩:=(HK.out.grew hGr).at_ hb;have h1l:=BX he1;have h2l:=BX he2;have h1o:=Al (BZ.toQ (Q:=fun _=>True) (fun _ _=>trivial) a cs1 he1);have h2o:=Al (BZ.toQ (Q:=fun _=>True) (fun _ _=>trivial) b cs2 he2);have HL:=S9 (SC h1l h2l);have HR:=S9 (show ∀w',A5 wr w'→w'.rangeAt x2 (y2+j*11) cs2 from fun w' g=>Ao hr2 hx2 g (fun h=>h));have HE:=S9 (fun w' (g:A5 wr w')=>HI.out a (SN ha) b (SN hb) w' cs1 cs2 (he1.grew g) (he2.grew g));obtain⟨r,hr⟩:∃r,FV a b=r:=⟨_,rfl⟩;rw[hr]at HE;have HX:=S9 (SC ha (SC hb hr));clear ha hb he1 he2 hr;go_upto_region 6 with(first|((with_reducible refine AG 29 (.tmp 20) rfl ?_);refine wpList_load_mid rfl 29 (.tmp 20) rfl x1 (y1+j*11) rfl cs1 _ hr1 Tryz.underlying29 rfl (by rw[h1l];exact AD) ?_)|((with_reducible refine AF 29 (.tmp 8) (.tmp 21) rfl ?_);have hbn:=Sc wr 29 (AH 0 0).toArray;refine Ar 29 (.tmp 8) (.tmp 21) wr.heap.size cs1 (AH 0 0) 29 (by rw[h1l];exact AD) (by rw[h1l];rfl) h1o rfl rfl rfl rfl hbn ?_;intro w3 hb3 k3 d3;have HG3:=S9 (show A5 wr w3 from Sb ((Sa wr).alloc _) k3 (fun i hi e=>by omega));clear k3 d3));have HB3:=S9 hb3;go_upto_region 7 with(first|((with_reducible refine AG 29 (.tmp 24) rfl ?_);refine wpList_load_mid rfl 29 (.tmp 24) rfl x2 (y2+j*11) rfl cs2 _ (HR.out _ HG3.out) Tryz.underlying29 rfl (by rw[h2l];exact AD) ?_)|((with_reducible refine AF 29 (.tmp 9) (.tmp 25) rfl ?_);have hbn:=Sc w3 29 (AH 0 0).toArray;refine Ar 29 (.tmp 9) (.tmp 25) w3.heap.size cs2 (AH 0 0) 29 (by rw[h2l];exact AD) (by rw[h2l];rfl) h2o rfl rfl rfl rfl hbn ?_;intro w4 hb4 k4 d4;have HG4:=S9 (show A5 w3 w4 from Sb ((Sa w3).alloc _) k4 (fun i hi e=>by omega));clear k4 d4));have hb34:=HB3.out.grew HG4.out;rcases r with _|_
    ·have HF:=S9 (show EQ ls rs=false from Ln HX.out.1 HX.out.2.1 HX.out.2.2);go_wp2_with(first|((with_reducible refine AG 29 (.tmp 8) rfl ?_);refine BR 29 Tryz.underlying29 rfl (.tmp 8) wr.heap.size cs1 29 (by rw[HL.out.1];exact AD) rfl rfl rfl hb34 ?_)|((with_reducible refine AG 29 (.tmp 9) rfl ?_);refine BR 29 Tryz.underlying29 rfl (.tmp 9) w3.heap.size cs2 29 (by rw[HL.out.2];exact AD) rfl rfl rfl hb4 ?_)|(go_at_call 13;(with_reducible refine(HE.out _ (HG3.out.trans HG4.out)).mono ?_);rintro e3 w5 ⟨rfl,k5⟩));go_ret;exact⟨by rw[HF.out];rfl,hGr.trans ((HG3.out.trans HG4.out).trans k5)⟩
    go_wp2_with(first|((with_reducible refine AG 29 (.tmp 8) rfl ?_);refine BR 29 Tryz.underlying29 rfl (.tmp 8) wr.heap.size cs1 29 (by rw[HL.out.1];exact AD) rfl rfl rfl hb34 ?_)|((with_reducible refine AG 29 (.tmp 9) rfl ?_);refine BR 29 Tryz.underlying29 rfl (.tmp 9) w3.heap.size cs2 29 (by rw[HL.out.2];exact AD) rfl rfl rfl hb4 ?_)|(go_at_call 13;(with_reducible refine(HE.out _ (HG3.out.trans HG4.out)).mono ?_);rintro e3 w5 ⟨rfl,k5⟩));go_roundw
    case rel=>exact⟨j+1,by omega,by go_num,fun i a' b' hi ha' hb'=>by
     by_cases hij:i=j
     ·subst hij;rw[HX.out.1]at ha';rw[HX.out.2.1]at hb';obtain rfl:=SI ha';obtain rfl:=SI hb';exact HX.out.2.2
     exact HTK.out i a' b' (by omega) ha' hb',hGr.trans ((HG3.out.trans HG4.out).trans k5)⟩
    case measure=>simp[intOf];omega
   obtain rfl:j=n:=by omega
   have HF:=S9 (show EQ ls rs=true from O4 (by have:=HN.out;omega) fun i a b ha hb=>HTK.out i a b (by have:=(SK.1 ha).1;have:=HN.out;omega) ha hb);go_wp2_with fail;go_ret;exact⟨by rw[HF.out];rfl,hGr⟩
 have HF:=S9 (show EQ ls rs=false from Ob (by have:=HN.out;omega));have t0:((n:Int)==(n2:Int))=false:=by rw[SA];omega
 have t0':((n:Int) !=(n2:Int))=true:=by rw[bne,t0];rfl
 clear hne;go_enter Tryz.func34,Tryz.ntmps34;go_wp2_with fail;go_ret;exact⟨by rw[HF.out];rfl,Sa _⟩
def WS (w:World) (base g:Nat) (bs:List Nat):Prop:=base≤g∧base≤w.heap.size∧∃p v,SB w base g p v bs
theorem WS.grew {w w':World} {base g:Nat} {bs:List Nat} (h:WS w base g bs) (k:A5 w w'):WS w' base g bs:=by
 obtain⟨h1,h2,p,v,hb⟩:=h;exact⟨h1,SH h2 k.size,p,v,hb.box.grew k,hb.row.grew k,hb.self⟩
def KB (w w':World):Prop:=∀k t xs,Ag w k t xs→t≠156→t≠5→Ag w' k t xs
theorem KB.trans {a b c:World} (h:KB a b) (k:KB b c):KB a c:=fun i t xs hb h1 h2=>k i t xs (h i t xs hb h1 h2) h1 h2
theorem KB.grew {w w':World} (h:A5 w w'):KB w w':=fun i t xs hb _ _=>hb.grew h
def EV (base g:Nat) (bs:List Nat) (w:World) (e:Ending) (w':World):Prop:=(∃u,e= .returned u)∧WS w' base g bs∧AC (fun i=>base≤i) w w'∧KB w w'
theorem CZ (w:World) (base g:Nat) (bs:List Nat) (s:ByteArray) (h:WS w base g bs) (hl:bs.length<900000000) (hs:s.size≤1000000):Calls Tryz.prog 132 #[.pointer (some ⟨g,0,none⟩),.string s] w (EV base g (bs++bl s) w):=by
 obtain⟨h1,h2,p,v,hb⟩:=h;refine(Hs g base p v bs s w hb hl hs h2).mono ?_;rintro e w' ⟨he,p',v',hb',hk⟩;have hk':=hb.keepsB h1 hk;exact⟨he,⟨h1,SH h2 hk'.size,p',v',hb'⟩,hk',fun i t xs hbx h1 h2=>Ag.keepSB hbx hb hk h1 h2⟩
theorem Dt (w:World) (base g:Nat) (bs:List Nat) (c:Nat) (h:WS w base g bs) (hl:bs.length<900000000):Calls Tryz.prog 148 #[.pointer (some ⟨g,0,none⟩),.int .u8 (c:Nat)] w (EV base g (bs++[c]) w):=by
 obtain⟨h1,h2,p,v,hb⟩:=h;refine(JE g base p v bs c w hb hl h2).mono ?_;rintro e w' ⟨rfl,p',v',hb',hk⟩;have hk':=hb.keepsB h1 hk;exact⟨⟨_,rfl⟩,⟨h1,SH h2 hk'.size,p',v',hb'⟩,hk',fun i t xs hbx h1 h2=>Ag.keepSB hbx hb hk h1 h2⟩
theorem LJ (n:Nat) (hn:n<10) (w:World):Calls Tryz.prog 146 #[.agg (AN (n:Nat) 1).toArray] w fun e w'=>e= .returned (.bool true)∧A5 w w':=by
 have t1:decide ((n:Int)≥0)=true:=by rw[decide_eq_true_iff];omega
 have t2:decide ((n:Int)≤1073741824)=true:=by rw[decide_eq_true_iff];omega
 have hb:=Sc w 24 (AN (n:Nat) 1).toArray;have hg:=(Sa w).alloc (.cells (AN (n:Nat) 1).toArray 24);go_enter Tryz.func146,Tryz.ntmps146;go_upto_region 1 with fail;change Code.wp _ _ _ _ (w.alloc (.cells (AN (n:Nat) 1).toArray 24));generalize w.alloc (.cells (AN (n:Nat) 1).toArray 24)=w1 at*;have c0:w1.cell? ⟨w.heap.size,0,none⟩=some (.int .i64 (n:Nat)):=hb.cell 0;have c1:w1.cell? ⟨w.heap.size,1,none⟩=some (.int .i64 1):=hb.cell 1;have HG:=S9 hg;clear hb hg hn;go_wp2_with fail;go_ret;exact⟨rfl,HG.out⟩
theorem NK (w:World) (base g:Nat) (bs:List Nat) (n:Nat) (hn:n<10) (h:WS w base g bs) (hl:bs.length<900000000):Calls Tryz.prog 127 #[.pointer (some ⟨g,0,none⟩),.agg (AN (n:Nat) 1).toArray] w (EV base g (bs++bl (QU n)) w):=by
 have hb:=Sc w 24 (AN (n:Nat) 1).toArray;have hg:=(Sa w).alloc (.cells (AN (n:Nat) 1).toArray 24);have HW:=S9 (h.grew hg);have HB:=S9 h.2.1;have HN:=S9 (LJ n hn);have HI:=S9 (P9 n hn);have HS:=S9 (fun w' (h:WS w' base g bs)=>CZ w' base g bs (QU n) h hl (by show(1:Nat)≤1000000;omega));clear h hl hn;go_enter Tryz.func127,Tryz.ntmps127;go_upto_region 1 with fail;change Code.wp _ _ _ _ (w.alloc (.cells (AN (n:Nat) 1).toArray 24));generalize w.alloc (.cells (AN (n:Nat) 1).toArray 24)=w1 at*;have HG:=S9 hg;clear hg;go_upto_region 2 with(first|((with_reducible refine AG 24 (.tmp 3) rfl ?_);refine BR 24 Tryz.underlying24 rfl (.tmp 3) (w.heap.size) (AN (n:Nat) 1) 24 Ad rfl rfl rfl hb ?_)|(go_at_call 146;(with_reducible refine(HN.out w1).mono ?_);rintro e3 w2 ⟨rfl,k2⟩;have HW2:=S9 (HW.out.grew k2);have c0:w2.cell? ⟨w.heap.size,0,none⟩=some (.int .i64 (n:Nat)):=(hb.grew k2).cell 0;have HG2:=S9 (HG.out.trans k2);clear k2));go_wp2_with(first|(go_at_call 147;(with_reducible refine(HI.out w2).mono ?_);rintro e3 w3 ⟨rfl,hw3⟩;obtain rfl:=hw3.symm;clear hw3)|(go_at_call 132;(with_reducible refine(HS.out _ HW2.out).mono ?_);rintro e3 w4 ⟨⟨u,rfl⟩,hws,hk,hkb⟩;have HR:=S9 (SC hws (SC hk hkb));clear hws hk hkb));refine bodyPost_ret (results_none rfl _ _ _) rfl ?_;exact⟨⟨_,rfl⟩,HR.out.1,Sb (Si HG2.out) HR.out.2.1 fun i _ h=>h,(KB.grew HG2.out).trans HR.out.2.2⟩
end Go.Proofs.YthpflelgbadkcaaGreatDoor
namespace Go.Proofs.YthpflelgbadkcaaGreatDoor
open Pl
def Re (l:List Nat):ByteArray:=⟨(l.map UInt8.ofNat).toArray⟩
theorem Qd {l:List Nat} (h:Bytes l):bl (Re l)=l:=by
 unfold bl Re;rw[List.toList_toArray,List.map_map]
 conv=>rhs;rw[←List.map_id l]
 refine List.map_congr_left fun x hx=>?_
 have:=h x hx;simp only[Function.comp,id];exact UInt8.toNat_ofNat_of_lt' (by show x<256;omega)
def mB (m:Mt):List Nat:=bl m.1++bl (Gg m.2.1.toNat)++bl ((⟨#[34]⟩:ByteArray)++m.2.2++⟨#[34]⟩)
def Ee:List Mt→List Nat
 |[]=>[]
 |m::ms=>44::(mB m++Ee ms)
def Ce:List Mt→List Nat
 |[]=>[]
 |m::ms=>123::(mB m++Ee ms)
def Lh (ms:List Mt):List Nat:=Ce ms++(if ms.length=0 then[]else[125])
theorem Jl:∀{l:List Mt} {j:Nat} {m:Mt},l[j]? =some m→Ee (l.take (j+1))=Ee (l.take j)++44::mB m
 |[],j,m,h=>by simp at h
 |a::tl,0,m,h=>by
  obtain rfl:a=m:=by simpa using h
  simp[Ee]
 |a::tl,j+1,m,h=>by
  rw[List.take_succ_cons,List.take_succ_cons];unfold Ee;rw[Jl (by simpa using h)];simp
theorem Gn {l:List Mt} {j:Nat} {m:Mt} (h:l[j]? =some m):Ce (l.take (j+1))=Ce (l.take j)++(if j=0 then 123 else 44)::mB m:=by
 cases l with
 |nil=>simp at h
 |cons a tl=>
  cases j with
  |zero=>
   obtain rfl:a=m:=by simpa using h
   simp[Ce,Ee]
  |succ j=>
   rw[List.take_succ_cons,List.take_succ_cons];show 123::(mB a++Ee (tl.take (j+1)))=123::(mB a++Ee (tl.take j))++_;rw[Jl (by simpa using h),SQ (by omega)];simp
theorem Mf:∀(l:List Mt) (j:Nat),(Ee (l.take j)).length≤(Ee l).length
 |[],j=>by simp
 |a::tl,0=>by simp[Ee]
 |a::tl,j+1=>by
  rw[List.take_succ_cons];unfold Ee;have:=Mf tl j;simp only[List.length_cons,SX];omega
theorem Qo (l:List Mt) (j:Nat):(Ce (l.take j)).length≤(Ce l).length:=by
 cases l with
 |nil=>simp
 |cons a tl=>
  cases j with
  |zero=>simp[Ce]
  |succ j=>
   rw[List.take_succ_cons];show(123::(mB a++Ee (tl.take j))).length≤(123::(mB a++Ee tl)).length;have:=Mf tl j;simp only[List.length_cons,SX];omega
def PB (m:Mt):Prop:=(∃f:Nat,f<3∧m.2.1=f)∧m.1.size≤1000∧m.2.2.size≤1000
def Q4 (ms:List Mt):Prop:=ms.length≤1000∧∀m∈ms,PB m
theorem I9:Q4 []:=⟨Nat.zero_le _,fun m hm=>nomatch hm⟩
theorem Hf {f:Nat} (h:f<3):(Gg f).size≤2:=by
 rcases(show f=0∨f=1∨f=2 by omega)with rfl|rfl|rfl<;>decide
theorem Om {m:Mt} (h:PB m):(mB m).length=m.1.size+(Gg m.2.1.toNat).size+(m.2.2.size+2):=by
 unfold mB;rw[SX,SX,C6,C6,C6,ByteArray.size_append,ByteArray.size_append];show _+_+(1+_+1)=_;omega
theorem LF {N:Nat}:∀{ms:List Mt},(∀m∈ms,(mB m).length≤N)→(Ee ms).length≤ms.length*(N+1)
 |[],_=>by simp[Ee]
 |m::ms,h=>by
  unfold Ee;have h1:=h m List.mem_cons_self;have h2:=LF fun k hk=>h k (List.mem_cons_of_mem _ hk)
  rw[List.length_cons,SX,List.length_cons,Nat.add_mul];omega
theorem PN {N:Nat} {ms:List Mt} (h:∀m∈ms,(mB m).length≤N):(Ce ms).length≤ms.length*(N+1):=by
 have:=LF h;cases ms with
 |nil=>exact this
 |cons m tl=>exact this
theorem Fv {a:Nat} {b:List Nat} (ha:a<256) (hb:Bytes b):Bytes (a::b):=fun x hx=>by
 rcases List.mem_cons.1 hx with rfl|h
 ·exact ha
 exact hb x h
theorem Ki (m:Mt):Bytes (mB m):=DA (DA (EW _) (EW _)) (EW _)
theorem If:∀ms:List Mt,Bytes (Ee ms)
 |[]=>fun x hx=>nomatch hx
 |m::ms=>Fv (by decide) (DA (Ki m) (If ms))
theorem Jm (ms:List Mt):Bytes (Lh ms):=by
 have h1:Bytes (Ce ms):=by
  cases ms with
  |nil=>exact fun x hx=>nomatch hx
  |cons m tl=>exact Fv (by decide) (DA (Ki m) (If tl))
 refine DA h1 ?_;split
 ·exact fun x hx=>nomatch hx
 exact Fv (by decide) fun x hx=>nomatch hx
def GE (nm:ByteArray) (ms:List Mt):Ex:= .mk 1 0 0 0 0 0 0 nm ms [] []
def M0 (nm:ByteArray) (ms:List Mt):ByteArray:=if ms.length=0 then nm else Re (bl nm++Lh ms)
theorem MS (nm:ByteArray) (ms:List Mt):bl (M0 nm ms)=bl nm++Lh ms:=by
 unfold M0;split
 ·rename_i h
  obtain rfl:=List.length_eq_zero_iff.1 h;show bl nm=bl nm++([]++[]);simp
 exact Qd (DA (EW _) (Jm _))
def KV (nm:ByteArray) (ms:List Mt):Prop:=Ca (GE nm ms)=0∧Be (GE nm ms)∧0<nm.size∧nm.size≤1000∧Q4 ms∧(bl nm++Lh ms).length≤2000
theorem Fr {s:ByteArray} (h:CQ s=true):1≤s.size∧s.size≤16:=by
 unfold CQ at h;rw[Bool.and_eq_true]at h;exact SL h.1
theorem LG {s:ByteArray} (h:DG s=true):s.size≤16:=by
 unfold DG at h;rw[Bool.and_eq_true]at h;exact SL h.1
theorem M8 {m:Mt} (h:BU m=true):PB m∧(mB m).length≤36:=by
 unfold BU at h;rw[Bool.and_eq_true,Bool.and_eq_true]at h;have h1:=Fr h.1.1;have h2:=SL h.1.2;have h3:=LG h.2;have ho:PB m:=⟨⟨m.2.1.toNat,by omega,by omega⟩,by omega,by omega⟩;refine⟨ho,?_⟩;rw[Om ho];have:=Hf (f:=m.2.1.toNat) (by omega);omega
theorem Ft {e:Ex} (h:Bj e=0):BN e=true∧Bo e=true∧e.ms.length≤8∧e.bys.length≤8∧Ai e=true:=by
 unfold Bj at h;split at h
 ·simp at h
 split at h
 ·simp at h
 split at h
 ·simp at h
 split at h
 ·simp at h
 rename_i h1 h2 h3 h4
 exact⟨by simpa using h1,by simpa using h2,by omega,by omega,by simpa using h4⟩
theorem LE {e:Ex} (h1:e.kind=1) (hok:Be e) (hv:Bj e=0):KV e.name e.ms:=by
 obtain⟨hs,hn,hm8,hb8,hw⟩:=Ft hv;have hN:(CQ e.name&& !H7 e.name)=true∧e.ms.all BU=true:=by
  unfold Bo at hn;rw[Bool.and_eq_true,Bool.and_eq_true,h1]at hn;exact⟨by simpa using hn.1.1,hn.1.2⟩
 have hms:∀m∈e.ms,PB m∧(mB m).length≤36:=fun m hm=>M8 (List.all_eq_true.1 hN.2 m hm)
 have hnm:=Fr (Bool.and_eq_true_iff.1 hN.1).1;have hlen:(bl e.name++Lh e.ms).length≤2000:=by
  rw[SX,C6];unfold Lh;rw[SX];have h2:=PN fun m hm=>(hms m hm).2
  have h3:e.ms.length*(36+1)≤8*37:=Nat.mul_le_mul_right _ hm8;have h4:(if e.ms.length=0 then([]:List Nat)else[125]).length≤1:=by split<;>simp
  omega
 have z0:Bc 0:=CR.1;refine⟨?_,⟨⟨by unfold Bc;show _≤(1:Int)∧(1:Int)≤_;omega,z0,z0,z0,z0,z0,z0⟩,hok.2.1,hok.2.2.1,(fun s hs=>nomatch hs),hok.2.2.2.2.1,Nat.zero_le _⟩,by omega,by omega,⟨by omega,fun m hm=>(hms m hm).1⟩,hlen⟩;have hsh:BN (GE e.name e.ms)=true:=by simp[BN,GE,Ex.kind,Ex.fn,Ex.kids,Ex.num,Ex.den,Ex.window,Ex.offset,Ex.name,Ex.ms,Ex.k,Ex.bys]
 have hna:Bo (GE e.name e.ms)=true:=by
  have e1:Bo (GE e.name e.ms)=((decide ((1:Int)≠1)||(CQ e.name&& !H7 e.name))&&e.ms.all BU&&IA []):=rfl;rw[e1,hN.1,hN.2];rfl
 have hwi:Ai (GE e.name e.ms)=true:=by simp[Ai,GE,Ex.kind,Ex.fn,Ex.window,Ex.offset,Ex.k]
 have hnv:Bj (GE e.name e.ms)=0:=by
  unfold Bj;rw[hsh,hna,hwi,SQ (by decide),SQ (by decide),SQ (by show ¬(8<e.ms.length∨8<0);omega),SQ (by decide)]
 unfold Ca;rw[SQ (by show ¬(12<0+1∨200<1+0);omega),Gu,hnv];rfl
def Hl (bys:List ByteArray):ByteArray:=⟨(Lib.join (bys.map (·.data.toList)) [44]).toArray⟩
theorem MW {N:Nat}:∀{l:List (List UInt8)},(∀s∈l,s.length≤N)→Lib.lens l≤l.length*N
 |[],_=>by simp[Lib.lens]
 |x::r,h=>by
  have h1:=h x List.mem_cons_self;have h2:=MW (l:=r) fun s hs=>h s (List.mem_cons_of_mem _ hs)
  simp only[Lib.lens,List.map_cons,List.sum_cons,List.length_cons,Nat.add_mul]at h2 ⊢;omega
theorem PV {N:Nat} {l:List (List UInt8)} (h:∀s∈l,s.length≤N):(Lib.join l [44]).length≤l.length*(N+1):=by
 cases l with
 |nil=>simp[Lib.join_nil]
 |cons x r=>
  have h1:=h x List.mem_cons_self;have h2:=MW (l:=r) fun s hs=>h s (List.mem_cons_of_mem _ hs)
  have h3:(r.length+1)*(N+1)=r.length*N+r.length+N+1:=by rw[Nat.add_mul,Nat.mul_add];omega
  rw[Lib.join_cons,SX,Lib.joinTail_length];simp only[List.length_cons,List.length_nil];rw[h3];omega
def P6 (bys:List ByteArray):Prop:=bys.length≤1000∧(Hl bys).size≤2000
theorem L8 {e:Ex} (hv:Bj e=0):P6 e.bys:=by
 obtain⟨hs,hn,hm8,hb8,hw⟩:=Ft hv;have hB:IA e.bys=true:=by
  unfold Bo at hn;rw[Bool.and_eq_true]at hn;exact hn.2
 have hall:∀s∈e.bys,s.size≤16:=by
  intro s hs;obtain⟨i,hi,rfl⟩:=List.getElem_of_mem hs;have h1:=List.all_eq_true.1 hB i (List.mem_range.2 hi);unfold O7 at h1;rw[SF hi]at h1;simp only[Bool.and_eq_true]at h1;exact(Fr h1.1).2
 refine⟨by omega,?_⟩;have h2:=PV (N:=16) (l:=e.bys.map (·.data.toList)) fun s hs=>by
  obtain⟨b,hb,rfl⟩:=List.mem_map.1 hs;exact hall b hb
 rw[List.length_map]at h2;have h3:e.bys.length*(16+1)≤8*17:=Nat.mul_le_mul_right _ hb8;unfold Hl;show(List.toArray _).size≤2000;rw[List.size_toArray];omega
end Go.Proofs.YthpflelgbadkcaaGreatDoor
