/- What the card of the law stands on: MsPl, Wr2. -/
import Derived.Test.YthpflelgbadkcaaGreatDoorRewriteTypesP01
import Derived.Test.YthpflelgbadkcaaGreatDoorRewriteTypesP18
import Derived.Test.YthpflelgbadkcaaGreatDoorRewriteTypesP08
import Derived.Test.YthpflelgbadkcaaGreatDoorRewriteTypesP17
import Derived.Lib.Join
import Derived.Test.YthpflelgbadkcaaGreatDoorRewriteTypesP19
set_option maxRecDepth 100000
set_option maxHeartbeats 12800000
set_option linter.unusedVariables false
set_option linter.unusedSimpArgs false
namespace Go.Proofs.YthpflelgbadkcaaGreatDoor
open Pl
def UG (l:List Nat):ByteArray:=⟨(l.map UInt8.ofNat).toArray⟩
theorem T1 {l:List Nat} (h:Bytes l):bl (UG l)=l:=by
 unfold bl UG;rw[List.toList_toArray,List.map_map]
 conv=>rhs;rw[←List.map_id l]
 refine List.map_congr_left fun x hx=>?_
 have:=h x hx;simp only[Function.comp,id];exact UInt8.toNat_ofNat_of_lt' (by show x<256;omega)
def mB (m:Mt):List Nat:=bl m.1++bl (Hd m.2.1.toNat)++bl ((⟨#[34]⟩:ByteArray)++m.2.2++⟨#[34]⟩)
def FL:List Mt→List Nat
 |[]=>[]
 |m::ms=>44::(mB m++FL ms)
def Co:List Mt→List Nat
 |[]=>[]
 |m::ms=>123::(mB m++FL ms)
def Mi (ms:List Mt):List Nat:=Co ms++(if ms.length=0 then[]else[125])
theorem KM:∀{l:List Mt} {j:Nat} {m:Mt},l[j]? =some m→FL (l.take (j+1))=FL (l.take j)++44::mB m
 |[],j,m,h=>by simp at h
 |a::tl,0,m,h=>by
  obtain rfl:a=m:=by simpa using h
  simp[FL]
 |a::tl,j+1,m,h=>by
  rw[List.take_succ_cons,List.take_succ_cons];unfold FL;rw[KM (by simpa using h)];simp
theorem IC {l:List Mt} {j:Nat} {m:Mt} (h:l[j]? =some m):Co (l.take (j+1))=Co (l.take j)++(if j=0 then 123 else 44)::mB m:=by
 cases l with
 |nil=>simp at h
 |cons a tl=>
  cases j with
  |zero=>
   obtain rfl:a=m:=by simpa using h
   simp[Co,FL]
  |succ j=>
   rw[List.take_succ_cons,List.take_succ_cons];show 123::(mB a++FL (tl.take (j+1)))=123::(mB a++FL (tl.take j))++_;rw[KM (by simpa using h),VM (by omega)];simp
theorem OJ:∀(l:List Mt) (j:Nat),(FL (l.take j)).length≤(FL l).length
 |[],j=>by simp
 |a::tl,0=>by simp[FL]
 |a::tl,j+1=>by
  rw[List.take_succ_cons];unfold FL;have:=OJ tl j;simp only[List.length_cons,VR];omega
theorem TG (l:List Mt) (j:Nat):(Co (l.take j)).length≤(Co l).length:=by
 cases l with
 |nil=>simp
 |cons a tl=>
  cases j with
  |zero=>simp[Co]
  |succ j=>
   rw[List.take_succ_cons];show(123::(mB a++FL (tl.take j))).length≤(123::(mB a++FL tl)).length;have:=OJ tl j;simp only[List.length_cons,VR];omega
def QZ (m:Mt):Prop:=(∃f:Nat,f<3∧m.2.1=f)∧m.1.size≤1000∧m.2.2.size≤1000
def Rc (ms:List Mt):Prop:=ms.length≤1000∧∀m∈ms,QZ m
theorem Jb:Rc []:=⟨Nat.zero_le _,fun m hm=>nomatch hm⟩
theorem ID {f:Nat} (h:f<3):(Hd f).size≤2:=by
 rcases(show f=0∨f=1∨f=2 by omega)with rfl|rfl|rfl<;>decide
theorem Qi {m:Mt} (h:QZ m):(mB m).length=m.1.size+(Hd m.2.1.toNat).size+(m.2.2.size+2):=by
 unfold mB;rw[VR,VR,CD,CD,CD,ByteArray.size_append,ByteArray.size_append];show _+_+(1+_+1)=_;omega
theorem MQ {N:Nat}:∀{ms:List Mt},(∀m∈ms,(mB m).length≤N)→(FL ms).length≤ms.length*(N+1)
 |[],_=>by simp[FL]
 |m::ms,h=>by
  unfold FL;have h1:=h m List.mem_cons_self;have h2:=MQ fun k hk=>h k (List.mem_cons_of_mem _ hk)
  rw[List.length_cons,VR,List.length_cons,Nat.add_mul];omega
theorem Qc {N:Nat} {ms:List Mt} (h:∀m∈ms,(mB m).length≤N):(Co ms).length≤ms.length*(N+1):=by
 have:=MQ h;cases ms with
 |nil=>exact this
 |cons m tl=>exact this
theorem Gl {a:Nat} {b:List Nat} (ha:a<256) (hb:Bytes b):Bytes (a::b):=fun x hx=>by
 rcases List.mem_cons.1 hx with rfl|h
 ·exact ha
 exact hb x h
theorem ME (m:Mt):Bytes (mB m):=DR (DR (Er _) (Er _)) (Er _)
theorem J2:∀ms:List Mt,Bytes (FL ms)
 |[]=>fun x hx=>nomatch hx
 |m::ms=>Gl (by decide) (DR (ME m) (J2 ms))
theorem KP (ms:List Mt):Bytes (Mi ms):=by
 have h1:Bytes (Co ms):=by
  cases ms with
  |nil=>exact fun x hx=>nomatch hx
  |cons m tl=>exact Gl (by decide) (DR (ME m) (J2 tl))
 refine DR h1 ?_;split
 ·exact fun x hx=>nomatch hx
 exact Gl (by decide) fun x hx=>nomatch hx
def Ge (nm:ByteArray) (ms:List Mt):Ex:= .mk 1 0 0 0 0 0 0 nm ms [] []
def NU (nm:ByteArray) (ms:List Mt):ByteArray:=if ms.length=0 then nm else UG (bl nm++Mi ms)
theorem O4 (nm:ByteArray) (ms:List Mt):bl (NU nm ms)=bl nm++Mi ms:=by
 unfold NU;split
 ·rename_i h
  obtain rfl:=List.length_eq_zero_iff.1 h;show bl nm=bl nm++([]++[]);simp
 exact T1 (DR (Er _) (KP _))
def Lv (nm:ByteArray) (ms:List Mt):Prop:=DP (Ge nm ms)=0∧Bz (Ge nm ms)∧0<nm.size∧nm.size≤1000∧Rc ms∧(bl nm++Mi ms).length≤2000
theorem Gf {s:ByteArray} (h:CW s=true):1≤s.size∧s.size≤16:=by
 unfold CW at h;rw[Bool.and_eq_true]at h;exact VH h.1
theorem MX {s:ByteArray} (h:DM s=true):s.size≤16:=by
 unfold DM at h;rw[Bool.and_eq_true]at h;exact VH h.1
theorem NB {m:Mt} (h:BX m=true):QZ m∧(mB m).length≤36:=by
 unfold BX at h;rw[Bool.and_eq_true,Bool.and_eq_true]at h;have h1:=Gf h.1.1;have h2:=VH h.1.2;have h3:=MX h.2;have ho:QZ m:=⟨⟨m.2.1.toNat,by omega,by omega⟩,by omega,by omega⟩;refine⟨ho,?_⟩;rw[Qi ho];have:=ID (f:=m.2.1.toNat) (by omega);omega
theorem Gc {e:Ex} (h:Bq e=0):BH e=true∧Bs e=true∧e.ms.length≤8∧e.bys.length≤8∧Ad e=true:=by
 unfold Bq at h;split at h
 ·simp at h
 split at h
 ·simp at h
 split at h
 ·simp at h
 split at h
 ·simp at h
 rename_i h1 h2 h3 h4
 exact⟨by simpa using h1,by simpa using h2,by omega,by omega,by simpa using h4⟩
theorem MU {e:Ex} (h1:e.kind=1) (hok:Bz e) (hv:Bq e=0):Lv e.name e.ms:=by
 obtain⟨hs,hn,hm8,hb8,hw⟩:=Gc hv;have hN:(CW e.name&& !IF e.name)=true∧e.ms.all BX=true:=by
  unfold Bs at hn;rw[Bool.and_eq_true,Bool.and_eq_true,h1]at hn;exact⟨by simpa using hn.1.1,hn.1.2⟩
 have hms:∀m∈e.ms,QZ m∧(mB m).length≤36:=fun m hm=>NB (List.all_eq_true.1 hN.2 m hm)
 have hnm:=Gf (Bool.and_eq_true_iff.1 hN.1).1;have hlen:(bl e.name++Mi e.ms).length≤2000:=by
  rw[VR,CD];unfold Mi;rw[VR];have h2:=Qc fun m hm=>(hms m hm).2
  have h3:e.ms.length*(36+1)≤8*37:=Nat.mul_le_mul_right _ hm8;have h4:(if e.ms.length=0 then([]:List Nat)else[125]).length≤1:=by split<;>simp
  omega
 have z0:BI 0:=Cr.1;refine⟨?_,⟨⟨by unfold BI;show _≤(1:Int)∧(1:Int)≤_;omega,z0,z0,z0,z0,z0,z0⟩,hok.2.1,hok.2.2.1,(fun s hs=>nomatch hs),hok.2.2.2.2.1,Nat.zero_le _⟩,by omega,by omega,⟨by omega,fun m hm=>(hms m hm).1⟩,hlen⟩;have hsh:BH (Ge e.name e.ms)=true:=by simp[BH,Ge,Ex.kind,Ex.fn,Ex.kids,Ex.num,Ex.den,Ex.window,Ex.offset,Ex.name,Ex.ms,Ex.k,Ex.bys]
 have hna:Bs (Ge e.name e.ms)=true:=by
  have e1:Bs (Ge e.name e.ms)=((decide ((1:Int)≠1)||(CW e.name&& !IF e.name))&&e.ms.all BX&&Jo []):=rfl;rw[e1,hN.1,hN.2];rfl
 have hwi:Ad (Ge e.name e.ms)=true:=by simp[Ad,Ge,Ex.kind,Ex.fn,Ex.window,Ex.offset,Ex.k]
 have hnv:Bq (Ge e.name e.ms)=0:=by
  unfold Bq;rw[hsh,hna,hwi,VM (by decide),VM (by decide),VM (by show ¬(8<e.ms.length∨8<0);omega),VM (by decide)]
 unfold DP;rw[VM (by show ¬(12<0+1∨200<1+0);omega),I3,hnv];rfl
def IQ (bys:List ByteArray):ByteArray:=⟨(Lib.join (bys.map (·.data.toList)) [44]).toArray⟩
theorem ON {N:Nat}:∀{l:List (List UInt8)},(∀s∈l,s.length≤N)→Lib.lens l≤l.length*N
 |[],_=>by simp[Lib.lens]
 |x::r,h=>by
  have h1:=h x List.mem_cons_self;have h2:=ON (l:=r) fun s hs=>h s (List.mem_cons_of_mem _ hs)
  simp only[Lib.lens,List.map_cons,List.sum_cons,List.length_cons,Nat.add_mul]at h2 ⊢;omega
theorem Pp {N:Nat} {l:List (List UInt8)} (h:∀s∈l,s.length≤N):(Lib.join l [44]).length≤l.length*(N+1):=by
 cases l with
 |nil=>simp[Lib.join_nil]
 |cons x r=>
  have h1:=h x List.mem_cons_self;have h2:=ON (l:=r) fun s hs=>h s (List.mem_cons_of_mem _ hs)
  have h3:(r.length+1)*(N+1)=r.length*N+r.length+N+1:=by rw[Nat.add_mul,Nat.mul_add];omega
  rw[Lib.join_cons,VR,Lib.joinTail_length];simp only[List.length_cons,List.length_nil];rw[h3];omega
def Pu (bys:List ByteArray):Prop:=bys.length≤1000∧(IQ bys).size≤2000
theorem MI {e:Ex} (hv:Bq e=0):Pu e.bys:=by
 obtain⟨hs,hn,hm8,hb8,hw⟩:=Gc hv;have hB:Jo e.bys=true:=by
  unfold Bs at hn;rw[Bool.and_eq_true]at hn;exact hn.2
 have hall:∀s∈e.bys,s.size≤16:=by
  intro s hs;obtain⟨i,hi,rfl⟩:=List.getElem_of_mem hs;have h1:=List.all_eq_true.1 hB i (List.mem_range.2 hi);unfold PW at h1;rw[VB hi]at h1;simp only[Bool.and_eq_true]at h1;exact(Gf h1.1).2
 refine⟨by omega,?_⟩;have h2:=Pp (N:=16) (l:=e.bys.map (·.data.toList)) fun s hs=>by
  obtain⟨b,hb,rfl⟩:=List.mem_map.1 hs;exact hall b hb
 rw[List.length_map]at h2;have h3:e.bys.length*(16+1)≤8*17:=Nat.mul_le_mul_right _ hb8;unfold IQ;show(List.toArray _).size≤2000;rw[List.size_toArray];omega
end Go.Proofs.YthpflelgbadkcaaGreatDoor
namespace Go.Proofs.YthpflelgbadkcaaGreatDoor
open Go.RowKit Pl
def DD (e:Ex):Nat:=if e.kind=3 then(if e.fn=0∨e.fn=1 then 1 else 2)else 3
theorem Jp (e:Ex) (cs:List Value) (w:World) (hr:BU w w.heap.size e cs):Calls Tryz.prog 130 #[.agg cs.toArray] w fun e' w'=>e'= .returned (.int .i64 (DD e:Nat))∧A4 w w':=by
 obtain⟨vm,vb,vk,rfl, -⟩:=hr.open_;have hb:=VW w 29 (AC e vm vb vk).toArray;have hg:=(VU w).alloc (.cells (AC e vm vb vk).toArray 29);clear hr;go_enter Tryz.func130,Tryz.ntmps130;go_upto_region 1 with fail;change Code.wp _ _ _ _ (w.alloc (.cells (AC e vm vb vk).toArray 29));generalize w.alloc (.cells (AC e vm vb vk).toArray 29)=w1 at*;have c0:w1.cell? ⟨w.heap.size,0,none⟩=some (.int .i64 e.kind):=hb.cell 0;have c1:w1.cell? ⟨w.heap.size,1,none⟩=some (.int .i64 e.fn):=hb.cell 1;have HG:=V3 hg;clear hb hg;by_cases h3:e.kind=3
 ·have t0:(e.kind==3)=true:=by rw[VC];exact h3
  have t0':(e.kind !=3)=false:=by rw[bne,t0];rfl
  by_cases h0:e.fn=0
  ·have t1:(e.fn==0)=true:=by rw[VC];exact h0
   have HF:=V3 (show DD e=1 from by unfold DD;rw[VN h3,VN (.inl h0)]);clear h3 h0;go_wp2_with fail;go_ret;exact⟨by rw[HF.out];rfl,HG.out⟩
  have t1:(e.fn==0)=false:=by rw[V4];exact h0
  by_cases h1:e.fn=1
  ·have t2:(e.fn==1)=true:=by rw[VC];exact h1
   have HF:=V3 (show DD e=1 from by unfold DD;rw[VN h3,VN (.inr h1)]);clear h3 h0 h1;go_wp2_with fail;go_ret;exact⟨by rw[HF.out];rfl,HG.out⟩
  have t2:(e.fn==1)=false:=by rw[V4];exact h1
  have HF:=V3 (show DD e=2 from by unfold DD;rw[VN h3,VM (fun h=>h.elim h0 h1)]);clear h3 h0 h1;go_wp2_with fail;go_ret;exact⟨by rw[HF.out];rfl,HG.out⟩
 have t0:(e.kind==3)=false:=by rw[V4];exact h3
 have t0':(e.kind !=3)=true:=by rw[bne,t0];rfl
 have HF:=V3 (show DD e=3 from by unfold DD;rw[VM h3]);clear h3;go_wp2_with fail;go_ret;exact⟨by rw[HF.out];rfl,HG.out⟩
theorem Ou (e:Ex) (cs:List Value) (w:World) (base g:Nat) (bs:List Nat) (hr:BU w base e cs) (h:WS w base g bs) (hmt:PK w) (hmb:4<base) (hl:bs.length+(bl e.name++Mi e.ms).length<900000000) (hn:e.name.size≤1000000) (hm:Rc e.ms) (hf:e.fn=0) (ho:e.offset=0):Calls Tryz.prog 128 #[.pointer (some ⟨g,0,none⟩),.agg cs.toArray] w (Es base g (bs++(bl e.name++Mi e.ms)) w):=by
 obtain⟨vm,vb,vk,rfl,hms, -⟩:=hr.open_;have hms0:=hms;obtain⟨A,c,rfl,hc, -⟩:=hms;obtain⟨n,hnn⟩:∃n,(e.ms.map Ac).length=n:=⟨_,rfl⟩;rw[hnn]at hms0 hc ⊢;have hnl:n=e.ms.length:=by rw[←hnn,List.length_map]
 have hbs:=h.2.1;have hb:=VW w 29 (AC e (.slice A n c) vb vk).toArray;have hg:=(VU w).alloc (.cells (AC e (.slice A n c) vb vk).toArray 29);have HW:=V3 (h.grew hg);have HS:=V3 (fun w' (h:WS w' base g bs)=>Cf w' base g bs e.name h (by omega) hn);have HE:=V3 (V5 hf ho);have HN:=V3 hnl;have HM:=V3 hm;have HBS:=V3 hbs;have HLen:=V3 hl;have HMs:=V3 (fun w' (k:AA (fun i=>base≤i) w w')=>Cg.keep (B':=base) hms0 hbs (V6 _) k (fun i hi e=>by omega));have HMt:=V3 (fun w' (k:AA (fun i=>base≤i) w w')=>hmt.keep k (by omega));have hn1:n≤1000:=by rw[hnl];exact hm.1
 clear h hl hn hr hc hf ho hms0 hnl hm hbs hmt hmb hnn;go_enter Tryz.func128,Tryz.ntmps128;go_upto_region 1 with fail;change Code.wp _ _ _ _ (w.alloc (.cells (AC e (.slice A n c) vb vk).toArray 29));generalize w.alloc (.cells (AC e (.slice A n c) vb vk).toArray 29)=w1 at*;have c7:w1.cell? ⟨w.heap.size,7,none⟩=some (.string e.name):=hb.cell 7;have HG:=V3 hg;clear hg;go_upto_region 2 with(go_at_call 132;(with_reducible refine(HS.out _ HW.out).mono ?_);rintro e3 w4 ⟨⟨u,rfl⟩,hws,hk,hkb⟩;have HR:=V3 (V5 hws (V5 hk hkb));clear hws hk hkb);have hb4:AR w4 w.heap.size 29 (AC e (.slice A n c) vb vk).toArray:=HR.out.2.2 _ _ _ hb (by decide) (by decide);have HB4:=V3 hb4;have HK4:=V3 (show AA (fun i=>base≤i) w w4 from VV (Vb HG.out) HR.out.2.1 fun i _ h=>h);have HKB4:=V3 (show KB w w4 from(KB.grew HG.out).trans HR.out.2.2);have c8:w4.cell? ⟨w.heap.size,8,none⟩=some (.slice A n c):=hb4.cell 8;clear hb hb4 c7;go_wp2_with fail;go_loopw [4,5,13] (fun _ _ i wr=>∃(j:Nat),j≤n∧i= .int .i64 (j:Nat)∧WS wr base g (bs++bl e.name++Co (e.ms.take j))∧AA (fun i=>base≤i) w wr∧KB w4 wr) (fun _ _ i _=>n-(intOf i).toNat)
 case atStart=>exact⟨0,by omega,rfl,by simpa[Co]using HR.out.1,HK4.out,fun i t xs hb _ _=>hb⟩
 case round=>
  obtain⟨j,hj,rfl,hws,hkr,hkbr⟩:=hrel;have HWr:=V3 hws;have HKr:=V3 hkr;have HKB:=V3 hkbr;clear hws hkr hkbr;by_cases hlt:j<n
  ·have hjl:j<e.ms.length:=by rw[←HN.out];exact hlt
   obtain⟨m,hm'⟩:∃m,e.ms[j]? =some m:=⟨_,VB hjl⟩;have hmem:=VJ hm';have HMk:=V3 (HM.out.2 m hmem);obtain⟨f,hf3,hfe⟩:=HMk.out.1;have HF:=V3 (V5 hf3 hfe);have HLm:=V3 (show(mB m).length=m.1.size+(Hd f).size+(m.2.2.size+2) by rw[Qi HMk.out,HF.out.2];rfl);have HLn:=V3 (show(bs++bl e.name++Co (e.ms.take j)).length+1+(mB m).length<900000000 by
    have h1:(Co (e.ms.take (j+1))).length≤(Co e.ms).length:=TG e.ms (j+1);have h2:=HLen.out;rw[IC hm']at h1;unfold Mi at h2;simp only[VR,List.length_cons]at h1 h2 ⊢;omega)
   obtain⟨b,o,rfl,hrg⟩:∃b o,A=some ⟨b,o,none⟩∧wr.rangeAt b (o+j*3) (Ac m):=by
    obtain⟨A',c',hv, -,hx⟩:=HMs.out wr HKr.out;injection hv with hA;subst hA;obtain⟨b,o,rfl, -,hcell⟩:=hx (by rw[List.length_map];omega);exact⟨b,o,rfl,hcell j _ (by rw[List.getElem?_map,hm'];rfl)⟩
   have HRg:=V3 hrg;clear hjl hmem hf3 hfe hrg;by_cases hj0:j=0
   ·have t0:(((j:Nat):Int)==0)=true:=by rw[VC];omega
    have HCh:=V3 (show Co (e.ms.take (j+1))=Co (e.ms.take j)++123::mB m by rw[IC hm',VN (by omega)]);have HA:=V3 (fun w' (h:WS w' base g (bs++bl e.name++Co (e.ms.take j)))=>show Calls Tryz.prog 148 #[.pointer (some ⟨g,0,none⟩),.int .u8 123] w' (Es base g (bs++bl e.name++Co (e.ms.take j)++[123]) w')from EF w' base g _ 123 h (by have:=HLn.out;simp only[VR]at*;omega));have HB:=V3 (fun w' (h:WS w' base g (bs++bl e.name++Co (e.ms.take j)++[123]))=>Cf w' base g _ m.1 h (by have:=HLn.out;simp only[VR,List.length_cons,List.length_nil]at*;omega) (by have:=HMk.out.2.1;omega));have HC:=V3 (fun w' (h:WS w' base g (bs++bl e.name++Co (e.ms.take j)++[123]++bl m.1))=>Cf w' base g _ (Hd f) h (by have:=HLn.out;have:=HLm.out;simp only[VR,List.length_cons,List.length_nil,CD]at*;omega) (by have:=ID HF.out.1;omega));have HD:=V3 (fun w' (h:WS w' base g (bs++bl e.name++Co (e.ms.take j)++[123]++bl m.1++bl (Hd f)))=>Cf w' base g _ ((⟨#[34]⟩:ByteArray)++m.2.2++⟨#[34]⟩) h (by have:=HLn.out;have:=HLm.out;simp only[VR,List.length_cons,List.length_nil,CD]at*;omega) (by rw[ByteArray.size_append,ByteArray.size_append];have:=HMk.out.2.2;show 1+_+1≤_;omega));have hq1:(9223372036854775807<1+m.2.2.size)=False:=eq_false (by have:=HMk.out.2.2;omega);have hq2:(9223372036854775807<1+m.2.2.size+1)=False:=eq_false (by have:=HMk.out.2.2;omega);clear hj0;go_upto_region 8 with(first|((with_reducible refine AF 68 (.tmp 16) rfl ?_);refine wpList_load_mid rfl 68 (.tmp 16) rfl b (o+j*3) rfl (Ac m) _ HRg.out Tryz.underlying68 rfl FT ?_)|((with_reducible refine AG 68 (.tmp 5) (.tmp 17) rfl ?_);refine BL 68 (.tmp 5) (.tmp 17) (wr.heap.size) (Ac m) [.string ⟨#[]⟩,.int .i64 0,.string ⟨#[]⟩] 68 FT rfl (Di m) rfl rfl rfl rfl (VW wr 68 _) ?_;intro w5 hb5 k5 d5;have HG5:=V3 (show A4 wr w5 from VV ((VU wr).alloc _) k5 (fun i hi e=>by omega));have HB5:=V3 hb5;clear k5 d5 hb5)|(go_at_call 148;(with_reducible refine(HA.out w5 (HWr.out.grew HG5.out)).mono ?_);rintro e3 w6 ⟨⟨u,rfl⟩,hws,hk,hkb⟩;have HS6:=V3 (V5 hws (V5 hk hkb));clear hws hk hkb));have HB6:=V3 (HS6.out.2.2 _ _ _ HB5.out (by decide) (by decide));have d0:w6.cell? ⟨wr.heap.size,0,none⟩=some (.string m.1):=HB6.out.cell 0;clear c8 t0;go_upto_region 9 with(go_at_call 132;(with_reducible refine(HB.out w6 HS6.out.1).mono ?_);rintro e3 w7 ⟨⟨u,rfl⟩,hws,hk,hkb⟩;have HS7:=V3 (V5 hws (V5 hk hkb));clear hws hk hkb);have HB7:=V3 (HS7.out.2.2 _ _ _ HB6.out (by decide) (by decide));have HK7:=V3 (VV (VV (AA.grew HKr.out HG5.out) HS6.out.2.1 fun i _ h=>h) HS7.out.2.1 fun i _ h=>h);have d1:w7.cell? ⟨wr.heap.size,1,none⟩=some (.int .i64 (f:Nat)):=by rw[←HF.out.2];exact HB7.out.cell 1
    have ms7:w7.cell? ⟨4,f,none⟩=some (.string (Hd f)):=(HMt.out _ HK7.out).2 f (Hd f) (by have hf3:=HF.out.1;rcases(show f=0∨f=1∨f=2 by omega)with rfl|rfl|rfl<;>rfl);have hi1:(0:Int)≤(f:Int)∧(f:Int)<3:=by have:=HF.out.1;omega
    obtain⟨hi1,hi2⟩:=hi1;clear d0;go_upto_region 10 with(go_at_call 132;(with_reducible refine(HC.out w7 HS7.out.1).mono ?_);rintro e3 w8 ⟨⟨u,rfl⟩,hws,hk,hkb⟩;have HS8:=V3 (V5 hws (V5 hk hkb));clear hws hk hkb);have HB8:=V3 (HS8.out.2.2 _ _ _ HB7.out (by decide) (by decide));have d2:w8.cell? ⟨wr.heap.size,2,none⟩=some (.string m.2.2):=HB8.out.cell 2;clear d1 ms7 hi1 hi2;go_upto_region 11 with(go_at_call 132;(with_reducible refine(HD.out w8 HS8.out.1).mono ?_);rintro e3 w9 ⟨⟨u,rfl⟩,hws,hk,hkb⟩;have HS9:=V3 (V5 hws (V5 hk hkb));clear hws hk hkb);clear d2 hq1 hq2;go_wp2_with fail;go_roundw
    case rel=>
     refine⟨j+1,by omega,by go_num,?_,VV (VV HK7.out HS8.out.2.1 fun i _ h=>h) HS9.out.2.1 fun i _ h=>h,(((HKB.out.trans (KB.grew HG5.out)).trans HS6.out.2.2).trans HS7.out.2.2).trans (HS8.out.2.2.trans HS9.out.2.2)⟩;have h:=HS9.out.1;rw[HCh.out];have e1:mB m=bl m.1++bl (Hd f)++bl ((⟨#[34]⟩:ByteArray)++m.2.2++⟨#[34]⟩):=by unfold mB;rw[HF.out.2];rfl
     rw[e1];simpa only[List.append_assoc,List.cons_append,List.nil_append]using h
    case measure=>simp[intOf];omega
   have t0:(((j:Nat):Int)==0)=false:=by rw[V4];omega
   have HCh:=V3 (show Co (e.ms.take (j+1))=Co (e.ms.take j)++44::mB m by rw[IC hm',VM (by omega)]);have HA:=V3 (fun w' (h:WS w' base g (bs++bl e.name++Co (e.ms.take j)))=>show Calls Tryz.prog 148 #[.pointer (some ⟨g,0,none⟩),.int .u8 44] w' (Es base g (bs++bl e.name++Co (e.ms.take j)++[44]) w')from EF w' base g _ 44 h (by have:=HLn.out;simp only[VR]at*;omega));have HB:=V3 (fun w' (h:WS w' base g (bs++bl e.name++Co (e.ms.take j)++[44]))=>Cf w' base g _ m.1 h (by have:=HLn.out;simp only[VR,List.length_cons,List.length_nil]at*;omega) (by have:=HMk.out.2.1;omega));have HC:=V3 (fun w' (h:WS w' base g (bs++bl e.name++Co (e.ms.take j)++[44]++bl m.1))=>Cf w' base g _ (Hd f) h (by have:=HLn.out;have:=HLm.out;simp only[VR,List.length_cons,List.length_nil,CD]at*;omega) (by have:=ID HF.out.1;omega));have HD:=V3 (fun w' (h:WS w' base g (bs++bl e.name++Co (e.ms.take j)++[44]++bl m.1++bl (Hd f)))=>Cf w' base g _ ((⟨#[34]⟩:ByteArray)++m.2.2++⟨#[34]⟩) h (by have:=HLn.out;have:=HLm.out;simp only[VR,List.length_cons,List.length_nil,CD]at*;omega) (by rw[ByteArray.size_append,ByteArray.size_append];have:=HMk.out.2.2;show 1+_+1≤_;omega));have hq1:(9223372036854775807<1+m.2.2.size)=False:=eq_false (by have:=HMk.out.2.2;omega);have hq2:(9223372036854775807<1+m.2.2.size+1)=False:=eq_false (by have:=HMk.out.2.2;omega);clear hj0;go_upto_region 8 with(first|((with_reducible refine AF 68 (.tmp 16) rfl ?_);refine wpList_load_mid rfl 68 (.tmp 16) rfl b (o+j*3) rfl (Ac m) _ HRg.out Tryz.underlying68 rfl FT ?_)|((with_reducible refine AG 68 (.tmp 5) (.tmp 17) rfl ?_);refine BL 68 (.tmp 5) (.tmp 17) (wr.heap.size) (Ac m) [.string ⟨#[]⟩,.int .i64 0,.string ⟨#[]⟩] 68 FT rfl (Di m) rfl rfl rfl rfl (VW wr 68 _) ?_;intro w5 hb5 k5 d5;have HG5:=V3 (show A4 wr w5 from VV ((VU wr).alloc _) k5 (fun i hi e=>by omega));have HB5:=V3 hb5;clear k5 d5 hb5)|(go_at_call 148;(with_reducible refine(HA.out w5 (HWr.out.grew HG5.out)).mono ?_);rintro e3 w6 ⟨⟨u,rfl⟩,hws,hk,hkb⟩;have HS6:=V3 (V5 hws (V5 hk hkb));clear hws hk hkb));have HB6:=V3 (HS6.out.2.2 _ _ _ HB5.out (by decide) (by decide));have d0:w6.cell? ⟨wr.heap.size,0,none⟩=some (.string m.1):=HB6.out.cell 0;clear c8 t0;go_upto_region 9 with(go_at_call 132;(with_reducible refine(HB.out w6 HS6.out.1).mono ?_);rintro e3 w7 ⟨⟨u,rfl⟩,hws,hk,hkb⟩;have HS7:=V3 (V5 hws (V5 hk hkb));clear hws hk hkb);have HB7:=V3 (HS7.out.2.2 _ _ _ HB6.out (by decide) (by decide));have HK7:=V3 (VV (VV (AA.grew HKr.out HG5.out) HS6.out.2.1 fun i _ h=>h) HS7.out.2.1 fun i _ h=>h);have d1:w7.cell? ⟨wr.heap.size,1,none⟩=some (.int .i64 (f:Nat)):=by rw[←HF.out.2];exact HB7.out.cell 1
   have ms7:w7.cell? ⟨4,f,none⟩=some (.string (Hd f)):=(HMt.out _ HK7.out).2 f (Hd f) (by have hf3:=HF.out.1;rcases(show f=0∨f=1∨f=2 by omega)with rfl|rfl|rfl<;>rfl);have hi1:(0:Int)≤(f:Int)∧(f:Int)<3:=by have:=HF.out.1;omega
   obtain⟨hi1,hi2⟩:=hi1;clear d0;go_upto_region 10 with(go_at_call 132;(with_reducible refine(HC.out w7 HS7.out.1).mono ?_);rintro e3 w8 ⟨⟨u,rfl⟩,hws,hk,hkb⟩;have HS8:=V3 (V5 hws (V5 hk hkb));clear hws hk hkb);have HB8:=V3 (HS8.out.2.2 _ _ _ HB7.out (by decide) (by decide));have d2:w8.cell? ⟨wr.heap.size,2,none⟩=some (.string m.2.2):=HB8.out.cell 2;clear d1 ms7 hi1 hi2;go_upto_region 11 with(go_at_call 132;(with_reducible refine(HD.out w8 HS8.out.1).mono ?_);rintro e3 w9 ⟨⟨u,rfl⟩,hws,hk,hkb⟩;have HS9:=V3 (V5 hws (V5 hk hkb));clear hws hk hkb);clear d2 hq1 hq2;go_wp2_with fail;go_roundw
   case rel=>
    refine⟨j+1,by omega,by go_num,?_,VV (VV HK7.out HS8.out.2.1 fun i _ h=>h) HS9.out.2.1 fun i _ h=>h,(((HKB.out.trans (KB.grew HG5.out)).trans HS6.out.2.2).trans HS7.out.2.2).trans (HS8.out.2.2.trans HS9.out.2.2)⟩;have h:=HS9.out.1;rw[HCh.out];have e1:mB m=bl m.1++bl (Hd f)++bl ((⟨#[34]⟩:ByteArray)++m.2.2++⟨#[34]⟩):=by unfold mB;rw[HF.out.2];rfl
    rw[e1];simpa only[List.append_assoc,List.cons_append,List.nil_append]using h
   case measure=>simp[intOf];omega
  obtain rfl:j=n:=by omega
  have hes:e.ms.take j=e.ms:=List.take_of_length_le (by rw[←HN.out];exact V6 _);rw[hes]at HWr;have hb4:AR wr w.heap.size 29 (AC e (.slice A j c) vb vk).toArray:=HKB.out _ _ _ HB4.out (by decide) (by decide);have c8r:wr.cell? ⟨w.heap.size,8,none⟩=some (.slice A j c):=hb4.cell 8;by_cases hj0:j=0
  ·have h0:Mi e.ms=Co e.ms:=by unfold Mi;rw[VN (by rw[←HN.out];exact hj0)];simp
   have t0:decide (((j:Nat):Int)>0)=false:=by rw[decide_eq_false_iff_not];omega
   have c1:wr.cell? ⟨w.heap.size,1,none⟩=some (.int .i64 0):=by rw[←HE.out.1];exact hb4.cell 1
   have c3:wr.cell? ⟨w.heap.size,3,none⟩=some (.int .i64 0):=by rw[←HE.out.2];exact hb4.cell 3
   have HZ:=V3 h0;clear hb4 h0 c8;go_wp2_with fail;go_end0;refine⟨⟨_,rfl⟩,?_,HKr.out,HKB4.out.trans HKB.out⟩;rw[HZ.out,←List.append_assoc];exact HWr.out
  have h0:Mi e.ms=Co e.ms++[125]:=by unfold Mi;rw[VM (by rw[←HN.out];exact hj0)]
  have t0:decide (((j:Nat):Int)>0)=true:=by rw[decide_eq_true_iff];omega
  have HZ:=V3 h0;have HA:=V3 (fun w' (h:WS w' base g (bs++bl e.name++Co e.ms))=>show Calls Tryz.prog 148 #[.pointer (some ⟨g,0,none⟩),.int .u8 125] w' (Es base g (bs++bl e.name++Co e.ms++[125]) w')from EF w' base g _ 125 h (by have h2:=HLen.out;rw[HZ.out]at h2;simp only[VR,List.length_cons]at h2 ⊢;omega));clear h0 c8;have HB9:=V3 hb4;clear hb4;go_upto_region 14 with(go_at_call 148;(with_reducible refine(HA.out _ HWr.out).mono ?_);rintro e3 w6 ⟨⟨u,rfl⟩,hws,hk,hkb⟩;have HS6:=V3 (V5 hws (V5 hk hkb));clear hws hk hkb);have hb6:AR w6 w.heap.size 29 (AC e (.slice A j c) vb vk).toArray:=HS6.out.2.2 _ _ _ HB9.out (by decide) (by decide);have c1:w6.cell? ⟨w.heap.size,1,none⟩=some (.int .i64 0):=by rw[←HE.out.1];exact hb6.cell 1
  have c3:w6.cell? ⟨w.heap.size,3,none⟩=some (.int .i64 0):=by rw[←HE.out.2];exact hb6.cell 3
  clear hb6 c8r;go_wp2_with fail;go_end0;refine⟨⟨_,rfl⟩,?_,VV HKr.out HS6.out.2.1 fun i _ h=>h,(HKB4.out.trans HKB.out).trans HS6.out.2.2⟩;have h:=HS6.out.1;rw[HZ.out];simpa only[List.append_assoc]using h
end Go.Proofs.YthpflelgbadkcaaGreatDoor
