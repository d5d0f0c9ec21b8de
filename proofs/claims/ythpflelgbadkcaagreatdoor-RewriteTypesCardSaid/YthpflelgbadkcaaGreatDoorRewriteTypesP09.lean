/- What the card of the law stands on: NamesV, NamesR, Match, NamedPl, OrdG, Named. -/
import Derived.Test.YthpflelgbadkcaaGreatDoorRewriteTypesP01
import Derived.Test.YthpflelgbadkcaaGreatDoorRewriteTypesP08
import Derived.Test.YthpflelgbadkcaaGreatDoorRewriteTypesP06
import Derived.Test.YthpflelgbadkcaaGreatDoorRewriteTypesP04
import Derived.Test.YthpflelgbadkcaaGreatDoorRewriteTypesP03
import Derived.Laws.Cover1
import Derived.Deep.DeepCutAuto
set_option maxRecDepth 100000
set_option maxHeartbeats 12800000
set_option linter.unusedVariables false
set_option linter.unusedSimpArgs false
namespace Go.Proofs.YthpflelgbadkcaaGreatDoor
open Go.RowKit Pl
theorem PM (s:ByteArray) (hs:SG s) (w:World):Calls Tryz.prog 123 #[.string s] w fun e w'=>e= .returned (.bool (DM s))∧A4 w w':=by
 have H3:=V3 hs;clear hs;go_enter Tryz.func123,Tryz.ntmps123;by_cases h2:(16:Int)<(s.size:Int)
 ·have t2:decide ((16:Int)<(s.size:Int))=true:=by simpa using h2
  have HF:=V3 (show DM s=false by
   rcases hb:DM s
   ·rfl
   have:=((Gb s).1 hb).1;omega)
  clear h2;go_wp2_with fail;go_ret;exact⟨by rw[HF.out];rfl,VU _⟩
 have t2:decide ((16:Int)<(s.size:Int))=false:=by simp;omega
 have HL:=V3 (show s.size≤16 by omega);clear h2;go_wp2_with fail;go_loopw [4] (fun _ wr=>∃(p:Nat),p≤s.size∧wr=w.iter s p∧∀i (h:i<s.size),i<p→Eb (s[i]'h).toNat=true) (fun _ wr=>s.size-OG wr w.heap.size)
 case atStart=>exact⟨0,by omega,rfl,fun i _ h=>by omega⟩
 case round=>
  obtain⟨p,hp,rfl,hinv⟩:=hrel;have HI:=V3 hinv;clear hinv;by_cases hlt:p<s.size
  ·have hb:=H3.out p hlt;have hnx:=fun ty=>run_next_ascii (P:=Tryz.prog) w s p ty hlt hb
   obtain⟨b,hbe⟩:∃b,(s[p]'hlt).toNat=b:=⟨_,rfl⟩;rw[hbe]at hnx hb;have HBE:=V3 hbe;have HLT:=V3 hlt;have hnext:Eb b=true→∀i (h:i<s.size),i<p+1→Eb (s[i]'h).toNat=true:=fun hc i h hi=>by
    by_cases he:i=p
    ·subst he;rw[hbe];exact hc
    exact HI.out i h (by omega)
   have HX:=V3 hnext;clear hbe hnext;by_cases hok:Eb b=true
   ·have HC:=V3 (HX.out hok);simp[Eb]at hok;have t3:decide ((b:Int)<33)=false:=by simp;omega
    have t4:decide ((126:Int)<(b:Int))=false:=by simp;omega
    have e1:((b:Int)==34)=false:=by rw[V4];omega
    have e2:((b:Int)==92)=false:=by rw[V4];omega
    have e3:((b:Int)==44)=false:=by rw[V4];omega
    have e4:((b:Int)==123)=false:=by rw[V4];omega
    have e5:((b:Int)==125)=false:=by rw[V4];omega
    clear hok;go_wp2_with fail;go_roundw
    case rel=>exact⟨p+1,by omega,rfl,HC.out⟩
    case measure=>rw[CS,CS];omega
   have hok:Eb b=false:=by simpa using hok
   have HF:=V3 (Mp HBE.out hok);by_cases t3:(b:Int)<33
   ·have t3:decide ((b:Int)<33)=true:=by simpa using t3
    clear hok;go_wp2_with fail;go_ret;exact⟨by rw[HF.out];rfl,DO w s _⟩
   have t3':decide ((b:Int)<33)=false:=by simpa using t3
   by_cases t4:(126:Int)<(b:Int)
   ·have t4:decide ((126:Int)<(b:Int))=true:=by simpa using t4
    clear hok t3;go_wp2_with fail;go_ret;exact⟨by rw[HF.out];rfl,DO w s _⟩
   have t4':decide ((126:Int)<(b:Int))=false:=by simpa using t4
   have hor:b=34∨b=92∨b=44∨b=123∨b=125:=by simp[Eb]at hok;omega
   clear hok t3 t4 t3' t4' hb HX HI HLT HBE;rcases hor with rfl|rfl|rfl|rfl|rfl<;>(go_wp2_with fail;go_ret;exact⟨by rw[HF.out];rfl,DO w s _⟩)
  have hnx:=fun ty=>run_next_end (P:=Tryz.prog) w s p ty hlt
  have HT:=V3 ((Gb s).2 ⟨HL.out,fun i h=>HI.out i h (by omega)⟩);go_wp2_with fail;go_ret;exact⟨by rw[HT.out];rfl,DO w s p⟩
theorem LM (m:Mt) (h1:SG m.1) (h2:SG m.2.2) (w:World):Calls Tryz.prog 95 #[.agg (Ac m).toArray] w fun e w'=>e= .returned (.bool (BX m))∧A4 w w':=by
 obtain⟨a,k,c⟩:=m;have hb:=VW w 68 ([.string a,.int .i64 k,.string c]:List Value).toArray;have hG:=(VU w).alloc (.cells ([.string a,.int .i64 k,.string c]:List Value).toArray 68);change Calls Tryz.prog 95 #[.agg ([.string a,.int .i64 k,.string c]:List Value).toArray] w _;go_enter Tryz.func95,Tryz.ntmps95;go_upto_region 1 with fail;change Code.wp _ _ _ _ (w.alloc (.cells ([.string a,.int .i64 k,.string c]:List Value).toArray 68));generalize w.alloc (.cells ([.string a,.int .i64 k,.string c]:List Value).toArray 68)=w1 at*;have c0:w1.cell? ⟨w.heap.size,0,none⟩=some (.string a):=hb.cell 0;have c1:w1.cell? ⟨w.heap.size,1,none⟩=some (.int .i64 k):=hb.cell 1;have c2:w1.cell? ⟨w.heap.size,2,none⟩=some (.string c):=hb.cell 2;have HG:=V3 hG;have HB:=V3 hb;clear hG hb;have HNm:=V3 (fun w'=>J6 a h1 w');have HVl:=V3 (fun w'=>PM c h2 w');by_cases hk:0≤k∧k≤2
 ·have hv:∀q1 q2:Bool,CW a=q1→DM c=q2→BX (a,k,c)=(q1&&q2):=fun q1 q2 e1 e2=>by unfold BX;rw[e1,e2,decide_eq_true hk,Bool.and_true]
  obtain⟨q1,hq1⟩:∃q,CW a=q:=⟨_,rfl⟩;obtain⟨q2,hq2⟩:∃q,DM c=q:=⟨_,rfl⟩;have HV:=V3 (hv q1 q2 hq1 hq2);rw[hq1]at HNm;rw[hq2]at HVl;have HK:k=0∨k=1∨k=2:=by omega
  clear hv hq1 hq2 hk h1 h2;rcases HK with rfl|rfl|rfl<;>rcases q1 with _|_<;>(
   go_wp2_with(first|(go_at_call 93;refine(HNm.out _).mono ?_;rintro e3 w3 ⟨rfl,k3⟩;have d2:w3.cell? ⟨w.heap.size,2,none⟩=some (.string c):=(HB.out.grew k3).cell 2)|(go_at_call 123;refine(HVl.out _).mono ?_;rintro e4 w4 ⟨rfl,k4⟩));go_ret;refine⟨by rw[HV.out];rfl,?_⟩
   first|exact(HG.out.trans k3).trans k4|exact HG.out.trans k3)
 have HV:=V3 (show BX (a,k,c)=false by unfold BX;rw[VI hk];simp);have k0:(k==0)=false:=by rw[V4];omega
 have k1:(k==1)=false:=by rw[V4];omega
 have k2:(k==2)=false:=by rw[V4];omega
 clear hk h1 h2;go_wp2_with fail;go_ret;exact⟨by rw[HV.out];rfl,HG.out⟩
def Mk (s:ByteArray):Prop:=SG s∧s.size≤1000
def TK (e:Ex):Prop:=Mk e.name∧(∀m∈e.ms,Mk m.1∧Mk m.2.2)∧(∀s∈e.bys,Mk s)∧e.ms.length≤1000∧e.bys.length≤1000
def Cz (e:Ex):Bool:=decide (e.kind=1)&&(!CW e.name||Ih DL e.name)
theorem Ek (e:Ex):Bs e=(!Cz e&&e.ms.all BX&&Jo e.bys):=by
 unfold Bs Cz IF Ih;by_cases h:e.kind=1<;>simp[h]
theorem Mz {e:Ex} (h:Cz e=true):Bs e=false:=by rw[Ek,h];rfl
theorem RB {e:Ex} {m:Mt} (hm:m∈e.ms) (h:BX m=false):Bs e=false:=by
 rw[Ek,show e.ms.all BX=false from List.all_eq_false.2 ⟨m,hm,by rw[h];simp⟩];simp
theorem Jm {e:Ex} {j:Nat} (hj:j<e.bys.length) (h:PW e.bys j=false):Bs e=false:=by
 rw[Ek,show Jo e.bys=false from List.all_eq_false.2 ⟨j,List.mem_range.2 hj,by rw[h];simp⟩];simp
theorem RJ {e:Ex} (h1:Cz e=false) (h2:∀m∈e.ms,BX m=true) (h3:∀j,j<e.bys.length→PW e.bys j=true):Bs e=true:=by
 rw[Ek,h1,List.all_eq_true.2 h2,show Jo e.bys=true from List.all_eq_true.2 fun j hj=>h3 j (List.mem_range.1 hj)];rfl
theorem Mb {l:List ByteArray} {s:ByteArray} (h:l[0]? =some s):PW l 0=CW s:=by
 unfold PW;rw[h];simp
theorem M0 {l:List ByteArray} {k:Nat} {s r:ByteArray} (h:l[k+1]? =some s) (h2:l[k]? =some r):PW l (k+1)=(CW s&& !U6 s r):=by
 unfold PW;rw[h];simp only[h2]
theorem Di (m:Mt):∀v∈Ac m,v.oneCell'=true:=by
 intro v hv;simp[Ac]at hv;rcases hv with rfl|rfl|rfl<;>rfl
def SV:List Value:=[.string ⟨#[]⟩,.int .i64 0,.string ⟨#[]⟩]
end Go.Proofs.YthpflelgbadkcaaGreatDoor
namespace Go.Proofs.YthpflelgbadkcaaGreatDoor
open Go.RowKit
section
variable {P:Program} {ops:Array Oper} {Q:Exit→Act→World→Prop} {md:Region.Mode}
def GD (md:Region.Mode) (ops:Array Oper) (i:Nat) (t:Tmp):Bool:=(List.range ops.size).all fun j=>match ops[j]? with|some oj=>oj.dst !=some t||Region.waitsFor md ops i j|none=>true
def Ij (md:Region.Mode) (ops:Array Oper) (i:Nat):Bool:=match ops[i]? with
 |some o=>(match o.guard with
   |none=>true
   |some (j,_)=>match ops[j]? with
    |some oj=>match oj.dst with
     |some t=>GD md ops i t
     |none=>true
    |none=>true)&&(o.op.operands.all fun x=>match x with
   | .tmp t=>GD md ops i t
   |_=>true)
 |none=>false
def LB (md:Region.Mode) (ops:Array Oper):Bool:=(List.range ops.size).all (Ij md ops)&&MO md ops
structure Rr (ops:Array Oper) (G:Act) (w0:World) (listed:Array Bool) (a:Act) (w:World):Prop where
 ex:∀k,(∀j o,ops[j]? =some o→o.dst=some k→listed.getD j false=true)→a.tmps[k]? =G.tmps[k]?
 sz:a.tmps.size=G.tmps.size
 df:a.defers=G.defers
 grew:A4 w0 w
 size:listed.size=ops.size
theorem Ni {G:Act} {w0:World} {listed:Array Bool} {a:Act} {w:World} {i:Nat} {t:Tmp} {oi:Oper} (hI:Rr ops G w0 listed a w) (hoi:ops[i]? =some oi) (hdep:∀e∈oi.after,Region.binds md e=true→listed.getD e.on false=true) (h:GD md ops i t=true):a.tmps[t]? =G.tmps[t]? :=
 hI.ex t fun j o ho hod=>by
  have hj:j<ops.size:=(VK.1 ho).1;have h3:=List.all_eq_true.1 h j (List.mem_range.2 hj);simp only[ho,hod]at h3;have h4:Region.waitsFor md ops i j=true:=by simpa using h3
  obtain⟨o',ho',e,he,hbd,hon⟩:=Region.waitsFor_spec h4;obtain rfl:oi=o':=VE (hoi.symm.trans ho');rw[←hon];exact hdep e he hbd
theorem SR (hB0:LB md ops=true) (hs:Region.noSelect ops=true) (G:Act) (w0:World)
  (hst:∀(i:Nat) (o:Oper),ops[i]? =some o→(Region.wanted o (yielded ops G.tmps)=true→∀w,A4 w0 w→o.wp P G w (fun a' w'=>a'=G∧A4 w w') (fun _ _ _=>False))∧(Region.wanted o (yielded ops G.tmps)=false→G.put o.dst undef=G))
  (T:∀w fuel,A4 w0 w→wpAny P md ops Q fuel (EL ops.size ops.size) G w):
  ∀fuel listed a w,Rr ops G w0 listed a w→EG ops.size listed≤fuel→wpAny P md ops Q fuel listed a w:=by
 unfold LB at hB0;simp only[Bool.and_eq_true]at hB0;obtain⟨hhd,hbk⟩:=hB0;have hdone:∀fuel listed a w,Rr ops G w0 listed a w→EG ops.size listed=0→wpAny P md ops Q fuel listed a w:=by
  intro fuel listed a w hI h0;have hall:=Et h0;have ha:a=G:=by
   have ht:a.tmps=G.tmps:=Array.ext_getElem? fun k=>hI.ex k fun j o ho _=>hall j (VK.1 ho).1
   have hd:=hI.df;cases a;cases G;simp at ht hd;rw[ht,hd]
  rw[ha,L0 hI.size hall (fun i hi=>by rw[Array.getD_eq_getD_getElem?,Array.getElem?_eq_none (by rw[hI.size];exact hi)];rfl)];exact T w fuel hI.grew
 intro fuel
 induction fuel with
 |zero=>intro listed a w hI hc;exact hdone 0 listed a w hI (by omega)
 |succ fuel ih=>
  intro listed a w hI hc;rcases Nat.eq_zero_or_pos (EG ops.size listed)with h0|hpos
  ·exact hdone (fuel+1) listed a w hI h0
  obtain⟨j0,hj0,hl0⟩:=Hb hpos;refine⟨fun hr=>absurd hr (CP hbk hI.size j0 j0 (V6 _) (by omega) hl0),fun i hi=>?_⟩;obtain⟨hun,oi,hoi,hdep⟩:=mem_ready.1 hi;have hisz:i<ops.size:=(VK.1 hoi).1;have hun':listed.getD i false=false:=getD_both hun;have hhi:=List.all_eq_true.1 hhd i (List.mem_range.2 hisz);unfold Ij at hhi;simp only[hoi,Bool.and_eq_true]at hhi;obtain⟨hgd,hopr⟩:=hhi;have hc':EG ops.size (listed.setIfInBounds i true)+1=EG ops.size listed:=Gx listed ops.size i hisz (by rw[hI.size];exact hisz) hun';have hsz':(listed.setIfInBounds i true).size=ops.size:=by rw[Array.size_setIfInBounds,hI.size]
  have hdep':∀e∈oi.after,Region.binds md e=true→listed.getD e.on false=true:=hdep;have hwt:Region.wanted oi (yielded ops a.tmps)=Region.wanted oi (yielded ops G.tmps):=by
   unfold Region.wanted;cases hg:oi.guard with
   |none=>rfl
   |some p=>
    obtain⟨j,b⟩:=p;rw[hg]at hgd;simp only at hgd ⊢;have:yielded ops a.tmps j=yielded ops G.tmps j:=by
     unfold yielded;cases hoj:ops[j]? with
     |none=>rfl
     |some oj=>
      rw[hoj]at hgd;simp only at hgd;cases hdj:oj.dst with
      |none=>simp[hdj]
      |some t=>
       rw[hdj]at hgd;simp only[Option.bind_some,hdj];rw[Ni hI hoi hdep' hgd]
    rw[this]
  have key:∀v w',(G.put oi.dst v=G)→A4 w w'→Rr ops G w0 (listed.setIfInBounds i true) (a.put oi.dst v) w':=fun v w' hv hg=>by
   refine⟨fun k hkk=>?_,?_,?_,hI.grew.trans hg,hsz'⟩
   ·cases hd:oi.dst with
    |none=>
     refine hI.ex k fun j o ho hod=>?_
     have h1:=hkk j o ho hod;by_cases hij:i=j
     ·subst hij;obtain rfl:oi=o:=VE (hoi.symm.trans ho);rw[hd]at hod;cases hod
     rwa[getD_set_ne false hij]at h1
    |some d=>
     rw[hd]at hv;rw[C0];by_cases hdk:d=k
     ·subst hdk;rw[VN rfl];have h1:(G.put (some d) v).tmps[d]? =G.tmps[d]? :=by rw[hv]
      rw[C0,VN rfl]at h1;rw[←h1,hI.sz]
     rw[VM hdk];refine hI.ex k fun j o ho hod=>?_
     have h1:=hkk j o ho hod;by_cases hij:i=j
     ·subst hij;obtain rfl:oi=o:=VE (hoi.symm.trans ho);rw[hd]at hod;exact absurd (VE hod) hdk
     rwa[getD_set_ne false hij]at h1
   ·cases oi.dst with
    |none=>exact hI.sz
    |some d=>simp only[Act.put,Array.size_setIfInBounds];exact hI.sz
   cases oi.dst with
   |none=>exact hI.df
   |some d=>exact hI.df
  obtain⟨hst1,hst2⟩:=hst i oi hoi;unfold wpOp;simp only[hoi];rw[hwt];cases hww:Region.wanted oi (yielded ops G.tmps)with
  |true=>
   rw[VN rfl];refine .inl ?_;refine Cv (fun cs b=>Region.noSelect_spec hs i oi cs b hoi) (hst1 hww w hI.grew) (fun x hx=>?_) fun v w' hv hg=>ih _ _ _ (key v w' hv hg) (by omega)
   cases x with
   |tmp t=>
    have h1:=Array.all_eq_true'.1 hopr _ hx;simp only[Act.eval,Array.getD_eq_getD_getElem?,Ni hI hoi hdep' h1]
   |_=>rfl
  |false=>
   rw[VM (by simp)];exact ih _ _ _ (key undef w (hst2 hww) (VU _)) (by omega)
def BY (P:Program) (ops:Array Oper) (w0:World) (G:Act):List Oper→Prop
 |[]=>True
 |o::r=>((Region.wanted o (yielded ops G.tmps)=true→∀w,A4 w0 w→o.wp P G w (fun a' w'=>a'=G∧A4 w w') (fun _ _ _=>False))∧(Region.wanted o (yielded ops G.tmps)=false→G.put o.dst undef=G))∧BY P ops w0 G r
theorem AK {w0:World} {G:Act}:BY P ops w0 G []:=trivial
theorem AD {w0:World} {G:Act} {o:Oper} {r:List Oper} (hw:Region.wanted o (yielded ops G.tmps)=true) (h:∀w,A4 w0 w→o.wp P G w (fun a' w'=>a'=G∧A4 w w') (fun _ _ _=>False)) (h2:BY P ops w0 G r):BY P ops w0 G (o::r):=⟨⟨fun _=>h,(fun e=>by rw[hw]at e;cases e)⟩,h2⟩
theorem BS {w0:World} {G:Act} {o:Oper} {r:List Oper} (hw:Region.wanted o (yielded ops G.tmps)=false) (h:G.put o.dst undef=G) (h2:BY P ops w0 G r):BY P ops w0 G (o::r):=⟨⟨(fun e=>by rw[hw]at e;cases e),fun _=>h⟩,h2⟩
theorem Ib {w0:World} {G:Act} {l:List Oper} (h:BY P ops w0 G l):∀(i:Nat) (o:Oper),l[i]? =some o→(Region.wanted o (yielded ops G.tmps)=true→∀w,A4 w0 w→o.wp P G w (fun a' w'=>a'=G∧A4 w w') (fun _ _ _=>False))∧(Region.wanted o (yielded ops G.tmps)=false→G.put o.dst undef=G):=by
 induction l with
 |nil=>intro i o ho;simp at ho
 |cons b r ih=>
  intro i o ho;unfold BY at h;cases i with
  |zero=>
   have e:b=o:=by simpa using ho
   rw[←e];exact h.1
  |succ i=>exact ih h.2 i o (by simpa using ho)
theorem JD {id:Nat} {a:Act} {w:World} (hm:P.follows .mixedOrders=true) (vals:List Value) (G:Act) (hB0:LB .any ops=true) (hs:Region.noSelect ops=true)
  (hG:G=Af ops.toList vals a) (hH:BY P ops w.drew G ops.toList) (hr:Region.ready .any ops (EL ops.size ops.size)=[])
  (h:∀w1,A4 w w1→Q .normal G w1):(Code.region id ops true).wp P Q a w:=by
 refine wp_region_any hm ?_;have hsz:G.tmps.size=a.tmps.size:=by rw[hG];exact(BD _ _ _).1
 have hdf:G.defers=a.defers:=by rw[hG];exact(BD _ _ _).2
 refine SR hB0 hs G w.drew (fun i o ho=>Ib hH i o (by simpa using ho)) ?_ ops.size _ _ _ ⟨fun k hk=>?_,hsz.symm,hdf.symm,VU _,by simp⟩ ?_
 ·intro w1 fuel hg;have hg':A4 w w1:=(VX (VU w)).trans hg;cases fuel with
  |zero=>exact⟨hr,h w1 hg'⟩
  |succ f=>exact⟨fun _=>h w1 hg',by rw[hr];simp⟩
 ·rw[hG];refine(CR _ _ _ k fun o ho=>?_).symm;intro hod;obtain⟨j,hj⟩:=List.getElem?_of_mem ho;have hjo:ops[j]? =some o:=by simpa using hj
  have:=hk j o hjo hod;rw[getD_replicate_false]at this;cases this
 have:∀(n m:Nat),EG m (Array.replicate n false)≤m:=by
  intro n m
  induction m with
  |zero=>exact V6 _
  |succ m ih=>unfold EG;split<;>omega
 exact this _ _
end
end Go.Proofs.YthpflelgbadkcaaGreatDoor
namespace Go.Proofs.YthpflelgbadkcaaGreatDoor
open Go.RowKit Pl
def DI (w:World):Prop:=0<w.heap.size∧∀j s,DL[j]? =some s→w.cell? ⟨0,j,none⟩=some (.string s)
theorem DI.grew {w w':World} (h:DI w) (g:A4 w w'):DI w':=⟨VA h.1 g.size,fun j s hj=>(World.cell?_of_block (a:=⟨0,j,none⟩) (g.block _ h.1 (fun e=>e))).trans (h.2 j s hj)⟩
theorem DI.rd {w:World} (h:DI w):Cg w w.heap.size 1 (.slice (some ⟨0,0,none⟩) 5 5) (DL.map fun s=>[Value.string s]):=by
 refine⟨_,5,rfl,by decide,fun _=>⟨_,0,rfl,h.1,fun j cs hj k u hk=>?_⟩⟩;rw[Nat.zero_add,Nat.mul_one];rw[List.getElem?_map]at hj;obtain⟨x,hx,rfl⟩:=Option.map_eq_some_iff.1 hj;obtain⟨rfl,rfl⟩:k=0∧Value.string x=u:=by
  cases k with
  |zero=>exact⟨rfl,by simpa using hk⟩
  |succ k=>simp at hk
 exact h.2 j x hx
theorem Oa (e:Ex) (Am Ab A:Option Addr) (nm km nb kb n c:Nat) (hnm:nm=e.ms.length) (hnb:nb=e.bys.length) (w:World) (hms:Cg w w.heap.size 3 (.slice Am nm km) (e.ms.map Ac)) (hby:Cg w w.heap.size 1 (.slice Ab nb kb) (e.bys.map fun s=>[Value.string s])) (hx:TK e) (hw:DI w):Calls Tryz.prog 64 #[.agg (AC e (.slice Am nm km) (.slice Ab nb kb) (.slice A n c)).toArray] w fun e' w'=>e'= .returned (.bool (Bs e))∧A4 w w':=by
 obtain⟨hx1,hx2,hx3,hx4,hx5⟩:=hx;have hb:=VW w 29 (AC e (.slice Am nm km) (.slice Ab nb kb) (.slice A n c)).toArray;have hG:=(VU w).alloc (.cells (AC e (.slice Am nm km) (.slice Ab nb kb) (.slice A n c)).toArray 29);have HT:=V3 hw;have HNM:=V3 hnm;have HNB:=V3 hnb;have hnml:nm≤1000:=by omega
 have hnbl:nb≤1000:=by omega
 have HX1:=V3 hx1;have HX2:=V3 hx2;have HX3:=V3 hx3;have HMS:=V3 hms;have HBY:=V3 hby;clear hnm hnb hx1 hx2 hx3 hx4 hx5 hms hby hw;go_enter Tryz.func64,Tryz.ntmps64;go_upto_region 1 with fail;generalize w.alloc (.cells (AC e (.slice Am nm km) (.slice Ab nb kb) (.slice A n c)).toArray 29)=w1 at*;have c0:w1.cell? ⟨w.heap.size,0,none⟩=some (.int .i64 e.kind):=hb.cell 0;have c7:w1.cell? ⟨w.heap.size,7,none⟩=some (.string e.name):=hb.cell 7;have HG:=V3 hG;have HB:=V3 hb;clear hG hb;go_cut [21] (fun s wx=>s= .bool (Cz e)∧A4 w1 wx)
 case first=>
  by_cases hk:e.kind=1
  ·have t0:(e.kind==1)=true:=by simpa using hk
   obtain⟨q1,hq1⟩:∃q,CW e.name=q:=⟨_,rfl⟩;obtain⟨q2,hq2⟩:∃q,Ih DL e.name=q:=⟨_,rfl⟩;have HV:=V3 (show Cz e=(!q1||q2) by unfold Cz;rw[hq1,hq2,decide_eq_true hk];rfl);have HNm:=V3 (show ∀w',Calls Tryz.prog 93 #[.string e.name] w' fun e' w''=>e'= .returned (.bool q1)∧A4 w' w'' from fun w'=>by have:=J6 e.name HX1.out.1 w';rwa[hq1]at this);have HHas:=V3 (show ∀w',A4 w1 w'→Calls Tryz.prog 94 #[.slice (some ⟨0,0,none⟩) 5 5,.string e.name] w' fun e' w''=>e'= .returned (.bool q2)∧w''=w' from fun w' g=>by have:=LC _ DL e.name w' ((HT.out.grew (HG.out.trans g)).rd) (by decide);rwa[hq2]at this);have HK:=V3 (show ∀w',A4 w1 w'→A4 w1 w'∧w'.cell? ⟨w.heap.size,0,none⟩=some (.int .i64 e.kind)∧w'.cell? ⟨w.heap.size,7,none⟩=some (.string e.name)from fun w' g=>⟨g,(HB.out.grew g).cell 0,(HB.out.grew g).cell 7⟩);have g0:=VU w1;clear hk hq1 hq2;have HK:=V3 (show ∀w',A4 w1.drew w'→A4 w1 w'∧w'.cell? ⟨w.heap.size,0,none⟩=some (.int .i64 e.kind)∧w'.cell? ⟨w.heap.size,7,none⟩=some (.string e.name)from fun w' g=>HK.out w' ((VX (VU w1)).trans g));rcases q1 with _|_
   ·refine JD (by kernel_rfl) [.pointer (some ⟨w.heap.size,0,none⟩),.int .i64 e.kind,.bool true,.bool true,.pointer (some ⟨w.heap.size,7,none⟩),.string e.name,.bool false,.bool true,.bool true,undef,undef,undef,undef,.bool true,.bool true] _ (by kernel_rfl) (by kernel_rfl) rfl ?sH (by kernel_rfl) ?sT
    case sH=>
     simp only[List.toList_toArray,Af,Act.put,List.setIfInBounds_toArray,List.set_cons_zero,List.set_cons_succ];refine AD (by kernel_rfl) (fun w' hg=>?_) ?_
     ·go_simp;exact VU _
     refine AD (by kernel_rfl) (fun w' hg=>?_) ?_
     ·obtain⟨g0,g1,g2⟩:=HK.out _ hg;go_simp;exact VU _
     refine AD (by kernel_rfl) (fun w' hg=>?_) ?_
     ·go_simp;exact VU _
     refine AD (by kernel_rfl) (fun w' hg=>?_) ?_
     ·go_simp;exact VU _
     refine AD (by kernel_rfl) (fun w' hg=>?_) ?_
     ·go_simp;exact VU _
     refine AD (by kernel_rfl) (fun w' hg=>?_) ?_
     ·obtain⟨g0,g1,g2⟩:=HK.out _ hg;go_simp;exact VU _
     refine AD (by kernel_rfl) (fun w' hg=>?_) ?_
     ·go_simp;(with_reducible refine(HNm.out _).mono ?_);rintro e3 wz ⟨rfl,gz⟩;exact⟨rfl,gz⟩
     refine AD (by kernel_rfl) (fun w' hg=>?_) ?_
     ·go_simp;exact VU _
     refine AD (by kernel_rfl) (fun w' hg=>?_) ?_
     ·go_simp;exact VU _
     refine BS (by kernel_rfl) (by kernel_rfl) ?_;refine BS (by kernel_rfl) (by kernel_rfl) ?_;refine BS (by kernel_rfl) (by kernel_rfl) ?_;refine BS (by kernel_rfl) (by kernel_rfl) ?_;refine AD (by kernel_rfl) (fun w' hg=>?_) ?_
     ·go_simp;exact VU _
     refine AD (by kernel_rfl) (fun w' hg=>?_) ?_
     ·go_simp;exact VU _
     exact AK
    case sT=>
     intro wn hgn;simp only[List.toList_toArray,Af,Act.put,List.setIfInBounds_toArray,List.set_cons_zero,List.set_cons_succ];go_wp2_with fail;go_meet;exact⟨by rw[HV.out];rfl,hgn⟩
   refine JD (by kernel_rfl) [.pointer (some ⟨w.heap.size,0,none⟩),.int .i64 e.kind,.bool true,.bool true,.pointer (some ⟨w.heap.size,7,none⟩),.string e.name,.bool true,.bool false,.bool false,.slice (some ⟨0,0,none⟩) 5 5,.pointer (some ⟨w.heap.size,7,none⟩),.string e.name,.bool q2,.bool q2,.bool q2] _ (by kernel_rfl) (by kernel_rfl) rfl ?sH (by kernel_rfl) ?sT
   case sH=>
    simp only[List.toList_toArray,Af,Act.put,List.setIfInBounds_toArray,List.set_cons_zero,List.set_cons_succ];refine AD (by kernel_rfl) (fun w' hg=>?_) ?_
    ·go_simp;exact VU _
    refine AD (by kernel_rfl) (fun w' hg=>?_) ?_
    ·obtain⟨g0,g1,g2⟩:=HK.out _ hg;go_simp;exact VU _
    refine AD (by kernel_rfl) (fun w' hg=>?_) ?_
    ·go_simp;exact VU _
    refine AD (by kernel_rfl) (fun w' hg=>?_) ?_
    ·go_simp;exact VU _
    refine AD (by kernel_rfl) (fun w' hg=>?_) ?_
    ·go_simp;exact VU _
    refine AD (by kernel_rfl) (fun w' hg=>?_) ?_
    ·obtain⟨g0,g1,g2⟩:=HK.out _ hg;go_simp;exact VU _
    refine AD (by kernel_rfl) (fun w' hg=>?_) ?_
    ·go_simp;(with_reducible refine(HNm.out _).mono ?_);rintro e3 wz ⟨rfl,gz⟩;exact⟨rfl,gz⟩
    refine AD (by kernel_rfl) (fun w' hg=>?_) ?_
    ·go_simp;exact VU _
    refine AD (by kernel_rfl) (fun w' hg=>?_) ?_
    ·go_simp;exact VU _
    refine AD (by kernel_rfl) (fun w' hg=>?_) ?_
    ·go_simp;exact VU _
    refine AD (by kernel_rfl) (fun w' hg=>?_) ?_
    ·go_simp;exact VU _
    refine AD (by kernel_rfl) (fun w' hg=>?_) ?_
    ·obtain⟨g0,g1,g2⟩:=HK.out _ hg;go_simp;exact VU _
    refine AD (by kernel_rfl) (fun w' hg=>?_) ?_
    ·obtain⟨g0,g1,g2⟩:=HK.out _ hg;go_simp;(with_reducible refine(HHas.out _ g0).mono ?_);rintro e3 wz ⟨rfl,rfl⟩;exact⟨rfl,VU _⟩
    refine AD (by kernel_rfl) (fun w' hg=>?_) ?_
    ·go_simp;exact VU _
    refine AD (by kernel_rfl) (fun w' hg=>?_) ?_
    ·go_simp;exact VU _
    exact AK
   case sT=>
    intro wn hgn;simp only[List.toList_toArray,Af,Act.put,List.setIfInBounds_toArray,List.set_cons_zero,List.set_cons_succ];go_wp2_with fail;go_meet;exact⟨by rw[HV.out];rfl,hgn⟩
  have t0:(e.kind==1)=false:=by simpa using hk
  have HV:=V3 (show Cz e=false by unfold Cz;rw[VI hk];rfl);clear hk;go_quiet (fail);go_wp2_with fail;go_meet;exact⟨by rw[HV.out],Va (VU _) _⟩
 case rest=>
  obtain⟨rfl,hgx⟩:=hcut;have HGX:=V3 hgx;clear hgx c0 c7;cases hbn:Cz e with
  |true=>
   have HF:=V3 (Mz hbn);clear hbn;go_wp2_with fail;go_ret;exact⟨by rw[HF.out];rfl,HG.out.trans HGX.out⟩
  |false=>
   have HBN:=V3 hbn;clear hbn;have c8:wc.cell? ⟨w.heap.size,8,none⟩=some (.slice Am nm km):=(HB.out.grew HGX.out).cell 8;go_wp2_with fail;go_loopw [4,25] (fun _ i wr=>∃j:Nat,j≤nm∧i= .int .i64 (j:Nat)∧A4 wc wr∧∀j' m,j'<j→e.ms[j']? =some m→BX m=true) (fun _ i _=>nm-(intOf i).toNat)
   case atStart=>exact⟨0,by omega,rfl,VU _,fun j' m h=>absurd h (by omega)⟩
   case round=>
    obtain⟨j,hj,rfl,hGr,hinv⟩:=hrel;have HGR:=V3 hGr;have HIV:=V3 hinv;clear hGr hinv;by_cases hlt:j<nm
    ·obtain⟨m,hm⟩:∃m,e.ms[j]? =some m:=⟨_,VB (by rw[←HNM.out];exact hlt)⟩;have hgw:=HG.out.trans (HGX.out.trans HGR.out);obtain⟨b,o,hbA,hrg⟩:=(HMS.out.keep (V6 _) hgw.size hgw (fun _ _ h=>h)).at_ (j:=j) (cs:=Ac m) (by rw[List.getElem?_map,hm];rfl);subst hbA;have hmem:m∈e.ms:=VJ hm;have HRg:=V3 hrg;obtain⟨q,hq⟩:∃q,BX m=q:=⟨_,rfl⟩;have HVM:=V3 (fun w'=>LM m (HX2.out m hmem).1.1 (HX2.out m hmem).2.1 w');rw[hq]at HVM;have HQ:=V3 hq;have HMM:=V3 hmem;have HM:=V3 hm;clear hrg hmem hm hq hgw;rcases q with _|_
     ·have HF:=V3 (RB HMM.out HQ.out);go_wp2_with(first|((with_reducible refine AF 68 (.tmp 27) rfl ?_);refine wpList_load_mid rfl 68 (.tmp 27) rfl b (o+j*3) rfl (Ac m) _ HRg.out Tryz.underlying68 rfl FT ?_)|((with_reducible refine AG 68 (.tmp 4) (.tmp 28) rfl ?_);refine BL 68 (.tmp 4) (.tmp 28) (wr.heap.size) (Ac m) SV 68 FT rfl (Di m) rfl rfl rfl rfl (VW wr 68 _) ?_;intro w3 hb3 k3 d3;have g3:A4 wr w3:=VV ((VU wr).alloc _) k3 (fun i hi e=>by omega))|((with_reducible refine AF 68 (.tmp 4) rfl ?_);refine BZ 68 Tryz.underlying68 rfl (.tmp 4) (wr.heap.size) (Ac m) 68 FT rfl rfl rfl hb3 ?_)|(go_at_call 95;(with_reducible refine(HVM.out _).mono ?_);rintro e4 w4 ⟨rfl,k4⟩));go_ret;exact⟨by rw[HF.out];rfl,HG.out.trans (HGX.out.trans (HGR.out.trans (g3.trans k4)))⟩
     go_wp2_with(first|((with_reducible refine AF 68 (.tmp 27) rfl ?_);refine wpList_load_mid rfl 68 (.tmp 27) rfl b (o+j*3) rfl (Ac m) _ HRg.out Tryz.underlying68 rfl FT ?_)|((with_reducible refine AG 68 (.tmp 4) (.tmp 28) rfl ?_);refine BL 68 (.tmp 4) (.tmp 28) (wr.heap.size) (Ac m) SV 68 FT rfl (Di m) rfl rfl rfl rfl (VW wr 68 _) ?_;intro w3 hb3 k3 d3;have g3:A4 wr w3:=VV ((VU wr).alloc _) k3 (fun i hi e=>by omega))|((with_reducible refine AF 68 (.tmp 4) rfl ?_);refine BZ 68 Tryz.underlying68 rfl (.tmp 4) (wr.heap.size) (Ac m) 68 FT rfl rfl rfl hb3 ?_)|(go_at_call 95;(with_reducible refine(HVM.out _).mono ?_);rintro e4 w4 ⟨rfl,k4⟩));go_roundw
     case rel=>exact⟨j+1,by omega,by go_num,HGR.out.trans (g3.trans k4),fun j' m' h1 h2=>by
      by_cases hjj:j'=j
      ·subst hjj;rw[HM.out]at h2;obtain rfl:=VE h2;exact HQ.out
      exact HIV.out j' m' (by omega) h2⟩
     case measure=>simp[intOf];omega
    obtain rfl:j=nm:=by omega
    have HALL:=V3 (show ∀m∈e.ms,BX m=true from fun m hm=>by
     obtain⟨j',hj'⟩:=List.getElem?_of_mem hm;exact HIV.out j' m (by have:=(VG.1 hj').1;have:=HNM.out;omega) hj')
    clear c8;have c9:wr.cell? ⟨w.heap.size,9,none⟩=some (.slice Ab nb kb):=(HB.out.grew (HGX.out.trans HGR.out)).cell 9;generalize wr=wv at*;go_wp2_with fail;go_loopw [5,6,36] (fun _ _ i wr=>∃k:Nat,k≤nb∧i= .int .i64 (k:Nat)∧A4 wv wr∧∀k',k'<k→PW e.bys k'=true) (fun _ _ i _=>nb-(intOf i).toNat)
    case atStart=>exact⟨0,by omega,rfl,VU _,fun k' h=>absurd h (by omega)⟩
    case round=>
     obtain⟨k,hk,rfl,hGx2,hinv2⟩:=hrel;have HGY:=V3 hGx2;have HJV:=V3 hinv2;have hgw:A4 w wr:=HG.out.trans (HGX.out.trans (HGR.out.trans hGx2));have HGW:=V3 hgw;clear hGx2 hinv2 hgw;by_cases hlt2:k<nb
     ·obtain⟨s,hs⟩:∃s,e.bys[k]? =some s:=⟨_,VB (by rw[←HNB.out];exact hlt2)⟩;have hrd:∀w',A4 w w'→∃b o,Ab=some ⟨b,o,none⟩∧∀i r,e.bys[i]? =some r→w'.cell? ⟨b,o+i,none⟩=some (.string r):=fun w' g=>by
       obtain⟨A',c',hv,hc',hx'⟩:=HBY.out.keep (V6 _) g.size g (fun _ _ h=>h);injection hv with e1 e2 e3;obtain⟨b,o,hA,hbb,hcell⟩:=hx' (by rw[←e2];omega);refine⟨b,o,e1.trans hA,fun i r hi=>?_⟩;have:=hcell i [.string r] (by rw[List.getElem?_map,hi];rfl) 0 _ rfl;rw[Nat.mul_one]at this;exact this
      obtain⟨b,o,rfl,hcells⟩:=hrd wr HGW.out;have hcell:∀w',A4 wr w'→∀i r,e.bys[i]? =some r→w'.cell? ⟨b,o+i,none⟩=some (.string r):=fun w' g=>by
       obtain⟨b',o',he,h⟩:=hrd w' (HGW.out.trans g);simp only[VQ,Addr.mk.injEq,and_true]at he;obtain⟨rfl,rfl⟩:=he;exact h
      have HC:=V3 hcell;have hgb:A4 w1 wr:=HGX.out.trans (HGR.out.trans HGY.out);have HGB:=V3 hgb;have c9:wr.cell? ⟨w.heap.size,9,none⟩=some (.slice (some ⟨b,o,none⟩) nb kb):=(HB.out.grew hgb).cell 9;have cs:wr.cell? ⟨b,o+k,none⟩=some (.string s):=hcells k s hs;obtain⟨q,hq⟩:∃q,CW s=q:=⟨_,rfl⟩;have HNm:=V3 (fun w'=>J6 s (HX3.out s (VJ hs)).1 w');rw[hq]at HNm;have HS:=V3 hs;have HQ:=V3 hq;have HLT2:=V3 (show k<e.bys.length by rw[←HNB.out];exact hlt2);clear hs hq hrd hcells hcell hgb;have hnext:PW e.bys k=true→∀k',k'<k+1→PW e.bys k'=true:=fun h k' hk'=>by
       by_cases e:k'=k
       ·subst e;exact h
       exact HJV.out k' (by omega)
      have HNX:=V3 hnext;clear hnext;rcases q with _|_
      ·have HF:=V3 (Jm HLT2.out (show PW e.bys k=false by
        cases k with
        |zero=>rw[Mb HS.out,HQ.out]
        |succ k'=>
         obtain⟨r,hr⟩:∃r,e.bys[k']? =some r:=⟨_,VB (by have:=HLT2.out;omega)⟩;rw[M0 HS.out hr,HQ.out];rfl))
       go_wp2_with(first|(go_at_call 93;(with_reducible refine(HNm.out _).mono ?_);rintro e4 w4 ⟨rfl,k4⟩));go_ret;exact⟨by rw[HF.out];rfl,HGW.out.trans k4⟩
      rcases k with _|k
      ·have HT:=V3 (HNX.out (by rw[Mb HS.out,HQ.out]));have cs0:wr.cell? ⟨b,o,none⟩=some (.string s):=cs;go_wp2_with(first|(go_at_call 93;(with_reducible refine(HNm.out _).mono ?_);rintro e4 w4 ⟨rfl,k4⟩));go_roundw
       case rel=>exact⟨0+1,by omega,by go_num,HGY.out.trans k4,HT.out⟩
       case measure=>simp[intOf];omega
      obtain⟨r,hr⟩:∃r,e.bys[k]? =some r:=⟨_,VB (by have:=HLT2.out;omega)⟩;have hby2:=M0 HS.out hr;rw[HQ.out]at hby2;have HR:=V3 hr;obtain⟨x1,hx1⟩:∃x1,Op.bytesLess s.toList r.toList=x1:=⟨_,rfl⟩;obtain⟨x2,hx2⟩:∃x2,(s.toList==r.toList)=x2:=⟨_,rfl⟩;have hle:U6 s r=(x1||x2):=by unfold U6;rw[hx1,hx2]
      rw[hle]at hby2;have HBY2:=V3 hby2;clear hr hby2 hle;rcases x1 with _|_
      ·rcases x2 with _|_
       ·have HT:=V3 (HNX.out HBY2.out);go_wp2_with(first|(go_at_call 93;(with_reducible refine(HNm.out _).mono ?_);rintro e4 w4 ⟨rfl,k4⟩;have d9:w4.cell? ⟨w.heap.size,9,none⟩=some (.slice (some ⟨b,o,none⟩) nb kb):=((HB.out.grew HGB.out).grew k4).cell 9;have dr:=HC.out w4 k4 k r HR.out));go_wp2_with fail;go_roundw
        case rel=>exact⟨k+1+1,by omega,by go_num,HGY.out.trans k4,HT.out⟩
        case measure=>simp[intOf];omega
       have HF:=V3 (Jm HLT2.out HBY2.out);go_wp2_with(first|(go_at_call 93;(with_reducible refine(HNm.out _).mono ?_);rintro e4 w4 ⟨rfl,k4⟩;have d9:w4.cell? ⟨w.heap.size,9,none⟩=some (.slice (some ⟨b,o,none⟩) nb kb):=((HB.out.grew HGB.out).grew k4).cell 9;have dr:=HC.out w4 k4 k r HR.out));go_ret;exact⟨by rw[HF.out];rfl,HGW.out.trans k4⟩
      have HF:=V3 (Jm HLT2.out HBY2.out);go_wp2_with(first|(go_at_call 93;(with_reducible refine(HNm.out _).mono ?_);rintro e4 w4 ⟨rfl,k4⟩;have d9:w4.cell? ⟨w.heap.size,9,none⟩=some (.slice (some ⟨b,o,none⟩) nb kb):=((HB.out.grew HGB.out).grew k4).cell 9;have dr:=HC.out w4 k4 k r HR.out));go_ret;exact⟨by rw[HF.out];rfl,HGW.out.trans k4⟩
     obtain rfl:k=nb:=by omega
     have HF:=V3 (RJ HBN.out HALL.out (fun j hj=>HJV.out j (by have:=HNB.out;omega)));go_wp2_with fail;go_ret;exact⟨by rw[HF.out];rfl,HGW.out⟩
end Go.Proofs.YthpflelgbadkcaaGreatDoor
