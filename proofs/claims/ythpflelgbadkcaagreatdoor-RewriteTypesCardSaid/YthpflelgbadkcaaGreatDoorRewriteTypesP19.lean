/- What the card of the law stands on: Itoa1, BoxX, OrdL, PEq1, PEq2, Wr1. -/
import Derived.Test.YthpflelgbadkcaaGreatDoorRewriteTypesP01
import Derived.Test.YthpflelgbadkcaaGreatDoorRewriteTypesP02
import Derived.Test.YthpflelgbadkcaaGreatDoorRewriteTypesP09
import Derived.Test.YthpflelgbadkcaaGreatDoorRewriteTypesP07
import Derived.Test.YthpflelgbadkcaaGreatDoorRewriteTypesP04
import Derived.Test.YthpflelgbadkcaaGreatDoorRewriteTypesP06
import Derived.Test.YthpflelgbadkcaaGreatDoorRewriteTypesP08
import Derived.Test.YthpflelgbadkcaaGreatDoorRewriteTypesP18
set_option maxRecDepth 100000
set_option maxHeartbeats 12800000
set_option linter.unusedVariables false
set_option linter.unusedSimpArgs false
namespace Go.Proofs.YthpflelgbadkcaaGreatDoor
open Go.RowKit Pl
def SY (n:Nat):ByteArray:=⟨#[UInt8.ofNat (48+n)]⟩
theorem MA {n:Nat} (h:n<10):n=0∨n=1∨n=2∨n=3∨n=4∨n=5∨n=6∨n=7∨n=8∨n=9:=by omega
theorem PC (n:Nat) (hn:n<10) (w:World):Calls Tryz.prog 171 #[.int .i64 (n:Nat)] w fun e w'=>e= .returned (.string (SY n))∧w'=w:=by
 rcases MA hn with rfl|rfl|rfl|rfl|rfl|rfl|rfl|rfl|rfl|rfl<;>
  (go_enter Tryz.func171,Tryz.ntmps171;go_wp2_with fail;go_ret;exact⟨rfl,rfl⟩)
theorem NW (n:Nat) (hn:n<10) (w:World):Calls Tryz.prog 168 #[.int .i64 (n:Nat),.int .i64 10] w fun e w'=>e= .returned (.string (SY n))∧w'=w:=by
 have HS:=V3 (PC n hn w);have t1:decide ((0:Int)≤(n:Int))=true:=by rw[decide_eq_true_iff];omega
 have t2:decide ((n:Int)<100)=true:=by rw[decide_eq_true_iff];omega
 go_enter Tryz.func168,Tryz.ntmps168;go_wp2_with(go_at_call 171;(with_reducible refine HS.out.mono ?_);rintro e3 w3 ⟨rfl,rfl⟩);go_ret;exact⟨rfl,rfl⟩
theorem PG (n:Nat) (hn:n<10) (w:World):Calls Tryz.prog 160 #[.int .i64 (n:Nat)] w fun e w'=>e= .returned (.string (SY n))∧w'=w:=by
 have HS:=V3 (NW n hn w);go_enter Tryz.func160,Tryz.ntmps160;go_wp2_with(go_at_call 168;(with_reducible refine HS.out.mono ?_);rintro e3 w3 ⟨rfl,rfl⟩);go_ret;exact⟨rfl,rfl⟩
theorem Qz (n:Nat) (hn:n<10) (w:World):Calls Tryz.prog 147 #[.int .i64 (n:Nat)] w fun e w'=>e= .returned (.string (SY n))∧w'=w:=by
 have HS:=V3 (PG n hn w);go_enter Tryz.func147,Tryz.ntmps147;go_wp2_with(go_at_call 160;(with_reducible refine HS.out.mono ?_);rintro e3 w3 ⟨rfl,rfl⟩);go_ret;exact⟨rfl,rfl⟩
end Go.Proofs.YthpflelgbadkcaaGreatDoor
namespace Go.Proofs.YthpflelgbadkcaaGreatDoor
open Go.RowKit
theorem CC {P:Program} {ops:Array Oper} {rest:List Oper} {o:Oper} {a:Act} {Q:Exit→Act→World→Prop} {w:World} (T:TypeId) (x:Operand) (_:o.op= .box T x) (h:wpList P ops Q (o::rest) a w):wpList P ops Q (o::rest) a w:=h
theorem BV {P:Program} {ops:Array Oper} {rest:List Oper} {o:Oper} {a:Act} {Q:Exit→Act→World→Prop} {w:World} (T:TypeId) (x:Operand) (vs:List Value) (hgd:o.guard=none) (ho:o.op= .box T x) (hx:a.eval x= .agg vs.toArray)
  (h:∀w',AR w' w.heap.size T vs.toArray→A4 w w'→w'.heap.size=w.heap.size+1→wpList P ops Q rest (a.put o.dst (.pointer (some ⟨w.heap.size,0,none⟩))) w'):wpList P ops Q (o::rest) a w:=by
 refine wpList_plain hgd fun K hK=>?_
 have h1:=h (w.alloc (.cells vs.toArray T)) (VW w T _) ((VU w).alloc _) (by simp);unfold Oper.wp execOp;simp only[ho,hx];simp[go_sem,Instr.box];exact hK _ _ h1
end Go.Proofs.YthpflelgbadkcaaGreatDoor
namespace Go.Proofs.YthpflelgbadkcaaGreatDoor
section
variable {P:Program} {ops:Array Oper} {Q:Exit→Act→World→Prop} {md:Region.Mode}
def IJ (md:Region.Mode) (ops:Array Oper):Nat→Nat→Nat→Bool
 |0,_,_=>false
 |n+1,i,j=>Region.waitsFor md ops i j||(List.range ops.size).any fun k=>Region.waitsFor md ops i k&&IJ md ops n k j
theorem Hl {listed:Array Bool} (hc:Ae md ops listed):∀(n i j:Nat),IJ md ops n i j=true→listed.getD i false=true→listed.getD j false=true
 |0,_,_,h,_=>by cases h
 |n+1,i,j,h,hi=>by
  unfold IJ at h;have step:∀k,Region.waitsFor md ops i k=true→listed.getD k false=true:=fun k hk=>by
   obtain⟨o,ho,e,he,hb,hon⟩:=Region.waitsFor_spec hk;rw[←hon];exact hc i o ho hi e he hb
  rw[Bool.or_eq_true]at h;rcases h with h|h
  ·exact step j h
  obtain⟨k, -,hk⟩:=List.any_eq_true.1 h;rw[Bool.and_eq_true]at hk;exact Hl hc n k j hk.2 (step k hk.1)
theorem M9 {listed:Array Bool} (hc:Ae md ops listed) {i j:Nat} {o:Oper} (ho:ops[i]? =some o) (hdep:∀e∈o.after,Region.binds md e=true→listed.getD e.on false=true) (n:Nat) (h:IJ md ops n i j=true):listed.getD j false=true:=by
 cases n with
 |zero=>cases h
 |succ n=>
  unfold IJ at h;have step:∀k,Region.waitsFor md ops i k=true→listed.getD k false=true:=fun k hk=>by
   obtain⟨o',ho',e,he,hb,hon⟩:=Region.waitsFor_spec hk;obtain rfl:o=o':=VE (ho.symm.trans ho');rw[←hon];exact hdep e he hb
  rw[Bool.or_eq_true]at h;rcases h with h|h
  ·exact step j h
  obtain⟨k, -,hk⟩:=List.any_eq_true.1 h;rw[Bool.and_eq_true]at hk;exact Hl hc n k j hk.2 (step k hk.1)
def Kw (md:Region.Mode) (ops:Array Oper) (m:Nat):Bool:=(List.range m).all (Ij md ops)&&MO md ops&&(List.range m).all (fun j=>IJ md ops m m j)&&decide (ops.size=m+1)
structure Rn (md:Region.Mode) (ops:Array Oper) (m:Nat) (G:Act) (w0:World) (listed:Array Bool) (a:Act) (w:World):Prop where
 ex:∀k,(∀j o,j<m→ops[j]? =some o→o.dst=some k→listed.getD j false=true)→a.tmps[k]? =G.tmps[k]?
 sz:a.tmps.size=G.tmps.size
 df:a.defers=G.defers
 grew:A4 w0 w
 size:listed.size=ops.size
 closed:Ae md ops listed
 last:listed.getD m false=false
theorem Lp {m:Nat} {G:Act} {w0:World} {listed:Array Bool} {a:Act} {w:World} {i:Nat} {t:Tmp} {oi:Oper} (hI:Rn md ops m G w0 listed a w) (hoi:ops[i]? =some oi) (hdep:∀e∈oi.after,Region.binds md e=true→listed.getD e.on false=true) (h:GD md ops i t=true):a.tmps[t]? =G.tmps[t]? :=
 hI.ex t fun j o _ ho hod=>by
  have hj:j<ops.size:=(VK.1 ho).1;have h3:=List.all_eq_true.1 h j (List.mem_range.2 hj);simp only[ho,hod]at h3;have h4:Region.waitsFor md ops i j=true:=by simpa using h3
  obtain⟨o',ho',e,he,hbd,hon⟩:=Region.waitsFor_spec h4;obtain rfl:oi=o':=VE (hoi.symm.trans ho');rw[←hon];exact hdep e he hbd
theorem S0 {m:Nat} (hB0:Kw md ops m=true) (hs:Region.noSelect ops=true) (G:Act) (w0:World)
  (hst:∀(i:Nat) (o:Oper),i<m→ops[i]? =some o→(Region.wanted o (yielded ops G.tmps)=true→∀w,A4 w0 w→o.wp P G w (fun a' w'=>a'=G∧A4 w w') (fun _ _ _=>False))∧(Region.wanted o (yielded ops G.tmps)=false→G.put o.dst undef=G))
  (T:∀w fuel,A4 w0 w→wpAny P md ops Q (fuel+1) (EL ops.size m) G w):
  ∀fuel listed a w,Rn md ops m G w0 listed a w→EG m listed+1≤fuel→wpAny P md ops Q fuel listed a w:=by
 unfold Kw at hB0;simp only[Bool.and_eq_true,decide_eq_true_eq]at hB0;obtain⟨⟨⟨hhd,hbk⟩,hrc⟩,hsize⟩:=hB0;have hdone:∀fuel listed a w,Rn md ops m G w0 listed a w→(∀j,j<m→listed.getD j false=true)→1≤fuel→wpAny P md ops Q fuel listed a w:=by
  intro fuel listed a w hI hall hf;have ha:a=G:=by
   have ht:a.tmps=G.tmps:=Array.ext_getElem? fun k=>hI.ex k fun j o hj ho _=>hall j hj
   have hd:=hI.df;cases a;cases G;simp at ht hd;rw[ht,hd]
  rw[ha,L0 hI.size hall (fun i hi=>by
   by_cases him:i=m
   ·rw[him];exact hI.last
   rw[Array.getD_eq_getD_getElem?,Array.getElem?_eq_none (by rw[hI.size];omega)];rfl)]
  obtain⟨f,rfl⟩:∃f,fuel=f+1:=⟨fuel-1,by omega⟩;exact T w f hI.grew
 intro fuel
 induction fuel with
 |zero=>intro listed a w hI hc;omega
 |succ fuel ih=>
  intro listed a w hI hc;rcases Nat.eq_zero_or_pos (EG m listed)with h0|hpos
  ·exact hdone (fuel+1) listed a w hI (Et h0) (by omega)
  obtain⟨j0,hj0,hl0⟩:=Hb hpos;refine⟨fun hr=>absurd hr (CP hbk hI.size j0 j0 (V6 _) (by omega) hl0),fun i hi=>?_⟩;obtain⟨hun,oi,hoi,hdep⟩:=mem_ready.1 hi;have hisz:i<ops.size:=(VK.1 hoi).1;have hdep':∀e∈oi.after,Region.binds md e=true→listed.getD e.on false=true:=hdep;by_cases him:i=m
  ·exfalso;subst him;have h1:=M9 hI.closed hoi hdep' i (List.all_eq_true.1 hrc j0 (List.mem_range.2 hj0));rw[hl0]at h1;cases h1
  have him':i<m:=by omega
  have hun':listed.getD i false=false:=getD_both hun;have hhi:=List.all_eq_true.1 hhd i (List.mem_range.2 him');unfold Ij at hhi;simp only[hoi,Bool.and_eq_true]at hhi;obtain⟨hgd,hopr⟩:=hhi;have hc':EG m (listed.setIfInBounds i true)+1=EG m listed:=Gx listed m i him' (by rw[hI.size];exact hisz) hun';have hsz':(listed.setIfInBounds i true).size=ops.size:=by rw[Array.size_setIfInBounds,hI.size]
  have hwt:Region.wanted oi (yielded ops a.tmps)=Region.wanted oi (yielded ops G.tmps):=by
   unfold Region.wanted;cases hg:oi.guard with
   |none=>rfl
   |some p=>
    obtain⟨j,b⟩:=p;rw[hg]at hgd;simp only at hgd ⊢;have:yielded ops a.tmps j=yielded ops G.tmps j:=by
     unfold yielded;cases hoj:ops[j]? with
     |none=>rfl
     |some oj=>
      rw[hoj]at hgd;simp only at hgd;cases hdj:oj.dst with
      |none=>simp[hdj]
      |some t=>
       rw[hdj]at hgd;simp only[Option.bind_some,hdj];rw[Lp hI hoi hdep' hgd]
    rw[this]
  have key:∀v w',(G.put oi.dst v=G)→A4 w w'→Rn md ops m G w0 (listed.setIfInBounds i true) (a.put oi.dst v) w':=fun v w' hv hg=>by
   refine⟨fun k hkk=>?_,?_,?_,hI.grew.trans hg,hsz',hI.closed.set hi,by rw[getD_set_ne false him];exact hI.last⟩
   ·cases hd:oi.dst with
    |none=>
     refine hI.ex k fun j o hjm ho hod=>?_
     have h1:=hkk j o hjm ho hod;by_cases hij:i=j
     ·subst hij;obtain rfl:oi=o:=VE (hoi.symm.trans ho);rw[hd]at hod;cases hod
     rwa[getD_set_ne false hij]at h1
    |some d=>
     rw[hd]at hv;rw[C0];by_cases hdk:d=k
     ·subst hdk;rw[VN rfl];have h1:(G.put (some d) v).tmps[d]? =G.tmps[d]? :=by rw[hv]
      rw[C0,VN rfl]at h1;rw[←h1,hI.sz]
     rw[VM hdk];refine hI.ex k fun j o hjm ho hod=>?_
     have h1:=hkk j o hjm ho hod;by_cases hij:i=j
     ·subst hij;obtain rfl:oi=o:=VE (hoi.symm.trans ho);rw[hd]at hod;exact absurd (VE hod) hdk
     rwa[getD_set_ne false hij]at h1
   ·cases oi.dst with
    |none=>exact hI.sz
    |some d=>simp only[Act.put,Array.size_setIfInBounds];exact hI.sz
   cases oi.dst with
   |none=>exact hI.df
   |some d=>exact hI.df
  obtain⟨hst1,hst2⟩:=hst i oi him' hoi;unfold wpOp;simp only[hoi];rw[hwt];cases hww:Region.wanted oi (yielded ops G.tmps)with
  |true=>
   rw[VN rfl];refine .inl ?_;refine Cv (fun cs b=>Region.noSelect_spec hs i oi cs b hoi) (hst1 hww w hI.grew) (fun x hx=>?_) fun v w' hv hg=>ih _ _ _ (key v w' hv hg) (by omega)
   cases x with
   |tmp t=>
    have h1:=Array.all_eq_true'.1 hopr _ hx;simp only[Act.eval,Array.getD_eq_getD_getElem?,Lp hI hoi hdep' h1]
   |_=>rfl
  |false=>
   rw[VM (by simp)];exact ih _ _ _ (key undef w (hst2 hww) (VU _)) (by omega)
theorem Hk {id:Nat} {a:Act} {w:World} (hm:P.follows .mixedOrders=true) (m:Nat) (vals:List Value) (G:Act) (hB0:Kw .any ops m=true) (hs:Region.noSelect ops=true) (hn:ops.size=m+1)
  (hG:G=Af (ops.toList.take m) vals a) (hH:BY P ops w.drew G (ops.toList.take m))
  (o:Oper) (ho:ops[m]? =some o) (hgd:o.guard=none)
  (hr1:Region.ready .any ops (EL ops.size m)=[m]) (hr2:Region.ready .any ops ((EL ops.size m).setIfInBounds m true)=[])
  (h:∀w1,A4 w w1→o.wp P G w1 (Q .normal) Q):(Code.region id ops true).wp P Q a w:=by
 refine wp_region_any hm ?_;have hsz:G.tmps.size=a.tmps.size:=by rw[hG];exact(BD _ _ _).1
 have hdf:G.defers=a.defers:=by rw[hG];exact(BD _ _ _).2
 refine S0 (m:=m) hB0 hs G w.drew (fun i o' him ho'=>Ib hH i o' (by rw[List.getElem?_take,VN him];simpa using ho')) ?_ ops.size _ _ _ ⟨fun k hk=>?_,hsz.symm,hdf.symm,VU _,by simp,Ae.start _,getD_replicate_false _ _⟩ ?_
 ·intro w1 fuel hg;exact Jl hr1 hr2 ho hgd (h w1 ((VX (VU w)).trans hg)) (fuel+1) (by omega)
 ·rw[hG];refine(CR _ _ _ k fun o' ho' hod=>?_).symm;obtain⟨j,hj⟩:=List.getElem?_of_mem ho';rw[List.getElem?_take]at hj;split at hj
  ·rename_i hjm
   have:=hk j o' hjm (by simpa using hj) hod;rw[getD_replicate_false]at this;cases this
  cases hj
 have:∀k,EG k (Array.replicate ops.size false)≤k:=by
  intro k
  induction k with
  |zero=>exact V6 _
  |succ k ih=>unfold EG;split<;>omega
 have:=this m;omega
end
end Go.Proofs.YthpflelgbadkcaaGreatDoor
namespace Go.Proofs.YthpflelgbadkcaaGreatDoor
open Go.RowKit Pl
theorem Kj (x y:ByteArray):(x.toList==y.toList)=decide (x=y):=by
 rw[ByteArray.toList_eq,ByteArray.toList_eq];by_cases h:x=y
 ·subst h;simp
 have:¬x.data.toList=y.data.toList:=fun e=>h (by
  cases x;cases y;exact congrArg ByteArray.mk (Array.toList_inj.1 e))
 rw[VI h,V4];exact this
theorem Kl (m n:Mt) (r:Bool) (hr:decide (m=n)=r) (w:World):(binOp .neq 68 (.agg (Ac m).toArray) (.agg (Ac n).toArray)).run Tryz.prog w= .ok (.bool (!r)) w:=by
 have h1:∀w (m:Mt),(part 9 (Ac m).toArray 0).run Tryz.prog w= .ok (.string m.1) w:=fun w m=>by simp[go_sem,part,Tryz.underlying9,Ac]
 have h2:∀w (m:Mt),(part 3 (Ac m).toArray 1).run Tryz.prog w= .ok (.int .i64 m.2.1) w:=fun w m=>by simp[go_sem,part,Tryz.underlying3,Ac]
 have h3:∀w (m:Mt),(part 9 (Ac m).toArray 2).run Tryz.prog w= .ok (.string m.2.2) w:=fun w m=>by simp[go_sem,part,Tryz.underlying9,Ac]
 have e1:∀w (a b:Int),(Op.equalIn 9999 3 (.int .i64 a) (.int .i64 b)).run Tryz.prog w= .ok (a==b) w:=fun w a b=>run_equalIn_int w 9998 3 _ _ _ _ Tryz.underlying3
 have e2:∀w (a b:ByteArray),(Op.equalIn 9999 9 (.string a) (.string b)).run Tryz.prog w= .ok (a.toList==b.toList) w:=fun w a b=>run_equalIn_string w 9998 9 _ _ Tryz.underlying9
 have hf:(Tryz.prog.fieldsOf 68).toList.map (fun f=>(f.name,f.type,f.offset))=[("Name",9,0),("Kind",3,1),("Value",9,2)]:=by kernel_rfl
 rw[run_neq_struct,run_equalIn_struct w 9999 68 _ _ (by kernel_rfl) (by kernel_rfl)];generalize (Tryz.prog.fieldsOf 68).toList=fs at hf ⊢;rcases fs with _|⟨f1,_|⟨f2,_|⟨f3,_|⟨f4,fs⟩⟩⟩⟩
 ·exact absurd (congrArg List.length hf) (by simp)
 ·exact absurd (congrArg List.length hf) (by simp)
 ·exact absurd (congrArg List.length hf) (by simp)
 ·simp only[List.map_cons,List.map_nil,List.cons.injEq,VP,and_true]at hf;obtain⟨⟨m1,t1,o1⟩,⟨m2,t2,o2⟩,m3,t3,o3⟩:=hf;have n1:f1.name≠ "_":=by rw[m1];decide
  have n2:f2.name≠ "_":=by rw[m2];decide
  have n3:f3.name≠ "_":=by rw[m3];decide
  have key:(Op.eqFields 9999 (Ac m).toArray (Ac n).toArray [f1,f2,f3]).run Tryz.prog w= .ok r w:=by
   simp only[Op.eqFields,t1,t2,t3,o1,o2,o3,VN n1,VN n2,VN n3,Sem.run_bind,h1,h2,h3,e1,e2,Result.andThen_ok,Sem.run_ite,Sem.run_pure,Kj];subst hr;obtain⟨a1,a2,a3⟩:=m;obtain⟨b1,b2,b3⟩:=n;by_cases q1:a1=b1<;>by_cases q2:a2=b2<;>by_cases q3:a3=b3<;>simp[q1,q2,q3]
  rw[key];rfl
 exact absurd (congrArg List.length hf) (by simp)
theorem Pt (v u:Value) (xs ys:List Mt) (w:World) (h:Cg w w.heap.size 3 v (xs.map Ac)) (k:Cg w w.heap.size 3 u (ys.map Ac)) (hl:xs.length≤1000000) (hl2:ys.length≤1000000):
  Calls Tryz.prog 32 #[v,u] w fun e w'=>e= .returned (.bool (decide (xs=ys)))∧A4 w w':=by
 obtain⟨A1,k1,rfl,hc1⟩:=h.slice;obtain⟨A2,k2,rfl,hc2⟩:=k.slice;have HL1:Hid ((xs.map Ac).length=xs.length):=V3 (List.length_map ..);have HL2:Hid ((ys.map Ac).length=ys.length):=V3 (List.length_map ..);have HH:=V3 h;have HK:=V3 k;rw[HL1.out]at HH hc1 ⊢;rw[HL2.out]at HK hc2 ⊢;clear h k;generalize hn:xs.length=n at*;generalize hn2:ys.length=n2 at*;have HN:=V3 (V5 hn hn2);clear hn hn2;by_cases hne:n=n2
 ·subst hne;have t0:((n:Int)==(n:Int))=true:=by simp
  have t0':((n:Int) !=(n:Int))=false:=by simp
  go_enter Tryz.func32,Tryz.ntmps32;go_wp2_with fail;go_loopw [5,13] (fun _ i wr=>∃(j:Nat),j≤n∧i= .int .i64 (j:Nat)∧xs.take j=ys.take j∧A4 w wr) (fun _ i _=>n-(intOf i).toNat)
  case atStart=>exact⟨0,by omega,rfl,rfl,VU _⟩
  case round=>
   obtain⟨j,hj,rfl,htk,hGr⟩:=hrel;have HTK:=V3 htk;clear htk;by_cases hlt:j<n
   ·obtain⟨m1,hm1⟩:∃m,xs[j]? =some m:=⟨_,VB (by have:=HN.out;omega)⟩;obtain⟨m2,hm2⟩:∃m,ys[j]? =some m:=⟨_,VB (by have:=HN.out;omega)⟩;have hmm1:(xs.map Ac)[j]? =some (Ac m1):=by rw[List.getElem?_map,hm1];rfl
    have hmm2:(ys.map Ac)[j]? =some (Ac m2):=by rw[List.getElem?_map,hm2];rfl
    obtain⟨b1,o1,rfl,hr1⟩:=(HH.out.grew hGr).at_ hmm1;obtain⟨b2,o2,rfl,hr2⟩:=(HK.out.grew hGr).at_ hmm2;have HRW:=V3 (show ∀w',A4 wr.drew w'→w'.rangeAt b1 (o1+j*3) (Ac m1)∧w'.rangeAt b2 (o2+j*3) (Ac m2)from fun w' g=>by
     have g':=hGr.trans ((VX (VU wr)).trans g);obtain⟨x1,y1,e1,f1⟩:=(HH.out.grew g').at_ hmm1;obtain⟨x2,y2,e2,f2⟩:=(HK.out.grew g').at_ hmm2;simp only[VQ,Addr.mk.injEq,and_true]at e1 e2;obtain⟨rfl,rfl⟩:=e1;obtain⟨rfl,rfl⟩:=e2;exact⟨f1,f2⟩)
    obtain⟨r,hr⟩:∃r:Bool,decide (m1=m2)=r:=⟨_,rfl⟩;have HNE:=V3 (show ∀w:World,(binOp .neq 68 (.agg (Ac m1).toArray) (.agg (Ac m2).toArray)).run Tryz.prog w= .ok (.bool (!r)) w from fun w=>Kl m1 m2 r hr w);have HX:=V3 (V5 hm1 (V5 hm2 hr));clear hm1 hm2 hmm1 hmm2 hr1 hr2 hr;go_upto_region 6 with fail;refine Jr (by kernel_rfl) [.slice (some ⟨b1,o1,none⟩) n k1,.int .i64 (j:Int),.pointer (some ⟨b1,o1+j*3,none⟩),.agg (Ac m1).toArray,.slice (some ⟨b2,o2,none⟩) n k2,.int .i64 (j:Int),.pointer (some ⟨b2,o2+j*3,none⟩),.agg (Ac m2).toArray,.bool (!r)] _ (by kernel_rfl) (by kernel_rfl) rfl ?sH (by kernel_rfl) ?sT
    case sH=>
     simp only[List.toList_toArray,List.take_succ_cons,List.take_zero,Af,Act.put,List.setIfInBounds_toArray,List.set_cons_zero,List.set_cons_succ];refine AN (fun z w' hg=>?_) ?_
     ·go_simp;exact VU _
     refine AN (fun z w' hg=>?_) ?_
     ·go_simp;exact VU _
     refine AN (fun z w' hg=>?_) ?_
     ·go_simp;exact VU _
     refine AN (fun z w' hg=>?_) ?_
     ·obtain⟨g1,g2⟩:=HRW.out _ hg;refine wp_load_mid 68 (.tmp 18) rfl b1 (o1+j*3) rfl (Ac m1) _ g1 Tryz.underlying68 rfl FT ?_;exact⟨rfl,VU _⟩
     refine AN (fun z w' hg=>?_) ?_
     ·go_simp;exact VU _
     refine AN (fun z w' hg=>?_) ?_
     ·go_simp;exact VU _
     refine AN (fun z w' hg=>?_) ?_
     ·go_simp;exact VU _
     refine AN (fun z w' hg=>?_) ?_
     ·obtain⟨g1,g2⟩:=HRW.out _ hg;refine wp_load_mid 68 (.tmp 22) rfl b2 (o2+j*3) rfl (Ac m2) _ g2 Tryz.underlying68 rfl FT ?_;exact⟨rfl,VU _⟩
     refine AN (fun z w' hg=>?_) ?_
     ·have hne:=HNE.out;go_simp;exact VU _
     exact DU
    case sT=>
     intro wn hgn;simp only[List.toList_toArray,List.take_succ_cons,List.take_zero,Af,Act.put,List.setIfInBounds_toArray,List.set_cons_zero,List.set_cons_succ];rcases r with _|_
     ·have HF:=V3 (show decide (xs=ys)=false from by
       rw[decide_eq_false_iff_not];rintro rfl;have hx:=HX.out;rw[hx.1]at hx;obtain⟨-,h2,h3⟩:=hx;obtain rfl:=VE h2;simp at h3)
      go_wp2_with fail;go_ret;exact⟨by rw[HF.out];rfl,hGr.trans hgn⟩
     go_wp2_with fail;go_roundw
     case rel=>exact⟨j+1,by omega,by go_num,by
      obtain⟨h1,h2,h3⟩:=HX.out;have he:m1=m2:=by simpa using h3
      rw[List.take_add_one,List.take_add_one,HTK.out,h1,h2,he],hGr.trans hgn⟩
     case measure=>simp[intOf];omega
   obtain rfl:j=n:=by omega
   have HF:=V3 (show decide (xs=ys)=true from by
    rw[decide_eq_true_iff];have h1:=HTK.out;rwa[List.take_of_length_le (by rw[HN.out.1];exact V6 _),List.take_of_length_le (by rw[HN.out.2];exact V6 _)]at h1)
   go_wp2_with fail;go_ret;exact⟨by rw[HF.out];rfl,hGr⟩
 have HF:=V3 (show decide (xs=ys)=false from by
  rw[decide_eq_false_iff_not];rintro rfl;exact hne (HN.out.1.symm.trans HN.out.2))
 have t0:((n:Int)==(n2:Int))=false:=by rw[V4];omega
 have t0':((n:Int) !=(n2:Int))=true:=by rw[bne,t0];rfl
 clear hne;go_enter Tryz.func32,Tryz.ntmps32;go_wp2_with fail;go_ret;exact⟨by rw[HF.out];rfl,VU _⟩
def IX (s:ByteArray):List Value:=[.string s]
theorem KD (v u:Value) (xs ys:List ByteArray) (w:World) (h:Cg w w.heap.size 1 v (xs.map IX)) (k:Cg w w.heap.size 1 u (ys.map IX)) (hl:xs.length≤1000000) (hl2:ys.length≤1000000):
  Calls Tryz.prog 33 #[v,u] w fun e w'=>e= .returned (.bool (decide (xs=ys)))∧A4 w w':=by
 obtain⟨A1,k1,rfl,hc1⟩:=h.slice;obtain⟨A2,k2,rfl,hc2⟩:=k.slice;have HL1:Hid ((xs.map IX).length=xs.length):=V3 (List.length_map ..);have HL2:Hid ((ys.map IX).length=ys.length):=V3 (List.length_map ..);have HH:=V3 h;have HK:=V3 k;rw[HL1.out]at HH hc1 ⊢;rw[HL2.out]at HK hc2 ⊢;clear h k;generalize hn:xs.length=n at*;generalize hn2:ys.length=n2 at*;have HN:=V3 (V5 hn hn2);clear hn hn2;by_cases hne:n=n2
 ·subst hne;have t0:((n:Int)==(n:Int))=true:=by simp
  have t0':((n:Int) !=(n:Int))=false:=by simp
  go_enter Tryz.func33,Tryz.ntmps33;go_wp2_with fail;go_loopw [5,13] (fun _ i wr=>∃(j:Nat),j≤n∧i= .int .i64 (j:Nat)∧xs.take j=ys.take j∧A4 w wr) (fun _ i _=>n-(intOf i).toNat)
  case atStart=>exact⟨0,by omega,rfl,rfl,VU _⟩
  case round=>
   obtain⟨j,hj,rfl,htk,hGr⟩:=hrel;have HTK:=V3 htk;clear htk;by_cases hlt:j<n
   ·obtain⟨m1,hm1⟩:∃m,xs[j]? =some m:=⟨_,VB (by have:=HN.out;omega)⟩;obtain⟨m2,hm2⟩:∃m,ys[j]? =some m:=⟨_,VB (by have:=HN.out;omega)⟩;have hmm1:(xs.map IX)[j]? =some (IX m1):=by rw[List.getElem?_map,hm1];rfl
    have hmm2:(ys.map IX)[j]? =some (IX m2):=by rw[List.getElem?_map,hm2];rfl
    obtain⟨b1,o1,rfl,hr1⟩:=(HH.out.grew hGr).at_ hmm1;obtain⟨b2,o2,rfl,hr2⟩:=(HK.out.grew hGr).at_ hmm2;have HRW:=V3 (show ∀w',A4 wr.drew w'→w'.cell? ⟨b1,o1+j,none⟩=some (.string m1)∧w'.cell? ⟨b2,o2+j,none⟩=some (.string m2)from fun w' g=>by
     have g':=hGr.trans ((VX (VU wr)).trans g);obtain⟨x1,y1,e1,f1⟩:=(HH.out.grew g').at_ hmm1;obtain⟨x2,y2,e2,f2⟩:=(HK.out.grew g').at_ hmm2;simp only[VQ,Addr.mk.injEq,and_true]at e1 e2;obtain⟨rfl,rfl⟩:=e1;obtain⟨rfl,rfl⟩:=e2;exact⟨by have:=f1 0 _ rfl;rw[Nat.mul_one]at this;exact this,by have:=f2 0 _ rfl;rw[Nat.mul_one]at this;exact this⟩)
    obtain⟨r,hr⟩:∃r:Bool,decide (m1=m2)=r:=⟨_,rfl⟩;have HNE:=V3 (show ∀w:World,(m1.toList==m2.toList)=r from fun w=>by rw[Kj,hr]);have HX:=V3 (V5 hm1 (V5 hm2 hr));clear hm1 hm2 hmm1 hmm2 hr1 hr2 hr;go_upto_region 6 with fail;refine Jr (by kernel_rfl) [.slice (some ⟨b1,o1,none⟩) n k1,.int .i64 (j:Int),.pointer (some ⟨b1,o1+j,none⟩),.string m1,.slice (some ⟨b2,o2,none⟩) n k2,.int .i64 (j:Int),.pointer (some ⟨b2,o2+j,none⟩),.string m2,.bool (!r)] _ (by kernel_rfl) (by kernel_rfl) rfl ?sH (by kernel_rfl) ?sT
    case sH=>
     simp only[List.toList_toArray,List.take_succ_cons,List.take_zero,Af,Act.put,List.setIfInBounds_toArray,List.set_cons_zero,List.set_cons_succ];refine AN (fun z w' hg=>?_) ?_
     ·go_simp;exact VU _
     refine AN (fun z w' hg=>?_) ?_
     ·go_simp;exact VU _
     refine AN (fun z w' hg=>?_) ?_
     ·go_simp;exact VU _
     refine AN (fun z w' hg=>?_) ?_
     ·obtain⟨g1,g2⟩:=HRW.out _ hg;go_simp;exact VU _
     refine AN (fun z w' hg=>?_) ?_
     ·go_simp;exact VU _
     refine AN (fun z w' hg=>?_) ?_
     ·go_simp;exact VU _
     refine AN (fun z w' hg=>?_) ?_
     ·go_simp;exact VU _
     refine AN (fun z w' hg=>?_) ?_
     ·obtain⟨g1,g2⟩:=HRW.out _ hg;go_simp;exact VU _
     refine AN (fun z w' hg=>?_) ?_
     ·go_simp;exact⟨HNE.out w',VU _⟩
     exact DU
    case sT=>
     intro wn hgn;simp only[List.toList_toArray,List.take_succ_cons,List.take_zero,Af,Act.put,List.setIfInBounds_toArray,List.set_cons_zero,List.set_cons_succ];rcases r with _|_
     ·have HF:=V3 (show decide (xs=ys)=false from by
       rw[decide_eq_false_iff_not];rintro rfl;have hx:=HX.out;rw[hx.1]at hx;obtain⟨-,h2,h3⟩:=hx;obtain rfl:=VE h2;simp at h3)
      go_wp2_with fail;go_ret;exact⟨by rw[HF.out];rfl,hGr.trans hgn⟩
     go_wp2_with fail;go_roundw
     case rel=>exact⟨j+1,by omega,by go_num,by
      obtain⟨h1,h2,h3⟩:=HX.out;have he:m1=m2:=by simpa using h3
      rw[List.take_add_one,List.take_add_one,HTK.out,h1,h2,he],hGr.trans hgn⟩
     case measure=>simp[intOf];omega
   obtain rfl:j=n:=by omega
   have HF:=V3 (show decide (xs=ys)=true from by
    rw[decide_eq_true_iff];have h1:=HTK.out;rwa[List.take_of_length_le (by rw[HN.out.1];exact V6 _),List.take_of_length_le (by rw[HN.out.2];exact V6 _)]at h1)
   go_wp2_with fail;go_ret;exact⟨by rw[HF.out];rfl,hGr⟩
 have HF:=V3 (show decide (xs=ys)=false from by
  rw[decide_eq_false_iff_not];rintro rfl;exact hne (HN.out.1.symm.trans HN.out.2))
 have t0:((n:Int)==(n2:Int))=false:=by rw[V4];omega
 have t0':((n:Int) !=(n2:Int))=true:=by rw[bne,t0];rfl
 clear hne;go_enter Tryz.func33,Tryz.ntmps33;go_wp2_with fail;go_ret;exact⟨by rw[HF.out];rfl,VU _⟩
theorem DW (a b:Ex):Fw a b=(decide (a.kind=b.kind∧a.fn=b.fn∧a.window=b.window∧a.offset=b.offset∧a.k=b.k∧a.num=b.num∧a.den=b.den∧a.name=b.name∧a.ms=b.ms∧a.bys=b.bys)&&Ec a.kids b.kids):=by
 cases a;cases b;rw[Fw];rfl
theorem N9 {ls rs:List Ex} {j:Nat} {a b:Ex} (ha:ls[j]? =some a) (hb:rs[j]? =some b) (h:Fw a b=false):Ec ls rs=false:=by
 induction ls generalizing rs j with
 |nil=>cases ha
 |cons x xs ih=>
  cases rs with
  |nil=>cases hb
  |cons y ys=>
   rw[Ec];cases j with
   |zero=>
    obtain rfl:x=a:=by simpa using ha
    obtain rfl:y=b:=by simpa using hb
    rw[h];rfl
   |succ j=>rw[ih (by simpa using ha) (by simpa using hb)];simp
theorem Qn {ls rs:List Ex} (h:ls.length≠rs.length):Ec ls rs=false:=by
 induction ls generalizing rs with
 |nil=>cases rs with
  |nil=>exact absurd rfl h
  |cons y ys=>simp[Ec]
 |cons x xs ih=>cases rs with
  |nil=>simp[Ec]
  |cons y ys=>rw[Ec,ih (by simpa using h)];simp
theorem PB {ls rs:List Ex} (hl:ls.length=rs.length) (h:∀(j:Nat) (a b:Ex),ls[j]? =some a→rs[j]? =some b→Fw a b=true):Ec ls rs=true:=by
 induction ls generalizing rs with
 |nil=>cases rs with
  |nil=>rw[Ec]
  |cons y ys=>cases hl
 |cons x xs ih=>cases rs with
  |nil=>cases hl
  |cons y ys=>
   rw[Ec,h 0 x y rfl rfl,ih (by simpa using hl) fun j a b ha hb=>h (j+1) a b (by simpa using ha) (by simpa using hb)];rfl
theorem BC {w:World} {B:Nat} {t:Ex} {cs:List Value} (h:BU w B t cs):cs.length=11:=by
 obtain⟨a,b,c,rfl, -⟩:=h.open_;rfl
theorem S4 (ls rs:List Ex) (hIH:∀a∈ls,∀b∈rs,∀(w:World) (cs1 cs2:List Value),BU w w.heap.size a cs1→BU w w.heap.size b cs2→Calls Tryz.prog 13 #[.agg cs1.toArray,.agg cs2.toArray] w fun e' w'=>e'= .returned (.bool (Fw a b))∧A4 w w')
  (hl1:ls.length≤1000000) (hl2:rs.length≤1000000) (v u:Value) (w:World) (h:JG w w.heap.size v ls) (k:JG w w.heap.size u rs):
  Calls Tryz.prog 34 #[v,u,.func (.func 13) #[] #[]] w fun e' w'=>e'= .returned (.bool (Ec ls rs))∧A4 w w':=by
 obtain⟨A1,n,k1,rfl,hn,hc1⟩:=h.slice;obtain⟨A2,n2,k2,rfl,hn2,hc2⟩:=k.slice;have HH:=V3 h;have HK:=V3 k;have HN:=V3 (V5 hn hn2);have HI:=V3 hIH;have hb1:n≤1000000:=by omega
 have hb2:n2≤1000000:=by omega
 clear h k hn hn2 hIH hl1 hl2;by_cases hne:n=n2
 ·subst hne;have t0:((n:Int)==(n:Int))=true:=by simp
  have t0':((n:Int) !=(n:Int))=false:=by simp
  go_enter Tryz.func34,Tryz.ntmps34;go_wp2_with fail;go_loopw [7,8,9,17] (fun _ _ _ i wr=>∃(j:Nat),j≤n∧i= .int .i64 (j:Nat)∧(∀i a b,i<j→ls[i]? =some a→rs[i]? =some b→Fw a b=true)∧A4 w wr) (fun _ _ _ i _=>n-(intOf i).toNat)
  case atStart=>exact⟨0,by omega,rfl,fun i a b h=>absurd h (by omega),VU _⟩
  case round=>
   obtain⟨j,hj,rfl,htk,hGr⟩:=hrel;have HTK:=V3 htk;clear htk;by_cases hlt:j<n
   ·obtain⟨a,ha⟩:∃a,ls[j]? =some a:=⟨_,VB (by have:=HN.out;omega)⟩;obtain⟨b,hb⟩:∃b,rs[j]? =some b:=⟨_,VB (by have:=HN.out;omega)⟩;obtain⟨x1,y1,cs1,rfl, -,hr1,he1⟩:=(HH.out.grew hGr).at_ ha;obtain⟨x2,y2,cs2,rfl,hx2,hr2,he2⟩:=(HK.out.grew hGr).at_ hb;have h1l:=BC he1;have h2l:=BC he2;have h1o:=Ap (BU.toQ (Q:=fun _=>True) (fun _ _=>trivial) a cs1 he1);have h2o:=Ap (BU.toQ (Q:=fun _=>True) (fun _ _=>trivial) b cs2 he2);have HL:=V3 (V5 h1l h2l);have HR:=V3 (show ∀w',A4 wr w'→w'.rangeAt x2 (y2+j*11) cs2 from fun w' g=>AU hr2 hx2 g (fun h=>h));have HE:=V3 (fun w' (g:A4 wr w')=>HI.out a (VJ ha) b (VJ hb) w' cs1 cs2 (he1.grew g) (he2.grew g));obtain⟨r,hr⟩:∃r,Fw a b=r:=⟨_,rfl⟩;rw[hr]at HE;have HX:=V3 (V5 ha (V5 hb hr));clear ha hb he1 he2 hr;go_upto_region 6 with(first|((with_reducible refine AF 29 (.tmp 20) rfl ?_);refine wpList_load_mid rfl 29 (.tmp 20) rfl x1 (y1+j*11) rfl cs1 _ hr1 Tryz.underlying29 rfl (by rw[h1l];exact AE) ?_)|((with_reducible refine AG 29 (.tmp 8) (.tmp 21) rfl ?_);have hbn:=VW wr 29 (AJ 0 0).toArray;refine BL 29 (.tmp 8) (.tmp 21) wr.heap.size cs1 (AJ 0 0) 29 (by rw[h1l];exact AE) (by rw[h1l];rfl) h1o rfl rfl rfl rfl hbn ?_;intro w3 hb3 k3 d3;have HG3:=V3 (show A4 wr w3 from VV ((VU wr).alloc _) k3 (fun i hi e=>by omega));clear k3 d3));have HB3:=V3 hb3;go_upto_region 7 with(first|((with_reducible refine AF 29 (.tmp 24) rfl ?_);refine wpList_load_mid rfl 29 (.tmp 24) rfl x2 (y2+j*11) rfl cs2 _ (HR.out _ HG3.out) Tryz.underlying29 rfl (by rw[h2l];exact AE) ?_)|((with_reducible refine AG 29 (.tmp 9) (.tmp 25) rfl ?_);have hbn:=VW w3 29 (AJ 0 0).toArray;refine BL 29 (.tmp 9) (.tmp 25) w3.heap.size cs2 (AJ 0 0) 29 (by rw[h2l];exact AE) (by rw[h2l];rfl) h2o rfl rfl rfl rfl hbn ?_;intro w4 hb4 k4 d4;have HG4:=V3 (show A4 w3 w4 from VV ((VU w3).alloc _) k4 (fun i hi e=>by omega));clear k4 d4));have hb34:=HB3.out.grew HG4.out;rcases r with _|_
    ·have HF:=V3 (show Ec ls rs=false from N9 HX.out.1 HX.out.2.1 HX.out.2.2);go_wp2_with(first|((with_reducible refine AF 29 (.tmp 8) rfl ?_);refine BZ 29 Tryz.underlying29 rfl (.tmp 8) wr.heap.size cs1 29 (by rw[HL.out.1];exact AE) rfl rfl rfl hb34 ?_)|((with_reducible refine AF 29 (.tmp 9) rfl ?_);refine BZ 29 Tryz.underlying29 rfl (.tmp 9) w3.heap.size cs2 29 (by rw[HL.out.2];exact AE) rfl rfl rfl hb4 ?_)|(go_at_call 13;(with_reducible refine(HE.out _ (HG3.out.trans HG4.out)).mono ?_);rintro e3 w5 ⟨rfl,k5⟩));go_ret;exact⟨by rw[HF.out];rfl,hGr.trans ((HG3.out.trans HG4.out).trans k5)⟩
    go_wp2_with(first|((with_reducible refine AF 29 (.tmp 8) rfl ?_);refine BZ 29 Tryz.underlying29 rfl (.tmp 8) wr.heap.size cs1 29 (by rw[HL.out.1];exact AE) rfl rfl rfl hb34 ?_)|((with_reducible refine AF 29 (.tmp 9) rfl ?_);refine BZ 29 Tryz.underlying29 rfl (.tmp 9) w3.heap.size cs2 29 (by rw[HL.out.2];exact AE) rfl rfl rfl hb4 ?_)|(go_at_call 13;(with_reducible refine(HE.out _ (HG3.out.trans HG4.out)).mono ?_);rintro e3 w5 ⟨rfl,k5⟩));go_roundw
    case rel=>exact⟨j+1,by omega,by go_num,fun i a' b' hi ha' hb'=>by
     by_cases hij:i=j
     ·subst hij;rw[HX.out.1]at ha';rw[HX.out.2.1]at hb';obtain rfl:=VE ha';obtain rfl:=VE hb';exact HX.out.2.2
     exact HTK.out i a' b' (by omega) ha' hb',hGr.trans ((HG3.out.trans HG4.out).trans k5)⟩
    case measure=>simp[intOf];omega
   obtain rfl:j=n:=by omega
   have HF:=V3 (show Ec ls rs=true from PB (by have:=HN.out;omega) fun i a b ha hb=>HTK.out i a b (by have:=(VG.1 ha).1;have:=HN.out;omega) ha hb);go_wp2_with fail;go_ret;exact⟨by rw[HF.out];rfl,hGr⟩
 have HF:=V3 (show Ec ls rs=false from Qn (by have:=HN.out;omega));have t0:((n:Int)==(n2:Int))=false:=by rw[V4];omega
 have t0':((n:Int) !=(n2:Int))=true:=by rw[bne,t0];rfl
 clear hne;go_enter Tryz.func34,Tryz.ntmps34;go_wp2_with fail;go_ret;exact⟨by rw[HF.out];rfl,VU _⟩
def WS (w:World) (base g:Nat) (bs:List Nat):Prop:=base≤g∧base≤w.heap.size∧∃p v,SB w base g p v bs
theorem WS.grew {w w':World} {base g:Nat} {bs:List Nat} (h:WS w base g bs) (k:A4 w w'):WS w' base g bs:=by
 obtain⟨h1,h2,p,v,hb⟩:=h;exact⟨h1,VD h2 k.size,p,v,hb.box.grew k,hb.row.grew k,hb.self⟩
def KB (w w':World):Prop:=∀k t xs,AR w k t xs→t≠156→t≠5→AR w' k t xs
theorem KB.trans {a b c:World} (h:KB a b) (k:KB b c):KB a c:=fun i t xs hb h1 h2=>k i t xs (h i t xs hb h1 h2) h1 h2
theorem KB.grew {w w':World} (h:A4 w w'):KB w w':=fun i t xs hb _ _=>hb.grew h
def Es (base g:Nat) (bs:List Nat) (w:World) (e:Ending) (w':World):Prop:=(∃u,e= .returned u)∧WS w' base g bs∧AA (fun i=>base≤i) w w'∧KB w w'
theorem Cf (w:World) (base g:Nat) (bs:List Nat) (s:ByteArray) (h:WS w base g bs) (hl:bs.length<900000000) (hs:s.size≤1000000):Calls Tryz.prog 132 #[.pointer (some ⟨g,0,none⟩),.string s] w (Es base g (bs++bl s) w):=by
 obtain⟨h1,h2,p,v,hb⟩:=h;refine(If g base p v bs s w hb hl hs h2).mono ?_;rintro e w' ⟨he,p',v',hb',hk⟩;have hk':=hb.keepsB h1 hk;exact⟨he,⟨h1,VD h2 hk'.size,p',v',hb'⟩,hk',fun i t xs hbx h1 h2=>AR.keepSB hbx hb hk h1 h2⟩
theorem EF (w:World) (base g:Nat) (bs:List Nat) (c:Nat) (h:WS w base g bs) (hl:bs.length<900000000):Calls Tryz.prog 148 #[.pointer (some ⟨g,0,none⟩),.int .u8 (c:Nat)] w (Es base g (bs++[c]) w):=by
 obtain⟨h1,h2,p,v,hb⟩:=h;refine(K5 g base p v bs c w hb hl h2).mono ?_;rintro e w' ⟨rfl,p',v',hb',hk⟩;have hk':=hb.keepsB h1 hk;exact⟨⟨_,rfl⟩,⟨h1,VD h2 hk'.size,p',v',hb'⟩,hk',fun i t xs hbx h1 h2=>AR.keepSB hbx hb hk h1 h2⟩
theorem Md (n:Nat) (hn:n<10) (w:World):Calls Tryz.prog 146 #[.agg (AI (n:Nat) 1).toArray] w fun e w'=>e= .returned (.bool true)∧A4 w w':=by
 have t1:decide ((n:Int)≥0)=true:=by rw[decide_eq_true_iff];omega
 have t2:decide ((n:Int)≤1073741824)=true:=by rw[decide_eq_true_iff];omega
 have hb:=VW w 24 (AI (n:Nat) 1).toArray;have hg:=(VU w).alloc (.cells (AI (n:Nat) 1).toArray 24);go_enter Tryz.func146,Tryz.ntmps146;go_upto_region 1 with fail;change Code.wp _ _ _ _ (w.alloc (.cells (AI (n:Nat) 1).toArray 24));generalize w.alloc (.cells (AI (n:Nat) 1).toArray 24)=w1 at*;have c0:w1.cell? ⟨w.heap.size,0,none⟩=some (.int .i64 (n:Nat)):=hb.cell 0;have c1:w1.cell? ⟨w.heap.size,1,none⟩=some (.int .i64 1):=hb.cell 1;have HG:=V3 hg;clear hb hg hn;go_wp2_with fail;go_ret;exact⟨rfl,HG.out⟩
theorem OP (w:World) (base g:Nat) (bs:List Nat) (n:Nat) (hn:n<10) (h:WS w base g bs) (hl:bs.length<900000000):Calls Tryz.prog 127 #[.pointer (some ⟨g,0,none⟩),.agg (AI (n:Nat) 1).toArray] w (Es base g (bs++bl (SY n)) w):=by
 have hb:=VW w 24 (AI (n:Nat) 1).toArray;have hg:=(VU w).alloc (.cells (AI (n:Nat) 1).toArray 24);have HW:=V3 (h.grew hg);have HB:=V3 h.2.1;have HN:=V3 (Md n hn);have HI:=V3 (Qz n hn);have HS:=V3 (fun w' (h:WS w' base g bs)=>Cf w' base g bs (SY n) h hl (by show(1:Nat)≤1000000;omega));clear h hl hn;go_enter Tryz.func127,Tryz.ntmps127;go_upto_region 1 with fail;change Code.wp _ _ _ _ (w.alloc (.cells (AI (n:Nat) 1).toArray 24));generalize w.alloc (.cells (AI (n:Nat) 1).toArray 24)=w1 at*;have HG:=V3 hg;clear hg;go_upto_region 2 with(first|((with_reducible refine AF 24 (.tmp 3) rfl ?_);refine BZ 24 Tryz.underlying24 rfl (.tmp 3) (w.heap.size) (AI (n:Nat) 1) 24 Ao rfl rfl rfl hb ?_)|(go_at_call 146;(with_reducible refine(HN.out w1).mono ?_);rintro e3 w2 ⟨rfl,k2⟩;have HW2:=V3 (HW.out.grew k2);have c0:w2.cell? ⟨w.heap.size,0,none⟩=some (.int .i64 (n:Nat)):=(hb.grew k2).cell 0;have HG2:=V3 (HG.out.trans k2);clear k2));go_wp2_with(first|(go_at_call 147;(with_reducible refine(HI.out w2).mono ?_);rintro e3 w3 ⟨rfl,hw3⟩;obtain rfl:=hw3.symm;clear hw3)|(go_at_call 132;(with_reducible refine(HS.out _ HW2.out).mono ?_);rintro e3 w4 ⟨⟨u,rfl⟩,hws,hk,hkb⟩;have HR:=V3 (V5 hws (V5 hk hkb));clear hws hk hkb));refine bodyPost_ret (results_none rfl _ _ _) rfl ?_;exact⟨⟨_,rfl⟩,HR.out.1,VV (Vb HG2.out) HR.out.2.1 fun i _ h=>h,(KB.grew HG2.out).trans HR.out.2.2⟩
end Go.Proofs.YthpflelgbadkcaaGreatDoor
