/- What the card of the law stands on: DoorW, Itoa1, BoxX, OrdL, PEq1. -/
import Derived.Test.YthpflelgbadkcaaGreatDoorRewriteReadsP01
import Derived.Test.YthpflelgbadkcaaGreatDoorRewriteReadsP18
import Derived.Test.YthpflelgbadkcaaGreatDoorRewriteReadsP09
import Derived.Test.YthpflelgbadkcaaGreatDoorRewriteReadsP07
import Derived.Test.YthpflelgbadkcaaGreatDoorRewriteReadsP04
set_option maxRecDepth 100000
set_option maxHeartbeats 12800000
set_option linter.unusedVariables false
set_option linter.unusedSimpArgs false
namespace Go.Proofs.YthpflelgbadkcaaGreatDoor
open Go.ChangeShapes Go.WideShapes Go.ChangeAt Go.RowKit Pl
theorem Mz:Tryz.prog.cellsOf 9=1:=by kernel_rfl
def Ej (ss:List (List UInt8)):DataW Unit:= .agg (ss.map fun s=> .lit (.string s))
theorem JA {w:World} {sp:Nat→Bool} {held:Bool} {fuel:Nat} {t:TypeId} {n:Nat} {cs:List Value} {ss:List (List UInt8)} {p:List MemPlace}
  (ht:Tryz.prog.underlying t=some (.array n 9)) (hct:Tryz.prog.cellsOf t=n)
  (h:DataW.trod (fun _=>()) Tryz.prog w 0 sp held fuel t cs=some (Ej ss,p)):cs=ss.map fun s=>Value.string ⟨s.toArray⟩:=by
 cases fuel with
 |zero=>simp[DataW.trod]at h
 |succ fuel=>
  simp only[DataW.trod,ht,Mz,hct,Nat.mul_one]at h;split at h
  ·rename_i hl
   obtain⟨xs,hm,hx⟩:=Option.map_eq_some_iff.1 h;have hxs:xs.map (·.1)=ss.map fun s=>(DataW.lit (.string s):DataW Unit):=by
    have:=congrArg Prod.fst hx;simpa[Ej]using this
   have hxl:xs.length=n:=by simpa using Lib.mapM_length hm
   have hzl:ss.length=n:=by
    have:=congrArg List.length hxs;simp at this;omega
   apply List.ext_getElem?;intro i;by_cases hi:i<n
   ·obtain⟨b,hb,hf⟩:=Lib.mapM_at hm i i (by simp[hi]);obtain⟨s,hc,rfl,_⟩:=DataW.trod_string Tryz.underlying9 hf;have h1:cs[i]? =some (.string s):=by
     have:=congrArg (·[0]?) hc;simpa[List.getElem?_take,List.getElem?_drop]using this
    have h2:(xs.map (·.1))[i]? =some (DataW.lit (.string s.data.toList):DataW Unit):=by simp[hb]
    rw[hxs]at h2;simp only[List.getElem?_map,Option.map_eq_some_iff,DataW.lit.injEq,Lit.string.injEq]at h2;obtain⟨z',hz',hzz⟩:=h2;rw[h1,List.getElem?_map,hz',hzz];rfl
   rw[List.getElem?_eq_none (by omega),List.getElem?_eq_none (by simp;omega)]
  cases h
theorem LQ {w:World}:∀{l:List (String×DataW Unit)} {ps:List MemPlace},DataW.LaidVars Tryz.prog w l ps→∀{x:String×DataW Unit},x∈l→
  ∃g t cs fuel p,Tryz.prog.globalNamed x.1=some g∧(Tryz.prog.globals[g]?).map (·.type)=some t∧w.var? Tryz.prog x.1=some cs∧DataW.trod (fun _=>()) Tryz.prog w 0 (fun _=>true) false fuel t cs.toList=some (x.2,p)
 |[],_,_,_,hx=>nomatch hx
 |(n,d)::r,_,h,x,hx=>by
  obtain⟨g,t,cs,fuel,p,q,e1,e2,e3,e4,hr, -⟩:=h;rcases List.mem_cons.1 hx with rfl|hx
  ·exact⟨g,t,cs,fuel,p,e1,e2,e3,e4⟩
  exact LQ hr hx
theorem El {W:World} {l:List (String×DataW Unit)} (h:laidMet Tryz.prog l W) {name:String} {g:Nat} {t:TypeId} {n:Nat} {ss:List (List UInt8)} (hm:(name,Ej ss)∈l)
  (hg:Tryz.prog.globalNamed name=some g) (hty:(Tryz.prog.globals[g]?).map (·.type)=some t) (ht:Tryz.prog.underlying t=some (.array n 9)) (hct:Tryz.prog.cellsOf t=n) (h0:0<ss.length):
  g<W.heap.size∧∀j s,(ss.map fun s=>(⟨s.toArray⟩:ByteArray))[j]? =some s→W.cell? ⟨g,j,none⟩=some (.string s):=by
 obtain⟨ps,hv, -⟩:=h;obtain⟨g',t',cs,fuel,p,hg',ht',hvar,hd⟩:=LQ hv hm;obtain rfl:=SI (hg.symm.trans hg');obtain rfl:=SI (hty.symm.trans ht');have hc:=JA ht hct hd;have hcell:∀j s,(ss.map fun s=>(⟨s.toArray⟩:ByteArray))[j]? =some s→W.cell? ⟨g,j,none⟩=some (.string s):=fun j s hj=>by
  rw[World.var?_cell hg hvar,←Array.getElem?_toList,hc];rw[List.getElem?_map]at hj ⊢;obtain⟨x,hx,rfl⟩:=Option.map_eq_some_iff.1 hj;rw[hx];rfl
 refine⟨?_,hcell⟩;have hj0:(ss.map fun s=>(⟨s.toArray⟩:ByteArray))[0]? =some ⟨(ss[0]'h0).toArray⟩:=by rw[List.getElem?_map,SF h0];rfl
 exact Jt (hcell 0 _ hj0)
def S0:List (List UInt8):=[[115,117,109],[109,105,110],[109,97,120],[99,111,117,110,116],[107,116,104]]
def S1:List (List UInt8):=[[108,97,115,116],[108,101,97,115,116],[103,114,101,97,116,101,115,116],[116,111,116,97,108],[109,101,97,110],[105,110,99,114,101,97,115,101],[114,97,116,101],[107,116,104]]
def Rh:List (List UInt8):=[[43],[45],[42],[47]]
def Rb:List (List UInt8):=[[61],[33,61],[94,61]]
theorem Oj {W:World} {l:List (String×DataW Unit)} (h:laidMet Tryz.prog l W) (h1:("intervalmon/parser.groupWords",Ej S0)∈l) (h2:("intervalmon/parser.functionWords",Ej S1)∈l) (h3:("intervalmon/parser.operators",Ej Rh)∈l) (h4:("intervalmon/parser.matchSymbols",Ej Rb)∈l):D0 W:=by
 refine⟨?_,?_,?_⟩
 ·exact El h h1 (g:=0) (by kernel_rfl) (t:=141) (by kernel_rfl) Tryz.underlying141 (by kernel_rfl) (by decide)
 ·exact El h h2 (g:=5) (by kernel_rfl) (t:=204) (by kernel_rfl) Tryz.underlying204 (by kernel_rfl) (by decide)
 have h5:=El h h3 (g:=1) (by kernel_rfl) (t:=192) (by kernel_rfl) Tryz.underlying192 (by kernel_rfl) (by decide);exact⟨h5.1,h5.2,El h h4 (g:=4) (by kernel_rfl) (t:=203) (by kernel_rfl) Tryz.underlying203 (by kernel_rfl) (by decide)⟩
def Dw:DataW Unit→Array Value
 | .agg ps=>(ps.map fun d=>match d with
  | .lit l=>l.value
  |_=>undef).toArray
 |_=>#[]
noncomputable def GA (os:Os):World:=
 { World.holding Tryz.prog os ⟨#[],#[],[]⟩with heap:=((((((((World.holding Tryz.prog os ⟨#[],#[],[]⟩).heap.modify 8 (IB (Dw Rows.laid_math_bits_deBruijn32tab))).modify 9 (IB (Dw Rows.laid_math_bits_deBruijn64tab))).modify 7 (IB (Dw Rows.laid_internal_strconv_uint64pow10))).modify 0 (IB (Dw Rows.laid_intervalmon_parser_groupWords))).modify 5 (IB (Dw Rows.laid_intervalmon_parser_functionWords))).modify 4 (IB (Dw Rows.laid_intervalmon_parser_matchSymbols))).modify 1 (IB (Dw Rows.laid_intervalmon_parser_operators))) }
end Go.Proofs.YthpflelgbadkcaaGreatDoor
namespace Go.Proofs.YthpflelgbadkcaaGreatDoor
open Go.RowKit Pl
def QU (n:Nat):ByteArray:=⟨#[UInt8.ofNat (48+n)]⟩
theorem La {n:Nat} (h:n<10):n=0∨n=1∨n=2∨n=3∨n=4∨n=5∨n=6∨n=7∨n=8∨n=9:=by omega
theorem N7 (n:Nat) (hn:n<10) (w:World):Calls Tryz.prog 171 #[.int .i64 (n:Nat)] w fun e w'=>e= .returned (.string (QU n))∧w'=w:=by
 rcases La hn with rfl|rfl|rfl|rfl|rfl|rfl|rfl|rfl|rfl|rfl<;>
  (go_enter Tryz.func171,Tryz.ntmps171;go_wp2_with fail;go_ret;exact⟨rfl,rfl⟩)
theorem MF (n:Nat) (hn:n<10) (w:World):Calls Tryz.prog 168 #[.int .i64 (n:Nat),.int .i64 10] w fun e w'=>e= .returned (.string (QU n))∧w'=w:=by
 have HS:=S9 (N7 n hn w);have t1:decide ((0:Int)≤(n:Int))=true:=by rw[decide_eq_true_iff];omega
 have t2:decide ((n:Int)<100)=true:=by rw[decide_eq_true_iff];omega
 go_enter Tryz.func168,Tryz.ntmps168;go_wp2_with(go_at_call 171;(with_reducible refine HS.out.mono ?_);rintro e3 w3 ⟨rfl,rfl⟩);go_ret;exact⟨rfl,rfl⟩
theorem Mx (n:Nat) (hn:n<10) (w:World):Calls Tryz.prog 160 #[.int .i64 (n:Nat)] w fun e w'=>e= .returned (.string (QU n))∧w'=w:=by
 have HS:=S9 (MF n hn w);go_enter Tryz.func160,Tryz.ntmps160;go_wp2_with(go_at_call 168;(with_reducible refine HS.out.mono ?_);rintro e3 w3 ⟨rfl,rfl⟩);go_ret;exact⟨rfl,rfl⟩
theorem P9 (n:Nat) (hn:n<10) (w:World):Calls Tryz.prog 147 #[.int .i64 (n:Nat)] w fun e w'=>e= .returned (.string (QU n))∧w'=w:=by
 have HS:=S9 (Mx n hn w);go_enter Tryz.func147,Tryz.ntmps147;go_wp2_with(go_at_call 160;(with_reducible refine HS.out.mono ?_);rintro e3 w3 ⟨rfl,rfl⟩);go_ret;exact⟨rfl,rfl⟩
end Go.Proofs.YthpflelgbadkcaaGreatDoor
namespace Go.Proofs.YthpflelgbadkcaaGreatDoor
open Go.RowKit
theorem C8 {P:Program} {ops:Array Oper} {rest:List Oper} {o:Oper} {a:Act} {Q:Exit→Act→World→Prop} {w:World} (T:TypeId) (x:Operand) (_:o.op= .box T x) (h:wpList P ops Q (o::rest) a w):wpList P ops Q (o::rest) a w:=h
theorem BW {P:Program} {ops:Array Oper} {rest:List Oper} {o:Oper} {a:Act} {Q:Exit→Act→World→Prop} {w:World} (T:TypeId) (x:Operand) (vs:List Value) (hgd:o.guard=none) (ho:o.op= .box T x) (hx:a.eval x= .agg vs.toArray)
  (h:∀w',Ag w' w.heap.size T vs.toArray→A5 w w'→w'.heap.size=w.heap.size+1→wpList P ops Q rest (a.put o.dst (.pointer (some ⟨w.heap.size,0,none⟩))) w'):wpList P ops Q (o::rest) a w:=by
 refine wpList_plain hgd fun K hK=>?_
 have h1:=h (w.alloc (.cells vs.toArray T)) (Sc w T _) ((Sa w).alloc _) (by simp);unfold Oper.wp execOp;simp only[ho,hx];simp[go_sem,Instr.box];exact hK _ _ h1
end Go.Proofs.YthpflelgbadkcaaGreatDoor
namespace Go.Proofs.YthpflelgbadkcaaGreatDoor
section
variable {P:Program} {ops:Array Oper} {Q:Exit→Act→World→Prop} {md:Region.Mode}
def H5 (md:Region.Mode) (ops:Array Oper):Nat→Nat→Nat→Bool
 |0,_,_=>false
 |n+1,i,j=>Region.waitsFor md ops i j||(List.range ops.size).any fun k=>Region.waitsFor md ops i k&&H5 md ops n k j
theorem Gi {listed:Array Bool} (hc:B6 md ops listed):∀(n i j:Nat),H5 md ops n i j=true→listed.getD i false=true→listed.getD j false=true
 |0,_,_,h,_=>by cases h
 |n+1,i,j,h,hi=>by
  unfold H5 at h;have step:∀k,Region.waitsFor md ops i k=true→listed.getD k false=true:=fun k hk=>by
   obtain⟨o,ho,e,he,hb,hon⟩:=Region.waitsFor_spec hk;rw[←hon];exact hc i o ho hi e he hb
  rw[Bool.or_eq_true]at h;rcases h with h|h
  ·exact step j h
  obtain⟨k, -,hk⟩:=List.any_eq_true.1 h;rw[Bool.and_eq_true]at hk;exact Gi hc n k j hk.2 (step k hk.1)
theorem LI {listed:Array Bool} (hc:B6 md ops listed) {i j:Nat} {o:Oper} (ho:ops[i]? =some o) (hdep:∀e∈o.after,Region.binds md e=true→listed.getD e.on false=true) (n:Nat) (h:H5 md ops n i j=true):listed.getD j false=true:=by
 cases n with
 |zero=>cases h
 |succ n=>
  unfold H5 at h;have step:∀k,Region.waitsFor md ops i k=true→listed.getD k false=true:=fun k hk=>by
   obtain⟨o',ho',e,he,hb,hon⟩:=Region.waitsFor_spec hk;obtain rfl:o=o':=SI (ho.symm.trans ho');rw[←hon];exact hdep e he hb
  rw[Bool.or_eq_true]at h;rcases h with h|h
  ·exact step j h
  obtain⟨k, -,hk⟩:=List.any_eq_true.1 h;rw[Bool.and_eq_true]at hk;exact Gi hc n k j hk.2 (step k hk.1)
def K4 (md:Region.Mode) (ops:Array Oper) (m:Nat):Bool:=(List.range m).all (I5 md ops)&&Kt md ops&&(List.range m).all (fun j=>H5 md ops m m j)&&decide (ops.size=m+1)
structure QI (md:Region.Mode) (ops:Array Oper) (m:Nat) (G:Act) (w0:World) (listed:Array Bool) (a:Act) (w:World):Prop where
 ex:∀k,(∀j o,j<m→ops[j]? =some o→o.dst=some k→listed.getD j false=true)→a.tmps[k]? =G.tmps[k]?
 sz:a.tmps.size=G.tmps.size
 df:a.defers=G.defers
 grew:A5 w0 w
 size:listed.size=ops.size
 closed:B6 md ops listed
 last:listed.getD m false=false
theorem Ks {m:Nat} {G:Act} {w0:World} {listed:Array Bool} {a:Act} {w:World} {i:Nat} {t:Tmp} {oi:Oper} (hI:QI md ops m G w0 listed a w) (hoi:ops[i]? =some oi) (hdep:∀e∈oi.after,Region.binds md e=true→listed.getD e.on false=true) (h:FX md ops i t=true):a.tmps[t]? =G.tmps[t]? :=
 hI.ex t fun j o _ ho hod=>by
  have hj:j<ops.size:=(SO.1 ho).1;have h3:=List.all_eq_true.1 h j (List.mem_range.2 hj);simp only[ho,hod]at h3;have h4:Region.waitsFor md ops i j=true:=by simpa using h3
  obtain⟨o',ho',e,he,hbd,hon⟩:=Region.waitsFor_spec h4;obtain rfl:oi=o':=SI (hoi.symm.trans ho');rw[←hon];exact hdep e he hbd
theorem Ps {m:Nat} (hB0:K4 md ops m=true) (hs:Region.noSelect ops=true) (G:Act) (w0:World)
  (hst:∀(i:Nat) (o:Oper),i<m→ops[i]? =some o→(Region.wanted o (yielded ops G.tmps)=true→∀w,A5 w0 w→o.wp P G w (fun a' w'=>a'=G∧A5 w w') (fun _ _ _=>False))∧(Region.wanted o (yielded ops G.tmps)=false→G.put o.dst undef=G))
  (T:∀w fuel,A5 w0 w→wpAny P md ops Q (fuel+1) (E7 ops.size m) G w):
  ∀fuel listed a w,QI md ops m G w0 listed a w→Dx m listed+1≤fuel→wpAny P md ops Q fuel listed a w:=by
 unfold K4 at hB0;simp only[Bool.and_eq_true,decide_eq_true_eq]at hB0;obtain⟨⟨⟨hhd,hbk⟩,hrc⟩,hsize⟩:=hB0;have hdone:∀fuel listed a w,QI md ops m G w0 listed a w→(∀j,j<m→listed.getD j false=true)→1≤fuel→wpAny P md ops Q fuel listed a w:=by
  intro fuel listed a w hI hall hf;have ha:a=G:=by
   have ht:a.tmps=G.tmps:=Array.ext_getElem? fun k=>hI.ex k fun j o hj ho _=>hall j hj
   have hd:=hI.df;cases a;cases G;simp at ht hd;rw[ht,hd]
  rw[ha,KP hI.size hall (fun i hi=>by
   by_cases him:i=m
   ·rw[him];exact hI.last
   rw[Array.getD_eq_getD_getElem?,Array.getElem?_eq_none (by rw[hI.size];omega)];rfl)]
  obtain⟨f,rfl⟩:∃f,fuel=f+1:=⟨fuel-1,by omega⟩;exact T w f hI.grew
 intro fuel
 induction fuel with
 |zero=>intro listed a w hI hc;omega
 |succ fuel ih=>
  intro listed a w hI hc;rcases Nat.eq_zero_or_pos (Dx m listed)with h0|hpos
  ·exact hdone (fuel+1) listed a w hI (ER h0) (by omega)
  obtain⟨j0,hj0,hl0⟩:=Gj hpos;refine⟨fun hr=>absurd hr (CJ hbk hI.size j0 j0 (SD _) (by omega) hl0),fun i hi=>?_⟩;obtain⟨hun,oi,hoi,hdep⟩:=mem_ready.1 hi;have hisz:i<ops.size:=(SO.1 hoi).1;have hdep':∀e∈oi.after,Region.binds md e=true→listed.getD e.on false=true:=hdep;by_cases him:i=m
  ·exfalso;subst him;have h1:=LI hI.closed hoi hdep' i (List.all_eq_true.1 hrc j0 (List.mem_range.2 hj0));rw[hl0]at h1;cases h1
  have him':i<m:=by omega
  have hun':listed.getD i false=false:=getD_both hun;have hhi:=List.all_eq_true.1 hhd i (List.mem_range.2 him');unfold I5 at hhi;simp only[hoi,Bool.and_eq_true]at hhi;obtain⟨hgd,hopr⟩:=hhi;have hc':Dx m (listed.setIfInBounds i true)+1=Dx m listed:=Gc listed m i him' (by rw[hI.size];exact hisz) hun';have hsz':(listed.setIfInBounds i true).size=ops.size:=by rw[Array.size_setIfInBounds,hI.size]
  have hwt:Region.wanted oi (yielded ops a.tmps)=Region.wanted oi (yielded ops G.tmps):=by
   unfold Region.wanted;cases hg:oi.guard with
   |none=>rfl
   |some p=>
    obtain⟨j,b⟩:=p;rw[hg]at hgd;simp only at hgd ⊢;have:yielded ops a.tmps j=yielded ops G.tmps j:=by
     unfold yielded;cases hoj:ops[j]? with
     |none=>rfl
     |some oj=>
      rw[hoj]at hgd;simp only at hgd;cases hdj:oj.dst with
      |none=>simp[hdj]
      |some t=>
       rw[hdj]at hgd;simp only[Option.bind_some,hdj];rw[Ks hI hoi hdep' hgd]
    rw[this]
  have key:∀v w',(G.put oi.dst v=G)→A5 w w'→QI md ops m G w0 (listed.setIfInBounds i true) (a.put oi.dst v) w':=fun v w' hv hg=>by
   refine⟨fun k hkk=>?_,?_,?_,hI.grew.trans hg,hsz',hI.closed.set hi,by rw[getD_set_ne false him];exact hI.last⟩
   ·cases hd:oi.dst with
    |none=>
     refine hI.ex k fun j o hjm ho hod=>?_
     have h1:=hkk j o hjm ho hod;by_cases hij:i=j
     ·subst hij;obtain rfl:oi=o:=SI (hoi.symm.trans ho);rw[hd]at hod;cases hod
     rwa[getD_set_ne false hij]at h1
    |some d=>
     rw[hd]at hv;rw[Bu];by_cases hdk:d=k
     ·subst hdk;rw[SR rfl];have h1:(G.put (some d) v).tmps[d]? =G.tmps[d]? :=by rw[hv]
      rw[Bu,SR rfl]at h1;rw[←h1,hI.sz]
     rw[SQ hdk];refine hI.ex k fun j o hjm ho hod=>?_
     have h1:=hkk j o hjm ho hod;by_cases hij:i=j
     ·subst hij;obtain rfl:oi=o:=SI (hoi.symm.trans ho);rw[hd]at hod;exact absurd (SI hod) hdk
     rwa[getD_set_ne false hij]at h1
   ·cases oi.dst with
    |none=>exact hI.sz
    |some d=>simp only[Act.put,Array.size_setIfInBounds];exact hI.sz
   cases oi.dst with
   |none=>exact hI.df
   |some d=>exact hI.df
  obtain⟨hst1,hst2⟩:=hst i oi him' hoi;unfold wpOp;simp only[hoi];rw[hwt];cases hww:Region.wanted oi (yielded ops G.tmps)with
  |true=>
   rw[SR rfl];refine .inl ?_;refine Cj (fun cs b=>Region.noSelect_spec hs i oi cs b hoi) (hst1 hww w hI.grew) (fun x hx=>?_) fun v w' hv hg=>ih _ _ _ (key v w' hv hg) (by omega)
   cases x with
   |tmp t=>
    have h1:=Array.all_eq_true'.1 hopr _ hx;simp only[Act.eval,Array.getD_eq_getD_getElem?,Ks hI hoi hdep' h1]
   |_=>rfl
  |false=>
   rw[SQ (by simp)];exact ih _ _ _ (key undef w (hst2 hww) (Sa _)) (by omega)
theorem GO {id:Nat} {a:Act} {w:World} (hm:P.follows .mixedOrders=true) (m:Nat) (vals:List Value) (G:Act) (hB0:K4 .any ops m=true) (hs:Region.noSelect ops=true) (hn:ops.size=m+1)
  (hG:G=AI (ops.toList.take m) vals a) (hH:D9 P ops w.drew G (ops.toList.take m))
  (o:Oper) (ho:ops[m]? =some o) (hgd:o.guard=none)
  (hr1:Region.ready .any ops (E7 ops.size m)=[m]) (hr2:Region.ready .any ops ((E7 ops.size m).setIfInBounds m true)=[])
  (h:∀w1,A5 w w1→o.wp P G w1 (Q .normal) Q):(Code.region id ops true).wp P Q a w:=by
 refine wp_region_any hm ?_;have hsz:G.tmps.size=a.tmps.size:=by rw[hG];exact(BH _ _ _).1
 have hdf:G.defers=a.defers:=by rw[hG];exact(BH _ _ _).2
 refine Ps (m:=m) hB0 hs G w.drew (fun i o' him ho'=>Hn hH i o' (by rw[List.getElem?_take,SR him];simpa using ho')) ?_ ops.size _ _ _ ⟨fun k hk=>?_,hsz.symm,hdf.symm,Sa _,by simp,B6.start _,getD_replicate_false _ _⟩ ?_
 ·intro w1 fuel hg;exact Iu hr1 hr2 ho hgd (h w1 ((Sd (Sa w)).trans hg)) (fuel+1) (by omega)
 ·rw[hG];refine(CN _ _ _ k fun o' ho' hod=>?_).symm;obtain⟨j,hj⟩:=List.getElem?_of_mem ho';rw[List.getElem?_take]at hj;split at hj
  ·rename_i hjm
   have:=hk j o' hjm (by simpa using hj) hod;rw[getD_replicate_false]at this;cases this
  cases hj
 have:∀k,Dx k (Array.replicate ops.size false)≤k:=by
  intro k
  induction k with
  |zero=>exact SD _
  |succ k ih=>unfold Dx;split<;>omega
 have:=this m;omega
end
end Go.Proofs.YthpflelgbadkcaaGreatDoor
namespace Go.Proofs.YthpflelgbadkcaaGreatDoor
open Go.RowKit Pl
theorem KD (x y:ByteArray):(x.toList==y.toList)=decide (x=y):=by
 rw[ByteArray.toList_eq,ByteArray.toList_eq];by_cases h:x=y
 ·subst h;simp
 have:¬x.data.toList=y.data.toList:=fun e=>h (by
  cases x;cases y;exact congrArg ByteArray.mk (Array.toList_inj.1 e))
 rw[SM h,SA];exact this
theorem Jy (m n:Mt) (r:Bool) (hr:decide (m=n)=r) (w:World):(binOp .neq 68 (.agg (Au m).toArray) (.agg (Au n).toArray)).run Tryz.prog w= .ok (.bool (!r)) w:=by
 have h1:∀w (m:Mt),(part 9 (Au m).toArray 0).run Tryz.prog w= .ok (.string m.1) w:=fun w m=>by simp[go_sem,part,Tryz.underlying9,Au]
 have h2:∀w (m:Mt),(part 3 (Au m).toArray 1).run Tryz.prog w= .ok (.int .i64 m.2.1) w:=fun w m=>by simp[go_sem,part,Tryz.underlying3,Au]
 have h3:∀w (m:Mt),(part 9 (Au m).toArray 2).run Tryz.prog w= .ok (.string m.2.2) w:=fun w m=>by simp[go_sem,part,Tryz.underlying9,Au]
 have e1:∀w (a b:Int),(Op.equalIn 9999 3 (.int .i64 a) (.int .i64 b)).run Tryz.prog w= .ok (a==b) w:=fun w a b=>run_equalIn_int w 9998 3 _ _ _ _ Tryz.underlying3
 have e2:∀w (a b:ByteArray),(Op.equalIn 9999 9 (.string a) (.string b)).run Tryz.prog w= .ok (a.toList==b.toList) w:=fun w a b=>run_equalIn_string w 9998 9 _ _ Tryz.underlying9
 have hf:(Tryz.prog.fieldsOf 68).toList.map (fun f=>(f.name,f.type,f.offset))=[("Name",9,0),("Kind",3,1),("Value",9,2)]:=by kernel_rfl
 rw[run_neq_struct,run_equalIn_struct w 9999 68 _ _ (by kernel_rfl) (by kernel_rfl)];generalize (Tryz.prog.fieldsOf 68).toList=fs at hf ⊢;rcases fs with _|⟨f1,_|⟨f2,_|⟨f3,_|⟨f4,fs⟩⟩⟩⟩
 ·exact absurd (congrArg List.length hf) (by simp)
 ·exact absurd (congrArg List.length hf) (by simp)
 ·exact absurd (congrArg List.length hf) (by simp)
 ·simp only[List.map_cons,List.map_nil,List.cons.injEq,SV,and_true]at hf;obtain⟨⟨m1,t1,o1⟩,⟨m2,t2,o2⟩,m3,t3,o3⟩:=hf;have n1:f1.name≠ "_":=by rw[m1];decide
  have n2:f2.name≠ "_":=by rw[m2];decide
  have n3:f3.name≠ "_":=by rw[m3];decide
  have key:(Op.eqFields 9999 (Au m).toArray (Au n).toArray [f1,f2,f3]).run Tryz.prog w= .ok r w:=by
   simp only[Op.eqFields,t1,t2,t3,o1,o2,o3,SR n1,SR n2,SR n3,Sem.run_bind,h1,h2,h3,e1,e2,Result.andThen_ok,Sem.run_ite,Sem.run_pure,KD];subst hr;obtain⟨a1,a2,a3⟩:=m;obtain⟨b1,b2,b3⟩:=n;by_cases q1:a1=b1<;>by_cases q2:a2=b2<;>by_cases q3:a3=b3<;>simp[q1,q2,q3]
  rw[key];rfl
 exact absurd (congrArg List.length hf) (by simp)
theorem PH (v u:Value) (xs ys:List Mt) (w:World) (h:Ch w w.heap.size 3 v (xs.map Au)) (k:Ch w w.heap.size 3 u (ys.map Au)) (hl:xs.length≤1000000) (hl2:ys.length≤1000000):
  Calls Tryz.prog 32 #[v,u] w fun e w'=>e= .returned (.bool (decide (xs=ys)))∧A5 w w':=by
 obtain⟨A1,k1,rfl,hc1⟩:=h.slice;obtain⟨A2,k2,rfl,hc2⟩:=k.slice;have HL1:Hid ((xs.map Au).length=xs.length):=S9 (List.length_map ..);have HL2:Hid ((ys.map Au).length=ys.length):=S9 (List.length_map ..);have HH:=S9 h;have HK:=S9 k;rw[HL1.out]at HH hc1 ⊢;rw[HL2.out]at HK hc2 ⊢;clear h k;generalize hn:xs.length=n at*;generalize hn2:ys.length=n2 at*;have HN:=S9 (SC hn hn2);clear hn hn2;by_cases hne:n=n2
 ·subst hne;have t0:((n:Int)==(n:Int))=true:=by simp
  have t0':((n:Int) !=(n:Int))=false:=by simp
  go_enter Tryz.func32,Tryz.ntmps32;go_wp2_with fail;go_loopw [5,13] (fun _ i wr=>∃(j:Nat),j≤n∧i= .int .i64 (j:Nat)∧xs.take j=ys.take j∧A5 w wr) (fun _ i _=>n-(intOf i).toNat)
  case atStart=>exact⟨0,by omega,rfl,rfl,Sa _⟩
  case round=>
   obtain⟨j,hj,rfl,htk,hGr⟩:=hrel;have HTK:=S9 htk;clear htk;by_cases hlt:j<n
   ·obtain⟨m1,hm1⟩:∃m,xs[j]? =some m:=⟨_,SF (by have:=HN.out;omega)⟩;obtain⟨m2,hm2⟩:∃m,ys[j]? =some m:=⟨_,SF (by have:=HN.out;omega)⟩;have hmm1:(xs.map Au)[j]? =some (Au m1):=by rw[List.getElem?_map,hm1];rfl
    have hmm2:(ys.map Au)[j]? =some (Au m2):=by rw[List.getElem?_map,hm2];rfl
    obtain⟨b1,o1,rfl,hr1⟩:=(HH.out.grew hGr).at_ hmm1;obtain⟨b2,o2,rfl,hr2⟩:=(HK.out.grew hGr).at_ hmm2;have HRW:=S9 (show ∀w',A5 wr.drew w'→w'.rangeAt b1 (o1+j*3) (Au m1)∧w'.rangeAt b2 (o2+j*3) (Au m2)from fun w' g=>by
     have g':=hGr.trans ((Sd (Sa wr)).trans g);obtain⟨x1,y1,e1,f1⟩:=(HH.out.grew g').at_ hmm1;obtain⟨x2,y2,e2,f2⟩:=(HK.out.grew g').at_ hmm2;simp only[SW,Addr.mk.injEq,and_true]at e1 e2;obtain⟨rfl,rfl⟩:=e1;obtain⟨rfl,rfl⟩:=e2;exact⟨f1,f2⟩)
    obtain⟨r,hr⟩:∃r:Bool,decide (m1=m2)=r:=⟨_,rfl⟩;have HNE:=S9 (show ∀w:World,(binOp .neq 68 (.agg (Au m1).toArray) (.agg (Au m2).toArray)).run Tryz.prog w= .ok (.bool (!r)) w from fun w=>Jy m1 m2 r hr w);have HX:=S9 (SC hm1 (SC hm2 hr));clear hm1 hm2 hmm1 hmm2 hr1 hr2 hr;go_upto_region 6 with fail;refine Is (by kernel_rfl) [.slice (some ⟨b1,o1,none⟩) n k1,.int .i64 (j:Int),.pointer (some ⟨b1,o1+j*3,none⟩),.agg (Au m1).toArray,.slice (some ⟨b2,o2,none⟩) n k2,.int .i64 (j:Int),.pointer (some ⟨b2,o2+j*3,none⟩),.agg (Au m2).toArray,.bool (!r)] _ (by kernel_rfl) (by kernel_rfl) rfl ?sH (by kernel_rfl) ?sT
    case sH=>
     simp only[List.toList_toArray,List.take_succ_cons,List.take_zero,AI,Act.put,List.setIfInBounds_toArray,List.set_cons_zero,List.set_cons_succ];refine AO (fun z w' hg=>?_) ?_
     ·go_simp;exact Sa _
     refine AO (fun z w' hg=>?_) ?_
     ·go_simp;exact Sa _
     refine AO (fun z w' hg=>?_) ?_
     ·go_simp;exact Sa _
     refine AO (fun z w' hg=>?_) ?_
     ·obtain⟨g1,g2⟩:=HRW.out _ hg;refine wp_load_mid 68 (.tmp 18) rfl b1 (o1+j*3) rfl (Au m1) _ g1 Tryz.underlying68 rfl Ez ?_;exact⟨rfl,Sa _⟩
     refine AO (fun z w' hg=>?_) ?_
     ·go_simp;exact Sa _
     refine AO (fun z w' hg=>?_) ?_
     ·go_simp;exact Sa _
     refine AO (fun z w' hg=>?_) ?_
     ·go_simp;exact Sa _
     refine AO (fun z w' hg=>?_) ?_
     ·obtain⟨g1,g2⟩:=HRW.out _ hg;refine wp_load_mid 68 (.tmp 22) rfl b2 (o2+j*3) rfl (Au m2) _ g2 Tryz.underlying68 rfl Ez ?_;exact⟨rfl,Sa _⟩
     refine AO (fun z w' hg=>?_) ?_
     ·have hne:=HNE.out;go_simp;exact Sa _
     exact DF
    case sT=>
     intro wn hgn;simp only[List.toList_toArray,List.take_succ_cons,List.take_zero,AI,Act.put,List.setIfInBounds_toArray,List.set_cons_zero,List.set_cons_succ];rcases r with _|_
     ·have HF:=S9 (show decide (xs=ys)=false from by
       rw[decide_eq_false_iff_not];rintro rfl;have hx:=HX.out;rw[hx.1]at hx;obtain⟨-,h2,h3⟩:=hx;obtain rfl:=SI h2;simp at h3)
      go_wp2_with fail;go_ret;exact⟨by rw[HF.out];rfl,hGr.trans hgn⟩
     go_wp2_with fail;go_roundw
     case rel=>exact⟨j+1,by omega,by go_num,by
      obtain⟨h1,h2,h3⟩:=HX.out;have he:m1=m2:=by simpa using h3
      rw[List.take_add_one,List.take_add_one,HTK.out,h1,h2,he],hGr.trans hgn⟩
     case measure=>simp[intOf];omega
   obtain rfl:j=n:=by omega
   have HF:=S9 (show decide (xs=ys)=true from by
    rw[decide_eq_true_iff];have h1:=HTK.out;rwa[List.take_of_length_le (by rw[HN.out.1];exact SD _),List.take_of_length_le (by rw[HN.out.2];exact SD _)]at h1)
   go_wp2_with fail;go_ret;exact⟨by rw[HF.out];rfl,hGr⟩
 have HF:=S9 (show decide (xs=ys)=false from by
  rw[decide_eq_false_iff_not];rintro rfl;exact hne (HN.out.1.symm.trans HN.out.2))
 have t0:((n:Int)==(n2:Int))=false:=by rw[SA];omega
 have t0':((n:Int) !=(n2:Int))=true:=by rw[bne,t0];rfl
 clear hne;go_enter Tryz.func32,Tryz.ntmps32;go_wp2_with fail;go_ret;exact⟨by rw[HF.out];rfl,Sa _⟩
def Hj (s:ByteArray):List Value:=[.string s]
theorem Nf (v u:Value) (xs ys:List ByteArray) (w:World) (h:Ch w w.heap.size 1 v (xs.map Hj)) (k:Ch w w.heap.size 1 u (ys.map Hj)) (hl:xs.length≤1000000) (hl2:ys.length≤1000000):
  Calls Tryz.prog 33 #[v,u] w fun e w'=>e= .returned (.bool (decide (xs=ys)))∧A5 w w':=by
 obtain⟨A1,k1,rfl,hc1⟩:=h.slice;obtain⟨A2,k2,rfl,hc2⟩:=k.slice;have HL1:Hid ((xs.map Hj).length=xs.length):=S9 (List.length_map ..);have HL2:Hid ((ys.map Hj).length=ys.length):=S9 (List.length_map ..);have HH:=S9 h;have HK:=S9 k;rw[HL1.out]at HH hc1 ⊢;rw[HL2.out]at HK hc2 ⊢;clear h k;generalize hn:xs.length=n at*;generalize hn2:ys.length=n2 at*;have HN:=S9 (SC hn hn2);clear hn hn2;by_cases hne:n=n2
 ·subst hne;have t0:((n:Int)==(n:Int))=true:=by simp
  have t0':((n:Int) !=(n:Int))=false:=by simp
  go_enter Tryz.func33,Tryz.ntmps33;go_wp2_with fail;go_loopw [5,13] (fun _ i wr=>∃(j:Nat),j≤n∧i= .int .i64 (j:Nat)∧xs.take j=ys.take j∧A5 w wr) (fun _ i _=>n-(intOf i).toNat)
  case atStart=>exact⟨0,by omega,rfl,rfl,Sa _⟩
  case round=>
   obtain⟨j,hj,rfl,htk,hGr⟩:=hrel;have HTK:=S9 htk;clear htk;by_cases hlt:j<n
   ·obtain⟨m1,hm1⟩:∃m,xs[j]? =some m:=⟨_,SF (by have:=HN.out;omega)⟩;obtain⟨m2,hm2⟩:∃m,ys[j]? =some m:=⟨_,SF (by have:=HN.out;omega)⟩;have hmm1:(xs.map Hj)[j]? =some (Hj m1):=by rw[List.getElem?_map,hm1];rfl
    have hmm2:(ys.map Hj)[j]? =some (Hj m2):=by rw[List.getElem?_map,hm2];rfl
    obtain⟨b1,o1,rfl,hr1⟩:=(HH.out.grew hGr).at_ hmm1;obtain⟨b2,o2,rfl,hr2⟩:=(HK.out.grew hGr).at_ hmm2;have HRW:=S9 (show ∀w',A5 wr.drew w'→w'.cell? ⟨b1,o1+j,none⟩=some (.string m1)∧w'.cell? ⟨b2,o2+j,none⟩=some (.string m2)from fun w' g=>by
     have g':=hGr.trans ((Sd (Sa wr)).trans g);obtain⟨x1,y1,e1,f1⟩:=(HH.out.grew g').at_ hmm1;obtain⟨x2,y2,e2,f2⟩:=(HK.out.grew g').at_ hmm2;simp only[SW,Addr.mk.injEq,and_true]at e1 e2;obtain⟨rfl,rfl⟩:=e1;obtain⟨rfl,rfl⟩:=e2;exact⟨by have:=f1 0 _ rfl;rw[Nat.mul_one]at this;exact this,by have:=f2 0 _ rfl;rw[Nat.mul_one]at this;exact this⟩)
    obtain⟨r,hr⟩:∃r:Bool,decide (m1=m2)=r:=⟨_,rfl⟩;have HNE:=S9 (show ∀w:World,(m1.toList==m2.toList)=r from fun w=>by rw[KD,hr]);have HX:=S9 (SC hm1 (SC hm2 hr));clear hm1 hm2 hmm1 hmm2 hr1 hr2 hr;go_upto_region 6 with fail;refine Is (by kernel_rfl) [.slice (some ⟨b1,o1,none⟩) n k1,.int .i64 (j:Int),.pointer (some ⟨b1,o1+j,none⟩),.string m1,.slice (some ⟨b2,o2,none⟩) n k2,.int .i64 (j:Int),.pointer (some ⟨b2,o2+j,none⟩),.string m2,.bool (!r)] _ (by kernel_rfl) (by kernel_rfl) rfl ?sH (by kernel_rfl) ?sT
    case sH=>
     simp only[List.toList_toArray,List.take_succ_cons,List.take_zero,AI,Act.put,List.setIfInBounds_toArray,List.set_cons_zero,List.set_cons_succ];refine AO (fun z w' hg=>?_) ?_
     ·go_simp;exact Sa _
     refine AO (fun z w' hg=>?_) ?_
     ·go_simp;exact Sa _
     refine AO (fun z w' hg=>?_) ?_
     ·go_simp;exact Sa _
     refine AO (fun z w' hg=>?_) ?_
     ·obtain⟨g1,g2⟩:=HRW.out _ hg;go_simp;exact Sa _
     refine AO (fun z w' hg=>?_) ?_
     ·go_simp;exact Sa _
     refine AO (fun z w' hg=>?_) ?_
     ·go_simp;exact Sa _
     refine AO (fun z w' hg=>?_) ?_
     ·go_simp;exact Sa _
     refine AO (fun z w' hg=>?_) ?_
     ·obtain⟨g1,g2⟩:=HRW.out _ hg;go_simp;exact Sa _
     refine AO (fun z w' hg=>?_) ?_
     ·go_simp;exact⟨HNE.out w',Sa _⟩
     exact DF
    case sT=>
     intro wn hgn;simp only[List.toList_toArray,List.take_succ_cons,List.take_zero,AI,Act.put,List.setIfInBounds_toArray,List.set_cons_zero,List.set_cons_succ];rcases r with _|_
     ·have HF:=S9 (show decide (xs=ys)=false from by
       rw[decide_eq_false_iff_not];rintro rfl;have hx:=HX.out;rw[hx.1]at hx;obtain⟨-,h2,h3⟩:=hx;obtain rfl:=SI h2;simp at h3)
      go_wp2_with fail;go_ret;exact⟨by rw[HF.out];rfl,hGr.trans hgn⟩
     go_wp2_with fail;go_roundw
     case rel=>exact⟨j+1,by omega,by go_num,by
      obtain⟨h1,h2,h3⟩:=HX.out;have he:m1=m2:=by simpa using h3
      rw[List.take_add_one,List.take_add_one,HTK.out,h1,h2,he],hGr.trans hgn⟩
     case measure=>simp[intOf];omega
   obtain rfl:j=n:=by omega
   have HF:=S9 (show decide (xs=ys)=true from by
    rw[decide_eq_true_iff];have h1:=HTK.out;rwa[List.take_of_length_le (by rw[HN.out.1];exact SD _),List.take_of_length_le (by rw[HN.out.2];exact SD _)]at h1)
   go_wp2_with fail;go_ret;exact⟨by rw[HF.out];rfl,hGr⟩
 have HF:=S9 (show decide (xs=ys)=false from by
  rw[decide_eq_false_iff_not];rintro rfl;exact hne (HN.out.1.symm.trans HN.out.2))
 have t0:((n:Int)==(n2:Int))=false:=by rw[SA];omega
 have t0':((n:Int) !=(n2:Int))=true:=by rw[bne,t0];rfl
 clear hne;go_enter Tryz.func33,Tryz.ntmps33;go_wp2_with fail;go_ret;exact⟨by rw[HF.out];rfl,Sa _⟩
end Go.Proofs.YthpflelgbadkcaaGreatDoor
