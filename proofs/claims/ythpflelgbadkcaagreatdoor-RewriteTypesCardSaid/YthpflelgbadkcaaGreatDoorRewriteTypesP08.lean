/- What the card of the law stands on: RowC, DPl, REncb, Claims, Pick, RFoldN, Rewr, Wire, Wire2, RowG, Valid, HPl, Mix, Grp, Gst, HSum, HBytes, BEnc, RdPl, WRd, WRd2, WRd3, WText, Build, KeyA, LabV, Names. -/
import Derived.Test.YthpflelgbadkcaaGreatDoorRewriteTypesP07
import Derived.StillTailTactics
import Derived.Test.YthpflelgbadkcaaGreatDoorRewriteTypesP06
import Derived.Deep.DeepCutAuto
import Derived.Test.YthpflelgbadkcaaGreatDoorRewriteTypesP01
import Derived.Deep.QuietTactic
import Derived.BigQuiet
import Derived.Test.YthpflelgbadkcaaGreatDoorProg
import Derived.Test.YthpflelgbadkcaaGreatDoorRewriteTypesP04
import Derived.Laws.MakeOwn
import Derived.Lib.AppendStr
import Derived.Laws.IdiomStrings
import Derived.Laws.BytesArg
import Derived.Lib.Builder
import Derived.Laws.Externs
import Derived.Lib.UnsafeStr
import Derived.Laws.RangeString
import Derived.Test.YthpflelgbadkcaaGreatDoorRewriteTypesP03
set_option maxRecDepth 100000
set_option maxHeartbeats 12800000
set_option linter.unusedVariables false
set_option linter.unusedSimpArgs false
namespace Go.Proofs.YthpflelgbadkcaaGreatDoor
open Go.RowKit Pl
theorem Tp:(Tryz.prog.info? 126).map (fun i=>(i.zero,i.size,i.bytes))=some (some (.agg #[.int .i64 0,.int .i64 0,.int .i64 0,.int .i64 0]),4,32):=by kernel_rfl
def CG (w:World) (base:Nat) (v:Value) (cs:List Clm):Prop:=w.ownsRow base 126 4 v cs.length (F2 cs)
section
variable {w w':World} {base:Nat} {v:Value} {cs:List Clm} {S:Nat→Prop}
theorem CG.nil (w:World) (base:Nat):CG w base (.slice none 0 0) []:=World.ownsRow_nil _ _ _ _
theorem CG.lt (h:CG w base v cs):∀k,v.ownBlock=some k→base≤k∧k<w.heap.size:=World.ownsRow.lt h
theorem CG.alloc (h:CG w base v cs) (o:Obj):CG (w.alloc o) base v cs:=World.ownsRow.alloc h o
theorem CG.form (h:CG w base v cs):(v= .slice none 0 0∧cs=[])∨
  ∃g cap cur,v= .slice (some ⟨g,0,none⟩) cs.length cap∧base≤g∧AR w g 126 cur∧cs.length≤cap∧cap≤maxLen∧cur.size=cap*4∧cur.toList.take (cs.length*4)=F2 cs:=by
 obtain⟨h1,h2⟩:=h;rcases h2 with⟨rfl,h2⟩|⟨g,cap,cur,rfl,hg,hh,h3,h4,h5,h6⟩
 ·exact .inl ⟨rfl,List.eq_nil_of_length_eq_zero h2⟩
 exact .inr ⟨g,cap,cur,rfl,hg,hh,h3,h4,h5,h6⟩
theorem CG.slice (h:CG w base v cs):∃A n c,v= .slice A n c∧n=cs.length∧n≤c:=by
 rcases h.form with⟨rfl,rfl⟩|⟨g,cap,cur,rfl,_,_,h1,_⟩
 ·exact⟨_,_,_,rfl,rfl,V6 _⟩
 exact⟨_,_,_,rfl,rfl,h1⟩
theorem CG.ne_box {g k:Nat} {t:TypeId} {xs:Array Value} (h:CG w base v cs) (hv:v.ownBlock=some k) (hb:AR w g t xs) (hne:126≠t):k≠g:=by
 rcases h.form with⟨rfl,_⟩|⟨g',cap,cur,rfl,_,hbox,_⟩
 ·cases hv
 have:g'=k:=by simpa[Value.ownBlock]using hv
 subst this;exact hbox.ne_ hb hne
end
theorem UE {cs:List Clm}:∀u∈F2 cs,u.oneCell'=true:=by
 intro u hu;unfold F2 at hu;obtain⟨c,_,hc⟩:=List.mem_flatMap.1 hu;simp only[Dp,List.mem_cons,List.not_mem_nil,or_false]at hc;rcases hc with rfl|rfl|rfl|rfl<;>rfl
theorem La (b o j:Nat):(⟨b,o,none⟩:Addr).add j=⟨b,o+j,none⟩:=by unfold Addr.add;split<;>simp_all
section
variable {w:World} {base:Nat} {v:Value} {cs:List Clm}
theorem RM (ty:TypeId) (hown:CG w base v cs) {B:Nat} {sv:Value} {ds:List Clm} (hr:U5 w B sv ds)
  (hn:cs.length+ds.length≤1099511627776) (hbase:base≤w.heap.size):
  ∃v' w',(Builtin.append_ #[82,82] ty #[v,sv]).run Tryz.prog w= .ok v' w'∧CG w' base v' (cs++ds)∧AA (fun i=>v.ownBlock=some i) w w'∧
   (v'.ownBlock=v.ownBlock∨v'.ownBlock=some w.heap.size):=by
 obtain⟨i,hi,hz,hs,hby⟩:=info_parts Tp;obtain⟨A,c,rfl,hc,hx⟩:=hr;rcases A with _|ad
 ·have hy:ds=[]:=by
   rcases ds with _|⟨y,ys⟩
   ·rfl
   obtain⟨b,o,h,_⟩:=hx (by simp);cases h
  subst hy;refine⟨v,w,?_,by simpa using hown,VY _ _,.inl rfl⟩;rcases hown.2 with⟨rfl,h0⟩|⟨g,cap,cur,rfl,_,_,hnc,_⟩
  ·have:cs=[]:=List.eq_nil_of_length_eq_zero h0;subst this;simp[Builtin.append_,run_underlying Tryz.underlying82,sizeOf,typeInfo,hi,Builtin.lenOf,Builtin.firstCells]
  simp[Builtin.append_,run_underlying Tryz.underlying82,sizeOf,typeInfo,hi,Builtin.lenOf,Builtin.firstCells,hnc,storeCells]
 have hcells:∀j u,(F2 ds)[j]? =some u→w.cell? (ad.add j)=some u:=by
  intro j u hu;rcases ds with _|⟨y,ys⟩
  ·simp[F2]at hu
  obtain⟨b,o,h,_,hc⟩:=hx (by simp);injection h with h;subst h;rw[La];exact hc j u hu
 obtain⟨v',w',hrun,h2,h3,_,h5⟩:=run_append_own_at (P:=Tryz.prog) w base 82 ty 126 i _ 4 32 Tryz.underlying82 hi hz hs hby rfl (by decide) v cs.length (F2 cs) hown ad ds.length c (F2 ds) (IZ ds) hcells UE (by unfold maxLen;omega) (by omega) hbase;refine⟨v',w',hrun,?_,(VY _ w).grown h3 (fun k e _=>e),h5⟩;unfold CG;rw[VR,M3];exact h2
theorem QV {ops:Array Oper} {rest:List Oper} {o:Oper} {a:Act} {Q:Exit→Act→World→Prop} (hgd:o.guard=none) (s x:Operand)
  (ho:o.op= .call { callee:= .builtin .append,args:=#[s,x],argTypes:=#[82,82] })
  (hs:a.eval s=v) (hown:CG w base v cs) {B:Nat} {sv:Value} {ds:List Clm} (hx:a.eval x=sv) (hr:U5 w B sv ds)
  (hn:cs.length+ds.length≤1099511627776) (hbase:base≤w.heap.size)
  (h:∀A m cap w',(cs++ds).length=m→CG w' base (.slice A m cap) (cs++ds)→AA (fun i=>v.ownBlock=some i) w w'→
   ((Value.slice A m cap).ownBlock=v.ownBlock∨(Value.slice A m cap).ownBlock=some w.heap.size)→wpList Tryz.prog ops Q rest (a.put o.dst (.slice A m cap)) w'):wpList Tryz.prog ops Q (o::rest) a w:=by
 refine wpList_plain hgd fun K hK=>?_
 obtain⟨v',w',hrun,h2,h3,h4⟩:=RM o.type hown hr hn hbase;unfold Oper.wp execOp;simp only[ho,resolve,invoke,builtin,Sem.run_bind,Sem.run_pure,Result.andThen_ok,List.map_toArray,List.map_cons,List.map_nil,hs,hx,hrun];obtain⟨A,m,cap,rfl,hm,_⟩:=h2.slice;exact hK _ _ (h A m cap w' hm.symm h2 h3 h4)
theorem Qg {ops:Array Oper} {rest:List Oper} {o:Oper} {a:Act} {Q:Exit→Act→World→Prop} (hgd:o.guard=none) (s x:Operand)
  (ho:o.op= .call { callee:= .builtin .append,args:=#[s,x],argTypes:=#[82,82] })
  (hs:a.eval s=v) (hown:CG w base v cs) (g c:Nat) (d:Clm) (t:TypeId) (hx:a.eval x= .slice (some ⟨g,0,none⟩) 1 c) (hc1:1≤c) (hb:AR w g t (Dp d).toArray)
  (hn:cs.length<1099511627776) (hbase:base≤w.heap.size)
  (h:∀r cap w',CG w' base (.slice (some ⟨r,0,none⟩) (cs.length+1) cap) (cs++[d])→AA (fun i=>v.ownBlock=some i) w w'→
   (some r=v.ownBlock∨r=w.heap.size)→base≤r→r<w'.heap.size→wpList Tryz.prog ops Q rest (a.put o.dst (.slice (some ⟨r,0,none⟩) (cs.length+1) cap)) w'):wpList Tryz.prog ops Q (o::rest) a w:=by
 have hr:U5 w w.heap.size (.slice (some ⟨g,0,none⟩) 1 c) [d]:=by
  refine⟨_,c,rfl,hc1,fun _=>⟨_,_,rfl,hb.lt,fun j u hu=>?_⟩⟩;rw[Nat.zero_add,hb.cell,←hu,Q1];simp
 refine QV hgd s x ho hs hown hx hr (by simp;omega) hbase ?_;intro A m cap w' hm h2 h3 h4;rcases h2.form with⟨_,hh⟩|⟨g',cap',cur,hv,hb,hbox,_⟩
 ·simp at hh
 injection hv with hv1 hv2 hv3;subst hv1 hv2 hv3;simp only[VR,List.length_singleton]at h2 h4 ⊢;refine h g' cap w' h2 h3 ?_ hb hbox.lt;rcases h4 with h4|h4
 ·exact .inl h4
 right;simpa[Value.ownBlock]using h4
end
theorem FI (n:Int) (m:Nat) (w:World) (hn:BI n) (hm:0<m) (hm2:m≤9223372036854775807):
  Calls Tryz.prog 47 #[.int .i64 n,.int .i64 (m:Nat)] w fun e w'=>e= .returned (.int .i64 (FC n m:Nat))∧w'=w:=
 (N3 n m w hn hm hm2).mono fun _ _ h=>⟨h.1,h.2.symm⟩
theorem LO (n m:Int) (w:World) (hn:BI n) (hm:0<m) (hm2:m≤9223372036854775807):
  Calls Tryz.prog 47 #[.int .i64 n,.int .i64 m] w fun e w'=>e= .returned (.int .i64 (FC n m.toNat:Nat))∧w'=w:=by
 have:=FI n m.toNat w hn (by omega) (by omega);rwa[Int.toNat_of_nonneg (by omega)]at this
def FX (l:List Int) (i m:Nat):Nat:=if i<l.length then FC (l.getD i 0) m else 0
theorem Ja (l:List Int) (i m:Nat) (hm:0<m):FX l i m<m:=by
 unfold FX;split
 ·exact Fu _ _ hm
 exact hm
theorem Hw (v:Value) (l:List Int) (i m:Nat) (w:World) (h:Rd w w.heap.size v (l.map vi)) (hi:∀x∈l,BI x) (hl:l.length≤1000000000000000) (_:i≤1000000) (hm:0<m) (hm2:m≤1000000):
  Calls Tryz.prog 23 #[v,.int .i64 (i:Nat),.int .i64 (m:Nat)] w fun e w'=>e= .returned (.int .i64 (FX l i m:Nat))∧w'=w:=by
 obtain⟨A,n,c,rfl,hn,hc⟩:=h.form;rw[List.length_map]at hn;by_cases hlt:i<n
 ·have hpv:FX l i m=FC (l.getD i 0) m:=by unfold FX;rw[VN (by omega)]
  rw[hpv];clear hpv;obtain⟨ad,rfl,hadb,hcell⟩:=h.int_at (j:=i) (by omega);have HA:=V3 (FI (l.getD i 0) m w (Ft hi i) hm (by omega));generalize l.getD i 0=x at*;generalize FC x m=k at*;have hnl:n≤1000000000000000:=by omega
  have t0:decide ((i:Int)<0)=false:=by simp
  have t1:decide (n≤i)=false:=by simp;omega
  have t2:decide ((n:Int)≤(i:Int))=false:=by simp;omega
  clear h hn hi;go_enter Tryz.func23,Tryz.ntmps23;go_wp2_with fail;refine HA.out.mono ?_;rintro e w' ⟨rfl,hw'⟩;rw[hw'];clear hw' w';go_wp2_with fail;go_ret;exact⟨rfl,rfl⟩
 have hpv:FX l i m=0:=by unfold FX;rw[VM (by omega)]
 rw[hpv];clear hpv;have hnl:n≤1000000000000000:=by omega
 have t0:decide ((i:Int)<0)=false:=by simp
 have t1:decide (n≤i)=true:=by simp;omega
 have t2:decide ((n:Int)≤(i:Int))=true:=by simp;omega
 clear h hn hi;go_enter Tryz.func23,Tryz.ntmps23;go_wp2_with fail;go_ret;exact⟨rfl,rfl⟩
theorem B1 (e:Ex) (A1 A2 A3:Option Addr) (n1 n2 n3 c1 c2 c3:Nat):∀v∈AC e (.slice A1 n1 c1) (.slice A2 n2 c2) (.slice A3 n3 c3),v.oneCell'=true:=by
 intro v hv;simp[AC]at hv;rcases hv with rfl|rfl|rfl|rfl|rfl|rfl|rfl|rfl|rfl|rfl|rfl<;>rfl
def Jq (w:World) (B0:Nat) (e:Ex) (e':Ending) (w':World):Prop:=∃cs,e'= .returned (.agg cs.toArray)∧AZ w' (DK B0 w.heap.size w'.heap.size) e cs∧A4 w w'
def So (e:Ex):Prop:=Ji e∧Sm e
section
variable {w w':World} {B B':Nat} {v:Value} {cs:List Clm} {S:Nat→Prop}
end
section
variable {w:World} {base:Nat} {v:Value} {cs:List Clm}
theorem A4.appC {w0 w':World} (h0:A4 w0 w) (hown:CG w w0.heap.size v cs) (hk:AA (fun i=>v.ownBlock=some i) w w'):A4 w0 w':=
 VV h0 hk fun i hi e=>by have:=(hown.lt i e).1;omega
end
def Up (k:Nat):Int:=if k=1∨k=3 then 1 else 0
def Ue (k:Nat):Int:=if k=0 then 0 else if k=1∨k=2 then 1073741824 else if k=3 then 4096 else 1048576
def Ua (x:Clm):Prop:=0≤x.1∧x.1<4096∧0≤x.2.1∧x.2.1≤4∧Up x.2.1.toNat≤x.2.2.1∧x.2.2.1≤Ue x.2.1.toNat∧0≤x.2.2.2∧x.2.2.2≤4398046511104∧(x.2.1≠0∨x.2.2.2=0)
instance (x:Clm):Decidable (Ua x):=by unfold Ua;infer_instance
end Go.Proofs.YthpflelgbadkcaaGreatDoor
namespace Go.Proofs.YthpflelgbadkcaaGreatDoor.Pl
open Go.RowKit
def Ed (s w:Nat):Nat:=((s^^^w)*11400714819323198485%18446744073709551616)^^^((s^^^w)*11400714819323198485%18446744073709551616/4294967296)
theorem In (s w:Nat):Ed s w<18446744073709551616:=by
 unfold Ed;generalize (s^^^w)*11400714819323198485=m;have h1:m%18446744073709551616<2^64:=by omega
 have h2:m%18446744073709551616/4294967296<2^64:=by omega
 have:=Nat.xor_lt_two_pow h1 h2;omega
def N8:List Nat→Nat
 |[]=>0
 |x::l=>x+256*N8 l
theorem Q7 (l:List Nat) (h:Bytes l):N8 l<256^l.length:=by
 induction l with
 |nil=>simp[N8]
 |cons x l ih=>
  have h1:=h x (by simp);have h2:=ih (fun y hy=>h y (by simp[hy]));rw[N8,List.length_cons,Nat.pow_succ];omega
def Cm (bs:List Nat) (i:Nat):List Nat:=(bs.drop (8*i)).take 8
theorem Qq (bs:List Nat) (i:Nat):(Cm bs i).length≤8:=List.length_take_le _ _
theorem LJ (bs:List Nat) (i:Nat):(Cm bs i).length=min 8 (bs.length-8*i):=by unfold Cm;rw[List.length_take,List.length_drop]
theorem Ic {bs:List Nat} (h:Bytes bs) (i:Nat):Bytes (Cm bs i):=fun x hx=>h x (List.mem_of_mem_drop (List.mem_of_mem_take hx))
theorem Ly {bs:List Nat} (h:Bytes bs) (i:Nat):N8 (Cm bs i)<18446744073709551616:=by
 have h1:=Q7 _ (Ic h i);have h2:256^(Cm bs i).length≤256^8:=Nat.pow_le_pow_right (by omega) (Qq bs i);have h3:(256:Nat)^8=18446744073709551616:=by decide
 omega
def ER (bs:List Nat):Nat:=(bs.length+7)/8
def BE (bs:List Nat):List Nat:=(List.range (ER bs)).map fun i=>N8 (Cm bs i)
theorem DF (bs:List Nat):(BE bs).length=ER bs:=by simp[BE]
theorem QE {bs:List Nat} (h:Bytes bs):∀x∈BE bs,x<18446744073709551616:=fun x hx=>by
 unfold BE at hx;obtain⟨i,_,rfl⟩:=List.mem_map.1 hx;exact Ly h i
theorem Nd (bs:List Nat) (j:Nat) (hj:j<ER bs):(BE bs).take (j+1)=(BE bs).take j++[N8 (Cm bs j)]:=by
 rw[List.take_succ_eq_append_getElem (by rw[DF];exact hj)];simp[BE]
def Bo (s:Nat) (l:List Nat):Nat:=l.foldl Ed s
theorem Ix (s:Nat):Bo s []=s:=by unfold Bo;rw[List.foldl_nil]
theorem Fo (s:Nat) (l:List Nat) (x:Nat):Bo s (l++[x])=Ed (Bo s l) x:=by
 unfold Bo;rw[List.foldl_append,List.foldl_cons,List.foldl_nil]
def Ip (label ws:List Nat):Nat:=Ed (Bo (Ed (Ed (Bo 0 (BE label)) label.length) ws.length) ws) 0
end Go.Proofs.YthpflelgbadkcaaGreatDoor.Pl
namespace Go.Proofs.YthpflelgbadkcaaGreatDoor
open Go.RowKit Pl
end Go.Proofs.YthpflelgbadkcaaGreatDoor
namespace Go.Proofs.YthpflelgbadkcaaGreatDoor
open Go.RowKit Go.Shelf Pl
attribute [local go_sem] Oper.semAt_some
attribute [local go_sem] Oper.semAt_some
attribute [local go_sem] Oper.semAt_some
def Po (x:Nat):Int:=if x<9223372036854775808 then(x:Int)else(x:Int)-18446744073709551616
def vw (x:Nat):Value:= .int .i64 (Po x)
theorem QI {x:Nat} (h:x<18446744073709551616):IntKind.u64.wrap (Po x)=(x:Int):=by
 rw[IntKind.wrap_u64];unfold Po;split<;>omega
theorem Rx {x:Nat} (h:x<18446744073709551616): -9223372036854775808≤Po x∧Po x≤9223372036854775807:=by unfold Po;split<;>omega
theorem G4 {s:Nat} (hs:s<18446744073709551616) (l:List Nat):Bo s l<18446744073709551616:=by
 rcases List.eq_nil_or_concat l with rfl|⟨l,x,rfl⟩
 ·exact hs
 rw[List.concat_eq_append,Fo];exact In _ _
attribute [local go_sem] Oper.semAt_some
end Go.Proofs.YthpflelgbadkcaaGreatDoor
namespace Go.Proofs.YthpflelgbadkcaaGreatDoor
open Go.RowKit Pl
theorem DR {a b:List Nat} (ha:Bytes a) (hb:Bytes b):Bytes (a++b):=fun x hx=>by
 rcases List.mem_append.1 hx with h|h
 ·exact ha x h
 exact hb x h
end Go.Proofs.YthpflelgbadkcaaGreatDoor
namespace Go.Proofs.YthpflelgbadkcaaGreatDoor.Pl
end Go.Proofs.YthpflelgbadkcaaGreatDoor.Pl
namespace Go.Proofs.YthpflelgbadkcaaGreatDoor
open Go.RowKit Pl
def bl (s:ByteArray):List Nat:=s.data.toList.map UInt8.toNat
theorem CD (s:ByteArray):(bl s).length=s.size:=by unfold bl;rw[List.length_map,Array.length_toList];rfl
theorem Er (s:ByteArray):Bytes (bl s):=fun x hx=>by
 unfold bl at hx;obtain⟨b,_,rfl⟩:=List.mem_map.1 hx;exact b.toNat_lt
theorem Pr (s:ByteArray):Lib.strCells s=(bl s).map vb:=by unfold Lib.strCells bl;rw[List.map_map];rfl
theorem Qd {s t:ByteArray} (h:bl s=bl t):s=t:=by
 unfold bl at h;have h2:s.data.toList=t.data.toList:=(List.map_inj_right (fun a b e=>UInt8.toNat_inj.1 e)).1 h;obtain⟨s⟩:=s;obtain⟨t⟩:=t;simp only at h2;rw[Array.toList_inj.1 h2]
theorem Rb {w:World} {base:Nat} {v:Value} {bs:List Nat} {ops:Array Oper} {rest:List Oper} {o:Oper} {a:Act} {Q:Exit→Act→World→Prop} (hgd:o.guard=none) (s x:Operand)
  (ho:o.op= .call { callee:= .builtin .append,args:=#[s,x],argTypes:=#[154,9] })
  (hs:a.eval s=v) (hown:B9 w base 5 v (bs.map vb)) (t:ByteArray) (hx:a.eval x= .string t)
  (hn:bs.length+t.size≤1099511627776) (hbase:base≤w.heap.size)
  (h:∀A m cap w',B9 w' base 5 (.slice A m cap) ((bs++bl t).map vb)→AA (fun i=>v.ownBlock=some i) w w'→wpList Tryz.prog ops Q rest (a.put o.dst (.slice A m cap)) w'):wpList Tryz.prog ops Q (o::rest) a w:=by
 refine wpList_plain hgd fun K hK=>?_
 obtain⟨i,hi,hz,hsz,hby⟩:=info_parts TZ.info;obtain⟨v',w',hrun,h2,h3,_⟩:=Lib.run_append_own_string (P:=Tryz.prog) w base 154 9 o.type 5 i Tryz.underlying154 Tryz.underlying9 hi hz hsz hby v _ _ hown t (by rw[List.length_map];unfold maxLen;omega) (by rw[List.length_map];omega) hbase;have hm:B9 w' base 5 v' ((bs++bl t).map vb):=by
  unfold B9;rw[List.map_append,VR,←Pr,Lib.strCells_length];exact h2
 unfold Oper.wp execOp;simp only[ho,resolve,invoke,builtin,Sem.run_bind,Sem.run_pure,Result.andThen_ok,List.map_toArray,List.map_cons,List.map_nil,hs,hx,hrun];obtain⟨A,m,cap,rfl, -⟩:=hm.slice;exact hK _ _ (h A m cap w' hm ((VY _ w).grown h3 (fun k e _=>e)))
structure SB (w:World) (base g:Nat) (p v:Value) (bs:List Nat):Prop where
 box:AR w g 156 #[p,v]
 row:B9 w base 5 v (bs.map vb)
 self:p= .pointer none∨p= .pointer (some ⟨g,0,none⟩)
theorem SB.cells {w:World} {base g:Nat} {p v:Value} {bs:List Nat} (h:SB w base g p v bs):w.cell? ⟨g,0,none⟩=some p∧w.cell? ⟨g,1,none⟩=some v:=⟨h.box.cell 0,h.box.cell 1⟩
theorem T8:∃j,Tryz.prog.info? 156=some j∧j.size=2:=by
 have h:(Tryz.prog.info? 156).map (·.size)=some 2:=by kernel_rfl
 cases hj:Tryz.prog.info? 156 with
 |none=>rw[hj]at h;cases h
 |some j=>rw[hj]at h;exact⟨j,rfl,by simpa using h⟩
theorem OE {w:World} {base g:Nat} {p v:Value} {bs:List Nat} (h:SB w base g p v bs):w.shape? g=some (156,2):=by
 have:=h.box;unfold AR at this;simp[World.shape?,this]
theorem GN (g base:Nat) (p v:Value) (bs:List Nat) (w:World) (h:SB w base g p v bs):
  Calls Tryz.prog 149 #[.pointer (some ⟨g,0,none⟩)] w fun e w'=>e= .returned (.tuple #[])∧SB w' base g (.pointer (some ⟨g,0,none⟩)) v bs∧GQ g w w':=by
 obtain⟨c0,c1⟩:=h.cells;obtain⟨j,hj,hj2⟩:=T8;have hne:=fun w'=>Lib.run_neq_ptr_same (P:=Tryz.prog) w' ⟨g,0,none⟩ Tryz.underlying153 hj
 have hto:=Lib.run_to_unsafe (P:=Tryz.prog) w (src:=153) (dst:=211) ⟨g,0,none⟩ Tryz.underlying153 Tryz.underlying211 hj (by omega) (OE h) (Nat.zero_lt_succ 1);have hfrom:=Lib.run_from_unsafe (P:=Tryz.prog) w (src:=211) (dst:=153) ⟨g,0,none⟩ Tryz.underlying211 Tryz.underlying153 hj (OE h) (by kernel_rfl);have hne2:∀w',(callFunc 161 #[.pointer (some ⟨g,0,none⟩)]).run Tryz.prog w'= .ok (.value (.pointer (some ⟨g,0,none⟩))) w':=fun w'=>by
  rw[run_callFunc_extern Tryz.func161 (by kernel_rfl) (by kernel_rfl) (by kernel_rfl) (e:=Extern.AbiNoEscape.same) (by kernel_rfl),Lib.run_noEscape];rfl
 have H:=V3 h;have f0:=h.box.frozen 0;have hs:=h.self;clear h;rcases hs with rfl|rfl
 ·go_enter Tryz.func149,Tryz.ntmps149;go_wp2_with fail;go_end0;exact⟨rfl,⟨by simpa using H.out.box.set_ 0 _,H.out.row.far (fun e=>H.out.row.ne_box e H.out.box (by decide) rfl) _,.inr rfl⟩,GQ.set g _ 0 _⟩
 go_enter Tryz.func149,Tryz.ntmps149;go_wp2_with fail;go_end0;exact⟨rfl,H.out,GQ.refl _ _⟩
theorem SB.step {w w1:World} {base g:Nat} {p v v':Value} {bs ys:List Nat} (h:SB w base g p v bs) (hm:B9 w1 base 5 v' ((bs++ys).map vb)) (hk:AA (fun i=>v.ownBlock=some i) w w1):
  SB (w1.setCell ⟨g,1,none⟩ v') base g p v' (bs++ys)∧JV g v w (w1.setCell ⟨g,1,none⟩ v'):=by
 have hg1:¬v.ownBlock=some g:=fun e=>h.row.ne_box e h.box (by decide) rfl
 have hbox:=h.box.keep hk hg1;refine⟨⟨by simpa using hbox.set_ 1 v',hm.far (fun e=>hm.ne_box e hbox (by decide) rfl) _,h.self⟩,?_⟩;exact(AA.mono hk (fun i _ e=> .inr e)).setCell (.inl (.inl rfl)) _
theorem SB.keepsB {w w':World} {base g:Nat} {p v:Value} {bs:List Nat} (h:SB w base g p v bs) (hg:base≤g) (hk:JV g v w w'):AA (fun i=>base≤i) w w':=AA.mono hk (fun i _ e=>by
 rcases e with e|e
 ·rw[e];exact hg
 exact(h.row.lt i e).1)
theorem AR.keepSB {w w':World} {base g:Nat} {p v:Value} {bs:List Nat} {k:Nat} {t:TypeId} {xs:Array Value} (hb:AR w k t xs) (h:SB w base g p v bs) (hk:JV g v w w') (h1:t≠156) (h2:t≠5):AR w' k t xs:=hb.keep hk (fun e=>by
 rcases e with e|e
 ·exact hb.ne_ h.box h1 e
 exact h.row.ne_box e hb (fun e1=>h2 e1.symm) rfl)
theorem Ku {S:Nat→Prop} (w:World) (p:Addr) (n:Nat) (hp:S p.block):AA S w (w.freeze p n):=by
 unfold World.freeze;split
 ·exact VY _ _
 exact⟨rfl,rfl,rfl,by simp,fun k hk hn=>by
  simp only[Array.getElem?_modify];rw[VM (fun e=>hn (by rw[←e];exact hp))]⟩
theorem Kv (g base:Nat) (p v:Value) (bs:List Nat) (w:World) (h:SB w base g p v bs) (h0:0<bs.length) (hB:Bytes bs) (hl:bs.length<900000000):
  Calls Tryz.prog 103 #[.pointer (some ⟨g,0,none⟩)] w fun e w'=>∃s,e= .returned (.string s)∧bl s=bs∧AA (fun i=>base≤i) w w':=by
 obtain⟨c0,c1⟩:=h.cells;obtain⟨l,hlu⟩:∃l:List UInt8,l.map UInt8.toNat=bs:=⟨bs.map UInt8.ofNat,by
  rw[List.map_map]
  conv=>rhs;rw[←List.map_id bs]
  apply List.map_congr_left;intro x hx;have:=hB x hx;simp[Nat.mod_eq_of_lt this]⟩
 have hll:l.length=bs.length:=by rw[←hlu,List.length_map]
 rcases h.row.form with⟨_,hn⟩|⟨r,cap,cur,rfl,hbr,hbox,h1,h2,h3,h4⟩
 ·have:=congrArg List.length hn;rw[List.length_map,List.length_nil]at this;omega
 rw[List.length_map]at h1;have hcells:∀(W:World),W.heap=w.heap→∀j x,l[j]? =some x→W.cell? ((⟨r,0,none⟩:Addr).add j)=some (.int .u8 x.toNat):=by
  intro W hW j x hx;have hj:j<bs.length:=by rw[←hll];exact(VG.1 hx).1
  have:=h.row.cellAt (j:=j) (by rw[List.length_map];exact hj);rw[La,Nat.zero_add,World.cell?_of_block (a:=⟨r,j,none⟩) (w:=w) (w':=W) (by rw[hW]),this];simp only[List.getElem_map];have hx2:bs[j]=x.toNat:=by
   have e1:bs[j]? =some x.toNat:=by rw[←hlu,List.getElem?_map,hx];rfl
   rw[VB hj]at e1;exact VE e1
  rw[hx2];rfl
 have hsd:=fun W=>Lib.run_unsafeSliceData_row (P:=Tryz.prog) W #[154] 193 ⟨r,0,none⟩ bs.length cap (by omega)
 have hsh:w.drew.shape? r=some (5,cap):=by
  have hbx:w.drew.heap[r]? =some (.cells cur 5 (0,0)):=hbox;simp[World.shape?,hbx,h3]
 have hus:=Lib.run_unsafeString_row (P:=Tryz.prog) w.drew 193 3 9 5 Tryz.underlying193 (by kernel_rfl) r cap hsh l (fun e=>by rw[e]at hll;simp at hll;omega) (by omega) (by omega) (hcells w.drew rfl);rw[hll]at hus;have hfin:bl ⟨l.toArray⟩=bs:=by unfold bl;simpa using hlu
 have hkf:AA (fun i=>base≤i) w (w.drew.freeze ⟨r,0,none⟩ bs.length):=VV (VX (VY _ w)) (Ku w.drew ⟨r,0,none⟩ bs.length hbr) (fun i _ e=>e);have HF:=V3 hfin;have HK:=V3 hkf;rw[List.length_map]at c1;generalize bs.length=n at*;clear hcells hsh hlu hll h2 h3 h4 h1 hbox h hfin hkf;go_enter Tryz.func103,Tryz.ntmps103;go_upto_region 1 with fail;go_still_tail 10,(by kernel_rfl);change wpList _ _ _ _ _ w.drew;go_wp2_with fail;go_ret;exact⟨_,rfl,HF.out,HK.out⟩
theorem K5 (g base:Nat) (p v:Value) (bs:List Nat) (c:Nat) (w:World) (h:SB w base g p v bs) (hl:bs.length<900000000) (hb:base≤w.heap.size):
  Calls Tryz.prog 148 #[.pointer (some ⟨g,0,none⟩),.int .u8 (c:Nat)] w fun e w'=>e= .returned .nilIface∧∃p' v',SB w' base g p' v' (bs++[c])∧JV g v w w':=by
 have HC:=V3 (GN g base p v bs w h);clear h;go_enter Tryz.func148,Tryz.ntmps148;go_wp2_with fail;refine HC.out.mono ?_;rintro e w2 ⟨rfl,h2,k2⟩;obtain⟨c0,c1⟩:=h2.cells;have f1:=h2.box.frozen 1;obtain⟨A2,n2,c2,rfl, -⟩:=h2.row.slice;have hs2:=k2.size;have hlt:=h2.box.lt;go_wp2_with(at_builtin;refine Ii TZ rfl (.tmp 11) (.tmp 13) rfl rfl (h2.row.alloc _) w2.heap.size 1 (.int .u8 (c:Nat)) rfl (V6 _) (by simp) (by simp) rfl (by simp;omega) (by simp;omega) ?_;intro r cap w3 hM3 hk3 hr3 hbr3 hlr3;obtain⟨q2,hq2⟩:∃q2,q2=(bs.map vb).length+1:=⟨_,rfl⟩;rw[←hq2]at hM3 ⊢;clear hq2;have hb3:=(h2.box.alloc _).keep hk3 (fun e=>h2.row.ne_box e h2.box (by decide) rfl);have k0:=hb3.cell 1;have e0:=hb3.frozen 1;simp only[List.getElem?_toArray,List.getElem?_cons_zero,List.getElem?_cons_succ]at k0;clear c0 c1 f1);go_ret;have hS:=SB.step (w:=w2.alloc (.cells #[.int .u8 (c:Nat)] 5)) (ys:=[c]) ⟨h2.box.alloc _,h2.row.alloc _,h2.self⟩ (by rw[List.map_append];exact hM3) hk3;exact⟨rfl,_,_,hS.1,VV (AA.alloc (AA.mono k2 (fun i _ e=> .inl e)) _) hS.2 (fun i _ e=>e)⟩
theorem If (g base:Nat) (p v:Value) (bs:List Nat) (s:ByteArray) (w:World) (h:SB w base g p v bs) (hl:bs.length<900000000) (hs:s.size≤1000000) (hb:base≤w.heap.size):
  Calls Tryz.prog 132 #[.pointer (some ⟨g,0,none⟩),.string s] w fun e w'=>(∃u,e= .returned u)∧∃p' v',SB w' base g p' v' (bs++bl s)∧JV g v w w':=by
 have HC:=V3 (GN g base p v bs w h);clear h;go_enter Tryz.func132,Tryz.ntmps132;go_wp2_with fail;refine HC.out.mono ?_;rintro e w2 ⟨rfl,h2,k2⟩;obtain⟨c0,c1⟩:=h2.cells;have f1:=h2.box.frozen 1;obtain⟨A2,n2,c2,rfl, -⟩:=h2.row.slice;have hs2:=k2.size;go_wp2_with(at_builtin;refine Rb rfl (.tmp 12) (.tmp 13) rfl rfl h2.row s rfl (by omega) (by omega) ?_;intro A3 m3 c3 w3 hM3 hk3;have hb3:=h2.box.keep hk3 (fun e=>h2.row.ne_box e h2.box (by decide) rfl);have k0:=hb3.cell 1;have e0:=hb3.frozen 1;simp only[List.getElem?_toArray,List.getElem?_cons_zero,List.getElem?_cons_succ]at k0;clear c0 c1 f1);go_ret2;have hS:=SB.step h2 (ys:=bl s) hM3 hk3;exact⟨⟨_,rfl⟩,_,_,hS.1,VV (AA.mono k2 (fun i _ e=> .inl e)) hS.2 (fun i _ e=>e)⟩
def O2 (w:World) (v:Value) (ls:List (ByteArray×ByteArray)):Prop:=
 (∀p∈ls,p.1.size≤16∧p.2.size≤16)∧∃A c,v= .slice A ls.length c∧(0<ls.length→∃b,A=some ⟨b,0,none⟩∧b<w.heap.size∧∀j p,ls[j]? =some p→w.cell? ⟨b,j*2,none⟩=some (.string p.1)∧w.cell? ⟨b,j*2+1,none⟩=some (.string p.2))
theorem O2.grew {w w':World} {v:Value} {ls:List (ByteArray×ByteArray)} (h:O2 w v ls) (k:A4 w w'):O2 w' v ls:=by
 obtain⟨h0,A,c,hv,hx⟩:=h;refine⟨h0,A,c,hv,fun hn=>?_⟩;obtain⟨b,e,hb,hcell⟩:=hx hn;refine⟨b,e,VA hb k.size,fun j p hp=>?_⟩;have hbk:=k.block b hb (fun e=>e);exact⟨(World.cell?_of_block (a:=⟨b,j*2,none⟩) hbk).trans (hcell j p hp).1,(World.cell?_of_block (a:=⟨b,j*2+1,none⟩) hbk).trans (hcell j p hp).2⟩
theorem O2.nil (w:World) (c:Nat):O2 w (.slice none 0 c) []:=⟨by simp,none,c,rfl,fun h=>by simp at h⟩
def Lz:List (List (ByteArray×ByteArray)):=[[],[(⟨#[104,111,115,116]⟩,⟨#[97]⟩)],[(⟨#[104,111,115,116]⟩,⟨#[98]⟩)],[(⟨#[104,111,115,116]⟩,⟨#[98]⟩),(⟨#[122,111,110,101]⟩,⟨#[120]⟩)]]
theorem NE (n:Int) (w:World) (hn:BI n):
  Calls Tryz.prog 44 #[.int .i64 n] w fun e w'=>∃v ls,e= .returned v∧O2 w' v ls∧ls∈Lz∧A4 w w':=by
 have HA:=V3 (LO n 4 w hn (by omega) (by omega));have hk:=Fu n (4:Int).toNat (by decide);generalize FC n (4:Int).toNat=k at*;have hk4:k<4:=hk;have hcase:k=0∨k=1∨k=2∨k=3:=by omega
 clear hk hk4;go_enter Tryz.func44,Tryz.ntmps44;go_wp2_with fail;refine HA.out.mono ?_;rintro e w' ⟨rfl,hw'⟩;rw[hw'];clear hw' w' HA;rcases hcase with rfl|rfl|rfl|rfl
 ·go_wp2_with fail;go_ret;exact⟨_,[],rfl,O2.nil _ _,by simp[Lz],VU _⟩
 ·go_wp2_with fail;go_ret;refine⟨_,[(⟨#[104,111,115,116]⟩,⟨#[97]⟩)],rfl,⟨by simp;decide,_,_,rfl,fun _=>⟨_,rfl,by simp,fun j p hp=>?_⟩⟩,by simp[Lz],(VU w).alloc _⟩
  match j,hp with
  |0,hp=>cases hp;exact⟨(VW w _ _).cell 0,(VW w _ _).cell 1⟩
 ·go_wp2_with fail;go_ret;refine⟨_,[(⟨#[104,111,115,116]⟩,⟨#[98]⟩)],rfl,⟨by simp;decide,_,_,rfl,fun _=>⟨_,rfl,by simp,fun j p hp=>?_⟩⟩,by simp[Lz],(VU w).alloc _⟩
  match j,hp with
  |0,hp=>cases hp;exact⟨(VW w _ _).cell 0,(VW w _ _).cell 1⟩
 go_wp2_with fail;go_ret;refine⟨_,[(⟨#[104,111,115,116]⟩,⟨#[98]⟩),(⟨#[122,111,110,101]⟩,⟨#[120]⟩)],rfl,⟨by simp;decide,_,_,rfl,fun _=>⟨_,rfl,by simp,fun j p hp=>?_⟩⟩,by simp[Lz],(VU w).alloc _⟩
 match j,hp with
 |0,hp=>cases hp;exact⟨(VW w _ _).cell 0,(VW w _ _).cell 1⟩
 |1,hp=>cases hp;exact⟨(VW w _ _).cell 2,(VW w _ _).cell 3⟩
def OG (w:World) (g:Nat):Nat:=match w.heap[g]? with|some (.stringIter _ p)=>p|_=>0
theorem CS (w:World) (s:ByteArray) (p:Nat):OG (w.iter s p) w.heap.size=p:=by unfold OG;rw[World.iter_heap]
theorem DO (w:World) (s:ByteArray) (p:Nat):A4 w (w.iter s p):=(VU w).alloc _
def SG (s:ByteArray):Prop:=∀i (h:i<s.size),(s[i]'h).toNat<128
theorem IM (s:ByteArray):CW s=true↔(1≤s.size∧s.size≤16)∧∀i (h:i<s.size),Eh i (s[i]'h).toNat=true:=by
 unfold CW;rw[Bool.and_eq_true,decide_eq_true_iff,List.all_eq_true];constructor
 ·rintro⟨h1,h2⟩;refine⟨h1,fun i h=>?_⟩;have:=h2 i (List.mem_range.2 h);rwa[getElem!_pos s i h]at this
 rintro⟨h1,h2⟩;refine⟨h1,fun i hi=>?_⟩;have h:=List.mem_range.1 hi;have:=h2 i h;rwa[getElem!_pos s i h]
theorem Gb (s:ByteArray):DM s=true↔s.size≤16∧∀i (h:i<s.size),Eb (s[i]'h).toNat=true:=by
 unfold DM;rw[Bool.and_eq_true,decide_eq_true_iff,List.all_eq_true];constructor
 ·rintro⟨h1,h2⟩;refine⟨h1,fun i h=>?_⟩;have:=h2 i (List.mem_range.2 h);rwa[getElem!_pos s i h]at this
 rintro⟨h1,h2⟩;refine⟨h1,fun i hi=>?_⟩;have h:=List.mem_range.1 hi;have:=h2 i h;rwa[getElem!_pos s i h]
theorem MR {s:ByteArray} (h:¬(1≤s.size∧s.size≤16)):CW s=false:=by
 rcases hb:CW s
 ·rfl
 exact absurd ((IM s).1 hb).1 h
theorem KT {s:ByteArray} {i:Nat} {h:i<s.size} {c:Nat} (hc:(s[i]'h).toNat=c) (hb:Eh i c=false):CW s=false:=by
 rcases hn:CW s
 ·rfl
 have:=((IM s).1 hn).2 i h;rw[hc,hb]at this;cases this
theorem Mp {s:ByteArray} {i:Nat} {h:i<s.size} {c:Nat} (hc:(s[i]'h).toNat=c) (hb:Eb c=false):DM s=false:=by
 rcases hn:DM s
 ·rfl
 have:=((Gb s).1 hn).2 i h;rw[hc,hb]at this;cases this
theorem J6 (s:ByteArray) (hs:SG s) (w:World):Calls Tryz.prog 93 #[.string s] w fun e w'=>e= .returned (.bool (CW s))∧A4 w w':=by
 have H3:=V3 hs;clear hs;go_enter Tryz.func93,Tryz.ntmps93;by_cases h1:(s.size:Int)<1
 ·have t1:decide ((s.size:Int)<1)=true:=by simpa using h1
  have HF:=V3 (MR (s:=s) (by omega));clear h1;go_wp2_with fail;go_ret;exact⟨by rw[HF.out];rfl,VU _⟩
 have t1:decide ((s.size:Int)<1)=false:=by simp;omega
 by_cases h2:(16:Int)<(s.size:Int)
 ·have t2:decide ((16:Int)<(s.size:Int))=true:=by simpa using h2
  have HF:=V3 (MR (s:=s) (by omega));clear h1 h2;go_wp2_with fail;go_ret;exact⟨by rw[HF.out];rfl,VU _⟩
 have t2:decide ((16:Int)<(s.size:Int))=false:=by simp;omega
 have HL:=V3 (show 1≤s.size∧s.size≤16 by omega);clear h1 h2;go_wp2_with fail;go_loopw [3] (fun _ wr=>∃(p:Nat),p≤s.size∧wr=w.iter s p∧∀i (h:i<s.size),i<p→Eh i (s[i]'h).toNat=true) (fun _ wr=>s.size-OG wr w.heap.size)
 case atStart=>exact⟨0,by omega,rfl,fun i _ h=>by omega⟩
 case round=>
  obtain⟨p,hp,rfl,hinv⟩:=hrel;have HI:=V3 hinv;clear hinv;by_cases hlt:p<s.size
  ·have hb:=H3.out p hlt;have hnx:=fun ty=>run_next_ascii (P:=Tryz.prog) w s p ty hlt hb
   obtain⟨b,hbe⟩:∃b,(s[p]'hlt).toNat=b:=⟨_,rfl⟩;rw[hbe]at hnx hb;have HBE:=V3 hbe;have HLT:=V3 hlt;have hnext:Eh p b=true→∀i (h:i<s.size),i<p+1→Eh i (s[i]'h).toNat=true:=fun hc i h hi=>by
    by_cases he:i=p
    ·subst he;rw[hbe];exact hc
    exact HI.out i h (by omega)
   have HX:=V3 hnext;clear hbe hnext;by_cases hl:97≤b∧b≤122
   ·have t3:decide ((97:Int)≤(b:Int))=true:=by simp;omega
    have t4:decide ((b:Int)≤122)=true:=by simp;omega
    have HC:=V3 (HX.out (by unfold Eh;simp;omega));clear hl;go_wp2_with fail;go_roundw
    case rel=>exact⟨p+1,by omega,rfl,HC.out⟩
    case measure=>rw[CS,CS];omega
   have t34:∃q1 q2:Bool,decide ((97:Int)≤(b:Int))=q1∧decide ((b:Int)≤122)=q2∧(q1&&q2)=false:=⟨_,_,rfl,rfl,by rw[Bool.and_eq_false_iff];simp;omega⟩;obtain⟨q1,q2,t3,t4,hq⟩:=t34;by_cases hp0:p=0
   ·subst hp0;have HF:=V3 (KT HBE.out (show Eh 0 b=false by unfold Eh;simp;omega));clear hl;rcases q1 with _|_<;>rcases q2 with _|_<;>(try cases hq)<;>(go_wp2_with fail;go_ret;exact⟨by rw[HF.out];rfl,DO w s _⟩)
   have tp:((p:Int)==0)=false:=by rw[V4];omega
   by_cases h95:b=95
   ·have t5:((b:Int)==95)=true:=by rw[VC];omega
    have t5':((b:Int) !=95)=false:=by rw[bne,t5];rfl
    have HC:=V3 (HX.out (by unfold Eh;simp;omega));have t3':decide ((97:Int)≤(b:Int))=false:=by simp;omega
    obtain rfl:q1=false:=by rw[←t3,t3']
    clear hl h95 hp0 t3' hq;go_wp2_with fail;go_roundw
    case rel=>exact⟨p+1,by omega,rfl,HC.out⟩
    case measure=>rw[CS,CS];omega
   have t5:((b:Int)==95)=false:=by rw[V4];omega
   have t5':((b:Int) !=95)=true:=by rw[bne,t5];rfl
   by_cases h48:48≤b∧b≤57
   ·have t6:decide ((b:Int)<48)=false:=by simp;omega
    have t7:decide ((57:Int)<(b:Int))=false:=by simp;omega
    have HC:=V3 (HX.out (by unfold Eh;simp;omega));have t3':decide ((97:Int)≤(b:Int))=false:=by simp;omega
    obtain rfl:q1=false:=by rw[←t3,t3']
    clear hl h95 hp0 t3' hq h48;go_wp2_with fail;go_roundw
    case rel=>exact⟨p+1,by omega,rfl,HC.out⟩
    case measure=>rw[CS,CS];omega
   have HF:=V3 (KT HBE.out (show Eh p b=false by unfold Eh;simp;omega));have t67:∃q3 q4:Bool,decide ((b:Int)<48)=q3∧decide ((57:Int)<(b:Int))=q4∧(q3||q4)=true:=⟨_,_,rfl,rfl,by rw[Bool.or_eq_true];simp;omega⟩;obtain⟨q3,q4,t6,t7,hq4⟩:=t67;clear hl h95 hp0 h48;rcases q1 with _|_<;>rcases q2 with _|_<;>(try cases hq)<;>rcases q3 with _|_<;>rcases q4 with _|_<;>(try cases hq4)<;>(go_wp2_with fail;go_ret;exact⟨by rw[HF.out];rfl,DO w s _⟩)
  have hnx:=fun ty=>run_next_end (P:=Tryz.prog) w s p ty hlt
  have HT:=V3 ((IM s).2 ⟨HL.out,fun i h=>HI.out i h (by omega)⟩);go_wp2_with fail;go_ret;exact⟨by rw[HT.out];rfl,DO w s p⟩
end Go.Proofs.YthpflelgbadkcaaGreatDoor
