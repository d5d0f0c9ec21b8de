/- What the card of the law stands on: REncb, Claims, Pick, RFoldN, Rewr, Wire, Wire2, RowG, Valid, HPl, Mix, Grp, Gst, HSum, HBytes, BEnc, RdPl, WRd, WRd2, WRd3, WText, Build, KeyA, LabV, Names, NamesV, NamesR, Match, NamedPl. -/
import Derived.Test.YthpflelgbadkcaaGreatDoorRewriteReadsP07
import Derived.StillTailTactics
import Derived.Test.YthpflelgbadkcaaGreatDoorRewriteReadsP06
import Derived.Deep.DeepCutAuto
import Derived.Test.YthpflelgbadkcaaGreatDoorRewriteReadsP01
import Derived.Deep.QuietTactic
import Derived.BigQuiet
import Derived.Test.YthpflelgbadkcaaGreatDoorProg
import Derived.Test.YthpflelgbadkcaaGreatDoorRewriteReadsP04
import Derived.Laws.MakeOwn
import Derived.Lib.AppendStr
import Derived.Laws.IdiomStrings
import Derived.Laws.BytesArg
import Derived.Lib.Builder
import Derived.Laws.Externs
import Derived.Lib.UnsafeStr
import Derived.Laws.RangeString
import Derived.Test.YthpflelgbadkcaaGreatDoorRewriteReadsP03
set_option maxRecDepth 100000
set_option maxHeartbeats 12800000
set_option linter.unusedVariables false
set_option linter.unusedSimpArgs false
namespace Go.Proofs.YthpflelgbadkcaaGreatDoor
open Go.RowKit Pl
theorem Jv (n:Int) (m:Nat) (w:World) (hn:Bc n) (hm:0<m) (hm2:m≤9223372036854775807):
  Calls Tryz.prog 47 #[.int .i64 n,.int .i64 (m:Nat)] w fun e w'=>e= .returned (.int .i64 (JC n m:Nat))∧w'=w:=
 (Lo n m w hn hm hm2).mono fun _ _ h=>⟨h.1,h.2.symm⟩
def Hm (l:List Int) (i m:Nat):Nat:=if i<l.length then JC (l.getD i 0) m else 0
theorem P5 (l:List Int) (i m:Nat) (hm:0<m):Hm l i m<m:=by
 unfold Hm;split
 ·exact Pn _ _ hm
 exact hm
theorem Nh (v:Value) (l:List Int) (i m:Nat) (w:World) (h:Rd w w.heap.size v (l.map vi)) (hi:∀x∈l,Bc x) (hl:l.length≤1000000000000000) (_:i≤1000000) (hm:0<m) (hm2:m≤1000000):
  Calls Tryz.prog 23 #[v,.int .i64 (i:Nat),.int .i64 (m:Nat)] w fun e w'=>e= .returned (.int .i64 (Hm l i m:Nat))∧w'=w:=by
 obtain⟨A,n,c,rfl,hn,hc⟩:=h.form;rw[List.length_map]at hn;by_cases hlt:i<n
 ·have hpv:Hm l i m=JC (l.getD i 0) m:=by unfold Hm;rw[SR (by omega)]
  rw[hpv];clear hpv;obtain⟨ad,rfl,hadb,hcell⟩:=h.int_at (j:=i) (by omega);have HA:=S9 (Jv (l.getD i 0) m w (OA hi i) hm (by omega));generalize l.getD i 0=x at*;generalize JC x m=k at*;have hnl:n≤1000000000000000:=by omega
  have t0:decide ((i:Int)<0)=false:=by simp
  have t1:decide (n≤i)=false:=by simp;omega
  have t2:decide ((n:Int)≤(i:Int))=false:=by simp;omega
  clear h hn hi;go_enter Tryz.func23,Tryz.ntmps23;go_wp2_with fail;refine HA.out.mono ?_;rintro e w' ⟨rfl,hw'⟩;rw[hw'];clear hw' w';go_wp2_with fail;go_ret;exact⟨rfl,rfl⟩
 have hpv:Hm l i m=0:=by unfold Hm;rw[SQ (by omega)]
 rw[hpv];clear hpv;have hnl:n≤1000000000000000:=by omega
 have t0:decide ((i:Int)<0)=false:=by simp
 have t1:decide (n≤i)=true:=by simp;omega
 have t2:decide ((n:Int)≤(i:Int))=true:=by simp;omega
 clear h hn hi;go_enter Tryz.func23,Tryz.ntmps23;go_wp2_with fail;go_ret;exact⟨rfl,rfl⟩
theorem Ay (e:Ex) (A1 A2 A3:Option Addr) (n1 n2 n3 c1 c2 c3:Nat):∀v∈AE e (.slice A1 n1 c1) (.slice A2 n2 c2) (.slice A3 n3 c3),v.oneCell'=true:=by
 intro v hv;simp[AE]at hv;rcases hv with rfl|rfl|rfl|rfl|rfl|rfl|rfl|rfl|rfl|rfl|rfl<;>rfl
def FG (w:World) (B0:Nat) (e:Ex) (e':Ending) (w':World):Prop:=∃cs,e'= .returned (.agg cs.toArray)∧AW w' (CW B0 w.heap.size w'.heap.size) e cs∧A5 w w'
def KN (e:Ex):Prop:=Ea e∧QZ e
section
variable {w w':World} {B B':Nat} {v:Value} {cs:List Clm} {S:Nat→Prop}
end
section
variable {w:World} {base:Nat} {v:Value} {cs:List Clm}
end
def S2 (k:Nat):Int:=if k=1∨k=3 then 1 else 0
def Rz (k:Nat):Int:=if k=0 then 0 else if k=1∨k=2 then 1073741824 else if k=3 then 4096 else 1048576
def Rp (x:Clm):Prop:=0≤x.1∧x.1<4096∧0≤x.2.1∧x.2.1≤4∧S2 x.2.1.toNat≤x.2.2.1∧x.2.2.1≤Rz x.2.1.toNat∧0≤x.2.2.2∧x.2.2.2≤4398046511104∧(x.2.1≠0∨x.2.2.2=0)
instance (x:Clm):Decidable (Rp x):=by unfold Rp;infer_instance
end Go.Proofs.YthpflelgbadkcaaGreatDoor
namespace Go.Proofs.YthpflelgbadkcaaGreatDoor.Pl
open Go.RowKit
end Go.Proofs.YthpflelgbadkcaaGreatDoor.Pl
namespace Go.Proofs.YthpflelgbadkcaaGreatDoor
open Go.RowKit Pl
end Go.Proofs.YthpflelgbadkcaaGreatDoor
namespace Go.Proofs.YthpflelgbadkcaaGreatDoor
open Go.RowKit Go.Shelf Pl
attribute [local go_sem] Oper.semAt_some
attribute [local go_sem] Oper.semAt_some
attribute [local go_sem] Oper.semAt_some
attribute [local go_sem] Oper.semAt_some
end Go.Proofs.YthpflelgbadkcaaGreatDoor
namespace Go.Proofs.YthpflelgbadkcaaGreatDoor
open Go.RowKit Pl
theorem DA {a b:List Nat} (ha:Bytes a) (hb:Bytes b):Bytes (a++b):=fun x hx=>by
 rcases List.mem_append.1 hx with h|h
 ·exact ha x h
 exact hb x h
end Go.Proofs.YthpflelgbadkcaaGreatDoor
namespace Go.Proofs.YthpflelgbadkcaaGreatDoor.Pl
end Go.Proofs.YthpflelgbadkcaaGreatDoor.Pl
namespace Go.Proofs.YthpflelgbadkcaaGreatDoor
open Go.RowKit Pl
def bl (s:ByteArray):List Nat:=s.data.toList.map UInt8.toNat
theorem C6 (s:ByteArray):(bl s).length=s.size:=by unfold bl;rw[List.length_map,Array.length_toList];rfl
theorem EW (s:ByteArray):Bytes (bl s):=fun x hx=>by
 unfold bl at hx;obtain⟨b,_,rfl⟩:=List.mem_map.1 hx;exact b.toNat_lt
theorem PK (s:ByteArray):Lib.strCells s=(bl s).map vb:=by unfold Lib.strCells bl;rw[List.map_map];rfl
theorem OW {s t:ByteArray} (h:bl s=bl t):s=t:=by
 unfold bl at h;have h2:s.data.toList=t.data.toList:=(List.map_inj_right (fun a b e=>UInt8.toNat_inj.1 e)).1 h;obtain⟨s⟩:=s;obtain⟨t⟩:=t;simp only at h2;rw[Array.toList_inj.1 h2]
theorem Q0 {w:World} {base:Nat} {v:Value} {bs:List Nat} {ops:Array Oper} {rest:List Oper} {o:Oper} {a:Act} {Q:Exit→Act→World→Prop} (hgd:o.guard=none) (s x:Operand)
  (ho:o.op= .call { callee:= .builtin .append,args:=#[s,x],argTypes:=#[154,9] })
  (hs:a.eval s=v) (hown:Ba w base 5 v (bs.map vb)) (t:ByteArray) (hx:a.eval x= .string t)
  (hn:bs.length+t.size≤1099511627776) (hbase:base≤w.heap.size)
  (h:∀A m cap w',Ba w' base 5 (.slice A m cap) ((bs++bl t).map vb)→AC (fun i=>v.ownBlock=some i) w w'→wpList Tryz.prog ops Q rest (a.put o.dst (.slice A m cap)) w'):wpList Tryz.prog ops Q (o::rest) a w:=by
 refine wpList_plain hgd fun K hK=>?_
 obtain⟨i,hi,hz,hsz,hby⟩:=info_parts R7.info;obtain⟨v',w',hrun,h2,h3,_⟩:=Lib.run_append_own_string (P:=Tryz.prog) w base 154 9 o.type 5 i Tryz.underlying154 Tryz.underlying9 hi hz hsz hby v _ _ hown t (by rw[List.length_map];unfold maxLen;omega) (by rw[List.length_map];omega) hbase;have hm:Ba w' base 5 v' ((bs++bl t).map vb):=by
  unfold Ba;rw[List.map_append,SX,←PK,Lib.strCells_length];exact h2
 unfold Oper.wp execOp;simp only[ho,resolve,invoke,builtin,Sem.run_bind,Sem.run_pure,Result.andThen_ok,List.map_toArray,List.map_cons,List.map_nil,hs,hx,hrun];obtain⟨A,m,cap,rfl, -⟩:=hm.slice;exact hK _ _ (h A m cap w' hm ((Se _ w).grown h3 (fun k e _=>e)))
structure SB (w:World) (base g:Nat) (p v:Value) (bs:List Nat):Prop where
 box:Ag w g 156 #[p,v]
 row:Ba w base 5 v (bs.map vb)
 self:p= .pointer none∨p= .pointer (some ⟨g,0,none⟩)
theorem SB.cells {w:World} {base g:Nat} {p v:Value} {bs:List Nat} (h:SB w base g p v bs):w.cell? ⟨g,0,none⟩=some p∧w.cell? ⟨g,1,none⟩=some v:=⟨h.box.cell 0,h.box.cell 1⟩
theorem Qk:∃j,Tryz.prog.info? 156=some j∧j.size=2:=by
 have h:(Tryz.prog.info? 156).map (·.size)=some 2:=by kernel_rfl
 cases hj:Tryz.prog.info? 156 with
 |none=>rw[hj]at h;cases h
 |some j=>rw[hj]at h;exact⟨j,rfl,by simpa using h⟩
theorem Mi {w:World} {base g:Nat} {p v:Value} {bs:List Nat} (h:SB w base g p v bs):w.shape? g=some (156,2):=by
 have:=h.box;unfold Ag at this;simp[World.shape?,this]
theorem Fi (g base:Nat) (p v:Value) (bs:List Nat) (w:World) (h:SB w base g p v bs):
  Calls Tryz.prog 149 #[.pointer (some ⟨g,0,none⟩)] w fun e w'=>e= .returned (.tuple #[])∧SB w' base g (.pointer (some ⟨g,0,none⟩)) v bs∧C7 g w w':=by
 obtain⟨c0,c1⟩:=h.cells;obtain⟨j,hj,hj2⟩:=Qk;have hne:=fun w'=>Lib.run_neq_ptr_same (P:=Tryz.prog) w' ⟨g,0,none⟩ Tryz.underlying153 hj
 have hto:=Lib.run_to_unsafe (P:=Tryz.prog) w (src:=153) (dst:=211) ⟨g,0,none⟩ Tryz.underlying153 Tryz.underlying211 hj (by omega) (Mi h) (Nat.zero_lt_succ 1);have hfrom:=Lib.run_from_unsafe (P:=Tryz.prog) w (src:=211) (dst:=153) ⟨g,0,none⟩ Tryz.underlying211 Tryz.underlying153 hj (Mi h) (by kernel_rfl);have hne2:∀w',(callFunc 161 #[.pointer (some ⟨g,0,none⟩)]).run Tryz.prog w'= .ok (.value (.pointer (some ⟨g,0,none⟩))) w':=fun w'=>by
  rw[run_callFunc_extern Tryz.func161 (by kernel_rfl) (by kernel_rfl) (by kernel_rfl) (e:=Extern.AbiNoEscape.same) (by kernel_rfl),Lib.run_noEscape];rfl
 have H:=S9 h;have f0:=h.box.frozen 0;have hs:=h.self;clear h;rcases hs with rfl|rfl
 ·go_enter Tryz.func149,Tryz.ntmps149;go_wp2_with fail;go_end0;exact⟨rfl,⟨by simpa using H.out.box.set_ 0 _,H.out.row.far (fun e=>H.out.row.ne_box e H.out.box (by decide) rfl) _,.inr rfl⟩,C7.set g _ 0 _⟩
 go_enter Tryz.func149,Tryz.ntmps149;go_wp2_with fail;go_end0;exact⟨rfl,H.out,C7.refl _ _⟩
theorem SB.step {w w1:World} {base g:Nat} {p v v':Value} {bs ys:List Nat} (h:SB w base g p v bs) (hm:Ba w1 base 5 v' ((bs++ys).map vb)) (hk:AC (fun i=>v.ownBlock=some i) w w1):
  SB (w1.setCell ⟨g,1,none⟩ v') base g p v' (bs++ys)∧En g v w (w1.setCell ⟨g,1,none⟩ v'):=by
 have hg1:¬v.ownBlock=some g:=fun e=>h.row.ne_box e h.box (by decide) rfl
 have hbox:=h.box.keep hk hg1;refine⟨⟨by simpa using hbox.set_ 1 v',hm.far (fun e=>hm.ne_box e hbox (by decide) rfl) _,h.self⟩,?_⟩;exact(AC.mono hk (fun i _ e=> .inr e)).setCell (.inl (.inl rfl)) _
theorem SB.keepsB {w w':World} {base g:Nat} {p v:Value} {bs:List Nat} (h:SB w base g p v bs) (hg:base≤g) (hk:En g v w w'):AC (fun i=>base≤i) w w':=AC.mono hk (fun i _ e=>by
 rcases e with e|e
 ·rw[e];exact hg
 exact(h.row.lt i e).1)
theorem Ag.keepSB {w w':World} {base g:Nat} {p v:Value} {bs:List Nat} {k:Nat} {t:TypeId} {xs:Array Value} (hb:Ag w k t xs) (h:SB w base g p v bs) (hk:En g v w w') (h1:t≠156) (h2:t≠5):Ag w' k t xs:=hb.keep hk (fun e=>by
 rcases e with e|e
 ·exact hb.ne_ h.box h1 e
 exact h.row.ne_box e hb (fun e1=>h2 e1.symm) rfl)
theorem K5 {S:Nat→Prop} (w:World) (p:Addr) (n:Nat) (hp:S p.block):AC S w (w.freeze p n):=by
 unfold World.freeze;split
 ·exact Se _ _
 exact⟨rfl,rfl,rfl,by simp,fun k hk hn=>by
  simp only[Array.getElem?_modify];rw[SQ (fun e=>hn (by rw[←e];exact hp))]⟩
theorem Jq (g base:Nat) (p v:Value) (bs:List Nat) (w:World) (h:SB w base g p v bs) (h0:0<bs.length) (hB:Bytes bs) (hl:bs.length<900000000):
  Calls Tryz.prog 103 #[.pointer (some ⟨g,0,none⟩)] w fun e w'=>∃s,e= .returned (.string s)∧bl s=bs∧AC (fun i=>base≤i) w w':=by
 obtain⟨c0,c1⟩:=h.cells;obtain⟨l,hlu⟩:∃l:List UInt8,l.map UInt8.toNat=bs:=⟨bs.map UInt8.ofNat,by
  rw[List.map_map]
  conv=>rhs;rw[←List.map_id bs]
  apply List.map_congr_left;intro x hx;have:=hB x hx;simp[Nat.mod_eq_of_lt this]⟩
 have hll:l.length=bs.length:=by rw[←hlu,List.length_map]
 rcases h.row.form with⟨_,hn⟩|⟨r,cap,cur,rfl,hbr,hbox,h1,h2,h3,h4⟩
 ·have:=congrArg List.length hn;rw[List.length_map,List.length_nil]at this;omega
 rw[List.length_map]at h1;have hcells:∀(W:World),W.heap=w.heap→∀j x,l[j]? =some x→W.cell? ((⟨r,0,none⟩:Addr).add j)=some (.int .u8 x.toNat):=by
  intro W hW j x hx;have hj:j<bs.length:=by rw[←hll];exact(SK.1 hx).1
  have:=h.row.cellAt (j:=j) (by rw[List.length_map];exact hj);rw[Ou,Nat.zero_add,World.cell?_of_block (a:=⟨r,j,none⟩) (w:=w) (w':=W) (by rw[hW]),this];simp only[List.getElem_map];have hx2:bs[j]=x.toNat:=by
   have e1:bs[j]? =some x.toNat:=by rw[←hlu,List.getElem?_map,hx];rfl
   rw[SF hj]at e1;exact SI e1
  rw[hx2];rfl
 have hsd:=fun W=>Lib.run_unsafeSliceData_row (P:=Tryz.prog) W #[154] 193 ⟨r,0,none⟩ bs.length cap (by omega)
 have hsh:w.drew.shape? r=some (5,cap):=by
  have hbx:w.drew.heap[r]? =some (.cells cur 5 (0,0)):=hbox;simp[World.shape?,hbx,h3]
 have hus:=Lib.run_unsafeString_row (P:=Tryz.prog) w.drew 193 3 9 5 Tryz.underlying193 (by kernel_rfl) r cap hsh l (fun e=>by rw[e]at hll;simp at hll;omega) (by omega) (by omega) (hcells w.drew rfl);rw[hll]at hus;have hfin:bl ⟨l.toArray⟩=bs:=by unfold bl;simpa using hlu
 have hkf:AC (fun i=>base≤i) w (w.drew.freeze ⟨r,0,none⟩ bs.length):=Sb (Sd (Se _ w)) (K5 w.drew ⟨r,0,none⟩ bs.length hbr) (fun i _ e=>e);have HF:=S9 hfin;have HK:=S9 hkf;rw[List.length_map]at c1;generalize bs.length=n at*;clear hcells hsh hlu hll h2 h3 h4 h1 hbox h hfin hkf;go_enter Tryz.func103,Tryz.ntmps103;go_upto_region 1 with fail;go_still_tail 10,(by kernel_rfl);change wpList _ _ _ _ _ w.drew;go_wp2_with fail;go_ret;exact⟨_,rfl,HF.out,HK.out⟩
theorem JE (g base:Nat) (p v:Value) (bs:List Nat) (c:Nat) (w:World) (h:SB w base g p v bs) (hl:bs.length<900000000) (hb:base≤w.heap.size):
  Calls Tryz.prog 148 #[.pointer (some ⟨g,0,none⟩),.int .u8 (c:Nat)] w fun e w'=>e= .returned .nilIface∧∃p' v',SB w' base g p' v' (bs++[c])∧En g v w w':=by
 have HC:=S9 (Fi g base p v bs w h);clear h;go_enter Tryz.func148,Tryz.ntmps148;go_wp2_with fail;refine HC.out.mono ?_;rintro e w2 ⟨rfl,h2,k2⟩;obtain⟨c0,c1⟩:=h2.cells;have f1:=h2.box.frozen 1;obtain⟨A2,n2,c2,rfl, -⟩:=h2.row.slice;have hs2:=k2.size;have hlt:=h2.box.lt;go_wp2_with(at_builtin;refine QO R7 rfl (.tmp 11) (.tmp 13) rfl rfl (h2.row.alloc _) w2.heap.size 1 (.int .u8 (c:Nat)) rfl (SD _) (by simp) (by simp) rfl (by simp;omega) (by simp;omega) ?_;intro r cap w3 hM3 hk3 hr3 hbr3 hlr3;obtain⟨q2,hq2⟩:∃q2,q2=(bs.map vb).length+1:=⟨_,rfl⟩;rw[←hq2]at hM3 ⊢;clear hq2;have hb3:=(h2.box.alloc _).keep hk3 (fun e=>h2.row.ne_box e h2.box (by decide) rfl);have k0:=hb3.cell 1;have e0:=hb3.frozen 1;simp only[List.getElem?_toArray,List.getElem?_cons_zero,List.getElem?_cons_succ]at k0;clear c0 c1 f1);go_ret;have hS:=SB.step (w:=w2.alloc (.cells #[.int .u8 (c:Nat)] 5)) (ys:=[c]) ⟨h2.box.alloc _,h2.row.alloc _,h2.self⟩ (by rw[List.map_append];exact hM3) hk3;exact⟨rfl,_,_,hS.1,Sb (AC.alloc (AC.mono k2 (fun i _ e=> .inl e)) _) hS.2 (fun i _ e=>e)⟩
theorem Hs (g base:Nat) (p v:Value) (bs:List Nat) (s:ByteArray) (w:World) (h:SB w base g p v bs) (hl:bs.length<900000000) (hs:s.size≤1000000) (hb:base≤w.heap.size):
  Calls Tryz.prog 132 #[.pointer (some ⟨g,0,none⟩),.string s] w fun e w'=>(∃u,e= .returned u)∧∃p' v',SB w' base g p' v' (bs++bl s)∧En g v w w':=by
 have HC:=S9 (Fi g base p v bs w h);clear h;go_enter Tryz.func132,Tryz.ntmps132;go_wp2_with fail;refine HC.out.mono ?_;rintro e w2 ⟨rfl,h2,k2⟩;obtain⟨c0,c1⟩:=h2.cells;have f1:=h2.box.frozen 1;obtain⟨A2,n2,c2,rfl, -⟩:=h2.row.slice;have hs2:=k2.size;go_wp2_with(at_builtin;refine Q0 rfl (.tmp 12) (.tmp 13) rfl rfl h2.row s rfl (by omega) (by omega) ?_;intro A3 m3 c3 w3 hM3 hk3;have hb3:=h2.box.keep hk3 (fun e=>h2.row.ne_box e h2.box (by decide) rfl);have k0:=hb3.cell 1;have e0:=hb3.frozen 1;simp only[List.getElem?_toArray,List.getElem?_cons_zero,List.getElem?_cons_succ]at k0;clear c0 c1 f1);go_ret2;have hS:=SB.step h2 (ys:=bl s) hM3 hk3;exact⟨⟨_,rfl⟩,_,_,hS.1,Sb (AC.mono k2 (fun i _ e=> .inl e)) hS.2 (fun i _ e=>e)⟩
def Ma (w:World) (g:Nat):Nat:=match w.heap[g]? with|some (.stringIter _ p)=>p|_=>0
theorem CV (w:World) (s:ByteArray) (p:Nat):Ma (w.iter s p) w.heap.size=p:=by unfold Ma;rw[World.iter_heap]
theorem DD (w:World) (s:ByteArray) (p:Nat):A5 w (w.iter s p):=(Sa w).alloc _
def QH (s:ByteArray):Prop:=∀i (h:i<s.size),(s[i]'h).toNat<128
theorem Gl (s:ByteArray):CQ s=true↔(1≤s.size∧s.size≤16)∧∀i (h:i<s.size),EX i (s[i]'h).toNat=true:=by
 unfold CQ;rw[Bool.and_eq_true,decide_eq_true_iff,List.all_eq_true];constructor
 ·rintro⟨h1,h2⟩;refine⟨h1,fun i h=>?_⟩;have:=h2 i (List.mem_range.2 h);rwa[getElem!_pos s i h]at this
 rintro⟨h1,h2⟩;refine⟨h1,fun i hi=>?_⟩;have h:=List.mem_range.1 hi;have:=h2 i h;rwa[getElem!_pos s i h]
theorem Fy (s:ByteArray):DG s=true↔s.size≤16∧∀i (h:i<s.size),EM (s[i]'h).toNat=true:=by
 unfold DG;rw[Bool.and_eq_true,decide_eq_true_iff,List.all_eq_true];constructor
 ·rintro⟨h1,h2⟩;refine⟨h1,fun i h=>?_⟩;have:=h2 i (List.mem_range.2 h);rwa[getElem!_pos s i h]at this
 rintro⟨h1,h2⟩;refine⟨h1,fun i hi=>?_⟩;have h:=List.mem_range.1 hi;have:=h2 i h;rwa[getElem!_pos s i h]
theorem LK {s:ByteArray} (h:¬(1≤s.size∧s.size≤16)):CQ s=false:=by
 rcases hb:CQ s
 ·rfl
 exact absurd ((Gl s).1 hb).1 h
theorem Jk {s:ByteArray} {i:Nat} {h:i<s.size} {c:Nat} (hc:(s[i]'h).toNat=c) (hb:EX i c=false):CQ s=false:=by
 rcases hn:CQ s
 ·rfl
 have:=((Gl s).1 hn).2 i h;rw[hc,hb]at this;cases this
theorem MQ {s:ByteArray} {i:Nat} {h:i<s.size} {c:Nat} (hc:(s[i]'h).toNat=c) (hb:EM c=false):DG s=false:=by
 rcases hn:DG s
 ·rfl
 have:=((Fy s).1 hn).2 i h;rw[hc,hb]at this;cases this
theorem Iw (s:ByteArray) (hs:QH s) (w:World):Calls Tryz.prog 93 #[.string s] w fun e w'=>e= .returned (.bool (CQ s))∧A5 w w':=by
 have H3:=S9 hs;clear hs;go_enter Tryz.func93,Tryz.ntmps93;by_cases h1:(s.size:Int)<1
 ·have t1:decide ((s.size:Int)<1)=true:=by simpa using h1
  have HF:=S9 (LK (s:=s) (by omega));clear h1;go_wp2_with fail;go_ret;exact⟨by rw[HF.out];rfl,Sa _⟩
 have t1:decide ((s.size:Int)<1)=false:=by simp;omega
 by_cases h2:(16:Int)<(s.size:Int)
 ·have t2:decide ((16:Int)<(s.size:Int))=true:=by simpa using h2
  have HF:=S9 (LK (s:=s) (by omega));clear h1 h2;go_wp2_with fail;go_ret;exact⟨by rw[HF.out];rfl,Sa _⟩
 have t2:decide ((16:Int)<(s.size:Int))=false:=by simp;omega
 have HL:=S9 (show 1≤s.size∧s.size≤16 by omega);clear h1 h2;go_wp2_with fail;go_loopw [3] (fun _ wr=>∃(p:Nat),p≤s.size∧wr=w.iter s p∧∀i (h:i<s.size),i<p→EX i (s[i]'h).toNat=true) (fun _ wr=>s.size-Ma wr w.heap.size)
 case atStart=>exact⟨0,by omega,rfl,fun i _ h=>by omega⟩
 case round=>
  obtain⟨p,hp,rfl,hinv⟩:=hrel;have HI:=S9 hinv;clear hinv;by_cases hlt:p<s.size
  ·have hb:=H3.out p hlt;have hnx:=fun ty=>run_next_ascii (P:=Tryz.prog) w s p ty hlt hb
   obtain⟨b,hbe⟩:∃b,(s[p]'hlt).toNat=b:=⟨_,rfl⟩;rw[hbe]at hnx hb;have HBE:=S9 hbe;have HLT:=S9 hlt;have hnext:EX p b=true→∀i (h:i<s.size),i<p+1→EX i (s[i]'h).toNat=true:=fun hc i h hi=>by
    by_cases he:i=p
    ·subst he;rw[hbe];exact hc
    exact HI.out i h (by omega)
   have HX:=S9 hnext;clear hbe hnext;by_cases hl:97≤b∧b≤122
   ·have t3:decide ((97:Int)≤(b:Int))=true:=by simp;omega
    have t4:decide ((b:Int)≤122)=true:=by simp;omega
    have HC:=S9 (HX.out (by unfold EX;simp;omega));clear hl;go_wp2_with fail;go_roundw
    case rel=>exact⟨p+1,by omega,rfl,HC.out⟩
    case measure=>rw[CV,CV];omega
   have t34:∃q1 q2:Bool,decide ((97:Int)≤(b:Int))=q1∧decide ((b:Int)≤122)=q2∧(q1&&q2)=false:=⟨_,_,rfl,rfl,by rw[Bool.and_eq_false_iff];simp;omega⟩;obtain⟨q1,q2,t3,t4,hq⟩:=t34;by_cases hp0:p=0
   ·subst hp0;have HF:=S9 (Jk HBE.out (show EX 0 b=false by unfold EX;simp;omega));clear hl;rcases q1 with _|_<;>rcases q2 with _|_<;>(try cases hq)<;>(go_wp2_with fail;go_ret;exact⟨by rw[HF.out];rfl,DD w s _⟩)
   have tp:((p:Int)==0)=false:=by rw[SA];omega
   by_cases h95:b=95
   ·have t5:((b:Int)==95)=true:=by rw[SG];omega
    have t5':((b:Int) !=95)=false:=by rw[bne,t5];rfl
    have HC:=S9 (HX.out (by unfold EX;simp;omega));have t3':decide ((97:Int)≤(b:Int))=false:=by simp;omega
    obtain rfl:q1=false:=by rw[←t3,t3']
    clear hl h95 hp0 t3' hq;go_wp2_with fail;go_roundw
    case rel=>exact⟨p+1,by omega,rfl,HC.out⟩
    case measure=>rw[CV,CV];omega
   have t5:((b:Int)==95)=false:=by rw[SA];omega
   have t5':((b:Int) !=95)=true:=by rw[bne,t5];rfl
   by_cases h48:48≤b∧b≤57
   ·have t6:decide ((b:Int)<48)=false:=by simp;omega
    have t7:decide ((57:Int)<(b:Int))=false:=by simp;omega
    have HC:=S9 (HX.out (by unfold EX;simp;omega));have t3':decide ((97:Int)≤(b:Int))=false:=by simp;omega
    obtain rfl:q1=false:=by rw[←t3,t3']
    clear hl h95 hp0 t3' hq h48;go_wp2_with fail;go_roundw
    case rel=>exact⟨p+1,by omega,rfl,HC.out⟩
    case measure=>rw[CV,CV];omega
   have HF:=S9 (Jk HBE.out (show EX p b=false by unfold EX;simp;omega));have t67:∃q3 q4:Bool,decide ((b:Int)<48)=q3∧decide ((57:Int)<(b:Int))=q4∧(q3||q4)=true:=⟨_,_,rfl,rfl,by rw[Bool.or_eq_true];simp;omega⟩;obtain⟨q3,q4,t6,t7,hq4⟩:=t67;clear hl h95 hp0 h48;rcases q1 with _|_<;>rcases q2 with _|_<;>(try cases hq)<;>rcases q3 with _|_<;>rcases q4 with _|_<;>(try cases hq4)<;>(go_wp2_with fail;go_ret;exact⟨by rw[HF.out];rfl,DD w s _⟩)
  have hnx:=fun ty=>run_next_end (P:=Tryz.prog) w s p ty hlt
  have HT:=S9 ((Gl s).2 ⟨HL.out,fun i h=>HI.out i h (by omega)⟩);go_wp2_with fail;go_ret;exact⟨by rw[HT.out];rfl,DD w s p⟩
theorem NR (s:ByteArray) (hs:QH s) (w:World):Calls Tryz.prog 123 #[.string s] w fun e w'=>e= .returned (.bool (DG s))∧A5 w w':=by
 have H3:=S9 hs;clear hs;go_enter Tryz.func123,Tryz.ntmps123;by_cases h2:(16:Int)<(s.size:Int)
 ·have t2:decide ((16:Int)<(s.size:Int))=true:=by simpa using h2
  have HF:=S9 (show DG s=false by
   rcases hb:DG s
   ·rfl
   have:=((Fy s).1 hb).1;omega)
  clear h2;go_wp2_with fail;go_ret;exact⟨by rw[HF.out];rfl,Sa _⟩
 have t2:decide ((16:Int)<(s.size:Int))=false:=by simp;omega
 have HL:=S9 (show s.size≤16 by omega);clear h2;go_wp2_with fail;go_loopw [4] (fun _ wr=>∃(p:Nat),p≤s.size∧wr=w.iter s p∧∀i (h:i<s.size),i<p→EM (s[i]'h).toNat=true) (fun _ wr=>s.size-Ma wr w.heap.size)
 case atStart=>exact⟨0,by omega,rfl,fun i _ h=>by omega⟩
 case round=>
  obtain⟨p,hp,rfl,hinv⟩:=hrel;have HI:=S9 hinv;clear hinv;by_cases hlt:p<s.size
  ·have hb:=H3.out p hlt;have hnx:=fun ty=>run_next_ascii (P:=Tryz.prog) w s p ty hlt hb
   obtain⟨b,hbe⟩:∃b,(s[p]'hlt).toNat=b:=⟨_,rfl⟩;rw[hbe]at hnx hb;have HBE:=S9 hbe;have HLT:=S9 hlt;have hnext:EM b=true→∀i (h:i<s.size),i<p+1→EM (s[i]'h).toNat=true:=fun hc i h hi=>by
    by_cases he:i=p
    ·subst he;rw[hbe];exact hc
    exact HI.out i h (by omega)
   have HX:=S9 hnext;clear hbe hnext;by_cases hok:EM b=true
   ·have HC:=S9 (HX.out hok);simp[EM]at hok;have t3:decide ((b:Int)<33)=false:=by simp;omega
    have t4:decide ((126:Int)<(b:Int))=false:=by simp;omega
    have e1:((b:Int)==34)=false:=by rw[SA];omega
    have e2:((b:Int)==92)=false:=by rw[SA];omega
    have e3:((b:Int)==44)=false:=by rw[SA];omega
    have e4:((b:Int)==123)=false:=by rw[SA];omega
    have e5:((b:Int)==125)=false:=by rw[SA];omega
    clear hok;go_wp2_with fail;go_roundw
    case rel=>exact⟨p+1,by omega,rfl,HC.out⟩
    case measure=>rw[CV,CV];omega
   have hok:EM b=false:=by simpa using hok
   have HF:=S9 (MQ HBE.out hok);by_cases t3:(b:Int)<33
   ·have t3:decide ((b:Int)<33)=true:=by simpa using t3
    clear hok;go_wp2_with fail;go_ret;exact⟨by rw[HF.out];rfl,DD w s _⟩
   have t3':decide ((b:Int)<33)=false:=by simpa using t3
   by_cases t4:(126:Int)<(b:Int)
   ·have t4:decide ((126:Int)<(b:Int))=true:=by simpa using t4
    clear hok t3;go_wp2_with fail;go_ret;exact⟨by rw[HF.out];rfl,DD w s _⟩
   have t4':decide ((126:Int)<(b:Int))=false:=by simpa using t4
   have hor:b=34∨b=92∨b=44∨b=123∨b=125:=by simp[EM]at hok;omega
   clear hok t3 t4 t3' t4' hb HX HI HLT HBE;rcases hor with rfl|rfl|rfl|rfl|rfl<;>(go_wp2_with fail;go_ret;exact⟨by rw[HF.out];rfl,DD w s _⟩)
  have hnx:=fun ty=>run_next_end (P:=Tryz.prog) w s p ty hlt
  have HT:=S9 ((Fy s).2 ⟨HL.out,fun i h=>HI.out i h (by omega)⟩);go_wp2_with fail;go_ret;exact⟨by rw[HT.out];rfl,DD w s p⟩
theorem L4 (m:Mt) (h1:QH m.1) (h2:QH m.2.2) (w:World):Calls Tryz.prog 95 #[.agg (Au m).toArray] w fun e w'=>e= .returned (.bool (BU m))∧A5 w w':=by
 obtain⟨a,k,c⟩:=m;have hb:=Sc w 68 ([.string a,.int .i64 k,.string c]:List Value).toArray;have hG:=(Sa w).alloc (.cells ([.string a,.int .i64 k,.string c]:List Value).toArray 68);change Calls Tryz.prog 95 #[.agg ([.string a,.int .i64 k,.string c]:List Value).toArray] w _;go_enter Tryz.func95,Tryz.ntmps95;go_upto_region 1 with fail;change Code.wp _ _ _ _ (w.alloc (.cells ([.string a,.int .i64 k,.string c]:List Value).toArray 68));generalize w.alloc (.cells ([.string a,.int .i64 k,.string c]:List Value).toArray 68)=w1 at*;have c0:w1.cell? ⟨w.heap.size,0,none⟩=some (.string a):=hb.cell 0;have c1:w1.cell? ⟨w.heap.size,1,none⟩=some (.int .i64 k):=hb.cell 1;have c2:w1.cell? ⟨w.heap.size,2,none⟩=some (.string c):=hb.cell 2;have HG:=S9 hG;have HB:=S9 hb;clear hG hb;have HNm:=S9 (fun w'=>Iw a h1 w');have HVl:=S9 (fun w'=>NR c h2 w');by_cases hk:0≤k∧k≤2
 ·have hv:∀q1 q2:Bool,CQ a=q1→DG c=q2→BU (a,k,c)=(q1&&q2):=fun q1 q2 e1 e2=>by unfold BU;rw[e1,e2,decide_eq_true hk,Bool.and_true]
  obtain⟨q1,hq1⟩:∃q,CQ a=q:=⟨_,rfl⟩;obtain⟨q2,hq2⟩:∃q,DG c=q:=⟨_,rfl⟩;have HV:=S9 (hv q1 q2 hq1 hq2);rw[hq1]at HNm;rw[hq2]at HVl;have HK:k=0∨k=1∨k=2:=by omega
  clear hv hq1 hq2 hk h1 h2;rcases HK with rfl|rfl|rfl<;>rcases q1 with _|_<;>(
   go_wp2_with(first|(go_at_call 93;refine(HNm.out _).mono ?_;rintro e3 w3 ⟨rfl,k3⟩;have d2:w3.cell? ⟨w.heap.size,2,none⟩=some (.string c):=(HB.out.grew k3).cell 2)|(go_at_call 123;refine(HVl.out _).mono ?_;rintro e4 w4 ⟨rfl,k4⟩));go_ret;refine⟨by rw[HV.out];rfl,?_⟩
   first|exact(HG.out.trans k3).trans k4|exact HG.out.trans k3)
 have HV:=S9 (show BU (a,k,c)=false by unfold BU;rw[SM hk];simp);have k0:(k==0)=false:=by rw[SA];omega
 have k1:(k==1)=false:=by rw[SA];omega
 have k2:(k==2)=false:=by rw[SA];omega
 clear hk h1 h2;go_wp2_with fail;go_ret;exact⟨by rw[HV.out];rfl,HG.out⟩
def Li (s:ByteArray):Prop:=QH s∧s.size≤1000
def Qn (e:Ex):Prop:=Li e.name∧(∀m∈e.ms,Li m.1∧Li m.2.2)∧(∀s∈e.bys,Li s)∧e.ms.length≤1000∧e.bys.length≤1000
def Cn (e:Ex):Bool:=decide (e.kind=1)&&(!CQ e.name||Ht DC e.name)
theorem EY (e:Ex):Bo e=(!Cn e&&e.ms.all BU&&IA e.bys):=by
 unfold Bo Cn H7 Ht;by_cases h:e.kind=1<;>simp[h]
theorem MA {e:Ex} (h:Cn e=true):Bo e=false:=by rw[EY,h];rfl
theorem On {e:Ex} {m:Mt} (hm:m∈e.ms) (h:BU m=false):Bo e=false:=by
 rw[EY,show e.ms.all BU=false from List.all_eq_false.2 ⟨m,hm,by rw[h];simp⟩];simp
theorem IF {e:Ex} {j:Nat} (hj:j<e.bys.length) (h:O7 e.bys j=false):Bo e=false:=by
 rw[EY,show IA e.bys=false from List.all_eq_false.2 ⟨j,List.mem_range.2 hj,by rw[h];simp⟩];simp
theorem Ow {e:Ex} (h1:Cn e=false) (h2:∀m∈e.ms,BU m=true) (h3:∀j,j<e.bys.length→O7 e.bys j=true):Bo e=true:=by
 rw[EY,h1,List.all_eq_true.2 h2,show IA e.bys=true from List.all_eq_true.2 fun j hj=>h3 j (List.mem_range.1 hj)];rfl
theorem LT {l:List ByteArray} {s:ByteArray} (h:l[0]? =some s):O7 l 0=CQ s:=by
 unfold O7;rw[h];simp
theorem LC {l:List ByteArray} {k:Nat} {s r:ByteArray} (h:l[k+1]? =some s) (h2:l[k]? =some r):O7 l (k+1)=(CQ s&& !RY s r):=by
 unfold O7;rw[h];simp only[h2]
theorem DP (m:Mt):∀v∈Au m,v.oneCell'=true:=by
 intro v hv;simp[Au]at hv;rcases hv with rfl|rfl|rfl<;>rfl
def Qb:List Value:=[.string ⟨#[]⟩,.int .i64 0,.string ⟨#[]⟩]
end Go.Proofs.YthpflelgbadkcaaGreatDoor
