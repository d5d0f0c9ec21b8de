/- What the card of the law stands on: Build, KeyA, LabV, Names, NamesV, NamesR, Match, NamedPl, OrdG. -/
import Derived.Test.YthpflelgbadkcaaGreatDoorRewriteSizeP01
import Derived.Test.YthpflelgbadkcaaGreatDoorRewriteSizeP08
import Derived.Lib.Builder
import Derived.Laws.Externs
import Derived.Lib.UnsafeStr
import Derived.StillTailTactics
import Derived.Laws.RangeString
import Derived.Test.YthpflelgbadkcaaGreatDoorRewriteSizeP03
import Derived.Test.YthpflelgbadkcaaGreatDoorRewriteSizeP07
import Derived.Test.YthpflelgbadkcaaGreatDoorRewriteSizeP04
set_option maxRecDepth 100000
set_option maxHeartbeats 12800000
set_option linter.unusedVariables false
set_option linter.unusedSimpArgs false
namespace Go.Proofs.YthpflelgbadkcaaGreatDoor
open Go.RowKit Pl
structure SB (w:World) (base g:Nat) (p v:Value) (bs:List Nat):Prop where
 box:Ag w g 156 #[p,v]
 row:Ba w base 5 v (bs.map vb)
 self:p= .pointer none∨p= .pointer (some ⟨g,0,none⟩)
theorem SB.cells {w:World} {base g:Nat} {p v:Value} {bs:List Nat} (h:SB w base g p v bs):w.cell? ⟨g,0,none⟩=some p∧w.cell? ⟨g,1,none⟩=some v:=⟨h.box.cell 0,h.box.cell 1⟩
theorem Qk:∃j,Tryz.prog.info? 156=some j∧j.size=2:=by
 have h:(Tryz.prog.info? 156).map (·.size)=some 2:=by kernel_rfl
 cases hj:Tryz.prog.info? 156 with
 |none=>rw[hj]at h;cases h
 |some j=>rw[hj]at h;exact⟨j,rfl,by simpa using h⟩
theorem Mi {w:World} {base g:Nat} {p v:Value} {bs:List Nat} (h:SB w base g p v bs):w.shape? g=some (156,2):=by
 have:=h.box;unfold Ag at this;simp[World.shape?,this]
theorem Fi (g base:Nat) (p v:Value) (bs:List Nat) (w:World) (h:SB w base g p v bs):
  Calls Tryz.prog 149 #[.pointer (some ⟨g,0,none⟩)] w fun e w'=>e= .returned (.tuple #[])∧SB w' base g (.pointer (some ⟨g,0,none⟩)) v bs∧C7 g w w':=by
 obtain⟨c0,c1⟩:=h.cells;obtain⟨j,hj,hj2⟩:=Qk;have hne:=fun w'=>Lib.run_neq_ptr_same (P:=Tryz.prog) w' ⟨g,0,none⟩ Tryz.underlying153 hj
 have hto:=Lib.run_to_unsafe (P:=Tryz.prog) w (src:=153) (dst:=211) ⟨g,0,none⟩ Tryz.underlying153 Tryz.underlying211 hj (by omega) (Mi h) (Nat.zero_lt_succ 1);have hfrom:=Lib.run_from_unsafe (P:=Tryz.prog) w (src:=211) (dst:=153) ⟨g,0,none⟩ Tryz.underlying211 Tryz.underlying153 hj (Mi h) (by kernel_rfl);have hne2:∀w',(callFunc 161 #[.pointer (some ⟨g,0,none⟩)]).run Tryz.prog w'= .ok (.value (.pointer (some ⟨g,0,none⟩))) w':=fun w'=>by
  rw[run_callFunc_extern Tryz.func161 (by kernel_rfl) (by kernel_rfl) (by kernel_rfl) (e:=Extern.AbiNoEscape.same) (by kernel_rfl),Lib.run_noEscape];rfl
 have H:=S9 h;have f0:=h.box.frozen 0;have hs:=h.self;clear h;rcases hs with rfl|rfl
 ·go_enter Tryz.func149,Tryz.ntmps149;go_wp2_with fail;go_end0;exact⟨rfl,⟨by simpa using H.out.box.set_ 0 _,H.out.row.far (fun e=>H.out.row.ne_box e H.out.box (by decide) rfl) _,.inr rfl⟩,C7.set g _ 0 _⟩
 go_enter Tryz.func149,Tryz.ntmps149;go_wp2_with fail;go_end0;exact⟨rfl,H.out,C7.refl _ _⟩
theorem SB.step {w w1:World} {base g:Nat} {p v v':Value} {bs ys:List Nat} (h:SB w base g p v bs) (hm:Ba w1 base 5 v' ((bs++ys).map vb)) (hk:AC (fun i=>v.ownBlock=some i) w w1):
  SB (w1.setCell ⟨g,1,none⟩ v') base g p v' (bs++ys)∧En g v w (w1.setCell ⟨g,1,none⟩ v'):=by
 have hg1:¬v.ownBlock=some g:=fun e=>h.row.ne_box e h.box (by decide) rfl
 have hbox:=h.box.keep hk hg1;refine⟨⟨by simpa using hbox.set_ 1 v',hm.far (fun e=>hm.ne_box e hbox (by decide) rfl) _,h.self⟩,?_⟩;exact(AC.mono hk (fun i _ e=> .inr e)).setCell (.inl (.inl rfl)) _
theorem SB.keepsB {w w':World} {base g:Nat} {p v:Value} {bs:List Nat} (h:SB w base g p v bs) (hg:base≤g) (hk:En g v w w'):AC (fun i=>base≤i) w w':=AC.mono hk (fun i _ e=>by
 rcases e with e|e
 ·rw[e];exact hg
 exact(h.row.lt i e).1)
theorem Ag.keepSB {w w':World} {base g:Nat} {p v:Value} {bs:List Nat} {k:Nat} {t:TypeId} {xs:Array Value} (hb:Ag w k t xs) (h:SB w base g p v bs) (hk:En g v w w') (h1:t≠156) (h2:t≠5):Ag w' k t xs:=hb.keep hk (fun e=>by
 rcases e with e|e
 ·exact hb.ne_ h.box h1 e
 exact h.row.ne_box e hb (fun e1=>h2 e1.symm) rfl)
theorem K5 {S:Nat→Prop} (w:World) (p:Addr) (n:Nat) (hp:S p.block):AC S w (w.freeze p n):=by
 unfold World.freeze;split
 ·exact Se _ _
 exact⟨rfl,rfl,rfl,by simp,fun k hk hn=>by
  simp only[Array.getElem?_modify];rw[SQ (fun e=>hn (by rw[←e];exact hp))]⟩
theorem Jq (g base:Nat) (p v:Value) (bs:List Nat) (w:World) (h:SB w base g p v bs) (h0:0<bs.length) (hB:Bytes bs) (hl:bs.length<900000000):
  Calls Tryz.prog 103 #[.pointer (some ⟨g,0,none⟩)] w fun e w'=>∃s,e= .returned (.string s)∧bl s=bs∧AC (fun i=>base≤i) w w':=by
 obtain⟨c0,c1⟩:=h.cells;obtain⟨l,hlu⟩:∃l:List UInt8,l.map UInt8.toNat=bs:=⟨bs.map UInt8.ofNat,by
  rw[List.map_map]
  conv=>rhs;rw[←List.map_id bs]
  apply List.map_congr_left;intro x hx;have:=hB x hx;simp[Nat.mod_eq_of_lt this]⟩
 have hll:l.length=bs.length:=by rw[←hlu,List.length_map]
 rcases h.row.form with⟨_,hn⟩|⟨r,cap,cur,rfl,hbr,hbox,h1,h2,h3,h4⟩
 ·have:=congrArg List.length hn;rw[List.length_map,List.length_nil]at this;omega
 rw[List.length_map]at h1;have hcells:∀(W:World),W.heap=w.heap→∀j x,l[j]? =some x→W.cell? ((⟨r,0,none⟩:Addr).add j)=some (.int .u8 x.toNat):=by
  intro W hW j x hx;have hj:j<bs.length:=by rw[←hll];exact(SK.1 hx).1
  have:=h.row.cellAt (j:=j) (by rw[List.length_map];exact hj);rw[Ou,Nat.zero_add,World.cell?_of_block (a:=⟨r,j,none⟩) (w:=w) (w':=W) (by rw[hW]),this];simp only[List.getElem_map];have hx2:bs[j]=x.toNat:=by
   have e1:bs[j]? =some x.toNat:=by rw[←hlu,List.getElem?_map,hx];rfl
   rw[SF hj]at e1;exact SI e1
  rw[hx2];rfl
 have hsd:=fun W=>Lib.run_unsafeSliceData_row (P:=Tryz.prog) W #[154] 193 ⟨r,0,none⟩ bs.length cap (by omega)
 have hsh:w.drew.shape? r=some (5,cap):=by
  have hbx:w.drew.heap[r]? =some (.cells cur 5 (0,0)):=hbox;simp[World.shape?,hbx,h3]
 have hus:=Lib.run_unsafeString_row (P:=Tryz.prog) w.drew 193 3 9 5 Tryz.underlying193 (by kernel_rfl) r cap hsh l (fun e=>by rw[e]at hll;simp at hll;omega) (by omega) (by omega) (hcells w.drew rfl);rw[hll]at hus;have hfin:bl ⟨l.toArray⟩=bs:=by unfold bl;simpa using hlu
 have hkf:AC (fun i=>base≤i) w (w.drew.freeze ⟨r,0,none⟩ bs.length):=Sb (Sd (Se _ w)) (K5 w.drew ⟨r,0,none⟩ bs.length hbr) (fun i _ e=>e);have HF:=S9 hfin;have HK:=S9 hkf;rw[List.length_map]at c1;generalize bs.length=n at*;clear hcells hsh hlu hll h2 h3 h4 h1 hbox h hfin hkf;go_enter Tryz.func103,Tryz.ntmps103;go_upto_region 1 with fail;go_still_tail 10,(by kernel_rfl);change wpList _ _ _ _ _ w.drew;go_wp2_with fail;go_ret;exact⟨_,rfl,HF.out,HK.out⟩
theorem JE (g base:Nat) (p v:Value) (bs:List Nat) (c:Nat) (w:World) (h:SB w base g p v bs) (hl:bs.length<900000000) (hb:base≤w.heap.size):
  Calls Tryz.prog 148 #[.pointer (some ⟨g,0,none⟩),.int .u8 (c:Nat)] w fun e w'=>e= .returned .nilIface∧∃p' v',SB w' base g p' v' (bs++[c])∧En g v w w':=by
 have HC:=S9 (Fi g base p v bs w h);clear h;go_enter Tryz.func148,Tryz.ntmps148;go_wp2_with fail;refine HC.out.mono ?_;rintro e w2 ⟨rfl,h2,k2⟩;obtain⟨c0,c1⟩:=h2.cells;have f1:=h2.box.frozen 1;obtain⟨A2,n2,c2,rfl, -⟩:=h2.row.slice;have hs2:=k2.size;have hlt:=h2.box.lt;go_wp2_with(at_builtin;refine QO R7 rfl (.tmp 11) (.tmp 13) rfl rfl (h2.row.alloc _) w2.heap.size 1 (.int .u8 (c:Nat)) rfl (SD _) (by simp) (by simp) rfl (by simp;omega) (by simp;omega) ?_;intro r cap w3 hM3 hk3 hr3 hbr3 hlr3;obtain⟨q2,hq2⟩:∃q2,q2=(bs.map vb).length+1:=⟨_,rfl⟩;rw[←hq2]at hM3 ⊢;clear hq2;have hb3:=(h2.box.alloc _).keep hk3 (fun e=>h2.row.ne_box e h2.box (by decide) rfl);have k0:=hb3.cell 1;have e0:=hb3.frozen 1;simp only[List.getElem?_toArray,List.getElem?_cons_zero,List.getElem?_cons_succ]at k0;clear c0 c1 f1);go_ret;have hS:=SB.step (w:=w2.alloc (.cells #[.int .u8 (c:Nat)] 5)) (ys:=[c]) ⟨h2.box.alloc _,h2.row.alloc _,h2.self⟩ (by rw[List.map_append];exact hM3) hk3;exact⟨rfl,_,_,hS.1,Sb (AC.alloc (AC.mono k2 (fun i _ e=> .inl e)) _) hS.2 (fun i _ e=>e)⟩
theorem Hs (g base:Nat) (p v:Value) (bs:List Nat) (s:ByteArray) (w:World) (h:SB w base g p v bs) (hl:bs.length<900000000) (hs:s.size≤1000000) (hb:base≤w.heap.size):
  Calls Tryz.prog 132 #[.pointer (some ⟨g,0,none⟩),.string s] w fun e w'=>(∃u,e= .returned u)∧∃p' v',SB w' base g p' v' (bs++bl s)∧En g v w w':=by
 have HC:=S9 (Fi g base p v bs w h);clear h;go_enter Tryz.func132,Tryz.ntmps132;go_wp2_with fail;refine HC.out.mono ?_;rintro e w2 ⟨rfl,h2,k2⟩;obtain⟨c0,c1⟩:=h2.cells;have f1:=h2.box.frozen 1;obtain⟨A2,n2,c2,rfl, -⟩:=h2.row.slice;have hs2:=k2.size;go_wp2_with(at_builtin;refine Q0 rfl (.tmp 12) (.tmp 13) rfl rfl h2.row s rfl (by omega) (by omega) ?_;intro A3 m3 c3 w3 hM3 hk3;have hb3:=h2.box.keep hk3 (fun e=>h2.row.ne_box e h2.box (by decide) rfl);have k0:=hb3.cell 1;have e0:=hb3.frozen 1;simp only[List.getElem?_toArray,List.getElem?_cons_zero,List.getElem?_cons_succ]at k0;clear c0 c1 f1);go_ret2;have hS:=SB.step h2 (ys:=bl s) hM3 hk3;exact⟨⟨_,rfl⟩,_,_,hS.1,Sb (AC.mono k2 (fun i _ e=> .inl e)) hS.2 (fun i _ e=>e)⟩
def RB (w:World) (v:Value) (ls:List (ByteArray×ByteArray)):Prop:=
 (∀p∈ls,p.1.size≤16∧p.2.size≤16)∧∃A c,v= .slice A ls.length c∧(0<ls.length→∃b,A=some ⟨b,0,none⟩∧b<w.heap.size∧∀j p,ls[j]? =some p→w.cell? ⟨b,j*2,none⟩=some (.string p.1)∧w.cell? ⟨b,j*2+1,none⟩=some (.string p.2))
theorem RB.grew {w w':World} {v:Value} {ls:List (ByteArray×ByteArray)} (h:RB w v ls) (k:A5 w w'):RB w' v ls:=by
 obtain⟨h0,A,c,hv,hx⟩:=h;refine⟨h0,A,c,hv,fun hn=>?_⟩;obtain⟨b,e,hb,hcell⟩:=hx hn;refine⟨b,e,SE hb k.size,fun j p hp=>?_⟩;have hbk:=k.block b hb (fun e=>e);exact⟨(World.cell?_of_block (a:=⟨b,j*2,none⟩) hbk).trans (hcell j p hp).1,(World.cell?_of_block (a:=⟨b,j*2+1,none⟩) hbk).trans (hcell j p hp).2⟩
theorem RB.nil (w:World) (c:Nat):RB w (.slice none 0 c) []:=⟨by simp,none,c,rfl,fun h=>by simp at h⟩
def Ma (w:World) (g:Nat):Nat:=match w.heap[g]? with|some (.stringIter _ p)=>p|_=>0
theorem CV (w:World) (s:ByteArray) (p:Nat):Ma (w.iter s p) w.heap.size=p:=by unfold Ma;rw[World.iter_heap]
theorem DD (w:World) (s:ByteArray) (p:Nat):A5 w (w.iter s p):=(Sa w).alloc _
def QH (s:ByteArray):Prop:=∀i (h:i<s.size),(s[i]'h).toNat<128
theorem Gl (s:ByteArray):CQ s=true↔(1≤s.size∧s.size≤16)∧∀i (h:i<s.size),EX i (s[i]'h).toNat=true:=by
 unfold CQ;rw[Bool.and_eq_true,decide_eq_true_iff,List.all_eq_true];constructor
 ·rintro⟨h1,h2⟩;refine⟨h1,fun i h=>?_⟩;have:=h2 i (List.mem_range.2 h);rwa[getElem!_pos s i h]at this
 rintro⟨h1,h2⟩;refine⟨h1,fun i hi=>?_⟩;have h:=List.mem_range.1 hi;have:=h2 i h;rwa[getElem!_pos s i h]
theorem Fy (s:ByteArray):DG s=true↔s.size≤16∧∀i (h:i<s.size),EM (s[i]'h).toNat=true:=by
 unfold DG;rw[Bool.and_eq_true,decide_eq_true_iff,List.all_eq_true];constructor
 ·rintro⟨h1,h2⟩;refine⟨h1,fun i h=>?_⟩;have:=h2 i (List.mem_range.2 h);rwa[getElem!_pos s i h]at this
 rintro⟨h1,h2⟩;refine⟨h1,fun i hi=>?_⟩;have h:=List.mem_range.1 hi;have:=h2 i h;rwa[getElem!_pos s i h]
theorem LK {s:ByteArray} (h:¬(1≤s.size∧s.size≤16)):CQ s=false:=by
 rcases hb:CQ s
 ·rfl
 exact absurd ((Gl s).1 hb).1 h
theorem Jk {s:ByteArray} {i:Nat} {h:i<s.size} {c:Nat} (hc:(s[i]'h).toNat=c) (hb:EX i c=false):CQ s=false:=by
 rcases hn:CQ s
 ·rfl
 have:=((Gl s).1 hn).2 i h;rw[hc,hb]at this;cases this
theorem MQ {s:ByteArray} {i:Nat} {h:i<s.size} {c:Nat} (hc:(s[i]'h).toNat=c) (hb:EM c=false):DG s=false:=by
 rcases hn:DG s
 ·rfl
 have:=((Fy s).1 hn).2 i h;rw[hc,hb]at this;cases this
theorem Iw (s:ByteArray) (hs:QH s) (w:World):Calls Tryz.prog 93 #[.string s] w fun e w'=>e= .returned (.bool (CQ s))∧A5 w w':=by
 have H3:=S9 hs;clear hs;go_enter Tryz.func93,Tryz.ntmps93;by_cases h1:(s.size:Int)<1
 ·have t1:decide ((s.size:Int)<1)=true:=by simpa using h1
  have HF:=S9 (LK (s:=s) (by omega));clear h1;go_wp2_with fail;go_ret;exact⟨by rw[HF.out];rfl,Sa _⟩
 have t1:decide ((s.size:Int)<1)=false:=by simp;omega
 by_cases h2:(16:Int)<(s.size:Int)
 ·have t2:decide ((16:Int)<(s.size:Int))=true:=by simpa using h2
  have HF:=S9 (LK (s:=s) (by omega));clear h1 h2;go_wp2_with fail;go_ret;exact⟨by rw[HF.out];rfl,Sa _⟩
 have t2:decide ((16:Int)<(s.size:Int))=false:=by simp;omega
 have HL:=S9 (show 1≤s.size∧s.size≤16 by omega);clear h1 h2;go_wp2_with fail;go_loopw [3] (fun _ wr=>∃(p:Nat),p≤s.size∧wr=w.iter s p∧∀i (h:i<s.size),i<p→EX i (s[i]'h).toNat=true) (fun _ wr=>s.size-Ma wr w.heap.size)
 case atStart=>exact⟨0,by omega,rfl,fun i _ h=>by omega⟩
 case round=>
  obtain⟨p,hp,rfl,hinv⟩:=hrel;have HI:=S9 hinv;clear hinv;by_cases hlt:p<s.size
  ·have hb:=H3.out p hlt;have hnx:=fun ty=>run_next_ascii (P:=Tryz.prog) w s p ty hlt hb
   obtain⟨b,hbe⟩:∃b,(s[p]'hlt).toNat=b:=⟨_,rfl⟩;rw[hbe]at hnx hb;have HBE:=S9 hbe;have HLT:=S9 hlt;have hnext:EX p b=true→∀i (h:i<s.size),i<p+1→EX i (s[i]'h).toNat=true:=fun hc i h hi=>by
    by_cases he:i=p
    ·subst he;rw[hbe];exact hc
    exact HI.out i h (by omega)
   have HX:=S9 hnext;clear hbe hnext;by_cases hl:97≤b∧b≤122
   ·have t3:decide ((97:Int)≤(b:Int))=true:=by simp;omega
    have t4:decide ((b:Int)≤122)=true:=by simp;omega
    have HC:=S9 (HX.out (by unfold EX;simp;omega));clear hl;go_wp2_with fail;go_roundw
    case rel=>exact⟨p+1,by omega,rfl,HC.out⟩
    case measure=>rw[CV,CV];omega
   have t34:∃q1 q2:Bool,decide ((97:Int)≤(b:Int))=q1∧decide ((b:Int)≤122)=q2∧(q1&&q2)=false:=⟨_,_,rfl,rfl,by rw[Bool.and_eq_false_iff];simp;omega⟩;obtain⟨q1,q2,t3,t4,hq⟩:=t34;by_cases hp0:p=0
   ·subst hp0;have HF:=S9 (Jk HBE.out (show EX 0 b=false by unfold EX;simp;omega));clear hl;rcases q1 with _|_<;>rcases q2 with _|_<;>(try cases hq)<;>(go_wp2_with fail;go_ret;exact⟨by rw[HF.out];rfl,DD w s _⟩)
   have tp:((p:Int)==0)=false:=by rw[SA];omega
   by_cases h95:b=95
   ·have t5:((b:Int)==95)=true:=by rw[SG];omega
    have t5':((b:Int) !=95)=false:=by rw[bne,t5];rfl
    have HC:=S9 (HX.out (by unfold EX;simp;omega));have t3':decide ((97:Int)≤(b:Int))=false:=by simp;omega
    obtain rfl:q1=false:=by rw[←t3,t3']
    clear hl h95 hp0 t3' hq;go_wp2_with fail;go_roundw
    case rel=>exact⟨p+1,by omega,rfl,HC.out⟩
    case measure=>rw[CV,CV];omega
   have t5:((b:Int)==95)=false:=by rw[SA];omega
   have t5':((b:Int) !=95)=true:=by rw[bne,t5];rfl
   by_cases h48:48≤b∧b≤57
   ·have t6:decide ((b:Int)<48)=false:=by simp;omega
    have t7:decide ((57:Int)<(b:Int))=false:=by simp;omega
    have HC:=S9 (HX.out (by unfold EX;simp;omega));have t3':decide ((97:Int)≤(b:Int))=false:=by simp;omega
    obtain rfl:q1=false:=by rw[←t3,t3']
    clear hl h95 hp0 t3' hq h48;go_wp2_with fail;go_roundw
    case rel=>exact⟨p+1,by omega,rfl,HC.out⟩
    case measure=>rw[CV,CV];omega
   have HF:=S9 (Jk HBE.out (show EX p b=false by unfold EX;simp;omega));have t67:∃q3 q4:Bool,decide ((b:Int)<48)=q3∧decide ((57:Int)<(b:Int))=q4∧(q3||q4)=true:=⟨_,_,rfl,rfl,by rw[Bool.or_eq_true];simp;omega⟩;obtain⟨q3,q4,t6,t7,hq4⟩:=t67;clear hl h95 hp0 h48;rcases q1 with _|_<;>rcases q2 with _|_<;>(try cases hq)<;>rcases q3 with _|_<;>rcases q4 with _|_<;>(try cases hq4)<;>(go_wp2_with fail;go_ret;exact⟨by rw[HF.out];rfl,DD w s _⟩)
  have hnx:=fun ty=>run_next_end (P:=Tryz.prog) w s p ty hlt
  have HT:=S9 ((Gl s).2 ⟨HL.out,fun i h=>HI.out i h (by omega)⟩);go_wp2_with fail;go_ret;exact⟨by rw[HT.out];rfl,DD w s p⟩
theorem NR (s:ByteArray) (hs:QH s) (w:World):Calls Tryz.prog 123 #[.string s] w fun e w'=>e= .returned (.bool (DG s))∧A5 w w':=by
 have H3:=S9 hs;clear hs;go_enter Tryz.func123,Tryz.ntmps123;by_cases h2:(16:Int)<(s.size:Int)
 ·have t2:decide ((16:Int)<(s.size:Int))=true:=by simpa using h2
  have HF:=S9 (show DG s=false by
   rcases hb:DG s
   ·rfl
   have:=((Fy s).1 hb).1;omega)
  clear h2;go_wp2_with fail;go_ret;exact⟨by rw[HF.out];rfl,Sa _⟩
 have t2:decide ((16:Int)<(s.size:Int))=false:=by simp;omega
 have HL:=S9 (show s.size≤16 by omega);clear h2;go_wp2_with fail;go_loopw [4] (fun _ wr=>∃(p:Nat),p≤s.size∧wr=w.iter s p∧∀i (h:i<s.size),i<p→EM (s[i]'h).toNat=true) (fun _ wr=>s.size-Ma wr w.heap.size)
 case atStart=>exact⟨0,by omega,rfl,fun i _ h=>by omega⟩
 case round=>
  obtain⟨p,hp,rfl,hinv⟩:=hrel;have HI:=S9 hinv;clear hinv;by_cases hlt:p<s.size
  ·have hb:=H3.out p hlt;have hnx:=fun ty=>run_next_ascii (P:=Tryz.prog) w s p ty hlt hb
   obtain⟨b,hbe⟩:∃b,(s[p]'hlt).toNat=b:=⟨_,rfl⟩;rw[hbe]at hnx hb;have HBE:=S9 hbe;have HLT:=S9 hlt;have hnext:EM b=true→∀i (h:i<s.size),i<p+1→EM (s[i]'h).toNat=true:=fun hc i h hi=>by
    by_cases he:i=p
    ·subst he;rw[hbe];exact hc
    exact HI.out i h (by omega)
   have HX:=S9 hnext;clear hbe hnext;by_cases hok:EM b=true
   ·have HC:=S9 (HX.out hok);simp[EM]at hok;have t3:decide ((b:Int)<33)=false:=by simp;omega
    have t4:decide ((126:Int)<(b:Int))=false:=by simp;omega
    have e1:((b:Int)==34)=false:=by rw[SA];omega
    have e2:((b:Int)==92)=false:=by rw[SA];omega
    have e3:((b:Int)==44)=false:=by rw[SA];omega
    have e4:((b:Int)==123)=false:=by rw[SA];omega
    have e5:((b:Int)==125)=false:=by rw[SA];omega
    clear hok;go_wp2_with fail;go_roundw
    case rel=>exact⟨p+1,by omega,rfl,HC.out⟩
    case measure=>rw[CV,CV];omega
   have hok:EM b=false:=by simpa using hok
   have HF:=S9 (MQ HBE.out hok);by_cases t3:(b:Int)<33
   ·have t3:decide ((b:Int)<33)=true:=by simpa using t3
    clear hok;go_wp2_with fail;go_ret;exact⟨by rw[HF.out];rfl,DD w s _⟩
   have t3':decide ((b:Int)<33)=false:=by simpa using t3
   by_cases t4:(126:Int)<(b:Int)
   ·have t4:decide ((126:Int)<(b:Int))=true:=by simpa using t4
    clear hok t3;go_wp2_with fail;go_ret;exact⟨by rw[HF.out];rfl,DD w s _⟩
   have t4':decide ((126:Int)<(b:Int))=false:=by simpa using t4
   have hor:b=34∨b=92∨b=44∨b=123∨b=125:=by simp[EM]at hok;omega
   clear hok t3 t4 t3' t4' hb HX HI HLT HBE;rcases hor with rfl|rfl|rfl|rfl|rfl<;>(go_wp2_with fail;go_ret;exact⟨by rw[HF.out];rfl,DD w s _⟩)
  have hnx:=fun ty=>run_next_end (P:=Tryz.prog) w s p ty hlt
  have HT:=S9 ((Fy s).2 ⟨HL.out,fun i h=>HI.out i h (by omega)⟩);go_wp2_with fail;go_ret;exact⟨by rw[HT.out];rfl,DD w s p⟩
theorem L4 (m:Mt) (h1:QH m.1) (h2:QH m.2.2) (w:World):Calls Tryz.prog 95 #[.agg (Au m).toArray] w fun e w'=>e= .returned (.bool (BU m))∧A5 w w':=by
 obtain⟨a,k,c⟩:=m;have hb:=Sc w 68 ([.string a,.int .i64 k,.string c]:List Value).toArray;have hG:=(Sa w).alloc (.cells ([.string a,.int .i64 k,.string c]:List Value).toArray 68);change Calls Tryz.prog 95 #[.agg ([.string a,.int .i64 k,.string c]:List Value).toArray] w _;go_enter Tryz.func95,Tryz.ntmps95;go_upto_region 1 with fail;change Code.wp _ _ _ _ (w.alloc (.cells ([.string a,.int .i64 k,.string c]:List Value).toArray 68));generalize w.alloc (.cells ([.string a,.int .i64 k,.string c]:List Value).toArray 68)=w1 at*;have c0:w1.cell? ⟨w.heap.size,0,none⟩=some (.string a):=hb.cell 0;have c1:w1.cell? ⟨w.heap.size,1,none⟩=some (.int .i64 k):=hb.cell 1;have c2:w1.cell? ⟨w.heap.size,2,none⟩=some (.string c):=hb.cell 2;have HG:=S9 hG;have HB:=S9 hb;clear hG hb;have HNm:=S9 (fun w'=>Iw a h1 w');have HVl:=S9 (fun w'=>NR c h2 w');by_cases hk:0≤k∧k≤2
 ·have hv:∀q1 q2:Bool,CQ a=q1→DG c=q2→BU (a,k,c)=(q1&&q2):=fun q1 q2 e1 e2=>by unfold BU;rw[e1,e2,decide_eq_true hk,Bool.and_true]
  obtain⟨q1,hq1⟩:∃q,CQ a=q:=⟨_,rfl⟩;obtain⟨q2,hq2⟩:∃q,DG c=q:=⟨_,rfl⟩;have HV:=S9 (hv q1 q2 hq1 hq2);rw[hq1]at HNm;rw[hq2]at HVl;have HK:k=0∨k=1∨k=2:=by omega
  clear hv hq1 hq2 hk h1 h2;rcases HK with rfl|rfl|rfl<;>rcases q1 with _|_<;>(
   go_wp2_with(first|(go_at_call 93;refine(HNm.out _).mono ?_;rintro e3 w3 ⟨rfl,k3⟩;have d2:w3.cell? ⟨w.heap.size,2,none⟩=some (.string c):=(HB.out.grew k3).cell 2)|(go_at_call 123;refine(HVl.out _).mono ?_;rintro e4 w4 ⟨rfl,k4⟩));go_ret;refine⟨by rw[HV.out];rfl,?_⟩
   first|exact(HG.out.trans k3).trans k4|exact HG.out.trans k3)
 have HV:=S9 (show BU (a,k,c)=false by unfold BU;rw[SM hk];simp);have k0:(k==0)=false:=by rw[SA];omega
 have k1:(k==1)=false:=by rw[SA];omega
 have k2:(k==2)=false:=by rw[SA];omega
 clear hk h1 h2;go_wp2_with fail;go_ret;exact⟨by rw[HV.out];rfl,HG.out⟩
def Li (s:ByteArray):Prop:=QH s∧s.size≤1000
def Qn (e:Ex):Prop:=Li e.name∧(∀m∈e.ms,Li m.1∧Li m.2.2)∧(∀s∈e.bys,Li s)∧e.ms.length≤1000∧e.bys.length≤1000
def Cn (e:Ex):Bool:=decide (e.kind=1)&&(!CQ e.name||Ht DC e.name)
theorem EY (e:Ex):Bo e=(!Cn e&&e.ms.all BU&&IA e.bys):=by
 unfold Bo Cn H7 Ht;by_cases h:e.kind=1<;>simp[h]
theorem MA {e:Ex} (h:Cn e=true):Bo e=false:=by rw[EY,h];rfl
theorem On {e:Ex} {m:Mt} (hm:m∈e.ms) (h:BU m=false):Bo e=false:=by
 rw[EY,show e.ms.all BU=false from List.all_eq_false.2 ⟨m,hm,by rw[h];simp⟩];simp
theorem IF {e:Ex} {j:Nat} (hj:j<e.bys.length) (h:O7 e.bys j=false):Bo e=false:=by
 rw[EY,show IA e.bys=false from List.all_eq_false.2 ⟨j,List.mem_range.2 hj,by rw[h];simp⟩];simp
theorem Ow {e:Ex} (h1:Cn e=false) (h2:∀m∈e.ms,BU m=true) (h3:∀j,j<e.bys.length→O7 e.bys j=true):Bo e=true:=by
 rw[EY,h1,List.all_eq_true.2 h2,show IA e.bys=true from List.all_eq_true.2 fun j hj=>h3 j (List.mem_range.1 hj)];rfl
theorem LT {l:List ByteArray} {s:ByteArray} (h:l[0]? =some s):O7 l 0=CQ s:=by
 unfold O7;rw[h];simp
theorem LC {l:List ByteArray} {k:Nat} {s r:ByteArray} (h:l[k+1]? =some s) (h2:l[k]? =some r):O7 l (k+1)=(CQ s&& !RY s r):=by
 unfold O7;rw[h];simp only[h2]
theorem DP (m:Mt):∀v∈Au m,v.oneCell'=true:=by
 intro v hv;simp[Au]at hv;rcases hv with rfl|rfl|rfl<;>rfl
def Qb:List Value:=[.string ⟨#[]⟩,.int .i64 0,.string ⟨#[]⟩]
end Go.Proofs.YthpflelgbadkcaaGreatDoor
namespace Go.Proofs.YthpflelgbadkcaaGreatDoor
open Go.RowKit
section
variable {P:Program} {ops:Array Oper} {Q:Exit→Act→World→Prop} {md:Region.Mode}
def FX (md:Region.Mode) (ops:Array Oper) (i:Nat) (t:Tmp):Bool:=(List.range ops.size).all fun j=>match ops[j]? with|some oj=>oj.dst !=some t||Region.waitsFor md ops i j|none=>true
def I5 (md:Region.Mode) (ops:Array Oper) (i:Nat):Bool:=match ops[i]? with
 |some o=>(match o.guard with
   |none=>true
   |some (j,_)=>match ops[j]? with
    |some oj=>match oj.dst with
     |some t=>FX md ops i t
     |none=>true
    |none=>true)&&(o.op.operands.all fun x=>match x with
   | .tmp t=>FX md ops i t
   |_=>true)
 |none=>false
def K8 (md:Region.Mode) (ops:Array Oper):Bool:=(List.range ops.size).all (I5 md ops)&&Kt md ops
structure QG (ops:Array Oper) (G:Act) (w0:World) (listed:Array Bool) (a:Act) (w:World):Prop where
 ex:∀k,(∀j o,ops[j]? =some o→o.dst=some k→listed.getD j false=true)→a.tmps[k]? =G.tmps[k]?
 sz:a.tmps.size=G.tmps.size
 df:a.defers=G.defers
 grew:A5 w0 w
 size:listed.size=ops.size
theorem Mb {G:Act} {w0:World} {listed:Array Bool} {a:Act} {w:World} {i:Nat} {t:Tmp} {oi:Oper} (hI:QG ops G w0 listed a w) (hoi:ops[i]? =some oi) (hdep:∀e∈oi.after,Region.binds md e=true→listed.getD e.on false=true) (h:FX md ops i t=true):a.tmps[t]? =G.tmps[t]? :=
 hI.ex t fun j o ho hod=>by
  have hj:j<ops.size:=(SO.1 ho).1;have h3:=List.all_eq_true.1 h j (List.mem_range.2 hj);simp only[ho,hod]at h3;have h4:Region.waitsFor md ops i j=true:=by simpa using h3
  obtain⟨o',ho',e,he,hbd,hon⟩:=Region.waitsFor_spec h4;obtain rfl:oi=o':=SI (hoi.symm.trans ho');rw[←hon];exact hdep e he hbd
theorem Q7 (hB0:K8 md ops=true) (hs:Region.noSelect ops=true) (G:Act) (w0:World)
  (hst:∀(i:Nat) (o:Oper),ops[i]? =some o→(Region.wanted o (yielded ops G.tmps)=true→∀w,A5 w0 w→o.wp P G w (fun a' w'=>a'=G∧A5 w w') (fun _ _ _=>False))∧(Region.wanted o (yielded ops G.tmps)=false→G.put o.dst undef=G))
  (T:∀w fuel,A5 w0 w→wpAny P md ops Q fuel (E7 ops.size ops.size) G w):
  ∀fuel listed a w,QG ops G w0 listed a w→Dx ops.size listed≤fuel→wpAny P md ops Q fuel listed a w:=by
 unfold K8 at hB0;simp only[Bool.and_eq_true]at hB0;obtain⟨hhd,hbk⟩:=hB0;have hdone:∀fuel listed a w,QG ops G w0 listed a w→Dx ops.size listed=0→wpAny P md ops Q fuel listed a w:=by
  intro fuel listed a w hI h0;have hall:=ER h0;have ha:a=G:=by
   have ht:a.tmps=G.tmps:=Array.ext_getElem? fun k=>hI.ex k fun j o ho _=>hall j (SO.1 ho).1
   have hd:=hI.df;cases a;cases G;simp at ht hd;rw[ht,hd]
  rw[ha,KP hI.size hall (fun i hi=>by rw[Array.getD_eq_getD_getElem?,Array.getElem?_eq_none (by rw[hI.size];exact hi)];rfl)];exact T w fuel hI.grew
 intro fuel
 induction fuel with
 |zero=>intro listed a w hI hc;exact hdone 0 listed a w hI (by omega)
 |succ fuel ih=>
  intro listed a w hI hc;rcases Nat.eq_zero_or_pos (Dx ops.size listed)with h0|hpos
  ·exact hdone (fuel+1) listed a w hI h0
  obtain⟨j0,hj0,hl0⟩:=Gj hpos;refine⟨fun hr=>absurd hr (CJ hbk hI.size j0 j0 (SD _) (by omega) hl0),fun i hi=>?_⟩;obtain⟨hun,oi,hoi,hdep⟩:=mem_ready.1 hi;have hisz:i<ops.size:=(SO.1 hoi).1;have hun':listed.getD i false=false:=getD_both hun;have hhi:=List.all_eq_true.1 hhd i (List.mem_range.2 hisz);unfold I5 at hhi;simp only[hoi,Bool.and_eq_true]at hhi;obtain⟨hgd,hopr⟩:=hhi;have hc':Dx ops.size (listed.setIfInBounds i true)+1=Dx ops.size listed:=Gc listed ops.size i hisz (by rw[hI.size];exact hisz) hun';have hsz':(listed.setIfInBounds i true).size=ops.size:=by rw[Array.size_setIfInBounds,hI.size]
  have hdep':∀e∈oi.after,Region.binds md e=true→listed.getD e.on false=true:=hdep;have hwt:Region.wanted oi (yielded ops a.tmps)=Region.wanted oi (yielded ops G.tmps):=by
   unfold Region.wanted;cases hg:oi.guard with
   |none=>rfl
   |some p=>
    obtain⟨j,b⟩:=p;rw[hg]at hgd;simp only at hgd ⊢;have:yielded ops a.tmps j=yielded ops G.tmps j:=by
     unfold yielded;cases hoj:ops[j]? with
     |none=>rfl
     |some oj=>
      rw[hoj]at hgd;simp only at hgd;cases hdj:oj.dst with
      |none=>simp[hdj]
      |some t=>
       rw[hdj]at hgd;simp only[Option.bind_some,hdj];rw[Mb hI hoi hdep' hgd]
    rw[this]
  have key:∀v w',(G.put oi.dst v=G)→A5 w w'→QG ops G w0 (listed.setIfInBounds i true) (a.put oi.dst v) w':=fun v w' hv hg=>by
   refine⟨fun k hkk=>?_,?_,?_,hI.grew.trans hg,hsz'⟩
   ·cases hd:oi.dst with
    |none=>
     refine hI.ex k fun j o ho hod=>?_
     have h1:=hkk j o ho hod;by_cases hij:i=j
     ·subst hij;obtain rfl:oi=o:=SI (hoi.symm.trans ho);rw[hd]at hod;cases hod
     rwa[getD_set_ne false hij]at h1
    |some d=>
     rw[hd]at hv;rw[Bu];by_cases hdk:d=k
     ·subst hdk;rw[SR rfl];have h1:(G.put (some d) v).tmps[d]? =G.tmps[d]? :=by rw[hv]
      rw[Bu,SR rfl]at h1;rw[←h1,hI.sz]
     rw[SQ hdk];refine hI.ex k fun j o ho hod=>?_
     have h1:=hkk j o ho hod;by_cases hij:i=j
     ·subst hij;obtain rfl:oi=o:=SI (hoi.symm.trans ho);rw[hd]at hod;exact absurd (SI hod) hdk
     rwa[getD_set_ne false hij]at h1
   ·cases oi.dst with
    |none=>exact hI.sz
    |some d=>simp only[Act.put,Array.size_setIfInBounds];exact hI.sz
   cases oi.dst with
   |none=>exact hI.df
   |some d=>exact hI.df
  obtain⟨hst1,hst2⟩:=hst i oi hoi;unfold wpOp;simp only[hoi];rw[hwt];cases hww:Region.wanted oi (yielded ops G.tmps)with
  |true=>
   rw[SR rfl];refine .inl ?_;refine Cj (fun cs b=>Region.noSelect_spec hs i oi cs b hoi) (hst1 hww w hI.grew) (fun x hx=>?_) fun v w' hv hg=>ih _ _ _ (key v w' hv hg) (by omega)
   cases x with
   |tmp t=>
    have h1:=Array.all_eq_true'.1 hopr _ hx;simp only[Act.eval,Array.getD_eq_getD_getElem?,Mb hI hoi hdep' h1]
   |_=>rfl
  |false=>
   rw[SQ (by simp)];exact ih _ _ _ (key undef w (hst2 hww) (Sa _)) (by omega)
def D9 (P:Program) (ops:Array Oper) (w0:World) (G:Act):List Oper→Prop
 |[]=>True
 |o::r=>((Region.wanted o (yielded ops G.tmps)=true→∀w,A5 w0 w→o.wp P G w (fun a' w'=>a'=G∧A5 w w') (fun _ _ _=>False))∧(Region.wanted o (yielded ops G.tmps)=false→G.put o.dst undef=G))∧D9 P ops w0 G r
theorem AQ {w0:World} {G:Act}:D9 P ops w0 G []:=trivial
theorem A4 {w0:World} {G:Act} {o:Oper} {r:List Oper} (hw:Region.wanted o (yielded ops G.tmps)=true) (h:∀w,A5 w0 w→o.wp P G w (fun a' w'=>a'=G∧A5 w w') (fun _ _ _=>False)) (h2:D9 P ops w0 G r):D9 P ops w0 G (o::r):=⟨⟨fun _=>h,(fun e=>by rw[hw]at e;cases e)⟩,h2⟩
theorem AA {w0:World} {G:Act} {o:Oper} {r:List Oper} (hw:Region.wanted o (yielded ops G.tmps)=false) (h:G.put o.dst undef=G) (h2:D9 P ops w0 G r):D9 P ops w0 G (o::r):=⟨⟨(fun e=>by rw[hw]at e;cases e),fun _=>h⟩,h2⟩
theorem Hn {w0:World} {G:Act} {l:List Oper} (h:D9 P ops w0 G l):∀(i:Nat) (o:Oper),l[i]? =some o→(Region.wanted o (yielded ops G.tmps)=true→∀w,A5 w0 w→o.wp P G w (fun a' w'=>a'=G∧A5 w w') (fun _ _ _=>False))∧(Region.wanted o (yielded ops G.tmps)=false→G.put o.dst undef=G):=by
 induction l with
 |nil=>intro i o ho;simp at ho
 |cons b r ih=>
  intro i o ho;unfold D9 at h;cases i with
  |zero=>
   have e:b=o:=by simpa using ho
   rw[←e];exact h.1
  |succ i=>exact ih h.2 i o (by simpa using ho)
theorem Lf {id:Nat} {a:Act} {w:World} (hm:P.follows .mixedOrders=true) (vals:List Value) (G:Act) (hB0:K8 .any ops=true) (hs:Region.noSelect ops=true)
  (hG:G=AI ops.toList vals a) (hH:D9 P ops w.drew G ops.toList) (hr:Region.ready .any ops (E7 ops.size ops.size)=[])
  (h:∀w1,A5 w w1→Q .normal G w1):(Code.region id ops true).wp P Q a w:=by
 refine wp_region_any hm ?_;have hsz:G.tmps.size=a.tmps.size:=by rw[hG];exact(BH _ _ _).1
 have hdf:G.defers=a.defers:=by rw[hG];exact(BH _ _ _).2
 refine Q7 hB0 hs G w.drew (fun i o ho=>Hn hH i o (by simpa using ho)) ?_ ops.size _ _ _ ⟨fun k hk=>?_,hsz.symm,hdf.symm,Sa _,by simp⟩ ?_
 ·intro w1 fuel hg;have hg':A5 w w1:=(Sd (Sa w)).trans hg;cases fuel with
  |zero=>exact⟨hr,h w1 hg'⟩
  |succ f=>exact⟨fun _=>h w1 hg',by rw[hr];simp⟩
 ·rw[hG];refine(CN _ _ _ k fun o ho=>?_).symm;intro hod;obtain⟨j,hj⟩:=List.getElem?_of_mem ho;have hjo:ops[j]? =some o:=by simpa using hj
  have:=hk j o hjo hod;rw[getD_replicate_false]at this;cases this
 have:∀(n m:Nat),Dx m (Array.replicate n false)≤m:=by
  intro n m
  induction m with
  |zero=>exact SD _
  |succ m ih=>unfold Dx;split<;>omega
 exact this _ _
end
end Go.Proofs.YthpflelgbadkcaaGreatDoor
