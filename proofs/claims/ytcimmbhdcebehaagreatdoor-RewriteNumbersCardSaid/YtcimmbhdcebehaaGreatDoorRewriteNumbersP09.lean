/- What the card of the law stands on: HBytes, BEnc, RdPl, WRd, WRd2, WRd3, WText, Build, KeyA, LabV, Names, NamesV, NamesR, Match, NamedPl. -/
import Derived.Test.YtcimmbhdcebehaaGreatDoorRewriteNumbersP01
import Derived.Test.YtcimmbhdcebehaaGreatDoorRewriteNumbersP08
import Derived.Test.YtcimmbhdcebehaaGreatDoorRewriteNumbersP04
import Derived.Laws.MakeOwn
import Derived.Lib.AppendStr
import Derived.Laws.IdiomStrings
import Derived.Laws.BytesArg
import Derived.Lib.Builder
import Derived.Laws.Externs
import Derived.Lib.UnsafeStr
import Derived.StillTailTactics
import Derived.Laws.RangeString
import Derived.Test.YtcimmbhdcebehaaGreatDoorRewriteNumbersP07
set_option maxRecDepth 100000
set_option maxHeartbeats 12800000
set_option linter.unusedVariables false
set_option linter.unusedSimpArgs false
namespace Go.Proofs.YtcimmbhdcebehaaGreatDoor
open Go.RowKit Go.Shelf Pl
attribute [local go_sem] Oper.semAt_some
end Go.Proofs.YtcimmbhdcebehaaGreatDoor
namespace Go.Proofs.YtcimmbhdcebehaaGreatDoor
open Go.RowKit Pl
end Go.Proofs.YtcimmbhdcebehaaGreatDoor
namespace Go.Proofs.YtcimmbhdcebehaaGreatDoor.Pl
end Go.Proofs.YtcimmbhdcebehaaGreatDoor.Pl
namespace Go.Proofs.YtcimmbhdcebehaaGreatDoor
open Go.RowKit Pl
def bl (s:ByteArray):List Nat:=s.data.toList.map UInt8.toNat
theorem bl_length (s:ByteArray):(bl s).length=s.size:=by unfold bl;rw[List.length_map,Array.length_toList];rfl
theorem bl_bytes (s:ByteArray):Bytes (bl s):=fun x hx=>by
 unfold bl at hx;obtain⟨b,_,rfl⟩:=List.mem_map.1 hx;exact b.toNat_lt
theorem bl_cells (s:ByteArray):Lib.strCells s=(bl s).map vb:=by unfold Lib.strCells bl;rw[List.map_map];rfl
theorem bl_inj {s t:ByteArray} (h:bl s=bl t):s=t:=by
 unfold bl at h;have h2:s.data.toList=t.data.toList:=(List.map_inj_right (fun a b e=>UInt8.toNat_inj.1 e)).1 h;obtain⟨s⟩:=s;obtain⟨t⟩:=t;simp only at h2;rw[Array.toList_inj.1 h2]
theorem app_str {w:World} {base:Nat} {v:Value} {bs:List Nat} {ops:Array Oper} {rest:List Oper} {o:Oper} {a:Act} {Q:Exit→Act→World→Prop} (hgd:o.guard=none) (s x:Operand)
  (ho:o.op= .call { callee:= .builtin .append,args:=#[s,x],argTypes:=#[46,9] })
  (hs:a.eval s=v) (hown:Mine w base 5 v (bs.map vb)) (t:ByteArray) (hx:a.eval x= .string t)
  (hn:bs.length+t.size≤1099511627776) (hbase:base≤w.heap.size)
  (h:∀A m cap w',Mine w' base 5 (.slice A m cap) ((bs++bl t).map vb)→Keeps (fun i=>v.ownBlock=some i) w w'→wpList Tryz.prog ops Q rest (a.put o.dst (.slice A m cap)) w'):wpList Tryz.prog ops Q (o::rest) a w:=by
 refine wpList_plain hgd fun K hK=>?_
 obtain⟨i,hi,hz,hsz,hby⟩:=info_parts slU8.info;obtain⟨v',w',hrun,h2,h3,_⟩:=Lib.run_append_own_string (P:=Tryz.prog) w base 46 9 o.type 5 i Tryz.underlying46 Tryz.underlying9 hi hz hsz hby v _ _ hown t (by rw[List.length_map];unfold maxLen;omega) (by rw[List.length_map];omega) hbase;have hm:Mine w' base 5 v' ((bs++bl t).map vb):=by
  unfold Mine;rw[List.map_append,List.length_append,←bl_cells,Lib.strCells_length];exact h2
 unfold Oper.wp execOp;simp only[ho,resolve,invoke,builtin,Sem.run_bind,Sem.run_pure,Result.andThen_ok,List.map_toArray,List.map_cons,List.map_nil,hs,hx,hrun];obtain⟨A,m,cap,rfl, -⟩:=hm.slice;exact hK _ _ (h A m cap w' hm ((Keeps.refl _ w).grown h3 (fun k e _=>e)))
structure SB (w:World) (base g:Nat) (p v:Value) (bs:List Nat):Prop where
 box:Box w g 48 #[p,v]
 row:Mine w base 5 v (bs.map vb)
 self:p= .pointer none∨p= .pointer (some ⟨g,0,none⟩)
theorem SB.cells {w:World} {base g:Nat} {p v:Value} {bs:List Nat} (h:SB w base g p v bs):w.cell? ⟨g,0,none⟩=some p∧w.cell? ⟨g,1,none⟩=some v:=⟨h.box.cell 0,h.box.cell 1⟩
theorem infoSB:∃j,Tryz.prog.info? 48=some j∧j.size=2:=by
 have h:(Tryz.prog.info? 48).map (·.size)=some 2:=by kernel_rfl
 cases hj:Tryz.prog.info? 48 with
 |none=>rw[hj]at h;cases h
 |some j=>rw[hj]at h;exact⟨j,rfl,by simpa using h⟩
theorem shapeSB {w:World} {base g:Nat} {p v:Value} {bs:List Nat} (h:SB w base g p v bs):w.shape? g=some (48,2):=by
 have:=h.box;unfold Box at this;simp[World.shape?,this]
theorem copyCheck_any (g base:Nat) (p v:Value) (bs:List Nat) (w:World) (h:SB w base g p v bs):
  Calls Tryz.prog 71 #[.pointer (some ⟨g,0,none⟩)] w fun e w'=>e= .returned (.tuple #[])∧SB w' base g (.pointer (some ⟨g,0,none⟩)) v bs∧KeepsR g w w':=by
 obtain⟨c0,c1⟩:=h.cells;obtain⟨j,hj,hj2⟩:=infoSB;have hne:=fun w'=>Lib.run_neq_ptr_same (P:=Tryz.prog) w' ⟨g,0,none⟩ Tryz.underlying45 hj
 have hto:=Lib.run_to_unsafe (P:=Tryz.prog) w (src:=45) (dst:=128) ⟨g,0,none⟩ Tryz.underlying45 Tryz.underlying128 hj (by omega) (shapeSB h) (Nat.zero_lt_succ 1);have hfrom:=Lib.run_from_unsafe (P:=Tryz.prog) w (src:=128) (dst:=45) ⟨g,0,none⟩ Tryz.underlying128 Tryz.underlying45 hj (shapeSB h) (by kernel_rfl);have hne2:∀w',(callFunc 94 #[.pointer (some ⟨g,0,none⟩)]).run Tryz.prog w'= .ok (.value (.pointer (some ⟨g,0,none⟩))) w':=fun w'=>by
  rw[run_callFunc_extern Tryz.func94 (by kernel_rfl) (by kernel_rfl) (by kernel_rfl) (e:=Extern.AbiNoEscape.same) (by kernel_rfl),Lib.run_noEscape];rfl
 have H:=Lib.hid h;have f0:=h.box.frozen 0;have hs:=h.self;clear h;rcases hs with rfl|rfl
 ·go_enter Tryz.func71,Tryz.ntmps71;go_wp2_with fail;go_end0;exact⟨rfl,⟨by simpa using H.out.box.set_ 0 _,H.out.row.far (fun e=>H.out.row.ne_box e H.out.box (by decide) rfl) _,.inr rfl⟩,KeepsR.set g _ 0 _⟩
 go_enter Tryz.func71,Tryz.ntmps71;go_wp2_with fail;go_end0;exact⟨rfl,H.out,KeepsR.refl _ _⟩
theorem SB.step {w w1:World} {base g:Nat} {p v v':Value} {bs ys:List Nat} (h:SB w base g p v bs) (hm:Mine w1 base 5 v' ((bs++ys).map vb)) (hk:Keeps (fun i=>v.ownBlock=some i) w w1):
  SB (w1.setCell ⟨g,1,none⟩ v') base g p v' (bs++ys)∧KeepsW g v w (w1.setCell ⟨g,1,none⟩ v'):=by
 have hg1:¬v.ownBlock=some g:=fun e=>h.row.ne_box e h.box (by decide) rfl
 have hbox:=h.box.keep hk hg1;refine⟨⟨by simpa using hbox.set_ 1 v',hm.far (fun e=>hm.ne_box e hbox (by decide) rfl) _,h.self⟩,?_⟩;exact(Keeps.mono hk (fun i _ e=> .inr e)).setCell (.inl (.inl rfl)) _
theorem SB.keepsB {w w':World} {base g:Nat} {p v:Value} {bs:List Nat} (h:SB w base g p v bs) (hg:base≤g) (hk:KeepsW g v w w'):Keeps (fun i=>base≤i) w w':=Keeps.mono hk (fun i _ e=>by
 rcases e with e|e
 ·rw[e];exact hg
 exact(h.row.lt i e).1)
theorem Box.keepSB {w w':World} {base g:Nat} {p v:Value} {bs:List Nat} {k:Nat} {t:TypeId} {xs:Array Value} (hb:Box w k t xs) (h:SB w base g p v bs) (hk:KeepsW g v w w') (h1:t≠48) (h2:t≠5):Box w' k t xs:=hb.keep hk (fun e=>by
 rcases e with e|e
 ·exact hb.ne_ h.box h1 e
 exact h.row.ne_box e hb (fun e1=>h2 e1.symm) rfl)
theorem keeps_freeze {S:Nat→Prop} (w:World) (p:Addr) (n:Nat) (hp:S p.block):Keeps S w (w.freeze p n):=by
 unfold World.freeze;split
 ·exact Keeps.refl _ _
 exact⟨rfl,rfl,rfl,by simp,fun k hk hn=>by
  simp only[Array.getElem?_modify];rw[if_neg (fun e=>hn (by rw[←e];exact hp))]⟩
theorem sbString_any (g base:Nat) (p v:Value) (bs:List Nat) (w:World) (h:SB w base g p v bs) (h0:0<bs.length) (hB:Bytes bs) (hl:bs.length<900000000):
  Calls Tryz.prog 23 #[.pointer (some ⟨g,0,none⟩)] w fun e w'=>∃s,e= .returned (.string s)∧bl s=bs∧Keeps (fun i=>base≤i) w w':=by
 obtain⟨c0,c1⟩:=h.cells;obtain⟨l,hlu⟩:∃l:List UInt8,l.map UInt8.toNat=bs:=⟨bs.map UInt8.ofNat,by
  rw[List.map_map]
  conv=>rhs;rw[←List.map_id bs]
  apply List.map_congr_left;intro x hx;have:=hB x hx;simp[Nat.mod_eq_of_lt this]⟩
 have hll:l.length=bs.length:=by rw[←hlu,List.length_map]
 rcases h.row.form with⟨_,hn⟩|⟨r,cap,cur,rfl,hbr,hbox,h1,h2,h3,h4⟩
 ·have:=congrArg List.length hn;rw[List.length_map,List.length_nil]at this;omega
 rw[List.length_map]at h1;have hcells:∀(W:World),W.heap=w.heap→∀j x,l[j]? =some x→W.cell? ((⟨r,0,none⟩:Addr).add j)=some (.int .u8 x.toNat):=by
  intro W hW j x hx;have hj:j<bs.length:=by rw[←hll];exact(List.getElem?_eq_some_iff.1 hx).1
  have:=h.row.cellAt (j:=j) (by rw[List.length_map];exact hj);rw[add_none,Nat.zero_add,World.cell?_of_block (a:=⟨r,j,none⟩) (w:=w) (w':=W) (by rw[hW]),this];simp only[List.getElem_map];have hx2:bs[j]=x.toNat:=by
   have e1:bs[j]? =some x.toNat:=by rw[←hlu,List.getElem?_map,hx];rfl
   rw[List.getElem?_eq_getElem hj]at e1;exact Option.some.inj e1
  rw[hx2];rfl
 have hsd:=fun W=>Lib.run_unsafeSliceData_row (P:=Tryz.prog) W #[46] 89 ⟨r,0,none⟩ bs.length cap (by omega)
 have hsh:w.drew.shape? r=some (5,cap):=by
  have hbx:w.drew.heap[r]? =some (.cells cur 5 (0,0)):=hbox;simp[World.shape?,hbx,h3]
 have hus:=Lib.run_unsafeString_row (P:=Tryz.prog) w.drew 89 3 9 5 Tryz.underlying89 (by kernel_rfl) r cap hsh l (fun e=>by rw[e]at hll;simp at hll;omega) (by omega) (by omega) (hcells w.drew rfl);rw[hll]at hus;have hfin:bl ⟨l.toArray⟩=bs:=by unfold bl;simpa using hlu
 have hkf:Keeps (fun i=>base≤i) w (w.drew.freeze ⟨r,0,none⟩ bs.length):=Keeps.then_ (Keeps.drew (Keeps.refl _ w)) (keeps_freeze w.drew ⟨r,0,none⟩ bs.length hbr) (fun i _ e=>e);have HF:=Lib.hid hfin;have HK:=Lib.hid hkf;rw[List.length_map]at c1;generalize bs.length=n at*;clear hcells hsh hlu hll h2 h3 h4 h1 hbox h hfin hkf;go_enter Tryz.func23,Tryz.ntmps23;go_upto_region 1 with fail;go_still_tail 10,(by kernel_rfl);change wpList _ _ _ _ _ w.drew;go_wp2_with fail;go_ret;exact⟨_,rfl,HF.out,HK.out⟩
theorem writeByte_any (g base:Nat) (p v:Value) (bs:List Nat) (c:Nat) (w:World) (h:SB w base g p v bs) (hl:bs.length<900000000) (hb:base≤w.heap.size):
  Calls Tryz.prog 69 #[.pointer (some ⟨g,0,none⟩),.int .u8 (c:Nat)] w fun e w'=>e= .returned .nilIface∧∃p' v',SB w' base g p' v' (bs++[c])∧KeepsW g v w w':=by
 have HC:=Lib.hid (copyCheck_any g base p v bs w h);clear h;go_enter Tryz.func69,Tryz.ntmps69;go_wp2_with fail;refine HC.out.mono ?_;rintro e w2 ⟨rfl,h2,k2⟩;obtain⟨c0,c1⟩:=h2.cells;have f1:=h2.box.frozen 1;obtain⟨A2,n2,c2,rfl, -⟩:=h2.row.slice;have hs2:=k2.size;have hlt:=h2.box.lt;go_wp2_with(at_builtin;refine app_one slU8 rfl (.tmp 11) (.tmp 13) rfl rfl (h2.row.alloc _) w2.heap.size 1 (.int .u8 (c:Nat)) rfl (Nat.le_refl _) (by simp) (by simp) rfl (by simp;omega) (by simp;omega) ?_;intro r cap w3 hM3 hk3 hr3 hbr3 hlr3;obtain⟨q2,hq2⟩:∃q2,q2=(bs.map vb).length+1:=⟨_,rfl⟩;rw[←hq2]at hM3 ⊢;clear hq2;have hb3:=(h2.box.alloc _).keep hk3 (fun e=>h2.row.ne_box e h2.box (by decide) rfl);have k0:=hb3.cell 1;have e0:=hb3.frozen 1;simp only[List.getElem?_toArray,List.getElem?_cons_zero,List.getElem?_cons_succ]at k0;clear c0 c1 f1);go_ret;have hS:=SB.step (w:=w2.alloc (.cells #[.int .u8 (c:Nat)] 5)) (ys:=[c]) ⟨h2.box.alloc _,h2.row.alloc _,h2.self⟩ (by rw[List.map_append];exact hM3) hk3;exact⟨rfl,_,_,hS.1,Keeps.then_ (Keeps.alloc (Keeps.mono k2 (fun i _ e=> .inl e)) _) hS.2 (fun i _ e=>e)⟩
theorem writeString_any (g base:Nat) (p v:Value) (bs:List Nat) (s:ByteArray) (w:World) (h:SB w base g p v bs) (hl:bs.length<900000000) (hs:s.size≤1000000) (hb:base≤w.heap.size):
  Calls Tryz.prog 48 #[.pointer (some ⟨g,0,none⟩),.string s] w fun e w'=>(∃u,e= .returned u)∧∃p' v',SB w' base g p' v' (bs++bl s)∧KeepsW g v w w':=by
 have HC:=Lib.hid (copyCheck_any g base p v bs w h);clear h;go_enter Tryz.func48,Tryz.ntmps48;go_wp2_with fail;refine HC.out.mono ?_;rintro e w2 ⟨rfl,h2,k2⟩;obtain⟨c0,c1⟩:=h2.cells;have f1:=h2.box.frozen 1;obtain⟨A2,n2,c2,rfl, -⟩:=h2.row.slice;have hs2:=k2.size;go_wp2_with(at_builtin;refine app_str rfl (.tmp 12) (.tmp 13) rfl rfl h2.row s rfl (by omega) (by omega) ?_;intro A3 m3 c3 w3 hM3 hk3;have hb3:=h2.box.keep hk3 (fun e=>h2.row.ne_box e h2.box (by decide) rfl);have k0:=hb3.cell 1;have e0:=hb3.frozen 1;simp only[List.getElem?_toArray,List.getElem?_cons_zero,List.getElem?_cons_succ]at k0;clear c0 c1 f1);go_ret2;have hS:=SB.step h2 (ys:=bl s) hM3 hk3;exact⟨⟨_,rfl⟩,_,_,hS.1,Keeps.then_ (Keeps.mono k2 (fun i _ e=> .inl e)) hS.2 (fun i _ e=>e)⟩
def RdL (w:World) (v:Value) (ls:List (ByteArray×ByteArray)):Prop:=
 (∀p∈ls,p.1.size≤16∧p.2.size≤16)∧∃A c,v= .slice A ls.length c∧(0<ls.length→∃b,A=some ⟨b,0,none⟩∧b<w.heap.size∧∀j p,ls[j]? =some p→w.cell? ⟨b,j*2,none⟩=some (.string p.1)∧w.cell? ⟨b,j*2+1,none⟩=some (.string p.2))
theorem RdL.grew {w w':World} {v:Value} {ls:List (ByteArray×ByteArray)} (h:RdL w v ls) (k:Grew w w'):RdL w' v ls:=by
 obtain⟨h0,A,c,hv,hx⟩:=h;refine⟨h0,A,c,hv,fun hn=>?_⟩;obtain⟨b,e,hb,hcell⟩:=hx hn;refine⟨b,e,Nat.lt_of_lt_of_le hb k.size,fun j p hp=>?_⟩;have hbk:=k.block b hb (fun e=>e);exact⟨(World.cell?_of_block (a:=⟨b,j*2,none⟩) hbk).trans (hcell j p hp).1,(World.cell?_of_block (a:=⟨b,j*2+1,none⟩) hbk).trans (hcell j p hp).2⟩
theorem RdL.nil (w:World) (c:Nat):RdL w (.slice none 0 c) []:=⟨by simp,none,c,rfl,fun h=>by simp at h⟩
def itPos (w:World) (g:Nat):Nat:=match w.heap[g]? with|some (.stringIter _ p)=>p|_=>0
theorem itPos_iter (w:World) (s:ByteArray) (p:Nat):itPos (w.iter s p) w.heap.size=p:=by unfold itPos;rw[World.iter_heap]
theorem grew_iter (w:World) (s:ByteArray) (p:Nat):Grew w (w.iter s p):=(Grew.refl w).alloc _
def Asc (s:ByteArray):Prop:=∀i (h:i<s.size),(s[i]'h).toNat<128
theorem nameB_iff (s:ByteArray):nameB s=true↔(1≤s.size∧s.size≤16)∧∀i (h:i<s.size),nameC i (s[i]'h).toNat=true:=by
 unfold nameB;rw[Bool.and_eq_true,decide_eq_true_iff,List.all_eq_true];constructor
 ·rintro⟨h1,h2⟩;refine⟨h1,fun i h=>?_⟩;have:=h2 i (List.mem_range.2 h);rwa[getElem!_pos s i h]at this
 rintro⟨h1,h2⟩;refine⟨h1,fun i hi=>?_⟩;have h:=List.mem_range.1 hi;have:=h2 i h;rwa[getElem!_pos s i h]
theorem valueB_iff (s:ByteArray):valueB s=true↔s.size≤16∧∀i (h:i<s.size),valueC (s[i]'h).toNat=true:=by
 unfold valueB;rw[Bool.and_eq_true,decide_eq_true_iff,List.all_eq_true];constructor
 ·rintro⟨h1,h2⟩;refine⟨h1,fun i h=>?_⟩;have:=h2 i (List.mem_range.2 h);rwa[getElem!_pos s i h]at this
 rintro⟨h1,h2⟩;refine⟨h1,fun i hi=>?_⟩;have h:=List.mem_range.1 hi;have:=h2 i h;rwa[getElem!_pos s i h]
theorem nameB_no {s:ByteArray} (h:¬(1≤s.size∧s.size≤16)):nameB s=false:=by
 rcases hb:nameB s
 ·rfl
 exact absurd ((nameB_iff s).1 hb).1 h
theorem nameB_bad {s:ByteArray} {i:Nat} {h:i<s.size} {c:Nat} (hc:(s[i]'h).toNat=c) (hb:nameC i c=false):nameB s=false:=by
 rcases hn:nameB s
 ·rfl
 have:=((nameB_iff s).1 hn).2 i h;rw[hc,hb]at this;cases this
theorem valueB_bad {s:ByteArray} {i:Nat} {h:i<s.size} {c:Nat} (hc:(s[i]'h).toNat=c) (hb:valueC c=false):valueB s=false:=by
 rcases hn:valueB s
 ·rfl
 have:=((valueB_iff s).1 hn).2 i h;rw[hc,hb]at this;cases this
theorem name_any (s:ByteArray) (hs:Asc s) (w:World):Calls Tryz.prog 89 #[.string s] w fun e w'=>e= .returned (.bool (nameB s))∧Grew w w':=by
 have H3:=Lib.hid hs;clear hs;go_enter Tryz.func89,Tryz.ntmps89;by_cases h1:(s.size:Int)<1
 ·have t1:decide ((s.size:Int)<1)=true:=by simpa using h1
  have HF:=Lib.hid (nameB_no (s:=s) (by omega));clear h1;go_wp2_with fail;go_ret;exact⟨by rw[HF.out];rfl,Grew.refl _⟩
 have t1:decide ((s.size:Int)<1)=false:=by simp;omega
 by_cases h2:(16:Int)<(s.size:Int)
 ·have t2:decide ((16:Int)<(s.size:Int))=true:=by simpa using h2
  have HF:=Lib.hid (nameB_no (s:=s) (by omega));clear h1 h2;go_wp2_with fail;go_ret;exact⟨by rw[HF.out];rfl,Grew.refl _⟩
 have t2:decide ((16:Int)<(s.size:Int))=false:=by simp;omega
 have HL:=Lib.hid (show 1≤s.size∧s.size≤16 by omega);clear h1 h2;go_wp2_with fail;go_loopw [3] (fun _ wr=>∃(p:Nat),p≤s.size∧wr=w.iter s p∧∀i (h:i<s.size),i<p→nameC i (s[i]'h).toNat=true) (fun _ wr=>s.size-itPos wr w.heap.size)
 case atStart=>exact⟨0,by omega,rfl,fun i _ h=>by omega⟩
 case round=>
  obtain⟨p,hp,rfl,hinv⟩:=hrel;have HI:=Lib.hid hinv;clear hinv;by_cases hlt:p<s.size
  ·have hb:=H3.out p hlt;have hnx:=fun ty=>run_next_ascii (P:=Tryz.prog) w s p ty hlt hb
   obtain⟨b,hbe⟩:∃b,(s[p]'hlt).toNat=b:=⟨_,rfl⟩;rw[hbe]at hnx hb;have HBE:=Lib.hid hbe;have HLT:=Lib.hid hlt;have hnext:nameC p b=true→∀i (h:i<s.size),i<p+1→nameC i (s[i]'h).toNat=true:=fun hc i h hi=>by
    by_cases he:i=p
    ·subst he;rw[hbe];exact hc
    exact HI.out i h (by omega)
   have HX:=Lib.hid hnext;clear hbe hnext;by_cases hl:97≤b∧b≤122
   ·have t3:decide ((97:Int)≤(b:Int))=true:=by simp;omega
    have t4:decide ((b:Int)≤122)=true:=by simp;omega
    have HC:=Lib.hid (HX.out (by unfold nameC;simp;omega));clear hl;go_wp2_with fail;go_roundw
    case rel=>exact⟨p+1,by omega,rfl,HC.out⟩
    case measure=>rw[itPos_iter,itPos_iter];omega
   have t34:∃q1 q2:Bool,decide ((97:Int)≤(b:Int))=q1∧decide ((b:Int)≤122)=q2∧(q1&&q2)=false:=⟨_,_,rfl,rfl,by rw[Bool.and_eq_false_iff];simp;omega⟩;obtain⟨q1,q2,t3,t4,hq⟩:=t34;by_cases hp0:p=0
   ·subst hp0;have HF:=Lib.hid (nameB_bad HBE.out (show nameC 0 b=false by unfold nameC;simp;omega));clear hl;rcases q1 with _|_<;>rcases q2 with _|_<;>(try cases hq)<;>(go_wp2_with fail;go_ret;exact⟨by rw[HF.out];rfl,grew_iter w s _⟩)
   have tp:((p:Int)==0)=false:=by rw[beq_eq_false_iff_ne];omega
   by_cases h95:b=95
   ·have t5:((b:Int)==95)=true:=by rw[beq_iff_eq];omega
    have t5':((b:Int) !=95)=false:=by rw[bne,t5];rfl
    have HC:=Lib.hid (HX.out (by unfold nameC;simp;omega));have t3':decide ((97:Int)≤(b:Int))=false:=by simp;omega
    obtain rfl:q1=false:=by rw[←t3,t3']
    clear hl h95 hp0 t3' hq;go_wp2_with fail;go_roundw
    case rel=>exact⟨p+1,by omega,rfl,HC.out⟩
    case measure=>rw[itPos_iter,itPos_iter];omega
   have t5:((b:Int)==95)=false:=by rw[beq_eq_false_iff_ne];omega
   have t5':((b:Int) !=95)=true:=by rw[bne,t5];rfl
   by_cases h48:48≤b∧b≤57
   ·have t6:decide ((b:Int)<48)=false:=by simp;omega
    have t7:decide ((57:Int)<(b:Int))=false:=by simp;omega
    have HC:=Lib.hid (HX.out (by unfold nameC;simp;omega));have t3':decide ((97:Int)≤(b:Int))=false:=by simp;omega
    obtain rfl:q1=false:=by rw[←t3,t3']
    clear hl h95 hp0 t3' hq h48;go_wp2_with fail;go_roundw
    case rel=>exact⟨p+1,by omega,rfl,HC.out⟩
    case measure=>rw[itPos_iter,itPos_iter];omega
   have HF:=Lib.hid (nameB_bad HBE.out (show nameC p b=false by unfold nameC;simp;omega));have t67:∃q3 q4:Bool,decide ((b:Int)<48)=q3∧decide ((57:Int)<(b:Int))=q4∧(q3||q4)=true:=⟨_,_,rfl,rfl,by rw[Bool.or_eq_true];simp;omega⟩;obtain⟨q3,q4,t6,t7,hq4⟩:=t67;clear hl h95 hp0 h48;rcases q1 with _|_<;>rcases q2 with _|_<;>(try cases hq)<;>rcases q3 with _|_<;>rcases q4 with _|_<;>(try cases hq4)<;>(go_wp2_with fail;go_ret;exact⟨by rw[HF.out];rfl,grew_iter w s _⟩)
  have hnx:=fun ty=>run_next_end (P:=Tryz.prog) w s p ty hlt
  have HT:=Lib.hid ((nameB_iff s).2 ⟨HL.out,fun i h=>HI.out i h (by omega)⟩);go_wp2_with fail;go_ret;exact⟨by rw[HT.out];rfl,grew_iter w s p⟩
theorem value_any (s:ByteArray) (hs:Asc s) (w:World):Calls Tryz.prog 105 #[.string s] w fun e w'=>e= .returned (.bool (valueB s))∧Grew w w':=by
 have H3:=Lib.hid hs;clear hs;go_enter Tryz.func105,Tryz.ntmps105;by_cases h2:(16:Int)<(s.size:Int)
 ·have t2:decide ((16:Int)<(s.size:Int))=true:=by simpa using h2
  have HF:=Lib.hid (show valueB s=false by
   rcases hb:valueB s
   ·rfl
   have:=((valueB_iff s).1 hb).1;omega)
  clear h2;go_wp2_with fail;go_ret;exact⟨by rw[HF.out];rfl,Grew.refl _⟩
 have t2:decide ((16:Int)<(s.size:Int))=false:=by simp;omega
 have HL:=Lib.hid (show s.size≤16 by omega);clear h2;go_wp2_with fail;go_loopw [4] (fun _ wr=>∃(p:Nat),p≤s.size∧wr=w.iter s p∧∀i (h:i<s.size),i<p→valueC (s[i]'h).toNat=true) (fun _ wr=>s.size-itPos wr w.heap.size)
 case atStart=>exact⟨0,by omega,rfl,fun i _ h=>by omega⟩
 case round=>
  obtain⟨p,hp,rfl,hinv⟩:=hrel;have HI:=Lib.hid hinv;clear hinv;by_cases hlt:p<s.size
  ·have hb:=H3.out p hlt;have hnx:=fun ty=>run_next_ascii (P:=Tryz.prog) w s p ty hlt hb
   obtain⟨b,hbe⟩:∃b,(s[p]'hlt).toNat=b:=⟨_,rfl⟩;rw[hbe]at hnx hb;have HBE:=Lib.hid hbe;have HLT:=Lib.hid hlt;have hnext:valueC b=true→∀i (h:i<s.size),i<p+1→valueC (s[i]'h).toNat=true:=fun hc i h hi=>by
    by_cases he:i=p
    ·subst he;rw[hbe];exact hc
    exact HI.out i h (by omega)
   have HX:=Lib.hid hnext;clear hbe hnext;by_cases hok:valueC b=true
   ·have HC:=Lib.hid (HX.out hok);simp[valueC]at hok;have t3:decide ((b:Int)<33)=false:=by simp;omega
    have t4:decide ((126:Int)<(b:Int))=false:=by simp;omega
    have e1:((b:Int)==34)=false:=by rw[beq_eq_false_iff_ne];omega
    have e2:((b:Int)==92)=false:=by rw[beq_eq_false_iff_ne];omega
    have e3:((b:Int)==44)=false:=by rw[beq_eq_false_iff_ne];omega
    have e4:((b:Int)==123)=false:=by rw[beq_eq_false_iff_ne];omega
    have e5:((b:Int)==125)=false:=by rw[beq_eq_false_iff_ne];omega
    clear hok;go_wp2_with fail;go_roundw
    case rel=>exact⟨p+1,by omega,rfl,HC.out⟩
    case measure=>rw[itPos_iter,itPos_iter];omega
   have hok:valueC b=false:=by simpa using hok
   have HF:=Lib.hid (valueB_bad HBE.out hok);by_cases t3:(b:Int)<33
   ·have t3:decide ((b:Int)<33)=true:=by simpa using t3
    clear hok;go_wp2_with fail;go_ret;exact⟨by rw[HF.out];rfl,grew_iter w s _⟩
   have t3':decide ((b:Int)<33)=false:=by simpa using t3
   by_cases t4:(126:Int)<(b:Int)
   ·have t4:decide ((126:Int)<(b:Int))=true:=by simpa using t4
    clear hok t3;go_wp2_with fail;go_ret;exact⟨by rw[HF.out];rfl,grew_iter w s _⟩
   have t4':decide ((126:Int)<(b:Int))=false:=by simpa using t4
   have hor:b=34∨b=92∨b=44∨b=123∨b=125:=by simp[valueC]at hok;omega
   clear hok t3 t4 t3' t4' hb HX HI HLT HBE;rcases hor with rfl|rfl|rfl|rfl|rfl<;>(go_wp2_with fail;go_ret;exact⟨by rw[HF.out];rfl,grew_iter w s _⟩)
  have hnx:=fun ty=>run_next_end (P:=Tryz.prog) w s p ty hlt
  have HT:=Lib.hid ((valueB_iff s).2 ⟨HL.out,fun i h=>HI.out i h (by omega)⟩);go_wp2_with fail;go_ret;exact⟨by rw[HT.out];rfl,grew_iter w s p⟩
theorem matcher_any (m:Mt) (h1:Asc m.1) (h2:Asc m.2.2) (w:World):Calls Tryz.prog 91 #[.agg (mcells m).toArray] w fun e w'=>e= .returned (.bool (matcherB m))∧Grew w w':=by
 obtain⟨a,k,c⟩:=m;have hb:=Box.new w 65 ([.string a,.int .i64 k,.string c]:List Value).toArray;have hG:=(Grew.refl w).alloc (.cells ([.string a,.int .i64 k,.string c]:List Value).toArray 65);change Calls Tryz.prog 91 #[.agg ([.string a,.int .i64 k,.string c]:List Value).toArray] w _;go_enter Tryz.func91,Tryz.ntmps91;go_upto_region 1 with fail;change Code.wp _ _ _ _ (w.alloc (.cells ([.string a,.int .i64 k,.string c]:List Value).toArray 65));generalize w.alloc (.cells ([.string a,.int .i64 k,.string c]:List Value).toArray 65)=w1 at*;have c0:w1.cell? ⟨w.heap.size,0,none⟩=some (.string a):=hb.cell 0;have c1:w1.cell? ⟨w.heap.size,1,none⟩=some (.int .i64 k):=hb.cell 1;have c2:w1.cell? ⟨w.heap.size,2,none⟩=some (.string c):=hb.cell 2;have HG:=Lib.hid hG;have HB:=Lib.hid hb;clear hG hb;have HNm:=Lib.hid (fun w'=>name_any a h1 w');have HVl:=Lib.hid (fun w'=>value_any c h2 w');by_cases hk:0≤k∧k≤2
 ·have hv:∀q1 q2:Bool,nameB a=q1→valueB c=q2→matcherB (a,k,c)=(q1&&q2):=fun q1 q2 e1 e2=>by unfold matcherB;rw[e1,e2,decide_eq_true hk,Bool.and_true]
  obtain⟨q1,hq1⟩:∃q,nameB a=q:=⟨_,rfl⟩;obtain⟨q2,hq2⟩:∃q,valueB c=q:=⟨_,rfl⟩;have HV:=Lib.hid (hv q1 q2 hq1 hq2);rw[hq1]at HNm;rw[hq2]at HVl;have HK:k=0∨k=1∨k=2:=by omega
  clear hv hq1 hq2 hk h1 h2;rcases HK with rfl|rfl|rfl<;>rcases q1 with _|_<;>(
   go_wp2_with(first|(go_at_call 89;refine(HNm.out _).mono ?_;rintro e3 w3 ⟨rfl,k3⟩;have d2:w3.cell? ⟨w.heap.size,2,none⟩=some (.string c):=(HB.out.grew k3).cell 2)|(go_at_call 105;refine(HVl.out _).mono ?_;rintro e4 w4 ⟨rfl,k4⟩));go_ret;refine⟨by rw[HV.out];rfl,?_⟩
   first|exact(HG.out.trans k3).trans k4|exact HG.out.trans k3)
 have HV:=Lib.hid (show matcherB (a,k,c)=false by unfold matcherB;rw[decide_eq_false hk];simp);have k0:(k==0)=false:=by rw[beq_eq_false_iff_ne];omega
 have k1:(k==1)=false:=by rw[beq_eq_false_iff_ne];omega
 have k2:(k==2)=false:=by rw[beq_eq_false_iff_ne];omega
 clear hk h1 h2;go_wp2_with fail;go_ret;exact⟨by rw[HV.out];rfl,HG.out⟩
def Txt (s:ByteArray):Prop:=Asc s∧s.size≤1000
def TxtE (e:Ex):Prop:=Txt e.name∧(∀m∈e.ms,Txt m.1∧Txt m.2.2)∧(∀s∈e.bys,Txt s)∧e.ms.length≤1000∧e.bys.length≤1000
def badName (e:Ex):Bool:=decide (e.kind=1)&&(!nameB e.name||hasB groupL e.name)
theorem namedB_eq (e:Ex):namedB e=(!badName e&&e.ms.all matcherB&&bysB e.bys):=by
 unfold namedB badName groupB hasB;by_cases h:e.kind=1<;>simp[h]
theorem named_name {e:Ex} (h:badName e=true):namedB e=false:=by rw[namedB_eq,h];rfl
theorem named_ms {e:Ex} {m:Mt} (hm:m∈e.ms) (h:matcherB m=false):namedB e=false:=by
 rw[namedB_eq,show e.ms.all matcherB=false from List.all_eq_false.2 ⟨m,hm,by rw[h];simp⟩];simp
theorem named_by {e:Ex} {j:Nat} (hj:j<e.bys.length) (h:byB e.bys j=false):namedB e=false:=by
 rw[namedB_eq,show bysB e.bys=false from List.all_eq_false.2 ⟨j,List.mem_range.2 hj,by rw[h];simp⟩];simp
theorem named_ok {e:Ex} (h1:badName e=false) (h2:∀m∈e.ms,matcherB m=true) (h3:∀j,j<e.bys.length→byB e.bys j=true):namedB e=true:=by
 rw[namedB_eq,h1,List.all_eq_true.2 h2,show bysB e.bys=true from List.all_eq_true.2 fun j hj=>h3 j (List.mem_range.1 hj)];rfl
theorem byB_zero {l:List ByteArray} {s:ByteArray} (h:l[0]? =some s):byB l 0=nameB s:=by
 unfold byB;rw[h];simp
theorem byB_succ {l:List ByteArray} {k:Nat} {s r:ByteArray} (h:l[k+1]? =some s) (h2:l[k]? =some r):byB l (k+1)=(nameB s&& !leB s r):=by
 unfold byB;rw[h];simp only[h2]
theorem mcells_ones (m:Mt):∀v∈mcells m,v.oneCell'=true:=by
 intro v hv;simp[mcells]at hv;rcases hv with rfl|rfl|rfl<;>rfl
def zeroM:List Value:=[.string ⟨#[]⟩,.int .i64 0,.string ⟨#[]⟩]
end Go.Proofs.YtcimmbhdcebehaaGreatDoor
