/- What the card of the law stands on: Build, KeyA, LabV, Names, NamesV, NamesR, Match, NamedPl. -/
import Derived.Test.YtkclnhpofkaclaaGreatDoorRewriteFoldP01
import Derived.Test.YtkclnhpofkaclaaGreatDoorRewriteFoldP15
import Derived.Lib.Builder
import Derived.Laws.Externs
import Derived.Lib.UnsafeStr
import Derived.StillTailTactics
import Derived.Laws.RangeString
import Derived.Test.YtkclnhpofkaclaaGreatDoorRewriteFoldP10
import Derived.Test.YtkclnhpofkaclaaGreatDoorRewriteFoldP13
import Derived.Test.YtkclnhpofkaclaaGreatDoorRewriteFoldP11
set_option maxRecDepth 100000
set_option maxHeartbeats 12800000
set_option linter.unusedVariables false
set_option linter.unusedSimpArgs false
namespace Go.Proofs.YtkclnhpofkaclaaGreatDoor
open Go.RowKit Pl
structure SB (w:World) (base g:Nat) (p v:Value) (bs:List Nat):Prop where
 box:AK w g 100 #[p,v]
 row:Bf w base 5 v (bs.map vb)
 self:p= .pointer none∨p= .pointer (some ⟨g,0,none⟩)
theorem SB.cells {w:World} {base g:Nat} {p v:Value} {bs:List Nat} (h:SB w base g p v bs):w.cell? ⟨g,0,none⟩=some p∧w.cell? ⟨g,1,none⟩=some v:=⟨h.box.cell 0,h.box.cell 1⟩
theorem Rp:∃j,Tryz.prog.info? 100=some j∧j.size=2:=by
 have h:(Tryz.prog.info? 100).map (·.size)=some 2:=by kernel_rfl
 cases hj:Tryz.prog.info? 100 with
 |none=>rw[hj]at h;cases h
 |some j=>rw[hj]at h;exact⟨j,rfl,by simpa using h⟩
theorem ND {w:World} {base g:Nat} {p v:Value} {bs:List Nat} (h:SB w base g p v bs):w.shape? g=some (100,2):=by
 have:=h.box;unfold AK at this;simp[World.shape?,this]
theorem Fl (g base:Nat) (p v:Value) (bs:List Nat) (w:World) (h:SB w base g p v bs):
  Calls Tryz.prog 157 #[.pointer (some ⟨g,0,none⟩)] w fun e w'=>e= .returned (.tuple #[])∧SB w' base g (.pointer (some ⟨g,0,none⟩)) v bs∧G8 g w w':=by
 obtain⟨c0,c1⟩:=h.cells;obtain⟨j,hj,hj2⟩:=Rp;have hne:=fun w'=>Lib.run_neq_ptr_same (P:=Tryz.prog) w' ⟨g,0,none⟩ Tryz.underlying97 hj
 have hto:=Lib.run_to_unsafe (P:=Tryz.prog) w (src:=97) (dst:=168) ⟨g,0,none⟩ Tryz.underlying97 Tryz.underlying168 hj (by omega) (ND h) (Nat.zero_lt_succ 1);have hfrom:=Lib.run_from_unsafe (P:=Tryz.prog) w (src:=168) (dst:=97) ⟨g,0,none⟩ Tryz.underlying168 Tryz.underlying97 hj (ND h) (by kernel_rfl);have hne2:∀w',(callFunc 173 #[.pointer (some ⟨g,0,none⟩)]).run Tryz.prog w'= .ok (.value (.pointer (some ⟨g,0,none⟩))) w':=fun w'=>by
  rw[run_callFunc_extern Tryz.func173 (by kernel_rfl) (by kernel_rfl) (by kernel_rfl) (e:=Extern.AbiNoEscape.same) (by kernel_rfl),Lib.run_noEscape];rfl
 have H:=UX h;have f0:=h.box.frozen 0;have hs:=h.self;clear h;rcases hs with rfl|rfl
 ·go_enter Tryz.func157,Tryz.ntmps157;go_wp2_with fail;go_end0;exact⟨rfl,⟨by simpa using H.out.box.set_ 0 _,H.out.row.far (fun e=>H.out.row.ne_box e H.out.box (by decide) rfl) _,.inr rfl⟩,G8.set g _ 0 _⟩
 go_enter Tryz.func157,Tryz.ntmps157;go_wp2_with fail;go_end0;exact⟨rfl,H.out,G8.refl _ _⟩
theorem SB.step {w w1:World} {base g:Nat} {p v v':Value} {bs ys:List Nat} (h:SB w base g p v bs) (hm:Bf w1 base 5 v' ((bs++ys).map vb)) (hk:A4 (fun i=>v.ownBlock=some i) w w1):
  SB (w1.setCell ⟨g,1,none⟩ v') base g p v' (bs++ys)∧IG g v w (w1.setCell ⟨g,1,none⟩ v'):=by
 have hg1:¬v.ownBlock=some g:=fun e=>h.row.ne_box e h.box (by decide) rfl
 have hbox:=h.box.keep hk hg1;refine⟨⟨by simpa using hbox.set_ 1 v',hm.far (fun e=>hm.ne_box e hbox (by decide) rfl) _,h.self⟩,?_⟩;exact(A4.mono hk (fun i _ e=> .inr e)).setCell (.inl (.inl rfl)) _
theorem SB.keepsB {w w':World} {base g:Nat} {p v:Value} {bs:List Nat} (h:SB w base g p v bs) (hg:base≤g) (hk:IG g v w w'):A4 (fun i=>base≤i) w w':=A4.mono hk (fun i _ e=>by
 rcases e with e|e
 ·rw[e];exact hg
 exact(h.row.lt i e).1)
theorem AK.keepSB {w w':World} {base g:Nat} {p v:Value} {bs:List Nat} {k:Nat} {t:TypeId} {xs:Array Value} (hb:AK w k t xs) (h:SB w base g p v bs) (hk:IG g v w w') (h1:t≠100) (h2:t≠5):AK w' k t xs:=hb.keep hk (fun e=>by
 rcases e with e|e
 ·exact hb.ne_ h.box h1 e
 exact h.row.ne_box e hb (fun e1=>h2 e1.symm) rfl)
theorem KZ {S:Nat→Prop} (w:World) (p:Addr) (n:Nat) (hp:S p.block):A4 S w (w.freeze p n):=by
 unfold World.freeze;split
 ·exact Uz _ _
 exact⟨rfl,rfl,rfl,by simp,fun k hk hn=>by
  simp only[Array.getElem?_modify];rw[Un (fun e=>hn (by rw[←e];exact hp))]⟩
theorem Kc (g base:Nat) (p v:Value) (bs:List Nat) (w:World) (h:SB w base g p v bs) (h0:0<bs.length) (hB:Bytes bs) (hl:bs.length<900000000):
  Calls Tryz.prog 83 #[.pointer (some ⟨g,0,none⟩)] w fun e w'=>∃s,e= .returned (.string s)∧bl s=bs∧A4 (fun i=>base≤i) w w':=by
 obtain⟨c0,c1⟩:=h.cells;obtain⟨l,hlu⟩:∃l:List UInt8,l.map UInt8.toNat=bs:=⟨bs.map UInt8.ofNat,by
  rw[List.map_map]
  conv=>rhs;rw[←List.map_id bs]
  apply List.map_congr_left;intro x hx;have:=hB x hx;simp[Nat.mod_eq_of_lt this]⟩
 have hll:l.length=bs.length:=by rw[←hlu,List.length_map]
 rcases h.row.form with⟨_,hn⟩|⟨r,cap,cur,rfl,hbr,hbox,h1,h2,h3,h4⟩
 ·have:=congrArg List.length hn;rw[List.length_map,List.length_nil]at this;omega
 rw[List.length_map]at h1;have hcells:∀(W:World),W.heap=w.heap→∀j x,l[j]? =some x→W.cell? ((⟨r,0,none⟩:Addr).add j)=some (.int .u8 x.toNat):=by
  intro W hW j x hx;have hj:j<bs.length:=by rw[←hll];exact(Uh.1 hx).1
  have:=h.row.cellAt (j:=j) (by rw[List.length_map];exact hj);rw[Lo,Nat.zero_add,World.cell?_of_block (a:=⟨r,j,none⟩) (w:=w) (w':=W) (by rw[hW]),this];simp only[List.getElem_map];have hx2:bs[j]=x.toNat:=by
   have e1:bs[j]? =some x.toNat:=by rw[←hlu,List.getElem?_map,hx];rfl
   rw[Uc hj]at e1;exact Uf e1
  rw[hx2];rfl
 have hsd:=fun W=>Lib.run_unsafeSliceData_row (P:=Tryz.prog) W #[98] 140 ⟨r,0,none⟩ bs.length cap (by omega)
 have hsh:w.drew.shape? r=some (5,cap):=by
  have hbx:w.drew.heap[r]? =some (.cells cur 5 (0,0)):=hbox;simp[World.shape?,hbx,h3]
 have hus:=Lib.run_unsafeString_row (P:=Tryz.prog) w.drew 140 3 9 5 Tryz.underlying140 (by kernel_rfl) r cap hsh l (fun e=>by rw[e]at hll;simp at hll;omega) (by omega) (by omega) (hcells w.drew rfl);rw[hll]at hus;have hfin:bl ⟨l.toArray⟩=bs:=by unfold bl;simpa using hlu
 have hkf:A4 (fun i=>base≤i) w (w.drew.freeze ⟨r,0,none⟩ bs.length):=Uw (Uy (Uz _ w)) (KZ w.drew ⟨r,0,none⟩ bs.length hbr) (fun i _ e=>e);have HF:=UX hfin;have HK:=UX hkf;rw[List.length_map]at c1;generalize bs.length=n at*;clear hcells hsh hlu hll h2 h3 h4 h1 hbox h hfin hkf;go_enter Tryz.func83,Tryz.ntmps83;go_upto_region 1 with fail;go_still_tail 10,(by kernel_rfl);change wpList _ _ _ _ _ w.drew;go_wp2_with fail;go_ret;exact⟨_,rfl,HF.out,HK.out⟩
theorem J4 (g base:Nat) (p v:Value) (bs:List Nat) (c:Nat) (w:World) (h:SB w base g p v bs) (hl:bs.length<900000000) (hb:base≤w.heap.size):
  Calls Tryz.prog 156 #[.pointer (some ⟨g,0,none⟩),.int .u8 (c:Nat)] w fun e w'=>e= .returned .nilIface∧∃p' v',SB w' base g p' v' (bs++[c])∧IG g v w w':=by
 have HC:=UX (Fl g base p v bs w h);clear h;go_enter Tryz.func156,Tryz.ntmps156;go_wp2_with fail;refine HC.out.mono ?_;rintro e w2 ⟨rfl,h2,k2⟩;obtain⟨c0,c1⟩:=h2.cells;have f1:=h2.box.frozen 1;obtain⟨A2,n2,c2,rfl, -⟩:=h2.row.slice;have hs2:=k2.size;have hlt:=h2.box.lt;go_wp2_with(at_builtin;refine NH Sz rfl (.tmp 11) (.tmp 13) rfl rfl (h2.row.alloc _) w2.heap.size 1 (.int .u8 (c:Nat)) rfl (Ua _) (by simp) (by simp) rfl (by simp;omega) (by simp;omega) ?_;intro r cap w3 hM3 hk3 hr3 hbr3 hlr3;obtain⟨q2,hq2⟩:∃q2,q2=(bs.map vb).length+1:=⟨_,rfl⟩;rw[←hq2]at hM3 ⊢;clear hq2;have hb3:=(h2.box.alloc _).keep hk3 (fun e=>h2.row.ne_box e h2.box (by decide) rfl);have k0:=hb3.cell 1;have e0:=hb3.frozen 1;simp only[List.getElem?_toArray,List.getElem?_cons_zero,List.getElem?_cons_succ]at k0;clear c0 c1 f1);go_ret;have hS:=SB.step (w:=w2.alloc (.cells #[.int .u8 (c:Nat)] 5)) (ys:=[c]) ⟨h2.box.alloc _,h2.row.alloc _,h2.self⟩ (by rw[List.map_append];exact hM3) hk3;exact⟨rfl,_,_,hS.1,Uw (A4.alloc (A4.mono k2 (fun i _ e=> .inl e)) _) hS.2 (fun i _ e=>e)⟩
theorem Hu (g base:Nat) (p v:Value) (bs:List Nat) (s:ByteArray) (w:World) (h:SB w base g p v bs) (hl:bs.length<900000000) (hs:s.size≤1000000) (hb:base≤w.heap.size):
  Calls Tryz.prog 125 #[.pointer (some ⟨g,0,none⟩),.string s] w fun e w'=>(∃u,e= .returned u)∧∃p' v',SB w' base g p' v' (bs++bl s)∧IG g v w w':=by
 have HC:=UX (Fl g base p v bs w h);clear h;go_enter Tryz.func125,Tryz.ntmps125;go_wp2_with fail;refine HC.out.mono ?_;rintro e w2 ⟨rfl,h2,k2⟩;obtain⟨c0,c1⟩:=h2.cells;have f1:=h2.box.frozen 1;obtain⟨A2,n2,c2,rfl, -⟩:=h2.row.slice;have hs2:=k2.size;go_wp2_with(at_builtin;refine R9 rfl (.tmp 12) (.tmp 13) rfl rfl h2.row s rfl (by omega) (by omega) ?_;intro A3 m3 c3 w3 hM3 hk3;have hb3:=h2.box.keep hk3 (fun e=>h2.row.ne_box e h2.box (by decide) rfl);have k0:=hb3.cell 1;have e0:=hb3.frozen 1;simp only[List.getElem?_toArray,List.getElem?_cons_zero,List.getElem?_cons_succ]at k0;clear c0 c1 f1);go_ret2;have hS:=SB.step h2 (ys:=bl s) hM3 hk3;exact⟨⟨_,rfl⟩,_,_,hS.1,Uw (A4.mono k2 (fun i _ e=> .inl e)) hS.2 (fun i _ e=>e)⟩
def UO (w:World) (v:Value) (ls:List (ByteArray×ByteArray)):Prop:=
 (∀p∈ls,p.1.size≤16∧p.2.size≤16)∧∃A c,v= .slice A ls.length c∧(0<ls.length→∃b,A=some ⟨b,0,none⟩∧b<w.heap.size∧∀j p,ls[j]? =some p→w.cell? ⟨b,j*2,none⟩=some (.string p.1)∧w.cell? ⟨b,j*2+1,none⟩=some (.string p.2))
def Tv:List (List (ByteArray×ByteArray)):=[[],[(⟨#[104,111,115,116]⟩,⟨#[97]⟩)],[(⟨#[104,111,115,116]⟩,⟨#[98]⟩)],[(⟨#[104,111,115,116]⟩,⟨#[98]⟩),(⟨#[122,111,110,101]⟩,⟨#[120]⟩)]]
def UR (s:ByteArray):Prop:=1≤s.size∧s.size≤16∧∀i (h:i<s.size),97≤(s[i]'h).toNat∧(s[i]'h).toNat≤122
def N9 (w:World) (g:Nat):Nat:=match w.heap[g]? with|some (.stringIter _ p)=>p|_=>0
theorem CL (w:World) (s:ByteArray) (p:Nat):N9 (w.iter s p) w.heap.size=p:=by unfold N9;rw[World.iter_heap]
theorem D6 (w:World) (s:ByteArray) (p:Nat):A5 w (w.iter s p):=(Uv w).alloc _
def Ib (s:ByteArray):Prop:=∀i (h:i<s.size),(s[i]'h).toNat<128
theorem FJ (s:ByteArray):CI s=true↔(1≤s.size∧s.size≤16)∧∀i (h:i<s.size),Bg i (s[i]'h).toNat=true:=by
 unfold CI;rw[Bool.and_eq_true,decide_eq_true_iff,List.all_eq_true];constructor
 ·rintro⟨h1,h2⟩;refine⟨h1,fun i h=>?_⟩;have:=h2 i (List.mem_range.2 h);rwa[getElem!_pos s i h]at this
 rintro⟨h1,h2⟩;refine⟨h1,fun i hi=>?_⟩;have h:=List.mem_range.1 hi;have:=h2 i h;rwa[getElem!_pos s i h]
theorem Dn (s:ByteArray):Cb s=true↔s.size≤16∧∀i (h:i<s.size),CS (s[i]'h).toNat=true:=by
 unfold Cb;rw[Bool.and_eq_true,decide_eq_true_iff,List.all_eq_true];constructor
 ·rintro⟨h1,h2⟩;refine⟨h1,fun i h=>?_⟩;have:=h2 i (List.mem_range.2 h);rwa[getElem!_pos s i h]at this
 rintro⟨h1,h2⟩;refine⟨h1,fun i hi=>?_⟩;have h:=List.mem_range.1 hi;have:=h2 i h;rwa[getElem!_pos s i h]
theorem Gc {s:ByteArray} (h:¬(1≤s.size∧s.size≤16)):CI s=false:=by
 rcases hb:CI s
 ·rfl
 exact absurd ((FJ s).1 hb).1 h
theorem Cn {s:ByteArray} {i:Nat} {h:i<s.size} {c:Nat} (hc:(s[i]'h).toNat=c) (hb:Bg i c=false):CI s=false:=by
 rcases hn:CI s
 ·rfl
 have:=((FJ s).1 hn).2 i h;rw[hc,hb]at this;cases this
theorem J0 {s:ByteArray} {i:Nat} {h:i<s.size} {c:Nat} (hc:(s[i]'h).toNat=c) (hb:CS c=false):Cb s=false:=by
 rcases hn:Cb s
 ·rfl
 have:=((Dn s).1 hn).2 i h;rw[hc,hb]at this;cases this
theorem IF (s:ByteArray) (hs:Ib s) (w:World):Calls Tryz.prog 87 #[.string s] w fun e w'=>e= .returned (.bool (CI s))∧A5 w w':=by
 have H3:=UX hs;clear hs;go_enter Tryz.func87,Tryz.ntmps87;by_cases h1:(s.size:Int)<1
 ·have t1:decide ((s.size:Int)<1)=true:=by simpa using h1
  have HF:=UX (Gc (s:=s) (by omega));clear h1;go_wp2_with fail;go_ret;exact⟨by rw[HF.out];rfl,Uv _⟩
 have t1:decide ((s.size:Int)<1)=false:=by simp;omega
 by_cases h2:(16:Int)<(s.size:Int)
 ·have t2:decide ((16:Int)<(s.size:Int))=true:=by simpa using h2
  have HF:=UX (Gc (s:=s) (by omega));clear h1 h2;go_wp2_with fail;go_ret;exact⟨by rw[HF.out];rfl,Uv _⟩
 have t2:decide ((16:Int)<(s.size:Int))=false:=by simp;omega
 have HL:=UX (show 1≤s.size∧s.size≤16 by omega);clear h1 h2;go_wp2_with fail;go_loopw [3] (fun _ wr=>∃(p:Nat),p≤s.size∧wr=w.iter s p∧∀i (h:i<s.size),i<p→Bg i (s[i]'h).toNat=true) (fun _ wr=>s.size-N9 wr w.heap.size)
 case atStart=>exact⟨0,by omega,rfl,fun i _ h=>by omega⟩
 case round=>
  obtain⟨p,hp,rfl,hinv⟩:=hrel;have HI:=UX hinv;clear hinv;by_cases hlt:p<s.size
  ·have hb:=H3.out p hlt;have hnx:=fun ty=>run_next_ascii (P:=Tryz.prog) w s p ty hlt hb
   obtain⟨b,hbe⟩:∃b,(s[p]'hlt).toNat=b:=⟨_,rfl⟩;rw[hbe]at hnx hb;have HBE:=UX hbe;have HLT:=UX hlt;have hnext:Bg p b=true→∀i (h:i<s.size),i<p+1→Bg i (s[i]'h).toNat=true:=fun hc i h hi=>by
    by_cases he:i=p
    ·subst he;rw[hbe];exact hc
    exact HI.out i h (by omega)
   have HX:=UX hnext;clear hbe hnext;by_cases hl:97≤b∧b≤122
   ·have t3:decide ((97:Int)≤(b:Int))=true:=by simp;omega
    have t4:decide ((b:Int)≤122)=true:=by simp;omega
    have HC:=UX (HX.out (by unfold Bg;simp;omega));clear hl;go_wp2_with fail;go_roundw
    case rel=>exact⟨p+1,by omega,rfl,HC.out⟩
    case measure=>rw[CL,CL];omega
   have t34:∃q1 q2:Bool,decide ((97:Int)≤(b:Int))=q1∧decide ((b:Int)≤122)=q2∧(q1&&q2)=false:=⟨_,_,rfl,rfl,by rw[Bool.and_eq_false_iff];simp;omega⟩;obtain⟨q1,q2,t3,t4,hq⟩:=t34;by_cases hp0:p=0
   ·subst hp0;have HF:=UX (Cn HBE.out (show Bg 0 b=false by unfold Bg;simp;omega));clear hl;rcases q1 with _|_<;>rcases q2 with _|_<;>(try cases hq)<;>(go_wp2_with fail;go_ret;exact⟨by rw[HF.out];rfl,D6 w s _⟩)
   have tp:((p:Int)==0)=false:=by rw[UY];omega
   by_cases h95:b=95
   ·have t5:((b:Int)==95)=true:=by rw[Ud];omega
    have t5':((b:Int) !=95)=false:=by rw[bne,t5];rfl
    have HC:=UX (HX.out (by unfold Bg;simp;omega));have t3':decide ((97:Int)≤(b:Int))=false:=by simp;omega
    obtain rfl:q1=false:=by rw[←t3,t3']
    clear hl h95 hp0 t3' hq;go_wp2_with fail;go_roundw
    case rel=>exact⟨p+1,by omega,rfl,HC.out⟩
    case measure=>rw[CL,CL];omega
   have t5:((b:Int)==95)=false:=by rw[UY];omega
   have t5':((b:Int) !=95)=true:=by rw[bne,t5];rfl
   by_cases h48:48≤b∧b≤57
   ·have t6:decide ((b:Int)<48)=false:=by simp;omega
    have t7:decide ((57:Int)<(b:Int))=false:=by simp;omega
    have HC:=UX (HX.out (by unfold Bg;simp;omega));have t3':decide ((97:Int)≤(b:Int))=false:=by simp;omega
    obtain rfl:q1=false:=by rw[←t3,t3']
    clear hl h95 hp0 t3' hq h48;go_wp2_with fail;go_roundw
    case rel=>exact⟨p+1,by omega,rfl,HC.out⟩
    case measure=>rw[CL,CL];omega
   have HF:=UX (Cn HBE.out (show Bg p b=false by unfold Bg;simp;omega));have t67:∃q3 q4:Bool,decide ((b:Int)<48)=q3∧decide ((57:Int)<(b:Int))=q4∧(q3||q4)=true:=⟨_,_,rfl,rfl,by rw[Bool.or_eq_true];simp;omega⟩;obtain⟨q3,q4,t6,t7,hq4⟩:=t67;clear hl h95 hp0 h48;rcases q1 with _|_<;>rcases q2 with _|_<;>(try cases hq)<;>rcases q3 with _|_<;>rcases q4 with _|_<;>(try cases hq4)<;>(go_wp2_with fail;go_ret;exact⟨by rw[HF.out];rfl,D6 w s _⟩)
  have hnx:=fun ty=>run_next_end (P:=Tryz.prog) w s p ty hlt
  have HT:=UX ((FJ s).2 ⟨HL.out,fun i h=>HI.out i h (by omega)⟩);go_wp2_with fail;go_ret;exact⟨by rw[HT.out];rfl,D6 w s p⟩
theorem O0 (s:ByteArray) (hs:Ib s) (w:World):Calls Tryz.prog 128 #[.string s] w fun e w'=>e= .returned (.bool (Cb s))∧A5 w w':=by
 have H3:=UX hs;clear hs;go_enter Tryz.func128,Tryz.ntmps128;by_cases h2:(16:Int)<(s.size:Int)
 ·have t2:decide ((16:Int)<(s.size:Int))=true:=by simpa using h2
  have HF:=UX (show Cb s=false by
   rcases hb:Cb s
   ·rfl
   have:=((Dn s).1 hb).1;omega)
  clear h2;go_wp2_with fail;go_ret;exact⟨by rw[HF.out];rfl,Uv _⟩
 have t2:decide ((16:Int)<(s.size:Int))=false:=by simp;omega
 have HL:=UX (show s.size≤16 by omega);clear h2;go_wp2_with fail;go_loopw [4] (fun _ wr=>∃(p:Nat),p≤s.size∧wr=w.iter s p∧∀i (h:i<s.size),i<p→CS (s[i]'h).toNat=true) (fun _ wr=>s.size-N9 wr w.heap.size)
 case atStart=>exact⟨0,by omega,rfl,fun i _ h=>by omega⟩
 case round=>
  obtain⟨p,hp,rfl,hinv⟩:=hrel;have HI:=UX hinv;clear hinv;by_cases hlt:p<s.size
  ·have hb:=H3.out p hlt;have hnx:=fun ty=>run_next_ascii (P:=Tryz.prog) w s p ty hlt hb
   obtain⟨b,hbe⟩:∃b,(s[p]'hlt).toNat=b:=⟨_,rfl⟩;rw[hbe]at hnx hb;have HBE:=UX hbe;have HLT:=UX hlt;have hnext:CS b=true→∀i (h:i<s.size),i<p+1→CS (s[i]'h).toNat=true:=fun hc i h hi=>by
    by_cases he:i=p
    ·subst he;rw[hbe];exact hc
    exact HI.out i h (by omega)
   have HX:=UX hnext;clear hbe hnext;by_cases hok:CS b=true
   ·have HC:=UX (HX.out hok);simp[CS]at hok;have t3:decide ((b:Int)<33)=false:=by simp;omega
    have t4:decide ((126:Int)<(b:Int))=false:=by simp;omega
    have e1:((b:Int)==34)=false:=by rw[UY];omega
    have e2:((b:Int)==92)=false:=by rw[UY];omega
    have e3:((b:Int)==44)=false:=by rw[UY];omega
    have e4:((b:Int)==123)=false:=by rw[UY];omega
    have e5:((b:Int)==125)=false:=by rw[UY];omega
    clear hok;go_wp2_with fail;go_roundw
    case rel=>exact⟨p+1,by omega,rfl,HC.out⟩
    case measure=>rw[CL,CL];omega
   have hok:CS b=false:=by simpa using hok
   have HF:=UX (J0 HBE.out hok);by_cases t3:(b:Int)<33
   ·have t3:decide ((b:Int)<33)=true:=by simpa using t3
    clear hok;go_wp2_with fail;go_ret;exact⟨by rw[HF.out];rfl,D6 w s _⟩
   have t3':decide ((b:Int)<33)=false:=by simpa using t3
   by_cases t4:(126:Int)<(b:Int)
   ·have t4:decide ((126:Int)<(b:Int))=true:=by simpa using t4
    clear hok t3;go_wp2_with fail;go_ret;exact⟨by rw[HF.out];rfl,D6 w s _⟩
   have t4':decide ((126:Int)<(b:Int))=false:=by simpa using t4
   have hor:b=34∨b=92∨b=44∨b=123∨b=125:=by simp[CS]at hok;omega
   clear hok t3 t4 t3' t4' hb HX HI HLT HBE;rcases hor with rfl|rfl|rfl|rfl|rfl<;>(go_wp2_with fail;go_ret;exact⟨by rw[HF.out];rfl,D6 w s _⟩)
  have hnx:=fun ty=>run_next_end (P:=Tryz.prog) w s p ty hlt
  have HT:=UX ((Dn s).2 ⟨HL.out,fun i h=>HI.out i h (by omega)⟩);go_wp2_with fail;go_ret;exact⟨by rw[HT.out];rfl,D6 w s p⟩
theorem J2 (b:Nat) (w:World):Calls Tryz.prog 134 #[.int .u8 b] w fun e w'=>e= .returned (.bool (decide (97≤b∧b≤122)))∧w'=w:=by
 go_enter Tryz.func134,Tryz.ntmps134;by_cases h1:97≤b
 ·have t1:decide ((97:Int)≤(b:Int))=true:=by simp;omega
  by_cases h2:b≤122
  ·have t2:decide ((b:Int)≤122)=true:=by simp;omega
   have HF:=UX (show decide (97≤b∧b≤122)=true by simp;omega);clear h1 h2;go_wp2_with fail;go_ret;exact⟨by rw[HF.out];rfl,rfl⟩
  have t2:decide ((b:Int)≤122)=false:=by simp;omega
  have HF:=UX (show decide (97≤b∧b≤122)=false by simp;omega);clear h1 h2;go_wp2_with fail;go_ret;exact⟨by rw[HF.out];rfl,rfl⟩
 have t1:decide ((97:Int)≤(b:Int))=false:=by simp;omega
 have HF:=UX (show decide (97≤b∧b≤122)=false by simp;omega);clear h1;go_wp2_with fail;go_ret;exact⟨by rw[HF.out];rfl,rfl⟩
theorem Hf (s:ByteArray) (w:World) (hsz:s.size≤1000000):Calls Tryz.prog 103 #[.string s] w fun e w'=>e= .returned (.bool (CI s))∧w'=w:=by
 go_enter Tryz.func103,Tryz.ntmps103;by_cases h1:(s.size:Int)<1
 ·have t1:decide ((s.size:Int)<1)=true:=by simpa using h1
  have HF:=UX (Gc (s:=s) (by omega));clear h1;go_wp2_with fail;go_ret;exact⟨by rw[HF.out];rfl,rfl⟩
 have t1:decide ((s.size:Int)<1)=false:=by simp;omega
 by_cases h2:(16:Int)<(s.size:Int)
 ·have t2:decide ((16:Int)<(s.size:Int))=true:=by simpa using h2
  have HF:=UX (Gc (s:=s) (by omega));clear h1 h2;go_wp2_with fail;go_ret;exact⟨by rw[HF.out];rfl,rfl⟩
 have t2:decide ((16:Int)<(s.size:Int))=false:=by simp;omega
 have HL:=UX (show 1≤s.size∧s.size≤16 by omega);clear h1 h2;go_wp2_with fail;go_loopw [3,4] (fun i _ wr=>∃(p:Nat),p≤s.size∧i= .int .i64 (p:Nat)∧w=wr∧∀i (h:i<s.size),i<p→Bg i (s[i]'h).toNat=true) (fun i _ _=>s.size-(intOf i).toNat)
 case atStart=>exact⟨0,by omega,rfl,rfl,fun i _ h=>by omega⟩
 case round=>
  obtain⟨p,hp,rfl,rfl,hinv⟩:=hrel;have HI:=UX hinv;clear hinv;by_cases hlt:p<s.size
  ·obtain⟨b,hbe⟩:∃b,(s[p]'hlt).toNat=b:=⟨_,rfl⟩;have hbu:b<256:=by rw[←hbe];exact(s[p]'hlt).toNat_lt
   have HBE:=UX hbe;have hnext:Bg p b=true→∀i (h:i<s.size),i<p+1→Bg i (s[i]'h).toNat=true:=fun hc i h hi=>by
    by_cases he:i=p
    ·subst he;rw[hbe];exact hc
    exact HI.out i h (by omega)
   have HX:=UX hnext;clear hnext;have LP:=hlt;by_cases hl:97≤b∧b≤122
   ·have HLet:=UX (show Calls Tryz.prog 134 #[.int .u8 b] w fun e w'=>e= .returned (.bool true)∧w'=w by have:=J2 b w;rwa[decide_eq_true hl]at this);have f48:decide ((48:Int)≤(b:Int))=true:=by simp;omega
    have f57:decide ((b:Int)≤57)=false:=by simp;omega
    have f95:((b:Int)==95)=false:=by rw[UY];omega
    have HC:=UX (HX.out (by unfold Bg;simp;omega));clear hl;go_wp2_with(go_at_call 134;refine HLet.out.mono ?_;rintro e3 w3 ⟨rfl,rfl⟩);go_roundw
    case rel=>exact⟨p+1,by omega,by go_num,by simp,HC.out⟩
    case measure=>simp[intOf];omega
   have HLet:=UX (show Calls Tryz.prog 134 #[.int .u8 b] w fun e w'=>e= .returned (.bool false)∧w'=w by have:=J2 b w;rwa[Uj hl]at this);have tp:((p:Int)==0)=decide (p=0):=by rw[Bool.eq_iff_iff,Ud,decide_eq_true_iff];omega
   by_cases hp0:p=0
   ·have tp0:((p:Int)==0)=true:=by rw[Ud];omega
    clear tp;rcases(show(48≤b∧b≤57)∨b=95∨b<48∨(57<b∧b≠95) by omega)with h5|h5|h5|h5
    ·have f48:decide ((48:Int)≤(b:Int))=true:=by simp;omega
     have f57:decide ((b:Int)≤57)=true:=by simp;omega
     have HF:=UX (Cn HBE.out (show Bg p b=false by unfold Bg;simp;omega));clear hl h5 hp0;go_wp2_with(go_at_call 134;refine HLet.out.mono ?_;rintro e3 w3 ⟨rfl,rfl⟩);go_ret;exact⟨by rw[HF.out];rfl,rfl⟩
    ·have f48:decide ((48:Int)≤(b:Int))=true:=by simp;omega
     have f57:decide ((b:Int)≤57)=false:=by simp;omega
     have f95:((b:Int)==95)=true:=by rw[Ud];omega
     have HF:=UX (Cn HBE.out (show Bg p b=false by unfold Bg;simp;omega));clear hl h5 hp0;go_wp2_with(go_at_call 134;refine HLet.out.mono ?_;rintro e3 w3 ⟨rfl,rfl⟩);go_ret;exact⟨by rw[HF.out];rfl,rfl⟩
    ·have f48:decide ((48:Int)≤(b:Int))=false:=by simp;omega
     have f95:((b:Int)==95)=false:=by rw[UY];omega
     have HF:=UX (Cn HBE.out (show Bg p b=false by unfold Bg;simp;omega));clear hl h5 hp0;go_wp2_with(go_at_call 134;refine HLet.out.mono ?_;rintro e3 w3 ⟨rfl,rfl⟩);go_ret;exact⟨by rw[HF.out];rfl,rfl⟩
    have f48:decide ((48:Int)≤(b:Int))=true:=by simp;omega
    have f57:decide ((b:Int)≤57)=false:=by simp;omega
    have f95:((b:Int)==95)=false:=by rw[UY];omega
    have HF:=UX (Cn HBE.out (show Bg p b=false by unfold Bg;simp;omega));clear hl h5 hp0;go_wp2_with(go_at_call 134;refine HLet.out.mono ?_;rintro e3 w3 ⟨rfl,rfl⟩);go_ret;exact⟨by rw[HF.out];rfl,rfl⟩
   have tp0:((p:Int)==0)=false:=by rw[UY];omega
   clear tp;rcases(show(48≤b∧b≤57)∨b=95∨b<48∨(57<b∧b≠95) by omega)with h5|h5|h5|h5
   ·have f48:decide ((48:Int)≤(b:Int))=true:=by simp;omega
    have f57:decide ((b:Int)≤57)=true:=by simp;omega
    have HC:=UX (HX.out (by unfold Bg;simp;omega));clear hl h5 hp0;go_wp2_with(go_at_call 134;refine HLet.out.mono ?_;rintro e3 w3 ⟨rfl,rfl⟩);go_roundw
    case rel=>exact⟨p+1,by omega,by go_num,by simp,HC.out⟩
    case measure=>simp[intOf];omega
   ·have f48:decide ((48:Int)≤(b:Int))=true:=by simp;omega
    have f57:decide ((b:Int)≤57)=false:=by simp;omega
    have f95:((b:Int)==95)=true:=by rw[Ud];omega
    have HC:=UX (HX.out (by unfold Bg;simp;omega));clear hl h5 hp0;go_wp2_with(go_at_call 134;refine HLet.out.mono ?_;rintro e3 w3 ⟨rfl,rfl⟩);go_roundw
    case rel=>exact⟨p+1,by omega,by go_num,by simp,HC.out⟩
    case measure=>simp[intOf];omega
   ·have f48:decide ((48:Int)≤(b:Int))=false:=by simp;omega
    have f95:((b:Int)==95)=false:=by rw[UY];omega
    have HF:=UX (Cn HBE.out (show Bg p b=false by unfold Bg;simp;omega));clear hl h5 hp0;go_wp2_with(go_at_call 134;refine HLet.out.mono ?_;rintro e3 w3 ⟨rfl,rfl⟩);go_ret;exact⟨by rw[HF.out];rfl,rfl⟩
   have f48:decide ((48:Int)≤(b:Int))=true:=by simp;omega
   have f57:decide ((b:Int)≤57)=false:=by simp;omega
   have f95:((b:Int)==95)=false:=by rw[UY];omega
   have HF:=UX (Cn HBE.out (show Bg p b=false by unfold Bg;simp;omega));clear hl h5 hp0;go_wp2_with(go_at_call 134;refine HLet.out.mono ?_;rintro e3 w3 ⟨rfl,rfl⟩);go_ret;exact⟨by rw[HF.out];rfl,rfl⟩
  have HT:=UX ((FJ s).2 ⟨HL.out,fun i h=>HI.out i h (by omega)⟩);obtain rfl:p=s.size:=by omega
  go_wp2_with fail;go_ret;exact⟨by rw[HT.out];rfl,rfl⟩
theorem Mm (s:ByteArray) (w:World) (hsz:s.size≤1000000):Calls Tryz.prog 135 #[.string s] w fun e w'=>e= .returned (.bool (Cb s))∧w'=w:=by
 go_enter Tryz.func135,Tryz.ntmps135;by_cases h2:(16:Int)<(s.size:Int)
 ·have t2:decide ((16:Int)<(s.size:Int))=true:=by simpa using h2
  have HF:=UX (show Cb s=false by
   rcases hb:Cb s
   ·rfl
   have:=((Dn s).1 hb).1;omega)
  clear h2;go_wp2_with fail;go_ret;exact⟨by rw[HF.out];rfl,rfl⟩
 have t2:decide ((16:Int)<(s.size:Int))=false:=by simp;omega
 have HL:=UX (show s.size≤16 by omega);clear h2;go_wp2_with fail;go_loopw [3,4] (fun i _ wr=>∃(p:Nat),p≤s.size∧i= .int .i64 (p:Nat)∧w=wr∧∀i (h:i<s.size),i<p→CS (s[i]'h).toNat=true) (fun i _ _=>s.size-(intOf i).toNat)
 case atStart=>exact⟨0,by omega,rfl,rfl,fun i _ h=>by omega⟩
 case round=>
  obtain⟨p,hp,rfl,rfl,hinv⟩:=hrel;have HI:=UX hinv;clear hinv;by_cases hlt:p<s.size
  ·obtain⟨b,hbe⟩:∃b,(s[p]'hlt).toNat=b:=⟨_,rfl⟩;have hbu:b<256:=by rw[←hbe];exact(s[p]'hlt).toNat_lt
   have HBE:=UX hbe;have hnext:CS b=true→∀i (h:i<s.size),i<p+1→CS (s[i]'h).toNat=true:=fun hc i h hi=>by
    by_cases he:i=p
    ·subst he;rw[hbe];exact hc
    exact HI.out i h (by omega)
   have HX:=UX hnext;clear hnext;by_cases hok:CS b=true
   ·have HC:=UX (HX.out hok);simp[CS]at hok;have t3:decide ((b:Int)<33)=false:=by simp;omega
    have t4:decide ((126:Int)<(b:Int))=false:=by simp;omega
    have e1:((b:Int)==34)=false:=by rw[UY];omega
    have e2:((b:Int)==92)=false:=by rw[UY];omega
    have e3:((b:Int)==44)=false:=by rw[UY];omega
    have e4:((b:Int)==123)=false:=by rw[UY];omega
    have e5:((b:Int)==125)=false:=by rw[UY];omega
    clear hok;go_wp2_with fail;go_roundw
    case rel=>exact⟨p+1,by omega,by go_num,by simp,HC.out⟩
    case measure=>simp[intOf];omega
   have hok:CS b=false:=by simpa using hok
   have HF:=UX (J0 HBE.out hok);by_cases t3:(b:Int)<33
   ·have t3:decide ((b:Int)<33)=true:=by simpa using t3
    clear hok;go_wp2_with fail;go_ret;exact⟨by rw[HF.out];rfl,rfl⟩
   have t3':decide ((b:Int)<33)=false:=by simpa using t3
   by_cases t4:(126:Int)<(b:Int)
   ·have t4:decide ((126:Int)<(b:Int))=true:=by simpa using t4
    clear hok t3;go_wp2_with fail;go_ret;exact⟨by rw[HF.out];rfl,rfl⟩
   have t4':decide ((126:Int)<(b:Int))=false:=by simpa using t4
   have hor:b=34∨b=92∨b=44∨b=123∨b=125:=by simp[CS]at hok;omega
   clear hok t3 t4 t3' t4' hbu HX HI HBE;rcases hor with rfl|rfl|rfl|rfl|rfl<;>(go_wp2_with fail;go_ret;exact⟨by rw[HF.out];rfl,rfl⟩)
  have HT:=UX ((Dn s).2 ⟨HL.out,fun i h=>HI.out i h (by omega)⟩);obtain rfl:p=s.size:=by omega
  go_wp2_with fail;go_ret;exact⟨by rw[HT.out];rfl,rfl⟩
theorem L0 (m:Mt) (h1:Ib m.1) (h2:Ib m.2.2) (w:World):Calls Tryz.prog 89 #[.agg (AL m).toArray] w fun e w'=>e= .returned (.bool (BA m))∧A5 w w':=by
 obtain⟨a,k,c⟩:=m;have hb:=Ux w 59 ([.string a,.int .i64 k,.string c]:List Value).toArray;have hG:=(Uv w).alloc (.cells ([.string a,.int .i64 k,.string c]:List Value).toArray 59);change Calls Tryz.prog 89 #[.agg ([.string a,.int .i64 k,.string c]:List Value).toArray] w _;go_enter Tryz.func89,Tryz.ntmps89;go_upto_region 1 with fail;change Code.wp _ _ _ _ (w.alloc (.cells ([.string a,.int .i64 k,.string c]:List Value).toArray 59));generalize w.alloc (.cells ([.string a,.int .i64 k,.string c]:List Value).toArray 59)=w1 at*;have c0:w1.cell? ⟨w.heap.size,0,none⟩=some (.string a):=hb.cell 0;have c1:w1.cell? ⟨w.heap.size,1,none⟩=some (.int .i64 k):=hb.cell 1;have c2:w1.cell? ⟨w.heap.size,2,none⟩=some (.string c):=hb.cell 2;have HG:=UX hG;have HB:=UX hb;clear hG hb;have HNm:=UX (fun w'=>IF a h1 w');have HVl:=UX (fun w'=>O0 c h2 w');by_cases hk:0≤k∧k≤2
 ·have hv:∀q1 q2:Bool,CI a=q1→Cb c=q2→BA (a,k,c)=(q1&&q2):=fun q1 q2 e1 e2=>by unfold BA;rw[e1,e2,decide_eq_true hk,Bool.and_true]
  obtain⟨q1,hq1⟩:∃q,CI a=q:=⟨_,rfl⟩;obtain⟨q2,hq2⟩:∃q,Cb c=q:=⟨_,rfl⟩;have HV:=UX (hv q1 q2 hq1 hq2);rw[hq1]at HNm;rw[hq2]at HVl;have HK:k=0∨k=1∨k=2:=by omega
  clear hv hq1 hq2 hk h1 h2;rcases HK with rfl|rfl|rfl<;>rcases q1 with _|_<;>(
   go_wp2_with(first|(go_at_call 87;refine(HNm.out _).mono ?_;rintro e3 w3 ⟨rfl,k3⟩;have d2:w3.cell? ⟨w.heap.size,2,none⟩=some (.string c):=(HB.out.grew k3).cell 2)|(go_at_call 128;refine(HVl.out _).mono ?_;rintro e4 w4 ⟨rfl,k4⟩));go_ret;refine⟨by rw[HV.out];rfl,?_⟩
   first|exact(HG.out.trans k3).trans k4|exact HG.out.trans k3)
 have HV:=UX (show BA (a,k,c)=false by unfold BA;rw[Uj hk];simp);have k0:(k==0)=false:=by rw[UY];omega
 have k1:(k==1)=false:=by rw[UY];omega
 have k2:(k==2)=false:=by rw[UY];omega
 clear hk h1 h2;go_wp2_with fail;go_ret;exact⟨by rw[HV.out];rfl,HG.out⟩
theorem KV (m:Mt) (h1:m.1.size≤1000000) (h2:m.2.2.size≤1000000) (w:World):Calls Tryz.prog 106 #[.agg (AL m).toArray] w fun e w'=>e= .returned (.bool (BA m))∧A5 w w':=by
 obtain⟨a,k,c⟩:=m;have hb:=Ux w 59 ([.string a,.int .i64 k,.string c]:List Value).toArray;have hG:=(Uv w).alloc (.cells ([.string a,.int .i64 k,.string c]:List Value).toArray 59);change Calls Tryz.prog 106 #[.agg ([.string a,.int .i64 k,.string c]:List Value).toArray] w _;go_enter Tryz.func106,Tryz.ntmps106;go_upto_region 1 with fail;change Code.wp _ _ _ _ (w.alloc (.cells ([.string a,.int .i64 k,.string c]:List Value).toArray 59));generalize w.alloc (.cells ([.string a,.int .i64 k,.string c]:List Value).toArray 59)=w1 at*;have c0:w1.cell? ⟨w.heap.size,0,none⟩=some (.string a):=hb.cell 0;have c1:w1.cell? ⟨w.heap.size,1,none⟩=some (.int .i64 k):=hb.cell 1;have c2:w1.cell? ⟨w.heap.size,2,none⟩=some (.string c):=hb.cell 2;have HG:=UX hG;have HB:=UX hb;clear hG hb;have HNm:=UX (fun w'=>Calls.mono (Hf a w' h1) (R':=fun e w''=>e= .returned (.bool (CI a))∧A5 w' w'') (by rintro e w'' ⟨rfl,rfl⟩;exact⟨rfl,Uv _⟩));have HVl:=UX (fun w'=>Calls.mono (Mm c w' h2) (R':=fun e w''=>e= .returned (.bool (Cb c))∧A5 w' w'') (by rintro e w'' ⟨rfl,rfl⟩;exact⟨rfl,Uv _⟩));obtain⟨q1,hq1⟩:∃q,CI a=q:=⟨_,rfl⟩;obtain⟨q2,hq2⟩:∃q,Cb c=q:=⟨_,rfl⟩;have hv:∀b,decide (0≤k∧k≤2)=b→BA (a,k,c)=(q1&&b&&q2):=fun b hb=>by unfold BA;rw[hq1,hq2,hb]
 rw[hq1]at HNm;rw[hq2]at HVl;clear hq1 hq2 h1 h2;rcases q1 with _|_
 ·have HV:=UX (hv _ rfl);clear hv;go_wp2_with(first|(go_at_call 103;refine(HNm.out _).mono ?_;rintro e3 w3 ⟨rfl,k3⟩));go_ret;exact⟨by rw[HV.out];simp,HG.out.trans k3⟩
 by_cases hk:0≤k∧k≤2
 ·have HV:=UX (hv _ (decide_eq_true hk));have t0:decide ((0:Int)≤k)=true:=by simp;omega
  have t2:decide (k≤2)=true:=by simp;omega
  clear hv hk;go_wp2_with(first|(go_at_call 103;refine(HNm.out _).mono ?_;rintro e3 w3 ⟨rfl,k3⟩;have d1:w3.cell? ⟨w.heap.size,1,none⟩=some (.int .i64 k):=(HB.out.grew k3).cell 1;have d2:w3.cell? ⟨w.heap.size,2,none⟩=some (.string c):=(HB.out.grew k3).cell 2)|(go_at_call 135;refine(HVl.out _).mono ?_;rintro e4 w4 ⟨rfl,k4⟩));go_ret;exact⟨by rw[HV.out];simp,(HG.out.trans k3).trans k4⟩
 have HV:=UX (hv _ (Uj hk));clear hv;by_cases k0:0≤k
 ·have t0:decide ((0:Int)≤k)=true:=by simp;omega
  have t2:decide (k≤2)=false:=by simp;omega
  clear hk k0;go_wp2_with(first|(go_at_call 103;refine(HNm.out _).mono ?_;rintro e3 w3 ⟨rfl,k3⟩;have d1:w3.cell? ⟨w.heap.size,1,none⟩=some (.int .i64 k):=(HB.out.grew k3).cell 1));go_ret;exact⟨by rw[HV.out];simp,HG.out.trans k3⟩
 have t0:decide ((0:Int)≤k)=false:=by simp;omega
 clear hk k0;go_wp2_with(first|(go_at_call 103;refine(HNm.out _).mono ?_;rintro e3 w3 ⟨rfl,k3⟩;have d1:w3.cell? ⟨w.heap.size,1,none⟩=some (.int .i64 k):=(HB.out.grew k3).cell 1));go_ret;exact⟨by rw[HV.out];simp,HG.out.trans k3⟩
def Fz (s:ByteArray):Prop:=Ib s∧s.size≤1000
def Qt (e:Ex):Prop:=Fz e.name∧(∀m∈e.ms,Fz m.1∧Fz m.2.2)∧(∀s∈e.bys,Fz s)∧e.ms.length≤1000∧e.bys.length≤1000
def Br (e:Ex):Bool:=decide (e.kind=1)&&(!CI e.name||H5 C0 e.name)
theorem EV (e:Ex):C3 e=(!Br e&&e.ms.all BA&&KM e.bys):=by
 unfold C3 Br KR H5;by_cases h:e.kind=1<;>simp[h]
theorem Iq {e:Ex} (h:Br e=true):C3 e=false:=by rw[EV,h];rfl
theorem L3 {e:Ex} {m:Mt} (hm:m∈e.ms) (h:BA m=false):C3 e=false:=by
 rw[EV,show e.ms.all BA=false from List.all_eq_false.2 ⟨m,hm,by rw[h];simp⟩];simp
theorem ER {e:Ex} {j:Nat} (hj:j<e.bys.length) (h:MI e.bys j=false):C3 e=false:=by
 rw[EV,show KM e.bys=false from List.all_eq_false.2 ⟨j,List.mem_range.2 hj,by rw[h];simp⟩];simp
theorem LZ {e:Ex} (h1:Br e=false) (h2:∀m∈e.ms,BA m=true) (h3:∀j,j<e.bys.length→MI e.bys j=true):C3 e=true:=by
 rw[EV,h1,List.all_eq_true.2 h2,show KM e.bys=true from List.all_eq_true.2 fun j hj=>h3 j (List.mem_range.1 hj)];rfl
theorem GQ {l:List ByteArray} {s:ByteArray} (h:l[0]? =some s):MI l 0=CI s:=by
 unfold MI;rw[h];simp
theorem GG {l:List ByteArray} {k:Nat} {s r:ByteArray} (h:l[k+1]? =some s) (h2:l[k]? =some r):MI l (k+1)=(CI s&& !SK s r):=by
 unfold MI;rw[h];simp only[h2]
theorem FE (m:Mt):∀v∈AL m,v.oneCell'=true:=by
 intro v hv;simp[AL]at hv;rcases hv with rfl|rfl|rfl<;>rfl
def RQ:List Value:=[.string ⟨#[]⟩,.int .i64 0,.string ⟨#[]⟩]
end Go.Proofs.YtkclnhpofkaclaaGreatDoor
