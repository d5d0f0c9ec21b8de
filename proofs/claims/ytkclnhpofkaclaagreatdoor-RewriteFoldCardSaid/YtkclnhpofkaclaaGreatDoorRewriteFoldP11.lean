/- What the card of the law stands on: SameM, Nodes, RefB, Pack, Code, Second, RdA, RdB, RdC, RBits, CRead, ReadInts, RRead, RRd2, RRd3, RRd4, RRI, Dict, Texts, Equal, Find. -/
import Derived.Test.YtkclnhpofkaclaaGreatDoorRewriteFoldP04
import Derived.Test.YtkclnhpofkaclaaGreatDoorRewriteFoldP01
import Derived.Test.YtkclnhpofkaclaaGreatDoorRewriteFoldP10
import Derived.Test.YtkclnhpofkaclaaGreatDoorRewriteFoldP02
import Derived.ChangeKeysEq
import Derived.Laws.StructEq
import Derived.Deep.DeepCutAuto
import Derived.Deep.RegionHeld3
import Derived.Deep.QuietTactic
import Derived.BigQuiet
import Derived.Maps.Own
import Derived.Maps.OwnOps
import Derived.Maps.OwnSet
import Derived.Maps.Views
import Derived.Test.YtkclnhpofkaclaaGreatDoorRewriteFoldP07
set_option maxRecDepth 100000
set_option maxHeartbeats 12800000
set_option linter.unusedVariables false
set_option linter.unusedSimpArgs false
namespace Go.Proofs.YtkclnhpofkaclaaGreatDoor
open Go.RowKit Pl
theorem T1:(Tryz.prog.info? 59).map (·.size)=some 3:=by kernel_rfl
theorem rM:J3 59 3:=⟨T1,_,Tryz.underlying59,rfl⟩
theorem Lw (m:Mt) (w:World):(binOp .neq 59 (.agg (AL m).toArray) (.agg (AL m).toArray)).run Tryz.prog w= .ok (.bool false) w:=by
 have h1:∀w,(part 9 (AL m).toArray 0).run Tryz.prog w= .ok (.string m.1) w:=fun w=>by simp[go_sem,part,Tryz.underlying9,AL]
 have h2:∀w,(part 3 (AL m).toArray 1).run Tryz.prog w= .ok (.int .i64 m.2.1) w:=fun w=>by simp[go_sem,part,Tryz.underlying3,AL]
 have h3:∀w,(part 9 (AL m).toArray 2).run Tryz.prog w= .ok (.string m.2.2) w:=fun w=>by simp[go_sem,part,Tryz.underlying9,AL]
 have e1:∀w (a b:Int),(Op.equalIn 9999 3 (.int .i64 a) (.int .i64 b)).run Tryz.prog w= .ok (a==b) w:=fun w a b=>run_equalIn_int w 9998 3 _ _ _ _ Tryz.underlying3
 have e2:∀w (a b:ByteArray),(Op.equalIn 9999 9 (.string a) (.string b)).run Tryz.prog w= .ok (a.toList==b.toList) w:=fun w a b=>run_equalIn_string w 9998 9 _ _ Tryz.underlying9
 have hf:(Tryz.prog.fieldsOf 59).toList.map (fun f=>(f.name,f.type,f.offset))=[("Name",9,0),("Kind",3,1),("Value",9,2)]:=by kernel_rfl
 rw[run_neq_struct,run_equalIn_struct w 9999 59 _ _ (by kernel_rfl) (by kernel_rfl)];generalize (Tryz.prog.fieldsOf 59).toList=fs at hf ⊢;rcases fs with _|⟨f1,_|⟨f2,_|⟨f3,_|⟨f4,fs⟩⟩⟩⟩
 ·exact absurd (congrArg List.length hf) (by simp)
 ·exact absurd (congrArg List.length hf) (by simp)
 ·exact absurd (congrArg List.length hf) (by simp)
 ·simp only[List.map_cons,List.map_nil,List.cons.injEq,Uq,and_true]at hf;obtain⟨⟨m1,t1,o1⟩,⟨m2,t2,o2⟩,m3,t3,o3⟩:=hf;have n1:f1.name≠ "_":=by rw[m1];decide
  have n2:f2.name≠ "_":=by rw[m2];decide
  have n3:f3.name≠ "_":=by rw[m3];decide
  have key:(Op.eqFields 9999 (AL m).toArray (AL m).toArray [f1,f2,f3]).run Tryz.prog w= .ok true w:=by
   simp only[Op.eqFields,t1,t2,t3,o1,o2,o3,Uo n1,Uo n2,Uo n3,Sem.run_bind,h1,h2,h3,e1,e2,Result.andThen_ok,Sem.run_ite,Sem.run_pure];simp
  rw[key];rfl
 exact absurd (congrArg List.length hf) (by simp)
theorem Bs.grew {w w':World} {sz:Nat} {v:Value} {rows:List (List Value)} (h:Bs w w.heap.size sz v rows) (g:A5 w w'):Bs w' w'.heap.size sz v rows:=h.keep (Ua _) g.size g (fun _ _ h=>h)
theorem Bs.at_ {w:World} {B sz:Nat} {A:Option Addr} {n c j:Nat} {rows:List (List Value)} {cs:List Value} (h:Bs w B sz (.slice A n c) rows) (hj:rows[j]? =some cs):∃b o,A=some ⟨b,o,none⟩∧w.rangeAt b (o+j*sz) cs:=by
 obtain⟨A',c',hv,hc,hx⟩:=h;injection hv with e1 e2 e3;subst e1;obtain⟨b,o,e, -,hcell⟩:=hx (by have:=(Uh.1 hj).1;omega);exact⟨b,o,e,hcell j cs hj⟩
theorem Bs.slice {w:World} {B sz:Nat} {v:Value} {rows:List (List Value)} (h:Bs w B sz v rows):∃A c,v= .slice A rows.length c∧rows.length≤c:=by
 obtain⟨A,c,hv,hc, -⟩:=h;exact⟨A,c,hv,hc⟩
theorem MP (v u:Value) (ms:List Mt) (w:World) (h:Bs w w.heap.size 3 v (ms.map AL)) (k:Bs w w.heap.size 3 u (ms.map AL)) (hl:ms.length≤1099511627776):
  Calls Tryz.prog 15 #[v,u] w fun e w'=>e= .returned (.bool true)∧A5 w w':=by
 obtain⟨A1,k1,rfl,hc1⟩:=h.slice;obtain⟨A2,k2,rfl,hc2⟩:=k.slice;have HL:Hid ((ms.map AL).length=ms.length):=UX (List.length_map ..);have HH:=UX h;have HK:=UX k;rw[HL.out]at HH HK hc1 hc2 ⊢;clear h k;generalize hn:ms.length=n at*;have HN:=UX hn;clear hn;have t0:((n:Int)==(n:Int))=true:=by simp
 go_enter Tryz.func15,Tryz.ntmps15;go_wp2_with fail;go_loopw [5] (fun i wr=>∃(j:Nat),j≤n∧i= .int .i64 (j:Nat)∧A5 w wr) (fun i _=>n-(intOf i).toNat)
 case atStart=>exact⟨0,by omega,rfl,Uv _⟩
 case round=>
  obtain⟨j,hj,rfl,hGr⟩:=hrel;by_cases hlt:j<n
  ·obtain⟨m,hm⟩:∃m,ms[j]? =some m:=⟨_,Uc (by have:=HN.out;omega)⟩;have hmm:(ms.map AL)[j]? =some (AL m):=by rw[List.getElem?_map,hm];rfl
   obtain⟨b1,o1,rfl,hr1⟩:=(HH.out.grew hGr).at_ hmm;obtain⟨b2,o2,rfl,hr2⟩:=(HK.out.grew hGr).at_ hmm;have HRW:=UX (show ∀w',A5 wr.drew w'→w'.rangeAt b1 (o1+j*3) (AL m)∧w'.rangeAt b2 (o2+j*3) (AL m)from fun w' g=>by
    have g':=hGr.trans ((Uy (Uv wr)).trans g);obtain⟨x1,y1,e1,f1⟩:=(HH.out.grew g').at_ hmm;obtain⟨x2,y2,e2,f2⟩:=(HK.out.grew g').at_ hmm;simp only[Ur,Addr.mk.injEq,and_true]at e1 e2;obtain⟨rfl,rfl⟩:=e1;obtain⟨rfl,rfl⟩:=e2;exact⟨f1,f2⟩)
   have HNE:=UX (fun w=>Lw m w);clear hm hmm hr1 hr2;go_upto_region 6 with fail;refine EY (by kernel_rfl) [.slice (some ⟨b1,o1,none⟩) n k1,.int .i64 (j:Int),.pointer (some ⟨b1,o1+j*3,none⟩),.agg (AL m).toArray,.slice (some ⟨b2,o2,none⟩) n k2,.int .i64 (j:Int),.pointer (some ⟨b2,o2+j*3,none⟩),.agg (AL m).toArray,.bool false] _ (by kernel_rfl) (by kernel_rfl) rfl ?sH (by kernel_rfl) ?sT
   case sH=>
    simp only[ny];refine hQ (hQ (hQ (AC (fun z w' hg=>?_) ?_)))
    ·obtain⟨g1,g2⟩:=HRW.out _ hg;exact mM (.tmp 19) g1 rM ⟨rfl,Uv _⟩
    refine hQ (hQ (hQ (AC (fun z w' hg=>?_) ?_)))
    ·obtain⟨g1,g2⟩:=HRW.out _ hg;exact mM (.tmp 23) g2 rM ⟨rfl,Uv _⟩
    refine AC (fun z w' hg=>?_) ?_
    ·have hne:=HNE.out;go_simp;exact Uv _
    exact Aj
   case sT=>
    intro wn hgn;simp only[ny];go_wp2_with fail;go_roundw
    case rel=>exact⟨j+1,by omega,by go_num,hGr.trans hgn⟩
    case measure=>simp[intOf];omega
  obtain rfl:j=n:=by omega
  go_wp2_with fail;go_ret;exact⟨rfl,hGr⟩
theorem Jw {es:List Ex} {j:Nat} {e:Ex} (h:es[j]? =some e):AO (es.take (j+1))=AO (es.take j)+AD e:=by
 induction es generalizing j with
 |nil=>simp at h
 |cons a tl ih=>
  cases j with
  |zero=>
   obtain rfl:a=e:=by simpa using h
   simp[AO]
  |succ j=>
   rw[List.take_succ_cons,List.take_succ_cons];unfold AO;rw[ih (by simpa using h)];omega
theorem Et:∀(es:List Ex) (j:Nat),AO (es.take j)≤AO es
 |[],j=>by simp
 |e::es,0=>by simp[AO]
 |e::es,j+1=>by
  rw[List.take_succ_cons];unfold AO;have:=Et es j;omega
theorem Ao (e:Ex):AD e=1+AO e.kids:=by
 cases e;rw[AD];rfl
theorem B9:∀es:List Ex,es.length≤AO es
 |[]=>by simp
 |e::es=>by
  have h1:=B9 es;have h2:=AZ e;unfold AO;rw[List.length_cons];omega
theorem Bd:(Tryz.prog.info? 29).map (·.size)=some 11:=by kernel_rfl
theorem rX:J3 29 11:=⟨Bd,_,Tryz.underlying29,rfl⟩
theorem IP:∀(k:Nat) (e:Ex),AD e≤k→k≤1000000→∀(w:World) (cs:List Value),BC w w.heap.size e cs→
  Calls Tryz.prog 40 #[.agg cs.toArray] w fun e' w'=>e'= .returned (.int .i64 (AD e:Nat))∧A5 w w'
 |0,e,h,_,_,_,_=>absurd (AZ e) (by omega)
 |k+1,e,hk,hk2,w,cs,hr=>by
  obtain⟨vm,vb,vk,rfl, -, -,hT⟩:=hr.open_;have hne:=Ao e;have hkl:=B9 e.kids;obtain⟨A,n,c,rfl,hn, -⟩:=hT.slice;have HIH:=UX (fun(e':Ex) (w':World) (cs:List Value) (h1:e'∈e.kids) (h2:BC w' w'.heap.size e' cs)=>IP k e' (by have:=AT h1;omega) (by omega) w' cs h2);have HT:=UX hT;have HN:=UX hn;have HNE:=UX hne;have hbx:=Ux w 29 (A8 e vm vb (.slice A n c)).toArray;have hG:=(Uv w).alloc (.cells (A8 e vm vb (.slice A n c)).toArray 29);have hb1:AO e.kids≤1000000:=by omega
  have hnb:n≤1000000:=by omega
  have HB1:=UX hb1;clear hr hT hn hne hkl hk hk2 hb1;go_enter Tryz.func40,Tryz.ntmps40;go_upto_region 1 with fail;generalize w.alloc (.cells (A8 e vm vb (.slice A n c)).toArray 29)=w1 at*;have HBx:=UX hbx;have HG:=UX hG;clear hbx hG;go_wp2_with fail;go_loopw [3,4] (fun s i wr=>∃(j s':Nat),j≤n∧i= .int .i64 (j:Nat)∧s= .int .i64 (s':Nat)∧s'=1+AO (e.kids.take j)∧s'≤2000000∧A5 w1 wr) (fun _ i _=>n-(intOf i).toNat)
  case atStart=>exact⟨0,1,by omega,rfl,rfl,by simp[AO],by omega,Uv _⟩
  case round=>
   obtain⟨j,s',hj,rfl,rfl,hs,hsb,hGr⟩:=hrel;have HS:=UX hs;clear hs;have c10:wr.cell? ⟨w.heap.size,10,none⟩=some (.slice A n c):=(HBx.out.grew hGr).cell 10;by_cases hlt:j<n
   ·have hjl:j<e.kids.length:=by rw[←HN.out];exact hlt
    obtain⟨e',he'⟩:∃e',e.kids[j]? =some e':=⟨_,Uc hjl⟩;have hmem:e'∈e.kids:=Uk he';obtain⟨b,o,cs,rfl,hb,hrg,hre⟩:=(HT.out.grew (HG.out.trans hGr)).at_ he';obtain⟨vm',vb',vk',hcs, -⟩:=hre.open_;subst hcs;have HI:=UX (HIH.out e' wr _ hmem hre);have HSn:=UX (show 1+AO (e.kids.take (j+1))=s'+AD e' from by rw[Jw he',HS.out];omega);have hbd:s'+AD e'≤2000000:=by
     have h1:=Et e.kids (j+1);have h2:=HB1.out;have h3:=HSn.out;omega
    have HRg:=UX hrg;have HGr:=UX hGr;clear hjl he' hmem hrg hre hGr;go_wp2_with(first|(refine lM (.tmp 16) HRg.out rX ?_)|fail);refine HI.out.mono ?_;rintro e2 w3 ⟨rfl,k3⟩;have HG3:=UX (HGr.out.trans k3);clear c10 k3 HI;go_wp2_with fail;go_roundw
    case rel=>exact⟨j+1,s'+AD e',by omega,by go_num,by go_num,HSn.out.symm,hbd,HG3.out⟩
    case measure=>simp[intOf];omega
   obtain rfl:j=n:=by omega
   have HF:=UX (show s'=AD e from by rw[HS.out,HNE.out,List.take_of_length_le (by rw[←HN.out];exact Ua _)]);go_wp2_with fail;go_ret;exact⟨by rw[←HF.out];rfl,HG.out.trans hGr⟩
def Tg (w:World) (v:Value):Prop:=∀k,v.ownBlock=some k→w.heap.size≤k
theorem A5.alloc {w0 w:World} (h:A5 w0 w) (o:Obj):A5 w0 (w.alloc o):=A4.alloc h o
theorem Bf.slice {w:World} {base:Nat} {e:TypeId} {v:Value} {xs:List Value} (h:Bf w base e v xs):∃A n c,v= .slice A n c∧n=xs.length:=by
 rcases h.form with⟨rfl,rfl⟩|⟨g,cap,cur,rfl,_⟩
 ·exact⟨_,_,_,rfl,rfl⟩
 exact⟨_,_,_,rfl,rfl⟩
theorem Bf.cellAt {w:World} {base:Nat} {e:TypeId} {r n c:Nat} {xs:List Value} (h:Bf w base e (.slice (some ⟨r,0,none⟩) n c) xs) {j:Nat} (hj:j<xs.length):w.cell? ⟨r,j,none⟩=some xs[j]:=by
 rcases h.form with⟨h,_⟩|⟨g,cap,cur,hv,_,hb,_,_,_,h4⟩
 ·cases h
 injection hv with hv _ _;injection hv with hv;injection hv with hv _ _;subst hv;rw[hb.cell,←Array.getElem?_toList];have:(cur.toList.take xs.length)[j]? =some xs[j]:=by rw[h4];exact Uc hj
 rw[List.getElem?_take,Uo hj]at this;exact this
theorem Rd.int_at {w:World} {B:Nat} {A:Option Addr} {n c j:Nat} {l:List Int} (h:Rd w B (.slice A n c) (l.map vi)) (hj:j<l.length):∃ad,A=some ad∧ad.block<B∧w.cell? (ad.add j)=some (.int .i64 (l.getD j 0)):=by
 obtain⟨ad,u,rfl,hadb,hu,hcell⟩:=h.at_ (j:=j) (by rw[List.length_map];exact hj);refine⟨ad,rfl,hadb,?_⟩;rw[List.getElem?_map,Uc hj]at hu;rw[hcell,←Uf hu,List.getD_eq_getElem?_getD,Uc hj];rfl
theorem Oe {l:List Int} (hi:∀x∈l,Ah x) (j:Nat):Ah (l.getD j 0):=by
 rw[List.getD_eq_getElem?_getD];by_cases hj:j<l.length
 ·rw[Uc hj];exact hi _ (List.getElem_mem hj)
 rw[List.getElem?_eq_none (by omega)];show Ah 0;unfold Ah;omega
def G8 (g:Nat) (w w':World):Prop:=A4 (fun i=>i=g) w w'
theorem G8.refl (g:Nat) (w:World):G8 g w w:=Uz _ _
theorem G8.set (g:Nat) (w:World) (i:Nat) (u:Value):G8 g w (w.setCell ⟨g,i,none⟩ u):=(Uz (fun i=>i=g) w).setCell (p:=⟨g,i,none⟩) (.inl rfl) u
def To (most:Nat) (s:List Bool) (j:Nat) (t:List Bool):Prop:=j≤most∧Qz most s=(Qz (most-j) t).map fun p=>(p.1+j,p.2)
def TB (r:List Bool):Int:=if I7 r then 0 else 2
end Go.Proofs.YtkclnhpofkaclaaGreatDoor
namespace Go.Proofs.YtkclnhpofkaclaaGreatDoor
open Go.RowKit Go.Shelf Pl
attribute [local go_sem] Oper.semAt_some
def RA (bs:List Nat) (a:Nat) (n:Nat) (p:Fin 64×Nat):Nat:=if RY bs (a+p.2)then n|||2^p.1.val else n
def SJ (bs:List Nat) (a:Nat) (pre:List (Fin 64)):Nat:=pre.zipIdx.foldl (RA bs a) 0
end Go.Proofs.YtkclnhpofkaclaaGreatDoor
namespace Go.Proofs.YtkclnhpofkaclaaGreatDoor
open Go.RowKit Pl
def Tl (N:Nat) (t0:List Bool) (j:Nat) (be la:Int) (s:List Bool) (SJ:List Int):Prop:=
 j≤N∧EN N 0 0 t0=(EN (N-j) be la s).map fun p=>(SJ++p.1,p.2)
def TS (_:List Nat) (w:World) (o:Option (List Int)) (e:Ending) (w':World):Prop:=
 A5 w w'∧
 match o with
 |some l=>∃v',e= .returned (.tuple #[v',.int .i64 0])∧Bf w' w.heap.size 3 v' (l.map vi)
 |none=>e= .returned (.tuple #[.slice none 0 0,.int .i64 2])
end Go.Proofs.YtkclnhpofkaclaaGreatDoor
namespace Go.Proofs.YtkclnhpofkaclaaGreatDoor
open Go.RowKit Pl Go.Maps
abbrev QO:=List UInt8
def vs (s:QO):Value:= .string ⟨s.toArray⟩
def TU (ws:List QO) (s:QO):List QO:=if s∈ws then ws else ws++[s]
def Ow (l:List QO):List QO:=l.foldl TU []
def TH (l:List QO):List Int:=l.map fun s=>(((Ow l).idxOf s:Nat):Int)
def U9 (D:DataW Unit) (ws:List QO):Prop:=
 IsMap D∧∀s:QO,Maps.has D (.string s)=decide (s∈ws)∧(s∈ws→∀z,D.atKey (.string s) z= .lit (.int .i64 ((ws.idxOf s:Nat):Int)))
def Sm (l:List QO) (w:World) (e:Ending) (w':World):Prop:=
 ∃v1 v2,e= .returned (.tuple #[v1,v2])∧Bf w' w.heap.size 9 v1 ((Ow l).map vs)∧Bf w' w.heap.size 3 v2 ((TH l).map vi)∧A5 w w'
end Go.Proofs.YtkclnhpofkaclaaGreatDoor
namespace Go.Proofs.YtkclnhpofkaclaaGreatDoor
open Go.RowKit Pl
theorem JA (v u:Value) (xs ys:List QO) (w:World) (h:Rd w w.heap.size v (xs.map vs)) (k:Rd w w.heap.size u (ys.map vs)) (hl:xs.length≤1099511627776) (hl':ys.length≤1099511627776):
  Calls Tryz.prog 16 #[v,u] w fun e w'=>e= .returned (.bool (decide (xs=ys)))∧∃n,w'=w.drewN n:=by
 obtain⟨A,n,c,rfl,hn,hc⟩:=h.form;obtain⟨B,n',d,rfl,hn',hd⟩:=k.form;rw[List.length_map]at hn hn';have hnl:n≤1099511627776:=by omega
 have hnl':n'≤1099511627776:=by omega
 have HN:=UX hn;have HN':=UX hn';by_cases hne:n≠n'
 ·have t0:((n:Int) !=(n':Int))=true:=by rw[bne_iff_ne];omega
  have hD:decide (xs=ys)=false:=by
   rw[decide_eq_false_iff_not];rintro rfl;omega
  have HD:=UX hD;clear hn hn' hne hD;go_enter Tryz.func16,Tryz.ntmps16;go_wp2_with fail;go_ret;exact⟨by rw[HD.out];rfl,0,rfl⟩
 obtain rfl:n=n':=by omega
 clear hn hn' hne;have t0:((n:Int) !=(n:Int))=false:=by simp
 go_enter Tryz.func16,Tryz.ntmps16;go_wp2_with fail;go_loopw [5] (fun i wr=>∃(j m:Nat),j≤n∧i= .int .i64 j∧wr=w.drewN m∧xs.take j=ys.take j) (fun i _=>n-(intOf i).toNat)
 case atStart=>exact⟨0,0,by omega,rfl,rfl,by simp⟩
 case round=>
  obtain⟨j,m,hj,rfl,rfl,htake⟩:=hrel;have HTK:=UX htake;clear htake;by_cases hlt:j<n
  ·have hjx:j<xs.length:=by rw[←HN.out];exact hlt
   have hjy:j<ys.length:=by rw[←HN'.out];exact hlt
   obtain⟨ad,u1,rfl,hadb,hu,hcell⟩:=h.at_ (j:=j) (by rw[List.length_map];exact hjx);obtain⟨ad2,u2,rfl,hadb2,hu2,hcell2⟩:=k.at_ (j:=j) (by rw[List.length_map];exact hjy);obtain rfl:vs xs[j]=u1:=by
    rw[List.getElem?_map,Uc hjx]at hu;injection hu
   obtain rfl:vs ys[j]=u2:=by
    rw[List.getElem?_map,Uc hjy]at hu2;injection hu2
   unfold vs at hcell hcell2;clear hu hu2;by_cases hxy:xs[j]=ys[j]
   ·have hstep:xs.take (j+1)=ys.take (j+1):=K9 HTK.out (by rw[Uc hjx,Uc hjy,hxy]);have HS:=UX hstep;rw[←hxy]at hcell2;clear hstep hxy;generalize xs[j]=x at*;clear hjx hjy;go_wp2_with fail;go_quiet (fail);go_wp2_with fail;go_roundw
    case rel=>exact⟨j+1,_,by omega,by go_num,rfl,HS.out⟩
    case measure=>simp[intOf];omega
   have hD:decide (xs=ys)=false:=by
    rw[decide_eq_false_iff_not];rintro rfl;exact hxy rfl
   have HD:=UX hD;clear hD;generalize xs[j]=x at*;generalize ys[j]=y at*;have tx:(x==y)=false:=by rw[UY];exact hxy
   clear hxy hjx hjy;go_wp2_with fail;go_quiet (fail);go_wp2_with fail;go_ret;exact⟨by rw[HD.out];rfl,_,World.drewN_drewN _ _ _⟩
  have hD:decide (xs=ys)=true:=by
   rw[decide_eq_true_eq];refine MK (n:=j) ?_ ?_ HTK.out
   ·rw[←HN.out];omega
   rw[←HN'.out];omega
  have HD:=UX hD;clear hD;go_wp2_with fail;go_ret;exact⟨by rw[HD.out];rfl,_,rfl⟩
def U0 (bs:List Nat) (a:Int) (c:Nat):List Nat:=if bs=[]then[]else bs.set (Er a bs.length) c
mutual
def DW:Ex→Prop
 | .mk _ _ _ _ _ _ _ _ ms bys kids=>ms.length≤1000000∧bys.length≤1000000∧Du kids
def Du:List Ex→Prop
 |[]=>True
 |e::es=>DW e∧Du es
end
theorem Fs:∀{es:List Ex} {e:Ex},Du es→e∈es→DW e
 |a::tl,e,h,hm=>by
  unfold Du at h;rcases List.mem_cons.1 hm with rfl|hm
  ·exact h.1
  exact Fs h.2 hm
theorem Eo {e:Ex} (h:DW e):e.ms.length≤1000000∧e.bys.length≤1000000∧Du e.kids:=by
 cases e;unfold DW at h;exact h
theorem Bs.toRd {w:World} {B:Nat} {v:Value} {bys:List ByteArray} (h:Bs w B 1 v (bys.map fun s=>[Value.string s])):Rd w B v ((bys.map fun s=>s.data.toList).map vs):=by
 obtain⟨A,c,hv,hc,hx⟩:=h;refine⟨A,c,by rw[hv];simp,by simpa using hc,fun hn=>?_⟩;obtain⟨b,o,rfl,hb,hcell⟩:=hx (by simpa using hn);refine⟨_,rfl,hb,fun j u hu=>?_⟩;rw[List.getElem?_map,List.getElem?_map]at hu;cases hj:bys[j]? with
 |none=>rw[hj]at hu;cases hu
 |some s=>
  rw[hj]at hu;obtain rfl:vs s.data.toList=u:=by simpa using hu
  have:=hcell j [Value.string s] (by rw[List.getElem?_map,hj];rfl) 0 (Value.string s) rfl;rw[Addr.add_mid];rw[Nat.mul_one]at this;exact this
theorem Mp (a b:Int) (w:World):(binOp .neq 24 (.agg (AA a b).toArray) (.agg (AA a b).toArray)).run Tryz.prog w= .ok (.bool false) w:=by
 have h1:∀w,(part 3 (AA a b).toArray 0).run Tryz.prog w= .ok (.int .i64 a) w:=fun w=>by simp[go_sem,part,Tryz.underlying3,AA]
 have h2:∀w,(part 3 (AA a b).toArray 1).run Tryz.prog w= .ok (.int .i64 b) w:=fun w=>by simp[go_sem,part,Tryz.underlying3,AA]
 have e1:∀w (a b:Int),(Op.equalIn 9999 3 (.int .i64 a) (.int .i64 b)).run Tryz.prog w= .ok (a==b) w:=fun w a b=>run_equalIn_int w 9998 3 _ _ _ _ Tryz.underlying3
 have hf:(Tryz.prog.fieldsOf 24).toList.map (fun f=>(f.name,f.type,f.offset))=[("Num",3,0),("Den",3,1)]:=by kernel_rfl
 rw[run_neq_struct,run_equalIn_struct w 9999 24 _ _ (by kernel_rfl) (by kernel_rfl)];generalize (Tryz.prog.fieldsOf 24).toList=fs at hf ⊢;rcases fs with _|⟨f1,_|⟨f2,_|⟨f3,fs⟩⟩⟩
 ·exact absurd (congrArg List.length hf) (by simp)
 ·exact absurd (congrArg List.length hf) (by simp)
 ·simp only[List.map_cons,List.map_nil,List.cons.injEq,Uq,and_true]at hf;obtain⟨⟨m1,t1,o1⟩,m2,t2,o2⟩:=hf;have n1:f1.name≠ "_":=by rw[m1];decide
  have n2:f2.name≠ "_":=by rw[m2];decide
  have key:(Op.eqFields 9999 (AA a b).toArray (AA a b).toArray [f1,f2]).run Tryz.prog w= .ok true w:=by
   simp only[Op.eqFields,t1,t2,o1,o2,Uo n1,Uo n2,Sem.run_bind,h1,h2,e1,Result.andThen_ok,Sem.run_ite,Sem.run_pure];simp
  rw[key];rfl
 exact absurd (congrArg List.length hf) (by simp)
theorem TP {P:Program} {ops:Array Oper} {rest:List Oper} {o:Oper} {a:Act} {w:World} {Q:Exit→Act→World→Prop} (T:TypeId) (x:Operand) (ho:o.op= .load T x) (hw:Region.wanted o (yielded ops a.tmps)=true) {d:TypeDesc} (hu:P.underlying T=some d) (hd:d.isRow=true) (g k:Nat) (vs:List Value) (hT:(P.info? T).map (·.size)=some vs.length)
  (hx:a.eval x= .pointer (some ⟨g,k,none⟩)) (hr:w.rangeAt g k vs) (h:wpList P ops Q rest (a.put o.dst (.agg vs.toArray)) w):wpList P ops Q (o::rest) a w:=
 wpList_step fun K hK=>by rw[Uo hw];exact wp_load_mid T x ho g k hx vs d hr hu hd hT (hK _ _ h)
theorem NI:∀(k:Nat) (e:Ex),AD e≤k→k≤1000000→DW e→∀(w:World) (cs1 cs2:List Value),BC w w.heap.size e cs1→BC w w.heap.size e cs2→
  Calls Tryz.prog 7 #[.agg cs1.toArray,.agg cs2.toArray] w fun e' w'=>e'= .returned (.bool true)∧A5 w w'
 |0,e,h,_,_,_,_,_,_,_=>absurd (AZ e) (by omega)
 |k+1,e,hk,hk2,htd,w,cs1,cs2,hr1,hr2=>by
  obtain⟨vm1,vb1,vk1,rfl,hm1,hy1,hT1⟩:=hr1.open_;obtain⟨vm2,vb2,vk2,rfl,hm2,hy2,hT2⟩:=hr2.open_;obtain⟨td1,td2,td3⟩:=Eo htd;obtain⟨Am1,nm1,km1,rfl⟩:∃A n c,vm1= .slice A n c:=by obtain⟨A,c,h, -⟩:=hm1.slice;exact⟨A,_,c,h⟩
  obtain⟨Am2,nm2,km2,rfl⟩:∃A n c,vm2= .slice A n c:=by obtain⟨A,c,h, -⟩:=hm2.slice;exact⟨A,_,c,h⟩
  obtain⟨Ab1,nb1,kb1,rfl⟩:∃A n c,vb1= .slice A n c:=by obtain⟨A,c,h, -⟩:=hy1.slice;exact⟨A,_,c,h⟩
  obtain⟨Ab2,nb2,kb2,rfl⟩:∃A n c,vb2= .slice A n c:=by obtain⟨A,c,h, -⟩:=hy2.slice;exact⟨A,_,c,h⟩
  have hne:=Ao e;have hkl:=B9 e.kids;obtain⟨A1,n,k1,rfl,hn, -⟩:=hT1.slice;obtain⟨A2,n2,k2,rfl,hn2, -⟩:=hT2.slice;obtain rfl:n=n2:=by omega
  have HIH:=UX (fun(e':Ex) (w':World) (c1 c2:List Value) (h1:e'∈e.kids) (h2:BC w' w'.heap.size e' c1) (h3:BC w' w'.heap.size e' c2)=>NI k e' (by have:=AT h1;omega) (by omega) (Fs td3 h1) w' c1 c2 h2 h3);have HSM:=UX (fun(w':World) (g:A5 w w')=>MP (.slice Am1 nm1 km1) (.slice Am2 nm2 km2) e.ms w' (hm1.grew g) (hm2.grew g) (by omega));have HST:=UX (fun(w':World) (g:A5 w w')=>by
   have:=JA (.slice Ab1 nb1 kb1) (.slice Ab2 nb2 kb2) _ _ w' (Bs.toRd (hy1.grew g)) (Bs.toRd (hy2.grew g)) (by simpa using(by omega:e.bys.length≤1099511627776)) (by simpa using(by omega:e.bys.length≤1099511627776));simpa using this)
  have HT1:=UX hT1;have HT2:=UX hT2;have HN:=UX hn;obtain⟨hb1,hb2,hG⟩:=BI w 29 29 (A8 e (.slice Am1 nm1 km1) (.slice Ab1 nb1 kb1) (.slice A1 n k1)).toArray (A8 e (.slice Am2 nm2 km2) (.slice Ab2 nb2 kb2) (.slice A2 n k2)).toArray;have hnb:n≤1000000:=by omega
  clear hr1 hr2 hm1 hm2 hy1 hy2 hT1 hT2 td1 td2 td3 htd hne hkl hk hk2 hn hn2;go_enter Tryz.func7,Tryz.ntmps7;go_upto_region 1 with fail;change Code.wp _ _ _ _ ((w.alloc (.cells (A8 e (.slice Am1 nm1 km1) (.slice Ab1 nb1 kb1) (.slice A1 n k1)).toArray 29)).alloc (.cells (A8 e (.slice Am2 nm2 km2) (.slice Ab2 nb2 kb2) (.slice A2 n k2)).toArray 29));generalize (w.alloc (.cells (A8 e (.slice Am1 nm1 km1) (.slice Ab1 nb1 kb1) (.slice A1 n k1)).toArray 29)).alloc (.cells (A8 e (.slice Am2 nm2 km2) (.slice Ab2 nb2 kb2) (.slice A2 n k2)).toArray 29)=w2 at*;have f1:w2.rangeAt w.heap.size 5 (AA e.num e.den):=hb1.rangeN 5 (AA e.num e.den) rfl;have f2:w2.rangeAt (w.heap.size+1) 5 (AA e.num e.den):=hb2.rangeN 5 (AA e.num e.den) rfl;have hfn:=Mp e.num e.den;have c0:w2.cell? ⟨w.heap.size,0,none⟩=some (.int .i64 e.kind):=hb1.cell 0;have d0:w2.cell? ⟨w.heap.size+1,0,none⟩=some (.int .i64 e.kind):=hb2.cell 0;have c1:w2.cell? ⟨w.heap.size,1,none⟩=some (.int .i64 e.fn):=hb1.cell 1;have d1:w2.cell? ⟨w.heap.size+1,1,none⟩=some (.int .i64 e.fn):=hb2.cell 1;have c2:w2.cell? ⟨w.heap.size,2,none⟩=some (.int .i64 e.window):=hb1.cell 2;have d2:w2.cell? ⟨w.heap.size+1,2,none⟩=some (.int .i64 e.window):=hb2.cell 2;have c3:w2.cell? ⟨w.heap.size,3,none⟩=some (.int .i64 e.offset):=hb1.cell 3;have d3:w2.cell? ⟨w.heap.size+1,3,none⟩=some (.int .i64 e.offset):=hb2.cell 3;have c4:w2.cell? ⟨w.heap.size,4,none⟩=some (.int .i64 e.k):=hb1.cell 4;have d4:w2.cell? ⟨w.heap.size+1,4,none⟩=some (.int .i64 e.k):=hb2.cell 4;have c7:w2.cell? ⟨w.heap.size,7,none⟩=some (.string e.name):=hb1.cell 7;have d7:w2.cell? ⟨w.heap.size+1,7,none⟩=some (.string e.name):=hb2.cell 7;have c10:w2.cell? ⟨w.heap.size,10,none⟩=some (.slice A1 n k1):=hb1.cell 10;have d10:w2.cell? ⟨w.heap.size+1,10,none⟩=some (.slice A2 n k2):=hb2.cell 10;have HB:=UX (UZ hb1 (UZ hb2 hG));clear hb1 hb2 hG;generalize e.kind=x0 at*;generalize e.fn=x1 at*;generalize e.window=x2 at*;generalize e.offset=x3 at*;generalize e.k=x4 at*;generalize e.name=x7 at*;go_upto_region 3 with(first|((with_reducible refine CW 24 (.tmp 40) rfl ?_);refine TP 24 (.tmp 40) rfl rfl Tryz.underlying24 rfl (w.heap.size) 5 (AA e.num e.den) C1 rfl f1 ?_)|((with_reducible refine CW 24 (.tmp 42) rfl ?_);refine TP 24 (.tmp 42) rfl rfl Tryz.underlying24 rfl (w.heap.size+1) 5 (AA e.num e.den) C1 rfl f2 ?_));clear f1 f2 hfn c0 c1 c2 c3 c4 c7 c10 d0 d1 d2 d3 d4 d7 d10;obtain⟨hb1,hb2,hG⟩:=HB.out;have c8:w2.cell? ⟨w.heap.size,8,none⟩=some (.slice Am1 nm1 km1):=hb1.cell 8;have d8:w2.cell? ⟨w.heap.size+1,8,none⟩=some (.slice Am2 nm2 km2):=hb2.cell 8;go_upto_region 5 with(first|(go_at_call 15;(with_reducible refine(HSM.out _ hG).mono ?_);rintro e' w3 ⟨rfl,k3⟩;have c9:w3.cell? ⟨w.heap.size,9,none⟩=some (.slice Ab1 nb1 kb1):=(hb1.grew k3).cell 9;have d9:w3.cell? ⟨w.heap.size+1,9,none⟩=some (.slice Ab2 nb2 kb2):=(hb2.grew k3).cell 9;have hG3:=hG.trans k3)|(go_at_call 16;(with_reducible refine(HST.out _ hG3).mono ?_);rintro e' w4 ⟨rfl,nn,rfl⟩));have m1:=(hb1.grew k3).drewN nn;have m2:=(hb2.grew k3).drewN nn;have hG5:=V1 hG3 nn;generalize w3.drewN nn=w5 at*;clear c8 d8 c9 d9 hb1 hb2 hG hG3 k3 HB HSM HST;have HM:=UX (UZ m1 (UZ m2 hG5));clear m1 m2 hG5;go_wp2_with fail;go_loopw [5] (fun i wr=>∃(j:Nat),j≤n∧i= .int .i64 (j:Nat)∧A5 w5 wr) (fun i _=>n-(intOf i).toNat)
  case atStart=>exact⟨0,by omega,rfl,Uv _⟩
  case round=>
   obtain⟨j,hj,rfl,hGr⟩:=hrel;have c10:wr.cell? ⟨w.heap.size,10,none⟩=some (.slice A1 n k1):=(HM.out.1.grew hGr).cell 10;by_cases hlt:j<n
   ·have hjl:j<e.kids.length:=by rw[←HN.out];exact hlt
    obtain⟨e',he'⟩:∃e',e.kids[j]? =some e':=⟨_,Uc hjl⟩;have hmem:e'∈e.kids:=Uk he';obtain⟨b1,o1,cs1,rfl,hb1,hrg1,hre1⟩:=(HT1.out.grew (HM.out.2.2.trans hGr)).at_ he';obtain⟨b2,o2,cs2,rfl,hb2,hrg2,hre2⟩:=(HT2.out.grew (HM.out.2.2.trans hGr)).at_ he';obtain⟨vm3,vb3,vk3,hcs1, -⟩:=hre1.open_;obtain⟨vm4,vb4,vk4,hcs2, -⟩:=hre2.open_;subst hcs1;subst hcs2;have gz:A5 wr wr.drew:=Uy (Uv wr);have HI:=UX (fun(w':World) (g:A5 wr.drew w')=>HIH.out e' w' _ _ hmem (hre1.grew (gz.trans g)) (hre2.grew (gz.trans g)));have HRW:=UX (show ∀w',A5 wr.drew w'→w'.cell? ⟨w.heap.size,10,none⟩=some (.slice (some ⟨b1,o1,none⟩) n k1)∧w'.cell? ⟨w.heap.size+1,10,none⟩=some (.slice (some ⟨b2,o2,none⟩) n k2)∧w'.rangeAt b1 (o1+j*11) (A8 e' vm3 vb3 vk3)∧w'.rangeAt b2 (o2+j*11) (A8 e' vm4 vb4 vk4)from fun w' g=>
     ⟨(HM.out.1.grew (hGr.trans (gz.trans g))).cell 10,(HM.out.2.1.grew (hGr.trans (gz.trans g))).cell 10,AR hrg1 hb1 (gz.trans g) (fun h=>h),AR hrg2 hb2 (gz.trans g) (fun h=>h)⟩)
    clear hjl he' hmem hrg1 hrg2 hre1 hre2 hb1 hb2 gz;go_upto_region 8 with fail;clear c10;refine EY (by kernel_rfl) [.pointer (some ⟨w.heap.size,10,none⟩),.slice (some ⟨b1,o1,none⟩) n k1,.int .i64 (j:Int),.pointer (some ⟨b1,o1+j*11,none⟩),.agg (A8 e' vm3 vb3 vk3).toArray,.pointer (some ⟨w.heap.size+1,10,none⟩),.slice (some ⟨b2,o2,none⟩) n k2,.int .i64 (j:Int),.pointer (some ⟨b2,o2+j*11,none⟩),.agg (A8 e' vm4 vb4 vk4).toArray,.bool true,.bool false] _ (by kernel_rfl) (by kernel_rfl) rfl ?sH (by kernel_rfl) ?sT
    case sH=>
     simp only[ny];refine hQ (AC (fun z w' hg=>?_) ?_)
     ·obtain⟨g1,g2,g3,g4⟩:=HRW.out _ hg;go_simp;exact Uv _
     refine hQ (hQ (AC (fun z w' hg=>?_) ?_))
     ·obtain⟨g1,g2,g3,g4⟩:=HRW.out _ hg;exact mM (.tmp 86) g3 rX ⟨rfl,Uv _⟩
     refine hQ (AC (fun z w' hg=>?_) ?_)
     ·obtain⟨g1,g2,g3,g4⟩:=HRW.out _ hg;go_simp;exact Uv _
     refine hQ (hQ (AC (fun z w' hg=>?_) ?_))
     ·obtain⟨g1,g2,g3,g4⟩:=HRW.out _ hg;exact mM (.tmp 91) g4 rX ⟨rfl,Uv _⟩
     exact Dc (fun w' hg=>HI.out _ hg) (hQ Aj)
    case sT=>
     intro wn hgn;simp only[ny];go_wp2_with fail;go_roundw
     case rel=>exact⟨j+1,by omega,by go_num,hGr.trans hgn⟩
     case measure=>simp[intOf];omega
   obtain rfl:j=n:=by omega
   go_wp2_with fail;go_ret;exact⟨rfl,HM.out.2.2.trans hGr⟩
def H5 (ls:List ByteArray) (s:ByteArray):Bool:=ls.any fun a=>a.toList==s.toList
def GN (ls:List ByteArray) (s:ByteArray) (w:World) (e:Ending) (w':World):Prop:=∃r:Int,e= .returned (.int .i64 r)∧decide (0≤r)=H5 ls s∧w'=w
theorem NN {ls:List ByteArray} {s a:ByteArray} {j:Nat} (h:ls[j]? =some a) (he:(a.toList==s.toList)=true):H5 ls s=true:=List.any_eq_true.2 ⟨a,Uk h,he⟩
theorem PL {ls:List ByteArray} {s:ByteArray} (h:∀(i:Nat) (a:ByteArray),ls[i]? =some a→(a.toList==s.toList)=false):H5 ls s=false:=by
 unfold H5;rw[List.any_eq_false];intro a ha;obtain⟨i,hi⟩:=List.getElem?_of_mem ha;rw[h i a hi];simp
theorem P0 (v:Value) (ls:List ByteArray) (s:ByteArray) (w:World) (h:Bs w w.heap.size 1 v (ls.map fun s=>[Value.string s])) (hl:ls.length≤1000000):Calls Tryz.prog 104 #[v,.string s] w (GN ls s w):=by
 obtain⟨A,c,rfl,hc,hx⟩:=h;rw[List.length_map]at hc hx ⊢;obtain⟨n,hn⟩:∃n,ls.length=n:=⟨_,rfl⟩;rw[hn]at hc hx hl ⊢;have HN:=UX hn;have HX:=UX hx;clear hn hx;go_enter Tryz.func104,Tryz.ntmps104;go_wp2_with fail;go_loopw [5] (fun i wr=>∃(j:Nat),j≤n∧(i= .int .i64 (j:Nat)∧w=wr)∧∀(i:Nat) (a:ByteArray),i<j→ls[i]? =some a→(a.toList==s.toList)=false) (fun i _=>n-(intOf i).toNat)
 case atStart=>exact⟨0,by omega,⟨rfl,rfl⟩,fun i a h _=>by omega⟩
 case round=>
  obtain⟨j,hj,⟨rfl,rfl⟩,hinv⟩:=hrel;have HI:=UX hinv;clear hinv;by_cases hlt:j<n
  ·obtain⟨b,o,rfl,hb,hcell⟩:=HX.out (by omega);obtain⟨a,ha⟩:∃a,ls[j]? =some a:=⟨_,Uc (by rw[HN.out];exact hlt)⟩;have hcl:w.cell? ⟨b,o+j,none⟩=some (.string a):=by
    have:=hcell j [.string a] (by rw[List.getElem?_map,ha];rfl) 0 _ rfl;rw[Nat.mul_one]at this;exact this
   have HA:=UX ha;clear ha hcell;by_cases he:a.toList=s.toList
   ·have t1:(a.toList==s.toList)=true:=by rw[Ud];exact he
    have t2:(s.toList==a.toList)=true:=by rw[Ud];exact he.symm
    have HF:=UX (NN HA.out t1);clear he;go_wp2_with fail;go_ret;exact⟨_,rfl,by rw[HF.out];simp,rfl⟩
   have t1:(a.toList==s.toList)=false:=by rw[UY];exact he
   have t2:(s.toList==a.toList)=false:=by rw[UY];exact fun h=>he h.symm
   have HC:=UX (show ∀(i:Nat) (a:ByteArray),i<j+1→ls[i]? =some a→(a.toList==s.toList)=false from fun i a' hi ha'=>by
    by_cases hij:i=j
    ·subst hij;rw[HA.out]at ha';obtain rfl:=Uf ha';exact t1
    exact HI.out i a' (by omega) ha')
   clear he;go_wp2_with fail;go_roundw
   case rel=>exact⟨j+1,by omega,⟨by go_num,by simp⟩,HC.out⟩
   case measure=>simp[intOf];omega
  have HF:=UX (PL (ls:=ls) (s:=s) fun i a h=>HI.out i a (by have:=(Uh.1 h).1;have:=HN.out;omega) h);obtain rfl:j=n:=by omega
  go_wp2_with fail;go_ret;exact⟨_,rfl,by rw[HF.out];rfl,rfl⟩
theorem JH (v:Value) (ls:List ByteArray) (s:ByteArray) (w:World) (h:Bs w w.heap.size 1 v (ls.map fun s=>[Value.string s])) (hl:ls.length≤1000000):Calls Tryz.prog 127 #[v,.string s] w (GN ls s w):=by
 obtain⟨A,c,rfl,hc,hx⟩:=h;rw[List.length_map]at hc hx ⊢;obtain⟨n,hn⟩:∃n,ls.length=n:=⟨_,rfl⟩;rw[hn]at hc hx hl ⊢;have HN:=UX hn;have HX:=UX hx;clear hn hx;go_enter Tryz.func127,Tryz.ntmps127;go_wp2_with fail;go_loopw [5,8] (fun _ i wr=>∃(j:Nat),j≤n∧(i= .int .i64 (j:Nat)∧w=wr)∧∀(i:Nat) (a:ByteArray),i<j→ls[i]? =some a→(a.toList==s.toList)=false) (fun _ i _=>n-(intOf i).toNat)
 case atStart=>exact⟨0,by omega,⟨rfl,rfl⟩,fun i a h _=>by omega⟩
 case round=>
  obtain⟨j,hj,⟨rfl,rfl⟩,hinv⟩:=hrel;have HI:=UX hinv;clear hinv;by_cases hlt:j<n
  ·obtain⟨b,o,rfl,hb,hcell⟩:=HX.out (by omega);obtain⟨a,ha⟩:∃a,ls[j]? =some a:=⟨_,Uc (by rw[HN.out];exact hlt)⟩;have hcl:w.cell? ⟨b,o+j,none⟩=some (.string a):=by
    have:=hcell j [.string a] (by rw[List.getElem?_map,ha];rfl) 0 _ rfl;rw[Nat.mul_one]at this;exact this
   have HA:=UX ha;clear ha hcell;by_cases he:a.toList=s.toList
   ·have t1:(a.toList==s.toList)=true:=by rw[Ud];exact he
    have t2:(s.toList==a.toList)=true:=by rw[Ud];exact he.symm
    have HF:=UX (NN HA.out t1);clear he;go_wp2_with fail;go_ret;exact⟨_,rfl,by rw[HF.out];simp,rfl⟩
   have t1:(a.toList==s.toList)=false:=by rw[UY];exact he
   have t2:(s.toList==a.toList)=false:=by rw[UY];exact fun h=>he h.symm
   have HC:=UX (show ∀(i:Nat) (a:ByteArray),i<j+1→ls[i]? =some a→(a.toList==s.toList)=false from fun i a' hi ha'=>by
    by_cases hij:i=j
    ·subst hij;rw[HA.out]at ha';obtain rfl:=Uf ha';exact t1
    exact HI.out i a' (by omega) ha')
   clear he;go_wp2_with fail;go_roundw
   case rel=>exact⟨j+1,by omega,⟨by go_num,by simp⟩,HC.out⟩
   case measure=>simp[intOf];omega
  have HF:=UX (PL (ls:=ls) (s:=s) fun i a h=>HI.out i a (by have:=(Uh.1 h).1;have:=HN.out;omega) h);obtain rfl:j=n:=by omega
  go_wp2_with fail;go_ret;exact⟨_,rfl,by rw[HF.out];rfl,rfl⟩
theorem Ka (v:Value) (ls:List ByteArray) (s:ByteArray) (w:World) (h:Bs w w.heap.size 1 v (ls.map fun s=>[Value.string s])) (hl:ls.length≤1000000):Calls Tryz.prog 88 #[v,.string s] w fun e' w'=>e'= .returned (.bool (H5 ls s))∧w'=w:=by
 have HI:=UX (JH v ls s w h hl);clear h hl;go_enter Tryz.func88,Tryz.ntmps88;go_wp2_with(go_at_call 127;refine HI.out.mono ?_;rintro e w2 ⟨r,rfl,hr,rfl⟩;have HR:=UX hr;clear hr);go_ret;exact⟨by rw[←HR.out];rfl,rfl⟩
theorem Md (w:World):Calls Tryz.prog 105 #[] w fun e' w'=>e'= .returned (.slice (some ⟨w.heap.size,0,none⟩) 5 5)∧Bs w' w'.heap.size 1 (.slice (some ⟨w.heap.size,0,none⟩) 5 5) (C0.map fun s=>[Value.string s])∧A5 w w':=by
 have hb:=Ux w 9 ((C0.map Value.string).toArray);have hG:=(Uv w).alloc (.cells ((C0.map Value.string).toArray) 9);go_enter Tryz.func105,Tryz.ntmps105;go_wp2_with fail;go_ret;refine⟨rfl,?_,hG⟩;refine⟨_,5,rfl,by decide,fun _=>⟨_,0,rfl,hb.lt,fun j cs hj k u hk=>?_⟩⟩;rw[Nat.zero_add,Nat.mul_one];have hj5:j<5:=(Uh.1 hj).1;rw[List.getElem?_map]at hj;obtain⟨x,hx,rfl⟩:=Option.map_eq_some_iff.1 hj;obtain⟨rfl,rfl⟩:k=0∧Value.string x=u:=by
  cases k with
  |zero=>exact⟨rfl,by simpa using hk⟩
  |succ k=>simp at hk
 refine(hb.cell j).trans ?_;rw[List.getElem?_toArray,List.getElem?_map,hx];rfl
end Go.Proofs.YtkclnhpofkaclaaGreatDoor
