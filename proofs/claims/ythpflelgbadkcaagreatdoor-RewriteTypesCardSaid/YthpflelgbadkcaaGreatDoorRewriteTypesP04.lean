/- What the card of the law stands on: RowR, TreeB, SameM, Nodes, RefB, Pack, Code, Second, RdA, RdB, RdC, RBits, CRead, ReadInts, RRead, RRd2, RRd3, RRd4, RRI, Dict, Texts, Equal, Find, ParPl. -/
import Derived.Test.YthpflelgbadkcaaGreatDoorRewriteTypesP01
import Derived.Test.YthpflelgbadkcaaGreatDoorRewriteTypesP02
import Derived.Test.YthpflelgbadkcaaGreatDoorRewriteTypesP03
import Derived.ChangeKeysEq
import Derived.Laws.StructEq
import Derived.Deep.DeepCutAuto
import Derived.Deep.RegionHeld3
import Derived.Deep.QuietTactic
import Derived.BigQuiet
import Derived.Maps.Own
import Derived.Maps.OwnOps
import Derived.Maps.OwnSet
import Derived.Maps.Views
set_option maxRecDepth 100000
set_option maxHeartbeats 12800000
set_option linter.unusedVariables false
set_option linter.unusedSimpArgs false
namespace Go.Proofs.YthpflelgbadkcaaGreatDoor
open Go.RowKit
structure My (P:Program) (t e:TypeId) (sz bytes:Nat) (z:Value):Prop where
 under:P.underlying t=some (.slice e)
 info:(P.info? e).map (fun i=>(i.zero,i.size,i.bytes))=some (some z,sz,bytes)
 cells:z.cells.size=sz
 pos:0<sz
 small:bytes≤1024
def I0 (sz:Nat) (rows:List (List Value)):Prop:=∀r∈rows,r.length=sz
theorem CV {sz:Nat}:∀{rows:List (List Value)},I0 sz rows→rows.flatten.length=rows.length*sz
 |[],_=>by simp
 |r::rs,h=>by
  rw[List.flatten_cons,VR,h r List.mem_cons_self,CV (fun r hr=>h r (List.mem_cons_of_mem _ hr)),List.length_cons,Nat.succ_mul];omega
theorem ED {sz:Nat}:∀{rows:List (List Value)} {j k:Nat} {cs:List Value} {u:Value},I0 sz rows→rows[j]? =some cs→cs[k]? =some u→rows.flatten[j*sz+k]? =some u
 |r::rs,0,k,cs,u,h,hj,hk=>by
  obtain rfl:r=cs:=by simpa using hj
  rw[List.flatten_cons,Nat.zero_mul,Nat.zero_add,List.getElem?_append_left (VG.1 hk).1];exact hk
 |r::rs,j+1,k,cs,u,h,hj,hk=>by
  have hl:=h r List.mem_cons_self;rw[List.flatten_cons,List.getElem?_append_right (by rw[hl,Nat.succ_mul];omega),hl,show(j+1)*sz+k-sz=j*sz+k by rw[Nat.succ_mul];omega];exact ED (fun r hr=>h r (List.mem_cons_of_mem _ hr)) (by simpa using hj) hk
def B8 (w:World) (base:Nat) (e:TypeId) (sz:Nat) (v:Value) (rows:List (List Value)):Prop:=w.ownsRow base e sz v rows.length rows.flatten∧I0 sz rows
section
variable {w w':World} {base sz:Nat} {e:TypeId} {v:Value} {rows:List (List Value)} {S:Nat→Prop}
theorem B8.nil (w:World) (base:Nat) (e:TypeId) (sz:Nat):B8 w base e sz (.slice none 0 0) []:=⟨World.ownsRow_nil _ _ _ _,by intro r hr;cases hr⟩
theorem B8.lt (h:B8 w base e sz v rows):∀k,v.ownBlock=some k→base≤k∧k<w.heap.size:=World.ownsRow.lt h.1
theorem B8.keep (h:B8 w base e sz v rows) (hk:AA S w w') (hv:∀k,v.ownBlock=some k→¬S k):B8 w' base e sz v rows:=by
 obtain⟨⟨h1,h2⟩,h3⟩:=h;refine⟨⟨h1,?_⟩,h3⟩;rcases h2 with h2|⟨g,cap,cur,rfl,hg,hh,r⟩
 ·exact .inl h2
 have hlt:g<w.heap.size:=by
  rcases Nat.lt_or_ge g w.heap.size with hlt|hge
  ·exact hlt
  rw[Array.getElem?_eq_none hge]at hh;cases hh
 exact .inr ⟨g,cap,cur,rfl,hg,(hk.block g hlt (hv g rfl)).trans hh,r⟩
theorem B8.grew (h:B8 w base e sz v rows) (hk:A4 w w'):B8 w' base e sz v rows:=h.keep hk fun _ _ e=>e
theorem B8.alloc (h:B8 w base e sz v rows) (o:Obj):B8 (w.alloc o) base e sz v rows:=⟨World.ownsRow.alloc h.1 o,h.2⟩
theorem B8.form (h:B8 w base e sz v rows):(v= .slice none 0 0∧rows=[])∨
  ∃g cap cur,v= .slice (some ⟨g,0,none⟩) rows.length cap∧base≤g∧AR w g e cur∧rows.length≤cap∧cap≤maxLen∧cur.size=cap*sz∧cur.toList.take (rows.length*sz)=rows.flatten:=by
 obtain⟨⟨h1,h2⟩,_⟩:=h;rcases h2 with⟨rfl,h2⟩|⟨g,cap,cur,rfl,hg,hh,h3,h4,h5,h6⟩
 ·exact .inl ⟨rfl,List.eq_nil_of_length_eq_zero h2⟩
 exact .inr ⟨g,cap,cur,rfl,hg,hh,h3,h4,h5,h6⟩
theorem B8.slice (h:B8 w base e sz v rows):∃A n c,v= .slice A n c∧n=rows.length∧n≤c:=by
 rcases h.form with⟨rfl,rfl⟩|⟨g,cap,cur,rfl,_,_,h1,_⟩
 ·exact⟨_,_,_,rfl,rfl,V6 _⟩
 exact⟨_,_,_,rfl,rfl,h1⟩
theorem B8.rd (h:B8 w base e sz v rows):Cg w w.heap.size sz v rows:=by
 have he:=h.2;rcases h.form with⟨rfl,rfl⟩|⟨g,cap,cur,rfl,hb,hbox,h1,h2,h3,h4⟩
 ·exact⟨none,0,rfl,V6 _,fun h=>absurd h (by simp)⟩
 refine⟨_,cap,rfl,h1,fun _=>⟨g,0,rfl,hbox.lt,fun j cs hj k u hk=>?_⟩⟩;have hf:=ED he hj hk;have hlt:j*sz+k<rows.length*sz:=by rw[←CV he];exact(VG.1 hf).1
 rw[Nat.zero_add,hbox.cell,←Array.getElem?_toList,←hf,←h4,List.getElem?_take,VN hlt]
end
section
variable {P:Program} {t e:TypeId} {sz bytes:Nat} {z:Value} {w:World} {base:Nat} {v:Value} {rows:List (List Value)}
theorem Hq (T:My P t e sz bytes z) (ty:TypeId) (hown:B8 w base e sz v rows) {B:Nat} {sv:Value} {news:List (List Value)} (hr:Cg w B sz sv news) (hev:I0 sz news) (h1:∀r∈news,∀u∈r,u.oneCell'=true)
  (hn:rows.length+news.length≤1099511627) (hbase:base≤w.heap.size):
  ∃v' w',(Builtin.append_ #[t,t] ty #[v,sv]).run P w= .ok v' w'∧B8 w' base e sz v' (rows++news)∧AA (fun i=>v.ownBlock=some i) w w'∧(v'.ownBlock=v.ownBlock∨v'.ownBlock=some w.heap.size):=by
 obtain⟨i,hi,hz,hs,hby⟩:=info_parts T.info;obtain⟨A,c,rfl,hc,hx⟩:=hr;have hb64:=T.small;rcases A with _|ad
 ·have hy:news=[]:=by
   rcases news with _|⟨y,ys⟩
   ·rfl
   obtain⟨b,o,h,_⟩:=hx (by simp);cases h
  subst hy;refine⟨v,w,?_,by simpa using hown,VY _ _,.inl rfl⟩;rcases hown.1.2 with⟨rfl,h0⟩|⟨g,cap,cur,rfl,_,_,hnc,_⟩
  ·have:rows=[]:=List.eq_nil_of_length_eq_zero h0;subst this;simp[Builtin.append_,run_underlying T.under,sizeOf,typeInfo,hi,Builtin.lenOf,Builtin.firstCells]
  simp[Builtin.append_,run_underlying T.under,sizeOf,typeInfo,hi,Builtin.lenOf,Builtin.firstCells,hnc,storeCells]
 have hcells:∀j u,news.flatten[j]? =some u→w.cell? (ad.add j)=some u:=by
  intro j u hu;have hj:j<news.flatten.length:=(VG.1 hu).1;have hlen:=CV hev;have hpos:0<news.length:=by
   rcases news with _|⟨y,ys⟩
   ·simp at hj
   simp
  obtain⟨b,o,h,_,hcell⟩:=hx hpos;injection h with h;subst h;have hq:j/sz<news.length:=by
   rw[Nat.div_lt_iff_lt_mul T.pos];omega
  have hjd:j/sz*sz+j%sz=j:=by rw[VO];exact Nat.div_add_mod j sz
  have hk:j%sz<(news[j/sz]).length:=by rw[hev _ (List.getElem_mem hq)];exact Nat.mod_lt _ T.pos
  have hf:=ED hev (VB hq) (VB hk);rw[hjd,hu]at hf;have hh:=hcell (j/sz) _ (VB hq) (j%sz) _ (VB hk);have e1:(⟨b,o,none⟩:Addr).add j=⟨b,o+j/sz*sz+j%sz,none⟩:=by
   rw[Nat.add_assoc,hjd];unfold Addr.add;split<;>simp_all
  rw[e1,hh];exact hf.symm
 have hm:(rows.length+news.length)*bytes≤140737488355328:=by
  have:=Nat.mul_le_mul hn hb64;omega
 obtain⟨v',w',hrun,h2,h3,_,h5⟩:=run_append_own_at (P:=P) w base t ty e i z sz bytes T.under hi hz hs hby T.cells T.pos v rows.length rows.flatten hown.1 ad news.length c news.flatten (CV hev) hcells (fun u hu=>by
  obtain⟨r,hr,hu⟩:=List.mem_flatten.1 hu;exact h1 r hr u hu) (by unfold maxLen;omega) hm hbase
 refine⟨v',w',hrun,⟨?_,fun r hr=>?_⟩,(VY _ w).grown h3 (fun k e _=>e),h5⟩
 ·rw[VR,List.flatten_append];exact h2
 rcases List.mem_append.1 hr with hr|hr
 ·exact hown.2 r hr
 exact hev r hr
theorem RZ {ops:Array Oper} {rest:List Oper} {o:Oper} {a:Act} {Q:Exit→Act→World→Prop} (T:My P t e sz bytes z) (hgd:o.guard=none) (s x:Operand)
  (ho:o.op= .call { callee:= .builtin .append,args:=#[s,x],argTypes:=#[t,t] })
  (hs:a.eval s=v) (hown:B8 w base e sz v rows) (g c:Nat) (d:List Value) (t':TypeId) (hx:a.eval x= .slice (some ⟨g,0,none⟩) 1 c) (hc1:1≤c) (hb:AR w g t' d.toArray) (hd:d.length=sz) (h1:∀u∈d,u.oneCell'=true)
  (hn:rows.length<1099511627) (hbase:base≤w.heap.size)
  (h:∀r cap w',B8 w' base e sz (.slice (some ⟨r,0,none⟩) (rows.length+1) cap) (rows++[d])→AA (fun i=>v.ownBlock=some i) w w'→
   (some r=v.ownBlock∨r=w.heap.size)→base≤r→r<w'.heap.size→wpList P ops Q rest (a.put o.dst (.slice (some ⟨r,0,none⟩) (rows.length+1) cap)) w'):wpList P ops Q (o::rest) a w:=by
 have hr:Cg w w.heap.size sz (.slice (some ⟨g,0,none⟩) 1 c) [d]:=by
  refine⟨_,c,rfl,hc1,fun _=>⟨_,_,rfl,hb.lt,fun j cs hj k u hk=>?_⟩⟩;obtain⟨rfl,rfl⟩:j=0∧d=cs:=by
   cases j with
   |zero=>exact⟨rfl,by simpa using hj⟩
   |succ j=>simp at hj
  rw[Nat.zero_mul,Nat.add_zero,Nat.zero_add,hb.cell];simpa using hk
 refine wpList_plain hgd fun K hK=>?_
 obtain⟨v',w',hrun,h2,h3,h4⟩:=Hq (P:=P) T o.type hown hr (by intro r hr;obtain rfl:=VF.1 hr;exact hd) (by intro r hr;obtain rfl:=VF.1 hr;exact h1) (by simp;omega) hbase;unfold Oper.wp execOp;simp only[ho,resolve,invoke,builtin,Sem.run_bind,Sem.run_pure,Result.andThen_ok,List.map_toArray,List.map_cons,List.map_nil,hs,hx,hrun];rcases h2.form with⟨_,hh⟩|⟨g',cap',cur,rfl,hb',hbox,_⟩
 ·simp at hh
 simp only[VR,List.length_singleton]at h2 h4 ⊢;refine hK _ _ (h g' cap' w' h2 h3 ?_ hb' hbox.lt);rcases h4 with h4|h4
 ·exact .inl h4
 right;simpa[Value.ownBlock]using h4
end
def JG (w:World) (B:Nat) (v:Value) (es:List Ex):Prop:=
 ∃A c,v= .slice A es.length c∧es.length≤c∧(0<es.length→∃b o,A=some ⟨b,o,none⟩∧b<B∧Ds w B b o es)
section
variable {w w':World} {B B':Nat}
theorem BU.open_ {e:Ex} {cs:List Value} (h:BU w B e cs):∃vm vb vk,cs=AC e vm vb vk∧Cg w B 3 vm (e.ms.map Ac)∧Cg w B 1 vb (e.bys.map fun s=>[Value.string s])∧JG w B vk e.kids:=by
 cases e;unfold BU at h;exact h
theorem BU.mk_ {e:Ex} {vm vb vk:Value} (h1:Cg w B 3 vm (e.ms.map Ac)) (h2:Cg w B 1 vb (e.bys.map fun s=>[Value.string s])) (h3:JG w B vk e.kids):BU w B e (AC e vm vb vk):=by
 cases e;unfold BU;exact⟨vm,vb,vk,rfl,h1,h2,h3⟩
theorem JG.nil (w:World) (B:Nat):JG w B (.slice none 0 0) []:=⟨none,0,rfl,V6 _,fun h=>absurd h (by simp)⟩
theorem Cg.nil (w:World) (B sz:Nat):Cg w B sz (.slice none 0 0) []:=⟨none,0,rfl,V6 _,fun h=>absurd h (by simp)⟩
theorem JG.keep {S:Nat→Prop} {v:Value} {es:List Ex} (h:JG w B v es) (hB:B≤w.heap.size) (hB':B≤B') (hk:AA S w w') (hs:∀i,i<B→¬S i):JG w' B' v es:=by
 obtain⟨A,c,hv,hc,hx⟩:=h;refine⟨A,c,hv,hc,fun hn=>?_⟩;obtain⟨b,o,e,hb,hks⟩:=hx hn;exact⟨b,o,e,by omega,Ds.keep hB hB' hk hs b hb es o hks⟩
theorem JG.grew {v:Value} {es:List Ex} (h:JG w w.heap.size v es) (g:A4 w w'):JG w' w'.heap.size v es:=h.keep (V6 _) g.size g (fun _ _ h=>h)
theorem JG.slice {v:Value} {es:List Ex} (h:JG w B v es):∃A n c,v= .slice A n c∧n=es.length∧n≤c:=by
 obtain⟨A,c,rfl,hc,_⟩:=h;exact⟨A,_,c,rfl,rfl,hc⟩
theorem JG.at_ {A:Option Addr} {n c j:Nat} {es:List Ex} {e:Ex} (h:JG w B (.slice A n c) es) (hj:es[j]? =some e):∃b o cs,A=some ⟨b,o,none⟩∧b<B∧w.rangeAt b (o+j*11) cs∧BU w B e cs:=by
 obtain⟨A',c',hv,_,hx⟩:=h;injection hv with hA;subst hA;have hl:j<es.length:=(VG.1 hj).1;obtain⟨b,o,rfl,hb,hks⟩:=hx (by omega);obtain⟨cs,h1,h2⟩:=hks.at_ hj;exact⟨b,o,cs,rfl,hb,h1,h2⟩
theorem Dn (e:Ex) (vm vb vk:Value):(AC e vm vb vk).length=11:=rfl
end
end Go.Proofs.YthpflelgbadkcaaGreatDoor
namespace Go.Proofs.YthpflelgbadkcaaGreatDoor
open Go.RowKit Pl
theorem FT:(Tryz.prog.info? 68).map (·.size)=some 3:=by kernel_rfl
theorem Cg.grew {w w':World} {sz:Nat} {v:Value} {rows:List (List Value)} (h:Cg w w.heap.size sz v rows) (g:A4 w w'):Cg w' w'.heap.size sz v rows:=h.keep (V6 _) g.size g (fun _ _ h=>h)
theorem Cg.at_ {w:World} {B sz:Nat} {A:Option Addr} {n c j:Nat} {rows:List (List Value)} {cs:List Value} (h:Cg w B sz (.slice A n c) rows) (hj:rows[j]? =some cs):∃b o,A=some ⟨b,o,none⟩∧w.rangeAt b (o+j*sz) cs:=by
 obtain⟨A',c',hv,hc,hx⟩:=h;injection hv with e1 e2 e3;subst e1;obtain⟨b,o,e, -,hcell⟩:=hx (by have:=(VG.1 hj).1;omega);exact⟨b,o,e,hcell j cs hj⟩
theorem Cg.slice {w:World} {B sz:Nat} {v:Value} {rows:List (List Value)} (h:Cg w B sz v rows):∃A c,v= .slice A rows.length c∧rows.length≤c:=by
 obtain⟨A,c,hv,hc, -⟩:=h;exact⟨A,c,hv,hc⟩
theorem Az (e:Ex):AH e=1+Ar e.kids:=by
 cases e;rw[AH];rfl
theorem CF:∀es:List Ex,es.length≤Ar es
 |[]=>by simp
 |e::es=>by
  have h1:=CF es;have h2:=Aj e;unfold Ar;rw[List.length_cons];omega
theorem AE:(Tryz.prog.info? 29).map (·.size)=some 11:=by kernel_rfl
theorem rX:Lf 29 11:=⟨AE,_,Tryz.underlying29,rfl⟩
theorem A4.app {w0 w w':World} {e:TypeId} {v:Value} {xs:List Value} (h:A4 w0 w) (hm:B9 w w0.heap.size e v xs) (hk:AA (fun i=>v.ownBlock=some i) w w'):A4 w0 w':=
 VV h hk fun i hi e=>by have:=(hm.lt i e).1;omega
theorem A4.alloc {w0 w:World} (h:A4 w0 w) (o:Obj):A4 w0 (w.alloc o):=AA.alloc h o
theorem B9.slice {w:World} {base:Nat} {e:TypeId} {v:Value} {xs:List Value} (h:B9 w base e v xs):∃A n c,v= .slice A n c∧n=xs.length:=by
 rcases h.form with⟨rfl,rfl⟩|⟨g,cap,cur,rfl,_⟩
 ·exact⟨_,_,_,rfl,rfl⟩
 exact⟨_,_,_,rfl,rfl⟩
theorem B9.cellAt {w:World} {base:Nat} {e:TypeId} {r n c:Nat} {xs:List Value} (h:B9 w base e (.slice (some ⟨r,0,none⟩) n c) xs) {j:Nat} (hj:j<xs.length):w.cell? ⟨r,j,none⟩=some xs[j]:=by
 rcases h.form with⟨h,_⟩|⟨g,cap,cur,hv,_,hb,_,_,_,h4⟩
 ·cases h
 injection hv with hv _ _;injection hv with hv;injection hv with hv _ _;subst hv;rw[hb.cell,←Array.getElem?_toList];have:(cur.toList.take xs.length)[j]? =some xs[j]:=by rw[h4];exact VB hj
 rw[List.getElem?_take,VN hj]at this;exact this
theorem Rd.int_at {w:World} {B:Nat} {A:Option Addr} {n c j:Nat} {l:List Int} (h:Rd w B (.slice A n c) (l.map vi)) (hj:j<l.length):∃ad,A=some ad∧ad.block<B∧w.cell? (ad.add j)=some (.int .i64 (l.getD j 0)):=by
 obtain⟨ad,u,rfl,hadb,hu,hcell⟩:=h.at_ (j:=j) (by rw[List.length_map];exact hj);refine⟨ad,rfl,hadb,?_⟩;rw[List.getElem?_map,VB hj]at hu;rw[hcell,←VE hu,List.getD_eq_getElem?_getD,VB hj];rfl
theorem Ft {l:List Int} (hi:∀x∈l,BI x) (j:Nat):BI (l.getD j 0):=by
 rw[List.getD_eq_getElem?_getD];by_cases hj:j<l.length
 ·rw[VB hj];exact hi _ (List.getElem_mem hj)
 rw[List.getElem?_eq_none (by omega)];show BI 0;unfold BI;omega
def GQ (g:Nat) (w w':World):Prop:=AA (fun i=>i=g) w w'
theorem GQ.refl (g:Nat) (w:World):GQ g w w:=VY _ _
theorem GQ.set (g:Nat) (w:World) (i:Nat) (u:Value):GQ g w (w.setCell ⟨g,i,none⟩ u):=(VY (fun i=>i=g) w).setCell (p:=⟨g,i,none⟩) (.inl rfl) u
end Go.Proofs.YthpflelgbadkcaaGreatDoor
namespace Go.Proofs.YthpflelgbadkcaaGreatDoor
open Go.RowKit Go.Shelf Pl
attribute [local go_sem] Oper.semAt_some
end Go.Proofs.YthpflelgbadkcaaGreatDoor
namespace Go.Proofs.YthpflelgbadkcaaGreatDoor
open Go.RowKit Pl
theorem Rd.byte_at {w:World} {B:Nat} {A:Option Addr} {n c j:Nat} {l:List Nat} (h:Rd w B (.slice A n c) (l.map vb)) (hj:j<l.length):∃ad,A=some ad∧ad.block<B∧w.cell? (ad.add j)=some (.int .u8 (l.getD j 0:Nat)):=by
 obtain⟨ad,u,rfl,hadb,hu,hcell⟩:=h.at_ (j:=j) (by rw[List.length_map];exact hj);refine⟨ad,rfl,hadb,?_⟩;rw[List.getElem?_map,VB hj]at hu;rw[hcell,←VE hu,List.getD_eq_getElem?_getD,VB hj];rfl
theorem Ox {l:List Nat} (hi:Bytes l) (j:Nat):l.getD j 0<256:=by
 rw[List.getD_eq_getElem?_getD];by_cases hj:j<l.length
 ·rw[VB hj];exact hi _ (List.getElem_mem hj)
 rw[List.getElem?_eq_none (by omega)];decide
end Go.Proofs.YthpflelgbadkcaaGreatDoor
namespace Go.Proofs.YthpflelgbadkcaaGreatDoor
open Go.RowKit Pl Go.Maps
abbrev UU:=List UInt8
def vs (s:UU):Value:= .string ⟨s.toArray⟩
end Go.Proofs.YthpflelgbadkcaaGreatDoor
namespace Go.Proofs.YthpflelgbadkcaaGreatDoor
open Go.RowKit Pl
theorem Ju (v u:Value) (xs ys:List UU) (w:World) (h:Rd w w.heap.size v (xs.map vs)) (k:Rd w w.heap.size u (ys.map vs)) (hl:xs.length≤1099511627776) (hl':ys.length≤1099511627776):
  Calls Tryz.prog 26 #[v,u] w fun e w'=>e= .returned (.bool (decide (xs=ys)))∧∃n,w'=w.drewN n:=by
 obtain⟨A,n,c,rfl,hn,hc⟩:=h.form;obtain⟨B,n',d,rfl,hn',hd⟩:=k.form;rw[List.length_map]at hn hn';have hnl:n≤1099511627776:=by omega
 have hnl':n'≤1099511627776:=by omega
 have HN:=V3 hn;have HN':=V3 hn';by_cases hne:n≠n'
 ·have t0:((n:Int) !=(n':Int))=true:=by rw[bne_iff_ne];omega
  have hD:decide (xs=ys)=false:=by
   rw[decide_eq_false_iff_not];rintro rfl;omega
  have HD:=V3 hD;clear hn hn' hne hD;go_enter Tryz.func26,Tryz.ntmps26;go_wp2_with fail;go_ret;exact⟨by rw[HD.out];rfl,0,rfl⟩
 obtain rfl:n=n':=by omega
 clear hn hn' hne;have t0:((n:Int) !=(n:Int))=false:=by simp
 go_enter Tryz.func26,Tryz.ntmps26;go_wp2_with fail;go_loopw [5] (fun i wr=>∃(j m:Nat),j≤n∧i= .int .i64 j∧wr=w.drewN m∧xs.take j=ys.take j) (fun i _=>n-(intOf i).toNat)
 case atStart=>exact⟨0,0,by omega,rfl,rfl,by simp⟩
 case round=>
  obtain⟨j,m,hj,rfl,rfl,htake⟩:=hrel;have HTK:=V3 htake;clear htake;by_cases hlt:j<n
  ·have hjx:j<xs.length:=by rw[←HN.out];exact hlt
   have hjy:j<ys.length:=by rw[←HN'.out];exact hlt
   obtain⟨ad,u1,rfl,hadb,hu,hcell⟩:=h.at_ (j:=j) (by rw[List.length_map];exact hjx);obtain⟨ad2,u2,rfl,hadb2,hu2,hcell2⟩:=k.at_ (j:=j) (by rw[List.length_map];exact hjy);obtain rfl:vs xs[j]=u1:=by
    rw[List.getElem?_map,VB hjx]at hu;injection hu
   obtain rfl:vs ys[j]=u2:=by
    rw[List.getElem?_map,VB hjy]at hu2;injection hu2
   unfold vs at hcell hcell2;clear hu hu2;by_cases hxy:xs[j]=ys[j]
   ·have hstep:xs.take (j+1)=ys.take (j+1):=L3 HTK.out (by rw[VB hjx,VB hjy,hxy]);have HS:=V3 hstep;rw[←hxy]at hcell2;clear hstep hxy;generalize xs[j]=x at*;clear hjx hjy;go_wp2_with fail;go_quiet (fail);go_wp2_with fail;go_roundw
    case rel=>exact⟨j+1,_,by omega,by go_num,rfl,HS.out⟩
    case measure=>simp[intOf];omega
   have hD:decide (xs=ys)=false:=by
    rw[decide_eq_false_iff_not];rintro rfl;exact hxy rfl
   have HD:=V3 hD;clear hD;generalize xs[j]=x at*;generalize ys[j]=y at*;have tx:(x==y)=false:=by rw[V4];exact hxy
   clear hxy hjx hjy;go_wp2_with fail;go_quiet (fail);go_wp2_with fail;go_ret;exact⟨by rw[HD.out];rfl,_,World.drewN_drewN _ _ _⟩
  have hD:decide (xs=ys)=true:=by
   rw[decide_eq_true_eq];refine Mo (n:=j) ?_ ?_ HTK.out
   ·rw[←HN.out];omega
   rw[←HN'.out];omega
  have HD:=V3 hD;clear hD;go_wp2_with fail;go_ret;exact⟨by rw[HD.out];rfl,_,rfl⟩
mutual
def El:Ex→Prop
 | .mk _ _ _ _ _ _ _ _ ms bys kids=>ms.length≤1000000∧bys.length≤1000000∧EW kids
def EW:List Ex→Prop
 |[]=>True
 |e::es=>El e∧EW es
end
theorem J3:∀{es:List Ex} {e:Ex},EW es→e∈es→El e
 |a::tl,e,h,hm=>by
  unfold EW at h;rcases List.mem_cons.1 hm with rfl|hm
  ·exact h.1
  exact J3 h.2 hm
theorem GP {e:Ex} (h:El e):e.ms.length≤1000000∧e.bys.length≤1000000∧EW e.kids:=by
 cases e;unfold El at h;exact h
theorem Cg.toRd {w:World} {B:Nat} {v:Value} {bys:List ByteArray} (h:Cg w B 1 v (bys.map fun s=>[Value.string s])):Rd w B v ((bys.map fun s=>s.data.toList).map vs):=by
 obtain⟨A,c,hv,hc,hx⟩:=h;refine⟨A,c,by rw[hv];simp,by simpa using hc,fun hn=>?_⟩;obtain⟨b,o,rfl,hb,hcell⟩:=hx (by simpa using hn);refine⟨_,rfl,hb,fun j u hu=>?_⟩;rw[List.getElem?_map,List.getElem?_map]at hu;cases hj:bys[j]? with
 |none=>rw[hj]at hu;cases hu
 |some s=>
  rw[hj]at hu;obtain rfl:vs s.data.toList=u:=by simpa using hu
  have:=hcell j [Value.string s] (by rw[List.getElem?_map,hj];rfl) 0 (Value.string s) rfl;rw[Addr.add_mid];rw[Nat.mul_one]at this;exact this
theorem Uk {P:Program} {ops:Array Oper} {rest:List Oper} {o:Oper} {a:Act} {w:World} {Q:Exit→Act→World→Prop} (T:TypeId) (x:Operand) (ho:o.op= .load T x) (hw:Region.wanted o (yielded ops a.tmps)=true) {d:TypeDesc} (hu:P.underlying T=some d) (hd:d.isRow=true) (g k:Nat) (vs:List Value) (hT:(P.info? T).map (·.size)=some vs.length)
  (hx:a.eval x= .pointer (some ⟨g,k,none⟩)) (hr:w.rangeAt g k vs) (h:wpList P ops Q rest (a.put o.dst (.agg vs.toArray)) w):wpList P ops Q (o::rest) a w:=
 wpList_step fun K hK=>by rw[VN hw];exact wp_load_mid T x ho g k hx vs d hr hu hd hT (hK _ _ h)
def Ih (ls:List ByteArray) (s:ByteArray):Bool:=ls.any fun a=>a.toList==s.toList
def MJ (ls:List ByteArray) (s:ByteArray) (w:World) (e:Ending) (w':World):Prop:=∃r:Int,e= .returned (.int .i64 r)∧decide (0≤r)=Ih ls s∧w'=w
theorem S9 {ls:List ByteArray} {s a:ByteArray} {j:Nat} (h:ls[j]? =some a) (he:(a.toList==s.toList)=true):Ih ls s=true:=List.any_eq_true.2 ⟨a,VJ h,he⟩
theorem T7 {ls:List ByteArray} {s:ByteArray} (h:∀(i:Nat) (a:ByteArray),ls[i]? =some a→(a.toList==s.toList)=false):Ih ls s=false:=by
 unfold Ih;rw[List.any_eq_false];intro a ha;obtain⟨i,hi⟩:=List.getElem?_of_mem ha;rw[h i a hi];simp
theorem KJ (v:Value) (ls:List ByteArray) (s:ByteArray) (w:World) (h:Cg w w.heap.size 1 v (ls.map fun s=>[Value.string s])) (hl:ls.length≤1000000):Calls Tryz.prog 122 #[v,.string s] w (MJ ls s w):=by
 obtain⟨A,c,rfl,hc,hx⟩:=h;rw[List.length_map]at hc hx ⊢;obtain⟨n,hn⟩:∃n,ls.length=n:=⟨_,rfl⟩;rw[hn]at hc hx hl ⊢;have HN:=V3 hn;have HX:=V3 hx;clear hn hx;go_enter Tryz.func122,Tryz.ntmps122;go_wp2_with fail;go_loopw [5,8] (fun _ i wr=>∃(j:Nat),j≤n∧(i= .int .i64 (j:Nat)∧w=wr)∧∀(i:Nat) (a:ByteArray),i<j→ls[i]? =some a→(a.toList==s.toList)=false) (fun _ i _=>n-(intOf i).toNat)
 case atStart=>exact⟨0,by omega,⟨rfl,rfl⟩,fun i a h _=>by omega⟩
 case round=>
  obtain⟨j,hj,⟨rfl,rfl⟩,hinv⟩:=hrel;have HI:=V3 hinv;clear hinv;by_cases hlt:j<n
  ·obtain⟨b,o,rfl,hb,hcell⟩:=HX.out (by omega);obtain⟨a,ha⟩:∃a,ls[j]? =some a:=⟨_,VB (by rw[HN.out];exact hlt)⟩;have hcl:w.cell? ⟨b,o+j,none⟩=some (.string a):=by
    have:=hcell j [.string a] (by rw[List.getElem?_map,ha];rfl) 0 _ rfl;rw[Nat.mul_one]at this;exact this
   have HA:=V3 ha;clear ha hcell;by_cases he:a.toList=s.toList
   ·have t1:(a.toList==s.toList)=true:=by rw[VC];exact he
    have t2:(s.toList==a.toList)=true:=by rw[VC];exact he.symm
    have HF:=V3 (S9 HA.out t1);clear he;go_wp2_with fail;go_ret;exact⟨_,rfl,by rw[HF.out];simp,rfl⟩
   have t1:(a.toList==s.toList)=false:=by rw[V4];exact he
   have t2:(s.toList==a.toList)=false:=by rw[V4];exact fun h=>he h.symm
   have HC:=V3 (show ∀(i:Nat) (a:ByteArray),i<j+1→ls[i]? =some a→(a.toList==s.toList)=false from fun i a' hi ha'=>by
    by_cases hij:i=j
    ·subst hij;rw[HA.out]at ha';obtain rfl:=VE ha';exact t1
    exact HI.out i a' (by omega) ha')
   clear he;go_wp2_with fail;go_roundw
   case rel=>exact⟨j+1,by omega,⟨by go_num,by simp⟩,HC.out⟩
   case measure=>simp[intOf];omega
  have HF:=V3 (T7 (ls:=ls) (s:=s) fun i a h=>HI.out i a (by have:=(VG.1 h).1;have:=HN.out;omega) h);obtain rfl:j=n:=by omega
  go_wp2_with fail;go_ret;exact⟨_,rfl,by rw[HF.out];rfl,rfl⟩
theorem LC (v:Value) (ls:List ByteArray) (s:ByteArray) (w:World) (h:Cg w w.heap.size 1 v (ls.map fun s=>[Value.string s])) (hl:ls.length≤1000000):Calls Tryz.prog 94 #[v,.string s] w fun e' w'=>e'= .returned (.bool (Ih ls s))∧w'=w:=by
 have HI:=V3 (KJ v ls s w h hl);clear h hl;go_enter Tryz.func94,Tryz.ntmps94;go_wp2_with(go_at_call 122;refine HI.out.mono ?_;rintro e w2 ⟨r,rfl,hr,rfl⟩;have HR:=V3 hr;clear hr);go_ret;exact⟨by rw[←HR.out];rfl,rfl⟩
end Go.Proofs.YthpflelgbadkcaaGreatDoor
namespace Go.Proofs.YthpflelgbadkcaaGreatDoor
open Go.RowKit
def UV:List ByteArray:=[⟨#[43]⟩,⟨#[45]⟩,⟨#[42]⟩,⟨#[47]⟩]
def Ml (f:Nat):ByteArray:=UV[f]?.getD ⟨#[]⟩
def PQ:List ByteArray:=["last".toUTF8,"least".toUTF8,"greatest".toUTF8,"total".toUTF8,"mean".toUTF8,"increase".toUTF8,"rate".toUTF8,"kth".toUTF8]
def FW (ts:List C7) (k:Nat) (s:ByteArray):Bool:=
 match ts with
 |[]=>false
 |t::_=>decide (t.kind=k)&&(t.text.toList==s.toList)
def Jc (ts:List C7) (k:Nat):Bool:=
 match ts with
 |[]=>false
 |t::_=>decide (t.kind=k)
def Oy (ts:List C7):Option (Nat×Nat×List C7):=
 match ts with
 |[]=>none
 |t::ts=>
  if t.kind=0 then
   match PQ.findIdx? fun a=>a.toList==t.text.toList with
   |none=>none
   |some f=>
    if f=0 then some (0,0,ts)
    else if f=7 then none
    else if FW ts 3 ⟨#[40]⟩then
     match ts.tail with
     |[]=>none
     |n::us=>if n.kind=1∧1≤n.num∧n.num≤4096∧FW us 3 ⟨#[41]⟩=true then some (f,n.num,us.tail)else none
    else none
  else none
def IK (f wd:Nat) (name:ByteArray):Ex:= .mk 1 f wd 0 0 0 0 name [] [] []
def N0 (name:ByteArray) (ts:List C7):Option (Ex×List C7):=
 if FW ts 3 ⟨#[123]⟩then none
 else if FW ts 3 ⟨#[46]⟩then
  match Oy ts.tail with
  |none=>none
  |some (f,wd,us)=>if FW us 3 ⟨#[64]⟩then none else some (IK f wd name,us)
 else if FW ts 3 ⟨#[64]⟩then none
 else some (IK 0 0 name,ts)
mutual
def CE:Nat→Nat→List C7→Option (Ex×List C7)
 |0,_,_=>none
 |k+1,0,ts=>
  match CE k 1 ts with
  |none=>none
  |some (e,us)=>Fk k 0 e us
 |k+1,1,ts=>
  match CE k 2 ts with
  |none=>none
  |some (e,us)=>Fk k 1 e us
 |k+1,_+2,ts=>
  match ts with
  |[]=>none
  |t::us=>
   if t.kind=1 then some (BB t.num 1,us)
   else if FW (t::us) 3 ⟨#[40]⟩then
    match CE k 0 us with
    |none=>none
    |some (e,vs)=>if FW vs 3 ⟨#[41]⟩then some (e,vs.tail)else none
   else if t.kind=0 then(if Ih DL t.text then none else N0 t.text us)
   else none
def Fk:Nat→Nat→Ex→List C7→Option (Ex×List C7)
 |0,_,_,_=>none
 |k+1,l,e,ts=>
  if FW ts 3 (Ml (2*l))then
   match CE k (l+1) ts.tail with
   |none=>none
   |some (r,us)=>Fk k l (Ax ((2*l:Nat):Int) e r) us
  else if FW ts 3 (Ml (2*l+1))then
   match CE k (l+1) ts.tail with
   |none=>none
   |some (r,us)=>Fk k l (Ax ((2*l+1:Nat):Int) e r) us
  else some (e,ts)
end
theorem RY {ts us:List C7} {f wd:Nat} (h:Oy ts=some (f,wd,us)):us.length≤ts.length:=by
 unfold Oy at h;split at h
 ·cases h
 split at h
 ·split at h
  ·cases h
  split at h
  ·simp only[VQ,VP]at h;obtain⟨-, -,rfl⟩:=h;simp
  split at h
  ·cases h
  split at h
  ·split at h
   ·cases h
   ·rename_i n us' hts
    have h1:=congrArg List.length hts;split at h
    ·simp only[VQ,VP]at h;obtain⟨-, -,rfl⟩:=h;simp at h1 ⊢;omega
    cases h
  cases h
 cases h
theorem Q8 {name:ByteArray} {ts us:List C7} {e:Ex} (h:N0 name ts=some (e,us)):us.length≤ts.length:=by
 unfold N0 at h;split at h
 ·cases h
 split at h
 ·split at h
  ·cases h
  ·rename_i hf
   split at h
   ·cases h
   simp only[VQ,VP]at h;obtain⟨-,rfl⟩:=h;have:=RY hf;rw[List.length_tail]at this;omega
 split at h
 ·cases h
 simp only[VQ,VP]at h;obtain⟨-,rfl⟩:=h;exact V6 _
theorem M6 (k l:Nat) (ts:List C7):CE (k+1) (l+2) ts=match ts with
  |[]=>none
  |t::us=>
   if t.kind=1 then some (BB t.num 1,us)
   else if FW (t::us) 3 ⟨#[40]⟩then
    match CE k 0 us with
    |none=>none
    |some (e,vs)=>if FW vs 3 ⟨#[41]⟩then some (e,vs.tail)else none
   else if t.kind=0 then(if Ih DL t.text then none else N0 t.text us)
   else none:=by
 rw[CE.eq_def]
theorem LL:∀k,(∀l ts e us,CE k l ts=some (e,us)→us.length<ts.length)∧(∀l e0 ts e us,Fk k l e0 ts=some (e,us)→us.length≤ts.length)
 |0=>⟨fun l ts e us h=>(by rw[CE]at h;cases h),fun l e0 ts e us h=>(by rw[Fk]at h;cases h)⟩
 |k+1=>by
  obtain⟨hp,hl⟩:=LL k;refine⟨fun l ts e us h=>?_,fun l e0 ts e us h=>?_⟩
  ·rcases l with _|_|l
   ·rw[CE]at h;split at h
    ·cases h
    ·rename_i h1
     have:=hp _ _ _ _ h1;have:=hl _ _ _ _ _ h;omega
   ·rw[CE]at h;split at h
    ·cases h
    ·rename_i h1
     have:=hp _ _ _ _ h1;have:=hl _ _ _ _ _ h;omega
   change CE (k+1) (l+2) ts=some (e,us)at h;rw[M6]at h;split at h
   ·cases h
   split at h
   ·simp only[VQ,VP]at h;obtain⟨-,rfl⟩:=h;simp
   split at h
   ·split at h
    ·cases h
    ·rename_i h1
     split at h
     ·simp only[VQ,VP]at h;obtain⟨-,rfl⟩:=h;have:=hp _ _ _ _ h1;simp;omega
     cases h
   split at h
   ·split at h
    ·cases h
    have:=Q8 h;simp;omega
   cases h
  rw[Fk]at h;split at h
  ·split at h
   ·cases h
   ·rename_i h1
    have:=hp _ _ _ _ h1;have:=hl _ _ _ _ _ h;rw[List.length_tail]at*;omega
  split at h
  ·split at h
   ·cases h
   ·rename_i h1
    have:=hp _ _ _ _ h1;have:=hl _ _ _ _ _ h;rw[List.length_tail]at*;omega
  simp only[VQ,VP]at h;obtain⟨-,rfl⟩:=h;exact V6 _
theorem Hs {k l:Nat} {ts us:List C7} {e:Ex} (h:CE k l ts=some (e,us)):us.length<ts.length:=(LL k).1 _ _ _ _ h
def LH (s:ByteArray):Option Ex:=
 match Oc s 2001 0 with
 |none=>none
 |some ts=>match CE (4*ts.length+4) 0 ts with
  |some (e,[])=>some e
  |_=>none
end Go.Proofs.YthpflelgbadkcaaGreatDoor
