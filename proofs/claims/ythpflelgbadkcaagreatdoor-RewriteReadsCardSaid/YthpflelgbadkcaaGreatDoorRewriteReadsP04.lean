/- What the card of the law stands on: RowR, TreeB, SameM, Nodes, RefB, Pack, Code, Second, RdA, RdB, RdC, RBits, CRead, ReadInts, RRead, RRd2, RRd3, RRd4, RRI, Dict, Texts, Equal, Find, ParPl, LexA. -/
import Derived.Test.YthpflelgbadkcaaGreatDoorRewriteReadsP01
import Derived.Test.YthpflelgbadkcaaGreatDoorRewriteReadsP03
import Derived.ChangeKeysEq
import Derived.Laws.StructEq
import Derived.Deep.DeepCutAuto
import Derived.Deep.RegionHeld3
import Derived.Deep.QuietTactic
import Derived.BigQuiet
import Derived.Maps.Own
import Derived.Maps.OwnOps
import Derived.Maps.OwnSet
import Derived.Maps.Views
import Derived.Test.YthpflelgbadkcaaGreatDoorRewriteReadsP02
set_option maxRecDepth 100000
set_option maxHeartbeats 12800000
set_option linter.unusedVariables false
set_option linter.unusedSimpArgs false
namespace Go.Proofs.YthpflelgbadkcaaGreatDoor
open Go.RowKit
structure P7 (P:Program) (t e:TypeId) (sz bytes:Nat) (z:Value):Prop where
 under:P.underlying t=some (.slice e)
 info:(P.info? e).map (fun i=>(i.zero,i.size,i.bytes))=some (some z,sz,bytes)
 cells:z.cells.size=sz
 pos:0<sz
 small:bytes≤1024
def KQ (sz:Nat) (rows:List (List Value)):Prop:=∀r∈rows,r.length=sz
theorem DT {sz:Nat}:∀{rows:List (List Value)},KQ sz rows→rows.flatten.length=rows.length*sz
 |[],_=>by simp
 |r::rs,h=>by
  rw[List.flatten_cons,SX,h r List.mem_cons_self,DT (fun r hr=>h r (List.mem_cons_of_mem _ hr)),List.length_cons,Nat.succ_mul];omega
theorem Ep {sz:Nat}:∀{rows:List (List Value)} {j k:Nat} {cs:List Value} {u:Value},KQ sz rows→rows[j]? =some cs→cs[k]? =some u→rows.flatten[j*sz+k]? =some u
 |r::rs,0,k,cs,u,h,hj,hk=>by
  obtain rfl:r=cs:=by simpa using hj
  rw[List.flatten_cons,Nat.zero_mul,Nat.zero_add,List.getElem?_append_left (SK.1 hk).1];exact hk
 |r::rs,j+1,k,cs,u,h,hj,hk=>by
  have hl:=h r List.mem_cons_self;rw[List.flatten_cons,List.getElem?_append_right (by rw[hl,Nat.succ_mul];omega),hl,show(j+1)*sz+k-sz=j*sz+k by rw[Nat.succ_mul];omega];exact Ep (fun r hr=>h r (List.mem_cons_of_mem _ hr)) (by simpa using hj) hk
def BJ (w:World) (base:Nat) (e:TypeId) (sz:Nat) (v:Value) (rows:List (List Value)):Prop:=w.ownsRow base e sz v rows.length rows.flatten∧KQ sz rows
section
variable {w w':World} {base sz:Nat} {e:TypeId} {v:Value} {rows:List (List Value)} {S:Nat→Prop}
theorem BJ.nil (w:World) (base:Nat) (e:TypeId) (sz:Nat):BJ w base e sz (.slice none 0 0) []:=⟨World.ownsRow_nil _ _ _ _,by intro r hr;cases hr⟩
theorem BJ.lt (h:BJ w base e sz v rows):∀k,v.ownBlock=some k→base≤k∧k<w.heap.size:=World.ownsRow.lt h.1
theorem BJ.keep (h:BJ w base e sz v rows) (hk:AC S w w') (hv:∀k,v.ownBlock=some k→¬S k):BJ w' base e sz v rows:=by
 obtain⟨⟨h1,h2⟩,h3⟩:=h;refine⟨⟨h1,?_⟩,h3⟩;rcases h2 with h2|⟨g,cap,cur,rfl,hg,hh,r⟩
 ·exact .inl h2
 have hlt:g<w.heap.size:=by
  rcases Nat.lt_or_ge g w.heap.size with hlt|hge
  ·exact hlt
  rw[Array.getElem?_eq_none hge]at hh;cases hh
 exact .inr ⟨g,cap,cur,rfl,hg,(hk.block g hlt (hv g rfl)).trans hh,r⟩
theorem BJ.grew (h:BJ w base e sz v rows) (hk:A5 w w'):BJ w' base e sz v rows:=h.keep hk fun _ _ e=>e
theorem BJ.alloc (h:BJ w base e sz v rows) (o:Obj):BJ (w.alloc o) base e sz v rows:=⟨World.ownsRow.alloc h.1 o,h.2⟩
theorem BJ.form (h:BJ w base e sz v rows):(v= .slice none 0 0∧rows=[])∨
  ∃g cap cur,v= .slice (some ⟨g,0,none⟩) rows.length cap∧base≤g∧Ag w g e cur∧rows.length≤cap∧cap≤maxLen∧cur.size=cap*sz∧cur.toList.take (rows.length*sz)=rows.flatten:=by
 obtain⟨⟨h1,h2⟩,_⟩:=h;rcases h2 with⟨rfl,h2⟩|⟨g,cap,cur,rfl,hg,hh,h3,h4,h5,h6⟩
 ·exact .inl ⟨rfl,List.eq_nil_of_length_eq_zero h2⟩
 exact .inr ⟨g,cap,cur,rfl,hg,hh,h3,h4,h5,h6⟩
theorem BJ.slice (h:BJ w base e sz v rows):∃A n c,v= .slice A n c∧n=rows.length∧n≤c:=by
 rcases h.form with⟨rfl,rfl⟩|⟨g,cap,cur,rfl,_,_,h1,_⟩
 ·exact⟨_,_,_,rfl,rfl,SD _⟩
 exact⟨_,_,_,rfl,rfl,h1⟩
theorem BJ.rd (h:BJ w base e sz v rows):Ch w w.heap.size sz v rows:=by
 have he:=h.2;rcases h.form with⟨rfl,rfl⟩|⟨g,cap,cur,rfl,hb,hbox,h1,h2,h3,h4⟩
 ·exact⟨none,0,rfl,SD _,fun h=>absurd h (by simp)⟩
 refine⟨_,cap,rfl,h1,fun _=>⟨g,0,rfl,hbox.lt,fun j cs hj k u hk=>?_⟩⟩;have hf:=Ep he hj hk;have hlt:j*sz+k<rows.length*sz:=by rw[←DT he];exact(SK.1 hf).1
 rw[Nat.zero_add,hbox.cell,←Array.getElem?_toList,←hf,←h4,List.getElem?_take,SR hlt]
end
section
variable {P:Program} {t e:TypeId} {sz bytes:Nat} {z:Value} {w:World} {base:Nat} {v:Value} {rows:List (List Value)}
theorem GJ (T:P7 P t e sz bytes z) (ty:TypeId) (hown:BJ w base e sz v rows) {B:Nat} {sv:Value} {news:List (List Value)} (hr:Ch w B sz sv news) (hev:KQ sz news) (h1:∀r∈news,∀u∈r,u.oneCell'=true)
  (hn:rows.length+news.length≤1099511627) (hbase:base≤w.heap.size):
  ∃v' w',(Builtin.append_ #[t,t] ty #[v,sv]).run P w= .ok v' w'∧BJ w' base e sz v' (rows++news)∧AC (fun i=>v.ownBlock=some i) w w'∧(v'.ownBlock=v.ownBlock∨v'.ownBlock=some w.heap.size):=by
 obtain⟨i,hi,hz,hs,hby⟩:=info_parts T.info;obtain⟨A,c,rfl,hc,hx⟩:=hr;have hb64:=T.small;rcases A with _|ad
 ·have hy:news=[]:=by
   rcases news with _|⟨y,ys⟩
   ·rfl
   obtain⟨b,o,h,_⟩:=hx (by simp);cases h
  subst hy;refine⟨v,w,?_,by simpa using hown,Se _ _,.inl rfl⟩;rcases hown.1.2 with⟨rfl,h0⟩|⟨g,cap,cur,rfl,_,_,hnc,_⟩
  ·have:rows=[]:=List.eq_nil_of_length_eq_zero h0;subst this;simp[Builtin.append_,run_underlying T.under,sizeOf,typeInfo,hi,Builtin.lenOf,Builtin.firstCells]
  simp[Builtin.append_,run_underlying T.under,sizeOf,typeInfo,hi,Builtin.lenOf,Builtin.firstCells,hnc,storeCells]
 have hcells:∀j u,news.flatten[j]? =some u→w.cell? (ad.add j)=some u:=by
  intro j u hu;have hj:j<news.flatten.length:=(SK.1 hu).1;have hlen:=DT hev;have hpos:0<news.length:=by
   rcases news with _|⟨y,ys⟩
   ·simp at hj
   simp
  obtain⟨b,o,h,_,hcell⟩:=hx hpos;injection h with h;subst h;have hq:j/sz<news.length:=by
   rw[Nat.div_lt_iff_lt_mul T.pos];omega
  have hjd:j/sz*sz+j%sz=j:=by rw[SS];exact Nat.div_add_mod j sz
  have hk:j%sz<(news[j/sz]).length:=by rw[hev _ (List.getElem_mem hq)];exact Nat.mod_lt _ T.pos
  have hf:=Ep hev (SF hq) (SF hk);rw[hjd,hu]at hf;have hh:=hcell (j/sz) _ (SF hq) (j%sz) _ (SF hk);have e1:(⟨b,o,none⟩:Addr).add j=⟨b,o+j/sz*sz+j%sz,none⟩:=by
   rw[Nat.add_assoc,hjd];unfold Addr.add;split<;>simp_all
  rw[e1,hh];exact hf.symm
 have hm:(rows.length+news.length)*bytes≤140737488355328:=by
  have:=Nat.mul_le_mul hn hb64;omega
 obtain⟨v',w',hrun,h2,h3,_,h5⟩:=run_append_own_at (P:=P) w base t ty e i z sz bytes T.under hi hz hs hby T.cells T.pos v rows.length rows.flatten hown.1 ad news.length c news.flatten (DT hev) hcells (fun u hu=>by
  obtain⟨r,hr,hu⟩:=List.mem_flatten.1 hu;exact h1 r hr u hu) (by unfold maxLen;omega) hm hbase
 refine⟨v',w',hrun,⟨?_,fun r hr=>?_⟩,(Se _ w).grown h3 (fun k e _=>e),h5⟩
 ·rw[SX,List.flatten_append];exact h2
 rcases List.mem_append.1 hr with hr|hr
 ·exact hown.2 r hr
 exact hev r hr
theorem PR {ops:Array Oper} {rest:List Oper} {o:Oper} {a:Act} {Q:Exit→Act→World→Prop} (T:P7 P t e sz bytes z) (hgd:o.guard=none) (s x:Operand)
  (ho:o.op= .call { callee:= .builtin .append,args:=#[s,x],argTypes:=#[t,t] })
  (hs:a.eval s=v) (hown:BJ w base e sz v rows) (g c:Nat) (d:List Value) (t':TypeId) (hx:a.eval x= .slice (some ⟨g,0,none⟩) 1 c) (hc1:1≤c) (hb:Ag w g t' d.toArray) (hd:d.length=sz) (h1:∀u∈d,u.oneCell'=true)
  (hn:rows.length<1099511627) (hbase:base≤w.heap.size)
  (h:∀r cap w',BJ w' base e sz (.slice (some ⟨r,0,none⟩) (rows.length+1) cap) (rows++[d])→AC (fun i=>v.ownBlock=some i) w w'→
   (some r=v.ownBlock∨r=w.heap.size)→base≤r→r<w'.heap.size→wpList P ops Q rest (a.put o.dst (.slice (some ⟨r,0,none⟩) (rows.length+1) cap)) w'):wpList P ops Q (o::rest) a w:=by
 have hr:Ch w w.heap.size sz (.slice (some ⟨g,0,none⟩) 1 c) [d]:=by
  refine⟨_,c,rfl,hc1,fun _=>⟨_,_,rfl,hb.lt,fun j cs hj k u hk=>?_⟩⟩;obtain⟨rfl,rfl⟩:j=0∧d=cs:=by
   cases j with
   |zero=>exact⟨rfl,by simpa using hj⟩
   |succ j=>simp at hj
  rw[Nat.zero_mul,Nat.add_zero,Nat.zero_add,hb.cell];simpa using hk
 refine wpList_plain hgd fun K hK=>?_
 obtain⟨v',w',hrun,h2,h3,h4⟩:=GJ (P:=P) T o.type hown hr (by intro r hr;obtain rfl:=SJ.1 hr;exact hd) (by intro r hr;obtain rfl:=SJ.1 hr;exact h1) (by simp;omega) hbase;unfold Oper.wp execOp;simp only[ho,resolve,invoke,builtin,Sem.run_bind,Sem.run_pure,Result.andThen_ok,List.map_toArray,List.map_cons,List.map_nil,hs,hx,hrun];rcases h2.form with⟨_,hh⟩|⟨g',cap',cur,rfl,hb',hbox,_⟩
 ·simp at hh
 simp only[SX,List.length_singleton]at h2 h4 ⊢;refine hK _ _ (h g' cap' w' h2 h3 ?_ hb' hbox.lt);rcases h4 with h4|h4
 ·exact .inl h4
 right;simpa[Value.ownBlock]using h4
end
def I1 (w:World) (B:Nat) (v:Value) (es:List Ex):Prop:=
 ∃A c,v= .slice A es.length c∧es.length≤c∧(0<es.length→∃b o,A=some ⟨b,o,none⟩∧b<B∧D3 w B b o es)
section
variable {w w':World} {B B':Nat}
theorem BZ.open_ {e:Ex} {cs:List Value} (h:BZ w B e cs):∃vm vb vk,cs=AE e vm vb vk∧Ch w B 3 vm (e.ms.map Au)∧Ch w B 1 vb (e.bys.map fun s=>[Value.string s])∧I1 w B vk e.kids:=by
 cases e;unfold BZ at h;exact h
theorem BZ.mk_ {e:Ex} {vm vb vk:Value} (h1:Ch w B 3 vm (e.ms.map Au)) (h2:Ch w B 1 vb (e.bys.map fun s=>[Value.string s])) (h3:I1 w B vk e.kids):BZ w B e (AE e vm vb vk):=by
 cases e;unfold BZ;exact⟨vm,vb,vk,rfl,h1,h2,h3⟩
theorem I1.nil (w:World) (B:Nat):I1 w B (.slice none 0 0) []:=⟨none,0,rfl,SD _,fun h=>absurd h (by simp)⟩
theorem Ch.nil (w:World) (B sz:Nat):Ch w B sz (.slice none 0 0) []:=⟨none,0,rfl,SD _,fun h=>absurd h (by simp)⟩
theorem I1.keep {S:Nat→Prop} {v:Value} {es:List Ex} (h:I1 w B v es) (hB:B≤w.heap.size) (hB':B≤B') (hk:AC S w w') (hs:∀i,i<B→¬S i):I1 w' B' v es:=by
 obtain⟨A,c,hv,hc,hx⟩:=h;refine⟨A,c,hv,hc,fun hn=>?_⟩;obtain⟨b,o,e,hb,hks⟩:=hx hn;exact⟨b,o,e,by omega,D3.keep hB hB' hk hs b hb es o hks⟩
theorem I1.grew {v:Value} {es:List Ex} (h:I1 w w.heap.size v es) (g:A5 w w'):I1 w' w'.heap.size v es:=h.keep (SD _) g.size g (fun _ _ h=>h)
theorem I1.slice {v:Value} {es:List Ex} (h:I1 w B v es):∃A n c,v= .slice A n c∧n=es.length∧n≤c:=by
 obtain⟨A,c,rfl,hc,_⟩:=h;exact⟨A,_,c,rfl,rfl,hc⟩
theorem I1.at_ {A:Option Addr} {n c j:Nat} {es:List Ex} {e:Ex} (h:I1 w B (.slice A n c) es) (hj:es[j]? =some e):∃b o cs,A=some ⟨b,o,none⟩∧b<B∧w.rangeAt b (o+j*11) cs∧BZ w B e cs:=by
 obtain⟨A',c',hv,_,hx⟩:=h;injection hv with hA;subst hA;have hl:j<es.length:=(SK.1 hj).1;obtain⟨b,o,rfl,hb,hks⟩:=hx (by omega);obtain⟨cs,h1,h2⟩:=hks.at_ hj;exact⟨b,o,cs,rfl,hb,h1,h2⟩
theorem Ck (e:Ex) (vm vb vk:Value):(AE e vm vb vk).length=11:=rfl
end
end Go.Proofs.YthpflelgbadkcaaGreatDoor
namespace Go.Proofs.YthpflelgbadkcaaGreatDoor
open Go.RowKit Pl
theorem Ez:(Tryz.prog.info? 68).map (·.size)=some 3:=by kernel_rfl
theorem Ch.grew {w w':World} {sz:Nat} {v:Value} {rows:List (List Value)} (h:Ch w w.heap.size sz v rows) (g:A5 w w'):Ch w' w'.heap.size sz v rows:=h.keep (SD _) g.size g (fun _ _ h=>h)
theorem Ch.at_ {w:World} {B sz:Nat} {A:Option Addr} {n c j:Nat} {rows:List (List Value)} {cs:List Value} (h:Ch w B sz (.slice A n c) rows) (hj:rows[j]? =some cs):∃b o,A=some ⟨b,o,none⟩∧w.rangeAt b (o+j*sz) cs:=by
 obtain⟨A',c',hv,hc,hx⟩:=h;injection hv with e1 e2 e3;subst e1;obtain⟨b,o,e, -,hcell⟩:=hx (by have:=(SK.1 hj).1;omega);exact⟨b,o,e,hcell j cs hj⟩
theorem Ch.slice {w:World} {B sz:Nat} {v:Value} {rows:List (List Value)} (h:Ch w B sz v rows):∃A c,v= .slice A rows.length c∧rows.length≤c:=by
 obtain⟨A,c,hv,hc, -⟩:=h;exact⟨A,c,hv,hc⟩
theorem B9 (e:Ex):AL e=1+Af e.kids:=by
 cases e;rw[AL];rfl
theorem Bh:∀es:List Ex,es.length≤Af es
 |[]=>by simp
 |e::es=>by
  have h1:=Bh es;have h2:=Aw e;unfold Af;rw[List.length_cons];omega
theorem AD:(Tryz.prog.info? 29).map (·.size)=some 11:=by kernel_rfl
theorem A5.alloc {w0 w:World} (h:A5 w0 w) (o:Obj):A5 w0 (w.alloc o):=AC.alloc h o
theorem Ba.slice {w:World} {base:Nat} {e:TypeId} {v:Value} {xs:List Value} (h:Ba w base e v xs):∃A n c,v= .slice A n c∧n=xs.length:=by
 rcases h.form with⟨rfl,rfl⟩|⟨g,cap,cur,rfl,_⟩
 ·exact⟨_,_,_,rfl,rfl⟩
 exact⟨_,_,_,rfl,rfl⟩
theorem Ba.cellAt {w:World} {base:Nat} {e:TypeId} {r n c:Nat} {xs:List Value} (h:Ba w base e (.slice (some ⟨r,0,none⟩) n c) xs) {j:Nat} (hj:j<xs.length):w.cell? ⟨r,j,none⟩=some xs[j]:=by
 rcases h.form with⟨h,_⟩|⟨g,cap,cur,hv,_,hb,_,_,_,h4⟩
 ·cases h
 injection hv with hv _ _;injection hv with hv;injection hv with hv _ _;subst hv;rw[hb.cell,←Array.getElem?_toList];have:(cur.toList.take xs.length)[j]? =some xs[j]:=by rw[h4];exact SF hj
 rw[List.getElem?_take,SR hj]at this;exact this
theorem Rd.int_at {w:World} {B:Nat} {A:Option Addr} {n c j:Nat} {l:List Int} (h:Rd w B (.slice A n c) (l.map vi)) (hj:j<l.length):∃ad,A=some ad∧ad.block<B∧w.cell? (ad.add j)=some (.int .i64 (l.getD j 0)):=by
 obtain⟨ad,u,rfl,hadb,hu,hcell⟩:=h.at_ (j:=j) (by rw[List.length_map];exact hj);refine⟨ad,rfl,hadb,?_⟩;rw[List.getElem?_map,SF hj]at hu;rw[hcell,←SI hu,List.getD_eq_getElem?_getD,SF hj];rfl
theorem OA {l:List Int} (hi:∀x∈l,Bc x) (j:Nat):Bc (l.getD j 0):=by
 rw[List.getD_eq_getElem?_getD];by_cases hj:j<l.length
 ·rw[SF hj];exact hi _ (List.getElem_mem hj)
 rw[List.getElem?_eq_none (by omega)];show Bc 0;unfold Bc;omega
def C7 (g:Nat) (w w':World):Prop:=AC (fun i=>i=g) w w'
theorem C7.refl (g:Nat) (w:World):C7 g w w:=Se _ _
theorem C7.set (g:Nat) (w:World) (i:Nat) (u:Value):C7 g w (w.setCell ⟨g,i,none⟩ u):=(Se (fun i=>i=g) w).setCell (p:=⟨g,i,none⟩) (.inl rfl) u
end Go.Proofs.YthpflelgbadkcaaGreatDoor
namespace Go.Proofs.YthpflelgbadkcaaGreatDoor
open Go.RowKit Go.Shelf Pl
attribute [local go_sem] Oper.semAt_some
end Go.Proofs.YthpflelgbadkcaaGreatDoor
namespace Go.Proofs.YthpflelgbadkcaaGreatDoor
open Go.RowKit Pl
end Go.Proofs.YthpflelgbadkcaaGreatDoor
namespace Go.Proofs.YthpflelgbadkcaaGreatDoor
open Go.RowKit Pl Go.Maps
abbrev R5:=List UInt8
def vs (s:R5):Value:= .string ⟨s.toArray⟩
end Go.Proofs.YthpflelgbadkcaaGreatDoor
namespace Go.Proofs.YthpflelgbadkcaaGreatDoor
open Go.RowKit Pl
mutual
def E8:Ex→Prop
 | .mk _ _ _ _ _ _ _ _ ms bys kids=>ms.length≤1000000∧bys.length≤1000000∧EJ kids
def EJ:List Ex→Prop
 |[]=>True
 |e::es=>E8 e∧EJ es
end
theorem Io:∀{es:List Ex} {e:Ex},EJ es→e∈es→E8 e
 |a::tl,e,h,hm=>by
  unfold EJ at h;rcases List.mem_cons.1 hm with rfl|hm
  ·exact h.1
  exact Io h.2 hm
theorem G4 {e:Ex} (h:E8 e):e.ms.length≤1000000∧e.bys.length≤1000000∧EJ e.kids:=by
 cases e;unfold E8 at h;exact h
theorem S3 {P:Program} {ops:Array Oper} {rest:List Oper} {o:Oper} {a:Act} {w:World} {Q:Exit→Act→World→Prop} (T:TypeId) (x:Operand) (ho:o.op= .load T x) (hw:Region.wanted o (yielded ops a.tmps)=true) {d:TypeDesc} (hu:P.underlying T=some d) (hd:d.isRow=true) (g k:Nat) (vs:List Value) (hT:(P.info? T).map (·.size)=some vs.length)
  (hx:a.eval x= .pointer (some ⟨g,k,none⟩)) (hr:w.rangeAt g k vs) (h:wpList P ops Q rest (a.put o.dst (.agg vs.toArray)) w):wpList P ops Q (o::rest) a w:=
 wpList_step fun K hK=>by rw[SR hw];exact wp_load_mid T x ho g k hx vs d hr hu hd hT (hK _ _ h)
def Ht (ls:List ByteArray) (s:ByteArray):Bool:=ls.any fun a=>a.toList==s.toList
def LS (ls:List ByteArray) (s:ByteArray) (w:World) (e:Ending) (w':World):Prop:=∃r:Int,e= .returned (.int .i64 r)∧decide (0≤r)=Ht ls s∧w'=w
theorem Pj {ls:List ByteArray} {s a:ByteArray} {j:Nat} (h:ls[j]? =some a) (he:(a.toList==s.toList)=true):Ht ls s=true:=List.any_eq_true.2 ⟨a,SN h,he⟩
theorem Qr {ls:List ByteArray} {s:ByteArray} (h:∀(i:Nat) (a:ByteArray),ls[i]? =some a→(a.toList==s.toList)=false):Ht ls s=false:=by
 unfold Ht;rw[List.any_eq_false];intro a ha;obtain⟨i,hi⟩:=List.getElem?_of_mem ha;rw[h i a hi];simp
theorem JJ (v:Value) (ls:List ByteArray) (s:ByteArray) (w:World) (h:Ch w w.heap.size 1 v (ls.map fun s=>[Value.string s])) (hl:ls.length≤1000000):Calls Tryz.prog 122 #[v,.string s] w (LS ls s w):=by
 obtain⟨A,c,rfl,hc,hx⟩:=h;rw[List.length_map]at hc hx ⊢;obtain⟨n,hn⟩:∃n,ls.length=n:=⟨_,rfl⟩;rw[hn]at hc hx hl ⊢;have HN:=S9 hn;have HX:=S9 hx;clear hn hx;go_enter Tryz.func122,Tryz.ntmps122;go_wp2_with fail;go_loopw [5,8] (fun _ i wr=>∃(j:Nat),j≤n∧(i= .int .i64 (j:Nat)∧w=wr)∧∀(i:Nat) (a:ByteArray),i<j→ls[i]? =some a→(a.toList==s.toList)=false) (fun _ i _=>n-(intOf i).toNat)
 case atStart=>exact⟨0,by omega,⟨rfl,rfl⟩,fun i a h _=>by omega⟩
 case round=>
  obtain⟨j,hj,⟨rfl,rfl⟩,hinv⟩:=hrel;have HI:=S9 hinv;clear hinv;by_cases hlt:j<n
  ·obtain⟨b,o,rfl,hb,hcell⟩:=HX.out (by omega);obtain⟨a,ha⟩:∃a,ls[j]? =some a:=⟨_,SF (by rw[HN.out];exact hlt)⟩;have hcl:w.cell? ⟨b,o+j,none⟩=some (.string a):=by
    have:=hcell j [.string a] (by rw[List.getElem?_map,ha];rfl) 0 _ rfl;rw[Nat.mul_one]at this;exact this
   have HA:=S9 ha;clear ha hcell;by_cases he:a.toList=s.toList
   ·have t1:(a.toList==s.toList)=true:=by rw[SG];exact he
    have t2:(s.toList==a.toList)=true:=by rw[SG];exact he.symm
    have HF:=S9 (Pj HA.out t1);clear he;go_wp2_with fail;go_ret;exact⟨_,rfl,by rw[HF.out];simp,rfl⟩
   have t1:(a.toList==s.toList)=false:=by rw[SA];exact he
   have t2:(s.toList==a.toList)=false:=by rw[SA];exact fun h=>he h.symm
   have HC:=S9 (show ∀(i:Nat) (a:ByteArray),i<j+1→ls[i]? =some a→(a.toList==s.toList)=false from fun i a' hi ha'=>by
    by_cases hij:i=j
    ·subst hij;rw[HA.out]at ha';obtain rfl:=SI ha';exact t1
    exact HI.out i a' (by omega) ha')
   clear he;go_wp2_with fail;go_roundw
   case rel=>exact⟨j+1,by omega,⟨by go_num,by simp⟩,HC.out⟩
   case measure=>simp[intOf];omega
  have HF:=S9 (Qr (ls:=ls) (s:=s) fun i a h=>HI.out i a (by have:=(SK.1 h).1;have:=HN.out;omega) h);obtain rfl:j=n:=by omega
  go_wp2_with fail;go_ret;exact⟨_,rfl,by rw[HF.out];rfl,rfl⟩
theorem Ju (v:Value) (ls:List ByteArray) (s:ByteArray) (w:World) (h:Ch w w.heap.size 1 v (ls.map fun s=>[Value.string s])) (hl:ls.length≤1000000):Calls Tryz.prog 94 #[v,.string s] w fun e' w'=>e'= .returned (.bool (Ht ls s))∧w'=w:=by
 have HI:=S9 (JJ v ls s w h hl);clear h hl;go_enter Tryz.func94,Tryz.ntmps94;go_wp2_with(go_at_call 122;refine HI.out.mono ?_;rintro e w2 ⟨r,rfl,hr,rfl⟩;have HR:=S9 hr;clear hr);go_ret;exact⟨by rw[←HR.out];rfl,rfl⟩
end Go.Proofs.YthpflelgbadkcaaGreatDoor
namespace Go.Proofs.YthpflelgbadkcaaGreatDoor
open Go.RowKit
def Rm:List ByteArray:=[⟨#[43]⟩,⟨#[45]⟩,⟨#[42]⟩,⟨#[47]⟩]
def Lj (f:Nat):ByteArray:=Rm[f]?.getD ⟨#[]⟩
def Np:List ByteArray:=["last".toUTF8,"least".toUTF8,"greatest".toUTF8,"total".toUTF8,"mean".toUTF8,"increase".toUTF8,"rate".toUTF8,"kth".toUTF8]
def F3 (ts:List C3) (k:Nat) (s:ByteArray):Bool:=
 match ts with
 |[]=>false
 |t::_=>decide (t.kind=k)&&(t.text.toList==s.toList)
def IX (ts:List C3) (k:Nat):Bool:=
 match ts with
 |[]=>false
 |t::_=>decide (t.kind=k)
def N9 (ts:List C3):Option (Nat×Nat×List C3):=
 match ts with
 |[]=>none
 |t::ts=>
  if t.kind=0 then
   match Np.findIdx? fun a=>a.toList==t.text.toList with
   |none=>none
   |some f=>
    if f=0 then some (0,0,ts)
    else if f=7 then none
    else if F3 ts 3 ⟨#[40]⟩then
     match ts.tail with
     |[]=>none
     |n::us=>if n.kind=1∧1≤n.num∧n.num≤4096∧F3 us 3 ⟨#[41]⟩=true then some (f,n.num,us.tail)else none
    else none
  else none
def H8 (f wd:Nat) (name:ByteArray):Ex:= .mk 1 f wd 0 0 0 0 name [] [] []
def M6 (name:ByteArray) (ts:List C3):Option (Ex×List C3):=
 if F3 ts 3 ⟨#[123]⟩then none
 else if F3 ts 3 ⟨#[46]⟩then
  match N9 ts.tail with
  |none=>none
  |some (f,wd,us)=>if F3 us 3 ⟨#[64]⟩then none else some (H8 f wd name,us)
 else if F3 ts 3 ⟨#[64]⟩then none
 else some (H8 0 0 name,ts)
mutual
def CA:Nat→Nat→List C3→Option (Ex×List C3)
 |0,_,_=>none
 |k+1,0,ts=>
  match CA k 1 ts with
  |none=>none
  |some (e,us)=>FE k 0 e us
 |k+1,1,ts=>
  match CA k 2 ts with
  |none=>none
  |some (e,us)=>FE k 1 e us
 |k+1,_+2,ts=>
  match ts with
  |[]=>none
  |t::us=>
   if t.kind=1 then some (BG t.num 1,us)
   else if F3 (t::us) 3 ⟨#[40]⟩then
    match CA k 0 us with
    |none=>none
    |some (e,vs)=>if F3 vs 3 ⟨#[41]⟩then some (e,vs.tail)else none
   else if t.kind=0 then(if Ht DC t.text then none else M6 t.text us)
   else none
def FE:Nat→Nat→Ex→List C3→Option (Ex×List C3)
 |0,_,_,_=>none
 |k+1,l,e,ts=>
  if F3 ts 3 (Lj (2*l))then
   match CA k (l+1) ts.tail with
   |none=>none
   |some (r,us)=>FE k l (BB ((2*l:Nat):Int) e r) us
  else if F3 ts 3 (Lj (2*l+1))then
   match CA k (l+1) ts.tail with
   |none=>none
   |some (r,us)=>FE k l (BB ((2*l+1:Nat):Int) e r) us
  else some (e,ts)
end
theorem OO {ts us:List C3} {f wd:Nat} (h:N9 ts=some (f,wd,us)):us.length≤ts.length:=by
 unfold N9 at h;split at h
 ·cases h
 split at h
 ·split at h
  ·cases h
  split at h
  ·simp only[SW,SV]at h;obtain⟨-, -,rfl⟩:=h;simp
  split at h
  ·cases h
  split at h
  ·split at h
   ·cases h
   ·rename_i n us' hts
    have h1:=congrArg List.length hts;split at h
    ·simp only[SW,SV]at h;obtain⟨-, -,rfl⟩:=h;simp at h1 ⊢;omega
    cases h
  cases h
 cases h
theorem P8 {name:ByteArray} {ts us:List C3} {e:Ex} (h:M6 name ts=some (e,us)):us.length≤ts.length:=by
 unfold M6 at h;split at h
 ·cases h
 split at h
 ·split at h
  ·cases h
  ·rename_i hf
   split at h
   ·cases h
   simp only[SW,SV]at h;obtain⟨-,rfl⟩:=h;have:=OO hf;rw[List.length_tail]at this;omega
 split at h
 ·cases h
 simp only[SW,SV]at h;obtain⟨-,rfl⟩:=h;exact SD _
theorem Ke (k l:Nat) (ts:List C3):CA (k+1) (l+2) ts=match ts with
  |[]=>none
  |t::us=>
   if t.kind=1 then some (BG t.num 1,us)
   else if F3 (t::us) 3 ⟨#[40]⟩then
    match CA k 0 us with
    |none=>none
    |some (e,vs)=>if F3 vs 3 ⟨#[41]⟩then some (e,vs.tail)else none
   else if t.kind=0 then(if Ht DC t.text then none else M6 t.text us)
   else none:=by
 rw[CA.eq_def]
theorem Lg:∀k,(∀l ts e us,CA k l ts=some (e,us)→us.length<ts.length)∧(∀l e0 ts e us,FE k l e0 ts=some (e,us)→us.length≤ts.length)
 |0=>⟨fun l ts e us h=>(by rw[CA]at h;cases h),fun l e0 ts e us h=>(by rw[FE]at h;cases h)⟩
 |k+1=>by
  obtain⟨hp,hl⟩:=Lg k;refine⟨fun l ts e us h=>?_,fun l e0 ts e us h=>?_⟩
  ·rcases l with _|_|l
   ·rw[CA]at h;split at h
    ·cases h
    ·rename_i h1
     have:=hp _ _ _ _ h1;have:=hl _ _ _ _ _ h;omega
   ·rw[CA]at h;split at h
    ·cases h
    ·rename_i h1
     have:=hp _ _ _ _ h1;have:=hl _ _ _ _ _ h;omega
   change CA (k+1) (l+2) ts=some (e,us)at h;rw[Ke]at h;split at h
   ·cases h
   split at h
   ·simp only[SW,SV]at h;obtain⟨-,rfl⟩:=h;simp
   split at h
   ·split at h
    ·cases h
    ·rename_i h1
     split at h
     ·simp only[SW,SV]at h;obtain⟨-,rfl⟩:=h;have:=hp _ _ _ _ h1;simp;omega
     cases h
   split at h
   ·split at h
    ·cases h
    have:=P8 h;simp;omega
   cases h
  rw[FE]at h;split at h
  ·split at h
   ·cases h
   ·rename_i h1
    have:=hp _ _ _ _ h1;have:=hl _ _ _ _ _ h;rw[List.length_tail]at*;omega
  split at h
  ·split at h
   ·cases h
   ·rename_i h1
    have:=hp _ _ _ _ h1;have:=hl _ _ _ _ _ h;rw[List.length_tail]at*;omega
  simp only[SW,SV]at h;obtain⟨-,rfl⟩:=h;exact SD _
theorem GP {k l:Nat} {ts us:List C3} {e:Ex} (h:CA k l ts=some (e,us)):us.length<ts.length:=(Lg k).1 _ _ _ _ h
def K7 (s:ByteArray):Option Ex:=
 match N3 s 2001 0 with
 |none=>none
 |some ts=>match CA (4*ts.length+4) 0 ts with
  |some (e,[])=>some e
  |_=>none
end Go.Proofs.YthpflelgbadkcaaGreatDoor
namespace Go.Proofs.YthpflelgbadkcaaGreatDoor
open Go.RowKit Pl
theorem E6 (b:Nat) (w:World):Calls Tryz.prog 137 #[.int .u8 b] w fun e w'=>e= .returned (.bool (Ff b))∧w'=w:=by
 go_enter Tryz.func137,Tryz.ntmps137;by_cases h1:97≤b
 ·have t1:decide ((97:Int)≤(b:Int))=true:=by simp;omega
  by_cases h2:b≤122
  ·have t2:decide ((b:Int)≤122)=true:=by simp;omega
   have HF:=S9 (show Ff b=true by unfold Ff;simp;omega);clear h1 h2;go_wp2_with fail;go_ret;exact⟨by rw[HF.out];rfl,rfl⟩
  have t2:decide ((b:Int)≤122)=false:=by simp;omega
  have HF:=S9 (show Ff b=false by unfold Ff;simp;omega);clear h1 h2;go_wp2_with fail;go_ret;exact⟨by rw[HF.out];rfl,rfl⟩
 have t1:decide ((97:Int)≤(b:Int))=false:=by simp;omega
 have HF:=S9 (show Ff b=false by unfold Ff;simp;omega);clear h1;go_wp2_with fail;go_ret;exact⟨by rw[HF.out];rfl,rfl⟩
theorem Ew (b:Nat) (w:World):Calls Tryz.prog 139 #[.int .u8 b] w fun e w'=>e= .returned (.bool (C4 b))∧w'=w:=by
 go_enter Tryz.func139,Tryz.ntmps139;by_cases h1:48≤b
 ·have t1:decide ((48:Int)≤(b:Int))=true:=by simp;omega
  by_cases h2:b≤57
  ·have t2:decide ((b:Int)≤57)=true:=by simp;omega
   have HF:=S9 (show C4 b=true by unfold C4;simp;omega);clear h1 h2;go_wp2_with fail;go_ret;exact⟨by rw[HF.out];rfl,rfl⟩
  have t2:decide ((b:Int)≤57)=false:=by simp;omega
  have HF:=S9 (show C4 b=false by unfold C4;simp;omega);clear h1 h2;go_wp2_with fail;go_ret;exact⟨by rw[HF.out];rfl,rfl⟩
 have t1:decide ((48:Int)≤(b:Int))=false:=by simp;omega
 have HF:=S9 (show C4 b=false by unfold C4;simp;omega);clear h1;go_wp2_with fail;go_ret;exact⟨by rw[HF.out];rfl,rfl⟩
theorem MI (b:Nat) (w:World):Calls Tryz.prog 153 #[.int .u8 b] w fun e w'=>e= .returned (.bool (Cc b))∧w'=w:=by
 have HL:=S9 (E6 b w);have HD:=S9 (Ew b w);go_enter Tryz.func153,Tryz.ntmps153;rcases hl:Ff b
 ·rw[hl]at HL;rcases hd:C4 b
  ·rw[hd]at HD;by_cases h9:b=95
   ·have t1:((b:Int)==95)=true:=by rw[SG];omega
    have HF:=S9 (show Cc b=true by unfold Cc;rw[hl,hd,h9];rfl);clear hl hd h9;go_wp2_with(first|(go_at_call 137;refine HL.out.mono ?_;rintro e3 w3 ⟨rfl,rfl⟩)|(go_at_call 139;refine HD.out.mono ?_;rintro e3 w3 ⟨rfl,rfl⟩));go_ret;exact⟨by rw[HF.out];rfl,rfl⟩
   have t1:((b:Int)==95)=false:=by rw[SA];omega
   have HF:=S9 (show Cc b=false by unfold Cc;rw[hl,hd];simpa using h9);clear hl hd h9;go_wp2_with(first|(go_at_call 137;refine HL.out.mono ?_;rintro e3 w3 ⟨rfl,rfl⟩)|(go_at_call 139;refine HD.out.mono ?_;rintro e3 w3 ⟨rfl,rfl⟩));go_ret;exact⟨by rw[HF.out];rfl,rfl⟩
  rw[hd]at HD;have HF:=S9 (show Cc b=true by unfold Cc;rw[hl,hd];rfl);clear hl hd;go_wp2_with(first|(go_at_call 137;refine HL.out.mono ?_;rintro e3 w3 ⟨rfl,rfl⟩)|(go_at_call 139;refine HD.out.mono ?_;rintro e3 w3 ⟨rfl,rfl⟩));go_ret;exact⟨by rw[HF.out];rfl,rfl⟩
 rw[hl]at HL;have HF:=S9 (show Cc b=true by unfold Cc;rw[hl];rfl);clear hl;go_wp2_with(first|(go_at_call 137;refine HL.out.mono ?_;rintro e3 w3 ⟨rfl,rfl⟩)|(go_at_call 139;refine HD.out.mono ?_;rintro e3 w3 ⟨rfl,rfl⟩));go_ret;exact⟨by rw[HF.out];rfl,rfl⟩
def Dn (w:World) (g:Nat) (s:ByteArray) (i:Nat) (e:Int):Prop:=Ag w g 181 #[.string s,.int .i64 (i:Nat),.int .i64 e]
theorem Ox (w:World) (g:Nat) (s:ByteArray) (i0 i:Nat) (e0:Int) (h:Dn w g s i0 e0) (hi:i≤s.size) (hs:s.size≤1000000):
  Calls Tryz.prog 152 #[.pointer (some ⟨g,0,none⟩),.int .i64 (i:Nat),.func (.func 153) #[] #[]] w fun e w'=>e= .returned (.int .i64 (Br s Cc (s.size-i) i:Nat))∧w'=w:=by
 have c0:w.cell? ⟨g,0,none⟩=some (.string s):=h.cell 0;clear h;obtain⟨r,hr⟩:∃r,Br s Cc (s.size-i) i=r:=⟨_,rfl⟩;rw[hr];go_enter Tryz.func152,Tryz.ntmps152;go_upto_region 1 with fail;have HR:=S9 hr;clear hr;go_loopw [1] (fun s1 wr=>∃(p:Nat),s1= .int .i64 (p:Nat)∧p≤s.size∧w=wr∧Br s Cc (s.size-p) p=r) (fun s1 _=>s.size-(intOf s1).toNat)
 case atStart=>exact⟨i,rfl,hi,rfl,HR.out⟩
 case round=>
  obtain⟨p,rfl,hp,rfl,hinv⟩:=hrel;have HI:=S9 hinv;clear hinv hi;by_cases hlt:p<s.size
  ·obtain⟨b,hbe⟩:∃b,(s[p]'hlt).toNat=b:=⟨_,rfl⟩;have HC:=S9 (MI b w);have LP:=hlt;have tl:decide ((p:Int)<(s.size:Int))=true:=by simp;omega
   have hch:=Gv hlt hbe;rcases hb:Cc b
   ·have HS:=S9 (show Br s Cc (s.size-p) p=p from FZ (fun hc=>by rw[hch,hb]at hc;cases hc.2));rw[hb]at HC;clear hch hb;go_wp2_with(go_at_call 153;refine HC.out.mono ?_;rintro e3 w3 ⟨rfl,rfl⟩);go_ret;exact⟨by rw[←HI.out,HS.out];rfl,rfl⟩
   have HS:=S9 (show Br s Cc (s.size-p) p=Br s Cc (s.size-(p+1)) (p+1)from Hc hlt (by rw[hch];exact hb));rw[hb]at HC;clear hch hb;go_wp2_with(go_at_call 153;refine HC.out.mono ?_;rintro e3 w3 ⟨rfl,rfl⟩);go_roundw
   case rel=>exact⟨p+1,by go_num,by omega,by simp,by rw[←HS.out];exact HI.out⟩
   case measure=>simp[intOf];omega
  have tl:decide ((p:Int)<(s.size:Int))=false:=by simp;omega
  have HS:=S9 (show Br s Cc (s.size-p) p=p from FZ (fun hc=>hlt hc.1));go_wp2_with fail;go_ret;exact⟨by rw[←HI.out,HS.out];rfl,rfl⟩
theorem PM (w:World) (g:Nat) (s:ByteArray) (i0 i:Nat) (e0:Int) (h:Dn w g s i0 e0) (hi:i≤s.size) (hs:s.size≤1000000):
  Calls Tryz.prog 152 #[.pointer (some ⟨g,0,none⟩),.int .i64 (i:Nat),.func (.func 139) #[] #[]] w fun e w'=>e= .returned (.int .i64 (Br s C4 (s.size-i) i:Nat))∧w'=w:=by
 have c0:w.cell? ⟨g,0,none⟩=some (.string s):=h.cell 0;clear h;obtain⟨r,hr⟩:∃r,Br s C4 (s.size-i) i=r:=⟨_,rfl⟩;rw[hr];go_enter Tryz.func152,Tryz.ntmps152;go_upto_region 1 with fail;have HR:=S9 hr;clear hr;go_loopw [1] (fun s1 wr=>∃(p:Nat),s1= .int .i64 (p:Nat)∧p≤s.size∧w=wr∧Br s C4 (s.size-p) p=r) (fun s1 _=>s.size-(intOf s1).toNat)
 case atStart=>exact⟨i,rfl,hi,rfl,HR.out⟩
 case round=>
  obtain⟨p,rfl,hp,rfl,hinv⟩:=hrel;have HI:=S9 hinv;clear hinv hi;by_cases hlt:p<s.size
  ·obtain⟨b,hbe⟩:∃b,(s[p]'hlt).toNat=b:=⟨_,rfl⟩;have HC:=S9 (Ew b w);have LP:=hlt;have tl:decide ((p:Int)<(s.size:Int))=true:=by simp;omega
   have hch:=Gv hlt hbe;rcases hb:C4 b
   ·have HS:=S9 (show Br s C4 (s.size-p) p=p from FZ (fun hc=>by rw[hch,hb]at hc;cases hc.2));rw[hb]at HC;clear hch hb;go_wp2_with(go_at_call 139;refine HC.out.mono ?_;rintro e3 w3 ⟨rfl,rfl⟩);go_ret;exact⟨by rw[←HI.out,HS.out];rfl,rfl⟩
   have HS:=S9 (show Br s C4 (s.size-p) p=Br s C4 (s.size-(p+1)) (p+1)from Hc hlt (by rw[hch];exact hb));rw[hb]at HC;clear hch hb;go_wp2_with(go_at_call 139;refine HC.out.mono ?_;rintro e3 w3 ⟨rfl,rfl⟩);go_roundw
   case rel=>exact⟨p+1,by go_num,by omega,by simp,by rw[←HS.out];exact HI.out⟩
   case measure=>simp[intOf];omega
  have tl:decide ((p:Int)<(s.size:Int))=false:=by simp;omega
  have HS:=S9 (show Br s C4 (s.size-p) p=p from FZ (fun hc=>hlt hc.1));go_wp2_with fail;go_ret;exact⟨by rw[←HI.out,HS.out];rfl,rfl⟩
end Go.Proofs.YthpflelgbadkcaaGreatDoor
