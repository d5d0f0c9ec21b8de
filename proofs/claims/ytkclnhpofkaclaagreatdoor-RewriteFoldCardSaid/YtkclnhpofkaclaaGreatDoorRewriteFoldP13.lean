/- What the card of the law stands on: ParB, RFold, TreeQ, TreeS. -/
import Derived.Test.YtkclnhpofkaclaaGreatDoorRewriteFoldP12
import Derived.Test.YtkclnhpofkaclaaGreatDoorRewriteFoldP04
import Derived.Test.YtkclnhpofkaclaaGreatDoorRewriteFoldP01
import Derived.Test.YtkclnhpofkaclaaGreatDoorRewriteFoldP11
import Derived.Test.YtkclnhpofkaclaaGreatDoorRewriteFoldP10
import Derived.Test.YtkclnhpofkaclaaGreatDoorRewriteFoldP03
set_option maxRecDepth 100000
set_option maxHeartbeats 12800000
set_option linter.unusedVariables false
set_option linter.unusedSimpArgs false
namespace Go.Proofs.YtkclnhpofkaclaaGreatDoor
open Go.RowKit Pl
theorem M4 (w:World) (k:Int) (s:ByteArray) (n f:Int):(Instr.field 131 (.agg #[.int .i64 k,.string s,.int .i64 n,.int .i64 f]) 2).run Tryz.prog w= .ok (.int .i64 n) w:=by kernel_rfl
theorem PM (w:World) (k:Int) (s:ByteArray) (n f:Int):(Instr.field 131 (.agg #[.int .i64 k,.string s,.int .i64 n,.int .i64 f]) 1).run Tryz.prog w= .ok (.string s) w:=by kernel_rfl
theorem DB {ts:List Bw} {k:Nat} {s:ByteArray} (h:Ey ts k s=true):∃t us,ts=t::us:=by
 rcases ts with _|⟨t,us⟩
 ·cases h
 exact⟨t,us,rfl⟩
theorem Ei (w:World) (g:Nat) (n:Int) (ts:List Bw) (s:ByteArray) (h:Cu w g n ts) (hf:Ey ts 3 s=false):
  Calls Tryz.prog 152 #[.pointer (some ⟨g,0,none⟩),.string s] w fun e w'=>e= .returned (.bool false)∧w'=w:=by
 have h1:=GU w g n ts 3 s h;rw[hf]at h1;have HI:=UX (show Calls Tryz.prog 151 #[.pointer (some ⟨g,0,none⟩),.int .i64 3,.string s] w (fun e w'=>e= .returned (.bool false)∧w'=w)from h1);clear h h1 hf;go_enter Tryz.func152,Tryz.ntmps152;go_wp2_with(go_at_call 151;(with_reducible refine HI.out.mono ?_);rintro e3 w3 ⟨rfl,rfl⟩);go_ret;exact⟨rfl,rfl⟩
theorem EM (w:World) (g:Nat) (n:Int) (t:Bw) (ts:List Bw) (s:ByteArray) (h:Cu w g n (t::ts)) (hf:Ey (t::ts) 3 s=true):
  Calls Tryz.prog 152 #[.pointer (some ⟨g,0,none⟩),.string s] w fun e w'=>e= .returned (.bool true)∧Cu w' g n ts∧Dl g w w':=by
 have h1:=GU w g n (t::ts) 3 s h;rw[hf]at h1;have HI:=UX (show Calls Tryz.prog 151 #[.pointer (some ⟨g,0,none⟩),.int .i64 3,.string s] w (fun e w'=>e= .returned (.bool true)∧w'=w)from h1);have HT:=UX (ES w g n t ts h);clear h h1 hf;go_enter Tryz.func152,Tryz.ntmps152;go_wp2_with(first|(go_at_call 151;(with_reducible refine HI.out.mono ?_);rintro e3 w3 ⟨rfl,rfl⟩)|(go_at_call 167;(with_reducible refine HT.out.mono ?_);rintro e3 w4 ⟨rfl,hp,hk⟩));go_ret;exact⟨rfl,hp,hk⟩
theorem Im (w:World) (g:Nat) (n:Int) (t:Bw) (ts:List Bw) (s:ByteArray) (h:Cu w g n (t::ts)) (hf:Ey (t::ts) 3 s=true):
  Calls Tryz.prog 169 #[.pointer (some ⟨g,0,none⟩),.string s] w fun e w'=>e= .returned (.tuple #[])∧Cu w' g n ts∧Dl g w w':=by
 have h1:=GU w g n (t::ts) 3 s h;rw[hf]at h1;have HI:=UX (show Calls Tryz.prog 151 #[.pointer (some ⟨g,0,none⟩),.int .i64 3,.string s] w (fun e w'=>e= .returned (.bool true)∧w'=w)from h1);have HT:=UX (ES w g n t ts h);clear h h1 hf;go_enter Tryz.func169,Tryz.ntmps169;go_wp2_with(first|(go_at_call 151;(with_reducible refine HI.out.mono ?_);rintro e3 w3 ⟨rfl,rfl⟩)|(go_at_call 167;(with_reducible refine HT.out.mono ?_);rintro e3 w4 ⟨rfl,hp,hk⟩));go_end0;exact⟨rfl,hp,hk⟩
theorem Om (w:World) (g:Nat) (n:Int) (t:Bw) (ts:List Bw) (lo hi:Int) (h:Cu w g n (t::ts)) (hk1:t.kind=1) (hlo:lo≤(t.num:Nat)) (hhi:(t.num:Nat)≤hi):
  Calls Tryz.prog 178 #[.pointer (some ⟨g,0,none⟩),.int .i64 lo,.int .i64 hi] w fun e w'=>e= .returned (.int .i64 (t.num:Nat))∧Cu w' g n ts∧Dl g w w':=by
 have h1:=FO w g n (t::ts) 1 h;rw[show IL (t::ts) 1=true from by rw[show IL (t::ts) 1=decide (t.kind=1)from rfl,hk1];rfl]at h1;have HI:=UX (show Calls Tryz.prog 168 #[.pointer (some ⟨g,0,none⟩),.int .i64 1] w (fun e w'=>e= .returned (.bool true)∧w'=w)from h1);obtain⟨A,m,c,hb,hr,rfl⟩:=id h;obtain⟨b,o,rfl, -, -, -, -,k2⟩:=In hr;have c0:w.cell? ⟨g,0,none⟩=some (.slice (some ⟨b,o,none⟩) (t::ts).length c):=hb.cell 0;rw[List.length_cons]at c0;obtain⟨m,hm⟩:∃m,ts.length=m:=⟨_,rfl⟩;rw[hm]at c0;obtain⟨tk,tt,tn,tf⟩:=t;have HT:=UX (show Calls Tryz.prog 167 #[.pointer (some ⟨g,0,none⟩)] w (fun e w'=>e= .returned (.agg #[.int .i64 (tk:Nat),.string tt,.int .i64 (tn:Nat),.int .i64 (tf:Nat)])∧Cu w' g n ts∧Dl g w w')from ES w g n ⟨tk,tt,tn,tf⟩ ts h);have k2:w.cell? ⟨b,o+2,none⟩=some (.int .i64 (tn:Nat)):=k2;have hlo:lo≤(tn:Int):=hlo;have hhi:(tn:Int)≤hi:=hhi;have t1:decide ((tn:Int)<lo)=false:=by rw[decide_eq_false_iff_not];omega
 have t2:decide ((tn:Int)>hi)=false:=by rw[decide_eq_false_iff_not];omega
 have hfd:=fun w'=>M4 w' (tk:Nat) tt (tn:Nat) (tf:Nat)
 clear h h1 hk1 hlo hhi hr hb hm;go_enter Tryz.func178,Tryz.ntmps178;go_wp2_with(first|(go_at_call 168;(with_reducible refine HI.out.mono ?_);rintro e3 w3 ⟨rfl,rfl⟩)|(go_at_call 167;(with_reducible refine HT.out.mono ?_);rintro e3 w4 ⟨rfl,hp,hk⟩));go_ret;exact⟨rfl,hp,hk⟩
def AE (x y:Int):List Value:=[.int .i64 0,.int .i64 0,.int .i64 0,.int .i64 0,.int .i64 0,.int .i64 x,.int .i64 y,.string ⟨#[]⟩,.slice none 0 0,.slice none 0 0,.slice none 0 0]
theorem Fa (x y:Int):∀v∈AE x y,v.oneCell'=true:=by
 intro v hv;simp[AE]at hv;rcases hv with rfl|rfl|rfl|rfl|rfl<;>rfl
theorem Ri {fn:Func} {p q:Tmp} {ty:TypeId} (h:fn.results=#[.cell p ty,.tmp q]) {tmps:Array Value} {w:World} {g:Nat} {vs:List Value} {v:Value} {t:TypeId} (hp:tmps.getD p undef= .pointer (some ⟨g,0,none⟩)) (hq:tmps.getD q undef=v) (hT:(Tryz.prog.info? ty).map (·.size)=some vs.length) {d:TypeDesc} (hu:Tryz.prog.underlying ty=some d) (hd:d.isRow=true) (hb:AK w g t vs.toArray):
  (results fn tmps).run Tryz.prog w= .ok (.tuple #[.agg vs.toArray,v]) w:=KD h hp hq hT hu hd hb
theorem Nq (e ea eb:Ex) (vm vb:Value) (A:Option Addr) (c:Nat) (w:World) (hT:Gw w w.heap.size (.slice A 2 c) e.kids) (hk:e.kids=[ea,eb]) (h3:e.kind=3) (ha:ea.kind=0) (hb:eb.kind=0) (hfn:Ah e.fn) (hn1:Ah ea.num) (hd1:Ah ea.den) (hn2:Ah eb.num) (hd2:Ah eb.den) (x y er:Int) (hap:Bc e.fn ea.num ea.den eb.num eb.den=(x,y,er)):
  Calls Tryz.prog 43 #[.agg (A8 e vm vb (.slice A 2 c)).toArray] w fun e' w'=>e'= .returned (.tuple #[.agg (AE x y).toArray,.bool (er==0)])∧A5 w w':=by
 obtain⟨hb1,hb2,hG⟩:=BI w 29 29 (A8 e vm vb (.slice A 2 c)).toArray (AE 0 0).toArray;have HAP:=fun w'=>OJ e.fn ea.num ea.den eb.num eb.den w' hn1 hd1 hn2 hd2
 rw[hap]at HAP;simp only[BS]at HAP;obtain⟨b,o,csa,rfl,hbb,hra,hea⟩:=hT.at_ (j:=0) (e:=ea) (by rw[hk];rfl);obtain⟨b',o',csb,hbo, -,hrb,heb⟩:=hT.at_ (j:=1) (e:=eb) (by rw[hk];rfl);simp only[Ur,Addr.mk.injEq,and_true]at hbo;obtain⟨rfl,rfl⟩:=hbo;obtain⟨va1,va2,va3,rfl, -⟩:=hea.open_;obtain⟨ve1,ve2,ve3,rfl, -⟩:=heb.open_;have hbase:∀w',A5 w w'→w'.rangeAt b o (A8 ea va1 va2 va3)∧w'.rangeAt b (o+11) (A8 eb ve1 ve2 ve3):=fun w' g=>⟨by have:=AR hra hbb g (fun h=>h);simpa using this,by have:=AR hrb hbb g (fun h=>h);simpa using this⟩
 have hx0:∀w',A5 w w'→w'.cell? ⟨b,o,none⟩=some (.int .i64 0)∧w'.cell? ⟨b,o+11,none⟩=some (.int .i64 0)∧w'.rangeAt b (o+5) (AA ea.num ea.den)∧w'.rangeAt b (o+11+5) (AA eb.num eb.den):=fun w' g=>by
  obtain⟨r1,r2⟩:=hbase w' g;refine⟨by have:=r1 0 _ rfl;rw[ha]at this;exact this,by have:=r2 0 _ rfl;rw[hb]at this;exact this,fun j u hu=>?_,fun j u hu=>?_⟩
  ·match j,hu with
   |0,hu=>have:=r1 5 _ rfl;simp[AA]at hu;subst hu;exact this
   |1,hu=>have:=r1 6 _ rfl;simp[AA]at hu;subst hu;exact this
   |j+2,hu=>simp[AA]at hu
  match j,hu with
  |0,hu=>have:=r2 5 _ rfl;simp[AA]at hu;subst hu;exact this
  |1,hu=>have:=r2 6 _ rfl;simp[AA]at hu;subst hu;exact this
  |j+2,hu=>simp[AA]at hu
 have HX:=UX hx0;replace HAP:=UX HAP;clear hbase hx0 hra hrb hea heb hT hk ha hb hap hbb hfn hn1 hd1 hn2 hd2;go_enter Tryz.func43,Tryz.ntmps43;go_upto_region 1 with fail;change Code.wp _ _ _ _ ((w.alloc (.cells (A8 e vm vb (.slice (some ⟨b,o,none⟩) 2 c)).toArray 29)).alloc (.cells (AE 0 0).toArray 29));generalize (w.alloc (.cells (A8 e vm vb (.slice (some ⟨b,o,none⟩) 2 c)).toArray 29)).alloc (.cells (AE 0 0).toArray 29)=w2 at*;have c0:w2.cell? ⟨w.heap.size,0,none⟩=some (.int .i64 3):=by have:w2.cell? ⟨w.heap.size,0,none⟩=some (.int .i64 e.kind):=hb1.cell 0;rw[h3]at this;exact this
 have c10:w2.cell? ⟨w.heap.size,10,none⟩=some (.slice (some ⟨b,o,none⟩) 2 c):=hb1.cell 10;obtain⟨g1,g2, -, -⟩:=HX.out _ hG;have HRW:=UX (show ∀w',A5 w2.drew w'→w'.cell? ⟨w.heap.size,1,none⟩=some (.int .i64 e.fn)∧w'.cell? ⟨w.heap.size,10,none⟩=some (.slice (some ⟨b,o,none⟩) 2 c)∧w'.rangeAt b (o+5) (AA ea.num ea.den)∧w'.rangeAt b (o+11+5) (AA eb.num eb.den)from fun w' g=>⟨((hb1.drewN 1).grew g).cell 1,((hb1.drewN 1).grew g).cell 10,(HX.out _ (hG.trans ((Uy (Uv w2)).trans g))).2.2.1,(HX.out _ (hG.trans ((Uy (Uv w2)).trans g))).2.2.2⟩);have HB:=UX (UZ hb1 (UZ hb2 hG));clear hb1 hb2 hG h3;generalize e.fn=fn at*;generalize ea.num=n1 at*;generalize ea.den=d1 at*;generalize eb.num=n2 at*;generalize eb.den=d2 at*;go_upto_region 3 with fail;clear c0 c10 g1 g2;refine CU (by kernel_rfl) 17 16 4 [15,18] [.pointer (some ⟨w.heap.size,1,none⟩),.int .i64 fn,.pointer (some ⟨w.heap.size,10,none⟩),.slice (some ⟨b,o,none⟩) 2 c,.pointer (some ⟨b,o,none⟩),.pointer (some ⟨b,o+5,none⟩),.agg (AA n1 d1).toArray,.pointer (some ⟨w.heap.size,10,none⟩),.slice (some ⟨b,o,none⟩) 2 c,.pointer (some ⟨b,o+11,none⟩),.pointer (some ⟨b,o+11+5,none⟩),.agg (AA n2 d2).toArray,.tuple #[.agg (AA x y).toArray,.int .i64 er],.tuple #[.agg (AA x y).toArray,.int .i64 er],.agg (AA x y).toArray,.int .i64 er,undef,undef,.int .i64 er] 24 (AA 0 0) _ (by kernel_rfl) (by kernel_rfl) (by decide) (by decide) (by decide) (Ui (by kernel_rfl)) rfl (Ui (by kernel_rfl)) (by kernel_rfl) ?hH ?hal (AA x y) (.tmp 4) (.tmp 40) 24 _ rfl rfl rfl (by simp[Op.operands]) (by simp[Op.operands]) C1 rfl (BP _ _) (fun z=>by kernel_rfl) (fun z=>by kernel_rfl) ?hT
 case hH=>
  simp only[ny];refine hV (hW (fun z w' hg=>?_) ?_)
  ·obtain⟨g1,g2,g3,g4⟩:=HRW.out _ hg;go_simp;exact Uv _
  refine hV (hW (fun z w' hg=>?_) ?_)
  ·obtain⟨g1,g2,g3,g4⟩:=HRW.out _ hg;go_simp;exact Uv _
  refine hV (hV (hW (fun z w' hg=>?_) ?_))
  ·obtain⟨g1,g2,g3,g4⟩:=HRW.out _ hg;exact mM (.tmp 32) g3 rF ⟨rfl,Uv _⟩
  refine hV (hW (fun z w' hg=>?_) ?_)
  ·obtain⟨g1,g2,g3,g4⟩:=HRW.out _ hg;go_simp;exact Uv _
  refine hV (hV (hW (fun z w' hg=>?_) ?_))
  ·obtain⟨g1,g2,g3,g4⟩:=HRW.out _ hg;exact mM (.tmp 37) g4 rF ⟨rfl,Uv _⟩
  refine hW (fun z w' hg=>?_) ?_
  ·go_simp;(with_reducible refine(HAP.out _).mono ?_);rintro e wq ⟨rfl,kq⟩;exact⟨rfl,kq⟩
  exact hV (hV (hU (hA (hB (hU Dj)))))
 case hal=>
  intro o1 ho a1 w1 K hK;obtain rfl:=Uf ho;go_simp;exact hK _ rfl
 case hT=>
  intro z wz hz hbz hgz;dsimp only;simp only[ny];obtain⟨hb1,hb2,hG⟩:=HB.out;have m2:=hb2.grew hgz;have hGz:=hG.trans hgz;obtain⟨eb2,heb⟩:∃q:Bool,(er==0)=q:=⟨_,rfl⟩;clear HRW HX HB hb1 hb2 hG hgz hz;go_wp2_with(first|(refine lN (.tmp 4) hbz rF ?_ (vs:=[.int .i64 x,.int .i64 y]))|(refine sN (.tmp 2) (.tmp 43) (AE x y) m2 rX ?_;intro w8 hb8 k8 d8)|fail);refine rT rX hb8 ?_;exact⟨by rw[heb];rfl,Uw hGz k8 (fun i hi e=>by omega)⟩
end Go.Proofs.YtkclnhpofkaclaaGreatDoor
namespace Go.Proofs.YtkclnhpofkaclaaGreatDoor
open Go.RowKit
def BE (w:World) (Q:Nat→Prop) (sz:Nat) (v:Value) (rows:List (List Value)):Prop:=
 ∃A c,v= .slice A rows.length c∧rows.length≤c∧(0<rows.length→∃b o,A=some ⟨b,o,none⟩∧Q b∧∀j cs,rows[j]? =some cs→w.rangeAt b (o+j*sz) cs)
mutual
def AN (w:World) (Q:Nat→Prop):Ex→List Value→Prop
 | .mk kind fn window offset k num den name ms bys kids,cs=>∃vm vb vk,cs=A8 (.mk kind fn window offset k num den name ms bys kids) vm vb vk∧BE w Q 3 vm (ms.map AL)∧BE w Q 1 vb (bys.map fun s=>[Value.string s])∧
   ∃A c,vk= .slice A kids.length c∧kids.length≤c∧(0<kids.length→∃b o,A=some ⟨b,o,none⟩∧Q b∧BN w Q b o kids)
def BN (w:World) (Q:Nat→Prop) (b o:Nat):List Ex→Prop
 |[]=>True
 |e::es=>(∃cs,w.rangeAt b o cs∧AN w Q e cs)∧BN w Q b (o+11) es
end
def Ca (w:World) (Q:Nat→Prop) (v:Value) (es:List Ex):Prop:=
 ∃A c,v= .slice A es.length c∧es.length≤c∧(0<es.length→∃b o,A=some ⟨b,o,none⟩∧Q b∧BN w Q b o es)
section
variable {w w':World} {Q Q':Nat→Prop} {B:Nat}
theorem BE.keep {sz:Nat} {v:Value} {rows:List (List Value)} {S:Nat→Prop} (h:BE w Q sz v rows) (hq:∀b,Q b→b<w.heap.size∧¬S b∧Q' b) (hk:A4 S w w'):BE w' Q' sz v rows:=by
 obtain⟨A,c,hv,hc,hx⟩:=h;refine⟨A,c,hv,hc,fun hn=>?_⟩;obtain⟨b,o,e,hb,hcell⟩:=hx hn;exact⟨b,o,e,(hq b hb).2.2,fun j cs hj=>AR (hcell j cs hj) (hq b hb).1 hk (hq b hb).2.1⟩
mutual
theorem AN.keep {S:Nat→Prop} (hq:∀b,Q b→b<w.heap.size∧¬S b∧Q' b) (hk:A4 S w w'):∀(e:Ex) (cs:List Value),AN w Q e cs→AN w' Q' e cs
 | .mk kind fn window offset k num den name ms bys kids,cs,h=>by
  unfold AN at h ⊢;obtain⟨vm,vb,vk,h1,h2,h3,A,c,h4,h5,h6⟩:=h;refine⟨vm,vb,vk,h1,h2.keep hq hk,h3.keep hq hk,A,c,h4,h5,fun hn=>?_⟩;obtain⟨b,o,e1,hb,hks⟩:=h6 hn;exact⟨b,o,e1,(hq b hb).2.2,BN.keep hq hk b hb kids o hks⟩
theorem BN.keep {S:Nat→Prop} (hq:∀b,Q b→b<w.heap.size∧¬S b∧Q' b) (hk:A4 S w w') (b:Nat) (hb:Q b):∀(es:List Ex) (o:Nat),BN w Q b o es→BN w' Q' b o es
 |[],_,_=>by unfold BN;trivial
 |e::es,o,h=>by
  unfold BN at h ⊢;obtain⟨⟨cs,h1,h2⟩,h3⟩:=h;exact⟨⟨cs,AR h1 (hq b hb).1 hk (hq b hb).2.1,AN.keep hq hk e cs h2⟩,BN.keep hq hk b hb es (o+11) h3⟩
end
theorem Ca.keep {v:Value} {es:List Ex} {S:Nat→Prop} (h:Ca w Q v es) (hq:∀b,Q b→b<w.heap.size∧¬S b∧Q' b) (hk:A4 S w w'):Ca w' Q' v es:=by
 obtain⟨A,c,hv,hc,hx⟩:=h;refine⟨A,c,hv,hc,fun hn=>?_⟩;obtain⟨b,o,e,hb,hks⟩:=hx hn;exact⟨b,o,e,(hq b hb).2.2,BN.keep hq hk b hb es o hks⟩
theorem BE.toB {sz:Nat} {v:Value} {rows:List (List Value)} (h:BE w Q sz v rows) (hq:∀b,Q b→b<B):Bs w B sz v rows:=by
 obtain⟨A,c,hv,hc,hx⟩:=h;refine⟨A,c,hv,hc,fun hn=>?_⟩;obtain⟨b,o,e,hb,hcell⟩:=hx hn;exact⟨b,o,e,hq b hb,hcell⟩
theorem Bs.toQ {sz:Nat} {v:Value} {rows:List (List Value)} (h:Bs w B sz v rows) (hq:∀b,b<B→Q b):BE w Q sz v rows:=by
 obtain⟨A,c,hv,hc,hx⟩:=h;refine⟨A,c,hv,hc,fun hn=>?_⟩;obtain⟨b,o,e,hb,hcell⟩:=hx hn;exact⟨b,o,e,hq b hb,hcell⟩
mutual
theorem AN.toB (hq:∀b,Q b→b<B):∀(e:Ex) (cs:List Value),AN w Q e cs→BC w B e cs
 | .mk kind fn window offset k num den name ms bys kids,cs,h=>by
  unfold AN at h;unfold BC;obtain⟨vm,vb,vk,h1,h2,h3,A,c,h4,h5,h6⟩:=h;refine⟨vm,vb,vk,h1,h2.toB hq,h3.toB hq,A,c,h4,h5,fun hn=>?_⟩;obtain⟨b,o,e1,hb,hks⟩:=h6 hn;exact⟨b,o,e1,hq b hb,BN.toB hq b kids o hks⟩
theorem BN.toB (hq:∀b,Q b→b<B) (b:Nat):∀(es:List Ex) (o:Nat),BN w Q b o es→Dd w B b o es
 |[],_,_=>by unfold Dd;trivial
 |e::es,o,h=>by
  unfold BN at h;unfold Dd;obtain⟨⟨cs,h1,h2⟩,h3⟩:=h;exact⟨⟨cs,h1,AN.toB hq e cs h2⟩,BN.toB hq b es (o+11) h3⟩
end
mutual
theorem BC.toQ (hq:∀b,b<B→Q b):∀(e:Ex) (cs:List Value),BC w B e cs→AN w Q e cs
 | .mk kind fn window offset k num den name ms bys kids,cs,h=>by
  unfold BC at h;unfold AN;obtain⟨vm,vb,vk,h1,h2,h3,A,c,h4,h5,h6⟩:=h;refine⟨vm,vb,vk,h1,h2.toQ hq,h3.toQ hq,A,c,h4,h5,fun hn=>?_⟩;obtain⟨b,o,e1,hb,hks⟩:=h6 hn;exact⟨b,o,e1,hq b hb,Dd.toQ hq b kids o hks⟩
theorem Dd.toQ (hq:∀b,b<B→Q b) (b:Nat):∀(es:List Ex) (o:Nat),Dd w B b o es→BN w Q b o es
 |[],_,_=>by unfold BN;trivial
 |e::es,o,h=>by
  unfold Dd at h;unfold BN;obtain⟨⟨cs,h1,h2⟩,h3⟩:=h;exact⟨⟨cs,h1,BC.toQ hq e cs h2⟩,Dd.toQ hq b es (o+11) h3⟩
end
theorem Ca.toB {v:Value} {es:List Ex} (h:Ca w Q v es) (hq:∀b,Q b→b<B):Gw w B v es:=by
 obtain⟨A,c,hv,hc,hx⟩:=h;refine⟨A,c,hv,hc,fun hn=>?_⟩;obtain⟨b,o,e,hb,hks⟩:=hx hn;exact⟨b,o,e,hq b hb,BN.toB hq b es o hks⟩
theorem AN.open_ {e:Ex} {cs:List Value} (h:AN w Q e cs):∃vm vb vk,cs=A8 e vm vb vk∧BE w Q 3 vm (e.ms.map AL)∧BE w Q 1 vb (e.bys.map fun s=>[Value.string s])∧Ca w Q vk e.kids:=by
 cases e;unfold AN at h;exact h
theorem AN.mk_ {e:Ex} {vm vb vk:Value} (h1:BE w Q 3 vm (e.ms.map AL)) (h2:BE w Q 1 vb (e.bys.map fun s=>[Value.string s])) (h3:Ca w Q vk e.kids):AN w Q e (A8 e vm vb vk):=by
 cases e;unfold AN;exact⟨vm,vb,vk,rfl,h1,h2,h3⟩
theorem Ca.nil (w:World) (Q:Nat→Prop):Ca w Q (.slice none 0 0) []:=⟨none,0,rfl,Ua _,fun h=>absurd h (by simp)⟩
theorem BE.nil (w:World) (Q:Nat→Prop) (sz:Nat):BE w Q sz (.slice none 0 0) []:=⟨none,0,rfl,Ua _,fun h=>absurd h (by simp)⟩
theorem BE.slice {sz:Nat} {v:Value} {rows:List (List Value)} (h:BE w Q sz v rows):∃A n c,v= .slice A n c∧n=rows.length∧n≤c:=by
 obtain⟨A,c,rfl,hc,_⟩:=h;exact⟨A,_,c,rfl,rfl,hc⟩
theorem Ca.slice {v:Value} {es:List Ex} (h:Ca w Q v es):∃A n c,v= .slice A n c∧n=es.length∧n≤c:=by
 obtain⟨A,c,rfl,hc,_⟩:=h;exact⟨A,_,c,rfl,rfl,hc⟩
theorem BN.at_ {b:Nat}:∀{es:List Ex} {o j:Nat} {e:Ex},BN w Q b o es→es[j]? =some e→∃cs,w.rangeAt b (o+j*11) cs∧AN w Q e cs
 |e::es,o,0,e',h,hj=>by
  unfold BN at h;obtain rfl:e=e':=by simpa using hj
  simpa using h.1
 |e::es,o,j+1,e',h,hj=>by
  unfold BN at h;have:=BN.at_ (j:=j) h.2 (by simpa using hj);rwa[show o+11+j*11=o+(j+1)*11 by omega]at this
theorem Ca.at_ {A:Option Addr} {n c j:Nat} {es:List Ex} {e:Ex} (h:Ca w Q (.slice A n c) es) (hj:es[j]? =some e):∃b o cs,A=some ⟨b,o,none⟩∧Q b∧w.rangeAt b (o+j*11) cs∧AN w Q e cs:=by
 obtain⟨A',c',hv,_,hx⟩:=h;injection hv with hA;subst hA;have hl:j<es.length:=(Uh.1 hj).1;obtain⟨b,o,rfl,hb,hks⟩:=hx (by omega);obtain⟨cs,h1,h2⟩:=hks.at_ hj;exact⟨b,o,cs,rfl,hb,h1,h2⟩
theorem BN.of {b:Nat}:∀{es:List Ex} {o:Nat},(∀(j:Nat) (e:Ex),es[j]? =some e→∃cs,w.rangeAt b (o+j*11) cs∧AN w Q e cs)→BN w Q b o es
 |[],_,_=>by unfold BN;trivial
 |e::es,o,h=>by
  unfold BN;refine⟨by simpa using h 0 e rfl,BN.of fun j e' hj=>?_⟩;have:=h (j+1) e' (by simpa using hj);rwa[show o+(j+1)*11=o+11+j*11 by omega]at this
theorem AX.own {base:Nat} {t:TypeId} {sz:Nat} {v:Value} {rows:List (List Value)} (h:AX w base t sz v rows):BE w (fun b=>v.ownBlock=some b) sz v rows:=by
 have he:=h.2;rcases h.form with⟨rfl,rfl⟩|⟨g,cap,cur,rfl,hb,hbox,h1,h2,h3,h4⟩
 ·exact⟨none,0,rfl,Ua _,fun h=>absurd h (by simp)⟩
 refine⟨_,cap,rfl,h1,fun _=>⟨g,0,rfl,rfl,fun j cs hj k u hk=>?_⟩⟩;have hf:=E0 he hj hk;have hlt:j*sz+k<rows.length*sz:=by rw[←BL he];exact(Uh.1 hf).1
 rw[Nat.zero_add,hbox.cell,←Array.getElem?_toList,←hf,←h4,List.getElem?_take,Uo hlt]
theorem AX.treesQ {base:Nat} {t:TypeId} {v:Value} {rows:List (List Value)} {es:List Ex} (h:AX w base t 11 v rows) (hl:rows.length=es.length) (hq:∀b,v.ownBlock=some b→Q b) (he:∀(j:Nat) (e:Ex) (cs:List Value),es[j]? =some e→rows[j]? =some cs→AN w Q e cs):Ca w Q v es:=by
 obtain⟨A,c,rfl,hc,hx⟩:=h.own;refine⟨A,c,by rw[hl],by omega,fun hn=>?_⟩;obtain⟨b,o,e,hb,hcell⟩:=hx (by omega);refine⟨b,o,e,hq b hb,BN.of fun j e' hj=>?_⟩;have hjl:j<rows.length:=by rw[hl];exact(Uh.1 hj).1
 exact⟨rows[j],hcell j _ (Uc hjl),he j e' _ hj (Uc hjl)⟩
end
def C9 (B M E:Nat) (b:Nat):Prop:=(b<B∨M≤b)∧b<E
end Go.Proofs.YtkclnhpofkaclaaGreatDoor
namespace Go.Proofs.YtkclnhpofkaclaaGreatDoor
open Go.RowKit Pl
def Ge:Value:= .agg #[.int .i64 0,.int .i64 0,.int .i64 0,.int .i64 0,.int .i64 0,.int .i64 0,.int .i64 0,.string ⟨#[]⟩,.slice none 0 0,.slice none 0 0,.slice none 0 0]
theorem S5:Kg Tryz.prog 27 29 11 144 Ge:=⟨Tryz.underlying27,by kernel_rfl,rfl,by decide,by decide⟩
def Bz (w:World) (Q:Nat→Prop) (es:List Ex) (rows:List (List Value)):Prop:=rows.length=es.length∧∀(j:Nat) (e:Ex) (cs:List Value),es[j]? =some e→rows[j]? =some cs→AN w Q e cs
def LE (B0 M:Nat) (s:Value) (E b:Nat):Prop:=(b<B0∨M≤b)∧b<E∧s.ownBlock≠some b
section
variable {w w':World} {Q Q':Nat→Prop} {es:List Ex} {rows:List (List Value)}
theorem Bz.nil (w:World) (Q:Nat→Prop):Bz w Q [] []:=⟨rfl,fun j e cs h=>by simp at h⟩
theorem Bz.keep {S:Nat→Prop} (h:Bz w Q es rows) (hq:∀b,Q b→b<w.heap.size∧¬S b∧Q' b) (hk:A4 S w w'):Bz w' Q' es rows:=⟨h.1,fun j e cs h1 h2=>AN.keep hq hk e cs (h.2 j e cs h1 h2)⟩
theorem Bz.snoc {e:Ex} {cs:List Value} (h:Bz w Q es rows) (he:AN w Q e cs):Bz w Q (es++[e]) (rows++[cs]):=by
 refine⟨by rw[Us,Us,h.1];rfl,fun j e' cs' h1 h2=>?_⟩;by_cases hj:j<es.length
 ·rw[List.getElem?_append_left hj]at h1;rw[List.getElem?_append_left (by rw[h.1];exact hj)]at h2;exact h.2 j e' cs' h1 h2
 rw[List.getElem?_append_right (by omega)]at h1;rw[List.getElem?_append_right (by rw[h.1];omega),h.1]at h2;cases hz:j-es.length with
 |zero=>
  rw[hz]at h1 h2;obtain rfl:e=e':=by simpa using h1
  obtain rfl:cs=cs':=by simpa using h2
  exact he
 |succ z=>rw[hz]at h1;simp at h1
theorem Bz.step {B0 M r n c:Nat} {s:Value} {t:TypeId} {o:Obj} {e:Ex} {cs:List Value} {wr w3 w6:World} (hT:Bz wr (LE B0 M s wr.heap.size) es rows) (hM:AX wr M t 11 s rows) (hB:B0≤M) (hM2:M≤wr.heap.size) (g3:A5 wr w3) (he:AN w3 (C9 B0 wr.heap.size w3.heap.size) e cs)
  (k6:A4 (fun i=>s.ownBlock=some i) (w3.alloc o) w6) (hr:some r=s.ownBlock∨r=(w3.alloc o).heap.size):Bz w6 (LE B0 M (.slice (some ⟨r,0,none⟩) n c) w6.heap.size) (es++[e]) (rows++[cs]):=by
 have s3:=g3.size;have s4:(w3.alloc o).heap.size=w3.heap.size+1:=by simp
 have s6:=k6.size;have hso:∀k,s.ownBlock=some k→M≤k∧k<wr.heap.size:=hM.lt;have hrb:(.slice (some ⟨r,0,none⟩) n c:Value).ownBlock=some r:=rfl;have ga:A5 w3 (w3.alloc o):=(Uv w3).alloc o;refine Bz.snoc (hT.keep (S:=fun i=>s.ownBlock=some i) (fun b hb=>?_) (Uw ((g3.trans ga).keeps (S:=fun i=>s.ownBlock=some i)) k6 fun i _ h=>h)) (AN.keep (S:=fun i=>s.ownBlock=some i) (fun b hb=>?_) (Uw (ga.keeps (S:=fun i=>s.ownBlock=some i)) k6 fun i _ h=>h) e cs he)
 ·obtain⟨h1,h2,h3⟩:=hb;refine⟨h2,h3,h1,by omega,fun h4=>?_⟩;rw[hrb]at h4;injection h4 with h4;subst h4;rcases hr with hr|hr
  ·exact h3 hr.symm
  omega
 obtain⟨h1,h2⟩:=hb;refine⟨h2,fun h4=>?_,by omega,by omega,fun h4=>?_⟩
 ·have:=hso b h4;omega
 rw[hrb]at h4;injection h4 with h4;subst h4;rcases hr with hr|hr
 ·have:=hso r hr.symm;omega
 omega
end
theorem AX.made {e:TypeId} {sz:Nat} {w:World} {base c:Nat} (cs:Array Value) (hc:cs.size=c*sz) (hm:c≤maxLen) (hb:base≤w.heap.size):AX (w.alloc (.cells cs e)) base e sz (.slice (some ⟨w.heap.size,0,none⟩) 0 c) []:=by
 refine⟨⟨by simp,.inr ⟨w.heap.size,c,cs,rfl,hb,Ux w e cs,Nat.zero_le _,hm,hc,by simp⟩⟩,by intro r hr;cases hr⟩
theorem Ss (e:Ex) (a b c:Value):List.foldl (fun(cs:Array Value) (x:Value×Nat)=>cs.setIfInBounds x.snd x.fst) #[.int .i64 0,.int .i64 0,.int .i64 0,.int .i64 0,.int .i64 0,.int .i64 0,.int .i64 0,.string ⟨#[]⟩,.slice none 0 0,.slice none 0 0,.slice none 0 0] (A8 e a b c).zipIdx=(A8 e a b c).toArray:=by
 simp[A8,List.zipIdx]
theorem AQ {e:Ex} {w:World} {Q:Nat→Prop} {cs:List Value} (h:AN w Q e cs):∀v∈cs,v.oneCell'=true:=by
 obtain⟨vm,vb,vk,rfl,h1,h2,h3⟩:=h.open_;obtain⟨A1,n1,c1,rfl, -⟩:=h1.slice;obtain⟨A2,n2,c2,rfl, -⟩:=h2.slice;obtain⟨A3,n3,c3,rfl, -⟩:=h3.slice;intro v hv;simp[A8]at hv;rcases hv with rfl|rfl|rfl|rfl|rfl|rfl|rfl|rfl|rfl|rfl|rfl<;>rfl
theorem GI {ops:Array Oper} {rest:List Oper} {o:Oper} {a:Act} {Q:Exit→Act→World→Prop} (hgd:o.guard=none) (s x:Operand)
  (ho:o.op= .call { callee:= .builtin .append,args:=#[s,x],argTypes:=#[27,27] })
  {wr w3:World} {B0 M:Nat} {es:List Ex} {rows:List (List Value)} {e:Ex} {v v1 v2 v3:Value} {c:Nat} (hs:a.eval s=v) (hx:a.eval x= .slice (some ⟨w3.heap.size,0,none⟩) 1 c) (hc:1≤c)
  (hM:AX wr M 29 11 v rows) (hT:Bz wr (LE B0 M v wr.heap.size) es rows) (hB:B0≤M) (hM2:M≤wr.heap.size) (g3:A5 wr w3) (he:AN w3 (C9 B0 wr.heap.size w3.heap.size) e (A8 e v1 v2 v3)) (hn:es.length<1099511627)
  (h:∀A n c w6,Hid (∃rows',AX w6 M 29 11 (.slice A n c) rows'∧Bz w6 (LE B0 M (.slice A n c) w6.heap.size) (es++[e]) rows'∧A4 (fun i=>M≤i) wr w6)→wpList Tryz.prog ops Q rest (a.put o.dst (.slice A n c)) w6):
  wpList Tryz.prog ops Q (o::rest) a (w3.alloc (.cells (List.foldl (fun(cs:Array Value) (x:Value×Nat)=>cs.setIfInBounds x.snd x.fst) #[.int .i64 0,.int .i64 0,.int .i64 0,.int .i64 0,.int .i64 0,.int .i64 0,.int .i64 0,.string ⟨#[]⟩,.slice none 0 0,.slice none 0 0,.slice none 0 0] (A8 e v1 v2 v3).zipIdx) 29)):=by
 rw[Ss];have hM3:=hM.grew g3;refine QL S5 hgd s x ho hs (hM3.alloc _) w3.heap.size c (A8 e v1 v2 v3) 29 hx hc (Ux w3 29 _) rfl (AQ he) (by rw[hT.1];exact hn) (by have:=g3.size;simp;omega) ?_;intro r cap w6 hM6 hk6 hr6 hbr6 hlr6;exact h _ _ _ _ (UX ⟨_,hM6,hT.step hM hB hM2 g3 he hk6 hr6,Uw ((g3.keeps (S:=fun i=>M≤i)).alloc _) hk6 fun i hi e=>(hM3.lt i e).1⟩)
theorem K8 {P:Program} {ops:Array Oper} {rest:List Oper} {o:Oper} {a:Act} {Q:Exit→Act→World→Prop} {w:World} (T:TypeId) (l c:Operand) (_:o.op= .makeSlice T l c) (h:wpList P ops Q (o::rest) a w):wpList P ops Q (o::rest) a w:=h
theorem MJ {ops:Array Oper} {rest:List Oper} {o:Oper} {a:Act} {Q:Exit→Act→World→Prop} {w:World} (hgd:o.guard=none) (l c:Operand) (ho:o.op= .makeSlice 27 l c) (n:Nat) (hl:a.eval l= .int .i64 0) (hc:a.eval c= .int .i64 (n:Nat)) (hn:n≤1000000)
  (h:∀w',AX w' w.heap.size 29 11 (.slice (some ⟨w.heap.size,0,none⟩) 0 n) []→A5 w w'→wpList Tryz.prog ops Q rest (a.put o.dst (.slice (some ⟨w.heap.size,0,none⟩) 0 n)) w'):wpList Tryz.prog ops Q (o::rest) a w:=by
 obtain⟨i,hi,hz,hs,hby⟩:=info_parts S5.info;refine wpList_make_own w hgd l c 27 ho w.heap.size 29 i Ge 11 Tryz.underlying27 hi hz hs .i64 .i64 n n hl hc rfl (by rw[hby];omega) (by unfold maxLen;omega) (Ua _) fun w' h1 h2=>h w' ⟨h1,by intro r hr;cases hr⟩ ((Uz _ w).grown h2 fun k e _=>by cases e)
theorem D5 (e:Ex) (ks:List Ex) (a b c:Value):A8 (e.withKids ks) a b c=A8 e a b c:=by cases e;rfl
end Go.Proofs.YtkclnhpofkaclaaGreatDoor
