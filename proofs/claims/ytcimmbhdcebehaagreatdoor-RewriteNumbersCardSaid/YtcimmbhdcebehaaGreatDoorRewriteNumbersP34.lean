/- What the card of the law stands on: SmpA, NumLaw, FNew. -/
import Derived.Test.YtcimmbhdcebehaaGreatDoorRewriteNumbersP33
import Derived.Test.YtcimmbhdcebehaaGreatDoorRewriteNumbersP18
import Derived.Test.YtcimmbhdcebehaaGreatDoorRewriteNumbersP19
import Derived.Test.YtcimmbhdcebehaaGreatDoorRewriteNumbersP25
import Derived.Test.YtcimmbhdcebehaaGreatDoorRewriteNumbersP02
import Derived.Test.YtcimmbhdcebehaaGreatDoorRewriteNumbersP01
set_option maxRecDepth 100000
set_option maxHeartbeats 12800000
set_option linter.unusedVariables false
set_option linter.unusedSimpArgs false
namespace Go.Proofs.YtcimmbhdcebehaaGreatDoor
open Go.RowKit Pl
def fold1E (f:Int) (a b:Ex):Option Ex:=if a.kind=0∧b.kind=0 then(if(applyF f a.num a.den b.num b.den).2.2=0 then some (numE (applyF f a.num a.den b.num b.den).1 (applyF f a.num a.den b.num b.den).2.1)else none)else none
def ruleE (m:Nat) (f:Int) (a b:Ex):Option Ex:=
 match m with
 |0=>fold1E f a b
 |1=>neutralE f a b
 |2=>cancelSumE f a b
 |3=>cancelProductE f a b
 |4=>vanishE f a b
 |_=>nothingE f a b
def rulesE (f:Int) (a b:Ex):Option Ex:=(ruleE 0 f a b).or ((ruleE 1 f a b).or ((ruleE 2 f a b).or ((ruleE 3 f a b).or ((ruleE 4 f a b).or (ruleE 5 f a b)))))
theorem rules_none {f:Int} {a b:Ex} (h:∀m,m<6→ruleE m f a b=none):rulesE f a b=none:=by
 unfold rulesE;rw[h 0 (by decide),h 1 (by decide),h 2 (by decide),h 3 (by decide),h 4 (by decide),h 5 (by decide)];rfl
theorem rules_some {f:Int} {a b:Ex} {m:Nat} (hm:m<6) (h:∀k,k<m→ruleE k f a b=none) {t:Ex} (ht:ruleE m f a b=some t):rulesE f a b=some t:=by
 unfold rulesE;rcases m with _|_|_|_|_|_|m
 ·rw[ht];rfl
 ·rw[h 0 (by decide),ht];rfl
 ·rw[h 0 (by decide),h 1 (by decide),ht];rfl
 ·rw[h 0 (by decide),h 1 (by decide),h 2 (by decide),ht];rfl
 ·rw[h 0 (by decide),h 1 (by decide),h 2 (by decide),h 3 (by decide),ht];rfl
 ·rw[h 0 (by decide),h 1 (by decide),h 2 (by decide),h 3 (by decide),h 4 (by decide),ht];rfl
 omega
theorem rules_inv {f:Int} {a b t:Ex} (h:rulesE f a b=some t):∃m,m<6∧ruleE m f a b=some t:=by
 by_cases hn:∀m,m<6→ruleE m f a b=none
 ·rw[rules_none hn]at h;cases h
 have h1:∃m,m<6∧(∀k,k<m→ruleE k f a b=none)∧ruleE m f a b≠none:=by
  by_cases h0:ruleE 0 f a b=none
  ·by_cases h1:ruleE 1 f a b=none
   ·by_cases h2:ruleE 2 f a b=none
    ·by_cases h3:ruleE 3 f a b=none
     ·by_cases h4:ruleE 4 f a b=none
      ·refine⟨5,by decide,fun k hk=>?_,fun h5=>hn fun m hm=>?_⟩
       ·rcases k with _|_|_|_|_|k<;>first|assumption|omega
       rcases m with _|_|_|_|_|_|k<;>first|assumption|omega
      exact⟨4,by decide,fun k hk=>by rcases k with _|_|_|_|k<;>first|assumption|omega,h4⟩
     exact⟨3,by decide,fun k hk=>by rcases k with _|_|_|k<;>first|assumption|omega,h3⟩
    exact⟨2,by decide,fun k hk=>by rcases k with _|_|k<;>first|assumption|omega,h2⟩
   exact⟨1,by decide,fun k hk=>by rcases k with _|k<;>first|assumption|omega,h1⟩
  exact⟨0,by decide,fun k hk=>by omega,h0⟩
 obtain⟨m,hm,hk,hne⟩:=h1;obtain⟨u,hu⟩:=Option.ne_none_iff_exists'.1 hne;rw[rules_some hm hk hu]at h;exact⟨m,hm,hu.trans h⟩
def simpN (e:Ex):Ex:=
 match e.kids with
 |[a,b]=>if e.kind=3 then(rulesE e.fn a b).getD e else e
 |_=>e
mutual
def simpE:Ex→Ex
 | .mk k f w o q n d nm ms bs ks=>simpN (.mk k f w o q n d nm ms bs (simpEs ks))
def simpEs:List Ex→List Ex
 |[]=>[]
 |e::es=>simpE e::simpEs es
end
theorem simpEs_map:∀es:List Ex,simpEs es=es.map simpE
 |[]=>by unfold simpEs;rfl
 |e::es=>by unfold simpEs;rw[simpEs_map es];rfl
theorem simpE_eq (e:Ex):simpE e=simpN (e.withKids (e.kids.map simpE)):=by
 cases e;rw[simpE,simpEs_map];rfl
theorem simpN_two {e a b:Ex} (hk:e.kids=[a,b]) (h3:e.kind=3):simpN e=(rulesE e.fn a b).getD e:=by
 unfold simpN;rw[hk];simp only[h3,if_true]
theorem simpN_not {e:Ex} (h:e.kind≠3):simpN e=e:=by
 unfold simpN;split
 ·rw[if_neg h]
 rfl
def SOkN (e:Ex):Prop:=FoldOk e∧SrcN e∧e.ms.length≤1000000∧e.bys.length≤1000000
def SOk (e:Ex):Prop:=AllE SOkN e
theorem SOk.src {e:Ex} (h:SOk e):AllE SrcN e:=AllE.mono (fun _ h=>h.2.1) (nodesE e) e (Nat.le_refl _) h
theorem SOk.fold {e:Ex} (h:SOk e):AllE FoldOk e:=AllE.mono (fun _ h=>h.1) (nodesE e) e (Nat.le_refl _) h
theorem tidyKs_of {es:List Ex} (h:∀e∈es,tidyE e):tidyKs es:=by
 induction es with
 |nil=>unfold tidyKs;trivial
 |cons e es ih=>unfold tidyKs;exact⟨h e List.mem_cons_self,ih fun k hk=>h k (List.mem_cons_of_mem _ hk)⟩
theorem SOk.tidy:∀(n:Nat) (e:Ex),nodesE e≤n→SOk e→tidyE e
 |0,e,h,_=>absurd (nodes_pos e) (by omega)
 |n+1,e,h,hok=>by
  have h1:=hok.top;have h2:=nodes_eq e;have h3:tidyKs e.kids:=tidyKs_of fun k hk=>SOk.tidy n k (by have:=nodesKs_mem hk;omega) (hok.kid hk)
  cases e;unfold tidyE;exact⟨h1.2.2.1,h1.2.2.2,h3⟩
theorem SOk.rw_ {e:Ex} (h:SOk e) (hn:nodesE e≤1000000):RwOk e:=⟨h.src,h.tidy (nodesE e) e (Nat.le_refl _),hn⟩
theorem sok_num {x y:Int} (hx:I64 x) (hy:I64 y):SOk (numE x y):=by
 have h0:I64 0:=zero64.1;exact AllE_iff.2 ⟨⟨⟨⟨h0,h0,h0,h0,h0,hx,hy⟩,fun h=>nomatch h⟩,.inl ⟨rfl,rfl⟩,Nat.zero_le _,Nat.zero_le _⟩,fun k hk=>nomatch hk⟩
theorem sok_z:SOk zE:=sok_num (x:=0) (y:=0) zero64.1 zero64.1
theorem SOk.two {e:Ex} (h:SOk e) (h3:e.kind=3):∃a b,e.kids=[a,b]∧SOk a∧SOk b∧nodesE e=1+nodesE a+nodesE b:=by
 obtain⟨a,b,hk⟩:=src_two3 h.top.2.1 h3;refine⟨a,b,hk,h.kid (by rw[hk];simp),h.kid (by rw[hk];simp),?_⟩;rw[nodes_eq,hk];unfold nodesKs nodesKs nodesKs;omega
theorem sok_p1 {e:Ex} (h:SOk e) (f:Int):SOk (pt1 e f)∧nodesE (pt1 e f)≤nodesE e:=by
 unfold pt1;split
 ·rename_i ho
  obtain⟨h3, -⟩:=of_decide_eq_true ho;obtain⟨a,b,hk,ha,hb,hn⟩:=h.two h3;rw[hk];exact⟨ha,by show nodesE a≤nodesE e;omega⟩
 exact⟨sok_z,nodes_pos e⟩
theorem sok_p2 {e:Ex} (h:SOk e) (f:Int):SOk (pt2 e f)∧nodesE (pt2 e f)≤nodesE e:=by
 unfold pt2;split
 ·rename_i ho
  obtain⟨h3, -⟩:=of_decide_eq_true ho;obtain⟨a,b,hk,ha,hb,hn⟩:=h.two h3;rw[hk];exact⟨hb,by show nodesE b≤nodesE e;omega⟩
 exact⟨sok_z,nodes_pos e⟩
theorem sok_rule {m:Nat} {f:Int} {a b t:Ex} (ha:SOk a) (hb:SOk b) (hf:0≤f∧f≤3) (h:ruleE m f a b=some t):SOk t∧nodesE t≤1+nodesE a+nodesE b:=by
 have pa:=nodes_pos a;have pb:=nodes_pos b;have key:(∃e,(e=a∨e=b)∧(t=e∨∃f,t=pt1 e f∨t=pt2 e f))→SOk t∧nodesE t≤1+nodesE a+nodesE b:=by
  rintro⟨e,he,ht⟩;have h1:SOk e∧nodesE e≤nodesE a+nodesE b:=by
   rcases he with rfl|rfl
   ·exact⟨ha,by omega⟩
   exact⟨hb,by omega⟩
  rcases ht with rfl|⟨f,rfl|rfl⟩
  ·exact⟨h1.1,by omega⟩
  ·exact⟨(sok_p1 h1.1 f).1,by have:=(sok_p1 h1.1 f).2;omega⟩
  exact⟨(sok_p2 h1.1 f).1,by have:=(sok_p2 h1.1 f).2;omega⟩
 unfold ruleE at h;split at h
 ·unfold fold1E at h;split at h
  ·split at h
   ·cases h;exact⟨sok_num (applyF_64 rfl).1 (applyF_64 rfl).2,by show 1≤_;omega⟩
   cases h
  cases h
 ·unfold neutralE at h;dsimp only at h;generalize (if f=2∨f=3 then(1:Int)else 0)=n at h;by_cases h1:isE b n=true
  ·rw[if_pos h1]at h;cases h;exact key ⟨_,.inl rfl,.inl rfl⟩
  rw[if_neg h1]at h;split at h
  ·cases h;exact key ⟨_,.inr rfl,.inl rfl⟩
  cases h
 ·unfold cancelSumE at h;split at h
  ·cases h;exact key ⟨a,.inl rfl,.inr ⟨_,.inl rfl⟩⟩
  split at h
  ·cases h;exact key ⟨a,.inl rfl,.inr ⟨_,.inr rfl⟩⟩
  split at h
  ·cases h;exact key ⟨b,.inr rfl,.inr ⟨_,.inr rfl⟩⟩
  split at h
  ·cases h;exact key ⟨a,.inl rfl,.inr ⟨_,.inl rfl⟩⟩
  split at h
  ·cases h;exact key ⟨b,.inr rfl,.inr ⟨_,.inl rfl⟩⟩
  cases h
 ·unfold cancelProductE at h;split at h
  ·cases h;exact key ⟨a,.inl rfl,.inr ⟨_,.inl rfl⟩⟩
  split at h
  ·cases h;exact key ⟨a,.inl rfl,.inr ⟨_,.inr rfl⟩⟩
  split at h
  ·cases h;exact key ⟨a,.inl rfl,.inr ⟨_,.inl rfl⟩⟩
  split at h
  ·cases h;exact key ⟨b,.inr rfl,.inr ⟨_,.inl rfl⟩⟩
  cases h
 ·unfold vanishE at h;split at h
  ·cases h;refine⟨AllE_iff.2 ⟨⟨⟨?_,?_⟩,.inr (.inr ⟨rfl,a,numE 0 1,rfl⟩),Nat.zero_le _,Nat.zero_le _⟩,fun k hk=>?_⟩,?_⟩
   ·show I64 3∧I64 2∧I64 0∧I64 0∧I64 0∧I64 0∧I64 0;unfold I64;omega
   ·exact fun _=>⟨rfl,show(0:Int)≤2 by decide,show(2:Int)≤3 by decide⟩
   ·rcases List.mem_cons.1 hk with rfl|hk
    ·exact ha
    obtain rfl:=List.mem_singleton.1 hk;exact sok_num (by unfold I64;omega) (by unfold I64;omega)
   rw[nodes_eq];show 1+nodesKs [a,numE 0 1]≤_;unfold nodesKs nodesKs nodesKs;have:nodesE (numE 0 1)=1:=rfl;omega
  cases h
 unfold nothingE at h;split at h
 ·cases h;exact key ⟨a,.inl rfl,.inl rfl⟩
 split at h
 ·cases h;exact key ⟨b,.inr rfl,.inl rfl⟩
 cases h
theorem sok_simp:∀(n:Nat) (e:Ex),nodesE e≤n→SOk e→SOk (simpE e)∧nodesE (simpE e)≤nodesE e
 |0,e,h,_=>absurd (nodes_pos e) (by omega)
 |n+1,e,h,hok=>by
  have h2:=nodes_eq e;have hin:∀k∈e.kids,SOk (simpE k)∧nodesE (simpE k)≤nodesE k:=fun k hk=>sok_simp n k (by have:=nodesKs_mem hk;omega) (hok.kid hk)
  have htop:=hok.top;have hnd:nodesE (e.withKids (e.kids.map simpE))≤nodesE e:=by
   rw[nodes_eq,wk_kids];have:=nodesKs_map (f:=simpE) e.kids fun k hk=>(hin k hk).2
   omega
  rw[simpE_eq];by_cases h3:e.kind=3
  ·obtain⟨a,b,hk,ha,hb,hn⟩:=hok.two h3;have hA:=hin a (by rw[hk];simp);have hB:=hin b (by rw[hk];simp);have hk2:(e.withKids (e.kids.map simpE)).kids=[simpE a,simpE b]:=by rw[wk_kids,hk];rfl
   rw[simpN_two hk2 (by rw[wk_kind];exact h3),wk_fn];have hp:=htop.1.2 h3;cases hr:rulesE e.fn (simpE a) (simpE b)with
   |some t=>
    obtain⟨m,hm,ht⟩:=rules_inv hr;have:=sok_rule hA.1 hB.1 ⟨hp.2.1,hp.2.2⟩ ht;exact⟨this.1,by show nodesE t≤nodesE e;omega⟩
   |none=>
    show SOk (e.withKids (e.kids.map simpE))∧nodesE (e.withKids (e.kids.map simpE))≤nodesE e;refine⟨AllE_iff.2 ⟨?_,fun k hkk=>?_⟩,hnd⟩
    ·have hs:SrcN (e.withKids (e.kids.map simpE)):= .inr (.inr ⟨by rw[wk_kind];exact h3,_,_,hk2⟩);refine⟨⟨wk_num64 e _ htop.1.1,fun _=>⟨by rw[hk2];rfl,by rw[wk_fn];exact hp.2⟩⟩,hs,by rw[wk_ms];exact htop.2.2.1,by rw[wk_bys];exact htop.2.2.2⟩
    have hkk':k∈[simpE a,simpE b]:=hk2▸hkk;rcases List.mem_cons.1 hkk' with rfl|hkk'
    ·exact hA.1
    obtain rfl:=List.mem_singleton.1 hkk';exact hB.1
  rw[simpN_not (by rw[wk_kind];exact h3)];refine⟨AllE_iff.2 ⟨?_,fun k hkk=>?_⟩,hnd⟩
  ·refine⟨⟨wk_num64 e _ htop.1.1,fun h=>absurd (by rw[wk_kind]at h;exact h) h3⟩,?_,by rw[wk_ms];exact htop.2.2.1,by rw[wk_bys];exact htop.2.2.2⟩;rcases htop.2.1 with⟨h0,hks⟩|⟨h1,hm,hs⟩|⟨h, -⟩
   ·exact .inl ⟨by rw[wk_kind];exact h0,by rw[wk_kids,hks];rfl⟩
   ·exact .inr (.inl ⟨by rw[wk_kind];exact h1,by rw[wk_ms];exact hm,by rw[show(e.withKids (e.kids.map simpE)).name=e.name from by cases e;rfl];exact hs⟩)
   exact absurd h h3
  rw[wk_kids]at hkk;obtain⟨k',hk',rfl⟩:=List.mem_map.1 hkk;exact(hin k' hk').1
def RuleAny (r:Option Ex) (Q:Nat→Prop) (w:World) (e':Ending) (w':World):Prop:=∃cs,e'= .returned (.tuple #[.agg cs.toArray,.bool r.isSome])∧cs.length=11∧(∀v∈cs,v.oneCell'=true)∧(∀t,r=some t→RdEQ w' (fun b=>Q b∨(w.heap.size≤b∧b<w'.heap.size)) t cs)∧Grew w w'
theorem RulePost.any {r:Option Ex} {Q:Nat→Prop} {w w':World} {e':Ending} (h:RulePost r Q w e' w'):RuleAny r Q w e' w':=by
 obtain⟨cs,he,hr,g⟩:=h;exact⟨cs,he,hr.len,cells11_one hr,fun t ht=>by rw[ht]at hr;exact hr,g⟩
def ruleF (m:Nat):FuncId:=
 match m with
 |0=>55
 |1=>56
 |2=>57
 |3=>58
 |4=>59
 |_=>60
theorem fold1_any {f:Int} (hf:0≤f∧f≤3) {a b:Ex} (ha:Num64 a) (hb:Num64 b) {Q:Nat→Prop} {w:World} {cs1 cs2:List Value} (hr1:RdEQ w Q a cs1) (hr2:RdEQ w Q b cs2):
  Calls Tryz.prog 55 #[.int .i64 f,.agg cs1.toArray,.agg cs2.toArray] w (RuleAny (fold1E f a b) Q w):=by
 obtain⟨v1,v2,v3,rfl, -⟩:=hr1.open_;obtain⟨v4,v5,v6,rfl, -⟩:=hr2.open_;by_cases hz:a.kind=0∧b.kind=0
 ·obtain⟨⟨x,y,er⟩,hap⟩:∃r,applyF f a.num a.den b.num b.den=r:=⟨_,rfl⟩;refine(pfold_two f a b v1 v2 v3 v4 v5 v6 w hz.1 hz.2 hf ha.2.2.2.2.2.1 ha.2.2.2.2.2.2 hb.2.2.2.2.2.1 hb.2.2.2.2.2.2 x y er hap).mono ?_;rintro e' w' ⟨rfl,g⟩;have hF:fold1E f a b=if er=0 then some (numE x y)else none:=by unfold fold1E;rw[if_pos hz,hap]
  refine⟨numL x y,?_,rfl,numL_ones _ _,fun t ht=>?_,g⟩
  ·rw[hF];by_cases h0:er=0<;>simp[h0]
  rw[hF]at ht;split at ht
  ·cases ht;exact RdEQ.mk_ (e:=numE x y) (RdRQ.nil _ _ _) (RdRQ.nil _ _ _) (RdTQ.nil _ _)
  cases ht
 refine(pfold_not f a b v1 v2 v3 v4 v5 v6 w hz).mono ?_;rintro e' w' ⟨rfl,g⟩;have hF:fold1E f a b=none:=by unfold fold1E;rw[if_neg hz]
 exact⟨numL 0 0,by rw[hF];rfl,rfl,numL_ones _ _,(fun t ht=>by rw[hF]at ht;cases ht),g⟩
theorem rule_any {m:Nat} (hm:m<6) {f:Int} (hf:0≤f∧f≤3) {a b:Ex} (ha:SOk a) (hb:SOk b) (hna:nodesE a≤1000000) (hnb:nodesE b≤1000000) {Q:Nat→Prop} {w:World} {cs1 cs2:List Value} (hwt:WTab w) (hot:OTab w) (hq:∀b,Q b→b<w.heap.size) (hr1:RdEQ w Q a cs1) (hr2:RdEQ w Q b cs2):
  Calls Tryz.prog (ruleF m) #[.int .i64 f,.agg cs1.toArray,.agg cs2.toArray] w (RuleAny (ruleE m f a b) Q w):=by
 rcases m with _|_|_|_|_|_|m
 ·exact fold1_any hf ha.top.1.1 hb.top.1.1 hr1 hr2
 ·exact(neutral_any (ha.rw_ hna) (hb.rw_ hnb) hwt hot hq hr1 hr2).mono fun _ _ h=>h.any
 ·exact(cancelSum_any (ha.rw_ hna) (hb.rw_ hnb) hwt hot hq hr1 hr2).mono fun _ _ h=>h.any
 ·exact(cancelProduct_any (ha.rw_ hna) (hb.rw_ hnb) hwt hot hq hr1 hr2).mono fun _ _ h=>h.any
 ·exact(vanish_any (ha.rw_ hna) (hb.rw_ hnb) hwt hot hq hr1 hr2).mono fun _ _ h=>h.any
 ·exact(nothing_any (ha.rw_ hna) (hb.rw_ hnb) hwt hot hq hr1 hr2).mono fun _ _ h=>h.any
 omega
end Go.Proofs.YtcimmbhdcebehaaGreatDoor
namespace Go.Proofs.YtcimmbhdcebehaaGreatDoor
open Pl
theorem redF_one {z:Int} {d:Nat} (h:z.natAbs.gcd d=1) (hz:z.natAbs≤4611686018427387904) (hd:d≤4611686018427387904):redF z d=(z,(d:Int),0):=by
 unfold redF;rw[h,Nat.div_one,Nat.div_one,if_pos ⟨hz,hd⟩];simp
theorem valid_of {n d:Int} (h1:1≤d) (h2:d≤4611686018427387904) (h3:n.natAbs≤4611686018427387904) (h:n.natAbs.gcd d.toNat=1):validF n d=true:=decide_eq_true ⟨h1,h2,by omega,by omega,h⟩
theorem valid_one {n:Int} (h:n.natAbs≤4611686018427387904):validF n 1=true:=valid_of (by decide) (by decide) h (Nat.gcd_one_right _)
theorem foldN_num (n d:Int):foldR (numE n d)=numE n d:=rfl
theorem foldR_bin (f:Int) (a b:Ex):foldR (binE f a b)=foldN (binE f (foldR a) (foldR b)):=by
 unfold binE;rw[foldR,foldRs,foldRs,foldRs]
theorem foldN_ok {f n1 d1 n2 d2 n d:Int} (h:applyF f n1 d1 n2 d2=(n,d,0)):foldN (binE f (numE n1 d1) (numE n2 d2))=numE n d:=by
 show(if(3:Int)=3∧(0:Int)=0∧(0:Int)=0∧(applyF f n1 d1 n2 d2).2.2=0 then numE (applyF f n1 d1 n2 d2).1 (applyF f n1 d1 n2 d2).2.1 else _)=_;rw[h,if_pos ⟨rfl,rfl,rfl,rfl⟩]
theorem div_small {m D:Int} (hm:0≤m∧m≤1073741824) (hD:1≤D∧D≤1073741824) (h:m.natAbs.gcd D.toNat=1):applyF 3 m 1 D 1=(m,D,0):=by
 unfold applyF;rw[if_neg (by decide),if_neg (by decide),if_neg (by decide)];unfold divF;rw[if_pos ⟨valid_one (by omega),valid_one (by omega)⟩,if_neg (by omega),if_neg (by omega)];unfold mulF;rw[if_pos ⟨valid_one (by omega),valid_of hD.1 (by omega) (by decide) (Nat.gcd_one_left _)⟩,Int.mul_one,Int.one_mul,redF_one h (by omega) (by omega),Int.toNat_of_nonneg (by omega)]
theorem neg_small {m D:Int} (hm:0≤m∧m≤1073741824) (hD:1≤D∧D≤1073741824) (h:m.natAbs.gcd D.toNat=1):applyF 1 0 1 m D=(-m,D,0):=by
 unfold applyF;rw[if_neg (by decide),if_pos rfl];have hv:validF (-m) D=true:=valid_of hD.1 (by omega) (by omega) (by rw[Int.natAbs_neg];exact h);unfold subF;rw[if_pos ⟨valid_one (by decide),valid_of hD.1 (by omega) (by omega) h⟩];unfold addF;rw[if_pos ⟨valid_one (by decide),hv⟩,Int.zero_mul,Int.zero_add,Int.mul_one,Int.one_mul,redF_one (by rw[Int.natAbs_neg];exact h) (by omega) (by omega),Int.toNat_of_nonneg (by omega)]
theorem numT_good {n d:Int} (hn:n.natAbs≤1073741824) (hd:1≤d∧d≤1073741824):GoodT 5 3 (numT n d):=by
 have g0:GoodT 1 1 (numE 0 1):=num_good (valid_one (by decide));have gm:∀m:Nat,m≤1073741824→GoodT 1 1 (numE m 1):=fun m h=>num_good (valid_one (by omega))
 have gd:GoodT 1 1 (numE d 1):=num_good (valid_one (by omega));have gM:GoodT 3 2 (if d=1 then numE n.natAbs 1 else binE 3 (numE n.natAbs 1) (numE d 1)):=by
  split
  ·exact(gm _ hn).more (by decide) (by decide)
  exact(bin_good (f:=3) (by decide) (gm _ hn) gd).more (by decide) (by decide)
 unfold numT;split
 ·rename_i h
  obtain⟨m,rfl⟩:∃m:Nat,n=(m:Int):=⟨n.toNat,by omega⟩;exact(gm m (by omega)).more (by decide) (by decide)
 split
 ·exact(bin_good (f:=1) (by decide) g0 gM).more (by decide) (by decide)
 exact gM.more (by decide) (by decide)
theorem fold_numT {n d:Int} (hv:validF n d=true) (hn:n.natAbs≤1073741824) (hd:d≤1073741824):foldV (numT n d)=numE n d:=by
 have hv0:=valid_nums hv;have hd1:1≤d∧d≤1073741824:=⟨hv0.1,hd⟩;have hg:=hv0.2.2.2.2;unfold foldV;rw[if_pos (good_valid (numT_good hn hd1) (by decide) (by decide))];have hM:foldR (if d=1 then numE n.natAbs 1 else binE 3 (numE n.natAbs 1) (numE d 1))=numE n.natAbs d:=by
  split
  ·rename_i h;rw[h];rfl
  rw[foldR_bin];exact foldN_ok (div_small ⟨by omega,by omega⟩ hd1 (by rw[Int.natAbs_natCast];exact hg))
 unfold numT;split
 ·rename_i h;rw[foldN_num,h.1]
 split
 ·rw[foldR_bin,hM];refine(foldN_ok (neg_small ⟨by omega,by omega⟩ hd1 (by rw[Int.natAbs_natCast];exact hg))).trans ?_;rw[show -((n.natAbs:Nat):Int)=n by omega]
 rw[hM,show((n.natAbs:Nat):Int)=n by omega]
theorem redF_small {z:Int} {d:Nat} (hz:z.natAbs≤4611686018427387904) (hd:d≤4611686018427387904):(redF z d).2.2=0:=by
 unfold redF;rw[if_pos ⟨Nat.le_trans (Nat.div_le_self _ _) hz,Nat.le_trans (Nat.div_le_self _ _) hd⟩]
theorem mul_le {a b:Int} (ha:a.natAbs≤1073741824) (hb:b.natAbs≤1073741824):(a*b).natAbs≤1152921504606846976:=by
 rw[Int.natAbs_mul];exact Nat.mul_le_mul ha hb
def SmF (n d:Int):Prop:=validF n d=true∧n.natAbs≤1073741824∧d.natAbs≤1073741824
theorem addF_ok {n1 d1 n2 d2:Int} (h1:SmF n1 d1) (h2:SmF n2 d2):(addF n1 d1 n2 d2).2.2=0:=by
 unfold addF;rw[if_pos ⟨h1.1,h2.1⟩];have a:=mul_le h1.2.1 h2.2.2;have b:=mul_le h2.2.1 h1.2.2;have c:=mul_le h1.2.2 h2.2.2;exact redF_small (by omega) (by omega)
theorem mulF_ok {n1 d1 n2 d2:Int} (h1:SmF n1 d1) (h2:SmF n2 d2):(mulF n1 d1 n2 d2).2.2=0:=by
 unfold mulF;rw[if_pos ⟨h1.1,h2.1⟩];have a:=mul_le h1.2.1 h2.2.1;have c:=mul_le h1.2.2 h2.2.2;exact redF_small (by omega) (by omega)
theorem SmF.neg {n d:Int} (h:SmF n d):SmF (-n) d:=by
 have hv:=valid_nums h.1;exact⟨valid_of hv.1 hv.2.1 (by have:=h.2.1;omega) (by rw[Int.natAbs_neg];exact hv.2.2.2.2),by have:=h.2.1;omega,h.2.2⟩
theorem SmF.inv {n d:Int} (h:SmF n d) (hn:0<n):SmF d n:=by
 have hv:=valid_nums h.1;refine⟨valid_of (by omega) (by have:=h.2.1;omega) (by have:=h.2.2;omega) ?_,h.2.2,h.2.1⟩;rw[Nat.gcd_comm];have:=hv.2.2.2.2;rwa[show n.toNat=n.natAbs by omega,show d.natAbs=d.toNat by omega]
theorem apply_err {f n1 d1 n2 d2:Int} (hf:0≤f∧f≤3) (h1:SmF n1 d1) (h2:SmF n2 d2) (he:(applyF f n1 d1 n2 d2).2.2≠0):f=3∧n2=0:=by
 unfold applyF at he;by_cases f0:f=0
 ·rw[if_pos f0]at he;exact absurd (addF_ok h1 h2) he
 rw[if_neg f0]at he;by_cases f1:f=1
 ·rw[if_pos f1]at he;unfold subF at he;rw[if_pos ⟨h1.1,h2.1⟩]at he;exact absurd (addF_ok h1 h2.neg) he
 rw[if_neg f1]at he;by_cases f2:f=2
 ·rw[if_pos f2]at he;exact absurd (mulF_ok h1 h2) he
 rw[if_neg f2]at he;refine⟨by omega,?_⟩;by_cases h0:n2=0
 ·exact h0
 unfold divF at he;rw[if_pos ⟨h1.1,h2.1⟩,if_neg h0]at he;by_cases hneg:n2<0
 ·rw[if_pos hneg]at he;have h3:=h2.neg.inv (by omega);exact absurd (mulF_ok (n2:= -d2) (d2:= -n2) h1 h3.neg) he
 rw[if_neg hneg]at he;exact absurd (mulF_ok h1 (h2.inv (by omega))) he
theorem simp_num (n d:Int):simpE (numE n d)=numE n d:=by
 rw[simpE_eq];rfl
theorem simp_bin (f n1 d1 n2 d2:Int):simpE (binE f (numE n1 d1) (numE n2 d2))=(rulesE f (numE n1 d1) (numE n2 d2)).getD (binE f (numE n1 d1) (numE n2 d2)):=by
 rw[simpE_eq];show simpN (binE f (simpE (numE n1 d1)) (simpE (numE n2 d2)))=_;rw[simp_num,simp_num];exact simpN_two rfl rfl
theorem fold1_num (f n1 d1 n2 d2:Int):fold1E f (numE n1 d1) (numE n2 d2)=if(applyF f n1 d1 n2 d2).2.2=0 then some (numE (applyF f n1 d1 n2 d2).1 (applyF f n1 d1 n2 d2).2.1)else none:=by
 unfold fold1E;exact if_pos ⟨rfl,rfl⟩
theorem simp_ok {f n1 d1 n2 d2 n d:Int} (h:applyF f n1 d1 n2 d2=(n,d,0)):simpE (binE f (numE n1 d1) (numE n2 d2))=numE n d:=by
 rw[simp_bin,rules_some (m:=0) (by decide) (fun k hk=>by omega) (show fold1E f (numE n1 d1) (numE n2 d2)=some (numE n d) by rw[fold1_num,h,if_pos rfl])];rfl
theorem simp_err {f n1 d1 n2 d2:Int} (hf:0≤f∧f≤3) (h1:SmF n1 d1) (h2:SmF n2 d2) (he:(applyF f n1 d1 n2 d2).2.2≠0):simpE (binE f (numE n1 d1) (numE n2 d2))=binE f (numE n1 d1) (numE n2 d2):=by
 obtain⟨rfl,rfl⟩:=apply_err hf h1 h2 he;have hb:isE (numE 0 d2) 1=false:=decide_eq_false fun h=>by have:=h.2.1;revert this;show ¬((0:Int)=1);decide
 have ho:∀g:Int,opE (numE n1 d1) g=false:=fun g=>decide_eq_false fun h=>by have:=h.1;revert this;show ¬((0:Int)=3);decide
 have ho2:∀g:Int,opE (numE 0 d2) g=false:=fun g=>decide_eq_false fun h=>by have:=h.1;revert this;show ¬((0:Int)=3);decide
 rw[simp_bin,rules_none]
 ·rfl
 intro m hm;rcases(by omega:m=0∨m=1∨m=2∨m=3∨m=4∨m=5)with rfl|rfl|rfl|rfl|rfl|rfl
 ·show fold1E 3 (numE n1 d1) (numE 0 d2)=none;rw[fold1_num,if_neg he]
 ·show neutralE 3 (numE n1 d1) (numE 0 d2)=none;unfold neutralE;simp[hb]
 ·show cancelSumE 3 (numE n1 d1) (numE 0 d2)=none;unfold cancelSumE;simp
 ·show cancelProductE 3 (numE n1 d1) (numE 0 d2)=none;unfold cancelProductE;simp[ho]
 ·show vanishE 3 (numE n1 d1) (numE 0 d2)=none;unfold vanishE;simp
 show nothingE 3 (numE n1 d1) (numE 0 d2)=none;unfold nothingE;simp
end Go.Proofs.YtcimmbhdcebehaaGreatDoor
namespace Go.Proofs.YtcimmbhdcebehaaGreatDoor
open Go.RowKit Pl
theorem boundB_any (n:Int) (w:World) (hn:I64 n):Calls Tryz.prog 5 #[.int .i64 n,.int .i64 1073741824] w fun e w'=>e= .returned (.int .i64 ((arnd n 2147483649:Nat)-1073741824:Int))∧w=w':=by
 have HA:=Lib.hid (show Calls Tryz.prog 6 #[.int .i64 n,.int .i64 2147483649] w (fun e w'=>e= .returned (.int .i64 (arnd n 2147483649:Nat))∧w=w')from around_any n 2147483649 w hn (by decide) (by decide));have hl:=arnd_lt n 2147483649 (by decide);generalize arnd n 2147483649=q at*;obtain⟨z,hz⟩:∃z:Int,(q:Int)-1073741824=z:=⟨_,rfl⟩;have e1:IntKind.i64.wrap ((q:Int)-1073741824)=z:=by rw[hz];exact IntWalk.i64_in _ (by omega)
 have HZ:=Lib.hid hz;clear hn hl hz;go_enter Tryz.func5,Tryz.ntmps5;go_wp2_with(go_at_call 6;(with_reducible refine HA.out.mono ?_);rintro e3 w3 ⟨rfl,rfl⟩);go_ret;exact⟨by rw[HZ.out];rfl,rfl⟩
theorem fnewS_any (n d:Int) (w:World) (hn:n.natAbs≤1073741824) (hd:1≤d∧d≤1073741824):Calls Tryz.prog 4 #[.int .i64 n,.int .i64 d] w fun e w'=>e= .returned (fracR (redF n d.toNat))∧Grew w w':=by
 obtain⟨D,rfl⟩:∃D:Nat,d=(D:Int):=⟨d.toNat,by omega⟩;rw[Int.toNat_natCast];have hg:0<n.natAbs.gcd D:=Nat.gcd_pos_of_pos_right _ (by omega);have hgd:=Nat.gcd_dvd_left n.natAbs D;have hgl:=Nat.gcd_le_right (m:=n.natAbs) (n:=D) (by omega);have HG:=Lib.hid (fun w'=>show Calls Tryz.prog 17 #[.int .i64 (n.natAbs:Nat),.int .i64 (D:Nat)] w' (fun e w''=>e= .returned (.int .i64 (n.natAbs.gcd D:Nat))∧Grew w' w'')from(gcdI_any n.natAbs D w' (by omega) (by omega)).mono fun e w'' h=>by obtain⟨h1,k,rfl⟩:=h;exact⟨h1,Keeps.drewN (Grew.refl _) _⟩);have HA:=Lib.hid (fun w'=>abs_any n w' (by omega) (by omega));obtain⟨x,hx⟩:∃x:Int,n.tdiv ((n.natAbs.gcd D:Nat):Int)=x:=⟨_,rfl⟩;obtain⟨y,hy⟩:∃y:Nat,D/n.natAbs.gcd D=y:=⟨_,rfl⟩;have hxl:x.natAbs≤1073741824:=by
  rw[←hx,Int.natAbs_tdiv,Int.natAbs_natCast];exact Nat.le_trans (Nat.div_le_self _ _) hn
 have hyl:y≤1073741824:=by
  rw[←hy];exact Nat.le_trans (Nat.div_le_self _ _) (by omega)
 have HR:Hid (redF n D=(x,(y:Int),0)):=Lib.hid (by
  unfold redF;rw[if_pos ⟨by have:=Nat.div_le_self n.natAbs (n.natAbs.gcd D);omega,by rw[hy];omega⟩,hx,hy])
 have hyt:(D:Int).tdiv ((n.natAbs.gcd D:Nat):Int)=(y:Int):=by rw[←hy];rfl
 have HAx:=Lib.hid (fun w'=>abs_any x w' (by omega) (by omega));generalize n.natAbs.gcd D=g at*;have q0:¬(g:Int)=0:=by omega
 have f1:IntKind.i64.wrap x=x:=IntWalk.i64_in _ (by omega);have f2:IntKind.i64.wrap (y:Int)=(y:Int):=IntWalk.i64_in _ (by omega);have t0:((D:Int)==0)=false:=by rw[beq_eq_false_iff_ne];omega
 have t1:(n== -9223372036854775808)=false:=by rw[beq_eq_false_iff_ne];omega
 have t2:((D:Int)== -9223372036854775808)=false:=by rw[beq_eq_false_iff_ne];omega
 have t3:decide ((D:Int)<0)=false:=decide_eq_false (by omega);have t4:decide (((x.natAbs:Nat):Int)>4611686018427387904)=false:=decide_eq_false (by omega);have t5:decide ((y:Int)>4611686018427387904)=false:=decide_eq_false (by omega);rw[HR.out];have hb:=Box.new w 23 (fracL 0 0).toArray;have hG:=(Grew.refl w).alloc (.cells (fracL 0 0).toArray 23);clear hn hd hg hgd hgl hxl hyl HR hy;go_enter Tryz.func4,Tryz.ntmps4;go_upto_region 1 with fail;change Code.wp _ _ _ _ (w.alloc (.cells (fracL 0 0).toArray 23));generalize w.alloc (.cells (fracL 0 0).toArray 23)=w1 at*;have HGr:=Lib.hid hG;have HB:=Lib.hid hb;clear hG hb;go_upto_region 8 with(first|(go_at_call 18;(with_reducible refine(HA.out _).mono ?_);rintro e3 w3 ⟨rfl,rfl⟩)|(go_at_call 17;(with_reducible refine(HG.out _).mono ?_);rintro e3 w3 ⟨rfl,k3⟩;have HB3:=Lib.hid (HB.out.grew k3);have HG3:=Lib.hid (HGr.out.trans k3);clear k3));clear t0 t1 t2 t3;go_quiet (fail);have hb2:Box (w3.drewN nq) w.heap.size 23 (fracL 0 0).toArray:=HB3.out.drewN nq;have hg2:Grew w3 (w3.drewN nq):=Keeps.drewN (Grew.refl _) _;generalize w3.drewN nq=w2 at*;go_wp2_with(first|(go_at_call 18;(with_reducible refine(HAx.out _).mono ?_);rintro e3 w3 ⟨rfl,rfl⟩)|((with_reducible refine at_store 23 (.tmp 4) (.tmp 43) rfl ?_);refine stN 23 (.tmp 4) (.tmp 43) (w.heap.size) (fracL x (y:Int)) (fracL 0 0) 23 infoF rfl (fracL_ones _ _) rfl rfl rfl rfl hb2 ?_;intro w8 hb8 k8 d8));refine bodyPost_ret (results_frac rfl rfl rfl infoF Tryz.underlying23 rfl hb8) rfl ?_;exact⟨rfl,Keeps.then_ (HG3.out.trans hg2) k8 (fun i hi e=>by omega)⟩
end Go.Proofs.YtcimmbhdcebehaaGreatDoor
