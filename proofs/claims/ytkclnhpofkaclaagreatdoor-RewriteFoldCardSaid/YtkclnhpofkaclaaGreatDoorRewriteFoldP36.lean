/- What the card of the law stands on: SmpA, SmpB. -/
import Derived.Test.YtkclnhpofkaclaaGreatDoorRewriteFoldP35
import Derived.Test.YtkclnhpofkaclaaGreatDoorRewriteFoldP25
import Derived.Test.YtkclnhpofkaclaaGreatDoorRewriteFoldP26
import Derived.Test.YtkclnhpofkaclaaGreatDoorRewriteFoldP15
import Derived.Test.YtkclnhpofkaclaaGreatDoorRewriteFoldP01
import Derived.Test.YtkclnhpofkaclaaGreatDoorRewriteFoldP04
import Derived.Test.YtkclnhpofkaclaaGreatDoorRewriteFoldP28
import Derived.Test.YtkclnhpofkaclaaGreatDoorRewriteFoldP14
import Derived.Deep.DeepCutAuto
set_option maxRecDepth 100000
set_option maxHeartbeats 12800000
set_option linter.unusedVariables false
set_option linter.unusedSimpArgs false
namespace Go.Proofs.YtkclnhpofkaclaaGreatDoor
open Go.RowKit Pl
def Fp (f:Int) (a b:Ex):Option Ex:=if a.kind=0∧b.kind=0 then(if(Bc f a.num a.den b.num b.den).2.2=0 then some (Ay (Bc f a.num a.den b.num b.den).1 (Bc f a.num a.den b.num b.den).2.1)else none)else none
def Bo (m:Nat) (f:Int) (a b:Ex):Option Ex:=
 match m with
 |0=>Fp f a b
 |1=>By f a b
 |2=>Ax f a b
 |3=>Ag f a b
 |4=>E7 f a b
 |_=>Cs f a b
def Ec (f:Int) (a b:Ex):Option Ex:=(Bo 0 f a b).or ((Bo 1 f a b).or ((Bo 2 f a b).or ((Bo 3 f a b).or ((Bo 4 f a b).or (Bo 5 f a b)))))
theorem Ia {f:Int} {a b:Ex} (h:∀m,m<6→Bo m f a b=none):Ec f a b=none:=by
 unfold Ec;rw[h 0 (by decide),h 1 (by decide),h 2 (by decide),h 3 (by decide),h 4 (by decide),h 5 (by decide)];rfl
theorem G4 {f:Int} {a b:Ex} {m:Nat} (hm:m<6) (h:∀k,k<m→Bo k f a b=none) {t:Ex} (ht:Bo m f a b=some t):Ec f a b=some t:=by
 unfold Ec;rcases m with _|_|_|_|_|_|m
 ·rw[ht];rfl
 ·rw[h 0 (by decide),ht];rfl
 ·rw[h 0 (by decide),h 1 (by decide),ht];rfl
 ·rw[h 0 (by decide),h 1 (by decide),h 2 (by decide),ht];rfl
 ·rw[h 0 (by decide),h 1 (by decide),h 2 (by decide),h 3 (by decide),ht];rfl
 ·rw[h 0 (by decide),h 1 (by decide),h 2 (by decide),h 3 (by decide),h 4 (by decide),ht];rfl
 omega
theorem Ni {f:Int} {a b t:Ex} (h:Ec f a b=some t):∃m,m<6∧Bo m f a b=some t:=by
 by_cases hn:∀m,m<6→Bo m f a b=none
 ·rw[Ia hn]at h;cases h
 have h1:∃m,m<6∧(∀k,k<m→Bo k f a b=none)∧Bo m f a b≠none:=by
  by_cases h0:Bo 0 f a b=none
  ·by_cases h1:Bo 1 f a b=none
   ·by_cases h2:Bo 2 f a b=none
    ·by_cases h3:Bo 3 f a b=none
     ·by_cases h4:Bo 4 f a b=none
      ·refine⟨5,by decide,fun k hk=>?_,fun h5=>hn fun m hm=>?_⟩
       ·rcases k with _|_|_|_|_|k<;>first|assumption|omega
       rcases m with _|_|_|_|_|_|k<;>first|assumption|omega
      exact⟨4,by decide,fun k hk=>by rcases k with _|_|_|_|k<;>first|assumption|omega,h4⟩
     exact⟨3,by decide,fun k hk=>by rcases k with _|_|_|k<;>first|assumption|omega,h3⟩
    exact⟨2,by decide,fun k hk=>by rcases k with _|_|k<;>first|assumption|omega,h2⟩
   exact⟨1,by decide,fun k hk=>by rcases k with _|k<;>first|assumption|omega,h1⟩
  exact⟨0,by decide,fun k hk=>by omega,h0⟩
 obtain⟨m,hm,hk,hne⟩:=h1;obtain⟨u,hu⟩:=Option.ne_none_iff_exists'.1 hne;rw[G4 hm hk hu]at h;exact⟨m,hm,hu.trans h⟩
def Js (e:Ex):Ex:=
 match e.kids with
 |[a,b]=>if e.kind=3 then(Ec e.fn a b).getD e else e
 |_=>e
mutual
def Ad:Ex→Ex
 | .mk k f w o q n d nm ms bs ks=>Js (.mk k f w o q n d nm ms bs (If ks))
def If:List Ex→List Ex
 |[]=>[]
 |e::es=>Ad e::If es
end
theorem Iw:∀es:List Ex,If es=es.map Ad
 |[]=>by unfold If;rfl
 |e::es=>by unfold If;rw[Iw es];rfl
theorem I9 (e:Ex):Ad e=Js (e.withKids (e.kids.map Ad)):=by
 cases e;rw[Ad,Iw];rfl
theorem JQ {e a b:Ex} (hk:e.kids=[a,b]) (h3:e.kind=3):Js e=(Ec e.fn a b).getD e:=by
 unfold Js;rw[hk];simp only[h3,if_true]
theorem Jg {e:Ex} (h:e.kind≠3):Js e=e:=by
 unfold Js;split
 ·rw[Un h]
 rfl
def TG (e:Ex):Prop:=KF e∧Nh e∧e.ms.length≤1000000∧e.bys.length≤1000000
def Ej (e:Ex):Prop:=Aw TG e
theorem Ej.src {e:Ex} (h:Ej e):Aw Nh e:=Aw.mono (fun _ h=>h.2.1) (AD e) e (Ua _) h
theorem Jh {es:List Ex} (h:∀e∈es,DW e):Du es:=by
 induction es with
 |nil=>unfold Du;trivial
 |cons e es ih=>unfold Du;exact⟨h e List.mem_cons_self,ih fun k hk=>h k (List.mem_cons_of_mem _ hk)⟩
theorem Ej.tidy:∀(n:Nat) (e:Ex),AD e≤n→Ej e→DW e
 |0,e,h,_=>absurd (AZ e) (by omega)
 |n+1,e,h,hok=>by
  have h1:=hok.top;have h2:=Ao e;have h3:Du e.kids:=Jh fun k hk=>Ej.tidy n k (by have:=AT hk;omega) (hok.kid hk)
  cases e;unfold DW;exact⟨h1.2.2.1,h1.2.2.2,h3⟩
theorem Ej.rw_ {e:Ex} (h:Ej e) (hn:AD e≤1000000):CE e:=⟨h.src,h.tidy (AD e) e (Ua _),hn⟩
theorem Hz {x y:Int} (hx:Ah x) (hy:Ah y):Ej (Ay x y):=by
 have h0:Ah 0:=Bt.1;exact Aa.2 ⟨⟨⟨⟨h0,h0,h0,h0,h0,hx,hy⟩,fun h=>nomatch h⟩,.inl ⟨rfl,rfl⟩,Nat.zero_le _,Nat.zero_le _⟩,fun k hk=>nomatch hk⟩
theorem RU:Ej zE:=Hz (x:=0) (y:=0) Bt.1 Bt.1
theorem Ej.two {e:Ex} (h:Ej e) (h3:e.kind=3):∃a b,e.kids=[a,b]∧Ej a∧Ej b∧AD e=1+AD a+AD b:=by
 obtain⟨a,b,hk⟩:=GZ h.top.2.1 h3;refine⟨a,b,hk,h.kid (by rw[hk];simp),h.kid (by rw[hk];simp),?_⟩;rw[Ao,hk];unfold AO AO AO;omega
theorem QK {e:Ex} (h:Ej e) (f:Int):Ej (pt1 e f)∧AD (pt1 e f)≤AD e:=by
 unfold pt1;split
 ·rename_i ho
  obtain⟨h3, -⟩:=Ui ho;obtain⟨a,b,hk,ha,hb,hn⟩:=h.two h3;rw[hk];exact⟨ha,by show AD a≤AD e;omega⟩
 exact⟨RU,AZ e⟩
theorem Oo {e:Ex} (h:Ej e) (f:Int):Ej (pt2 e f)∧AD (pt2 e f)≤AD e:=by
 unfold pt2;split
 ·rename_i ho
  obtain⟨h3, -⟩:=Ui ho;obtain⟨a,b,hk,ha,hb,hn⟩:=h.two h3;rw[hk];exact⟨hb,by show AD b≤AD e;omega⟩
 exact⟨RU,AZ e⟩
theorem PP {m:Nat} {f:Int} {a b t:Ex} (ha:Ej a) (hb:Ej b) (hf:0≤f∧f≤3) (h:Bo m f a b=some t):Ej t∧AD t≤1+AD a+AD b:=by
 have pa:=AZ a;have pb:=AZ b;have key:(∃e,(e=a∨e=b)∧(t=e∨∃f,t=pt1 e f∨t=pt2 e f))→Ej t∧AD t≤1+AD a+AD b:=by
  rintro⟨e,he,ht⟩;have h1:Ej e∧AD e≤AD a+AD b:=by
   rcases he with rfl|rfl
   ·exact⟨ha,by omega⟩
   exact⟨hb,by omega⟩
  rcases ht with rfl|⟨f,rfl|rfl⟩
  ·exact⟨h1.1,by omega⟩
  ·exact⟨(QK h1.1 f).1,by have:=(QK h1.1 f).2;omega⟩
  exact⟨(Oo h1.1 f).1,by have:=(Oo h1.1 f).2;omega⟩
 unfold Bo at h;split at h
 ·unfold Fp at h;split at h
  ·split at h
   ·cases h;exact⟨Hz (Fc rfl).1 (Fc rfl).2,by show 1≤_;omega⟩
   cases h
  cases h
 ·unfold By at h;dsimp only at h;generalize (if f=2∨f=3 then(1:Int)else 0)=n at h;by_cases h1:Io b n=true
  ·rw[Uo h1]at h;cases h;exact key ⟨_,.inl rfl,.inl rfl⟩
  rw[Un h1]at h;split at h
  ·cases h;exact key ⟨_,.inr rfl,.inl rfl⟩
  cases h
 ·unfold Ax at h;split at h
  ·cases h;exact key ⟨a,.inl rfl,.inr ⟨_,.inl rfl⟩⟩
  split at h
  ·cases h;exact key ⟨a,.inl rfl,.inr ⟨_,.inr rfl⟩⟩
  split at h
  ·cases h;exact key ⟨b,.inr rfl,.inr ⟨_,.inr rfl⟩⟩
  split at h
  ·cases h;exact key ⟨a,.inl rfl,.inr ⟨_,.inl rfl⟩⟩
  split at h
  ·cases h;exact key ⟨b,.inr rfl,.inr ⟨_,.inl rfl⟩⟩
  cases h
 ·unfold Ag at h;split at h
  ·cases h;exact key ⟨a,.inl rfl,.inr ⟨_,.inl rfl⟩⟩
  split at h
  ·cases h;exact key ⟨a,.inl rfl,.inr ⟨_,.inr rfl⟩⟩
  split at h
  ·cases h;exact key ⟨a,.inl rfl,.inr ⟨_,.inl rfl⟩⟩
  split at h
  ·cases h;exact key ⟨b,.inr rfl,.inr ⟨_,.inl rfl⟩⟩
  cases h
 ·unfold E7 at h;split at h
  ·cases h;refine⟨Aa.2 ⟨⟨⟨?_,?_⟩,.inr (.inr ⟨rfl,a,Ay 0 1,rfl⟩),Nat.zero_le _,Nat.zero_le _⟩,fun k hk=>?_⟩,?_⟩
   ·show Ah 3∧Ah 2∧Ah 0∧Ah 0∧Ah 0∧Ah 0∧Ah 0;unfold Ah;omega
   ·exact fun _=>⟨rfl,show(0:Int)≤2 by decide,show(2:Int)≤3 by decide⟩
   ·rcases List.mem_cons.1 hk with rfl|hk
    ·exact ha
    obtain rfl:=Ug.1 hk;exact Hz (by unfold Ah;omega) (by unfold Ah;omega)
   rw[Ao];show 1+AO [a,Ay 0 1]≤_;unfold AO AO AO;have:AD (Ay 0 1)=1:=rfl;omega
  cases h
 unfold Cs at h;split at h
 ·cases h;exact key ⟨a,.inl rfl,.inl rfl⟩
 split at h
 ·cases h;exact key ⟨b,.inr rfl,.inl rfl⟩
 cases h
theorem F3:∀(n:Nat) (e:Ex),AD e≤n→Ej e→Ej (Ad e)∧AD (Ad e)≤AD e
 |0,e,h,_=>absurd (AZ e) (by omega)
 |n+1,e,h,hok=>by
  have h2:=Ao e;have hin:∀k∈e.kids,Ej (Ad k)∧AD (Ad k)≤AD k:=fun k hk=>F3 n k (by have:=AT hk;omega) (hok.kid hk)
  have htop:=hok.top;have hnd:AD (e.withKids (e.kids.map Ad))≤AD e:=by
   rw[Ao,Bq];have:=FF (f:=Ad) e.kids fun k hk=>(hin k hk).2
   omega
  rw[I9];by_cases h3:e.kind=3
  ·obtain⟨a,b,hk,ha,hb,hn⟩:=hok.two h3;have hA:=hin a (by rw[hk];simp);have hB:=hin b (by rw[hk];simp);have hk2:(e.withKids (e.kids.map Ad)).kids=[Ad a,Ad b]:=by rw[Bq,hk];rfl
   rw[JQ hk2 (by rw[Cg];exact h3),JX];have hp:=htop.1.2 h3;cases hr:Ec e.fn (Ad a) (Ad b)with
   |some t=>
    obtain⟨m,hm,ht⟩:=Ni hr;have:=PP hA.1 hB.1 ⟨hp.2.1,hp.2.2⟩ ht;exact⟨this.1,by show AD t≤AD e;omega⟩
   |none=>
    show Ej (e.withKids (e.kids.map Ad))∧AD (e.withKids (e.kids.map Ad))≤AD e;refine⟨Aa.2 ⟨?_,fun k hkk=>?_⟩,hnd⟩
    ·have hs:Nh (e.withKids (e.kids.map Ad)):= .inr (.inr ⟨by rw[Cg];exact h3,_,_,hk2⟩);refine⟨⟨Ih e _ htop.1.1,fun _=>⟨by rw[hk2];rfl,by rw[JX];exact hp.2⟩⟩,hs,by rw[Ig];exact htop.2.2.1,by rw[Gx];exact htop.2.2.2⟩
    have hkk':k∈[Ad a,Ad b]:=hk2▸hkk;rcases List.mem_cons.1 hkk' with rfl|hkk'
    ·exact hA.1
    obtain rfl:=Ug.1 hkk';exact hB.1
  rw[Jg (by rw[Cg];exact h3)];refine⟨Aa.2 ⟨?_,fun k hkk=>?_⟩,hnd⟩
  ·refine⟨⟨Ih e _ htop.1.1,fun h=>absurd (by rw[Cg]at h;exact h) h3⟩,?_,by rw[Ig];exact htop.2.2.1,by rw[Gx];exact htop.2.2.2⟩;rcases htop.2.1 with⟨h0,hks⟩|⟨h1,hm,hs⟩|⟨h, -⟩
   ·exact .inl ⟨by rw[Cg];exact h0,by rw[Bq,hks];rfl⟩
   ·exact .inr (.inl ⟨by rw[Cg];exact h1,by rw[Ig];exact hm,by rw[show(e.withKids (e.kids.map Ad)).name=e.name from by cases e;rfl];exact hs⟩)
   exact absurd h h3
  rw[Bq]at hkk;obtain⟨k',hk',rfl⟩:=List.mem_map.1 hkk;exact(hin k' hk').1
def KA (r:Option Ex) (Q:Nat→Prop) (w:World) (e':Ending) (w':World):Prop:=∃cs,e'= .returned (.tuple #[.agg cs.toArray,.bool r.isSome])∧cs.length=11∧(∀v∈cs,v.oneCell'=true)∧(∀t,r=some t→AN w' (fun b=>Q b∨(w.heap.size≤b∧b<w'.heap.size)) t cs)∧A5 w w'
theorem CN.any {r:Option Ex} {Q:Nat→Prop} {w w':World} {e':Ending} (h:CN r Q w e' w'):KA r Q w e' w':=by
 obtain⟨cs,he,hr,g⟩:=h;exact⟨cs,he,hr.len,AQ hr,fun t ht=>by rw[ht]at hr;exact hr,g⟩
def Kt (m:Nat):FuncId:=
 match m with
 |0=>33
 |1=>34
 |2=>35
 |3=>36
 |4=>37
 |_=>38
theorem OF {f:Int} (hf:0≤f∧f≤3) {a b:Ex} (ha:DX a) (hb:DX b) {Q:Nat→Prop} {w:World} {cs1 cs2:List Value} (hr1:AN w Q a cs1) (hr2:AN w Q b cs2):
  Calls Tryz.prog 33 #[.int .i64 f,.agg cs1.toArray,.agg cs2.toArray] w (KA (Fp f a b) Q w):=by
 obtain⟨v1,v2,v3,rfl, -⟩:=hr1.open_;obtain⟨v4,v5,v6,rfl, -⟩:=hr2.open_;by_cases hz:a.kind=0∧b.kind=0
 ·obtain⟨⟨x,y,er⟩,hap⟩:∃r,Bc f a.num a.den b.num b.den=r:=⟨_,rfl⟩;refine(Jr f a b v1 v2 v3 v4 v5 v6 w hz.1 hz.2 hf ha.2.2.2.2.2.1 ha.2.2.2.2.2.2 hb.2.2.2.2.2.1 hb.2.2.2.2.2.2 x y er hap).mono ?_;rintro e' w' ⟨rfl,g⟩;have hF:Fp f a b=if er=0 then some (Ay x y)else none:=by unfold Fp;rw[Uo hz,hap]
  refine⟨AE x y,?_,rfl,Fa _ _,fun t ht=>?_,g⟩
  ·rw[hF];by_cases h0:er=0<;>simp[h0]
  rw[hF]at ht;split at ht
  ·cases ht;exact AN.mk_ (e:=Ay x y) (BE.nil _ _ _) (BE.nil _ _ _) (Ca.nil _ _)
  cases ht
 refine(JE f a b v1 v2 v3 v4 v5 v6 w hz).mono ?_;rintro e' w' ⟨rfl,g⟩;have hF:Fp f a b=none:=by unfold Fp;rw[Un hz]
 exact⟨AE 0 0,by rw[hF];rfl,rfl,Fa _ _,(fun t ht=>by rw[hF]at ht;cases ht),g⟩
theorem PB {m:Nat} (hm:m<6) {f:Int} (hf:0≤f∧f≤3) {a b:Ex} (ha:Ej a) (hb:Ej b) (hna:AD a≤1000000) (hnb:AD b≤1000000) {Q:Nat→Prop} {w:World} {cs1 cs2:List Value} (hwt:Cy w) (hot:Dt w) (hq:∀b,Q b→b<w.heap.size) (hr1:AN w Q a cs1) (hr2:AN w Q b cs2):
  Calls Tryz.prog (Kt m) #[.int .i64 f,.agg cs1.toArray,.agg cs2.toArray] w (KA (Bo m f a b) Q w):=by
 rcases m with _|_|_|_|_|_|m
 ·exact OF hf ha.top.1.1 hb.top.1.1 hr1 hr2
 ·exact(Lu (ha.rw_ hna) (hb.rw_ hnb) hwt hot hq hr1 hr2).mono fun _ _ h=>h.any
 ·exact(J7 (ha.rw_ hna) (hb.rw_ hnb) hwt hot hq hr1 hr2).mono fun _ _ h=>h.any
 ·exact(GM (ha.rw_ hna) (hb.rw_ hnb) hwt hot hq hr1 hr2).mono fun _ _ h=>h.any
 ·exact(MU (ha.rw_ hna) (hb.rw_ hnb) hwt hot hq hr1 hr2).mono fun _ _ h=>h.any
 ·exact(Le (ha.rw_ hna) (hb.rw_ hnb) hwt hot hq hr1 hr2).mono fun _ _ h=>h.any
 omega
section
variable {P:Program} {md:Region.Mode} {ops:Array Oper} {Q:Exit→Act→World→Prop} {Gs:List (Nat×(World→Prop))}
theorem Nr {i j:Nat} {oi oj:Oper} {fuel:Nat} {listed:Array Bool} {a:Act} {w:World} (hcl:AW md ops listed) (hr:Region.ready md ops listed=[i,j]) (hi:ops[i]? =some oi) (hgi:oi.guard=none) (hj:ops[j]? =some oj) (hgj:oj.guard=none)
  (h1:∀K:Act→World→Prop,(∀a' w',Au Gs (listed.setIfInBounds i true) w'→(AW md ops (listed.setIfInBounds i true)→Au Gs (listed.setIfInBounds i true) w'→Az P md ops Q Gs fuel (listed.setIfInBounds i true) a' w')→K a' w')→oi.wp P a w K Q)
  (h2:∀K:Act→World→Prop,(∀a' w',Au Gs (listed.setIfInBounds j true) w'→(AW md ops (listed.setIfInBounds j true)→Au Gs (listed.setIfInBounds j true) w'→Az P md ops Q Gs fuel (listed.setIfInBounds j true) a' w')→K a' w')→oj.wp P a w K Q):Az P md ops Q Gs (fuel+1) listed a w:=by
 refine⟨(fun h0=>by rw[hr]at h0;cases h0),fun l hl=>?_⟩;have hl':=hl;rw[hr]at hl;rcases List.mem_cons.1 hl with rfl|hl
 ·unfold wpOp;simp only[hi,Region.wanted,hgi,if_true];exact .inl (h1 _ fun a' w' h1 h2=>⟨h1,h2 (hcl.set hl') h1⟩)
 obtain rfl:=Ug.1 hl;unfold wpOp;simp only[hj,Region.wanted,hgj,if_true];exact .inl (h2 _ fun a' w' h1 h2=>⟨h1,h2 (hcl.set hl') h1⟩)
end
theorem Nt {m:Nat} (hm:m<6) (args:Array Value) (w:World):(callFunc (Kt m) args).run Tryz.prog w= .ok (.enter (Kt m) args) w:=by
 rcases m with _|_|_|_|_|_|m
 ·kernel_rfl
 ·kernel_rfl
 ·kernel_rfl
 ·kernel_rfl
 ·kernel_rfl
 ·kernel_rfl
 omega
theorem II:∀(k:Nat) (e:Ex),AD e≤k→k≤1000000→Ej e→∀(w:World) (B0:Nat) (cs:List Value),Cy w→Dt w→B0≤w.heap.size→BC w B0 e cs→
  Calls Tryz.prog 19 #[.agg cs.toArray,.int .i64 6] w (E1 w B0 (Ad e))
 |0,e,h,_,_,_,_,_,_,_,_,_=>absurd (AZ e) (by omega)
 |k+1,e,hk,hk2,hok,w,B0,cs,hwt,hot,hB0,hr=>by
  obtain⟨vm,vb,vk,rfl,hm,hy,hT⟩:=hr.open_;obtain⟨Am,nm,km,rfl⟩:∃A n c,vm= .slice A n c:=by obtain⟨A,c,h, -⟩:=hm;exact⟨A,_,c,h⟩
  obtain⟨Ab,nb,kb,rfl⟩:∃A n c,vb= .slice A n c:=by obtain⟨A,c,h, -⟩:=hy;exact⟨A,_,c,h⟩
  obtain⟨A,n,c,rfl,hn, -⟩:=hT.slice;have hne:=Ao e;have hkl:=B9 e.kids;have HTB:=UX (fun w' (g:A5 w w')=>UZ (hwt.grew g) (hot.keep g (fun h=>h)));have HIH:=UX (fun(e':Ex) (w':World) (cs:List Value) (gw:A5 w w') (h0:B0≤w'.heap.size) (h1:e'∈e.kids) (h2:BC w' B0 e' cs)=>II k e' (by have:=AT h1;omega) (by omega) (hok.kid h1) w' B0 cs (hwt.grew gw) (hot.keep gw (fun h=>h)) h0 h2);have HT:=UX hT;have HN:=UX hn;have HKN:=UX (UZ hk hk2);have HMY:=UX (UZ hm hy);have HOK:=UX hok;have HB0:=UX hB0;have hnb:n≤1000000:=by omega
  obtain⟨hb1,hb2,hG⟩:=BI w 29 29 (A8 e (.slice Am nm km) (.slice Ab nb kb) (.slice A n c)).toArray (AE 0 0).toArray;have hs2:((w.alloc (.cells (A8 e (.slice Am nm km) (.slice Ab nb kb) (.slice A n c)).toArray 29)).alloc (.cells (AE 0 0).toArray 29)).heap.size=w.heap.size+2:=by simp
  clear hr hm hy hT hn hne hkl hk hk2 hok hB0 hwt hot;go_enter Tryz.func19,Tryz.ntmps19;go_upto_region 1 with fail;change Code.wp _ _ _ _ ((w.alloc (.cells (A8 e (.slice Am nm km) (.slice Ab nb kb) (.slice A n c)).toArray 29)).alloc (.cells (AE 0 0).toArray 29));generalize (w.alloc (.cells (A8 e (.slice Am nm km) (.slice Ab nb kb) (.slice A n c)).toArray 29)).alloc (.cells (AE 0 0).toArray 29)=w1 at*;have HS:=UX hs2;clear hs2;go_upto_region 2 with(first|(refine sN (.tmp 5) (.tmp 19) ([.func (.func 33) #[] #[],.func (.func 34) #[] #[],.func (.func 35) #[] #[],.func (.func 36) #[] #[],.func (.func 37) #[] #[],.func (.func 38) #[] #[]]) (Ux w1 66 _) TW ?_ (h1:=(by intro v hv;simp at hv;rcases hv with rfl|rfl|rfl|rfl|rfl|rfl<;>rfl)) (us:=[.nilFunc,.nilFunc,.nilFunc,.nilFunc,.nilFunc,.nilFunc]);intro w2 hb5 k5 d5;have g2:A5 w1 w2:=Uw ((Uv w1).alloc _) k5 (fun i hi e=>by omega))|fail);have c10:w2.cell? ⟨w.heap.size,10,none⟩=some (.slice A n c):=(hb1.grew g2).cell 10;go_upto_region 3 with(first|((with_reducible refine K8 27 (.const (.int .i64 0)) (.tmp 22) rfl ?_);refine MJ rfl (.const (.int .i64 0)) (.tmp 22) rfl n rfl rfl hnb ?_;intro w3 hM3 g3));have HB:=UX (UZ (hb1.grew (g2.trans g3)) (UZ (hb2.grew (g2.trans g3)) (UZ (hb5.grew g3) (hG.trans (g2.trans g3)))));have HM3:=UX hM3;have HSZ:=UX (show w.heap.size+2≤w1.heap.size∧w1.heap.size<w2.heap.size∧w2.heap.size≤w3.heap.size from⟨by have:=HS.out;omega,hb5.lt,g3.size⟩);clear hb1 hb2 hb5 hG g2 g3 hM3 c10 k5 d5;have c10:w3.cell? ⟨w.heap.size,10,none⟩=some (.slice A n c):=HB.out.1.cell 10;generalize w2.heap.size=M at*;go_wp2_with fail;go_loopw [6,8,27] (fun s _ i wr=>∃(j:Nat) (rows:List (List Value)),j≤n∧i= .int .i64 (j:Nat)∧AX wr M 29 11 s rows∧Bz wr (LE B0 M s wr.heap.size) ((e.kids.take j).map Ad) rows∧A4 (fun i=>M≤i) w3 wr) (fun _ _ i _=>n-(intOf i).toNat)
  case atStart=>exact⟨0,[],by omega,rfl,HM3.out,by simpa using Bz.nil _ _,Uz _ _⟩
  case round=>
   obtain⟨j,rows,hj,rfl,hM,hTr,hGr⟩:=hrel;obtain⟨As,ns,ks,rfl,hns, -⟩:=hM.slice;have HM:=UX hM;have HTr:=UX hTr;have HNS:=UX hns;have HGr:=UX hGr;clear hM hTr hns hGr;by_cases hlt:j<n
   ·have hjl:j<e.kids.length:=by rw[←HN.out];exact hlt
    obtain⟨e',he'⟩:∃e',e.kids[j]? =some e':=⟨_,Uc hjl⟩;have hmem:e'∈e.kids:=Uk he';have hgw:A5 w wr:=Uw HB.out.2.2.2 HGr.out fun i hi (e:M≤i)=>by have:=HSZ.out;omega
    have hTw:Gw wr B0 (.slice A n c) e.kids:=HT.out.keep HB0.out (Ua _) hgw (fun _ _ h=>h);obtain⟨b,o,cs,rfl,hb,hrg,hre⟩:=hTw.at_ he';obtain⟨vm',vb',vk',hcs,hm',hy',hT'⟩:=hre.open_;subst hcs;obtain⟨A1,n1,c1,rfl⟩:∃A n c,vm'= .slice A n c:=by obtain⟨A,c,h, -⟩:=hm';exact⟨A,_,c,h⟩
    obtain⟨A2,n2,c2,rfl⟩:∃A n c,vb'= .slice A n c:=by obtain⟨A,c,h, -⟩:=hy';exact⟨A,_,c,h⟩
    obtain⟨A3,n3,c3,rfl, -⟩:=hT'.slice;have hsw:M≤wr.heap.size:=by have:=HGr.out.size;have:=HSZ.out;omega
    have HI:=UX (fun w' (g:A5 wr w')=>HIH.out e' w' _ (hgw.trans g) (by have:=HB0.out;have:=HSZ.out;have:=g.size;omega) hmem (BC.keep (by have:=HB0.out;have:=HSZ.out;omega) (Ua _) g (fun _ _ h=>h) e' _ hre));have HE:=UX he';have HRg:=UX hrg;have HSW:=UX hsw;clear hjl he' hmem hTw hrg hre hm' hy' hT' hsw hgw;go_wp2_with(first|(refine lM (.tmp 29) HRg.out rX ?_)|(refine sN (.tmp 8) (.tmp 30) (A8 e' (.slice A1 n1 c1) (.slice A2 n2 c2) (.slice A3 n3 c3)) (Ux wr 29 _) rX ?_ (us:=(AE 0 0));intro w5 hb5 k5 d5;have g5:A5 wr w5:=Uw ((Uv wr).alloc _) k5 (fun i hi e=>by omega))|(refine lN (.tmp 8) hb5 rX ?_)|fail);refine(HI.out _ g5).mono ?_;rintro e2 w6 ⟨cs3,rfl,hr3,k3⟩;obtain⟨vm3,vb3,vk3,rfl,hm3,hy3,hT3⟩:=hr3.open_;obtain⟨Am3,QU,km3,rfl, -⟩:=hm3.slice;obtain⟨Ab3,nb3,kb3,rfl, -⟩:=hy3.slice;obtain⟨A3',n3',c3',rfl, -⟩:=hT3.slice;have HR3:=UX (AN.two_le (M':=wr.heap.size) hr3 g5.size);have HK3:=UX (g5.trans k3);have hl3:=CO (Ad e') (.slice Am3 QU km3) (.slice Ab3 nb3 kb3) (.slice A3' n3' c3');clear k3 HI hr3 hm3 hy3 hT3 g5 hb5 k5 d5;go_wp2_with(at_builtin;refine GI rfl (.tmp 31) (.tmp 35) rfl rfl rfl (Ua _) HM.out HTr.out (by have:=HB0.out;have:=HSZ.out;omega) HSW.out HK3.out HR3.out (by rw[List.length_map,List.length_take];omega) ?_;intro A6 n6 c6 w7 H6);go_wp2_with fail;go_roundw
    case rel=>
     obtain⟨rows6,hM6,hT6,hG6⟩:=H6.out;have hes:(e.kids.take j).map Ad++[Ad e']=(e.kids.take (j+1)).map Ad:=by rw[List.take_add_one,HE.out];simp
     rw[hes]at hT6;exact⟨j+1,_,by omega,by go_num,hM6,hT6,A4.trans HGr.out hG6⟩
    case measure=>simp[intOf];omega
   obtain rfl:j=n:=by omega
   have hes:(e.kids.take j).map Ad=e.kids.map Ad:=by rw[List.take_of_length_le (by rw[←HN.out];exact Ua _)]
   have hTr:=HTr.out;have hM:=HM.out;rw[hes]at hTr;have hm1:=hM.lt;have hTQ:Ca wr (C9 B0 M wr.heap.size) (.slice As ns ks) (e.kids.map Ad):=hM.treesQ hTr.1 (fun b hb=>⟨.inr (hm1 b hb).1,(hm1 b hb).2⟩) fun i e' cs h1 h2=>AN.keep (S:=fun _=>False) (fun b hb=>⟨hb.2.1,fun h=>h,hb.1,hb.2.1⟩) (Uv wr) e' cs (hTr.2 i e' cs h1 h2)
   have hsz:=HSZ.out;have hbr:=HB.out.1.keep HGr.out (by omega);have hb2:=HB.out.2.1.keep HGr.out (by omega);have hb5:=HB.out.2.2.1.keep HGr.out (by omega);have hgw:A5 w wr:=Uw HB.out.2.2.2 HGr.out fun i hi (e:M≤i)=>by omega
   have f10:=hbr.frozen 10;have hb4:AK (wr.setCell ⟨w.heap.size,10,none⟩ (.slice As ns ks)) w.heap.size 29 ((A8 e (.slice Am nm km) (.slice Ab nb kb) (.slice As ns ks))).toArray:=hbr.set_ 10 (.slice As ns ks);have k4:A4 (fun i=>i=w.heap.size) wr (wr.setCell ⟨w.heap.size,10,none⟩ (.slice As ns ks)):=V0 (S:=fun i=>i=w.heap.size) (p:=⟨w.heap.size,10,none⟩) (Uz _ wr) (.inl rfl) _;have hsz4:(wr.setCell ⟨w.heap.size,10,none⟩ (.slice As ns ks)).heap.size=wr.heap.size:=by simp
   have HNs:=UX (show ns=e.kids.length by have:=hTr.1;rw[List.length_map]at this;rw[HNS.out,this]);have HTQ:=UX hTQ;have HE4:=UX (UZ hb4 (UZ (hb2.far (p:=⟨w.heap.size,10,none⟩) (by simp) (.slice As ns ks)) (UZ (hb5.far (p:=⟨w.heap.size,10,none⟩) (by simp;omega) (.slice As ns ks)) (UZ k4 (UZ hsz4 (UZ hgw HGr.out.size))))));have c10':wr.cell? ⟨w.heap.size,10,none⟩=some (.slice A j c):=hbr.cell 10;clear hTQ hbr hb2 hb5 hgw hb4 k4 hsz4 hM hTr HM HTr HNS hes hm1 hsz c10;go_upto_region 9 with fail;generalize wr.setCell ⟨w.heap.size,10,none⟩ (.slice As ns ks)=w4 at*;obtain⟨hb4,hb2,hb5,k4,hsz4,hgw,hw1⟩:=HE4.out;have hsz:=HSZ.out;have hB0:=HB0.out;have hTQ4:Ca w4 (C9 B0 M wr.heap.size) (.slice As ns ks) (e.kids.map Ad):=HTQ.out.keep (S:=fun i=>i=w.heap.size) (fun b hb=>⟨hb.2,fun h=>by rcases hb.1 with h1|h1<;>omega,hb⟩) k4;have hgw4:A5 w w4:=Uw hgw k4 fun i hi e=>by omega
   have hMY4:Bs w4 B0 3 (.slice Am nm km) (e.ms.map AL)∧Bs w4 B0 1 (.slice Ab nb kb) (e.bys.map fun s=>[Value.string s]):=⟨HMY.out.1.keep hB0 (Ua _) hgw4 (fun _ _ h=>h),HMY.out.2.keep hB0 (Ua _) hgw4 (fun _ _ h=>h)⟩;have hE4:∀w',A5 w4 w'→AN w' (C9 B0 M w'.heap.size) (e.withKids (e.kids.map Ad)) (A8 e (.slice Am nm km) (.slice Ab nb kb) (.slice As ns ks)):=fun w' g=>by
    have hsz:=g.size;have h1:=AN.mk_ (e:=e.withKids (e.kids.map Ad)) (Q:=C9 B0 M w'.heap.size) (w:=w') (vm:= .slice Am nm km) (vb:= .slice Ab nb kb) (vk:= .slice As ns ks) (by rw[Ig];exact(hMY4.1.keep (by omega) (Ua _) g (fun _ _ h=>h)).toQ fun b hb=>⟨.inl hb,by omega⟩) (by rw[Gx];exact(hMY4.2.keep (by omega) (Ua _) g (fun _ _ h=>h)).toQ fun b hb=>⟨.inl hb,by omega⟩) (by rw[Bq];exact hTQ4.keep (fun b hb=>⟨by have:=hb.2;omega,fun h=>h,hb.1,by have:=hb.2;omega⟩) g);rwa[D5]at h1
   have HRES:=UX hE4;have hM2:w.heap.size+2≤M:=by omega
   have HFIN:=UX (fun(w5 w8:World) (e5:Ex) (cs:List Value) (k8:A4 (fun i=>i=w.heap.size+1) w5 w8) (h:AN w5 (C9 B0 M w5.heap.size) e5 cs)=>Ck k8 hB0 hM2 h);have c0:w4.cell? ⟨w.heap.size,0,none⟩=some (.int .i64 e.kind):=hb4.cell 0;by_cases h3:e.kind=3
   ·have t1:(e.kind==3)=true:=by simpa using h3
    have hok:=HOK.out;have hp:=hok.top.1.2 h3;obtain⟨ea,eb,hks,hoka,hokb,hnn⟩:=hok.two h3;have hsa:=F3 (AD ea) ea (Ua _) hoka;have hsb:=F3 (AD eb) eb (Ua _) hokb;have hkn:=HKN.out;have hF6:Ad e=(Ec e.fn (Ad ea) (Ad eb)).getD (e.withKids (e.kids.map Ad)):=by
     rw[I9,JQ (a:=Ad ea) (b:=Ad eb) (by rw[Bq,hks];rfl) (by rw[Cg];exact h3),JX]
    obtain rfl:ns=2:=by rw[HNs.out,hks];rfl
    have hks2:e.kids.map Ad=[Ad ea,Ad eb]:=by rw[hks];rfl
    rw[hks2,←hsz4]at hTQ4;obtain⟨b,o,cc,csa,csb,hsl,hbq,hra,hrb,hea,heb⟩:=Je hTQ4 rfl;obtain⟨rfl, -,rfl⟩:As=some ⟨b,o,none⟩∧(2:Nat)=2∧ks=cc:=by simpa using hsl
    have hM4:M≤w4.heap.size:=by omega
    have hq4:∀b,C9 B0 M w4.heap.size b→b<w4.heap.size:=fun b hb=>hb.2
    have HROW:=UX (show ∀w',A5 w4 w'→w'.rangeAt b o csa∧w'.rangeAt b (o+11) csb from fun w' g=>⟨AR hra (hq4 _ hbq) g (fun h=>h),AR hrb (hq4 _ hbq) g (fun h=>h)⟩);have HRU:=UX (fun(m:Nat) (hm:m<6) w' (g:A5 w4 w')=>PB hm ⟨hp.2.1,hp.2.2⟩ hsa.1 hsb.1 (by omega) (by omega) (HTB.out _ (hgw4.trans g)).1 (HTB.out _ (hgw4.trans g)).2 (fun b hb=>Ub (hq4 b hb) g.size) (hea.grewQ hq4 g) (heb.grewQ hq4 g));have HLL:=UX (UZ hea.len heb.len);have HB5:=UX (show ∀w',A5 w4 w'→AK w' w1.heap.size 66 ([.func (.func 33) #[] #[],.func (.func 34) #[] #[],.func (.func 35) #[] #[],.func (.func 36) #[] #[],.func (.func 37) #[] #[],.func (.func 38) #[] #[]]:List Value).toArray from fun w' g=>hb5.grew g);have HB24:=UX (UZ hb4 (UZ hb2 hgw4));have HM4:=UX hM4;have HSZ4:=UX hsz4;have HB0W:=UX (show B0≤w.heap.size from hB0);have HF6:=UX hF6;clear hE4 hTQ4 hMY4 h3 hB0 hsz4 hgw k4 hF6 hp hoka hokb hnn hsa hsb hkn hks hks2 hra hrb hea heb hbq hsz hw1 hM2 hb5 hb4 hb2 hgw4 hok hM4 hq4 hsl;have HFN:=UX (show ∀w',A5 w4 w'→w'.cell? ⟨w.heap.size,1,none⟩=some (.int .i64 e.fn)from fun w' g=>(HB24.out.1.grew g).cell 1);generalize Ad ea=a at*;generalize Ad eb=b' at*;generalize e.fn=fnv at*;go_wp2_with fail;go_loopw [10,11,12,46] (fun _ _ _ i wr=>∃m:Nat,i= .int .i64 (m:Nat)∧m≤6∧(∀k,k<m→Bo k fnv a b'=none)∧A5 w4 wr) (fun _ _ _ i _=>6-(intOf i).toNat)
    case atStart=>exact⟨0,rfl,by omega,fun k hk=>by omega,Uv _⟩
    case round=>
     obtain⟨m,rfl,hm,hnone,hg⟩:=hrel;have HGX:=UX hg;have HNO:=UX hnone;have b4:=HB24.out.1.grew hg;have b2:=HB24.out.2.1.grew hg;by_cases hlt:m<6
     ·have hcell:(([.func (.func 33) #[] #[],.func (.func 34) #[] #[],.func (.func 35) #[] #[],.func (.func 36) #[] #[],.func (.func 37) #[] #[],.func (.func 38) #[] #[]]:List Value).toArray)[m]? =some (.func (.func (Kt m)) #[] #[]):=by
       rcases m with _|_|_|_|_|_|m<;>first|rfl|omega
      have HAP0:=UX (HRU.out m hlt);obtain⟨F,hF⟩:∃F,Kt m=F:=⟨_,rfl⟩;obtain⟨ok,hok⟩:∃ok,(Bo m fnv a b').isSome=ok:=⟨_,rfl⟩;have HAP:=UX (show ∀w',A5 w4 w'→Calls Tryz.prog F #[.int .i64 fnv,.agg csa.toArray,.agg csb.toArray] w' fun e' w''=>∃cs,e'= .returned (.tuple #[.agg cs.toArray,.bool ok])∧cs.length=11∧(∀v∈cs,v.oneCell'=true)∧(∀t,Bo m fnv a b'=some t→AN w'' (fun b=>C9 B0 M w4.heap.size b∨(w'.heap.size≤b∧b<w''.heap.size)) t cs)∧A5 w' w'' from fun w' g=>by
       rw[←hF,←hok];exact HAP0.out w' g)
      have HOK2:=UX hok;have HRN:=UX (show ∀w',(callFunc F #[.int .i64 fnv,.agg csa.toArray,.agg csb.toArray]).run Tryz.prog w'= .ok (.enter F #[.int .i64 fnv,.agg csa.toArray,.agg csb.toArray]) w' from fun w'=>by rw[←hF];exact Nt hlt _ w');rw[hF]at hcell;have r0:wr.rangeAt w1.heap.size m [.func (.func F) #[] #[]]:=fun j u hu=>by
       rcases j with _|j
       ·obtain rfl:Value.func (.func F) #[] #[]=u:=by simpa using hu
        exact((HB5.out wr hg).cell m).trans hcell
       simp at hu
      have r0c:wr.cell? ⟨w1.heap.size,m,none⟩=some (.func (.func F) #[] #[]):=((HB5.out wr hg).cell m).trans hcell;clear hg hnone hF hok hcell HAP0;go_upto_region 13 with(first|(refine lM (.tmp 48) r0 TE ?_ (vs:=[.func (.func F) #[] #[]]))|(refine sN (.tmp 10) (.tmp 49) ([.func (.func F) #[] #[]]) (Ux wr 65 _) TE ?_ (h1:=(by intro v hv;simp at hv;subst hv;rfl)) (us:=[.nilFunc]);intro w7 hb10 k10 d10;have g7:A5 wr w7:=Uw ((Uv wr).alloc _) k10 (fun i hi e=>by omega))|fail);have h7:A5 w4 w7:=HGX.out.trans g7;have HA:=UX (show ∀w',A5 w7.drew w'→A5 w7 w'∧w'.cell? ⟨wr.heap.size,0,none⟩=some (.func (.func F) #[] #[])∧w'.cell? ⟨w.heap.size,1,none⟩=some (.int .i64 fnv)∧w'.rangeAt b o csa∧w'.rangeAt b (o+11) csb from fun w' g=>by
       have gg:A5 w7 w':=(Uy (Uv w7)).trans g;exact⟨gg,(hb10.grew gg).cell 0,HFN.out w' (h7.trans gg),HROW.out w' (h7.trans gg)⟩)
      have b27:=b2.grew g7;have HB7:=UX (UZ b27 (UZ h7 (show M≤w7.heap.size by have:=HM4.out;have:=h7.size;omega)));clear b4 b2 b27 h7 g7 hb10 k10 d10 r0 r0c;generalize wr.heap.size=z10 at*;dsimp only[Act.put];refine lR 15 (fun w'=>A5 w7.drew w') (Uv _) fun hcl hkn=>?_
      refine tP (i:=0) hcl hkn fun hcl hkn=>?_
      try simp only[nf]
      refine' D3 15 _ (i:=1) (v:=_) rfl (by kernel_rfl) (by kernel_rfl) (by kernel_rfl) hcl hkn (by rfl) 0 rfl (by kernel_rfl) (fun _ _ _ h=>h) rfl ?_ ?_
      rotate_left
      ·rintro w' hA;have hc9:=(HA.out _ hA).2.1;go_simp;try with_reducible rfl
      clear hcl hkn;intro hcl hkn
      try simp only[nf]
      refine tP (i:=2) hcl hkn fun hcl hkn=>?_
      try simp only[nf]
      refine' D3 15 _ (i:=3) (v:=_) rfl (by kernel_rfl) (by kernel_rfl) (by kernel_rfl) hcl hkn (by rfl) 0 rfl (by kernel_rfl) (fun _ _ _ h=>h) rfl ?_ ?_
      rotate_left
      ·rintro w' hA;have hc9:=(HA.out _ hA).2.2.1;go_simp;try with_reducible rfl
      clear hcl hkn;intro hcl hkn
      try simp only[nf]
      refine tP (i:=4) hcl hkn fun hcl hkn=>?_
      try simp only[nf]
      refine tP (i:=5) hcl hkn fun hcl hkn=>?_
      try simp only[nf]
      refine Bu (i:=6) 15 hcl hkn (.tmp 56) b (o) csa (fun w h=>(HA.out w h).2.2.2.1) HLL.out.1 fun hcl hkn=>?_
      try simp only[nf]
      refine tP (i:=7) hcl hkn fun hcl hkn=>?_
      try simp only[nf]
      refine tP (i:=8) hcl hkn fun hcl hkn=>?_
      try simp only[nf]
      refine Bu (i:=9) 15 hcl hkn (.tmp 59) b ((o+11)) csb (fun w h=>(HA.out w h).2.2.2.2) HLL.out.2 fun hcl hkn=>?_
      try simp only[nf]
      have g77:A5 w7 w7.drew:=Uy (Uv w7);refine Nr (i:=10) (j:=14) hcl (by kernel_rfl) rfl rfl rfl rfl (fun K hK=>?_) (fun K hK=>?_)
      ·go_simp;rw[HRN.out];show Calls _ _ _ _ _;(with_reducible refine(HAP.out _ (HB7.out.2.1.trans g77)).mono ?_);rintro e3 wq ⟨cs,rfl,hlc,hoc,htc,gq⟩;refine hK _ _ (kr gq) ?_;clear hK K;clear hcl hkn;intro hcl hkn
       try simp only[nf]
       refine tP (i:=11) hcl hkn fun hcl hkn=>?_
       try simp only[nf]
       refine tP (i:=12) hcl hkn fun hcl hkn=>?_
       try simp only[nf]
       refine tP (i:=13) hcl hkn fun hcl hkn=>?_
       try simp only[nf]
       refine oN (i:=14) hcl fun K hK=>?_
       go_simp;refine hK _ _ (kr (gq.alloc _)) ?_;clear hK K;clear hcl hkn;intro hcl hkn
       try simp only[nf]
       have hb11:=Ux wq 29 (AE 0 0).toArray;refine oN (i:=15) hcl fun K hK=>?_
       refine sW (.tmp 11) (.tmp 62) cs hb11 rX ?_ (hl:=hlc) (h1:=hoc);intro w12 hb12 k12;refine hK _ _ kl ?_;clear hK K;clear hcl hkn;intro hcl hkn
       try simp only[nf]
       refine tP (i:=16) hcl hkn fun hcl hkn=>?_
       try simp only[nf]
       refine aD ?_;have hs7:=gq.size;have hs4:=HB7.out.2.1.size;have hsd:w7.drew.heap.size=w7.heap.size:=rfl;have hsM:=HM4.out;have g12:A5 wq w12:=Uw ((Uv wq).alloc _) k12 fun i hi e=>by omega
       have hs12:=g12.size;have g712:A5 w7 w12:=g77.trans (gq.trans g12);have HRD:=UX (show ∀t,Bo m fnv a b'=some t→AN w12 (C9 B0 M w12.heap.size) t cs from fun t ht=>AN.keep (S:=fun _=>False) (fun b hb=>by rcases hb with hb|hb;exact⟨by have:=hb.2;omega,fun h=>h,hb.1,by have:=hb.2;omega⟩;exact⟨hb.2,fun h=>h,.inr (by omega),by omega⟩) g12 t cs (htc t ht));have b2z:=HB7.out.1.grew g712;have HGZ:=UX (HB7.out.2.1.trans g712);clear htc gq g12 g712 k12 hb11 hs7 hs4 hsd hsM hs12;generalize wq.heap.size=z at*;clear hcl hkn HA;rcases ok with _|_
       ·have HN1:=UX (show Bo m fnv a b'=none by have:=HOK2.out;simpa using this);go_wp2_with fail;go_roundw
        case rel=>
         refine⟨m+1,by go_num,by omega,fun k hk=>?_,HGZ.out⟩;rcases Nat.lt_succ_iff_lt_or_eq.1 hk with h|rfl
         ·exact HNO.out k h
         exact HN1.out
        case measure=>simp[intOf];omega
       obtain⟨t,ht⟩:=Option.isSome_iff_exists.1 HOK2.out;have HT1:=UX ht;clear ht;go_wp2_with(first|(refine lN (.tmp 11) hb12 rX ?_ (hl:=hlc))|(refine sN (.tmp 4) (.tmp 65) cs b2z rX ?_ (hl:=hlc) (h1:=hoc);intro w8 hb8 k8 d8)|fail);refine rO rX hb8 ?_ (hl:=hlc);refine⟨cs,rfl,?_,Uw (HB24.out.2.2.trans HGZ.out) k8 (fun i hi e=>by omega)⟩;rw[HF6.out,G4 hlt HNO.out HT1.out];exact HFIN.out w12 w8 t cs k8 (HRD.out t HT1.out)
      go_simp;obtain⟨w11,hw11⟩:∃w11,w11=w7.drew.alloc (.cells (AE 0 0).toArray 29):=⟨_,rfl⟩;have hb11:AK w11 w7.heap.size 29 (AE 0 0).toArray:=by rw[hw11];exact Ux w7.drew 29 _
      have ga:A5 w7.drew w11:=by rw[hw11];exact(Uv _).alloc _
      have hsa:w11.heap.size=w7.heap.size+1:=by rw[hw11];simp
      change K _ (w7.drew.alloc (.cells (AE 0 0).toArray 29));rw[←hw11];clear hw11;refine hK _ _ (kr ga) ?_;clear hK K;clear hcl hkn;intro hcl hkn
      try simp only[nf]
      refine oN (i:=10) hcl fun K hK=>?_
      go_simp;rw[HRN.out];show Calls _ _ _ _ _;(with_reducible refine(HAP.out _ ((HB7.out.2.1.trans g77).trans ga)).mono ?_);rintro e3 wq ⟨cs,rfl,hlc,hoc,htc,gq⟩;refine hK _ _ (kr (ga.trans gq)) ?_;clear hK K;clear hcl hkn;intro hcl hkn
      try simp only[nf]
      refine tP (i:=11) hcl hkn fun hcl hkn=>?_
      try simp only[nf]
      refine tP (i:=12) hcl hkn fun hcl hkn=>?_
      try simp only[nf]
      refine tP (i:=13) hcl hkn fun hcl hkn=>?_
      try simp only[nf]
      have hb11q:=hb11.grew gq;refine oN (i:=15) hcl fun K hK=>?_
      refine sW (.tmp 11) (.tmp 62) cs hb11q rX ?_ (hl:=hlc) (h1:=hoc);intro w12 hb12 k12;refine hK _ _ kl ?_;clear hK K;clear hcl hkn;intro hcl hkn
      try simp only[nf]
      refine tP (i:=16) hcl hkn fun hcl hkn=>?_
      try simp only[nf]
      refine aD ?_;have hs7:=gq.size;have hs4:=HB7.out.2.1.size;have hsd:w7.drew.heap.size=w7.heap.size:=rfl;have hsM:=HM4.out;have hs12:=k12.size;have g712:A5 w7 w12:=Uw (g77.trans (ga.trans gq)) k12 fun i hi e=>by omega
      have htc':∀t,Bo m fnv a b'=some t→AN wq (fun b=>C9 B0 M w4.heap.size b∨(w7.heap.size+1≤b∧b<wq.heap.size)) t cs:=by rw[←hsa];exact htc
      have hs7':w7.heap.size+1≤wq.heap.size:=by rw[←hsa];exact hs7
      have HRD:=UX (show ∀t,Bo m fnv a b'=some t→AN w12 (C9 B0 M w12.heap.size) t cs from fun t ht=>AN.keep (S:=fun i=>i=w7.heap.size) (fun b hb=>by rcases hb with hb|hb;exact⟨by have:=hb.2;omega,fun h=>by have:=hb.2;omega,hb.1,by have:=hb.2;omega⟩;exact⟨hb.2,fun h=>by omega,.inr (by omega),by omega⟩) k12 t cs (htc' t ht));have b2z:=HB7.out.1.grew g712;have HGZ:=UX (HB7.out.2.1.trans g712);clear htc htc' gq ga g712 k12 hb11 hb11q hs7 hs7' hs4 hsd hsM hs12 hsa;generalize w7.heap.size=z at*;clear hcl hkn HA;rcases ok with _|_
      ·have HN1:=UX (show Bo m fnv a b'=none by have:=HOK2.out;simpa using this);go_wp2_with fail;go_roundw
       case rel=>
        refine⟨m+1,by go_num,by omega,fun k hk=>?_,HGZ.out⟩;rcases Nat.lt_succ_iff_lt_or_eq.1 hk with h|rfl
        ·exact HNO.out k h
        exact HN1.out
       case measure=>simp[intOf];omega
      obtain⟨t,ht⟩:=Option.isSome_iff_exists.1 HOK2.out;have HT1:=UX ht;clear ht;go_wp2_with(first|(refine lN (.tmp 11) hb12 rX ?_ (hl:=hlc))|(refine sN (.tmp 4) (.tmp 65) cs b2z rX ?_ (hl:=hlc) (h1:=hoc);intro w8 hb8 k8 d8)|fail);refine rO rX hb8 ?_ (hl:=hlc);refine⟨cs,rfl,?_,Uw (HB24.out.2.2.trans HGZ.out) k8 (fun i hi e=>by omega)⟩;rw[HF6.out,G4 hlt HNO.out HT1.out];exact HFIN.out w12 w8 t cs k8 (HRD.out t HT1.out)
     obtain rfl:m=6:=by omega
     have HF:=UX (show Ad e=e.withKids (e.kids.map Ad) by rw[HF6.out,Ia HNO.out];rfl);clear hg hnone;go_wp2_with(first|(refine lN (.tmp 2) b4 rX ?_)|(refine sN (.tmp 4) (.tmp 67) (A8 e (.slice Am nm km) (.slice Ab nb kb) (.slice (some ⟨b,o,none⟩) 2 ks)) b2 rX ?_;intro w8 hb8 k8 d8)|fail);refine rO rX hb8 ?_;refine⟨(A8 e (.slice Am nm km) (.slice Ab nb kb) (.slice (some ⟨b,o,none⟩) 2 ks)),rfl,?_,Uw (HB24.out.2.2.trans HGX.out) k8 (fun i hi e=>by omega)⟩;rw[HF.out];exact HFIN.out wr w8 _ _ k8 (HRES.out wr HGX.out)
   have t1:(e.kind==3)=false:=by simpa using h3
   have hfin:Ad e=e.withKids (e.kids.map Ad):=by rw[I9];exact Jg (by rw[Cg];exact h3)
   have HF:=UX hfin;clear hE4 hTQ4 hMY4 hfin h3 hB0 hsz4 hgw k4 hsz hw1 hM2;go_wp2_with(first|(refine lN (.tmp 2) hb4 rX ?_)|(refine sN (.tmp 4) (.tmp 67) (A8 e (.slice Am nm km) (.slice Ab nb kb) (.slice As ns ks)) hb2 rX ?_;intro w8 hb8 k8 d8)|fail);refine rO rX hb8 ?_;refine⟨(A8 e (.slice Am nm km) (.slice Ab nb kb) (.slice As ns ks)),rfl,?_,Uw hgw4 k8 (fun i hi e=>by omega)⟩;rw[HF.out];exact HFIN.out w4 w8 _ _ k8 (HRES.out w4 (Uv _))
end Go.Proofs.YtkclnhpofkaclaaGreatDoor
