/- rewrite.simplify with all six rules: what it computes, and the rules' contract. -/
import Derived.Test.YthpflelgbadkcaaGreatDoorRewriteReadsP01
import Derived.Test.YthpflelgbadkcaaGreatDoorRewriteReadsP31
import Derived.Test.YthpflelgbadkcaaGreatDoorRewriteReadsP16
import Derived.Test.YthpflelgbadkcaaGreatDoorRewriteReadsP17
set_option maxRecDepth 100000
set_option maxHeartbeats 12800000
set_option linter.unusedVariables false
set_option linter.unusedSimpArgs false
namespace Go.Proofs.YthpflelgbadkcaaGreatDoor
open Go.RowKit Pl
def EI (f:Int) (a b:Ex):Option Ex:=if a.kind=0∧b.kind=0 then(if(CD f a.num a.den b.num b.den).2.2=0 then some (BG (CD f a.num a.den b.num b.den).1 (CD f a.num a.den b.num b.den).2.1)else none)else none
def Bi (m:Nat) (f:Int) (a b:Ex):Option Ex:=
 match m with
 |0=>EI f a b
 |1=>Bq f a b
 |2=>BE f a b
 |3=>B5 f a b
 |4=>Ct f a b
 |_=>CF f a b
def DE (f:Int) (a b:Ex):Option Ex:=(Bi 0 f a b).or ((Bi 1 f a b).or ((Bi 2 f a b).or ((Bi 3 f a b).or ((Bi 4 f a b).or (Bi 5 f a b)))))
theorem Fz {f:Int} {a b:Ex} (h:∀m,m<6→Bi m f a b=none):DE f a b=none:=by
 unfold DE;rw[h 0 (by decide),h 1 (by decide),h 2 (by decide),h 3 (by decide),h 4 (by decide),h 5 (by decide)];rfl
theorem Fw {f:Int} {a b:Ex} {m:Nat} (hm:m<6) (h:∀k,k<m→Bi k f a b=none) {t:Ex} (ht:Bi m f a b=some t):DE f a b=some t:=by
 unfold DE;rcases m with _|_|_|_|_|_|m
 ·rw[ht];rfl
 ·rw[h 0 (by decide),ht];rfl
 ·rw[h 0 (by decide),h 1 (by decide),ht];rfl
 ·rw[h 0 (by decide),h 1 (by decide),h 2 (by decide),ht];rfl
 ·rw[h 0 (by decide),h 1 (by decide),h 2 (by decide),h 3 (by decide),ht];rfl
 ·rw[h 0 (by decide),h 1 (by decide),h 2 (by decide),h 3 (by decide),h 4 (by decide),ht];rfl
 omega
theorem Jg {f:Int} {a b t:Ex} (h:DE f a b=some t):∃m,m<6∧Bi m f a b=some t:=by
 by_cases hn:∀m,m<6→Bi m f a b=none
 ·rw[Fz hn]at h;cases h
 have h1:∃m,m<6∧(∀k,k<m→Bi k f a b=none)∧Bi m f a b≠none:=by
  by_cases h0:Bi 0 f a b=none
  ·by_cases h1:Bi 1 f a b=none
   ·by_cases h2:Bi 2 f a b=none
    ·by_cases h3:Bi 3 f a b=none
     ·by_cases h4:Bi 4 f a b=none
      ·refine⟨5,by decide,fun k hk=>?_,fun h5=>hn fun m hm=>?_⟩
       ·rcases k with _|_|_|_|_|k<;>first|assumption|omega
       rcases m with _|_|_|_|_|_|k<;>first|assumption|omega
      exact⟨4,by decide,fun k hk=>by rcases k with _|_|_|_|k<;>first|assumption|omega,h4⟩
     exact⟨3,by decide,fun k hk=>by rcases k with _|_|_|k<;>first|assumption|omega,h3⟩
    exact⟨2,by decide,fun k hk=>by rcases k with _|_|k<;>first|assumption|omega,h2⟩
   exact⟨1,by decide,fun k hk=>by rcases k with _|k<;>first|assumption|omega,h1⟩
  exact⟨0,by decide,fun k hk=>by omega,h0⟩
 obtain⟨m,hm,hk,hne⟩:=h1;obtain⟨u,hu⟩:=Option.ne_none_iff_exists'.1 hne;rw[Fw hm hk hu]at h;exact⟨m,hm,hu.trans h⟩
def Ia (e:Ex):Ex:=
 match e.kids with
 |[a,b]=>if e.kind=3 then(DE e.fn a b).getD e else e
 |_=>e
mutual
def Ah:Ex→Ex
 | .mk k f w o q n d nm ms bs ks=>Ia (.mk k f w o q n d nm ms bs (II ks))
def II:List Ex→List Ex
 |[]=>[]
 |e::es=>Ah e::II es
end
theorem Iz:∀es:List Ex,II es=es.map Ah
 |[]=>by unfold II;rfl
 |e::es=>by unfold II;rw[Iz es];rfl
theorem F4 (e:Ex):Ah e=Ia (e.withKids (e.kids.map Ah)):=by
 cases e;rw[Ah,Iz];rfl
theorem Gz {e a b:Ex} (hk:e.kids=[a,b]) (h3:e.kind=3):Ia e=(DE e.fn a b).getD e:=by
 unfold Ia;rw[hk];simp only[h3,if_true]
theorem Hd {e:Ex} (h:e.kind≠3):Ia e=e:=by
 unfold Ia;split
 ·rw[SQ h]
 rfl
def Rk (e:Ex):Prop:=KN e∧Lc e∧e.ms.length≤1000000∧e.bys.length≤1000000
def EH (e:Ex):Prop:=BL Rk e
theorem EH.src {e:Ex} (h:EH e):BL Lc e:=BL.mono (fun _ h=>h.2.1) (AL e) e (SD _) h
theorem Nv {es:List Ex} (h:∀e∈es,E8 e):EJ es:=by
 induction es with
 |nil=>unfold EJ;trivial
 |cons e es ih=>unfold EJ;exact⟨h e List.mem_cons_self,ih fun k hk=>h k (List.mem_cons_of_mem _ hk)⟩
theorem EH.tidy:∀(n:Nat) (e:Ex),AL e≤n→EH e→E8 e
 |0,e,h,_=>absurd (Aw e) (by omega)
 |n+1,e,h,hok=>by
  have h1:=hok.top;have h2:=B9 e;have h3:EJ e.kids:=Nv fun k hk=>EH.tidy n k (by have:=Aa hk;omega) (hok.kid hk)
  cases e;unfold E8;exact⟨h1.2.2.1,h1.2.2.2,h3⟩
theorem EH.rw_ {e:Ex} (h:EH e) (hn:AL e≤1000000):CG e:=⟨h.src,h.tidy (AL e) e (SD _),hn⟩
theorem I2 {x y:Int} (hx:Bc x) (hy:Bc y):EH (BG x y):=by
 have h0:Bc 0:=CR.1;exact BA.2 ⟨⟨⟨⟨h0,h0,h0,h0,h0,hx,hy⟩,fun h=>nomatch h⟩,.inl ⟨rfl,rfl⟩,Nat.zero_le _,Nat.zero_le _⟩,fun k hk=>nomatch hk⟩
theorem QY:EH zE:=I2 (x:=0) (y:=0) CR.1 CR.1
theorem EH.two {e:Ex} (h:EH e) (h3:e.kind=3):∃a b,e.kids=[a,b]∧EH a∧EH b∧AL e=1+AL a+AL b:=by
 obtain⟨a,b,hk⟩:=GN h.top.2.1 h3;refine⟨a,b,hk,h.kid (by rw[hk];simp),h.kid (by rw[hk];simp),?_⟩;rw[B9,hk];unfold Af Af Af;omega
theorem OX {e:Ex} (h:EH e) (f:Int):EH (pt1 e f)∧AL (pt1 e f)≤AL e:=by
 unfold pt1;split
 ·rename_i ho
  obtain⟨h3, -⟩:=SL ho;obtain⟨a,b,hk,ha,hb,hn⟩:=h.two h3;rw[hk];exact⟨ha,by show AL a≤AL e;omega⟩
 exact⟨QY,Aw e⟩
theorem Pe {e:Ex} (h:EH e) (f:Int):EH (pt2 e f)∧AL (pt2 e f)≤AL e:=by
 unfold pt2;split
 ·rename_i ho
  obtain⟨h3, -⟩:=SL ho;obtain⟨a,b,hk,ha,hb,hn⟩:=h.two h3;rw[hk];exact⟨hb,by show AL b≤AL e;omega⟩
 exact⟨QY,Aw e⟩
theorem PQ {m:Nat} {f:Int} {a b t:Ex} (ha:EH a) (hb:EH b) (hf:0≤f∧f≤3) (h:Bi m f a b=some t):EH t∧AL t≤1+AL a+AL b:=by
 have pa:=Aw a;have pb:=Aw b;have key:(∃e,(e=a∨e=b)∧(t=e∨∃f,t=pt1 e f∨t=pt2 e f))→EH t∧AL t≤1+AL a+AL b:=by
  rintro⟨e,he,ht⟩;have h1:EH e∧AL e≤AL a+AL b:=by
   rcases he with rfl|rfl
   ·exact⟨ha,by omega⟩
   exact⟨hb,by omega⟩
  rcases ht with rfl|⟨f,rfl|rfl⟩
  ·exact⟨h1.1,by omega⟩
  ·exact⟨(OX h1.1 f).1,by have:=(OX h1.1 f).2;omega⟩
  exact⟨(Pe h1.1 f).1,by have:=(Pe h1.1 f).2;omega⟩
 unfold Bi at h;split at h
 ·unfold EI at h;split at h
  ·split at h
   ·cases h;exact⟨I2 (FP rfl).1 (FP rfl).2,by show 1≤_;omega⟩
   cases h
  cases h
 ·unfold Bq at h;dsimp only at h;generalize (if f=2∨f=3 then(1:Int)else 0)=n at h;by_cases h1:Gw b n=true
  ·rw[SR h1]at h;cases h;exact key ⟨_,.inl rfl,.inl rfl⟩
  rw[SQ h1]at h;split at h
  ·cases h;exact key ⟨_,.inr rfl,.inl rfl⟩
  cases h
 ·unfold BE at h;split at h
  ·cases h;exact key ⟨a,.inl rfl,.inr ⟨_,.inl rfl⟩⟩
  split at h
  ·cases h;exact key ⟨a,.inl rfl,.inr ⟨_,.inr rfl⟩⟩
  split at h
  ·cases h;exact key ⟨b,.inr rfl,.inr ⟨_,.inr rfl⟩⟩
  split at h
  ·cases h;exact key ⟨a,.inl rfl,.inr ⟨_,.inl rfl⟩⟩
  split at h
  ·cases h;exact key ⟨b,.inr rfl,.inr ⟨_,.inl rfl⟩⟩
  cases h
 ·unfold B5 at h;split at h
  ·cases h;exact key ⟨a,.inl rfl,.inr ⟨_,.inl rfl⟩⟩
  split at h
  ·cases h;exact key ⟨a,.inl rfl,.inr ⟨_,.inr rfl⟩⟩
  split at h
  ·cases h;exact key ⟨a,.inl rfl,.inr ⟨_,.inl rfl⟩⟩
  split at h
  ·cases h;exact key ⟨b,.inr rfl,.inr ⟨_,.inl rfl⟩⟩
  cases h
 ·unfold Ct at h;split at h
  ·cases h;refine⟨BA.2 ⟨⟨⟨?_,?_⟩,.inr (.inr ⟨rfl,a,BG 0 1,rfl⟩),Nat.zero_le _,Nat.zero_le _⟩,fun k hk=>?_⟩,?_⟩
   ·show Bc 3∧Bc 2∧Bc 0∧Bc 0∧Bc 0∧Bc 0∧Bc 0;unfold Bc;omega
   ·exact fun _=>⟨rfl,show(0:Int)≤2 by decide,show(2:Int)≤3 by decide⟩
   ·rcases List.mem_cons.1 hk with rfl|hk
    ·exact ha
    obtain rfl:=SJ.1 hk;exact I2 (by unfold Bc;omega) (by unfold Bc;omega)
   rw[B9];show 1+Af [a,BG 0 1]≤_;unfold Af Af Af;have:AL (BG 0 1)=1:=rfl;omega
  cases h
 unfold CF at h;split at h
 ·cases h;exact key ⟨a,.inl rfl,.inl rfl⟩
 split at h
 ·cases h;exact key ⟨b,.inr rfl,.inl rfl⟩
 cases h
theorem F5:∀(n:Nat) (e:Ex),AL e≤n→EH e→EH (Ah e)∧AL (Ah e)≤AL e
 |0,e,h,_=>absurd (Aw e) (by omega)
 |n+1,e,h,hok=>by
  have h2:=B9 e;have hin:∀k∈e.kids,EH (Ah k)∧AL (Ah k)≤AL k:=fun k hk=>F5 n k (by have:=Aa hk;omega) (hok.kid hk)
  have htop:=hok.top;have hnd:AL (e.withKids (e.kids.map Ah))≤AL e:=by
   rw[B9,Bl];have:=E9 (f:=Ah) e.kids fun k hk=>(hin k hk).2
   omega
  rw[F4];by_cases h3:e.kind=3
  ·obtain⟨a,b,hk,ha,hb,hn⟩:=hok.two h3;have hA:=hin a (by rw[hk];simp);have hB:=hin b (by rw[hk];simp);have hk2:(e.withKids (e.kids.map Ah)).kids=[Ah a,Ah b]:=by rw[Bl,hk];rfl
   rw[Gz hk2 (by rw[CC];exact h3),IC];have hp:=htop.1.2 h3;cases hr:DE e.fn (Ah a) (Ah b)with
   |some t=>
    obtain⟨m,hm,ht⟩:=Jg hr;have:=PQ hA.1 hB.1 ⟨hp.2.1,hp.2.2⟩ ht;exact⟨this.1,by show AL t≤AL e;omega⟩
   |none=>
    show EH (e.withKids (e.kids.map Ah))∧AL (e.withKids (e.kids.map Ah))≤AL e;refine⟨BA.2 ⟨?_,fun k hkk=>?_⟩,hnd⟩
    ·have hs:Lc (e.withKids (e.kids.map Ah)):= .inr (.inr ⟨by rw[CC];exact h3,_,_,hk2⟩);refine⟨⟨Ie e _ htop.1.1,fun _=>⟨by rw[hk2];rfl,by rw[IC];exact hp.2⟩⟩,hs,by rw[JF];exact htop.2.2.1,by rw[Gm];exact htop.2.2.2⟩
    have hkk':k∈[Ah a,Ah b]:=hk2▸hkk;rcases List.mem_cons.1 hkk' with rfl|hkk'
    ·exact hA.1
    obtain rfl:=SJ.1 hkk';exact hB.1
  rw[Hd (by rw[CC];exact h3)];refine⟨BA.2 ⟨?_,fun k hkk=>?_⟩,hnd⟩
  ·refine⟨⟨Ie e _ htop.1.1,fun h=>absurd (by rw[CC]at h;exact h) h3⟩,?_,by rw[JF];exact htop.2.2.1,by rw[Gm];exact htop.2.2.2⟩;rcases htop.2.1 with⟨h0,hks⟩|(⟨h1,hs⟩|⟨h2,⟨a,hks⟩,hb⟩)|⟨h, -⟩
   ·exact .inl ⟨by rw[CC];exact h0,by rw[Bl,hks];rfl⟩
   ·exact .inr (.inl (.inl ⟨by rw[CC];exact h1,by rw[JF,show(e.withKids (e.kids.map Ah)).name=e.name from by cases e;rfl];exact hs⟩))
   ·exact .inr (.inl (.inr ⟨by rw[CC];exact h2,⟨Ah a,by rw[Bl,hks];rfl⟩,by rw[Gm];exact hb⟩))
   exact absurd h h3
  rw[Bl]at hkk;obtain⟨k',hk',rfl⟩:=List.mem_map.1 hkk;exact(hin k' hk').1
def KO (r:Option Ex) (Q:Nat→Prop) (w:World) (e':Ending) (w':World):Prop:=∃cs,e'= .returned (.tuple #[.agg cs.toArray,.bool r.isSome])∧cs.length=11∧(∀v∈cs,v.oneCell'=true)∧(∀t,r=some t→AW w' (fun b=>Q b∨(w.heap.size≤b∧b<w'.heap.size)) t cs)∧A5 w w'
theorem CO.any {r:Option Ex} {Q:Nat→Prop} {w w':World} {e':Ending} (h:CO r Q w e' w'):KO r Q w e' w':=by
 obtain⟨cs,he,hr,g⟩:=h;exact⟨cs,he,hr.len,Al hr,fun t ht=>by rw[ht]at hr;exact hr,g⟩
def LY (m:Nat):FuncId:=
 match m with
 |0=>56
 |1=>57
 |2=>58
 |3=>59
 |4=>60
 |_=>61
theorem Ns {f:Int} (hf:0≤f∧f≤3) {a b:Ex} (ha:Ea a) (hb:Ea b) {Q:Nat→Prop} {w:World} {cs1 cs2:List Value} (hr1:AW w Q a cs1) (hr2:AW w Q b cs2):
  Calls Tryz.prog 56 #[.int .i64 f,.agg cs1.toArray,.agg cs2.toArray] w (KO (EI f a b) Q w):=by
 obtain⟨v1,v2,v3,rfl, -⟩:=hr1.open_;obtain⟨v4,v5,v6,rfl, -⟩:=hr2.open_;by_cases hz:a.kind=0∧b.kind=0
 ·obtain⟨⟨x,y,er⟩,hap⟩:∃r,CD f a.num a.den b.num b.den=r:=⟨_,rfl⟩;refine(JO f a b v1 v2 v3 v4 v5 v6 w hz.1 hz.2 hf ha.2.2.2.2.2.1 ha.2.2.2.2.2.2 hb.2.2.2.2.2.1 hb.2.2.2.2.2.2 x y er hap).mono ?_;rintro e' w' ⟨rfl,g⟩;have hF:EI f a b=if er=0 then some (BG x y)else none:=by unfold EI;rw[SR hz,hap]
  refine⟨AH x y,?_,rfl,AX _ _,fun t ht=>?_,g⟩
  ·rw[hF];by_cases h0:er=0<;>simp[h0]
  rw[hF]at ht;split at ht
  ·cases ht;exact AW.mk_ (e:=BG x y) (C0.nil _ _ _) (C0.nil _ _ _) (DH.nil _ _)
  cases ht
 refine(Je f a b v1 v2 v3 v4 v5 v6 w hz).mono ?_;rintro e' w' ⟨rfl,g⟩;have hF:EI f a b=none:=by unfold EI;rw[SQ hz]
 exact⟨AH 0 0,by rw[hF];rfl,rfl,AX _ _,(fun t ht=>by rw[hF]at ht;cases ht),g⟩
theorem OT {m:Nat} (hm:m<6) {f:Int} (hf:0≤f∧f≤3) {a b:Ex} (ha:EH a) (hb:EH b) (hna:AL a≤1000000) (hnb:AL b≤1000000) {Q:Nat→Prop} {w:World} {cs1 cs2:List Value} (hwt:D5 w) (hot:Dc w) (hq:∀b,Q b→b<w.heap.size) (hr1:AW w Q a cs1) (hr2:AW w Q b cs2):
  Calls Tryz.prog (LY m) #[.int .i64 f,.agg cs1.toArray,.agg cs2.toArray] w (KO (Bi m f a b) Q w):=by
 rcases m with _|_|_|_|_|_|m
 ·exact Ns hf ha.top.1.1 hb.top.1.1 hr1 hr2
 ·exact(LD (ha.rw_ hna) (hb.rw_ hnb) hwt hot hq hr1 hr2).mono fun _ _ h=>h.any
 ·exact(J5 (ha.rw_ hna) (hb.rw_ hnb) hwt hot hq hr1 hr2).mono fun _ _ h=>h.any
 ·exact(Gf (ha.rw_ hna) (hb.rw_ hnb) hwt hot hq hr1 hr2).mono fun _ _ h=>h.any
 ·exact(MD (ha.rw_ hna) (hb.rw_ hnb) hwt hot hq hr1 hr2).mono fun _ _ h=>h.any
 ·exact(LV (ha.rw_ hna) (hb.rw_ hnb) hwt hot hq hr1 hr2).mono fun _ _ h=>h.any
 omega
end Go.Proofs.YthpflelgbadkcaaGreatDoor
