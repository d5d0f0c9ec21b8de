/- rewrite.simplify with all six rules: what it computes, and the rules' contract. -/
import Derived.Test.YthpflelgbadkcaaGreatDoorRewriteTypesP01
import Derived.Test.YthpflelgbadkcaaGreatDoorRewriteTypesP28
import Derived.Test.YthpflelgbadkcaaGreatDoorRewriteTypesP16
import Derived.Test.YthpflelgbadkcaaGreatDoorRewriteTypesP17
set_option maxRecDepth 100000
set_option maxHeartbeats 12800000
set_option linter.unusedVariables false
set_option linter.unusedSimpArgs false
namespace Go.Proofs.YthpflelgbadkcaaGreatDoor
open Go.RowKit Pl
def EC (f:Int) (a b:Ex):Option Ex:=if a.kind=0∧b.kind=0 then(if(EV f a.num a.den b.num b.den).2.2=0 then some (BB (EV f a.num a.den b.num b.den).1 (EV f a.num a.den b.num b.den).2.1)else none)else none
def Bj (m:Nat) (f:Int) (a b:Ex):Option Ex:=
 match m with
 |0=>EC f a b
 |1=>Bn f a b
 |2=>Ay f a b
 |3=>Ah f a b
 |4=>Cq f a b
 |_=>CA f a b
def Cs (f:Int) (a b:Ex):Option Ex:=(Bj 0 f a b).or ((Bj 1 f a b).or ((Bj 2 f a b).or ((Bj 3 f a b).or ((Bj 4 f a b).or (Bj 5 f a b)))))
theorem Gn {f:Int} {a b:Ex} (h:∀m,m<6→Bj m f a b=none):Cs f a b=none:=by
 unfold Cs;rw[h 0 (by decide),h 1 (by decide),h 2 (by decide),h 3 (by decide),h 4 (by decide),h 5 (by decide)];rfl
theorem Gk {f:Int} {a b:Ex} {m:Nat} (hm:m<6) (h:∀k,k<m→Bj k f a b=none) {t:Ex} (ht:Bj m f a b=some t):Cs f a b=some t:=by
 unfold Cs;rcases m with _|_|_|_|_|_|m
 ·rw[ht];rfl
 ·rw[h 0 (by decide),ht];rfl
 ·rw[h 0 (by decide),h 1 (by decide),ht];rfl
 ·rw[h 0 (by decide),h 1 (by decide),h 2 (by decide),ht];rfl
 ·rw[h 0 (by decide),h 1 (by decide),h 2 (by decide),h 3 (by decide),ht];rfl
 ·rw[h 0 (by decide),h 1 (by decide),h 2 (by decide),h 3 (by decide),h 4 (by decide),ht];rfl
 omega
theorem I1 {f:Int} {a b t:Ex} (h:Cs f a b=some t):∃m,m<6∧Bj m f a b=some t:=by
 by_cases hn:∀m,m<6→Bj m f a b=none
 ·rw[Gn hn]at h;cases h
 have h1:∃m,m<6∧(∀k,k<m→Bj k f a b=none)∧Bj m f a b≠none:=by
  by_cases h0:Bj 0 f a b=none
  ·by_cases h1:Bj 1 f a b=none
   ·by_cases h2:Bj 2 f a b=none
    ·by_cases h3:Bj 3 f a b=none
     ·by_cases h4:Bj 4 f a b=none
      ·refine⟨5,by decide,fun k hk=>?_,fun h5=>hn fun m hm=>?_⟩
       ·rcases k with _|_|_|_|_|k<;>first|assumption|omega
       rcases m with _|_|_|_|_|_|k<;>first|assumption|omega
      exact⟨4,by decide,fun k hk=>by rcases k with _|_|_|_|k<;>first|assumption|omega,h4⟩
     exact⟨3,by decide,fun k hk=>by rcases k with _|_|_|k<;>first|assumption|omega,h3⟩
    exact⟨2,by decide,fun k hk=>by rcases k with _|_|k<;>first|assumption|omega,h2⟩
   exact⟨1,by decide,fun k hk=>by rcases k with _|k<;>first|assumption|omega,h1⟩
  exact⟨0,by decide,fun k hk=>by omega,h0⟩
 obtain⟨m,hm,hk,hne⟩:=h1;obtain⟨u,hu⟩:=Option.ne_none_iff_exists'.1 hne;rw[Gk hm hk hu]at h;exact⟨m,hm,hu.trans h⟩
def EM (e:Ex):Ex:=
 match e.kids with
 |[a,b]=>if e.kind=3 then(Cs e.fn a b).getD e else e
 |_=>e
mutual
def AW:Ex→Ex
 | .mk k f w o q n d nm ms bs ks=>EM (.mk k f w o q n d nm ms bs (Js ks))
def Js:List Ex→List Ex
 |[]=>[]
 |e::es=>AW e::Js es
end
theorem JP:∀es:List Ex,Js es=es.map AW
 |[]=>by unfold Js;rfl
 |e::es=>by unfold Js;rw[JP es];rfl
theorem Ff (e:Ex):AW e=EM (e.withKids (e.kids.map AW)):=by
 cases e;rw[AW,JP];rfl
theorem I2 {e a b:Ex} (hk:e.kids=[a,b]) (h3:e.kind=3):EM e=(Cs e.fn a b).getD e:=by
 unfold EM;rw[hk];simp only[h3,if_true]
theorem I7 {e:Ex} (h:e.kind≠3):EM e=e:=by
 unfold EM;split
 ·rw[VM h]
 rfl
def UP (e:Ex):Prop:=So e∧LZ e∧e.ms.length≤1000000∧e.bys.length≤1000000
def Ey (e:Ex):Prop:=BW UP e
theorem Ey.src {e:Ex} (h:Ey e):BW LZ e:=BW.mono (fun _ h=>h.2.1) (AH e) e (V6 _) h
theorem PF {es:List Ex} (h:∀e∈es,El e):EW es:=by
 induction es with
 |nil=>unfold EW;trivial
 |cons e es ih=>unfold EW;exact⟨h e List.mem_cons_self,ih fun k hk=>h k (List.mem_cons_of_mem _ hk)⟩
theorem Ey.tidy:∀(n:Nat) (e:Ex),AH e≤n→Ey e→El e
 |0,e,h,_=>absurd (Aj e) (by omega)
 |n+1,e,h,hok=>by
  have h1:=hok.top;have h2:=Az e;have h3:EW e.kids:=PF fun k hk=>Ey.tidy n k (by have:=AT hk;omega) (hok.kid hk)
  cases e;unfold El;exact⟨h1.2.2.1,h1.2.2.2,h3⟩
theorem Ey.rw_ {e:Ex} (h:Ey e) (hn:AH e≤1000000):CM e:=⟨h.src,h.tidy (AH e) e (V6 _),hn⟩
theorem Ik {x y:Int} (hx:BI x) (hy:BI y):Ey (BB x y):=by
 have h0:BI 0:=Cr.1;exact B3.2 ⟨⟨⟨⟨h0,h0,h0,h0,h0,hx,hy⟩,fun h=>nomatch h⟩,.inl ⟨rfl,rfl⟩,Nat.zero_le _,Nat.zero_le _⟩,fun k hk=>nomatch hk⟩
theorem SX:Ey zE:=Ik (x:=0) (y:=0) Cr.1 Cr.1
theorem Ey.two {e:Ex} (h:Ey e) (h3:e.kind=3):∃a b,e.kids=[a,b]∧Ey a∧Ey b∧AH e=1+AH a+AH b:=by
 obtain⟨a,b,hk⟩:=Hg h.top.2.1 h3;refine⟨a,b,hk,h.kid (by rw[hk];simp),h.kid (by rw[hk];simp),?_⟩;rw[Az,hk];unfold Ar Ar Ar;omega
theorem Qh {e:Ex} (h:Ey e) (f:Int):Ey (pt1 e f)∧AH (pt1 e f)≤AH e:=by
 unfold pt1;split
 ·rename_i ho
  obtain⟨h3, -⟩:=VH ho;obtain⟨a,b,hk,ha,hb,hn⟩:=h.two h3;rw[hk];exact⟨ha,by show AH a≤AH e;omega⟩
 exact⟨SX,Aj e⟩
theorem QX {e:Ex} (h:Ey e) (f:Int):Ey (pt2 e f)∧AH (pt2 e f)≤AH e:=by
 unfold pt2;split
 ·rename_i ho
  obtain⟨h3, -⟩:=VH ho;obtain⟨a,b,hk,ha,hb,hn⟩:=h.two h3;rw[hk];exact⟨hb,by show AH b≤AH e;omega⟩
 exact⟨SX,Aj e⟩
theorem RF {m:Nat} {f:Int} {a b t:Ex} (ha:Ey a) (hb:Ey b) (hf:0≤f∧f≤3) (h:Bj m f a b=some t):Ey t∧AH t≤1+AH a+AH b:=by
 have pa:=Aj a;have pb:=Aj b;have key:(∃e,(e=a∨e=b)∧(t=e∨∃f,t=pt1 e f∨t=pt2 e f))→Ey t∧AH t≤1+AH a+AH b:=by
  rintro⟨e,he,ht⟩;have h1:Ey e∧AH e≤AH a+AH b:=by
   rcases he with rfl|rfl
   ·exact⟨ha,by omega⟩
   exact⟨hb,by omega⟩
  rcases ht with rfl|⟨f,rfl|rfl⟩
  ·exact⟨h1.1,by omega⟩
  ·exact⟨(Qh h1.1 f).1,by have:=(Qh h1.1 f).2;omega⟩
  exact⟨(QX h1.1 f).1,by have:=(QX h1.1 f).2;omega⟩
 unfold Bj at h;split at h
 ·unfold EC at h;split at h
  ·split at h
   ·cases h;exact⟨Ik (KW rfl).1 (KW rfl).2,by show 1≤_;omega⟩
   cases h
  cases h
 ·unfold Bn at h;dsimp only at h;generalize (if f=2∨f=3 then(1:Int)else 0)=n at h;by_cases h1:H7 b n=true
  ·rw[VN h1]at h;cases h;exact key ⟨_,.inl rfl,.inl rfl⟩
  rw[VM h1]at h;split at h
  ·cases h;exact key ⟨_,.inr rfl,.inl rfl⟩
  cases h
 ·unfold Ay at h;split at h
  ·cases h;exact key ⟨a,.inl rfl,.inr ⟨_,.inl rfl⟩⟩
  split at h
  ·cases h;exact key ⟨a,.inl rfl,.inr ⟨_,.inr rfl⟩⟩
  split at h
  ·cases h;exact key ⟨b,.inr rfl,.inr ⟨_,.inr rfl⟩⟩
  split at h
  ·cases h;exact key ⟨a,.inl rfl,.inr ⟨_,.inl rfl⟩⟩
  split at h
  ·cases h;exact key ⟨b,.inr rfl,.inr ⟨_,.inl rfl⟩⟩
  cases h
 ·unfold Ah at h;split at h
  ·cases h;exact key ⟨a,.inl rfl,.inr ⟨_,.inl rfl⟩⟩
  split at h
  ·cases h;exact key ⟨a,.inl rfl,.inr ⟨_,.inr rfl⟩⟩
  split at h
  ·cases h;exact key ⟨a,.inl rfl,.inr ⟨_,.inl rfl⟩⟩
  split at h
  ·cases h;exact key ⟨b,.inr rfl,.inr ⟨_,.inl rfl⟩⟩
  cases h
 ·unfold Cq at h;split at h
  ·cases h;refine⟨B3.2 ⟨⟨⟨?_,?_⟩,.inr (.inr ⟨rfl,a,BB 0 1,rfl⟩),Nat.zero_le _,Nat.zero_le _⟩,fun k hk=>?_⟩,?_⟩
   ·show BI 3∧BI 2∧BI 0∧BI 0∧BI 0∧BI 0∧BI 0;unfold BI;omega
   ·exact fun _=>⟨rfl,show(0:Int)≤2 by decide,show(2:Int)≤3 by decide⟩
   ·rcases List.mem_cons.1 hk with rfl|hk
    ·exact ha
    obtain rfl:=VF.1 hk;exact Ik (by unfold BI;omega) (by unfold BI;omega)
   rw[Az];show 1+Ar [a,BB 0 1]≤_;unfold Ar Ar Ar;have:AH (BB 0 1)=1:=rfl;omega
  cases h
 unfold CA at h;split at h
 ·cases h;exact key ⟨a,.inl rfl,.inl rfl⟩
 split at h
 ·cases h;exact key ⟨b,.inr rfl,.inl rfl⟩
 cases h
theorem Fh:∀(n:Nat) (e:Ex),AH e≤n→Ey e→Ey (AW e)∧AH (AW e)≤AH e
 |0,e,h,_=>absurd (Aj e) (by omega)
 |n+1,e,h,hok=>by
  have h2:=Az e;have hin:∀k∈e.kids,Ey (AW k)∧AH (AW k)≤AH k:=fun k hk=>Fh n k (by have:=AT hk;omega) (hok.kid hk)
  have htop:=hok.top;have hnd:AH (e.withKids (e.kids.map AW))≤AH e:=by
   rw[Az,Bp];have:=Fl (f:=AW) e.kids fun k hk=>(hin k hk).2
   omega
  rw[Ff];by_cases h3:e.kind=3
  ·obtain⟨a,b,hk,ha,hb,hn⟩:=hok.two h3;have hA:=hin a (by rw[hk];simp);have hB:=hin b (by rw[hk];simp);have hk2:(e.withKids (e.kids.map AW)).kids=[AW a,AW b]:=by rw[Bp,hk];rfl
   rw[I2 hk2 (by rw[Cc];exact h3),Mg];have hp:=htop.1.2 h3;cases hr:Cs e.fn (AW a) (AW b)with
   |some t=>
    obtain⟨m,hm,ht⟩:=I1 hr;have:=RF hA.1 hB.1 ⟨hp.2.1,hp.2.2⟩ ht;exact⟨this.1,by show AH t≤AH e;omega⟩
   |none=>
    show Ey (e.withKids (e.kids.map AW))∧AH (e.withKids (e.kids.map AW))≤AH e;refine⟨B3.2 ⟨?_,fun k hkk=>?_⟩,hnd⟩
    ·have hs:LZ (e.withKids (e.kids.map AW)):= .inr (.inr ⟨by rw[Cc];exact h3,_,_,hk2⟩);refine⟨⟨MZ e _ htop.1.1,fun _=>⟨by rw[hk2];rfl,by rw[Mg];exact hp.2⟩⟩,hs,by rw[Lq];exact htop.2.2.1,by rw[Iu];exact htop.2.2.2⟩
    have hkk':k∈[AW a,AW b]:=hk2▸hkk;rcases List.mem_cons.1 hkk' with rfl|hkk'
    ·exact hA.1
    obtain rfl:=VF.1 hkk';exact hB.1
  rw[I7 (by rw[Cc];exact h3)];refine⟨B3.2 ⟨?_,fun k hkk=>?_⟩,hnd⟩
  ·refine⟨⟨MZ e _ htop.1.1,fun h=>absurd (by rw[Cc]at h;exact h) h3⟩,?_,by rw[Lq];exact htop.2.2.1,by rw[Iu];exact htop.2.2.2⟩;rcases htop.2.1 with⟨h0,hks⟩|(⟨h1,hs⟩|⟨h2,⟨a,hks⟩,hb⟩)|⟨h, -⟩
   ·exact .inl ⟨by rw[Cc];exact h0,by rw[Bp,hks];rfl⟩
   ·exact .inr (.inl (.inl ⟨by rw[Cc];exact h1,by rw[Lq,show(e.withKids (e.kids.map AW)).name=e.name from by cases e;rfl];exact hs⟩))
   ·exact .inr (.inl (.inr ⟨by rw[Cc];exact h2,⟨AW a,by rw[Bp,hks];rfl⟩,by rw[Iu];exact hb⟩))
   exact absurd h h3
  rw[Bp]at hkk;obtain⟨k',hk',rfl⟩:=List.mem_map.1 hkk;exact(hin k' hk').1
def LF (r:Option Ex) (Q:Nat→Prop) (w:World) (e':Ending) (w':World):Prop:=∃cs,e'= .returned (.tuple #[.agg cs.toArray,.bool r.isSome])∧cs.length=11∧(∀v∈cs,v.oneCell'=true)∧(∀t,r=some t→AZ w' (fun b=>Q b∨(w.heap.size≤b∧b<w'.heap.size)) t cs)∧A4 w w'
theorem CU.any {r:Option Ex} {Q:Nat→Prop} {w w':World} {e':Ending} (h:CU r Q w e' w'):LF r Q w e' w':=by
 obtain⟨cs,he,hr,g⟩:=h;exact⟨cs,he,hr.len,Ap hr,fun t ht=>by rw[ht]at hr;exact hr,g⟩
def Lx (m:Nat):FuncId:=
 match m with
 |0=>56
 |1=>57
 |2=>58
 |3=>59
 |4=>60
 |_=>61
theorem Ot {f:Int} (hf:0≤f∧f≤3) {a b:Ex} (ha:Ji a) (hb:Ji b) {Q:Nat→Prop} {w:World} {cs1 cs2:List Value} (hr1:AZ w Q a cs1) (hr2:AZ w Q b cs2):
  Calls Tryz.prog 56 #[.int .i64 f,.agg cs1.toArray,.agg cs2.toArray] w (LF (EC f a b) Q w):=by
 obtain⟨v1,v2,v3,rfl, -⟩:=hr1.open_;obtain⟨v4,v5,v6,rfl, -⟩:=hr2.open_;by_cases hz:a.kind=0∧b.kind=0
 ·obtain⟨⟨x,y,er⟩,hap⟩:∃r,EV f a.num a.den b.num b.den=r:=⟨_,rfl⟩;refine(P3 f a b v1 v2 v3 v4 v5 v6 w hz.1 hz.2 hf ha.2.2.2.2.2.1 ha.2.2.2.2.2.2 hb.2.2.2.2.2.1 hb.2.2.2.2.2.2 x y er hap).mono ?_;rintro e' w' ⟨rfl,g⟩;have hF:EC f a b=if er=0 then some (BB x y)else none:=by unfold EC;rw[VN hz,hap]
  refine⟨AJ x y,?_,rfl,Bh _ _,fun t ht=>?_,g⟩
  ·rw[hF];by_cases h0:er=0<;>simp[h0]
  rw[hF]at ht;split at ht
  ·cases ht;exact AZ.mk_ (e:=BB x y) (Ba.nil _ _ _) (Ba.nil _ _ _) (EX.nil _ _)
  cases ht
 refine(PL f a b v1 v2 v3 v4 v5 v6 w hz).mono ?_;rintro e' w' ⟨rfl,g⟩;have hF:EC f a b=none:=by unfold EC;rw[VM hz]
 exact⟨AJ 0 0,by rw[hF];rfl,rfl,Bh _ _,(fun t ht=>by rw[hF]at ht;cases ht),g⟩
theorem Qv {m:Nat} (hm:m<6) {f:Int} (hf:0≤f∧f≤3) {a b:Ex} (ha:Ey a) (hb:Ey b) (hna:AH a≤1000000) (hnb:AH b≤1000000) {Q:Nat→Prop} {w:World} {cs1 cs2:List Value} (hwt:DI w) (hot:EB w) (hq:∀b,Q b→b<w.heap.size) (hr1:AZ w Q a cs1) (hr2:AZ w Q b cs2):
  Calls Tryz.prog (Lx m) #[.int .i64 f,.agg cs1.toArray,.agg cs2.toArray] w (LF (Bj m f a b) Q w):=by
 rcases m with _|_|_|_|_|_|m
 ·exact Ot hf ha.top.1.1 hb.top.1.1 hr1 hr2
 ·exact(Me (ha.rw_ hna) (hb.rw_ hnb) hwt hot hq hr1 hr2).mono fun _ _ h=>h.any
 ·exact(Jw (ha.rw_ hna) (hb.rw_ hnb) hwt hot hq hr1 hr2).mono fun _ _ h=>h.any
 ·exact(H8 (ha.rw_ hna) (hb.rw_ hnb) hwt hot hq hr1 hr2).mono fun _ _ h=>h.any
 ·exact(NS (ha.rw_ hna) (hb.rw_ hnb) hwt hot hq hr1 hr2).mono fun _ _ h=>h.any
 ·exact(M8 (ha.rw_ hna) (hb.rw_ hnb) hwt hot hq hr1 hr2).mono fun _ _ h=>h.any
 omega
end Go.Proofs.YthpflelgbadkcaaGreatDoor
