/- What the card of the law stands on: TypePl, TRow, TUnit. -/
import Derived.Test.YthpflelgbadkcaaGreatDoorRewriteTypesP01
import Derived.Test.YthpflelgbadkcaaGreatDoorRewriteTypesP39
import Derived.Test.YthpflelgbadkcaaGreatDoorRewriteTypesP22
import Derived.Test.YthpflelgbadkcaaGreatDoorRewriteTypesP02
set_option maxRecDepth 100000
set_option maxHeartbeats 12800000
set_option linter.unusedVariables false
set_option linter.unusedSimpArgs false
namespace Go.Proofs.YthpflelgbadkcaaGreatDoor
open Pl
abbrev Un:=Int×Int×Int
def BO:Un:=(0,0,0)
def Cl (u:Un):Bool:=decide (-3≤u.1∧u.1≤3)&&(decide (-3≤u.2.1∧u.2.1≤3)&&decide (-3≤u.2.2∧u.2.2≤3))
def GL (a b:Un):Un:=(a.1+b.1,a.2.1+b.2.1,a.2.2+b.2.2)
def IR (a b:Un):Un:=(a.1-b.1,a.2.1-b.2.1,a.2.2-b.2.2)
abbrev Du:=(ByteArray×List (ByteArray×ByteArray))×Un
def FB (u:Un):Un×Int:=if Cl u=true then(u,0)else(BO,4)
def GI (ds:List Du) (e:Ex):List Un:=(ds.filter fun d=>(d.1.1.toList==e.name.toList)&&Gi d.1.2 e.ms).map (·.2)
def DJ (ET:Int) (ds:List Du) (e:Ex):Un×Int:=match GI ds e with
 |[]=>(BO,8)
 |u::us=>if(u::us).all Cl=false then(BO,4)else if us.all (·==u)=false then(BO,ET)else FB (if e.fn=6 then(u.1,u.2.1,u.2.2-1)else u)
def Ej (ET f:Int) (ra rb:Bool) (la lb:List ByteArray) (ua ub:Un):Un×Int:=
 if ra=false∧rb=false∧la≠lb then(BO,ET)else if f=2 then FB (GL ua ub)else if f=3 then FB (IR ua ub)else if ua≠ub then(BO,ET)else(ua,0)
abbrev Vw:=(Un×Int)×Bool×List ByteArray
def Ga:Vw:=((BO,0),true,[])
def Oq (ET f:Int) (bys:List ByteArray) (a:Vw):Vw:=(if a.1.2≠0 then(BO,a.1.2)else if a.2.1=true then(BO,ET)else if f=3 then(BO,0)else a.1,false,bys)
def Bx (ET f:Int) (a b:Vw):Vw:=(if a.1.2≠0 then(BO,a.1.2)else if b.1.2≠0 then(BO,b.1.2)else Ej ET f a.2.1 b.2.1 a.2.2 b.2.2 a.1.1 b.1.1,a.2.1&&b.2.1,if a.2.1=true then b.2.2 else a.2.2)
def Ig (ET:Int) (ds:List Du) (e:Ex) (ks:List Vw):Vw:=
 if e.kind=1 then(DJ ET ds e,false,[⟨#[42]⟩])else match ks with
  |[a]=>if e.kind=2 then Oq ET e.fn e.bys a else Ga
  |[a,b]=>if e.kind=3 then Bx ET e.fn a b else Ga
  |_=>Ga
mutual
def vE (ET:Int) (ds:List Du):Ex→Vw
 | .mk k f w o q n d nm ms bs ks=>Ig ET ds (.mk k f w o q n d nm ms bs ks) (Th ET ds ks)
def Th (ET:Int) (ds:List Du):List Ex→List Vw
 |[]=>[]
 |e::es=>vE ET ds e::Th ET ds es
end
section
variable {ET:Int} {ds:List Du}
theorem OD:∀es:List Ex,Th ET ds es=es.map (vE ET ds)
 |[]=>by unfold Th;rfl
 |e::es=>by unfold Th;rw[OD es];rfl
theorem Fa (e:Ex):vE ET ds e=Ig ET ds e (e.kids.map (vE ET ds)):=by
 cases e;rw[vE,OD];rfl
theorem SK (e:Ex) (ks:List Ex) (vs:List Vw):Ig ET ds (e.withKids ks) vs=Ig ET ds e vs:=by cases e;rfl
theorem Sf (x y:Int):vE ET ds (BB x y)=Ga:=by rw[Fa];rfl
theorem Tn (f:Int) (a b:Ex):vE ET ds (Ax f a b)=Bx ET f (vE ET ds a) (vE ET ds b):=by rw[Fa];rfl
theorem DV {e:Ex} (h:e.kind=0):vE ET ds e=Ga:=by
 rw[Fa];unfold Ig;rw[VM (by rw[h];decide)];split
 ·rw[VM (by rw[h];decide)]
 ·rw[VM (by rw[h];decide)]
 rfl
theorem Dr {e a b:Ex} (h:e.kind=3) (hk:e.kids=[a,b]):vE ET ds e=Bx ET e.fn (vE ET ds a) (vE ET ds b):=by
 rw[Fa,hk];unfold Ig;rw[VM (by rw[h];decide)];show(if e.kind=3 then _ else _)=_;rw[VN h]
end
mutual
theorem Kx:∀a b:Ex,Fw a b=true→a=b
 | .mk k f w o q n d nm ms bs ks,.mk k' f' w' o' q' n' d' nm' ms' bs' ks',h=>by
  unfold Fw at h;rw[Bool.and_eq_true,decide_eq_true_eq]at h;obtain⟨⟨rfl,rfl,rfl,rfl,rfl,rfl,rfl,rfl,rfl,rfl⟩,h2⟩:=h;rw[Nz ks ks' h2]
theorem Nz:∀xs ys:List Ex,Ec xs ys=true→xs=ys
 |[],[],_=>rfl
 |a::ax,b::bx,h=>by
  unfold Ec at h;rw[Bool.and_eq_true]at h;rw[Kx a b h.1,Nz ax bx h.2]
 |[],b::bx,h=>by unfold Ec at h;cases h
 |a::ax,[],h=>by unfold Ec at h;cases h
end
def Wv (v:Vw):Prop:=(v.1.2=0→Cl v.1.1=true)∧(v.2.1=true→v.2.2=[])
theorem EQ {v u:Vw} (h1:v.1.1=u.1.1) (h2:v.1.2=0) (h3:u.1.2=0) (h4:v.2.1=u.2.1) (h5:v.2.2=u.2.2):v=u:=by
 obtain⟨⟨a,b⟩,c,d⟩:=v;obtain⟨⟨a',b'⟩,c',d'⟩:=u;dsimp only at h1 h2 h3 h4 h5;subst h1 h2 h4 h5;rw[h3]
theorem Kr {u:Un} (h:(FB u).2=0):Cl u=true∧FB u=(u,0):=by
 unfold FB at h ⊢;split at h
 ·rename_i h1
  exact⟨h1,VN h1⟩
 cases h
section
variable {ET:Int} {a b:Vw} {f:Int}
theorem Ct (hE:ET≠0) (h:(Bx ET f a b).1.2=0):a.1.2=0∧b.1.2=0∧(a.2.1=false→b.2.1=false→a.2.2=b.2.2)∧(Bx ET f a b).1.1=(if f=2 then GL a.1.1 b.1.1 else if f=3 then IR a.1.1 b.1.1 else a.1.1)∧(f≠2→f≠3→a.1.1=b.1.1)∧((f=2∨f=3)→Cl (Bx ET f a b).1.1=true):=by
 have h0:=h;unfold Bx at h;dsimp only at h;split at h
 ·rename_i h1;exact absurd h h1
 rename_i ha
 split at h
 ·rename_i h1;exact absurd h h1
 rename_i hb
 have ha0:a.1.2=0:=Decidable.not_not.1 ha;have hb0:b.1.2=0:=Decidable.not_not.1 hb;have hv:(Bx ET f a b).1=Ej ET f a.2.1 b.2.1 a.2.2 b.2.2 a.1.1 b.1.1:=by unfold Bx;dsimp only;rw[VM ha,VM hb]
 unfold Ej at h hv;split at h
 ·exact absurd h hE
 rename_i hr
 rw[VM hr]at hv;have hrow:a.2.1=false→b.2.1=false→a.2.2=b.2.2:=fun h1 h2=>Decidable.byContradiction fun h3=>hr ⟨h1,h2,h3⟩
 split at h
 ·rename_i h2
  rw[VN h2]at hv;obtain⟨l1,l2⟩:=Kr h;rw[l2]at hv;refine⟨ha0,hb0,hrow,by rw[hv,VN h2],fun h=>absurd h2 h,fun _=>by rw[hv];exact l1⟩
 rename_i h2
 rw[VM h2]at hv;split at h
 ·rename_i h3
  rw[VN h3]at hv;obtain⟨l1,l2⟩:=Kr h;rw[l2]at hv;refine⟨ha0,hb0,hrow,by rw[hv,VM h2,VN h3],fun _ h=>absurd h3 h,fun _=>by rw[hv];exact l1⟩
 rename_i h3
 rw[VM h3]at hv;split at h
 ·exact absurd h hE
 rename_i hu
 rw[VM hu]at hv;exact⟨ha0,hb0,hrow,by rw[hv,VM h2,VM h3],fun _ _=>Decidable.not_not.1 hu,fun h=>by rcases h with h|h<;>contradiction⟩
theorem C1 (f:Int) (a b:Vw):(Bx ET f a b).2.1=(a.2.1&&b.2.1):=rfl
theorem Bl (f:Int) (a b:Vw):(Bx ET f a b).2.2=if a.2.1=true then b.2.2 else a.2.2:=rfl
theorem Ki (hE:ET≠0) (ha:Wv a) (hb:Wv b):Wv (Bx ET f a b):=by
 refine⟨fun h=>?_,fun h=>?_⟩
 ·obtain⟨h1,h2,h3,h4,h5,h6⟩:=Ct hE h;by_cases f2:f=2∨f=3
  ·exact h6 f2
  rw[h4,VM (fun e=>f2 (.inl e)),VM (fun e=>f2 (.inr e))];exact ha.1 h1
 rw[C1,Bool.and_eq_true]at h;rw[Bl,VN h.1];exact hb.2 h.2
theorem OI (u:Un):GL u BO=u:=by obtain⟨a,b,c⟩:=u;unfold GL BO;simp
theorem Rs (u:Un):GL BO u=u:=by obtain⟨a,b,c⟩:=u;unfold GL BO;simp
theorem Rl (u:Un):IR u BO=u:=by obtain⟨a,b,c⟩:=u;unfold IR BO;simp
theorem J5:Wv Ga:=⟨fun _=>rfl,fun _=>rfl⟩
variable {x y n:Vw}
theorem Sw {u:Un} (h:Wv x) (h0:x.1.2=0) (hu:u=x.1.1):FB u=(u,0):=by subst hu;unfold FB;rw[VN (h.1 h0)]
theorem Cx (hE:ET≠0) (hx:Wv x) (h:(Bx ET f x Ga).1.2=0):Bx ET f x Ga=x:=by
 obtain⟨h1, -, -,h4,h5, -⟩:=Ct hE h;refine EQ ?_ h h1 (by rw[C1];exact Bool.and_true _) ?_
 ·rw[h4];split
  ·exact OI _
  split
  ·exact Rl _
  rfl
 rw[Bl];split
 ·rename_i hr;rw[hx.2 hr];rfl
 rfl
theorem II (hE:ET≠0) (h:(Bx ET f Ga x).1.2=0) (hf:f≠3):Bx ET f Ga x=x:=by
 obtain⟨-,h2, -,h4,h5, -⟩:=Ct hE h;refine EQ ?_ h h2 (by rw[C1];exact Bool.true_and _) (by rw[Bl];exact VN rfl);rw[h4];split
 ·exact Rs _
 ·rename_i h2
  exact h5 h2 hf
theorem Qt (hE:ET≠0) {f1 f2:Int} (hf1:f1≠2∧f1≠3) (hf2:f2≠2∧f2≠3) {p q r:Vw} (h:(Bx ET f2 (Bx ET f1 p q) r).1.2=0):p.1.2=0∧q.1.2=0∧r.1.2=0∧p.1.1=q.1.1∧p.1.1=r.1.1∧(Bx ET f2 (Bx ET f1 p q) r).1.1=p.1.1∧(p.2.1=false→q.2.1=false→p.2.2=q.2.2):=by
 obtain⟨h1,h2,h3,h4,h5, -⟩:=Ct hE h;obtain⟨k1,k2,k3,k4,k5, -⟩:=Ct hE h1;rw[VM hf1.1,VM hf1.2]at k4;rw[VM hf2.1,VM hf2.2]at h4;have e1:=k5 hf1.1 hf1.2;have e2:=h5 hf2.1 hf2.2;rw[k4]at e2 h4;exact⟨k1,k2,h2,e1,e2,h4,k3⟩
theorem O0 (hE:ET≠0) {f1 f2:Int} (hf1:f1≠2∧f1≠3) (hf2:f2≠2∧f2≠3) {p q r:Vw} (h:(Bx ET f2 r (Bx ET f1 p q)).1.2=0):p.1.2=0∧q.1.2=0∧r.1.2=0∧p.1.1=q.1.1∧r.1.1=p.1.1∧(Bx ET f2 r (Bx ET f1 p q)).1.1=r.1.1∧(p.2.1=false→q.2.1=false→p.2.2=q.2.2):=by
 obtain⟨h1,h2,h3,h4,h5, -⟩:=Ct hE h;obtain⟨k1,k2,k3,k4,k5, -⟩:=Ct hE h2;rw[VM hf1.1,VM hf1.2]at k4;rw[VM hf2.1,VM hf2.2]at h4;have e1:=k5 hf1.1 hf1.2;have e2:=h5 hf2.1 hf2.2;rw[k4]at e2;exact⟨k1,k2,h1,e1,e2,h4,k3⟩
theorem Sd (hE:ET≠0) {f1 f2:Int} (hf1:f1≠2∧f1≠3) (hf2:f2≠2∧f2≠3) (hx:Wv x) (hy:Wv y) (hc:y.2.1=true∨x.2.1=false) (h:(Bx ET f2 (Bx ET f1 x y) y).1.2=0):Bx ET f2 (Bx ET f1 x y) y=x:=by
 obtain⟨h1,h2,h3,h4,h5,h6,h7⟩:=Qt hE hf1 hf2 h;refine EQ h6 h h1 ?_ ?_
 ·rw[C1,C1];rcases hc with hc|hc<;>rw[hc]<;>simp
 rw[Bl,C1,Bl];rcases hc with hc|hc
 ·rw[hc,hy.2 hc];cases hxr:x.2.1
  ·simp
  simp[hx.2 hxr]
 rw[hc];simp
theorem Tm (hE:ET≠0) {f1 f2:Int} (hf1:f1≠2∧f1≠3) (hf2:f2≠2∧f2≠3) (hx:Wv x) (hy:Wv y) (hc:y.2.1=true∨x.2.1=false) (h:(Bx ET f2 (Bx ET f1 y x) y).1.2=0):Bx ET f2 (Bx ET f1 y x) y=x:=by
 obtain⟨h1,h2,h3,h4,h5,h6,h7⟩:=Qt hE hf1 hf2 h;refine EQ (h6.trans h4) h h2 ?_ ?_
 ·rw[C1,C1];rcases hc with hc|hc<;>rw[hc]<;>simp
 rw[Bl,C1,Bl];rcases hc with hc|hc
 ·rw[hc,hy.2 hc];cases hxr:x.2.1
  ·simp
  simp[hx.2 hxr]
 rw[hc];cases hyr:y.2.1
 ·simp[h7 hyr hc]
 simp
theorem TD (hE:ET≠0) {f1 f2:Int} (hf1:f1≠2∧f1≠3) (hf2:f2≠2∧f2≠3) (hx:Wv x) (hy:Wv y) (hc:y.2.1=true∨x.2.1=false) (h:(Bx ET f2 y (Bx ET f1 x y)).1.2=0):Bx ET f2 y (Bx ET f1 x y)=x:=by
 obtain⟨h1,h2,h3,h4,h5,h6,h7⟩:=O0 hE hf1 hf2 h;refine EQ (h6.trans h5) h h1 ?_ ?_
 ·rw[C1,C1];rcases hc with hc|hc<;>rw[hc]<;>simp
 rw[Bl,Bl];rcases hc with hc|hc
 ·rw[hc,hy.2 hc];cases hxr:x.2.1
  ·simp
  simp[hx.2 hxr]
 rw[hc];cases hyr:y.2.1
 ·simp[h7 hc hyr]
 simp
theorem Ss (hE:ET≠0) {f1 f2:Int} (hf1:f1≠2∧f1≠3) (hf2:f2≠2∧f2≠3) (hx:Wv x) (hy:Wv y) (hc:y.2.1=true∨x.2.1=false) (h:(Bx ET f2 y (Bx ET f1 y x)).1.2=0):Bx ET f2 y (Bx ET f1 y x)=x:=by
 obtain⟨h1,h2,h3,h4,h5,h6,h7⟩:=O0 hE hf1 hf2 h;refine EQ (h6.trans h4) h h2 ?_ ?_
 ·rw[C1,C1];rcases hc with hc|hc<;>rw[hc]<;>simp
 rw[Bl,Bl];rcases hc with hc|hc
 ·rw[hc];cases hxr:x.2.1
  ·simp
  simp[hx.2 hxr]
 cases hyr:y.2.1
 ·simp[h7 hyr hc]
 simp
end
theorem FK {e:Ex} (h:Bq e=0):(e.kind=0∧e.kids=[])∨(e.kind=1∧e.kids=[])∨(e.kind=2∧∃a,e.kids=[a])∨(e.kind=3∧∃a b,e.kids=[a,b]):=by
 have h1:=Da h;unfold BH at h1;simp only[Bool.and_eq_true,Bool.or_eq_true,decide_eq_true_eq]at h1;rcases h1.1.1.1 with((⟨⟨h2, -,h3⟩, -⟩|⟨h2, -, -,h3, -⟩)|⟨h2, -, -,h3, -⟩)|⟨h2, -, -,h3, -⟩
 ·exact .inl ⟨h2,List.eq_nil_of_length_eq_zero h3⟩
 ·exact .inr (.inl ⟨h2,List.eq_nil_of_length_eq_zero h3⟩)
 ·right;right;left;rcases hk:e.kids with _|⟨a,_|⟨b,l⟩⟩
  ·rw[hk]at h3;simp at h3
  ·exact⟨h2,a,rfl⟩
  rw[hk]at h3;simp at h3
 right;right;right;rcases hk:e.kids with _|⟨a,_|⟨b,_|⟨c,l⟩⟩⟩
 ·rw[hk]at h3;simp at h3
 ·rw[hk]at h3;simp at h3
 ·exact⟨h2,a,b,rfl⟩
 rw[hk]at h3;simp at h3
section
variable {ET:Int} {ds:List Du}
theorem H9 {e:Ex} (h:e.kind=1):vE ET ds e=(DJ ET ds e,false,[⟨#[42]⟩]):=by rw[Fa];unfold Ig;rw[VN h]
theorem F5 {e a:Ex} (h:e.kind=2) (hk:e.kids=[a]):vE ET ds e=Oq ET e.fn e.bys (vE ET ds a):=by
 rw[Fa,hk];unfold Ig;rw[VM (by rw[h];decide)];show(if e.kind=2 then _ else _)=_;rw[VN h]
theorem Pn:∀(n:Nat) (e:Ex),AH e≤n→Be e→(vE ET ds e).2.1=BJ e
 |0,e,h,_=>absurd (Aj e) (by omega)
 |n+1,e,h,hg=>by
  rw[DA];have h2:=Az e;rcases FK hg.top.2 with⟨hk, -⟩|⟨hk, -⟩|⟨hk,a,hks⟩|⟨hk,a,b,hks⟩
  ·rw[DV hk,hk];rfl
  ·rw[H9 hk,hk];rfl
  ·rw[F5 hk hks,hk];rfl
  rw[Dr hk hks,C1,Pn n a (by have:=AT (show a∈e.kids by rw[hks];simp);omega) (hg.kid (by rw[hks];simp)),Pn n b (by have:=AT (show b∈e.kids by rw[hks];simp);omega) (hg.kid (by rw[hks];simp)),hk,hks,Ep];simp
theorem Sx {e:Ex} (h:(DJ ET ds e).2=0) (hE:ET≠0):Cl (DJ ET ds e).1=true:=by
 unfold DJ at h ⊢;split at h
 ·cases h
 split at h
 ·cases h
 rename_i u us hu h1
 split at h
 ·exact absurd h hE
 rename_i h2
 rw[VM h1,VM h2,(Kr h).2];exact(Kr h).1
theorem SP (hE:ET≠0):∀(n:Nat) (e:Ex),AH e≤n→Be e→Wv (vE ET ds e)
 |0,e,h,_=>absurd (Aj e) (by omega)
 |n+1,e,h,hg=>by
  have h2:=Az e;rcases FK hg.top.2 with⟨hk, -⟩|⟨hk, -⟩|⟨hk,a,hks⟩|⟨hk,a,b,hks⟩
  ·rw[DV hk];exact J5
  ·rw[H9 hk];exact⟨fun h=>Sx h hE,fun h=>nomatch h⟩
  ·rw[F5 hk hks];have ih:=SP hE n a (by have:=AT (show a∈e.kids by rw[hks];simp);omega) (hg.kid (by rw[hks];simp));refine⟨fun h=>?_,fun h=>nomatch h⟩;unfold Oq at h ⊢;dsimp only at h ⊢;split at h
   ·rename_i h1;exact absurd h h1
   split at h
   ·exact absurd h hE
   split at h
   ·rename_i h1 h3 h4
    rw[VM h1,VM h3,VN h4];rfl
   ·rename_i h1 h3 h4
    rw[VM h1,VM h3,VM h4];exact ih.1 h
  rw[Dr hk hks];exact Ki hE (SP hE n a (by have:=AT (show a∈e.kids by rw[hks];simp);omega) (hg.kid (by rw[hks];simp))) (SP hE n b (by have:=AT (show b∈e.kids by rw[hks];simp);omega) (hg.kid (by rw[hks];simp)))
theorem Be.wv {e:Ex} (h:Be e) (hE:ET≠0):Wv (vE ET ds e):=SP hE (AH e) e (V6 _) h
theorem Be.vrow {e:Ex} (h:Be e):(vE ET ds e).2.1=BJ e:=Pn (AH e) e (V6 _) h
end
theorem Fy:∀(n:Nat) (e:Ex),AH e≤n→Be e→(CX e).2=true→BJ e=false
 |0,e,h,_=>absurd (Aj e) (by omega)
 |n+1,e,h,hg=>by
  intro hs;have h2:=Az e;rw[DA];rcases FK hg.top.2 with⟨hk,hks⟩|⟨hk, -⟩|⟨hk,a,hks⟩|⟨hk,a,b,hks⟩
  ·rw[G7,hks,hk]at hs;cases hs
  ·rw[hk];rfl
  ·rw[hk];rfl
  have ia:=Fy n a (by have:=AT (show a∈e.kids by rw[hks];simp);omega) (hg.kid (by rw[hks];simp));have ib:=Fy n b (by have:=AT (show b∈e.kids by rw[hks];simp);omega) (hg.kid (by rw[hks];simp));rw[J7 hk hks]at hs;rw[hk,hks,Ep];cases hra:BJ a
  ·simp
  rw[hra,VN rfl]at hs;rw[ib hs];simp
theorem J1 {x y:Ex} (hx:Be x) (hy:Be y) (h:FU x y=true):BJ x=false∧BJ y=false:=by
 unfold FU at h;rw[Bool.and_eq_true,Bool.and_eq_true]at h;exact⟨Fy _ x (V6 _) hx h.1.1,Fy _ y (V6 _) hy h.1.2⟩
section
variable {ET:Int} {ds:List Du}
theorem Cn {a:Ex} {f:Int} (ha:Be a) (h:Gq a f=true):∃x y,pt1 a f=x∧pt2 a f=y∧vE ET ds a=Bx ET f (vE ET ds x) (vE ET ds y)∧Be x∧Be y:=by
 have h0:=h;unfold Gq at h;obtain⟨h3,hf⟩:=VH h;obtain⟨x,y,hk,hx,hy, -⟩:=ha.kids2 h3;refine⟨x,y,?_,?_,by rw[Dr h3 hk,hf],hx,hy⟩
 ·unfold pt1;rw[VN h0,hk];rfl
 unfold pt2;rw[VN h0,hk];rfl
theorem FY {x y o:Ex} (hx:Be x) (hy:Be y) (h:Mj x y o=true):o=y∧((vE ET ds y).2.1=true∨(vE ET ds x).2.1=false):=by
 unfold Mj at h;rw[Bool.and_eq_true,Bool.or_eq_true]at h;refine⟨(Kx _ _ h.1).symm,?_⟩;rw[hy.vrow,hx.vrow];rcases h.2 with h|h
 ·exact .inl h
 exact .inr (J1 hx hy h).1
theorem Hv {c o:Ex} (h:NG c o=true):o=c∧vE ET ds c=Ga:=by
 unfold NG at h;rw[Bool.and_eq_true,Bool.and_eq_true]at h;exact⟨(Kx _ _ h.2).symm,DV (VH h.1.1)⟩
theorem Q5 {e:Ex} {n:Int} (h:H7 e n=true):vE ET ds e=Ga:=by
 unfold H7 at h;exact DV (VH h).1
theorem Np {e x:Ex} (he:Be e) (hx:Be x) (h:I5 e x=true):(vE ET ds x).2.1=false∧(vE ET ds e).2.1=false:=by
 unfold I5 at h;rw[Bool.and_eq_true,Bool.or_eq_true,Bool.and_eq_true,Bool.and_eq_true]at h;obtain⟨p,q,e1,e2,e3,hp,hq⟩:=Cn (ET:=ET) (ds:=ds) he h.1;rw[e1,e2]at h;rw[e3,C1,hp.vrow,hq.vrow,hx.vrow];rcases h.2 with⟨-,h2⟩|⟨-,h2⟩
 ·have:=J1 hx hp h2;rw[this.1,this.2];exact⟨rfl,rfl⟩
 have:=J1 hx hq h2;rw[this.1,this.2];exact⟨rfl,Bool.and_false _⟩
theorem QR {x:Vw} (hx:Wv x) (h0:x.1.2=0):Bx ET 2 x Ga=x:=by
 have h1:Ej ET 2 x.2.1 true x.2.2 [] x.1.1 BO=(x.1.1,0):=by
  unfold Ej;rw[VM (by simp),VN rfl,OI,Sw hx h0 rfl]
 have h2:(Bx ET 2 x Ga).1=(x.1.1,0):=by
  unfold Bx Ga;dsimp only;rw[VM (by rw[h0];decide),VM (by decide)];exact h1
 refine EQ (by rw[h2]) (by rw[h2]) h0 (by rw[C1];exact Bool.and_true _) ?_;rw[Bl];split
 ·rename_i hr;rw[hx.2 hr];rfl
 rfl
theorem SH (hE:ET≠0) {m:Nat} {f:Int} {a b t:Ex} (ha:Be a) (hb:Be b) (h:(Bx ET f (vE ET ds a) (vE ET ds b)).1.2=0) (hr:Bj m f a b=some t):vE ET ds t=Bx ET f (vE ET ds a) (vE ET ds b):=by
 have wa:Wv (vE ET ds a):=ha.wv hE;have wb:Wv (vE ET ds b):=hb.wv hE;unfold Bj at hr;split at hr
 ·unfold EC at hr;split at hr
  ·rename_i hz
   split at hr
   ·cases hr;rw[Sf,DV hz.1,DV hz.2];rw[DV hz.1,DV hz.2]at h;exact(Cx hE J5 h).symm
   cases hr
  cases hr
 ·unfold Bn at hr;dsimp only at hr;generalize (if f=2∨f=3 then(1:Int)else 0)=n at hr;split at hr
  ·rename_i hi
   cases hr;rw[Q5 hi]at h ⊢;exact(Cx hE wa h).symm
  split at hr
  ·rename_i hi
   cases hr;rw[Q5 hi.2]at h ⊢;exact(II hE h (by rcases hi.1 with h|h<;>omega)).symm
  cases hr
 ·unfold Ay at hr;split at hr
  ·rename_i hi
   cases hr;obtain⟨x,y,e1,e2,e3,hx,hy⟩:=Cn (ET:=ET) (ds:=ds) ha hi.2.1;rw[e1,e2]at hi;obtain⟨rfl,hc⟩:=FY (ET:=ET) (ds:=ds) hx hy hi.2.2;rw[e3,hi.1]at h ⊢;rw[e1];exact(Sd hE (by decide) (by decide) (hx.wv hE) (hy.wv hE) hc h).symm
  split at hr
  ·rename_i hi
   cases hr;obtain⟨x,y,e1,e2,e3,hx,hy⟩:=Cn (ET:=ET) (ds:=ds) ha hi.2.1;rw[e1,e2]at hi;obtain⟨rfl,hc⟩:=FY (ET:=ET) (ds:=ds) hy hx hi.2.2;rw[e3,hi.1]at h ⊢;rw[e2];exact(Tm hE (by decide) (by decide) (hy.wv hE) (hx.wv hE) hc h).symm
  split at hr
  ·rename_i hi
   cases hr;obtain⟨x,y,e1,e2,e3,hx,hy⟩:=Cn (ET:=ET) (ds:=ds) hb hi.2.1;rw[e1,e2]at hi;obtain⟨rfl,hc⟩:=FY (ET:=ET) (ds:=ds) hy hx hi.2.2;rw[e3,hi.1]at h ⊢;rw[e2];exact(Ss hE (by decide) (by decide) (hy.wv hE) (hx.wv hE) hc h).symm
  split at hr
  ·rename_i hi
   cases hr;obtain⟨x,y,e1,e2,e3,hx,hy⟩:=Cn (ET:=ET) (ds:=ds) ha hi.2.1;rw[e1,e2]at hi;obtain⟨rfl,hc⟩:=FY (ET:=ET) (ds:=ds) hx hy hi.2.2;rw[e3,hi.1]at h ⊢;rw[e1];exact(Sd hE (by decide) (by decide) (hx.wv hE) (hy.wv hE) hc h).symm
  split at hr
  ·rename_i hi
   cases hr;obtain⟨x,y,e1,e2,e3,hx,hy⟩:=Cn (ET:=ET) (ds:=ds) hb hi.2.1;rw[e1,e2]at hi;obtain⟨rfl,hc⟩:=FY (ET:=ET) (ds:=ds) hx hy hi.2.2;rw[e3,hi.1]at h ⊢;rw[e1];exact(TD hE (by decide) (by decide) (hx.wv hE) (hy.wv hE) hc h).symm
  cases hr
 ·unfold Ah at hr;split at hr
  ·rename_i hi
   cases hr;obtain⟨x,y,e1,e2,e3,hx,hy⟩:=Cn (ET:=ET) (ds:=ds) ha hi.2.1;simp only[e1,e2]at hi;obtain⟨rfl,hc⟩:=Hv (ET:=ET) (ds:=ds) hi.2.2;rw[e3,hc]at h ⊢;rw[e1,Cx hE (Ki hE (hx.wv hE) J5) h,Cx hE (hx.wv hE) (Ct hE h).1]
  split at hr
  ·rename_i hi
   cases hr;obtain⟨x,y,e1,e2,e3,hx,hy⟩:=Cn (ET:=ET) (ds:=ds) ha hi.2.1;simp only[e1,e2]at hi;obtain⟨rfl,hc⟩:=Hv (ET:=ET) (ds:=ds) hi.2.2;rw[e3,hc]at h ⊢;rw[e2,Cx hE (Ki hE J5 (hy.wv hE)) h,II hE (Ct hE h).1 (by decide)]
  split at hr
  ·rename_i hi
   cases hr;obtain⟨x,y,e1,e2,e3,hx,hy⟩:=Cn (ET:=ET) (ds:=ds) ha hi.2.1;simp only[e1,e2]at hi;obtain⟨rfl,hc⟩:=Hv (ET:=ET) (ds:=ds) hi.2.2;rw[e3,hc]at h ⊢;rw[e1,Cx hE (Ki hE (hx.wv hE) J5) h,Cx hE (hx.wv hE) (Ct hE h).1]
  split at hr
  ·rename_i hi
   cases hr;obtain⟨x,y,e1,e2,e3,hx,hy⟩:=Cn (ET:=ET) (ds:=ds) hb hi.2.1;simp only[e1,e2]at hi;obtain⟨rfl,hc⟩:=Hv (ET:=ET) (ds:=ds) hi.2.2;rw[e3,hc]at h ⊢;rw[e1,II hE h (by omega),Cx hE (hx.wv hE) (Ct hE h).2.1]
  cases hr
 ·unfold Cq at hr;split at hr
  ·rename_i hi
   cases hr;have hab:a=b:=Kx _ _ hi.2.1;subst hab;rw[Tn,Sf];have hra:(vE ET ds a).2.1=false:=by rw[ha.vrow];exact hi.2.2
   have f1:=hi.1;subst f1;obtain⟨k1,k2,k3,k4,k5, -⟩:=Ct hE h;rw[VM (by decide),VM (by decide)]at k4;rw[QR wa k1];exact(EQ k4 h k1 (by rw[C1,hra];rfl) (by rw[Bl,hra];rfl)).symm
  cases hr
 unfold CA at hr;split at hr
 ·rename_i hi
  cases hr;obtain⟨h1,h2⟩:=Np (ET:=ET) (ds:=ds) hb ha hi.2;obtain⟨k1,k2,k3,k4,k5, -⟩:=Ct hE h;have f23:f≠2∧f≠3:=by rcases hi.1 with h|h<;>omega
  rw[VM f23.1,VM f23.2]at k4;exact(EQ k4 h k1 (by rw[C1,h1,h2];rfl) (by rw[Bl,h1];rfl)).symm
 split at hr
 ·rename_i hi
  cases hr;obtain⟨h1,h2⟩:=Np (ET:=ET) (ds:=ds) ha hb hi.2;obtain⟨k1,k2,k3,k4,k5, -⟩:=Ct hE h;have f23:f≠2∧f≠3:=by omega
  rw[VM f23.1,VM f23.2]at k4;exact(EQ (k4.trans (k5 f23.1 f23.2)) h k2 (by rw[C1,h1,h2];rfl) (by rw[Bl,h2];exact k3 h2 h1)).symm
 cases hr
theorem Ir (hE:ET≠0):∀(n:Nat) (e:Ex),AH e≤n→Be e→(vE ET ds e).1.2=0→vE ET ds (AW e)=vE ET ds e
 |0,e,h,_=>absurd (Aj e) (by omega)
 |n+1,e,h,hg=>by
  intro ht;have h2:=Az e;have hwk:∀ks:List Ex,vE ET ds (e.withKids ks)=Ig ET ds e (ks.map (vE ET ds)):=fun ks=>by rw[Fa,SK,Bp]
  rw[Ff];rcases FK hg.top.2 with⟨hk,hks⟩|⟨hk,hks⟩|⟨hk,a,hks⟩|⟨hk,a,b,hks⟩
  ·have:EM (e.withKids (e.kids.map AW))=e.withKids (e.kids.map AW):=by unfold EM;rw[Bp,hks];rfl
   rw[this,hwk,Fa e,hks];rfl
  ·have:EM (e.withKids (e.kids.map AW))=e.withKids (e.kids.map AW):=by unfold EM;rw[Bp,hks];rfl
   rw[this,hwk,Fa e,hks];rfl
  ·have:EM (e.withKids (e.kids.map AW))=e.withKids (e.kids.map AW):=by unfold EM;rw[Bp,hks];rfl
   have ga:Be a:=hg.kid (by rw[hks];simp);have ta:(vE ET ds a).1.2=0:=by
    rw[F5 hk hks]at ht;unfold Oq at ht;dsimp only at ht;split at ht
    ·rename_i h1;exact absurd ht h1
    ·rename_i h1;exact Decidable.not_not.1 h1
   have ih:=Ir hE n a (by have:=AT (show a∈e.kids by rw[hks];simp);omega) ga ta;rw[this,hwk,Fa e,hks];show Ig ET ds e [vE ET ds (AW a)]=Ig ET ds e [vE ET ds a];rw[ih]
  have ga:Be a:=hg.kid (by rw[hks];simp);have gb:Be b:=hg.kid (by rw[hks];simp);have na:AH a≤n:=by have:=AT (show a∈e.kids by rw[hks];simp);omega
  have nb:AH b≤n:=by have:=AT (show b∈e.kids by rw[hks];simp);omega
  rw[Dr hk hks]at ht ⊢;obtain⟨ta,tb, -⟩:=Ct hE ht;have ia:=Ir hE n a na ga ta;have ib:=Ir hE n b nb gb tb;have sa:=(Fv (AH a) a (V6 _) ga).1;have sb:=(Fv (AH b) b (V6 _) gb).1;have he:vE ET ds (e.withKids [AW a,AW b])=Bx ET e.fn (vE ET ds a) (vE ET ds b):=by
   rw[hwk];show Ig ET ds e [vE ET ds (AW a),vE ET ds (AW b)]=_;rw[ia,ib,←Dr hk hks,Fa e,hks];rfl
  have hn:EM (e.withKids (e.kids.map AW))=(Cs e.fn (AW a) (AW b)).getD (e.withKids [AW a,AW b]):=by
   unfold EM;rw[Bp,hks];show(if(e.withKids [AW a,AW b]).kind=3 then _ else _)=_;rw[VN (by rw[Cc];exact hk)];congr 1;cases e;rfl
  rw[hn];cases hru:Cs e.fn (AW a) (AW b)with
  |none=>exact he
  |some t=>
   obtain⟨m, -,hm⟩:=I1 hru;show vE ET ds t=_;have:=SH (ET:=ET) (ds:=ds) hE sa sb (by rw[ia,ib];exact ht) hm;rw[ia,ib]at this;exact this
end
end Go.Proofs.YthpflelgbadkcaaGreatDoor
namespace Go.Proofs.YthpflelgbadkcaaGreatDoor
open Go.RowKit Go.Shelf Pl
theorem CL:∀(k:Nat) (e:Ex),AH e≤k→BW He e→∀(w:World) (cs:List Value),BU w w.heap.size e cs→
  Calls Tryz.prog 49 #[.agg cs.toArray] w fun e' w'=>e'= .returned (.bool (BJ e))∧A4 w w'
 |0,e,h,_,_,_,_=>absurd (Aj e) (by omega)
 |k+1,e,hk,h2,w,cs,hr=>by
  obtain⟨vm,vb,vk,rfl, -, -,hT⟩:=hr.open_;have hne:=Az e;by_cases h0:e.kind=0
  ·have hF:BJ e=true:=by rw[DA];simp[h0]
   have t0:(e.kind==0)=true:=by rw[VC];exact h0
   have hb:=VW w 29 (AC e vm vb vk).toArray;have hg:=(VU w).alloc (.cells (AC e vm vb vk).toArray 29);rw[hF];clear hr hT hk h2 hne h0 hF;go_enter Tryz.func49,Tryz.ntmps49;go_upto_region 1 with fail;change Code.wp _ _ _ _ (w.alloc (.cells (AC e vm vb vk).toArray 29));generalize w.alloc (.cells (AC e vm vb vk).toArray 29)=w1 at*;have c0:w1.cell? ⟨w.heap.size,0,none⟩=some (.int .i64 e.kind):=hb.cell 0;have HG:=V3 hg;clear hb hg;go_wp2_with fail;go_ret;exact⟨rfl,HG.out⟩
  have t0:(e.kind==0)=false:=by rw[V4];exact h0
  by_cases h3:e.kind=3
  ·obtain⟨ea,eb,hks⟩:=h2.top h3;have hna:=AT (show ea∈e.kids by rw[hks];simp);have hnb:=AT (show eb∈e.kids by rw[hks];simp);have hF:BJ e=(BJ ea&&BJ eb):=by rw[DA,hks,Ep];simp[h3]
   have t3:(e.kind==3)=true:=by rw[VC];exact h3
   obtain⟨b,o,c,ca,cb,rfl,hbb,hra,hrb,hea,heb⟩:=Fm hT hks;have HA:=V3 (fun w' (g:A4 w w')=>CL k ea (by omega) (h2.kid (by rw[hks];simp)) w' ca (hea.grew g));have HB:=V3 (fun w' (g:A4 w w')=>CL k eb (by omega) (h2.kid (by rw[hks];simp)) w' cb (heb.grew g));have HL:=V3 (V5 (BC hea) (BC heb));have HRa:=V3 (show ∀w',A4 w w'→w'.rangeAt b o ca∧w'.rangeAt b (o+11) cb from fun w' g=>⟨AU hra hbb g (fun h=>h),AU hrb hbb g (fun h=>h)⟩);have hb:=VW w 29 (AC e vm vb (.slice (some ⟨b,o,none⟩) 2 c)).toArray;have hg:=(VU w).alloc (.cells (AC e vm vb (.slice (some ⟨b,o,none⟩) 2 c)).toArray 29);obtain⟨x,hx⟩:∃x,BJ ea=x:=⟨_,rfl⟩;obtain⟨y,hy⟩:∃y,BJ eb=y:=⟨_,rfl⟩;rw[hx]at HA hF;rw[hy]at HB hF;rw[hF];clear hr hT hk h2 hne h0 h3 hF hna hnb hra hrb hea heb hks hx hy;go_enter Tryz.func49,Tryz.ntmps49;go_upto_region 1 with fail;change Code.wp _ _ _ _ (w.alloc (.cells (AC e vm vb (.slice (some ⟨b,o,none⟩) 2 c)).toArray 29));generalize w.alloc (.cells (AC e vm vb (.slice (some ⟨b,o,none⟩) 2 c)).toArray 29)=w1 at*;have c0:w1.cell? ⟨w.heap.size,0,none⟩=some (.int .i64 e.kind):=hb.cell 0;have HG:=V3 hg;have HBx:=V3 hb;clear hb hg;go_upto_region 5 with fail;rcases x with _|_
   ·refine CY [.pointer (some ⟨w.heap.size,10,none⟩),.slice (some ⟨b,o,none⟩) 2 c,.pointer (some ⟨b,o,none⟩),.agg ca.toArray,.bool false,.bool false,undef,undef,undef,undef,undef,.bool false,.bool false] _ (by kernel_rfl) (by kernel_rfl) rfl ?sH ?sT
    case sH=>
     simp only[List.toList_toArray,List.append_eq,List.cons_append,List.nil_append,Af,Act.put,List.setIfInBounds_toArray,List.set_cons_zero,List.set_cons_succ];refine AD (by kernel_rfl) (fun w' hg=>?_) ?_
     ·go_simp;exact VU _
     refine AD (by kernel_rfl) (fun w' hg=>?_) ?_
     ·have hc:w'.cell? ⟨w.heap.size,10,none⟩=some (.slice (some ⟨b,o,none⟩) 2 c):=(HBx.out.grew hg).cell 10;exact IL 27 (.tmp 9) (fun w v h=>by simp[go_sem,h]) rfl (by kernel_rfl) hc ⟨by kernel_rfl,VU _⟩
     refine AD (by kernel_rfl) (fun w' hg=>?_) ?_
     ·go_simp;exact VU _
     refine AD (by kernel_rfl) (fun w' hg=>?_) ?_
     ·refine wp_load_mid 29 (.tmp 11) rfl b (o) rfl ca _ (HRa.out w' (HG.out.trans hg)).1 Tryz.underlying29 rfl (by rw[HL.out.1];exact AE) ?_;exact⟨rfl,VU _⟩
     refine AD (by kernel_rfl) (fun w' hg=>?_) ?_
     ·go_simp;(with_reducible refine(HA.out _ (HG.out.trans hg)).mono ?_);rintro e wq ⟨rfl,kq⟩;exact⟨rfl,kq⟩
     refine AD (by kernel_rfl) (fun w' hg=>?_) ?_
     ·go_simp;exact VU _
     refine BS (by kernel_rfl) (by kernel_rfl) ?_;refine BS (by kernel_rfl) (by kernel_rfl) ?_;refine BS (by kernel_rfl) (by kernel_rfl) ?_;refine BS (by kernel_rfl) (by kernel_rfl) ?_;refine BS (by kernel_rfl) (by kernel_rfl) ?_;refine AD (by kernel_rfl) (fun w' hg=>?_) ?_
     ·go_simp;exact VU _
     refine AD (by kernel_rfl) (fun w' hg=>?_) ?_
     ·go_simp;exact VU _
     exact AK
    case sT=>
     intro w9 hg9;simp only[List.toList_toArray,List.append_eq,List.cons_append,List.nil_append,Af,Act.put,List.setIfInBounds_toArray,List.set_cons_zero,List.set_cons_succ];go_wp2_with fail;go_ret;exact⟨rfl,HG.out.trans hg9⟩
   refine CY [.pointer (some ⟨w.heap.size,10,none⟩),.slice (some ⟨b,o,none⟩) 2 c,.pointer (some ⟨b,o,none⟩),.agg ca.toArray,.bool true,.bool true,.pointer (some ⟨w.heap.size,10,none⟩),.slice (some ⟨b,o,none⟩) 2 c,.pointer (some ⟨b,o+11,none⟩),.agg cb.toArray,.bool y,.bool y,.bool y] _ (by kernel_rfl) (by kernel_rfl) rfl ?sH ?sT
   case sH=>
    simp only[List.toList_toArray,List.append_eq,List.cons_append,List.nil_append,Af,Act.put,List.setIfInBounds_toArray,List.set_cons_zero,List.set_cons_succ];refine AD (by kernel_rfl) (fun w' hg=>?_) ?_
    ·go_simp;exact VU _
    refine AD (by kernel_rfl) (fun w' hg=>?_) ?_
    ·have hc:w'.cell? ⟨w.heap.size,10,none⟩=some (.slice (some ⟨b,o,none⟩) 2 c):=(HBx.out.grew hg).cell 10;exact IL 27 (.tmp 9) (fun w v h=>by simp[go_sem,h]) rfl (by kernel_rfl) hc ⟨by kernel_rfl,VU _⟩
    refine AD (by kernel_rfl) (fun w' hg=>?_) ?_
    ·go_simp;exact VU _
    refine AD (by kernel_rfl) (fun w' hg=>?_) ?_
    ·refine wp_load_mid 29 (.tmp 11) rfl b (o) rfl ca _ (HRa.out w' (HG.out.trans hg)).1 Tryz.underlying29 rfl (by rw[HL.out.1];exact AE) ?_;exact⟨rfl,VU _⟩
    refine AD (by kernel_rfl) (fun w' hg=>?_) ?_
    ·go_simp;(with_reducible refine(HA.out _ (HG.out.trans hg)).mono ?_);rintro e wq ⟨rfl,kq⟩;exact⟨rfl,kq⟩
    refine AD (by kernel_rfl) (fun w' hg=>?_) ?_
    ·go_simp;exact VU _
    refine AD (by kernel_rfl) (fun w' hg=>?_) ?_
    ·go_simp;exact VU _
    refine AD (by kernel_rfl) (fun w' hg=>?_) ?_
    ·have hc:w'.cell? ⟨w.heap.size,10,none⟩=some (.slice (some ⟨b,o,none⟩) 2 c):=(HBx.out.grew hg).cell 10;exact IL 27 (.tmp 15) (fun w v h=>by simp[go_sem,h]) rfl (by kernel_rfl) hc ⟨by kernel_rfl,VU _⟩
    refine AD (by kernel_rfl) (fun w' hg=>?_) ?_
    ·go_simp;exact VU _
    refine AD (by kernel_rfl) (fun w' hg=>?_) ?_
    ·refine wp_load_mid 29 (.tmp 17) rfl b (o+11) rfl cb _ (HRa.out w' (HG.out.trans hg)).2 Tryz.underlying29 rfl (by rw[HL.out.2];exact AE) ?_;exact⟨rfl,VU _⟩
    refine AD (by kernel_rfl) (fun w' hg=>?_) ?_
    ·go_simp;(with_reducible refine(HB.out _ (HG.out.trans hg)).mono ?_);rintro e wq ⟨rfl,kq⟩;exact⟨rfl,kq⟩
    refine AD (by kernel_rfl) (fun w' hg=>?_) ?_
    ·go_simp;exact VU _
    refine AD (by kernel_rfl) (fun w' hg=>?_) ?_
    ·go_simp;exact VU _
    exact AK
   case sT=>
    intro w9 hg9;simp only[List.toList_toArray,List.append_eq,List.cons_append,List.nil_append,Af,Act.put,List.setIfInBounds_toArray,List.set_cons_zero,List.set_cons_succ];go_wp2_with fail;go_ret;exact⟨rfl,HG.out.trans hg9⟩
  have hF:BJ e=false:=by rw[DA];simp[h0,h3]
  have t3:(e.kind==3)=false:=by rw[V4];exact h3
  have hb:=VW w 29 (AC e vm vb vk).toArray;have hg:=(VU w).alloc (.cells (AC e vm vb vk).toArray 29);rw[hF];clear hr hT hk h2 hne h0 h3 hF;go_enter Tryz.func49,Tryz.ntmps49;go_upto_region 1 with fail;change Code.wp _ _ _ _ (w.alloc (.cells (AC e vm vb vk).toArray 29));generalize w.alloc (.cells (AC e vm vb vk).toArray 29)=w1 at*;have c0:w1.cell? ⟨w.heap.size,0,none⟩=some (.int .i64 e.kind):=hb.cell 0;have HG:=V3 hg;clear hb hg;go_wp2_with fail;go_ret;exact⟨rfl,HG.out⟩
def Aa (u:Un):List Value:=[.int .i64 u.1,.int .i64 u.2.1,.int .i64 u.2.2]
theorem Ag:(Tryz.prog.info? 51).map (·.size)=some 3:=by kernel_rfl
theorem KH:Lf 51 3:=⟨Ag,_,Tryz.underlying51,rfl⟩
theorem B4 (u:Un):∀v∈Aa u,v.oneCell'=true:=by
 intro v hv;simp only[Aa,List.mem_cons,List.not_mem_nil,or_false]at hv;rcases hv with rfl|rfl|rfl<;>rfl
theorem Ho (p q r:Int) (W:World) (o:Oper) (a:Act) (x y:Operand) (ho:o.op= .index 51 x y) (hx:a.eval x= .agg #[.int .i64 p,.int .i64 q,.int .i64 r]):
  (a.eval y= .int .i64 0→(execOp a.eval o).run Tryz.prog W= .ok (.value (.int .i64 p)) W)∧(a.eval y= .int .i64 1→(execOp a.eval o).run Tryz.prog W= .ok (.value (.int .i64 q)) W)∧(a.eval y= .int .i64 2→(execOp a.eval o).run Tryz.prog W= .ok (.value (.int .i64 r)) W):=by
 refine⟨fun hy=>?_,fun hy=>?_,fun hy=>?_⟩<;>unfold execOp<;>simp only[ho,hx,hy]<;>kernel_rfl
theorem Ez {P:Program} {ops:Array Oper} {rest:List Oper} {o:Oper} {a:Act} {w:World} {Q:Exit→Act→World→Prop} {v:Value} (hgd:o.guard=none) (hr:(execOp a.eval o).run P w= .ok (.value v) w) (h:wpList P ops Q rest (a.put o.dst v) w):wpList P ops Q (o::rest) a w:=by
 refine wpList_plain hgd fun K hK=>?_
 unfold Oper.wp;rw[hr];exact hK _ _ h
theorem DE {P:Program} {ops:Array Oper} {rest:List Oper} {o:Oper} {a:Act} {w:World} {Q:Exit→Act→World→Prop} (T:TypeId) (x y:Operand) (_:o.op= .index T x y) (h:wpList P ops Q (o::rest) a w):wpList P ops Q (o::rest) a w:=h
theorem JY (u:Un) (w:World):Calls Tryz.prog 109 #[.agg (Aa u).toArray] w fun e w'=>e= .returned (.bool (Cl u))∧A4 w w':=by
 obtain⟨a,b,c⟩:=u;have hb:=VW w 51 (Aa (a,b,c)).toArray;have hg:=(VU w).alloc (.cells (Aa (a,b,c)).toArray 51);go_enter Tryz.func109,Tryz.ntmps109;go_upto_region 1 with fail;change Code.wp _ _ _ _ (w.alloc (.cells (Aa (a,b,c)).toArray 51));generalize w.alloc (.cells (Aa (a,b,c)).toArray 51)=w1 at*;have HG1:=V3 hg;clear hg;go_wp2_with(first|(refine lN (.tmp 1) hb KH ?_)|fail);clear hb;simp only[Aa];go_loopw [6] (fun i wr=>∃(j:Nat),j≤3∧i= .int .i64 (j:Nat)∧(0<j→ -3≤a∧a≤3)∧(1<j→ -3≤b∧b≤3)∧(2<j→ -3≤c∧c≤3)∧A4 w wr) (fun i _=>3-(intOf i).toNat)
 case atStart=>exact⟨0,by omega,rfl,fun h=>absurd h (by omega),fun h=>absurd h (by omega),fun h=>absurd h (by omega),HG1.out⟩
 case round=>
  obtain⟨j,hj,rfl,hv0,hv1,hv2,hG⟩:=hrel;have HG:=V3 hG;clear hG HG1;by_cases hlt:j<3
  ·have hc:j=0∨j=1∨j=2:=by omega
   rcases hc with hj0|hj1|hj2
   ·subst hj0;by_cases hok: -3≤a∧a≤3
    ·have t1:decide (a< -3)=false:=by rw[decide_eq_false_iff_not];omega
     have t2:decide (3<a)=false:=by rw[decide_eq_false_iff_not];omega
     have t3:¬(a< -3):=by omega
     have t4:¬(3<a):=by omega
     go_wp2_with((with_reducible refine DE 51 (.tmp 5) (.tmp 6) rfl ?_);refine Ez rfl ((Ho a b c _ _ _ (.tmp 5) (.tmp 6) rfl rfl).1 rfl) ?_);go_roundw
     case rel=>exact⟨1,by omega,by go_num,fun _=>hok,fun h=>absurd h (by omega),fun h=>absurd h (by omega),HG.out⟩
     case measure=>simp[intOf]
    have hF:=V3 (show Cl (a,b,c)=false by unfold Cl;dsimp only;simp only[Bool.and_eq_false_iff,decide_eq_false_iff_not];omega);by_cases hlo:a< -3
    ·have t1:decide (a< -3)=true:=by rw[decide_eq_true_iff];exact hlo
     go_wp2_with((with_reducible refine DE 51 (.tmp 5) (.tmp 6) rfl ?_);refine Ez rfl ((Ho a b c _ _ _ (.tmp 5) (.tmp 6) rfl rfl).1 rfl) ?_);go_ret;exact⟨by rw[hF.out];rfl,HG.out⟩
    have hhi:3<a:=by omega
    have t1:decide (a< -3)=false:=by rw[decide_eq_false_iff_not];omega
    have t2:decide (3<a)=true:=by rw[decide_eq_true_iff];exact hhi
    go_wp2_with((with_reducible refine DE 51 (.tmp 5) (.tmp 6) rfl ?_);refine Ez rfl ((Ho a b c _ _ _ (.tmp 5) (.tmp 6) rfl rfl).1 rfl) ?_);go_ret;exact⟨by rw[hF.out];rfl,HG.out⟩
   ·subst hj1;by_cases hok: -3≤b∧b≤3
    ·have t1:decide (b< -3)=false:=by rw[decide_eq_false_iff_not];omega
     have t2:decide (3<b)=false:=by rw[decide_eq_false_iff_not];omega
     have t3:¬(b< -3):=by omega
     have t4:¬(3<b):=by omega
     go_wp2_with((with_reducible refine DE 51 (.tmp 5) (.tmp 6) rfl ?_);refine Ez rfl ((Ho a b c _ _ _ (.tmp 5) (.tmp 6) rfl rfl).2.1 rfl) ?_);go_roundw
     case rel=>exact⟨2,by omega,by go_num,fun _=>hv0 (by omega),fun _=>hok,fun h=>absurd h (by omega),HG.out⟩
     case measure=>simp[intOf]
    have hF:=V3 (show Cl (a,b,c)=false by unfold Cl;dsimp only;simp only[Bool.and_eq_false_iff,decide_eq_false_iff_not];omega);by_cases hlo:b< -3
    ·have t1:decide (b< -3)=true:=by rw[decide_eq_true_iff];exact hlo
     go_wp2_with((with_reducible refine DE 51 (.tmp 5) (.tmp 6) rfl ?_);refine Ez rfl ((Ho a b c _ _ _ (.tmp 5) (.tmp 6) rfl rfl).2.1 rfl) ?_);go_ret;exact⟨by rw[hF.out];rfl,HG.out⟩
    have hhi:3<b:=by omega
    have t1:decide (b< -3)=false:=by rw[decide_eq_false_iff_not];omega
    have t2:decide (3<b)=true:=by rw[decide_eq_true_iff];exact hhi
    go_wp2_with((with_reducible refine DE 51 (.tmp 5) (.tmp 6) rfl ?_);refine Ez rfl ((Ho a b c _ _ _ (.tmp 5) (.tmp 6) rfl rfl).2.1 rfl) ?_);go_ret;exact⟨by rw[hF.out];rfl,HG.out⟩
   subst hj2;by_cases hok: -3≤c∧c≤3
   ·have t1:decide (c< -3)=false:=by rw[decide_eq_false_iff_not];omega
    have t2:decide (3<c)=false:=by rw[decide_eq_false_iff_not];omega
    have t3:¬(c< -3):=by omega
    have t4:¬(3<c):=by omega
    go_wp2_with((with_reducible refine DE 51 (.tmp 5) (.tmp 6) rfl ?_);refine Ez rfl ((Ho a b c _ _ _ (.tmp 5) (.tmp 6) rfl rfl).2.2 rfl) ?_);go_roundw
    case rel=>exact⟨3,by omega,by go_num,fun _=>hv0 (by omega),fun _=>hv1 (by omega),fun _=>hok,HG.out⟩
    case measure=>simp[intOf]
   have hF:=V3 (show Cl (a,b,c)=false by unfold Cl;dsimp only;simp only[Bool.and_eq_false_iff,decide_eq_false_iff_not];omega);by_cases hlo:c< -3
   ·have t1:decide (c< -3)=true:=by rw[decide_eq_true_iff];exact hlo
    go_wp2_with((with_reducible refine DE 51 (.tmp 5) (.tmp 6) rfl ?_);refine Ez rfl ((Ho a b c _ _ _ (.tmp 5) (.tmp 6) rfl rfl).2.2 rfl) ?_);go_ret;exact⟨by rw[hF.out];rfl,HG.out⟩
   have hhi:3<c:=by omega
   have t1:decide (c< -3)=false:=by rw[decide_eq_false_iff_not];omega
   have t2:decide (3<c)=true:=by rw[decide_eq_true_iff];exact hhi
   go_wp2_with((with_reducible refine DE 51 (.tmp 5) (.tmp 6) rfl ?_);refine Ez rfl ((Ho a b c _ _ _ (.tmp 5) (.tmp 6) rfl rfl).2.2 rfl) ?_);go_ret;exact⟨by rw[hF.out];rfl,HG.out⟩
  obtain rfl:j=3:=by omega
  have hF:=V3 (show Cl (a,b,c)=true by unfold Cl;dsimp only;simp only[Bool.and_eq_true,decide_eq_true_eq];exact⟨hv0 (by omega),hv1 (by omega),hv2 (by omega)⟩);clear hv0 hv1 hv2;go_wp2_with fail;go_ret;exact⟨by rw[hF.out];rfl,HG.out⟩
end Go.Proofs.YthpflelgbadkcaaGreatDoor
