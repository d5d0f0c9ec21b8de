/- What the card of the law stands on: CPlain, Row4, CPl2, Encb, Box4, Encode, RowC, DPl, REncb, Claims, Pick, ShL, RFoldN, Rewr, Wire, Wire2, RowG, Valid, HPl, Mix, Grp, Gst, HSum, HBytes, BEnc, RdPl, WRd, WRd2, WRd3, WText. -/
import Derived.Test.YtkclnhpofkaclaaGreatDoorRewriteFoldP01
import Derived.Test.YtkclnhpofkaclaaGreatDoorRewriteFoldP14
import Derived.Deep.MidRow
import Derived.StillTailTactics
import Derived.Test.YtkclnhpofkaclaaGreatDoorRewriteFoldP13
import Derived.Deep.DeepCutAuto
import Derived.Deep.QuietTactic
import Derived.BigQuiet
import Derived.Test.YtkclnhpofkaclaaGreatDoorProg
import Derived.Test.YtkclnhpofkaclaaGreatDoorRewriteFoldP11
import Derived.Laws.MakeOwn
import Derived.Lib.AppendStr
import Derived.Laws.IdiomStrings
import Derived.Laws.BytesArg
set_option maxRecDepth 100000
set_option maxHeartbeats 12800000
set_option linter.unusedVariables false
set_option linter.unusedSimpArgs false
namespace Go.Proofs.YtkclnhpofkaclaaGreatDoor.Pl
open Go.RowKit
abbrev Clm:=Int×Int×Int×Int
def zc:Clm:=(0,0,0,0)
def SN (x:Int):Prop:= -1099511627776≤x∧x≤1099511627776
instance (x:Int):Decidable (SN x):=by unfold SN;infer_instance
def TA (c:Clm):Prop:=SN c.1∧SN c.2.1∧SN c.2.2.1∧SN c.2.2.2
instance (c:Clm):Decidable (TA c):=by unfold TA;infer_instance
def n0 (b a c:Clm):Int:=wrap64 (c.1-2*a.1+b.1)
def n1 (a c:Clm):Int:=wrap64 ((c.2.1-c.1)-(a.2.1-a.1))
def n2 (a c:Clm):Int:=wrap64 (c.2.2.1-a.2.2.1)
def n3 (a c:Clm):Int:=wrap64 ((c.2.2.2-c.2.2.1)-(a.2.2.2-a.2.2.1))
def c4 (b a c:Clm):List Int:=[n0 b a c,n1 a c,n2 a c,n3 a c]
def RK:Clm→Clm→List Clm→List Int
 |_,_,[]=>[]
 |b,a,c::l=>c4 b a c++RK a c l
def Ox (l:List Clm):List Bool:=Nu l.length++Pc (RK zc zc l)
def Mq (l:List Clm):Int:=if 4096<l.length then 4 else if ∀c∈l,TA c then 0 else 5
def Su (l:List Clm):List Nat:=if Mq l=0 then R5 (Ox l)else[]
def Li (b a:Clm) (d:Clm):Clm:=
 (wrap64 (d.1+2*a.1-b.1),
  wrap64 (wrap64 (d.1+2*a.1-b.1)+d.2.1+(a.2.1-a.1)),
  wrap64 (d.2.2.1+a.2.2.1),
  wrap64 (wrap64 (d.2.2.1+a.2.2.1)+d.2.2.2+(a.2.2.2-a.2.2.1)))
def Pv (s:List Bool):Option (Clm×List Bool):=
 match parse s with
 |none=>none
 |some (d0,s0)=>
  match parse s0 with
  |none=>none
  |some (d1,s1)=>
   match parse s1 with
   |none=>none
   |some (d2,s2)=>
    match parse s2 with
    |none=>none
    |some (d3,s3)=>some ((d0,d1,d2,d3),s3)
def l4 (d:Clm):List Int:=[d.1,d.2.1,d.2.2.1,d.2.2.2]
def K5:Nat→Clm→Clm→List Bool→Option (List Clm×List Bool)
 |0,_,_,s=>some ([],s)
 |k+1,b,a,s=>
  match Pv s with
  |none=>none
  |some (d,t)=>(K5 k a (Li b a d) t).map fun p=>(Li b a d::p.1,p.2)
def Kd:Nat→Clm→Clm→List Bool→Option (List Clm×List Bool)
 |0,_,_,s=>some ([],s)
 |k+1,b,a,s=>
  match Pv s with
  |none=>none
  |some (d,t)=>if TA (Li b a d)then(Kd k a (Li b a d) t).map fun p=>(Li b a d::p.1,p.2)else none
def TQ (N:Nat) (t:List Bool):Option (List Clm):=
 match Kd N zc zc t with
 |none=>none
 |some (l,r)=>if I7 r then some l else none
def TK (bs:List Nat):Option (List Clm):=
 match parse (Il bs)with
 |none=>none
 |some (n,t)=>if n<0∨4096<n then none else TQ n.toNat t
def Si (bs:List Nat) (N:Nat) (t:List Bool):Option (List Clm):=
 match K5 N zc zc t with
 |none=>none
 |some (l,_)=>if Mq l=0∧Su l=bs then some l else none
def OX (bs:List Nat):Option (List Clm):=
 match parse (Il bs)with
 |none=>none
 |some (n,t)=>if n<0∨4096<n then none else Si bs n.toNat t
end Go.Proofs.YtkclnhpofkaclaaGreatDoor.Pl
namespace Go.Proofs.YtkclnhpofkaclaaGreatDoor
open Go.RowKit Pl
def QD (c:Clm):List Value:=[.int .i64 c.1,.int .i64 c.2.1,.int .i64 c.2.2.1,.int .i64 c.2.2.2]
def vc (c:Clm):Value:= .agg (QD c).toArray
def flat (cs:List Clm):List Value:=cs.flatMap QD
def Tw (w:World) (B:Nat) (v:Value) (cs:List Clm):Prop:=
 ∃A c,v= .slice A cs.length c∧cs.length≤c∧(0<cs.length→∃b o,A=some ⟨b,o,none⟩∧b<B∧∀j u,(flat cs)[j]? =some u→w.cell? ⟨b,o+j,none⟩=some u)
section
variable {w w':World} {B B':Nat} {v:Value} {cs:List Clm} {S:Nat→Prop}
end
def q1 (cs:List Clm) (j:Nat):Clm:=(zc::cs).getD j zc
def q2 (cs:List Clm) (j:Nat):Clm:=(zc::zc::cs).getD j zc
theorem TZ (a c:Clm):wrap64 (c.2.2.1-a.2.2.1)=n2 a c:=rfl
def Tz (w:World) (g:Nat) (c:Clm):World:=
 (((w.setCell ⟨g,0,none⟩ (.int .i64 c.1)).setCell ⟨g,1,none⟩ (.int .i64 c.2.1)).setCell ⟨g,2,none⟩ (.int .i64 c.2.2.1)).setCell ⟨g,3,none⟩ (.int .i64 c.2.2.2)
section
variable {ops:Array Oper} {rest:List Oper} {o:Oper} {a:Act} {w:World} {Q:Exit→Act→World→Prop}
end
def T5 (cs:List Clm) (w:World) (e:Ending) (w':World):Prop:=
 A5 w w'∧((Mq cs=0∧∃v,e= .returned (.tuple #[v,.int .i64 0])∧Bf w' w.heap.size 5 v ((R5 (Ox cs)).map vb))∨
  (Mq cs≠0∧e= .returned (.tuple #[.slice none 0 0,.int .i64 (Mq cs)])))
section
variable {w w':World} {base:Nat} {v:Value} {cs:List Clm} {S:Nat→Prop}
end
def UN (v:Value) (g:Nat):Prop:=∀k,v.ownBlock=some k→k≠g
theorem Lo (b o j:Nat):(⟨b,o,none⟩:Addr).add j=⟨b,o+j,none⟩:=by unfold Addr.add;split<;>simp_all
section
variable {w:World} {base:Nat} {v:Value} {cs:List Clm}
end
def On:Nat→List Bool→Option (List Int×List Bool)
 |0,s=>some ([],s)
 |k+1,s=>
  match parse s with
  |none=>none
  |some (d,t)=>(On k t).map fun p=>(d::p.1,p.2)
def P4 (s0:List Bool) (j:Nat) (c:Clm) (s:List Bool):Prop:=j≤4∧On 4 s0=(On (4-j) s).map fun p=>((l4 c).take j++p.1,p.2)
def Tk (c:Clm) (j:Nat) (d:Int):Clm:=
 match j with
 |0=>(d,c.2.1,c.2.2.1,c.2.2.2)
 |1=>(c.1,d,c.2.2.1,c.2.2.2)
 |2=>(c.1,c.2.1,d,c.2.2.2)
 |_=>(c.1,c.2.1,c.2.2.1,d)
def Th (N:Nat) (t0:List Bool) (j:Nat) (be la:Clm) (s:List Bool) (SJ:List Clm):Prop:=
 j≤N∧Kd N zc zc t0=(Kd (N-j) be la s).map fun p=>(SJ++p.1,p.2)
def Ta (N:Nat) (t0:List Bool) (j:Nat) (be la:Clm) (s:List Bool) (SJ:List Clm):Prop:=
 j≤N∧K5 N zc zc t0=(K5 (N-j) be la s).map fun p=>(SJ++p.1,p.2)
def SQ:Int→List Int→List Int
 |_,[]=>[]
 |a,x::l=>wrap64 (x-a)::SQ x l
def UM (cs:List Clm):List Int:=cs.map fun c=>c.1
def UK (cs:List Clm):List Int:=cs.map fun c=>wrap64 (c.2.1-c.1)
def UP (cs:List Clm):List Int:=cs.map fun c=>c.2.2.1
def UV (cs:List Clm):List Int:=cs.map fun c=>wrap64 (c.2.2.2-c.2.2.1)
def UG (n:Int) (m:Nat):Int:=(Er n (2*m+1):Nat)-(m:Int)
theorem Ju (n:Int) (m:Nat) (w:World) (hn:Ah n) (hm:0<m) (hm2:m≤9223372036854775807):
  Calls Tryz.prog 13 #[.int .i64 n,.int .i64 (m:Nat)] w fun e w'=>e= .returned (.int .i64 (Er n m:Nat))∧w'=w:=
 (CM n m w hn hm hm2).mono fun _ _ h=>⟨h.1,h.2.symm⟩
def EU (l:List Int) (i m:Nat):Nat:=if i<l.length then Er (l.getD i 0) m else 0
theorem FC (l:List Int) (i m:Nat) (hm:0<m):EU l i m<m:=by
 unfold EU;split
 ·exact EC _ _ hm
 exact hm
theorem Dg (v:Value) (l:List Int) (i m:Nat) (w:World) (h:Rd w w.heap.size v (l.map vi)) (hi:∀x∈l,Ah x) (hl:l.length≤1000000000000000) (_:i≤1000000) (hm:0<m) (hm2:m≤1000000):
  Calls Tryz.prog 47 #[v,.int .i64 (i:Nat),.int .i64 (m:Nat)] w fun e w'=>e= .returned (.int .i64 (EU l i m:Nat))∧w'=w:=by
 obtain⟨A,n,c,rfl,hn,hc⟩:=h.form;rw[List.length_map]at hn;by_cases hlt:i<n
 ·have hpv:EU l i m=Er (l.getD i 0) m:=by unfold EU;rw[Uo (by omega)]
  rw[hpv];clear hpv;obtain⟨ad,rfl,hadb,hcell⟩:=h.int_at (j:=i) (by omega);have HA:=UX (Ju (l.getD i 0) m w (Oe hi i) hm (by omega));generalize l.getD i 0=x at*;generalize Er x m=k at*;have hnl:n≤1000000000000000:=by omega
  have t0:decide ((i:Int)<0)=false:=by simp
  have t1:decide (n≤i)=false:=by simp;omega
  have t2:decide ((n:Int)≤(i:Int))=false:=by simp;omega
  clear h hn hi;go_enter Tryz.func47,Tryz.ntmps47;go_wp2_with fail;refine HA.out.mono ?_;rintro e w' ⟨rfl,hw'⟩;rw[hw'];clear hw' w';go_wp2_with fail;go_ret;exact⟨rfl,rfl⟩
 have hpv:EU l i m=0:=by unfold EU;rw[Un (by omega)]
 rw[hpv];clear hpv;have hnl:n≤1000000000000000:=by omega
 have t0:decide ((i:Int)<0)=false:=by simp
 have t1:decide (n≤i)=true:=by simp;omega
 have t2:decide ((n:Int)≤(i:Int))=true:=by simp;omega
 clear h hn hi;go_enter Tryz.func47,Tryz.ntmps47;go_wp2_with fail;go_ret;exact⟨rfl,rfl⟩
end Go.Proofs.YtkclnhpofkaclaaGreatDoor
namespace Go.Proofs.YtkclnhpofkaclaaGreatDoor
open Go
section
variable {P:Program} {ops:Array Oper} {Q:Exit→Act→World→Prop} {md:Region.Mode} {Gs:List (Nat×(World→Prop))} {i:Nat} {oi:Oper} {v:Value} {fuel:Nat} {listed:Array Bool} {a:Act} {w:World} {s1:Nat} {A:World→Prop}
theorem tP (hcl:AW md ops listed) (hK:Au Gs listed w) (h:AW md ops (listed.setIfInBounds i true)→Au Gs (listed.setIfInBounds i true) w→Az P md ops Q Gs fuel (listed.setIfInBounds i true) (a.put oi.dst v) w)
  (hi:ops[i]? =some oi:=by exact rfl) (hs:Region.noSelect ops=true:=by kernel_rfl) (hf:Region.free md ops listed i=true:=by kernel_rfl) (hr:(Region.ready md ops listed).contains i=true:=by kernel_rfl) (hne':(Gs.map (·.1)).contains i=false:=by rfl)
  (hQ:∀c a w,Q (.panic c) (a.put oi.dst v) w→Q (.panic c) a w:=by exact fun _ _ _ h=>h) (hgd:oi.guard=none:=by exact rfl) (hy:∀w,(execOp a.eval oi).run P w= .ok (.value v) w:=by intro w';go_simp;try with_reducible rfl):Az P md ops Q Gs (fuel+1) listed a w:=
 Ha hi hs hf hr hcl hK hne' hQ hgd hy h
theorem oN (hcl:AW md ops listed) (h:∀K:Act→World→Prop,(∀a' w',Au Gs (listed.setIfInBounds i true) w'→(AW md ops (listed.setIfInBounds i true)→Au Gs (listed.setIfInBounds i true) w'→Az P md ops Q Gs fuel (listed.setIfInBounds i true) a' w')→K a' w')→oi.wp P a w K Q)
  (hr:Region.ready md ops listed=[i]:=by kernel_rfl) (hi:ops[i]? =some oi:=by exact rfl) (hgd:oi.guard=none:=by exact rfl):Az P md ops Q Gs (fuel+1) listed a w:=Pq hcl hr hi hgd h
theorem kl (h:listed.getD s1 false=true:=by kernel_rfl):Au [(s1,A)] listed w:=CX (.inl h)
theorem kr (h:A w):Au [(s1,A)] listed w:=CX (.inr h)
theorem aD (h:Q .normal a w) (hr:Region.ready md ops listed=[]:=by kernel_rfl):Az P md ops Q Gs fuel listed a w:=Q4 hr h _
theorem lR (s1:Nat) (A:World→Prop) {id:Nat} (hA:A w.drew) (h:AW .any ops (Array.replicate ops.size false)→Au [(s1,A)] (Array.replicate ops.size false) w.drew→Az P .any ops Q [(s1,A)] ops.size (Array.replicate ops.size false) a w.drew) (hm:P.follows .mixedOrders=true:=by kernel_rfl):(Code.region id ops true).wp P Q a w:=
 Hr _ hm (by intro p hp;obtain rfl:=Ug.1 hp;exact hA) h
end
end Go.Proofs.YtkclnhpofkaclaaGreatDoor
namespace Go.Proofs.YtkclnhpofkaclaaGreatDoor
open Go.RowKit Pl
theorem En (e:Ex) (A1 A2 A3:Option Addr) (n1 n2 n3 c1 c2 c3:Nat):∀v∈A8 e (.slice A1 n1 c1) (.slice A2 n2 c2) (.slice A3 n3 c3),v.oneCell'=true:=by
 intro v hv;simp[A8]at hv;rcases hv with rfl|rfl|rfl|rfl|rfl|rfl|rfl|rfl|rfl|rfl|rfl<;>rfl
theorem OU (e:Ex) (Am Ab A:Option Addr) (nm km nb kb n c:Nat) (w:World) (hT:Gw w w.heap.size (.slice A n c) e.kids) (h3:e.kind=3→∃ea eb,e.kids=[ea,eb]∧¬(ea.kind=0∧eb.kind=0)):
  Calls Tryz.prog 43 #[.agg (A8 e (.slice Am nm km) (.slice Ab nb kb) (.slice A n c)).toArray] w fun e' w'=>e'= .returned (.tuple #[.agg (A8 e (.slice Am nm km) (.slice Ab nb kb) (.slice A n c)).toArray,.bool false])∧A5 w w':=by
 obtain⟨hb1,hb2,hG⟩:=BI w 29 29 (A8 e (.slice Am nm km) (.slice Ab nb kb) (.slice A n c)).toArray (AE 0 0).toArray;have hcx:∃(x0:Bool) (y0 y1:Int) (b o:Nat),(e.kind !=3)=x0∧(x0=false→n=2∧A=some ⟨b,o,none⟩∧e.kind=3∧¬(y0=0∧y1=0)∧∀w',A5 w w'→w'.cell? ⟨b,o,none⟩=some (.int .i64 y0)∧w'.cell? ⟨b,o+11,none⟩=some (.int .i64 y1)):=by
  by_cases hk:e.kind=3
  ·obtain⟨ea,eb,hks,hno⟩:=h3 hk;obtain⟨A',n',c',hv,hn', -⟩:=hT.slice;injection hv with _ e2 _;obtain⟨b,o,csa,rfl,hbb,hra,hea⟩:=hT.at_ (j:=0) (e:=ea) (by rw[hks];rfl);obtain⟨b',o',csb,hbo, -,hrb,heb⟩:=hT.at_ (j:=1) (e:=eb) (by rw[hks];rfl);simp only[Ur,Addr.mk.injEq,and_true]at hbo;obtain⟨rfl,rfl⟩:=hbo;obtain⟨va1,va2,va3,rfl, -⟩:=hea.open_;obtain⟨ve1,ve2,ve3,rfl, -⟩:=heb.open_;refine⟨false,ea.kind,eb.kind,b,o,by rw[hk];rfl,fun _=>⟨by rw[e2,hn',hks];rfl,rfl,hk,hno,fun w' g=>⟨?_,?_⟩⟩⟩
   ·have:=AR hra hbb g (fun h=>h) 0 _ rfl;simpa using this
   have:=AR hrb hbb g (fun h=>h) 0 _ rfl;simpa using this
  exact⟨true,0,0,0,0,by simpa using hk,fun h=>by cases h⟩
 obtain⟨x0,y0,y1,b,o,hx0,hxx⟩:=hcx;have c0:((w.alloc (.cells (A8 e (.slice Am nm km) (.slice Ab nb kb) (.slice A n c)).toArray 29)).alloc (.cells (AE 0 0).toArray 29)).cell? ⟨w.heap.size,0,none⟩=some (.int .i64 e.kind):=hb1.cell 0;have c10:((w.alloc (.cells (A8 e (.slice Am nm km) (.slice Ab nb kb) (.slice A n c)).toArray 29)).alloc (.cells (AE 0 0).toArray 29)).cell? ⟨w.heap.size,10,none⟩=some (.slice A n c):=hb1.cell 10;clear hT h3;go_enter Tryz.func43,Tryz.ntmps43;go_upto_region 1 with fail;change Code.wp _ _ _ _ ((w.alloc (.cells (A8 e (.slice Am nm km) (.slice Ab nb kb) (.slice A n c)).toArray 29)).alloc (.cells (AE 0 0).toArray 29));generalize (w.alloc (.cells (A8 e (.slice Am nm km) (.slice Ab nb kb) (.slice A n c)).toArray 29)).alloc (.cells (AE 0 0).toArray 29)=w2 at*;cases x0
 ·obtain⟨rfl,rfl,hk3,hno,hcl⟩:=hxx rfl;obtain⟨g1,g2⟩:=hcl w2 hG;rw[hk3]at c0;clear hcl hxx hx0;by_cases h0:y0=0
  ·have h1:¬y1=0:=fun h=>hno ⟨h0,h⟩
   subst h0;have t1:(y1==0)=false:=by simpa using h1
   have t2:(y1 !=0)=true:=by simpa using h1
   clear h1 hno hk3;go_upto_region 2 with fail;go_wp2_with(first|(refine lN (.tmp 1) hb1 rX ?_)|(refine sN (.tmp 2) (.tmp 25) (A8 e (.slice Am nm km) (.slice Ab nb kb) (.slice (some ⟨b,o,none⟩) 2 c)) hb2 rX ?_;intro w8 hb8 k8 d8)|fail);refine rT rX hb8 ?_;exact⟨rfl,Uw hG k8 (fun i hi e=>by omega)⟩
  have t1:(y0==0)=false:=by simpa using h0
  have t2:(y0 !=0)=true:=by simpa using h0
  clear h0 hno hk3;go_upto_region 2 with fail;go_wp2_with(first|(refine lN (.tmp 1) hb1 rX ?_)|(refine sN (.tmp 2) (.tmp 25) (A8 e (.slice Am nm km) (.slice Ab nb kb) (.slice (some ⟨b,o,none⟩) 2 c)) hb2 rX ?_;intro w8 hb8 k8 d8)|fail);refine rT rX hb8 ?_;exact⟨rfl,Uw hG k8 (fun i hi e=>by omega)⟩
 have t1:(e.kind==3)=false:=by simpa using hx0
 clear hxx;go_upto_region 2 with fail;go_wp2_with(first|(refine lN (.tmp 1) hb1 rX ?_)|(refine sN (.tmp 2) (.tmp 25) (A8 e (.slice Am nm km) (.slice Ab nb kb) (.slice A n c)) hb2 rX ?_;intro w8 hb8 k8 d8)|fail);refine rT rX hb8 ?_;exact⟨rfl,Uw hG k8 (fun i hi e=>by omega)⟩
def E1 (w:World) (B0:Nat) (e:Ex) (e':Ending) (w':World):Prop:=∃cs,e'= .returned (.agg cs.toArray)∧AN w' (C9 B0 w.heap.size w'.heap.size) e cs∧A5 w w'
def KF (e:Ex):Prop:=DX e∧RL e
theorem LI:∀(k:Nat) (e:Ex),AD e≤k→k≤1000000→Aw KF e→∀(w:World) (B0:Nat) (cs:List Value),B0≤w.heap.size→BC w B0 e cs→
  Calls Tryz.prog 21 #[.agg cs.toArray,.bool false] w (E1 w B0 (AS e))
 |0,e,h,_,_,_,_,_,_,_=>absurd (AZ e) (by omega)
 |k+1,e,hk,hk2,hok,w,B0,cs,hB0,hr=>by
  obtain⟨vm,vb,vk,rfl,hm,hy,hT⟩:=hr.open_;obtain⟨Am,nm,km,rfl⟩:∃A n c,vm= .slice A n c:=by obtain⟨A,c,h, -⟩:=hm;exact⟨A,_,c,h⟩
  obtain⟨Ab,nb,kb,rfl⟩:∃A n c,vb= .slice A n c:=by obtain⟨A,c,h, -⟩:=hy;exact⟨A,_,c,h⟩
  obtain⟨A,n,c,rfl,hn, -⟩:=hT.slice;have hne:=Ao e;have hkl:=B9 e.kids;have HIH:=UX (fun(e':Ex) (w':World) (cs:List Value) (h0:B0≤w'.heap.size) (h1:e'∈e.kids) (h2:BC w' B0 e' cs)=>LI k e' (by have:=AT h1;omega) (by omega) (hok.kid h1) w' B0 cs h0 h2);have HT:=UX hT;have HN:=UX hn;have HMY:=UX (UZ hm hy);have HOK:=UX hok;have HB0:=UX hB0;have hnb:n≤1000000:=by omega
  obtain⟨hb1,hb2,hG⟩:=BI w 29 29 (A8 e (.slice Am nm km) (.slice Ab nb kb) (.slice A n c)).toArray (AE 0 0).toArray;have hs2:((w.alloc (.cells (A8 e (.slice Am nm km) (.slice Ab nb kb) (.slice A n c)).toArray 29)).alloc (.cells (AE 0 0).toArray 29)).heap.size=w.heap.size+2:=by simp
  clear hr hm hy hT hn hne hkl hk hk2 hok hB0;go_enter Tryz.func21,Tryz.ntmps21;go_upto_region 1 with fail;change Code.wp _ _ _ _ ((w.alloc (.cells (A8 e (.slice Am nm km) (.slice Ab nb kb) (.slice A n c)).toArray 29)).alloc (.cells (AE 0 0).toArray 29));generalize (w.alloc (.cells (A8 e (.slice Am nm km) (.slice Ab nb kb) (.slice A n c)).toArray 29)).alloc (.cells (AE 0 0).toArray 29)=w1 at*;have HS:=UX hs2;have HB:=UX (UZ hb1 (UZ hb2 hG));clear hb1 hb2 hG hs2;go_wp2_with fail;go_loopw [5,6] (fun s i wr=>∃(j:Nat) (rows:List (List Value)),j≤n∧i= .int .i64 (j:Nat)∧AX wr w1.heap.size 29 11 s rows∧Bz wr (LE B0 w1.heap.size s wr.heap.size) ((e.kids.take j).map AS) rows∧A5 w1 wr) (fun _ i _=>n-(intOf i).toNat)
  case atStart=>exact⟨0,[],by omega,rfl,AX.nil _ _ _ _,by simpa using Bz.nil _ _,Uv _⟩
  case round=>
   obtain⟨j,rows,hj,rfl,hM,hTr,hGr⟩:=hrel;obtain⟨As,ns,ks,rfl,hns, -⟩:=hM.slice;have c10:wr.cell? ⟨w.heap.size,10,none⟩=some (.slice A n c):=(HB.out.1.grew hGr).cell 10;have HM:=UX hM;have HTr:=UX hTr;have HNS:=UX hns;by_cases hlt:j<n
   ·have hjl:j<e.kids.length:=by rw[←HN.out];exact hlt
    obtain⟨e',he'⟩:∃e',e.kids[j]? =some e':=⟨_,Uc hjl⟩;have hmem:e'∈e.kids:=Uk he';have hTw:Gw wr B0 (.slice A n c) e.kids:=HT.out.keep HB0.out (Ua _) (HB.out.2.2.trans hGr) (fun _ _ h=>h);obtain⟨b,o,cs,rfl,hb,hrg,hre⟩:=hTw.at_ he';obtain⟨vm',vb',vk',hcs, -⟩:=hre.open_;subst hcs;have hw1:=hGr.size;have HI:=UX (HIH.out e' wr _ (by have:=HB0.out;have:=HS.out;omega) hmem hre);have HE:=UX he';have HRg:=UX hrg;have HGr:=UX hGr;have HW1:=UX hw1;clear hjl he' hmem hTw hrg hre hGr hM hTr hns hw1;go_wp2_with(first|(refine lM (.tmp 20) HRg.out rX ?_)|fail);refine HI.out.mono ?_;rintro e2 w3 ⟨cs3,rfl,hr3,k3⟩;obtain⟨vm3,vb3,vk3,rfl,hm3,hy3,hT3⟩:=hr3.open_;obtain⟨Am3,QU,km3,rfl, -⟩:=hm3.slice;obtain⟨Ab3,nb3,kb3,rfl, -⟩:=hy3.slice;obtain⟨A3,n3,c3,rfl, -⟩:=hT3.slice;have HR3:=UX hr3;have HK3:=UX k3;have hl3:=CO (AS e') (.slice Am3 QU km3) (.slice Ab3 nb3 kb3) (.slice A3 n3 c3);clear c10 k3 HI hr3 hm3 hy3 hT3;go_wp2_with(at_builtin;refine GI rfl (.tmp 16) (.tmp 24) rfl rfl rfl (Ua _) HM.out HTr.out (by have:=HB0.out;have:=HS.out;omega) HW1.out HK3.out HR3.out (by rw[List.length_map,List.length_take];omega) ?_;intro A6 n6 c6 w6 H6);go_wp2_with fail;go_roundw
    case rel=>
     obtain⟨rows6,hM6,hT6,hG6⟩:=H6.out;have hes:(e.kids.take j).map AS++[AS e']=(e.kids.take (j+1)).map AS:=by rw[List.take_add_one,HE.out];simp
     rw[hes]at hT6;exact⟨j+1,_,by omega,by go_num,hM6,hT6,Uw HGr.out hG6 fun i hi (e:w1.heap.size≤i)=>by omega⟩
    case measure=>simp[intOf];omega
   obtain rfl:j=n:=by omega
   have hes:(e.kids.take j).map AS=e.kids.map AS:=by rw[List.take_of_length_le (by rw[←HN.out];exact Ua _)]
   rw[hes]at hTr;have hw1:=hGr.size;have hm1:=hM.lt;have hTQ:Ca wr (C9 B0 w1.heap.size wr.heap.size) (.slice As ns ks) (e.kids.map AS):=hM.treesQ hTr.1 (fun b hb=>⟨.inr (hm1 b hb).1,(hm1 b hb).2⟩) fun i e' cs h1 h2=>AN.keep (S:=fun _=>False) (fun b hb=>⟨hb.2.1,fun h=>h,hb.1,hb.2.1⟩) (Uv wr) e' cs (hTr.2 i e' cs h1 h2)
   have hbr:=HB.out.1.grew hGr;have hb2:=HB.out.2.1.grew hGr;have hgw:=HB.out.2.2.trans hGr;have f10:=hbr.frozen 10;have hb4:AK (wr.setCell ⟨w.heap.size,10,none⟩ (.slice As ns ks)) w.heap.size 29 ((A8 e (.slice Am nm km) (.slice Ab nb kb) (.slice As ns ks))).toArray:=hbr.set_ 10 (.slice As ns ks);have k4:A4 (fun i=>i=w.heap.size) wr (wr.setCell ⟨w.heap.size,10,none⟩ (.slice As ns ks)):=V0 (S:=fun i=>i=w.heap.size) (p:=⟨w.heap.size,10,none⟩) (Uz _ wr) (.inl rfl) _;have hsz4:(wr.setCell ⟨w.heap.size,10,none⟩ (.slice As ns ks)).heap.size=wr.heap.size:=by simp
   have HNs:=UX (show ns=e.kids.length by have:=hTr.1;rw[List.length_map]at this;rw[hns,this]);have HTQ:=UX hTQ;have HE4:=UX (UZ hb4 (UZ (hb2.far (p:=⟨w.heap.size,10,none⟩) (by simp) (.slice As ns ks)) (UZ k4 (UZ hsz4 (UZ hgw hw1)))));clear hTQ hbr hb2 hgw hb4 k4 hsz4 hM hTr hGr HM HTr HNS hns hes hm1 hw1;go_upto_region 7 with fail;generalize wr.setCell ⟨w.heap.size,10,none⟩ (.slice As ns ks)=w4 at*;obtain⟨hb4,hb2,k4,hsz4,hgw,hw1⟩:=HE4.out;have hS2:=HS.out;have hB0:=HB0.out;have hTQ4:Ca w4 (C9 B0 w1.heap.size wr.heap.size) (.slice As ns ks) (e.kids.map AS):=HTQ.out.keep (S:=fun i=>i=w.heap.size) (fun b hb=>⟨hb.2,fun h=>by rcases hb.1 with h1|h1<;>omega,hb⟩) k4;have hgw4:A5 w w4:=Uw hgw k4 fun i hi e=>by omega
   have hMY4:Bs w4 B0 3 (.slice Am nm km) (e.ms.map AL)∧Bs w4 B0 1 (.slice Ab nb kb) (e.bys.map fun s=>[Value.string s]):=⟨HMY.out.1.keep hB0 (Ua _) hgw4 (fun _ _ h=>h),HMY.out.2.keep hB0 (Ua _) hgw4 (fun _ _ h=>h)⟩;have hE4:∀w',A5 w4 w'→AN w' (C9 B0 w1.heap.size w'.heap.size) (e.withKids (e.kids.map AS)) (A8 e (.slice Am nm km) (.slice Ab nb kb) (.slice As ns ks)):=fun w' g=>by
    have hsz:=g.size;have h1:=AN.mk_ (e:=e.withKids (e.kids.map AS)) (Q:=C9 B0 w1.heap.size w'.heap.size) (w:=w') (vm:= .slice Am nm km) (vb:= .slice Ab nb kb) (vk:= .slice As ns ks) (by rw[Ig];exact(hMY4.1.keep (by omega) (Ua _) g (fun _ _ h=>h)).toQ fun b hb=>⟨.inl hb,by omega⟩) (by rw[Gx];exact(hMY4.2.keep (by omega) (Ua _) g (fun _ _ h=>h)).toQ fun b hb=>⟨.inl hb,by omega⟩) (by rw[Bq];exact hTQ4.keep (fun b hb=>⟨by have:=hb.2;omega,fun h=>h,hb.1,by have:=hb.2;omega⟩) g);rwa[D5]at h1
   have hfinal:∀(w5 w8:World) (e5:Ex) (cs:List Value),A4 (fun i=>i=w.heap.size+1) w5 w8→AN w5 (C9 B0 w1.heap.size w5.heap.size) e5 cs→AN w8 (C9 B0 w.heap.size w8.heap.size) e5 cs:=fun w5 w8 e5 cs k8 h=>by
    have hsz:=k8.size;exact AN.keep (S:=fun i=>i=w.heap.size+1) (fun b hb=>⟨hb.2,fun h=>by rcases hb.1 with h1|h1<;>omega,by rcases hb.1 with h1|h1;exact .inl h1;exact .inr (by omega),by have:=hb.2;omega⟩) k8 _ _ h
   have HFIN:=UX hfinal;have HRES:=UX hE4;have c0:w4.cell? ⟨w.heap.size,0,none⟩=some (.int .i64 e.kind):=hb4.cell 0;by_cases h3:e.kind=3
   ·have t1:(e.kind==3)=true:=by simpa using h3
    obtain⟨X,ok,hXl,hX1,hF,hXt,hXf⟩:∃(X:List Value) (ok:Bool),X.length=11∧(∀v∈X,v.oneCell'=true)∧(∀w',A5 w4 w'→Calls Tryz.prog 43 #[.agg (A8 e (.slice Am nm km) (.slice Ab nb kb) (.slice As ns ks)).toArray] w' fun e' w''=>e'= .returned (.tuple #[.agg X.toArray,.bool ok])∧A5 w' w'')∧(ok=true→∀(w':World) (Q:Nat→Prop),AN w' Q (AS e) X)∧(ok=false→AS e=e.withKids (e.kids.map AS)):=by
     have hp:=HOK.out.top.2 h3;have h64:=HOK.out.top.1;obtain⟨ea,eb,hks⟩:∃ea eb,e.kids=[ea,eb]:=by
      rcases hq:e.kids with _|⟨a,_|⟨b,_|⟨d,l⟩⟩⟩<;>rw[hq]at hp<;>simp at hp;exact⟨a,b,rfl⟩
     have hk4:(e.withKids (e.kids.map AS)).kids=[AS ea,AS eb]:=by rw[Bq,hks];rfl
     have h34:(e.withKids (e.kids.map AS)).kind=3:=by rw[Cg];exact h3
     have h2s:ns=2:=by rw[HNs.out,hks];rfl
     have h2n:j=2:=by rw[HN.out,hks];rfl
     have hTB:∀w',A5 w4 w'→Gw w' w'.heap.size (.slice As ns ks) (e.withKids (e.kids.map AS)).kids:=fun w' g=>by rw[Bq];exact((hTQ4.toB (B:=w4.heap.size) (fun b hb=>by have:=hb.2;omega)).grew g)
     have h64a:DX (AS ea):=Gf (HOK.out.kid (by rw[hks];simp)).top.1;have h64b:DX (AS eb):=Gf (HOK.out.kid (by rw[hks];simp)).top.1;by_cases hz:(AS ea).kind=0∧(AS eb).kind=0
     ·obtain⟨⟨x,y,er⟩,hap⟩:∃r,Bc (e.withKids (e.kids.map AS)).fn (AS ea).num (AS ea).den (AS eb).num (AS eb).den=r:=⟨_,rfl⟩;refine⟨AE x y,er==0,rfl,Fa x y,fun w' g=>?_,fun hok w' Q=>?_,fun hok=>?_⟩
      ·have:=Nq (e.withKids (e.kids.map AS)) (AS ea) (AS eb) (.slice Am nm km) (.slice Ab nb kb) As ks w' (by have:=hTB w' g;rwa[h2s]at this) hk4 h34 hz.1 hz.2 (by rw[JX];exact h64.2.1) h64a.2.2.2.2.2.1 h64a.2.2.2.2.2.2 h64b.2.2.2.2.2.1 h64b.2.2.2.2.2.2 x y er hap;rw[D5]at this;rw[h2s];exact this
      ·obtain rfl:er=0:=by simpa using hok
       rw[CK,Jf hk4 h34 hz.1 hz.2 hap];exact AN.mk_ (e:=Ay x y) (BE.nil _ _ _) (BE.nil _ _ _) (Ca.nil _ _)
      rw[CK];exact JV hk4 hap (by simpa using hok)
     refine⟨(A8 e (.slice Am nm km) (.slice Ab nb kb) (.slice As ns ks)),false,rfl,(En _ _ _ _ _ _ _ _ _ _),fun w' g=>?_,(fun h=>nomatch h),fun _=>?_⟩
     ·have:=OU (e.withKids (e.kids.map AS)) Am Ab As nm km nb kb ns ks w' (hTB w' g) fun _=>⟨_,_,hk4,hz⟩
      rw[D5]at this;exact this
     rw[CK];exact FI fun _=>⟨_,_,hk4,hz⟩
    have HFC:=UX (fun w'=>hF w');have HXT:=UX hXt;have HXF:=UX hXf;have HXl:=UX hXl;clear hE4 hTQ4 hMY4 h3 hS2 hw1 hB0 hsz4 hgw k4 hfinal hF hXt hXf hXl;go_upto_region 11 with fail;rcases ok with _|_
    ·go_wp2_with(first|(refine lN (.tmp 2) hb4 rX ?_)|(go_at_call 43;refine(HFC.out _ (Uv _)).mono ?_;rintro e6 w6 ⟨rfl,k6⟩)|(refine sN (.tmp 7) (.tmp 38) X (Ux w6 29 _) rX ?_ (hl:=HXl.out) (h1:=hX1) (us:=(AE 0 0));intro w7 hb7 k7 d7;have kk7:A5 w6 w7:=(Uw ((Uv w6).alloc _) k7 (fun i hi e=>by omega));have b4:=(hb4.grew (k6.trans kk7));have b2:=(hb2.grew (k6.trans kk7));clear hb4 hb2 k7 d7)|(refine lN (.tmp 2) b4 rX ?_)|(refine sN (.tmp 4) (.tmp 42) (A8 e (.slice Am nm km) (.slice Ab nb kb) (.slice As ns ks)) b2 rX ?_;intro w8 hb8 k8 d8)|fail);refine rO rX hb8 ?_;have g7:A5 w4 w7:=k6.trans kk7;refine⟨(A8 e (.slice Am nm km) (.slice Ab nb kb) (.slice As ns ks)),rfl,?_,Uw (hgw4.trans g7) k8 (fun i hi e=>by omega)⟩;rw[HXF.out trivial];exact HFIN.out w7 w8 _ _ k8 (HRES.out w7 g7)
    go_wp2_with(first|(refine lN (.tmp 2) hb4 rX ?_)|(go_at_call 43;refine(HFC.out _ (Uv _)).mono ?_;rintro e6 w6 ⟨rfl,k6⟩)|(refine sN (.tmp 7) (.tmp 38) X (Ux w6 29 _) rX ?_ (hl:=HXl.out) (h1:=hX1) (us:=(AE 0 0));intro w7 hb7 k7 d7;have kk7:A5 w6 w7:=(Uw ((Uv w6).alloc _) k7 (fun i hi e=>by omega));have b4:=(hb4.grew (k6.trans kk7));have b2:=(hb2.grew (k6.trans kk7));clear hb4 hb2 k7 d7)|(refine lN (.tmp 7) hb7 rX ?_ (hl:=HXl.out))|(refine sN (.tmp 4) (.tmp 43) X b2 rX ?_ (hl:=HXl.out) (h1:=hX1);intro w8 hb8 k8 d8)|fail);refine rO rX hb8 ?_ (hl:=HXl.out);have g7:A5 w4 w7:=k6.trans kk7;exact⟨X,rfl,HXT.out trivial w8 _,Uw (hgw4.trans g7) k8 (fun i hi e=>by omega)⟩
   have t1:(e.kind==3)=false:=by simpa using h3
   have hfin:AS e=e.withKids (e.kids.map AS):=by rw[CK];exact FI fun h=>absurd (by rw[Cg]at h;exact h) h3
   have HF:=UX hfin;clear hE4 hTQ4 hMY4 hfin h3 hS2 hw1 hB0 hsz4 hgw k4 hfinal;go_wp2_with(first|(refine lN (.tmp 2) hb4 rX ?_)|(refine sN (.tmp 4) (.tmp 31) (A8 e (.slice Am nm km) (.slice Ab nb kb) (.slice As ns ks)) hb2 rX ?_;intro w8 hb8 k8 d8)|fail);refine rO rX hb8 ?_;refine⟨(A8 e (.slice Am nm km) (.slice Ab nb kb) (.slice As ns ks)),rfl,?_,Uw hgw4 k8 (fun i hi e=>by omega)⟩;rw[HF.out];exact HFIN.out w4 w8 _ _ k8 (HRES.out w4 (Uv _))
def Mb (n:Nat):List Nat:=if h:n<128 then[n]else(n%128+128)::Mb (n/128)
termination_by n
decreasing_by omega
def SU (xs:List Nat):List Nat:=Mb xs.length++xs
def UQ (w:World) (B:Nat) (v:Value) (cs:List Clm):Prop:=
 ∃A c,v= .slice A cs.length c∧cs.length≤c∧(0<cs.length→∃ad,A=some ad∧ad.block<B∧∀j u,(flat cs)[j]? =some u→w.cell? (ad.add j)=some u)
section
variable {w w':World} {B B':Nat} {v:Value} {cs:List Clm} {S:Nat→Prop}
end
section
variable {w:World} {base:Nat} {v:Value} {cs:List Clm}
end
def TN (cs:List Clm) (w:World) (e:Ending) (w':World):Prop:=
 ∃v,e= .returned (.tuple #[v,.int .i64 (Mq cs)])∧Bf w' w.heap.size 5 v ((Su cs).map vb)∧A5 w w'
def Tj (k:Nat):Int:=if k=1∨k=3 then 1 else 0
def Tu (k:Nat):Int:=if k=0 then 0 else if k=1∨k=2 then 1073741824 else if k=3 then 4096 else 1048576
def TC (x:Clm):Prop:=0≤x.1∧x.1<4096∧0≤x.2.1∧x.2.1≤4∧Tj x.2.1.toNat≤x.2.2.1∧x.2.2.1≤Tu x.2.1.toNat∧0≤x.2.2.2∧x.2.2.2≤4398046511104∧(x.2.1≠0∨x.2.2.2=0)
instance (x:Clm):Decidable (TC x):=by unfold TC;infer_instance
def UL (x:Clm) (v:Value):Value:= .agg #[.int .i64 x.1,.int .i64 x.2.1,.int .i64 x.2.2.1,.int .i64 x.2.2.2,v]
end Go.Proofs.YtkclnhpofkaclaaGreatDoor
namespace Go.Proofs.YtkclnhpofkaclaaGreatDoor.Pl
open Go.RowKit
def Qc (s w:Nat):Nat:=((s^^^w)*11400714819323198485%18446744073709551616)^^^((s^^^w)*11400714819323198485%18446744073709551616/4294967296)
def Te:List Nat→Nat
 |[]=>0
 |x::l=>x+256*Te l
def Sn (bs:List Nat) (i:Nat):List Nat:=(bs.drop (8*i)).take 8
def Ro (bs:List Nat):Nat:=(bs.length+7)/8
def D0 (bs:List Nat):List Nat:=(List.range (Ro bs)).map fun i=>Te (Sn bs i)
def Ms (s:Nat) (l:List Nat):Nat:=l.foldl Qc s
def QV (label ws:List Nat):Nat:=Qc (Ms (Qc (Qc (Ms 0 (D0 label)) label.length) ws.length) ws) 0
def RG (label bs:List Nat):Nat:=QV label (D0 bs++[bs.length])
end Go.Proofs.YtkclnhpofkaclaaGreatDoor.Pl
namespace Go.Proofs.YtkclnhpofkaclaaGreatDoor
open Go.RowKit Pl
end Go.Proofs.YtkclnhpofkaclaaGreatDoor
namespace Go.Proofs.YtkclnhpofkaclaaGreatDoor
open Go.RowKit Go.Shelf Pl
attribute [local go_sem] Oper.semAt_some
abbrev Tb:=Fin 18446744073709551616
def TO (bs:List Nat):List Tb:=(D0 bs).map fun x=>Fin.ofNat 18446744073709551616 x
def UJ (B0 Bn:Nat) (W W':World):Prop:=∀k,(k<B0∨k=Bn)→W'.heap[k]? =W.heap[k]?
attribute [local go_sem] Oper.semAt_some
attribute [local go_sem] Oper.semAt_some
def U8 (x:Nat):Int:=if x<9223372036854775808 then(x:Int)else(x:Int)-18446744073709551616
def vw (x:Nat):Value:= .int .i64 (U8 x)
def Tm (pre:List Tb):Nat:=Ms 0 (pre.map (fun x=>x.val))
attribute [local go_sem] Oper.semAt_some
end Go.Proofs.YtkclnhpofkaclaaGreatDoor
namespace Go.Proofs.YtkclnhpofkaclaaGreatDoor
open Go.RowKit Pl
def PZ:List Nat:=[98,108,111,99,107]
def Sc (x:Clm) (cb:List Nat):List Nat:=Mb (S4 x.1)++Mb (S4 x.2.1)++Mb (S4 x.2.2.1)++Mb (S4 x.2.2.2)++SU cb
def S1 (core:List Nat):List Nat:=SU core++Mb (RG PZ core)
def RO (x:Clm) (cs:List Clm):Int:=if TC x then Mq cs else 1
def So (x:Clm) (cs:List Clm):List Nat:=if RO x cs=0 then S1 (Sc x (R5 (Ox cs)))else[]
def U6 (u:Value) (g:Nat) (v:Value):Prop:=∀k,u.ownBlock=some k→k≠g∧v.ownBlock≠some k
def Sk (x:Clm) (cs:List Clm) (w:World) (e:Ending) (w':World):Prop:=
 ∃v,e= .returned (.tuple #[v,.int .i64 (RO x cs)])∧Bf w' w.heap.size 5 v ((So x cs).map vb)∧A5 w w'
end Go.Proofs.YtkclnhpofkaclaaGreatDoor
namespace Go.Proofs.YtkclnhpofkaclaaGreatDoor.Pl
def uP:Nat→Nat→List Nat→Sum Int (Nat×List Nat)
 |_,_,[]=> .inl 3
 |i,a,c::t=>if(i=9∧1<c)∨(0<i∧c=0)then .inl 2 else if c<128 then .inr (a+c%128*128^i,t)else uP (i+1) (a+c%128*128^i) t
abbrev RX:=Sum Int (List Nat)
def sU (s:RX):Nat×RX:=
 match s with
 | .inl e=>(0,.inl e)
 | .inr l=>match uP 0 0 l with
  | .inl e=>(0,.inl e)
  | .inr (n,t)=>(n,.inr t)
def sI (s:RX):Int×RX:=(RZ (sU s).1,(sU s).2)
def SP (s:RX):List Nat×RX:=
 match sU s with
 |(_,.inl e)=>([],.inl e)
 |(n,.inr t)=>if t.length<n then([],.inl 3)else(t.take n,.inr (t.drop n))
def St:RX→Int
 | .inl e=>e
 | .inr []=>0
 | .inr (_::_)=>2
def U3 (core:List Nat):Sum Int (Clm×List Clm):=
 let a:=sI (.inr core)
 let b:=sI a.2
 let c:=sI b.2
 let d:=sI c.2
 let r:=SP d.2
 if St r.2≠0 then .inl 2 else
 match OX r.1 with
 |none=> .inl 2
 |some l=>if TC (a.1,b.1,c.1,d.1)then .inr ((a.1,b.1,c.1,d.1),l)else .inl 1
def Tx (bs:List Nat):Sum Int (Clm×List Clm):=
 let r:=SP (.inr bs)
 let u:=sU r.2
 if St u.2≠0 then .inl 2 else if u.1≠RG PZ r.1 then .inl 11 else U3 r.1
end Go.Proofs.YtkclnhpofkaclaaGreatDoor.Pl
namespace Go.Proofs.YtkclnhpofkaclaaGreatDoor
open Go.RowKit Pl
def UH (bs:List Nat) (a:Nat) (er:Int):RX:=if er=0 then .inr (bs.drop a)else .inl er
def bl (s:ByteArray):List Nat:=s.data.toList.map UInt8.toNat
theorem JR (s:ByteArray):(bl s).length=s.size:=by unfold bl;rw[List.length_map,Array.length_toList];rfl
theorem Ls (s:ByteArray):Bytes (bl s):=fun x hx=>by
 unfold bl at hx;obtain⟨b,_,rfl⟩:=List.mem_map.1 hx;exact b.toNat_lt
theorem Oy (s:ByteArray):Lib.strCells s=(bl s).map vb:=by unfold Lib.strCells bl;rw[List.map_map];rfl
theorem Q3 {s t:ByteArray} (h:bl s=bl t):s=t:=by
 unfold bl at h;have h2:s.data.toList=t.data.toList:=(List.map_inj_right (fun a b e=>UInt8.toNat_inj.1 e)).1 h;obtain⟨s⟩:=s;obtain⟨t⟩:=t;simp only at h2;rw[Array.toList_inj.1 h2]
theorem R9 {w:World} {base:Nat} {v:Value} {bs:List Nat} {ops:Array Oper} {rest:List Oper} {o:Oper} {a:Act} {Q:Exit→Act→World→Prop} (hgd:o.guard=none) (s x:Operand)
  (ho:o.op= .call { callee:= .builtin .append,args:=#[s,x],argTypes:=#[98,9] })
  (hs:a.eval s=v) (hown:Bf w base 5 v (bs.map vb)) (t:ByteArray) (hx:a.eval x= .string t)
  (hn:bs.length+t.size≤1099511627776) (hbase:base≤w.heap.size)
  (h:∀A m cap w',Bf w' base 5 (.slice A m cap) ((bs++bl t).map vb)→A4 (fun i=>v.ownBlock=some i) w w'→wpList Tryz.prog ops Q rest (a.put o.dst (.slice A m cap)) w'):wpList Tryz.prog ops Q (o::rest) a w:=by
 refine wpList_plain hgd fun K hK=>?_
 obtain⟨i,hi,hz,hsz,hby⟩:=info_parts Sz.info;obtain⟨v',w',hrun,h2,h3,_⟩:=Lib.run_append_own_string (P:=Tryz.prog) w base 98 9 o.type 5 i Tryz.underlying98 Tryz.underlying9 hi hz hsz hby v _ _ hown t (by rw[List.length_map];unfold maxLen;omega) (by rw[List.length_map];omega) hbase;have hm:Bf w' base 5 v' ((bs++bl t).map vb):=by
  unfold Bf;rw[List.map_append,Us,←Oy,Lib.strCells_length];exact h2
 unfold Oper.wp execOp;simp only[ho,resolve,invoke,builtin,Sem.run_bind,Sem.run_pure,Result.andThen_ok,List.map_toArray,List.map_cons,List.map_nil,hs,hx,hrun];obtain⟨A,m,cap,rfl, -⟩:=hm.slice;exact hK _ _ (h A m cap w' hm ((Uz _ w).grown h3 (fun k e _=>e)))
end Go.Proofs.YtkclnhpofkaclaaGreatDoor
