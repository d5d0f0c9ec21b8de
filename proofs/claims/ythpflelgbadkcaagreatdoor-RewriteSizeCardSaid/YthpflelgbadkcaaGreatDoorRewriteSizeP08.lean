/- What the card of the law stands on: ParD, Lives, CPlain, Row4, CPl2, Encb, Box4, Encode, RowC, DPl, REncb, Claims, Pick, RFoldN, Rewr, Wire, Wire2, RowG, Valid, HPl, Mix, Grp, Gst, HSum, HBytes, BEnc, RdPl, WRd, WRd2, WRd3, WText. -/
import Derived.Test.YthpflelgbadkcaaGreatDoorRewriteSizeP07
import Derived.Test.YthpflelgbadkcaaGreatDoorRewriteSizeP04
import Derived.Test.YthpflelgbadkcaaGreatDoorRewriteSizeP01
import Derived.Deep.MidRow
import Derived.StillTailTactics
import Derived.Test.YthpflelgbadkcaaGreatDoorRewriteSizeP06
import Derived.Deep.DeepCutAuto
import Derived.Deep.QuietTactic
import Derived.BigQuiet
import Derived.Test.YthpflelgbadkcaaGreatDoorProg
import Derived.Laws.MakeOwn
import Derived.Lib.AppendStr
import Derived.Laws.IdiomStrings
import Derived.Laws.BytesArg
set_option maxRecDepth 100000
set_option maxHeartbeats 12800000
set_option linter.unusedVariables false
set_option linter.unusedSimpArgs false
namespace Go.Proofs.YthpflelgbadkcaaGreatDoor
open Go.RowKit Pl
theorem FO (f wd:Int) (name:ByteArray):∀v∈Ga f wd name,v.oneCell'=true:=by
 intro v hv;simp[Ga]at hv;rcases hv with rfl|rfl|rfl|rfl|rfl|rfl|rfl|rfl|rfl|rfl|rfl<;>rfl
def Q5 (g:Nat) (n:Int) (us:List C3) (f wd:Nat) (name:ByteArray) (w:World) (e:Ending) (w':World):Prop:=e= .returned (.agg (Ga (f:Nat) (wd:Nat) name).toArray)∧D4 w' g n us∧Dr g w w'
theorem OZ (w:World) (g:Nat) (n:Int) (name:ByteArray) (ts us:List C3) (f wd:Nat) (h:D4 w g n ts) (hft:KI w) (hfz:5<g) (hsel:M6 name ts=some (H8 (f:Nat) (wd:Nat) name,us)):
  Calls Tryz.prog 159 #[.pointer (some ⟨g,0,none⟩),.string name] w (Q5 g n us f wd name w):=by
 have hg:=h.lt;have hb0:=Sc w 29 (AH 0 0).toArray;have hg0:=(Sa w).alloc (.cells (AH 0 0).toArray 29);have hs0:(w.alloc (.cells (AH 0 0).toArray 29)).heap.size=w.heap.size+1:=by simp
 have hp0:=h.grew hg0;have hf0:=hft.keep hg0 (fun h=>h);have HS:=S9 (SC hs0 hg);have HG:=S9 hg0;have HSel:=S9 hsel;clear hsel hft h hs0 hg0;go_enter Tryz.func159,Tryz.ntmps159;go_upto_region 1 with fail;change Code.wp _ _ _ _ (w.alloc (.cells (AH 0 0).toArray 29));generalize w.alloc (.cells (AH 0 0).toArray 29)=w1 at*;have HP0:=S9 hp0;have HF0:=S9 hf0;have HB0:=S9 hb0;clear hp0 hf0 hb0;go_upto_region 2 with(((with_reducible refine AF 29 (.tmp 5) (.tmp 7) rfl ?_);refine Ar 29 (.tmp 5) (.tmp 7) w1.heap.size (Ga 0 0 name) (AH 0 0) 29 AD rfl (FO _ _ _) rfl rfl rfl rfl (Sc w1 29 _) ?_;intro w2 hb2 k2 d2;have HG2:=S9 (show A5 w1 w2 from Sb ((Sa w1).alloc _) k2 (fun i hi e=>by omega));clear k2 d2));have HP2:=S9 (HP0.out.grew HG2.out);have HF2:=S9 (HF0.out.keep HG2.out (fun h=>h));have HB2:=S9 (SC hb2 (HB0.out.grew HG2.out));have hsel:=HSel.out;unfold M6 at hsel;by_cases h1:F3 ts 3 ⟨#[123]⟩=true
 ·rw[SR h1]at hsel;cases hsel
 rw[SQ h1]at hsel;have HN1:=S9 (Et w2 g n ts ⟨#[123]⟩ HP2.out (by simpa using h1));by_cases h2:F3 ts 3 ⟨#[46]⟩=true
 ·rw[SR h2]at hsel;obtain⟨t,tb,rfl⟩:=DL h2;rw[List.tail_cons]at hsel;cases hfp:N9 tb with
  |none=>rw[hfp]at hsel;cases hsel
  |some p=>
   obtain⟨f',wd',us'⟩:=p;rw[hfp]at hsel;dsimp only at hsel;by_cases h3:F3 us' 3 ⟨#[64]⟩=true
   ·rw[SR h3]at hsel;cases hsel
   rw[SQ h3]at hsel;simp only[SW,SV,H8,Ex.mk.injEq,true_and,and_true]at hsel;obtain⟨⟨hf,hwd⟩,rfl⟩:=hsel;obtain rfl:f'=f:=by omega
   obtain rfl:wd'=wd:=by omega
   have HY:=S9 (EP w2 g n t tb ⟨#[46]⟩ HP2.out h2);have HFn:=S9 (fun w' (h:D4 w' g n tb) hz hft=>OF w' g w1.heap.size n name tb us' f' wd' h hz (by have:=HS.out;omega) hft hfz hfp);have HN3:=S9 (fun w' h=>Et w' g n us' ⟨#[64]⟩ h (by simpa using h3));clear h1 h2 h3 hfp hf hwd HSel;go_upto_region 7 with(go_at_call 144;(with_reducible refine HN1.out.mono ?_);rintro e3 w3 ⟨rfl,rfl⟩);clear HN1;go_upto_region 8 with(go_at_call 144;(with_reducible refine HY.out.mono ?_);rintro e3 w4 ⟨rfl,hp4,hk4⟩;have HR4:=S9 (SC hp4 (SC hk4 (HB2.out.1.keep hk4 (by have:=HS.out;omega))));clear hp4 hk4);clear HY;go_upto_region 9 with(go_at_call 167;(with_reducible refine(HFn.out _ HR4.out.1 HR4.out.2.2 (HF2.out.keep HR4.out.2.1 (by omega))).mono ?_);rintro e3 w5 ⟨rfl,hp5,hb5,hk5⟩;have HR5:=S9 (SC hp5 (SC hk5 ((HB2.out.2.keep HR4.out.2.1 (by have:=HS.out;omega)).keep hk5 (by have:=HS.out;omega))));clear hp5 hk5);clear HFn;go_upto_region 11 with(go_at_call 144;(with_reducible refine(HN3.out _ HR5.out.1).mono ?_);rintro e3 w3 ⟨rfl,rfl⟩);clear HN3;have hr0:=HR5.out.2.2;go_wp2_with(first|((with_reducible refine AG 29 (.tmp 5) rfl ?_);refine BR 29 Tryz.underlying29 rfl (.tmp 5) w1.heap.size (Ga (f':Nat) (wd':Nat) name) 29 AD rfl rfl rfl hb5 ?_)|((with_reducible refine AF 29 (.tmp 4) (.tmp 45) rfl ?_);refine Ar 29 (.tmp 4) (.tmp 45) w.heap.size (Ga (f':Nat) (wd':Nat) name) (AH 0 0) 29 AD rfl (FO _ _ _) rfl rfl rfl rfl hr0 ?_;intro w8 hb8 k8 d8));refine bodyPost_ret (AP rfl rfl AD Tryz.underlying29 rfl hb8) rfl ?_;have hS:=HS.out;have k2:=Si (S:=fun i=>i=g) (HG.out.trans HG2.out);exact⟨rfl,HR5.out.1.keep k8 (fun i hi e=>by omega),Sb (Sb (Sb k2 HR4.out.2.1 fun _ _ e=>e) HR5.out.2.1 fun i hi e=>by omega) k8 fun i hi e=>by omega⟩
 rw[SQ h2]at hsel;by_cases h3:F3 ts 3 ⟨#[64]⟩=true
 ·rw[SR h3]at hsel;cases hsel
 rw[SQ h3]at hsel;simp only[SW,SV,H8,Ex.mk.injEq,true_and,and_true]at hsel;obtain⟨⟨hf,hwd⟩,rfl⟩:=hsel;obtain rfl:f=0:=by omega
 obtain rfl:wd=0:=by omega
 have HN2:=S9 (Et w2 g n ts ⟨#[46]⟩ HP2.out (by simpa using h2));have HN3:=S9 (Et w2 g n ts ⟨#[64]⟩ HP2.out (by simpa using h3));clear h1 h2 h3 hf hwd HSel;have hb5:=HB2.out.1;have hr0:=HB2.out.2;go_upto_region 7 with(go_at_call 144;(with_reducible refine HN1.out.mono ?_);rintro e3 w3 ⟨rfl,rfl⟩);go_upto_region 9 with(go_at_call 144;(with_reducible refine HN2.out.mono ?_);rintro e3 w3 ⟨rfl,rfl⟩);go_upto_region 11 with(go_at_call 144;(with_reducible refine HN3.out.mono ?_);rintro e3 w3 ⟨rfl,rfl⟩);have HR:=S9 (SC HP2.out (HG.out.trans HG2.out));go_wp2_with(first|((with_reducible refine AG 29 (.tmp 5) rfl ?_);refine BR 29 Tryz.underlying29 rfl (.tmp 5) w1.heap.size (Ga 0 0 name) 29 AD rfl rfl rfl hb5 ?_)|((with_reducible refine AF 29 (.tmp 4) (.tmp 45) rfl ?_);refine Ar 29 (.tmp 4) (.tmp 45) w.heap.size (Ga 0 0 name) (AH 0 0) 29 AD rfl (FO _ _ _) rfl rfl rfl rfl hr0 ?_;intro w8 hb8 k8 d8));refine bodyPost_ret (AP rfl rfl AD Tryz.underlying29 rfl hb8) rfl ?_;have hS:=HS.out;exact⟨rfl,HR.out.1.keep k8 (fun i hi e=>by omega),Sb HR.out.2.keeps k8 fun i hi e=>by omega⟩
theorem Rd.laid (w:World) (t:TypeId) (xs:List Value):Rd (w.alloc (.cells xs.toArray t)) (w.heap.size+1) (.slice (some ⟨w.heap.size,0,none⟩) xs.length xs.length) xs:=by
 refine⟨_,_,rfl,SD _,fun _=>⟨_,rfl,by show w.heap.size<w.heap.size+1;omega,fun j u hu=>?_⟩⟩;have e1:(⟨w.heap.size,0,none⟩:Addr).add j=⟨w.heap.size,j,none⟩:=by unfold Addr.add;split<;>simp_all
 rw[e1,(Sc w t xs.toArray).cell];simpa using hu
end Go.Proofs.YthpflelgbadkcaaGreatDoor
namespace Go.Proofs.YthpflelgbadkcaaGreatDoor.Pl
open Go.RowKit
abbrev Clm:=Int×Int×Int×Int
def zc:Clm:=(0,0,0,0)
def R3 (x:Int):Prop:= -1099511627776≤x∧x≤1099511627776
instance (x:Int):Decidable (R3 x):=by unfold R3;infer_instance
def R4 (c:Clm):Prop:=R3 c.1∧R3 c.2.1∧R3 c.2.2.1∧R3 c.2.2.2
instance (c:Clm):Decidable (R4 c):=by unfold R4;infer_instance
def n0 (b a c:Clm):Int:=wrap64 (c.1-2*a.1+b.1)
def n1 (a c:Clm):Int:=wrap64 ((c.2.1-c.1)-(a.2.1-a.1))
def n2 (a c:Clm):Int:=wrap64 (c.2.2.1-a.2.2.1)
def n3 (a c:Clm):Int:=wrap64 ((c.2.2.2-c.2.2.1)-(a.2.2.2-a.2.2.1))
def c4 (b a c:Clm):List Int:=[n0 b a c,n1 a c,n2 a c,n3 a c]
def QW:Clm→Clm→List Clm→List Int
 |_,_,[]=>[]
 |b,a,c::l=>c4 b a c++QW a c l
def OI (l:List Clm):List Bool:=NM l.length++P1 (QW zc zc l)
def M9 (l:List Clm):Int:=if 4096<l.length then 4 else if ∀c∈l,R4 c then 0 else 5
def PF (l:List Clm):List Nat:=if M9 l=0 then Qy (OI l)else[]
def EU (b a:Clm) (d:Clm):Clm:=
 (wrap64 (d.1+2*a.1-b.1),
  wrap64 (wrap64 (d.1+2*a.1-b.1)+d.2.1+(a.2.1-a.1)),
  wrap64 (d.2.2.1+a.2.2.1),
  wrap64 (wrap64 (d.2.2.1+a.2.2.1)+d.2.2.2+(a.2.2.2-a.2.2.1)))
def Ds (s:List Bool):Option (Clm×List Bool):=
 match parse s with
 |none=>none
 |some (d0,s0)=>
  match parse s0 with
  |none=>none
  |some (d1,s1)=>
   match parse s1 with
   |none=>none
   |some (d2,s2)=>
    match parse s2 with
    |none=>none
    |some (d3,s3)=>some ((d0,d1,d2,d3),s3)
def l4 (d:Clm):List Int:=[d.1,d.2.1,d.2.2.1,d.2.2.2]
def EG:Nat→Clm→Clm→List Bool→Option (List Clm×List Bool)
 |0,_,_,s=>some ([],s)
 |k+1,b,a,s=>
  match Ds s with
  |none=>none
  |some (d,t)=>(EG k a (EU b a d) t).map fun p=>(EU b a d::p.1,p.2)
def DW:Nat→Clm→Clm→List Bool→Option (List Clm×List Bool)
 |0,_,_,s=>some ([],s)
 |k+1,b,a,s=>
  match Ds s with
  |none=>none
  |some (d,t)=>if R4 (EU b a d)then(DW k a (EU b a d) t).map fun p=>(EU b a d::p.1,p.2)else none
end Go.Proofs.YthpflelgbadkcaaGreatDoor.Pl
namespace Go.Proofs.YthpflelgbadkcaaGreatDoor
open Go.RowKit Pl
def EE (c:Clm):List Value:=[.int .i64 c.1,.int .i64 c.2.1,.int .i64 c.2.2.1,.int .i64 c.2.2.2]
def vc (c:Clm):Value:= .agg (EE c).toArray
def F1 (cs:List Clm):List Value:=cs.flatMap EE
theorem LX (cs:List Clm):(F1 cs).length=cs.length*4:=by
 induction cs with
 |nil=>rfl
 |cons c cs ih=>unfold F1 at*;rw[List.flatMap_cons,SX,ih,List.length_cons];simp[EE];omega
theorem Kg (cs ds:List Clm):F1 (cs++ds)=F1 cs++F1 ds:=by unfold F1;rw[List.flatMap_append]
theorem Px {cs:List Clm} {j k:Nat} (hj:j<cs.length) (hk:k<4):(F1 cs)[j*4+k]? =(EE (cs.getD j zc))[k]? :=by
 induction cs generalizing j with
 |nil=>simp at hj
 |cons c cs ih=>
  unfold F1 at*;rw[List.flatMap_cons];cases j with
  |zero=>
   rw[List.getElem?_append_left (by simp[EE];omega)];simp
  |succ j=>
   rw[List.getElem?_append_right (by simp[EE];omega)];have:(j+1)*4+k-(EE c).length=j*4+k:=by simp[EE];omega
   rw[this,ih (by simpa using hj)];simp
def KR (w:World) (B:Nat) (v:Value) (cs:List Clm):Prop:=
 ∃A c,v= .slice A cs.length c∧cs.length≤c∧(0<cs.length→∃b o,A=some ⟨b,o,none⟩∧b<B∧∀j u,(F1 cs)[j]? =some u→w.cell? ⟨b,o+j,none⟩=some u)
section
variable {w w':World} {B B':Nat} {v:Value} {cs:List Clm} {S:Nat→Prop}
theorem KR.keep (h:KR w B v cs) (hB:B≤w.heap.size) (hk:AC S w w') (hs:∀i,i<B→¬S i):KR w' B v cs:=by
 obtain⟨A,c,hv,hc,hx⟩:=h;refine⟨A,c,hv,hc,fun hn=>?_⟩;obtain⟨b,o,e,hb,hcell⟩:=hx hn;exact⟨b,o,e,hb,fun j u hu=>(World.cell?_of_block (a:=⟨b,o+j,none⟩) (hk.block b (by omega) (hs _ hb))).trans (hcell j u hu)⟩
theorem KR.grew (h:KR w B v cs) (hB:B≤w.heap.size) (hk:A5 w w'):KR w' B v cs:=h.keep hB hk fun _ _ e=>e
theorem KR.more (h:KR w B v cs) (hB:B≤B'):KR w B' v cs:=by
 obtain⟨A,c,hv,hc,hx⟩:=h;refine⟨A,c,hv,hc,fun hn=>?_⟩;obtain⟨b,o,e,hb,hcell⟩:=hx hn;exact⟨b,o,e,by omega,hcell⟩
theorem KR.form (h:KR w B v cs):∃A n c,v= .slice A n c∧n=cs.length∧n≤c:=by
 obtain⟨A,c,rfl,hc,_⟩:=h;exact⟨A,_,c,rfl,rfl,hc⟩
theorem KR.nil (w:World) (B:Nat):KR w B (.slice none 0 0) []:=⟨none,0,rfl,SD _,fun h=>absurd h (by simp)⟩
theorem KR.at_ {A:Option Addr} {n c j:Nat} (h:KR w B (.slice A n c) cs) (hj:j<cs.length):
  ∃b o,A=some ⟨b,o,none⟩∧b<B∧∀k u,(EE (cs.getD j zc))[k]? =some u→w.cell? ⟨b,o+(j*4+k),none⟩=some u:=by
 obtain⟨A',c',hv,_,hx⟩:=h;injection hv with hA;subst hA;obtain⟨b,o,rfl,hb,hc⟩:=hx (by omega);refine⟨b,o,rfl,hb,fun k u hu=>?_⟩;have hk:k<4:=by simpa[EE]using(SK.1 hu).1
 exact hc _ u (by rw[Px hj hk];exact hu)
end
def q1 (cs:List Clm) (j:Nat):Clm:=(zc::cs).getD j zc
def q2 (cs:List Clm) (j:Nat):Clm:=(zc::zc::cs).getD j zc
theorem Ro (a c:Clm):wrap64 (c.2.2.1-a.2.2.1)=n2 a c:=rfl
section
variable {ops:Array Oper} {rest:List Oper} {o:Oper} {a:Act} {w:World} {Q:Exit→Act→World→Prop}
end
def Mp (cs:List Clm) (w:World) (e:Ending) (w':World):Prop:=
 A5 w w'∧((M9 cs=0∧∃v,e= .returned (.tuple #[v,.int .i64 0])∧Ba w' w.heap.size 5 v ((Qy (OI cs)).map vb))∨
  (M9 cs≠0∧e= .returned (.tuple #[.slice none 0 0,.int .i64 (M9 cs)])))
def Cd (w:World) (base:Nat) (v:Value) (cs:List Clm):Prop:=w.ownsRow base 126 4 v cs.length (F1 cs)
section
variable {w w':World} {base:Nat} {v:Value} {cs:List Clm} {S:Nat→Prop}
theorem Cd.nil (w:World) (base:Nat):Cd w base (.slice none 0 0) []:=World.ownsRow_nil _ _ _ _
theorem Cd.lt (h:Cd w base v cs):∀k,v.ownBlock=some k→base≤k∧k<w.heap.size:=World.ownsRow.lt h
theorem Cd.keep (h:Cd w base v cs) (hk:AC S w w') (hv:∀k,v.ownBlock=some k→¬S k):Cd w' base v cs:=by
 obtain⟨h1,h2⟩:=h;refine⟨h1,?_⟩;rcases h2 with h2|⟨g,cap,cur,rfl,hg,hh,r⟩
 ·exact .inl h2
 have hlt:g<w.heap.size:=by
  rcases Nat.lt_or_ge g w.heap.size with hlt|hge
  ·exact hlt
  rw[Array.getElem?_eq_none hge]at hh;cases hh
 exact .inr ⟨g,cap,cur,rfl,hg,(hk.block g hlt (hv g rfl)).trans hh,r⟩
theorem Cd.grew (h:Cd w base v cs) (hk:A5 w w'):Cd w' base v cs:=h.keep hk fun _ _ e=>e
theorem Cd.alloc (h:Cd w base v cs) (o:Obj):Cd (w.alloc o) base v cs:=World.ownsRow.alloc h o
theorem Cd.form (h:Cd w base v cs):(v= .slice none 0 0∧cs=[])∨
  ∃g cap cur,v= .slice (some ⟨g,0,none⟩) cs.length cap∧base≤g∧Ag w g 126 cur∧cs.length≤cap∧cap≤maxLen∧cur.size=cap*4∧cur.toList.take (cs.length*4)=F1 cs:=by
 obtain⟨h1,h2⟩:=h;rcases h2 with⟨rfl,h2⟩|⟨g,cap,cur,rfl,hg,hh,h3,h4,h5,h6⟩
 ·exact .inl ⟨rfl,List.eq_nil_of_length_eq_zero h2⟩
 exact .inr ⟨g,cap,cur,rfl,hg,hh,h3,h4,h5,h6⟩
theorem Cd.slice (h:Cd w base v cs):∃A n c,v= .slice A n c∧n=cs.length∧n≤c:=by
 rcases h.form with⟨rfl,rfl⟩|⟨g,cap,cur,rfl,_,_,h1,_⟩
 ·exact⟨_,_,_,rfl,rfl,SD _⟩
 exact⟨_,_,_,rfl,rfl,h1⟩
theorem Cd.rd (h:Cd w base v cs):KR w w.heap.size v cs:=by
 rcases h.form with⟨rfl,rfl⟩|⟨g,cap,cur,rfl,hb,hbox,h1,h2,h3,h4⟩
 ·exact KR.nil _ _
 refine⟨_,cap,rfl,h1,fun _=>⟨g,0,rfl,hbox.lt,fun j u hu=>?_⟩⟩;have hj:j<cs.length*4:=by rw[←LX];exact(SK.1 hu).1
 rw[Nat.zero_add,hbox.cell,←Array.getElem?_toList,←hu,←h4,List.getElem?_take,SR hj]
theorem Cd.ne_box {g k:Nat} {t:TypeId} {xs:Array Value} (h:Cd w base v cs) (hv:v.ownBlock=some k) (hb:Ag w g t xs) (hne:126≠t):k≠g:=by
 rcases h.form with⟨rfl,_⟩|⟨g',cap,cur,rfl,_,hbox,_⟩
 ·cases hv
 have:g'=k:=by simpa[Value.ownBlock]using hv
 subst this;exact hbox.ne_ hb hne
end
def Rq (v:Value) (g:Nat):Prop:=∀k,v.ownBlock=some k→k≠g
theorem Rq.nil (g:Nat):Rq (.slice none 0 0) g:=fun k h=>by cases h
theorem Ou (b o j:Nat):(⟨b,o,none⟩:Addr).add j=⟨b,o+j,none⟩:=by unfold Addr.add;split<;>simp_all
section
variable {w:World} {base:Nat} {v:Value} {cs:List Clm}
end
def Fp:Nat→List Bool→Option (List Int×List Bool)
 |0,s=>some ([],s)
 |k+1,s=>
  match parse s with
  |none=>none
  |some (d,t)=>(Fp k t).map fun p=>(d::p.1,p.2)
theorem GV (s:List Bool):Ds s=(Fp 4 s).map fun p=>((p.1.getD 0 0,p.1.getD 1 0,p.1.getD 2 0,p.1.getD 3 0),p.2):=by
 unfold Ds;simp only[Fp];cases parse s with
 |none=>rfl
 |some p=>
  obtain⟨d0,s0⟩:=p;simp only;cases parse s0 with
  |none=>rfl
  |some p=>
   obtain⟨d1,s1⟩:=p;simp only;cases parse s1 with
   |none=>rfl
   |some p=>
    obtain⟨d2,s2⟩:=p;simp only;cases parse s2 with
    |none=>rfl
    |some p=>rfl
def P4 (s0:List Bool) (j:Nat) (c:Clm) (s:List Bool):Prop:=j≤4∧Fp 4 s0=(Fp (4-j) s).map fun p=>((l4 c).take j++p.1,p.2)
def RF (c:Clm) (j:Nat) (d:Int):Clm:=
 match j with
 |0=>(d,c.2.1,c.2.2.1,c.2.2.2)
 |1=>(c.1,d,c.2.2.1,c.2.2.2)
 |2=>(c.1,c.2.1,d,c.2.2.2)
 |_=>(c.1,c.2.1,c.2.2.1,d)
theorem P4.start (s:List Bool) (c:Clm):P4 s 0 c s:=⟨by omega,by cases Fp 4 s<;>simp⟩
theorem P4.step {s0 s t:List Bool} {j:Nat} {c:Clm} {d:Int} (h:P4 s0 j c s) (hj:j<4) (hp:parse s=some (d,t)):P4 s0 (j+1) (RF c j d) t:=by
 refine⟨by omega,?_⟩;rw[h.2];obtain⟨m,hm⟩:∃m,4-j=m+1:=⟨4-j-1,by omega⟩;rw[hm,show 4-(j+1)=m by omega];simp only[Fp,hp];have hl:(l4 (RF c j d)).take (j+1)=(l4 c).take j++[d]:=by
  have:j=0∨j=1∨j=2∨j=3:=by omega
  rcases this with rfl|rfl|rfl|rfl<;>rfl
 rw[hl];cases Fp m t<;>simp
theorem P4.fail {s0 s:List Bool} {j:Nat} {c:Clm} (h:P4 s0 j c s) (hj:j<4) (hp:parse s=none):Ds s0=none:=by
 rw[GV,h.2];obtain⟨m,hm⟩:∃m,4-j=m+1:=⟨4-j-1,by omega⟩;rw[hm];simp only[Fp,hp];rfl
theorem P4.done {s0 s:List Bool} {c:Clm} (h:P4 s0 4 c s):Ds s0=some (c,s):=by
 rw[GV,h.2];simp[Fp,l4]
def F9 (N:Nat) (t0:List Bool) (j:Nat) (be la:Clm) (s:List Bool) (Fj:List Clm):Prop:=
 j≤N∧DW N zc zc t0=(DW (N-j) be la s).map fun p=>(Fj++p.1,p.2)
theorem F9.start (N:Nat) (t0:List Bool):F9 N t0 0 zc zc t0 []:=⟨by omega,by cases DW N zc zc t0<;>simp⟩
theorem F9.step {N j:Nat} {t0 s t:List Bool} {be la d:Clm} {Fj:List Clm} (h:F9 N t0 j be la s Fj) (hj:j<N) (hp:Ds s=some (d,t)) (ho:R4 (EU be la d)):F9 N t0 (j+1) la (EU be la d) t (Fj++[EU be la d]):=by
 refine⟨by omega,?_⟩;rw[h.2];obtain⟨m,hm⟩:∃m,N-j=m+1:=⟨N-j-1,by omega⟩;rw[hm,show N-(j+1)=m by omega];simp only[DW,hp,SR ho];cases DW m la (EU be la d) t<;>simp
theorem F9.fail {N j:Nat} {t0 s:List Bool} {be la:Clm} {Fj:List Clm} (h:F9 N t0 j be la s Fj) (hj:j<N) (hp:Ds s=none):DW N zc zc t0=none:=by
 rw[h.2];obtain⟨m,hm⟩:∃m,N-j=m+1:=⟨N-j-1,by omega⟩;rw[hm];simp only[DW,hp];rfl
theorem F9.out {N j:Nat} {t0 s t:List Bool} {be la d:Clm} {Fj:List Clm} (h:F9 N t0 j be la s Fj) (hj:j<N) (hp:Ds s=some (d,t)) (ho:¬R4 (EU be la d)):DW N zc zc t0=none:=by
 rw[h.2];obtain⟨m,hm⟩:∃m,N-j=m+1:=⟨N-j-1,by omega⟩;rw[hm];simp only[DW,hp,SQ ho];rfl
theorem F9.done {N:Nat} {t0 s:List Bool} {be la:Clm} {Fj:List Clm} (h:F9 N t0 N be la s Fj):DW N zc zc t0=some (Fj,s):=by
 rw[h.2,Nat.sub_self];simp[DW]
def GQ (N:Nat) (t0:List Bool) (j:Nat) (be la:Clm) (s:List Bool) (Fj:List Clm):Prop:=
 j≤N∧EG N zc zc t0=(EG (N-j) be la s).map fun p=>(Fj++p.1,p.2)
theorem GQ.start (N:Nat) (t0:List Bool):GQ N t0 0 zc zc t0 []:=⟨by omega,by cases EG N zc zc t0<;>simp⟩
theorem GQ.step {N j:Nat} {t0 s t:List Bool} {be la d:Clm} {Fj:List Clm} (h:GQ N t0 j be la s Fj) (hj:j<N) (hp:Ds s=some (d,t)):GQ N t0 (j+1) la (EU be la d) t (Fj++[EU be la d]):=by
 refine⟨by omega,?_⟩;rw[h.2];obtain⟨m,hm⟩:∃m,N-j=m+1:=⟨N-j-1,by omega⟩;rw[hm,show N-(j+1)=m by omega];simp only[EG,hp];cases EG m la (EU be la d) t<;>simp
theorem GQ.fail {N j:Nat} {t0 s:List Bool} {be la:Clm} {Fj:List Clm} (h:GQ N t0 j be la s Fj) (hj:j<N) (hp:Ds s=none):EG N zc zc t0=none:=by
 rw[h.2];obtain⟨m,hm⟩:∃m,N-j=m+1:=⟨N-j-1,by omega⟩;rw[hm];simp only[EG,hp];rfl
theorem GQ.done {N:Nat} {t0 s:List Bool} {be la:Clm} {Fj:List Clm} (h:GQ N t0 N be la s Fj):EG N zc zc t0=some (Fj,s):=by
 rw[h.2,Nat.sub_self];simp[EG]
theorem Jv (n:Int) (m:Nat) (w:World) (hn:Bc n) (hm:0<m) (hm2:m≤9223372036854775807):
  Calls Tryz.prog 47 #[.int .i64 n,.int .i64 (m:Nat)] w fun e w'=>e= .returned (.int .i64 (JC n m:Nat))∧w'=w:=
 (Lo n m w hn hm hm2).mono fun _ _ h=>⟨h.1,h.2.symm⟩
def Hm (l:List Int) (i m:Nat):Nat:=if i<l.length then JC (l.getD i 0) m else 0
theorem P5 (l:List Int) (i m:Nat) (hm:0<m):Hm l i m<m:=by
 unfold Hm;split
 ·exact Pn _ _ hm
 exact hm
theorem Nh (v:Value) (l:List Int) (i m:Nat) (w:World) (h:Rd w w.heap.size v (l.map vi)) (hi:∀x∈l,Bc x) (hl:l.length≤1000000000000000) (_:i≤1000000) (hm:0<m) (hm2:m≤1000000):
  Calls Tryz.prog 23 #[v,.int .i64 (i:Nat),.int .i64 (m:Nat)] w fun e w'=>e= .returned (.int .i64 (Hm l i m:Nat))∧w'=w:=by
 obtain⟨A,n,c,rfl,hn,hc⟩:=h.form;rw[List.length_map]at hn;by_cases hlt:i<n
 ·have hpv:Hm l i m=JC (l.getD i 0) m:=by unfold Hm;rw[SR (by omega)]
  rw[hpv];clear hpv;obtain⟨ad,rfl,hadb,hcell⟩:=h.int_at (j:=i) (by omega);have HA:=S9 (Jv (l.getD i 0) m w (OA hi i) hm (by omega));generalize l.getD i 0=x at*;generalize JC x m=k at*;have hnl:n≤1000000000000000:=by omega
  have t0:decide ((i:Int)<0)=false:=by simp
  have t1:decide (n≤i)=false:=by simp;omega
  have t2:decide ((n:Int)≤(i:Int))=false:=by simp;omega
  clear h hn hi;go_enter Tryz.func23,Tryz.ntmps23;go_wp2_with fail;refine HA.out.mono ?_;rintro e w' ⟨rfl,hw'⟩;rw[hw'];clear hw' w';go_wp2_with fail;go_ret;exact⟨rfl,rfl⟩
 have hpv:Hm l i m=0:=by unfold Hm;rw[SQ (by omega)]
 rw[hpv];clear hpv;have hnl:n≤1000000000000000:=by omega
 have t0:decide ((i:Int)<0)=false:=by simp
 have t1:decide (n≤i)=true:=by simp;omega
 have t2:decide ((n:Int)≤(i:Int))=true:=by simp;omega
 clear h hn hi;go_enter Tryz.func23,Tryz.ntmps23;go_wp2_with fail;go_ret;exact⟨rfl,rfl⟩
theorem Ay (e:Ex) (A1 A2 A3:Option Addr) (n1 n2 n3 c1 c2 c3:Nat):∀v∈AE e (.slice A1 n1 c1) (.slice A2 n2 c2) (.slice A3 n3 c3),v.oneCell'=true:=by
 intro v hv;simp[AE]at hv;rcases hv with rfl|rfl|rfl|rfl|rfl|rfl|rfl|rfl|rfl|rfl|rfl<;>rfl
def FG (w:World) (B0:Nat) (e:Ex) (e':Ending) (w':World):Prop:=∃cs,e'= .returned (.agg cs.toArray)∧AW w' (CW B0 w.heap.size w'.heap.size) e cs∧A5 w w'
def KN (e:Ex):Prop:=Ea e∧QZ e
def Mr (w:World) (B:Nat) (v:Value) (cs:List Clm):Prop:=
 ∃A c,v= .slice A cs.length c∧cs.length≤c∧(0<cs.length→∃ad,A=some ad∧ad.block<B∧∀j u,(F1 cs)[j]? =some u→w.cell? (ad.add j)=some u)
section
variable {w w':World} {B B':Nat} {v:Value} {cs:List Clm} {S:Nat→Prop}
theorem Mr.keep (h:Mr w B v cs) (hB:B≤w.heap.size) (hk:AC S w w') (hs:∀i,i<B→¬S i):Mr w' B v cs:=by
 obtain⟨A,c,hv,hc,hx⟩:=h;refine⟨A,c,hv,hc,fun hn=>?_⟩;obtain⟨ad,e,hb,hcell⟩:=hx hn;refine⟨ad,e,hb,fun j u hu=>(World.cell?_of_block ?_).trans (hcell j u hu)⟩;rw[FT];exact hk.block _ (by omega) (hs _ hb)
theorem Mr.grew (h:Mr w B v cs) (hB:B≤w.heap.size) (hk:A5 w w'):Mr w' B v cs:=h.keep hB hk fun _ _ e=>e
theorem Mr.more (h:Mr w B v cs) (hB:B≤B'):Mr w B' v cs:=by
 obtain⟨A,c,hv,hc,hx⟩:=h;refine⟨A,c,hv,hc,fun hn=>?_⟩;obtain⟨ad,e,hb,hcell⟩:=hx hn;exact⟨ad,e,by omega,hcell⟩
theorem Mr.form (h:Mr w B v cs):∃A n c,v= .slice A n c∧n=cs.length∧n≤c:=by
 obtain⟨A,c,rfl,hc,_⟩:=h;exact⟨A,_,c,rfl,rfl,hc⟩
theorem NU (cs:List Clm) (m j:Nat) (u:Value) (h:(F1 (cs.take m))[j]? =some u):(F1 cs)[j]? =some u:=by
 have e:F1 cs=F1 (cs.take m)++F1 (cs.drop m):=by rw[←Kg,List.take_append_drop]
 have hj:j<(F1 (cs.take m)).length:=(SK.1 h).1;rw[e,List.getElem?_append_left hj];exact h
theorem Mr.take {A:Option Addr} {n c:Nat} (h:Mr w B (.slice A n c) cs) {m:Nat} (hm:m≤cs.length):Mr w B (.slice A m c) (cs.take m):=by
 obtain⟨A',c',hv,hc,hx⟩:=h;injection hv with hA _ hcc;subst hA hcc;have hl:(cs.take m).length=m:=by rw[List.length_take];omega
 refine⟨A,c,by rw[hl],by omega,fun h0=>?_⟩;obtain⟨ad,rfl,hb,hcell⟩:=hx (by omega);exact⟨ad,rfl,hb,fun j u hu=>hcell j u (NU cs m j u hu)⟩
end
section
variable {w:World} {base:Nat} {v:Value} {cs:List Clm}
end
theorem QF {cs:List Clm} (h:M9 cs=0):PF cs=Qy (OI cs):=by unfold PF;rw[SR h]
theorem Pr {cs:List Clm} (h:M9 cs≠0):PF cs=[]:=by unfold PF;rw[SQ h]
def Qg (cs:List Clm) (w:World) (e:Ending) (w':World):Prop:=
 ∃v,e= .returned (.tuple #[v,.int .i64 (M9 cs)])∧Ba w' w.heap.size 5 v ((PF cs).map vb)∧A5 w w'
theorem Mp.all {cs:List Clm} {w w':World} {e:Ending} (h:Mp cs w e w'):Qg cs w e w':=by
 obtain⟨hg,⟨h0,v,rfl,hm⟩|⟨h0,rfl⟩⟩:=h
 ·exact⟨v,by rw[h0],by rw[QF h0];exact hm,hg⟩
 exact⟨_,rfl,by rw[Pr h0];exact Ba.nil _ _ _,hg⟩
def S2 (k:Nat):Int:=if k=1∨k=3 then 1 else 0
def Rz (k:Nat):Int:=if k=0 then 0 else if k=1∨k=2 then 1073741824 else if k=3 then 4096 else 1048576
def Rp (x:Clm):Prop:=0≤x.1∧x.1<4096∧0≤x.2.1∧x.2.1≤4∧S2 x.2.1.toNat≤x.2.2.1∧x.2.2.1≤Rz x.2.1.toNat∧0≤x.2.2.2∧x.2.2.2≤4398046511104∧(x.2.1≠0∨x.2.2.2=0)
instance (x:Clm):Decidable (Rp x):=by unfold Rp;infer_instance
end Go.Proofs.YthpflelgbadkcaaGreatDoor
namespace Go.Proofs.YthpflelgbadkcaaGreatDoor.Pl
open Go.RowKit
end Go.Proofs.YthpflelgbadkcaaGreatDoor.Pl
namespace Go.Proofs.YthpflelgbadkcaaGreatDoor
open Go.RowKit Pl
end Go.Proofs.YthpflelgbadkcaaGreatDoor
namespace Go.Proofs.YthpflelgbadkcaaGreatDoor
open Go.RowKit Go.Shelf Pl
attribute [local go_sem] Oper.semAt_some
def QQ (B0 Bn:Nat) (W W':World):Prop:=∀k,(k<B0∨k=Bn)→W'.heap[k]? =W.heap[k]?
theorem QQ.trans {B0 Bn:Nat} {A B C:World} (h:QQ B0 Bn A B) (k:QQ B0 Bn B C):QQ B0 Bn A C:=fun i hi=>(k i hi).trans (h i hi)
theorem QQ.cell {B0 Bn:Nat} {W W':World} (h:QQ B0 Bn W W') {o:Nat}:W'.cell? ⟨Bn,o,none⟩=W.cell? ⟨Bn,o,none⟩:=World.cell?_of_block (h Bn (.inr rfl))
theorem QQ.rd {B0 Bn:Nat} {W W':World} (h:QQ B0 Bn W W') {v:Value} {xs:List Value} (hr:Rd W B0 v xs):Rd W' B0 v xs:=by
 obtain⟨A,c,hv,hc,hx⟩:=hr;refine⟨A,c,hv,hc,fun hn=>?_⟩;obtain⟨ad,e,hb,hcell⟩:=hx hn;refine⟨ad,e,hb,fun j u hu=>(World.cell?_of_block ?_).trans (hcell j u hu)⟩;rw[FT];exact h _ (.inl hb)
attribute [local go_sem] Oper.semAt_some
attribute [local go_sem] Oper.semAt_some
attribute [local go_sem] Oper.semAt_some
end Go.Proofs.YthpflelgbadkcaaGreatDoor
namespace Go.Proofs.YthpflelgbadkcaaGreatDoor
open Go.RowKit Pl
theorem DA {a b:List Nat} (ha:Bytes a) (hb:Bytes b):Bytes (a++b):=fun x hx=>by
 rcases List.mem_append.1 hx with h|h
 ·exact ha x h
 exact hb x h
end Go.Proofs.YthpflelgbadkcaaGreatDoor
namespace Go.Proofs.YthpflelgbadkcaaGreatDoor.Pl
end Go.Proofs.YthpflelgbadkcaaGreatDoor.Pl
namespace Go.Proofs.YthpflelgbadkcaaGreatDoor
open Go.RowKit Pl
def bl (s:ByteArray):List Nat:=s.data.toList.map UInt8.toNat
theorem C6 (s:ByteArray):(bl s).length=s.size:=by unfold bl;rw[List.length_map,Array.length_toList];rfl
theorem EW (s:ByteArray):Bytes (bl s):=fun x hx=>by
 unfold bl at hx;obtain⟨b,_,rfl⟩:=List.mem_map.1 hx;exact b.toNat_lt
theorem PK (s:ByteArray):Lib.strCells s=(bl s).map vb:=by unfold Lib.strCells bl;rw[List.map_map];rfl
theorem OW {s t:ByteArray} (h:bl s=bl t):s=t:=by
 unfold bl at h;have h2:s.data.toList=t.data.toList:=(List.map_inj_right (fun a b e=>UInt8.toNat_inj.1 e)).1 h;obtain⟨s⟩:=s;obtain⟨t⟩:=t;simp only at h2;rw[Array.toList_inj.1 h2]
theorem Q0 {w:World} {base:Nat} {v:Value} {bs:List Nat} {ops:Array Oper} {rest:List Oper} {o:Oper} {a:Act} {Q:Exit→Act→World→Prop} (hgd:o.guard=none) (s x:Operand)
  (ho:o.op= .call { callee:= .builtin .append,args:=#[s,x],argTypes:=#[154,9] })
  (hs:a.eval s=v) (hown:Ba w base 5 v (bs.map vb)) (t:ByteArray) (hx:a.eval x= .string t)
  (hn:bs.length+t.size≤1099511627776) (hbase:base≤w.heap.size)
  (h:∀A m cap w',Ba w' base 5 (.slice A m cap) ((bs++bl t).map vb)→AC (fun i=>v.ownBlock=some i) w w'→wpList Tryz.prog ops Q rest (a.put o.dst (.slice A m cap)) w'):wpList Tryz.prog ops Q (o::rest) a w:=by
 refine wpList_plain hgd fun K hK=>?_
 obtain⟨i,hi,hz,hsz,hby⟩:=info_parts R7.info;obtain⟨v',w',hrun,h2,h3,_⟩:=Lib.run_append_own_string (P:=Tryz.prog) w base 154 9 o.type 5 i Tryz.underlying154 Tryz.underlying9 hi hz hsz hby v _ _ hown t (by rw[List.length_map];unfold maxLen;omega) (by rw[List.length_map];omega) hbase;have hm:Ba w' base 5 v' ((bs++bl t).map vb):=by
  unfold Ba;rw[List.map_append,SX,←PK,Lib.strCells_length];exact h2
 unfold Oper.wp execOp;simp only[ho,resolve,invoke,builtin,Sem.run_bind,Sem.run_pure,Result.andThen_ok,List.map_toArray,List.map_cons,List.map_nil,hs,hx,hrun];obtain⟨A,m,cap,rfl, -⟩:=hm.slice;exact hK _ _ (h A m cap w' hm ((Se _ w).grown h3 (fun k e _=>e)))
end Go.Proofs.YthpflelgbadkcaaGreatDoor
