/- What the card of the law stands on: RefA, Frac1, FracPl, RatPl, Frac2, NatA, NatB, NatH, NatL, NatE, GcdPl, NatG, NatO, Sh, FracV, NatW, NatN, NatT. -/
import Derived.Test.YthpflelgbadkcaaGreatDoorRewriteTypesP01
import Derived.Deep.QuietTactic
import Derived.BigQuiet
import Derived.Deep.DeepCutAuto
import Derived.ChangeKeysEq
import Derived.Laws.StructEq
import Derived.Deep.MidRow
import Derived.Test.YthpflelgbadkcaaGreatDoorProg
set_option maxRecDepth 100000
set_option maxHeartbeats 12800000
set_option linter.unusedVariables false
set_option linter.unusedSimpArgs false
namespace Go.Proofs.YthpflelgbadkcaaGreatDoor
open Go.RowKit Pl
theorem Gw:SI Tryz.prog 22 3 8 (.int .i64 0):=⟨Tryz.underlying22,by kernel_rfl,rfl,by decide⟩
theorem LA (bs:List Int):∀u∈bs.map vi,u.oneCell'=true:=by
 intro u hu;obtain⟨x,_,rfl⟩:=List.mem_map.1 hu;rfl
theorem Rd.take {w:World} {B:Nat} {A:Option Addr} {n c:Nat} {xs:List Value} (h:Rd w B (.slice A n c) xs) {m:Nat} (hm:m≤xs.length):Rd w B (.slice A m c) (xs.take m):=by
 obtain⟨A',c',hv,hc,hx⟩:=h;injection hv with hA _ hcc;subst hA hcc;have hl:(xs.take m).length=m:=by rw[List.length_take];omega
 refine⟨A,c,by rw[hl],by omega,fun h0=>?_⟩;obtain⟨ad,rfl,hb,hcell⟩:=hx (by omega);refine⟨ad,rfl,hb,fun j u hu=>hcell j u ?_⟩;rw[List.getElem?_take]at hu;split at hu
 ·exact hu
 cases hu
theorem Jy (v:Value) (xs:List Int) (m:Nat) (w:World) (h:Rd w w.heap.size v (xs.map vi)) (hm:m≤1000000000):
  Calls Tryz.prog 75 #[v,.int .i64 (m:Nat)] w fun e w'=>∃v',e= .returned v'∧B9 w' w.heap.size 3 v' ((xs.take m).map vi)∧A4 w w':=by
 obtain⟨A,n,c,rfl,hn,hc⟩:=h.form;rw[List.length_map]at hn;have HN:=V3 hn;clear hn;by_cases hnm:n≤m
 ·have t0:¬((m:Int)<(n:Int)):=by omega
  have h2:Rd w w.heap.size (.slice A n c) ((xs.take m).map vi):=by
   rw[List.take_of_length_le (by rw[←HN.out];exact hnm)];exact h
  go_enter Tryz.func75,Tryz.ntmps75;go_wp2_with(at_builtin;refine Gu Gw rfl (.tmp 6) (.tmp 12) rfl rfl (B9.nil w w.heap.size _) rfl h2 (LA _) (by simp;omega) (V6 _) ?k)
  case k=>
  intro A m cap w1 hm hown hk hr;go_wp2;go_ret;exact⟨_,rfl,by simpa using hown,AA.mono hk (fun i hi e=>by cases e)⟩
 have t0:(m:Int)<(n:Int):=by omega
 have h2:Rd w w.heap.size (.slice A m c) ((xs.take m).map vi):=by
  rw[List.map_take];exact h.take (by rw[List.length_map,←HN.out];omega)
 obtain⟨ad,_,rfl,_⟩:=h.at_ (j:=0) (by rw[List.length_map,←HN.out];omega);go_enter Tryz.func75,Tryz.ntmps75;go_wp2_with(at_builtin;refine Gu Gw rfl (.tmp 6) (.tmp 12) rfl rfl (B9.nil w w.heap.size _) rfl h2 (LA _) (by simp;omega) (V6 _) ?k)
 case k=>
 intro A m cap w1 hm hown hk hr;go_wp2;go_ret;exact⟨_,rfl,by simpa using hown,AA.mono hk (fun i hi e=>by cases e)⟩
theorem SU {k:IntKind} {a b:Int} (h:a=b):Ending.returned (.int k a)= .returned (.int k b):=by rw[h]
def FC (n:Int) (m:Nat):Nat:=(if n<0 then -(n+1)else n).toNat%m
theorem Fu (n:Int) (m:Nat) (h:0<m):FC n m<m:=Nat.mod_lt _ h
theorem N3 (n:Int) (m:Nat) (w:World) (hn:BI n) (hm:0<m) (hm2:m≤9223372036854775807):
  Calls Tryz.prog 47 #[.int .i64 n,.int .i64 (m:Nat)] w fun e w'=>e= .returned (.int .i64 (FC n m:Nat))∧w=w':=by
 obtain⟨h1,h2⟩:=hn;by_cases h0:n<0
 ·have ha:((-(n+1))%(m:Int))=((FC n m:Nat):Int):=by
   unfold FC;rw[VN h0,Int.natCast_emod,Int.toNat_of_nonneg (by omega)]
  have hmz:((m:Int)==0)=false:=by rw[V4];omega
  have HA:=V3 ha;clear ha;go_enter Tryz.func47,Tryz.ntmps47;go_wp2_with fail;go_ret;exact⟨SU (by rw[←HA.out,←Int.neg_tmod,Int.tmod_eq_emod_of_nonneg (by omega)]),rfl⟩
 have ha:(n%(m:Int))=((FC n m:Nat):Int):=by
  unfold FC;rw[VM h0,Int.natCast_emod,Int.toNat_of_nonneg (by omega)]
 have hmz:((m:Int)==0)=false:=by rw[V4];omega
 have HA:=V3 ha;clear ha;go_enter Tryz.func47,Tryz.ntmps47;go_wp2_with fail;go_ret;exact⟨by rw[←HA.out];rfl,rfl⟩
theorem Hr (a b:Nat) (w:World) (hb:b≤9223372036854775807) (ha:a≤9223372036854775807):
  Calls Tryz.prog 113 #[.int .i64 (a:Nat),.int .i64 (b:Nat)] w fun e w'=>e= .returned (.int .i64 (Nat.gcd a b:Nat))∧∃n,w'=w.drewN n:=by
 go_enter Tryz.func113,Tryz.ntmps113;go_wp2_with fail;go_loopw [0,1] (fun s t wr=>∃(x y m:Nat),s= .int .i64 (x:Nat)∧t= .int .i64 (y:Nat)∧x≤9223372036854775807∧y≤9223372036854775807∧Nat.gcd x y=Nat.gcd a b∧wr=w.drewN m) (fun _ t _=>(intOf t).toNat)
 case atStart=>exact⟨a,b,0,rfl,rfl,ha,hb,rfl,rfl⟩
 case round=>
  obtain⟨x,y,m,rfl,rfl,hx,hy,hg,rfl⟩:=hrel;have HG:=V3 hg;clear hg;by_cases h0:y=0
  ·have t0:((y:Int)==0)=true:=by rw[VC];omega
   have t1:((y:Int) !=0)=false:=by simp;omega
   have HY:=V3 h0;clear h0;go_wp2_with fail;go_ret;exact⟨by rw[←HG.out,HY.out,Nat.gcd_zero_right];rfl,m,rfl⟩
  have hy0:0<y:=by omega
  have t0:((y:Int)==0)=false:=by rw[V4];omega
  have t1:((y:Int) !=0)=true:=by simp;omega
  have q0:¬(y:Int)=0:=by omega
  have q1:(x:Int).tmod (y:Int)=((x%y:Nat):Int):=by rw[Int.tmod_eq_emod_of_nonneg (by omega)];rfl
  have hlt:=Nat.mod_lt x hy0;have HGn:=V3 (show Nat.gcd y (x%y)=Nat.gcd a b from by rw[←HG.out,Nat.gcd_comm x y,Nat.gcd_rec y x,Nat.gcd_comm]);clear h0;go_wp2_with fail;go_quiet (fail);have HX:=V3 (show(x:Int)%(y:Int)=((x%y:Nat):Int)from rfl);rw[HX.out];clear q1 t0 t1;go_wp2_with fail;go_roundw
  case rel=>exact⟨y,x%y,m+nq,rfl,rfl,by omega,by omega,HGn.out,by simp[World.drewN,Nat.add_assoc]⟩
  case measure=>simp[intOf];omega
theorem R8 (a b:Nat) (w:World) (hb:b≤18446744073709551615) (ha:a≤18446744073709551615):
  Calls Tryz.prog 116 #[.int .u64 (a:Nat),.int .u64 (b:Nat)] w fun e w'=>e= .returned (.int .u64 (Nat.gcd a b:Nat))∧∃n,w'=w.drewN n:=by
 go_enter Tryz.func116,Tryz.ntmps116;go_wp2_with fail;go_loopw [0,1] (fun s t wr=>∃(x y m:Nat),s= .int .u64 (x:Nat)∧t= .int .u64 (y:Nat)∧x≤18446744073709551615∧y≤18446744073709551615∧Nat.gcd x y=Nat.gcd a b∧wr=w.drewN m) (fun _ t _=>(intOf t).toNat)
 case atStart=>exact⟨a,b,0,rfl,rfl,ha,hb,rfl,rfl⟩
 case round=>
  obtain⟨x,y,m,rfl,rfl,hx,hy,hg,rfl⟩:=hrel;have HG:=V3 hg;clear hg;by_cases h0:y=0
  ·have t0:((y:Int)==0)=true:=by rw[VC];omega
   have t1:((y:Int) !=0)=false:=by simp;omega
   have HY:=V3 h0;clear h0;go_wp2_with fail;go_ret;exact⟨by rw[←HG.out,HY.out,Nat.gcd_zero_right];rfl,m,rfl⟩
  have hy0:0<y:=by omega
  have t0:((y:Int)==0)=false:=by rw[V4];omega
  have t1:((y:Int) !=0)=true:=by simp;omega
  have q0:¬(y:Int)=0:=by omega
  have q1:(x:Int).tmod (y:Int)=((x%y:Nat):Int):=by rw[Int.tmod_eq_emod_of_nonneg (by omega)];rfl
  have hlt:=Nat.mod_lt x hy0;have HGn:=V3 (show Nat.gcd y (x%y)=Nat.gcd a b from by rw[←HG.out,Nat.gcd_comm x y,Nat.gcd_rec y x,Nat.gcd_comm]);clear h0;go_wp2_with fail;go_quiet (fail);have HX:=V3 (show(x:Int)%(y:Int)=((x%y:Nat):Int)from rfl);rw[HX.out];clear q1 t0 t1;go_wp2_with fail;go_roundw
  case rel=>exact⟨y,x%y,m+nq,rfl,rfl,by omega,by omega,HGn.out,by simp[World.drewN,Nat.add_assoc]⟩
  case measure=>simp[intOf];omega
theorem Hj (n:Int) (w:World) (h: -9223372036854775808<n) (h2:n≤9223372036854775807):
  Calls Tryz.prog 119 #[.int .i64 n] w fun e w'=>e= .returned (.int .i64 (n.natAbs:Nat))∧w'=w:=by
 by_cases h0:n<0
 ·have t0:decide (n<0)=true:=by simpa using h0
  have HV:=V3 (show((n.natAbs:Nat):Int)= -n from by omega);go_enter Tryz.func119,Tryz.ntmps119;go_wp2;go_ret;exact⟨by rw[HV.out];rfl,rfl⟩
 have t0:decide (n<0)=false:=by simpa using h0
 have HV:=V3 (show((n.natAbs:Nat):Int)=n from by omega);go_enter Tryz.func119,Tryz.ntmps119;go_wp2;go_ret;exact⟨by rw[HV.out];rfl,rfl⟩
end Go.Proofs.YthpflelgbadkcaaGreatDoor
namespace Go.Proofs.YthpflelgbadkcaaGreatDoor
theorem Mw {t a b:Nat} (h1:t∣a) (h2:t∣b) (hc:a.gcd b=1):t=1:=Nat.dvd_one.1 (hc▸Nat.dvd_gcd h1 h2)
theorem Nv {a b:Int} {p q:Nat} (h1:a.natAbs.gcd p=1) (h2:q.gcd p=1):(a*(q:Int)+b*(p:Int)).natAbs.gcd p=1:=by
 have hp:(a*(q:Int)+b*(p:Int)).natAbs.gcd p∣p:=Nat.gcd_dvd_right _ _;have hn:(a*(q:Int)+b*(p:Int)).natAbs.gcd p∣(a*(q:Int)+b*(p:Int)).natAbs:=Nat.gcd_dvd_left _ _;generalize (a*(q:Int)+b*(p:Int)).natAbs.gcd p=t at*;have h3:(t:Int)∣a*(q:Int)+b*(p:Int):=Int.ofNat_dvd_left.2 hn;have h4:(t:Int)∣b*(p:Int):=Int.dvd_mul_of_dvd_right (Int.natCast_dvd_natCast.2 hp);have h5:(t:Int)∣a*(q:Int):=by
  have:=Int.dvd_sub h3 h4;rwa[Int.add_sub_cancel]at this
 have h6:t∣a.natAbs*q:=by
  have:=Int.ofNat_dvd_left.1 h5;rwa[Int.natAbs_mul,Int.natAbs_natCast]at this
 have h7:(a.natAbs*q).gcd p=1:=Nat.Coprime.mul_left h1 h2;exact Mw h6 hp h7
theorem L1 (a b:Int) (d1 d2:Nat) (h1:0<d1) (c1:a.natAbs.gcd d1=1) (c2:b.natAbs.gcd d2=1):
  (a*((d2/d1.gcd d2:Nat):Int)+b*((d1/d1.gcd d2:Nat):Int)).natAbs.gcd ((d1/d1.gcd d2)*d2)=(a*((d2/d1.gcd d2:Nat):Int)+b*((d1/d1.gcd d2:Nat):Int)).natAbs.gcd (d1.gcd d2):=by
 have hg:0<d1.gcd d2:=Nat.gcd_pos_of_pos_left _ h1;obtain⟨p,hp⟩:=Nat.gcd_dvd_left d1 d2;obtain⟨q,hq⟩:=Nat.gcd_dvd_right d1 d2;have hcop:=Nat.coprime_div_gcd_div_gcd (m:=d1) (n:=d2) hg;generalize hgg:d1.gcd d2=g at*;have e1:d1/g=p:=by rw[hp,Nat.mul_div_cancel_left _ hg]
 have e2:d2/g=q:=by rw[hq,Nat.mul_div_cancel_left _ hg]
 rw[e1,e2]at hcop ⊢;have ca:a.natAbs.gcd p=1:=Nat.Coprime.coprime_dvd_right ⟨g,by rw[hp];exact VO _ _⟩ c1;have cb:b.natAbs.gcd q=1:=Nat.Coprime.coprime_dvd_right ⟨g,by rw[hq];exact VO _ _⟩ c2;have k1:(a*(q:Int)+b*(p:Int)).natAbs.gcd p=1:=Nv ca (by rw[Nat.gcd_comm];exact hcop);have k2:(a*(q:Int)+b*(p:Int)).natAbs.gcd q=1:=by
  rw[Int.add_comm];exact Nv cb hcop
 generalize (a*(q:Int)+b*(p:Int)).natAbs=n at*;rw[hq,Nat.Coprime.gcd_mul_left_cancel_right _ (Nat.Coprime.symm k1),VO g q,Nat.Coprime.gcd_mul_left_cancel_right _ (Nat.Coprime.symm k2)]
theorem Ky (a b d1 d2:Nat) (h1:0<d1) (h2:0<d2) (c1:a.gcd d1=1) (c2:b.gcd d2=1):
  ((a/a.gcd d2)*(b/b.gcd d1)).gcd ((d1/b.gcd d1)*(d2/a.gcd d2))=1:=by
 have hg:0<a.gcd d2:=Nat.gcd_pos_of_pos_right _ h2;have hh:0<b.gcd d1:=Nat.gcd_pos_of_pos_right _ h1;have k1:=Nat.coprime_div_gcd_div_gcd (m:=a) (n:=d2) hg;have k2:=Nat.coprime_div_gcd_div_gcd (m:=b) (n:=d1) hh;have da:a/a.gcd d2∣a:=Nat.div_dvd_of_dvd (Nat.gcd_dvd_left _ _);have db:b/b.gcd d1∣b:=Nat.div_dvd_of_dvd (Nat.gcd_dvd_left _ _);have dd1:d1/b.gcd d1∣d1:=Nat.div_dvd_of_dvd (Nat.gcd_dvd_right _ _);have dd2:d2/a.gcd d2∣d2:=Nat.div_dvd_of_dvd (Nat.gcd_dvd_right _ _);have k3:(a/a.gcd d2).gcd (d1/b.gcd d1)=1:=Nat.Coprime.coprime_dvd_left da (Nat.Coprime.coprime_dvd_right dd1 c1);have k4:(b/b.gcd d1).gcd (d2/a.gcd d2)=1:=Nat.Coprime.coprime_dvd_left db (Nat.Coprime.coprime_dvd_right dd2 c2);exact Nat.Coprime.mul_left (Nat.Coprime.mul_right k3 k1) (Nat.Coprime.mul_right k2 k4)
def Hh (z:Int) (d:Nat):Int×Int×Int:=
 if z.natAbs/z.natAbs.gcd d≤4611686018427387904∧d/z.natAbs.gcd d≤4611686018427387904 then(z.tdiv ((z.natAbs.gcd d:Nat):Int),((d/z.natAbs.gcd d:Nat):Int),0)else(0,0,5)
def Al (n d:Int):Bool:=decide (1≤d∧d≤4611686018427387904∧ -4611686018427387904≤n∧n≤4611686018427387904∧n.natAbs.gcd d.toNat=1)
def EH (n1 d1 n2 d2:Int):Int×Int×Int:=if Al n1 d1=true∧Al n2 d2=true then Hh (n1*n2) (d1*d2).toNat else(0,0,1)
def Em (n1 d1 n2 d2:Int):Int×Int×Int:=if Al n1 d1=true∧Al n2 d2=true then Hh (n1*d2+n2*d1) (d1*d2).toNat else(0,0,1)
def Jx (n1 d1 n2 d2:Int):Int×Int×Int:=if Al n1 d1=true∧Al n2 d2=true then Em n1 d1 (-n2) d2 else(0,0,1)
def Hy (n1 d1 n2 d2:Int):Int×Int×Int:=
 if Al n1 d1=true∧Al n2 d2=true then(if n2=0 then(0,0,6)else if n2<0 then EH n1 d1 (-d2) (-n2)else EH n1 d1 d2 n2)else(0,0,1)
theorem JQ (k:Nat) (hk:0<k) (z:Int) (d:Nat):Hh ((k:Int)*z) (k*d)=Hh z d:=by
 have e:((k:Int)*z).natAbs.gcd (k*d)=k*z.natAbs.gcd d:=by rw[Int.natAbs_mul,Int.natAbs_natCast,Nat.gcd_mul_left]
 unfold Hh;rw[e];rw[Int.natAbs_mul,Int.natAbs_natCast,Nat.mul_div_mul_left _ _ hk,Nat.mul_div_mul_left _ _ hk];rw[VL,Int.mul_tdiv_mul_of_pos _ _ (by omega)]
theorem QW {z:Int} {d:Nat} (h:z.natAbs.gcd d=1):Hh z d=if z.natAbs≤4611686018427387904∧d≤4611686018427387904 then(z,(d:Int),0)else(0,0,5):=by
 unfold Hh;rw[h,Nat.div_one,Nat.div_one];simp
theorem P6 {d:Nat} (h:0<d):Hh 0 d=(0,1,0):=by
 unfold Hh;simp[Nat.div_self h]
theorem BT {n d:Int} (h:Al n d=true):1≤d∧d≤4611686018427387904∧ -4611686018427387904≤n∧n≤4611686018427387904∧n.natAbs.gcd d.toNat=1:=by simpa[Al]using h
theorem SC {n1 d1 n2 d2:Int} (h1:Al n1 d1=true) (h2:Al n2 d2=true):
  EH n1 d1 n2 d2=(if(n1.tdiv ((n1.natAbs.gcd d2.toNat:Nat):Int)*n2.tdiv ((n2.natAbs.gcd d1.toNat:Nat):Int)).natAbs≤4611686018427387904∧(d1.tdiv ((n2.natAbs.gcd d1.toNat:Nat):Int)*d2.tdiv ((n1.natAbs.gcd d2.toNat:Nat):Int)).natAbs≤4611686018427387904 then(n1.tdiv ((n1.natAbs.gcd d2.toNat:Nat):Int)*n2.tdiv ((n2.natAbs.gcd d1.toNat:Nat):Int),d1.tdiv ((n2.natAbs.gcd d1.toNat:Nat):Int)*d2.tdiv ((n1.natAbs.gcd d2.toNat:Nat):Int),0)else(0,0,5)):=by
 unfold EH;rw[VN ⟨h1,h2⟩];obtain⟨a1,a2,a3,a4,a5⟩:=BT h1;obtain⟨b1,b2,b3,b4,b5⟩:=BT h2;obtain⟨p,rfl⟩:∃p:Nat,d1=(p:Int):=⟨d1.toNat,by omega⟩;obtain⟨q,rfl⟩:∃q:Nat,d2=(q:Int):=⟨d2.toNat,by omega⟩;rw[Int.toNat_natCast]at a5 b5;have hc:=Ky n1.natAbs n2.natAbs p q (by omega) (by omega) a5 b5;have hg:0<n1.natAbs.gcd q:=Nat.gcd_pos_of_pos_right _ (by omega);have hh:0<n2.natAbs.gcd p:=Nat.gcd_pos_of_pos_right _ (by omega);have g1:=Nat.gcd_dvd_left n1.natAbs q;have g2:=Nat.gcd_dvd_right n1.natAbs q;have k1:=Nat.gcd_dvd_left n2.natAbs p;have k2:=Nat.gcd_dvd_right n2.natAbs p;simp only[Int.toNat_natCast];rw[show((p:Int)*(q:Int)).toNat=p*q from by rw[←VL];rfl];generalize n1.natAbs.gcd q=g at*;generalize n2.natAbs.gcd p=h at*;obtain⟨x,hx⟩:=Int.ofNat_dvd_left.2 g1;obtain⟨y,hy⟩:=Int.ofNat_dvd_left.2 k1;obtain⟨s,rfl⟩:=g2;obtain⟨t,rfl⟩:=k2;have gi:(g:Int)≠0:=by omega
 have hi:(h:Int)≠0:=by omega
 have e1:n1.tdiv (g:Int)=x:=by rw[hx,Int.mul_tdiv_cancel_left _ gi]
 have e2:n2.tdiv (h:Int)=y:=by rw[hy,Int.mul_tdiv_cancel_left _ hi]
 have e3:((h*t:Nat):Int).tdiv (h:Int)=(t:Int):=by rw[VL,Int.mul_tdiv_cancel_left _ hi]
 have e4:((g*s:Nat):Int).tdiv (g:Int)=(s:Int):=by rw[VL,Int.mul_tdiv_cancel_left _ gi]
 rw[e1,e2,e3,e4];have f1:n1.natAbs/g=x.natAbs:=by rw[hx,Int.natAbs_mul,Int.natAbs_natCast,Nat.mul_div_cancel_left _ hg]
 have f2:n2.natAbs/h=y.natAbs:=by rw[hy,Int.natAbs_mul,Int.natAbs_natCast,Nat.mul_div_cancel_left _ hh]
 rw[f1,f2,Nat.mul_div_cancel_left _ hg,Nat.mul_div_cancel_left _ hh]at hc;have e5:n1*n2=((g*h:Nat):Int)*(x*y):=by
  rw[hx,hy,VL];simp only[Int.mul_assoc,Int.mul_left_comm,Int.mul_comm]
 have e6:h*t*(g*s)=(g*h)*(t*s):=by simp only[VT,Nat.mul_left_comm,VO]
 rw[e5,e6,JQ _ (Nat.mul_pos hg hh),QW (by rw[Int.natAbs_mul];exact hc)];rw[←VL,Int.natAbs_natCast]
theorem S8 {n1 d1 n2 d2:Int} (h1:Al n1 d1=true) (h2:Al n2 d2=true) (p q:Nat) (hp:d1=(p:Int)) (hq:d2=(q:Int)) (z:Int) (hz:z=n1*((q/p.gcd q:Nat):Int)+n2*((p/p.gcd q:Nat):Int)):
  Em n1 d1 n2 d2=if z=0 then(0,1,0)else if z.natAbs/z.natAbs.gcd (p.gcd q)≤4611686018427387904∧(p/p.gcd q)*(q/z.natAbs.gcd (p.gcd q))≤4611686018427387904 then(z.tdiv ((z.natAbs.gcd (p.gcd q):Nat):Int),(((p/p.gcd q)*(q/z.natAbs.gcd (p.gcd q)):Nat):Int),0)else(0,0,5):=by
 unfold Em;rw[VN ⟨h1,h2⟩];subst hp;subst hq;obtain⟨a1,a2,a3,a4,a5⟩:=BT h1;obtain⟨b1,b2,b3,b4,b5⟩:=BT h2;rw[Int.toNat_natCast]at a5 b5;have hc:=L1 n1 n2 p q (by omega) a5 b5;rw[←hz]at hc;have hg:0<p.gcd q:=Nat.gcd_pos_of_pos_left _ (by omega);have g1:=Nat.gcd_dvd_left p q;have g2:=Nat.gcd_dvd_right p q;rw[show((p:Int)*(q:Int)).toNat=p*q from by rw[←VL];rfl];have e1:n1*(q:Int)+n2*(p:Int)=((p.gcd q:Nat):Int)*z:=by
  rw[hz,Int.mul_add];have h3:((p.gcd q:Nat):Int)*((q/p.gcd q:Nat):Int)=(q:Int):=by rw[←VL,Nat.mul_div_cancel' g2]
  have h4:((p.gcd q:Nat):Int)*((p/p.gcd q:Nat):Int)=(p:Int):=by rw[←VL,Nat.mul_div_cancel' g1]
  rw[Int.mul_left_comm,h3,Int.mul_left_comm,h4]
 have e2:p*q=p.gcd q*((p/p.gcd q)*q):=by rw[←VT,Nat.mul_div_cancel' g1]
 rw[e1,e2,JQ _ hg];have hpp:0<p/p.gcd q:=Nat.div_pos (Nat.le_of_dvd (by omega) g1) hg;by_cases h0:z=0
 ·rw[VN h0,h0,P6 (Nat.mul_pos hpp (by omega))]
 rw[VM h0];unfold Hh;rw[hc];have hd:z.natAbs.gcd (p.gcd q)∣q:=Nat.dvd_trans (Nat.gcd_dvd_right _ _) g2;rw[Nat.mul_div_assoc _ hd]
theorem MT {n1 d1 n2 d2:Int} (h:Al n1 d1=false∨Al n2 d2=false):EH n1 d1 n2 d2=(0,0,1):=by
 unfold EH;rw[VM];rintro⟨h1,h2⟩;rcases h with h|h
 ·rw[h1]at h;cases h
 rw[h2]at h;cases h
theorem MS {n1 d1 n2 d2:Int} (h:Al n1 d1=false∨Al n2 d2=false):Em n1 d1 n2 d2=(0,0,1):=by
 unfold Em;rw[VM];rintro⟨h1,h2⟩;rcases h with h|h
 ·rw[h1]at h;cases h
 rw[h2]at h;cases h
theorem Lw {n1 d1 n2 d2:Int} (h:Al n1 d1=false∨Al n2 d2=false):Jx n1 d1 n2 d2=(0,0,1):=by
 unfold Jx;rw[VM];rintro⟨h1,h2⟩;rcases h with h|h
 ·rw[h1]at h;cases h
 rw[h2]at h;cases h
theorem LV {n1 d1 n2 d2:Int} (h:Al n1 d1=false∨Al n2 d2=false):Hy n1 d1 n2 d2=(0,0,1):=by
 unfold Hy;rw[VM];rintro⟨h1,h2⟩;rcases h with h|h
 ·rw[h1]at h;cases h
 rw[h2]at h;cases h
theorem P9 {n1 d1 n2 d2:Int} (h1:Al n1 d1=true) (h2:Al n2 d2=true) (h:n2=0):Hy n1 d1 n2 d2=(0,0,6):=by
 unfold Hy;rw[VN ⟨h1,h2⟩,VN h]
theorem Pe {n1 d1 n2 d2:Int} (h1:Al n1 d1=true) (h2:Al n2 d2=true) (h:¬n2=0) (h3:n2<0):Hy n1 d1 n2 d2=EH n1 d1 (-d2) (-n2):=by
 unfold Hy;rw[VN ⟨h1,h2⟩,VM h,VN h3]
theorem Qy {n1 d1 n2 d2:Int} (h1:Al n1 d1=true) (h2:Al n2 d2=true) (h:¬n2=0) (h3:¬n2<0):Hy n1 d1 n2 d2=EH n1 d1 d2 n2:=by
 unfold Hy;rw[VN ⟨h1,h2⟩,VM h,VM h3]
theorem Rh {n1 d1 n2 d2:Int} (h1:Al n1 d1=true) (h2:Al n2 d2=true):Jx n1 d1 n2 d2=Em n1 d1 (-n2) d2:=by
 unfold Jx;rw[VN ⟨h1,h2⟩]
end Go.Proofs.YthpflelgbadkcaaGreatDoor
namespace Go.Proofs.YthpflelgbadkcaaGreatDoor
open Go.RowKit Pl
theorem G8 {n d:Int} (h:d<1∨4611686018427387904<d∨n< -4611686018427387904∨4611686018427387904<n):Al n d=false:=by
 unfold Al;rw[decide_eq_false_iff_not];omega
theorem Mr {n d:Int} (h1:¬d<1) (h2:¬4611686018427387904<d) (h3:¬n< -4611686018427387904) (h4:¬4611686018427387904<n):Al n d=(((n.natAbs.gcd d.toNat:Nat):Int)==1):=by
 unfold Al;rw[Bool.eq_iff_iff,decide_eq_true_iff,VC];omega
theorem Jd (n d:Int) (w:World) (hn:BI n) (hd:BI d):
  Calls Tryz.prog 92 #[.agg #[.int .i64 n,.int .i64 d]] w fun e w'=>e= .returned (.bool (Al n d))∧A4 w w':=by
 obtain⟨n1,n2⟩:=hn;obtain⟨d1,d2⟩:=hd;have hbx:=VW w 24 #[.int .i64 n,.int .i64 d];have HG:=V3 ((VU w).alloc (.cells #[.int .i64 n,.int .i64 d] 24));go_enter Tryz.func92,Tryz.ntmps92;go_upto_region 1 with fail;generalize w.alloc (.cells #[.int .i64 n,.int .i64 d] 24)=w1 at*;have c0:w1.cell? ⟨w.heap.size,0,none⟩=some (.int .i64 n):=hbx.cell 0;have c1:w1.cell? ⟨w.heap.size,1,none⟩=some (.int .i64 d):=hbx.cell 1;clear hbx;by_cases h1:d<1
 ·have HV:=V3 (G8 (n:=n) (.inl h1));have t1:decide (d<1)=true:=by simpa using h1
  go_wp2_with fail;go_ret;exact⟨by rw[HV.out];rfl,HG.out⟩
 have t1:decide (d<1)=false:=by simpa using h1
 by_cases h2:4611686018427387904<d
 ·have HV:=V3 (G8 (n:=n) (.inr (.inl h2)));have t2:decide (4611686018427387904<d)=true:=by simpa using h2
  clear h1 h2;go_wp2_with fail;go_ret;exact⟨by rw[HV.out];rfl,HG.out⟩
 have t2:decide (4611686018427387904<d)=false:=by simpa using h2
 by_cases h3:n< -4611686018427387904
 ·have HV:=V3 (G8 (d:=d) (.inr (.inr (.inl h3))));have t3:decide (n< -4611686018427387904)=true:=by simpa using h3
  clear h1 h2 h3;go_wp2_with fail;go_ret;exact⟨by rw[HV.out];rfl,HG.out⟩
 have t3:decide (n< -4611686018427387904)=false:=by simpa using h3
 by_cases h4:4611686018427387904<n
 ·have HV:=V3 (G8 (d:=d) (.inr (.inr (.inr h4))));have t4:decide (4611686018427387904<n)=true:=by simpa using h4
  clear h1 h2 h3 h4;go_wp2_with fail;go_ret;exact⟨by rw[HV.out];rfl,HG.out⟩
 have t4:decide (4611686018427387904<n)=false:=by simpa using h4
 have HV:=V3 (Mr h1 h2 h3 h4);obtain⟨m,hm⟩:∃m:Nat,d=(m:Int):=⟨d.toNat,by omega⟩;subst hm;rw[Int.toNat_natCast]at HV;have HA:=V3 (fun w'=>Hj n w' (by omega) (by omega));have HGc:=V3 (fun w'=>Hr n.natAbs m w' (by omega) (by omega));clear h1 h2 h3 h4;go_wp2_with fail;go_quiet ((first|(go_at_call 119;exact Calls.quiet_of_same (HA.out _))|(go_at_call 113;exact Calls.quiet_of (HGc.out _))));obtain⟨gb,hgb⟩:∃gb:Bool,(((n.natAbs.gcd m:Nat):Int)==1)=gb:=⟨_,rfl⟩;rw[hgb]at HV ⊢;clear hgb t1 t2 t3 t4 c0 c1;go_wp2_with fail;go_ret;exact⟨by rw[HV.out];rfl,Va HG.out _⟩
def vu (n:Nat):Value:= .int .u64 (n:Int)
theorem AS (n:Nat) (h:n<18446744073709551616):IntKind.u64.wrap (n:Int)=(n:Int):=by
 show(n:Int)%2^64=(n:Int);omega
theorem CI (w:World) (t t':TypeId) (A B:Array Value):AR ((w.alloc (.cells A t)).alloc (.cells B t')) w.heap.size t A∧AR ((w.alloc (.cells A t)).alloc (.cells B t')) (w.heap.size+1) t' B∧A4 w ((w.alloc (.cells A t)).alloc (.cells B t')):=by
 have hz:(w.alloc (.cells A t)).heap.size=w.heap.size+1:=World.size_alloc ..;have h2:=VW (w.alloc (.cells A t)) t' B;rw[hz]at h2;exact⟨(VW w t A).alloc _,h2,((VU w).alloc _).alloc _⟩
theorem Ci (w:World) (t t' t'':TypeId) (A B C:Array Value):AR (((w.alloc (.cells A t)).alloc (.cells B t')).alloc (.cells C t'')) w.heap.size t A∧AR (((w.alloc (.cells A t)).alloc (.cells B t')).alloc (.cells C t'')) (w.heap.size+1) t' B∧AR (((w.alloc (.cells A t)).alloc (.cells B t')).alloc (.cells C t'')) (w.heap.size+1+1) t'' C∧A4 w (((w.alloc (.cells A t)).alloc (.cells B t')).alloc (.cells C t'')):=by
 obtain⟨h1,h2,h3⟩:=CI w t t' A B;have hz:((w.alloc (.cells A t)).alloc (.cells B t')).heap.size=w.heap.size+1+1:=by rw[World.size_alloc,World.size_alloc]
 have h4:=VW ((w.alloc (.cells A t)).alloc (.cells B t')) t'' C;rw[hz]at h4;exact⟨h1.alloc _,h2.alloc _,h4,h3.alloc _⟩
theorem AO {fn:Func} {p:Tmp} {ty:TypeId} (h:fn.results=#[.cell p ty]) {tmps:Array Value} {w:World} {g:Nat} {vs:List Value} {t:TypeId} (hp:tmps.getD p undef= .pointer (some ⟨g,0,none⟩)) (hT:(Tryz.prog.info? ty).map (·.size)=some vs.length) {d:TypeDesc} (hu:Tryz.prog.underlying ty=some d) (hd:d.isRow=true) (hb:AR w g t vs.toArray):
  (results fn tmps).run Tryz.prog w= .ok (.agg vs.toArray) w:=by
 have hl:=run_loadVar_mid (P:=Tryz.prog) w g 0 ty vs d (hb.rangeN 0 vs (by simp)) hu hd hT;simp only[results,h];rw[Array.getD_eq_getD_getElem?]at hp;simp[hp,hl,asAddr]
theorem Cw (z:Int) (h:0≤z) (h2:z<18446744073709551616):IntKind.u64.wrap z=z:=by
 show z%2^64=z;omega
end Go.Proofs.YthpflelgbadkcaaGreatDoor
namespace Go.Proofs.YthpflelgbadkcaaGreatDoor
end Go.Proofs.YthpflelgbadkcaaGreatDoor
namespace Go.Proofs.YthpflelgbadkcaaGreatDoor
open Go.RowKit Pl
end Go.Proofs.YthpflelgbadkcaaGreatDoor
namespace Go.Proofs.YthpflelgbadkcaaGreatDoor
open Go.RowKit
def Lf (T:TypeId) (n:Nat):Prop:=(Tryz.prog.info? T).map (·.size)=some n∧∃d,Tryz.prog.underlying T=some d∧d.isRow=true
def TN (vs:List Value):Prop:=∀v∈vs,v.oneCell'=true
theorem Ts {vs:List Value} (h:vs.all (·.oneCell')=true):TN vs:=List.all_eq_true.1 h
section
variable {w:World} {ops:Array Oper} {rest:List Oper} {o:Oper} {a:Act} {Q:Exit→Act→World→Prop} {K:Act→World→Prop} {T:TypeId} {n b k g:Nat} {vs us:List Value} {t:TypeId}
theorem lN (x:Operand) (hb:AR w g t vs.toArray) (hr:Lf T n) (h:wpList Tryz.prog ops Q rest (a.put o.dst (.agg vs.toArray)) w) (ho:o.op= .load T x:=by with_reducible exact rfl) (hl:vs.length=n:=by exact rfl) (hgd:o.guard=none:=by exact rfl) (hx:a.eval x= .pointer (some ⟨g,0,none⟩):=by exact rfl):wpList Tryz.prog ops Q (o::rest) a w:=by
 obtain⟨h1,d,h2,h3⟩:=hr;exact BZ T h2 h3 x g vs t (by rw[hl];exact h1) hgd ho hx hb h
theorem sN (x y:Operand) (vs:List Value) (hb:AR w g t us.toArray) (hr:Lf T n) (h:∀w',AR w' g t vs.toArray→AA (fun i=>i=g) w w'→w'.drawn=w.drawn→wpList Tryz.prog ops Q rest (a.put o.dst undef) w')
  (ho:o.op= .store T x y:=by with_reducible exact rfl) (hy:a.eval y= .agg vs.toArray:=by exact rfl) (hl:vs.length=n:=by exact rfl) (h1:TN vs:=by exact Ts rfl) (hu:us.length=n:=by exact rfl) (hgd:o.guard=none:=by exact rfl) (hx:a.eval x= .pointer (some ⟨g,0,none⟩):=by exact rfl):wpList Tryz.prog ops Q (o::rest) a w:=
 BL T x y g vs us t (by rw[hl];exact hr.1) (hu.trans hl.symm) h1 hgd ho hx hy hb h
theorem lM (x:Operand) (hm:w.rangeAt b k vs) (hr:Lf T n) (h:wpList Tryz.prog ops Q rest (a.put o.dst (.agg vs.toArray)) w) (ho:o.op= .load T x:=by with_reducible exact rfl) (hl:vs.length=n:=by exact rfl) (hgd:o.guard=none:=by exact rfl) (hx:a.eval x= .pointer (some ⟨b,k,none⟩):=by exact rfl):wpList Tryz.prog ops Q (o::rest) a w:=by
 obtain⟨h1,d,h2,h3⟩:=hr;exact wpList_load_mid hgd T x ho b k hx vs _ hm h2 h3 (by rw[hl];exact h1) h
theorem mM (x:Operand) (hm:w.rangeAt b k vs) (hr:Lf T n) (h:K (a.put o.dst (.agg vs.toArray)) w) (ho:o.op= .load T x:=by exact rfl) (hl:vs.length=n:=by exact rfl) (hx:a.eval x= .pointer (some ⟨b,k,none⟩):=by exact rfl):o.wp Tryz.prog a w K Q:=by
 obtain⟨h1,d,h2,h3⟩:=hr;exact wp_load_mid T x ho b k hx vs _ hm h2 h3 (by rw[hl];exact h1) h
theorem UX (x:Operand) (hb:AR w g t vs.toArray) (hr:Lf T n) (h:K (a.put o.dst (.agg vs.toArray)) w) (ho:o.op= .load T x:=by exact rfl) (hl:vs.length=n:=by exact rfl) (hx:a.eval x= .pointer (some ⟨g,0,none⟩):=by exact rfl):o.wp Tryz.prog a w K Q:=
 mM x (hb.rangeN 0 vs (by simp)) hr h ho hl hx
theorem sW (x y:Operand) (vs:List Value) (hb:AR w g t us.toArray) (hr:Lf T n) (h:∀w',AR w' g t vs.toArray→AA (fun i=>i=g) w w'→K (a.put o.dst undef) w')
  (ho:o.op= .store T x y:=by exact rfl) (hl:vs.length=n:=by exact rfl) (h1:TN vs:=by exact Ts rfl) (hu:us.length=n:=by exact rfl) (hx:a.eval x= .pointer (some ⟨g,0,none⟩):=by exact rfl) (hy:a.eval y= .agg vs.toArray:=by exact rfl):o.wp Tryz.prog a w K Q:=by
 refine wp_store_mid T x y ho g 0 vs.toArray hx hy (by simpa using hb.thereN 0 vs.length (by omega)) (by rw[List.size_toArray,hl];exact hr.1) (all_oneCell_toArray h1) ?_;have hp:=hb.putN vs 0 (by omega);have e:us.take 0++vs++us.drop (0+vs.length)=vs:=by
  rw[hl,←hu];simp
 rw[e]at hp;exact h _ hp (C3 g vs 0 w).1
theorem lO {G:Act} {v:Value} (x:Operand) (hc:w.cell? ⟨b,k,none⟩=some v) (ho:o.op= .load T x:=by exact rfl) (hl:∀(w:World) (v:Value),w.cell? ⟨b,k,none⟩=some v→(loadVar T ⟨b,k,none⟩).run Tryz.prog w= .ok v w:=by intro w v h;simp[go_sem,h]) (hx:a.eval x= .pointer (some ⟨b,k,none⟩):=by kernel_rfl) (hG:a.put o.dst v=G:=by kernel_rfl):o.wp Tryz.prog a w (fun a' w'=>a'=G∧A4 w w') Q:=by
 unfold Oper.wp execOp;simp only[ho,hx,Instr.loadAt,Instr.sureAddr,Sem.run_bind,Sem.run_pure,Result.andThen_ok,hl w v hc];exact⟨hG,VU _⟩
variable {fn:Func} {R:Ending→World→Prop} {p q:Tmp} {v:Value}
theorem rO (hr:Lf T n) (hb:AR w g t vs.toArray) (hR:R (.returned (.agg vs.toArray)) w) (h:fn.results=#[.cell p T]:=by exact rfl) (hp:a.tmps.getD p undef= .pointer (some ⟨g,0,none⟩):=by exact rfl) (hl:vs.length=n:=by exact rfl) (hd:a.defers=[]:=by exact rfl):bodyPost Tryz.prog fn R .ret a w:=by
 obtain⟨h1,d,h2,h3⟩:=hr;refine bodyPost_ret ?_ hd hR;have hl:=run_loadVar_mid (P:=Tryz.prog) w g 0 T vs d (hb.rangeN 0 vs (by simp)) h2 h3 (by rw[hl];exact h1);simp only[results,h];rw[Array.getD_eq_getD_getElem?]at hp;simp[hp,hl,asAddr]
theorem rT (hr:Lf T n) (hb:AR w g t vs.toArray) (hR:R (.returned (.tuple #[.agg vs.toArray,v])) w) (h:fn.results=#[.cell p T,.tmp q]:=by exact rfl) (hp:a.tmps.getD p undef= .pointer (some ⟨g,0,none⟩):=by exact rfl) (hq:a.tmps.getD q undef=v:=by exact rfl) (hl:vs.length=n:=by exact rfl) (hd:a.defers=[]:=by exact rfl):bodyPost Tryz.prog fn R .ret a w:=by
 obtain⟨h1,d,h2,h3⟩:=hr;refine bodyPost_ret ?_ hd hR;have hl:=run_loadVar_mid (P:=Tryz.prog) w g 0 T vs d (hb.rangeN 0 vs (by simp)) h2 h3 (by rw[hl];exact h1);simp only[results,h];rw[Array.getD_eq_getD_getElem?]at hp hq
 first|(simp[hp,hq,Result.andThen,hl,asAddr];done)|(simp[Sem.run_bind,hp,hq,Result.andThen,hl,asAddr];done)|(simp only[Sem.run_bind];simp[hp,hq,Result.andThen,hl,asAddr])
end
end Go.Proofs.YthpflelgbadkcaaGreatDoor
namespace Go.Proofs.YthpflelgbadkcaaGreatDoor
open Go.RowKit Pl
def AI (n d:Int):List Value:=[.int .i64 n,.int .i64 d]
def FZ (p:Int×Int×Int):Value:= .tuple #[.agg (AI p.1 p.2.1).toArray,.int .i64 p.2.2]
theorem B7 (n d:Int):∀v∈AI n d,v.oneCell'=true:=by
 intro v hv;simp[AI]at hv;rcases hv with rfl|rfl<;>rfl
theorem Ao:(Tryz.prog.info? 24).map (·.size)=some 2:=by kernel_rfl
theorem rF:Lf 24 2:=⟨Ao,_,Tryz.underlying24,rfl⟩
theorem Au {fn:Func} {p q:Tmp} {ty:TypeId} (h:fn.results=#[.cell p ty,.tmp q]) {tmps:Array Value} {w:World} {g:Nat} {vs:List Value} {v:Value} {t:TypeId} (hp:tmps.getD p undef= .pointer (some ⟨g,0,none⟩)) (hq:tmps.getD q undef=v) (hT:(Tryz.prog.info? ty).map (·.size)=some vs.length) {d:TypeDesc} (hu:Tryz.prog.underlying ty=some d) (hd:d.isRow=true) (hb:AR w g t vs.toArray):
  (results fn tmps).run Tryz.prog w= .ok (.tuple #[.agg vs.toArray,v]) w:=by
 have hl:=run_loadVar_mid (P:=Tryz.prog) w g 0 ty vs d (hb.rangeN 0 vs (by simp)) hu hd hT;simp only[results,h];rw[Array.getD_eq_getD_getElem?]at hp hq
 first|(simp[hp,hq,Result.andThen,hl,asAddr];done)|(simp[Sem.run_bind,hp,hq,Result.andThen,hl,asAddr];done)|(simp only[Sem.run_bind];simp[hp,hq,Result.andThen,hl,asAddr])
theorem QF {P:Program} {ops:Array Oper} {rest:List Oper} {o:Oper} {a:Act} {w:World} {Q:Exit→Act→World→Prop} (hw:Region.wanted o (yielded ops a.tmps)=true) (T:TypeId) {d:TypeDesc} (hu:P.underlying T=some d) (hd:d.isRow=true) (x:Operand) (g:Nat) (vs:List Value) (t:TypeId) (hT:(P.info? T).map (·.size)=some vs.length) (ho:o.op= .load T x)
  (hx:a.eval x= .pointer (some ⟨g,0,none⟩)) (hb:AR w g t vs.toArray)
  (h:wpList P ops Q rest (a.put o.dst (.agg vs.toArray)) w):wpList P ops Q (o::rest) a w:=
 wpList_step fun K hK=>by rw[VN hw];exact wp_load_mid T x ho g 0 hx vs d (hb.rangeN 0 vs (by simp)) hu hd hT (hK _ _ h)
theorem F6 (a b c d:Int) (r:Bool) (hr:decide (a=c∧b=d)=r) (w:World):(binOp .eql 24 (.agg (AI a b).toArray) (.agg (AI c d).toArray)).run Tryz.prog w= .ok (.bool r) w:=by
 have h1:∀w,(part 3 (AI a b).toArray 0).run Tryz.prog w= .ok (.int .i64 a) w:=fun w=>by simp[go_sem,part,Tryz.underlying3,AI]
 have h2:∀w,(part 3 (AI a b).toArray 1).run Tryz.prog w= .ok (.int .i64 b) w:=fun w=>by simp[go_sem,part,Tryz.underlying3,AI]
 have h3:∀w,(part 3 (AI c d).toArray 0).run Tryz.prog w= .ok (.int .i64 c) w:=fun w=>by simp[go_sem,part,Tryz.underlying3,AI]
 have h4:∀w,(part 3 (AI c d).toArray 1).run Tryz.prog w= .ok (.int .i64 d) w:=fun w=>by simp[go_sem,part,Tryz.underlying3,AI]
 have e1:∀w,(Op.equalIn 9999 3 (.int .i64 a) (.int .i64 c)).run Tryz.prog w= .ok (a==c) w:=fun w=>run_equalIn_int w 9998 3 _ _ _ _ Tryz.underlying3
 have e2:∀w,(Op.equalIn 9999 3 (.int .i64 b) (.int .i64 d)).run Tryz.prog w= .ok (b==d) w:=fun w=>run_equalIn_int w 9998 3 _ _ _ _ Tryz.underlying3
 have hf:(Tryz.prog.fieldsOf 24).toList.map (fun f=>(f.name,f.type,f.offset))=[("Num",3,0),("Den",3,1)]:=by kernel_rfl
 rw[run_eql_struct,run_equalIn_struct w 9999 24 _ _ (by kernel_rfl) (by kernel_rfl)];generalize (Tryz.prog.fieldsOf 24).toList=fs at hf ⊢;rcases fs with _|⟨f1,_|⟨f2,_|⟨f3,fs⟩⟩⟩
 ·exact absurd (congrArg List.length hf) (by simp)
 ·exact absurd (congrArg List.length hf) (by simp)
 ·simp only[List.map_cons,List.map_nil,List.cons.injEq,VP,and_true]at hf;obtain⟨⟨m1,t1,o1⟩,m2,t2,o2⟩:=hf;have key:(Op.eqFields 9999 (AI a b).toArray (AI c d).toArray [f1,f2]).run Tryz.prog w= .ok (decide (a=c∧b=d)) w:=by
   have n1:f1.name≠ "_":=by rw[m1];decide
   have n2:f2.name≠ "_":=by rw[m2];decide
   simp only[Op.eqFields,t1,t2,o1,o2,VN n1,VN n2,Sem.run_bind,h1,h2,h3,h4,e1,e2,Result.andThen_ok,Sem.run_ite,Sem.run_pure];by_cases x1:a=c<;>by_cases x2:b=d<;>simp[x1,x2]
  rw[key,hr];rfl
 exact absurd (congrArg List.length hf) (by simp)
end Go.Proofs.YthpflelgbadkcaaGreatDoor
