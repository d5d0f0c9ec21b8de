/- What the card of the law stands on: RatPl, Frac2, NatA, NatB, NatH, NatL. -/
import Derived.Test.YtkclnhpofkaclaaGreatDoorRewriteFoldP04
import Derived.BigQuiet
import Derived.Deep.DeepCutAuto
import Derived.Test.YtkclnhpofkaclaaGreatDoorRewriteFoldP01
set_option maxRecDepth 100000
set_option maxHeartbeats 12800000
set_option linter.unusedVariables false
set_option linter.unusedSimpArgs false
namespace Go.Proofs.YtkclnhpofkaclaaGreatDoor
def Cz (z:Int) (d:Nat):Int×Int×Int:=
 if z.natAbs/z.natAbs.gcd d≤4611686018427387904∧d/z.natAbs.gcd d≤4611686018427387904 then(z.tdiv ((z.natAbs.gcd d:Nat):Int),((d/z.natAbs.gcd d:Nat):Int),0)else(0,0,5)
def AU (n d:Int):Bool:=decide (1≤d∧d≤4611686018427387904∧ -4611686018427387904≤n∧n≤4611686018427387904∧n.natAbs.gcd d.toNat=1)
def EZ (n d:Int):Int×Int×Int:=
 if d=0 then(0,0,6)else if n= -9223372036854775808∨d= -9223372036854775808 then(0,0,5)else Cz (if d<0 then -n else n) d.natAbs
def DE (n1 d1 n2 d2:Int):Int×Int×Int:=if AU n1 d1=true∧AU n2 d2=true then Cz (n1*n2) (d1*d2).toNat else(0,0,1)
def DQ (n1 d1 n2 d2:Int):Int×Int×Int:=if AU n1 d1=true∧AU n2 d2=true then Cz (n1*d2+n2*d1) (d1*d2).toNat else(0,0,1)
def GA (n1 d1 n2 d2:Int):Int×Int×Int:=if AU n1 d1=true∧AU n2 d2=true then DQ n1 d1 (-n2) d2 else(0,0,1)
def GL (n1 d1 n2 d2:Int):Int×Int×Int:=
 if AU n1 d1=true∧AU n2 d2=true then(if n2=0 then(0,0,6)else if n2<0 then DE n1 d1 (-d2) (-n2)else DE n1 d1 d2 n2)else(0,0,1)
theorem IA (k:Nat) (hk:0<k) (z:Int) (d:Nat):Cz ((k:Int)*z) (k*d)=Cz z d:=by
 have e:((k:Int)*z).natAbs.gcd (k*d)=k*z.natAbs.gcd d:=by rw[Int.natAbs_mul,Int.natAbs_natCast,Nat.gcd_mul_left]
 unfold Cz;rw[e];rw[Int.natAbs_mul,Int.natAbs_natCast,Nat.mul_div_mul_left _ _ hk,Nat.mul_div_mul_left _ _ hk];rw[Um,Int.mul_tdiv_mul_of_pos _ _ (by omega)]
theorem Ic {z:Int} {d:Nat} (h:z.natAbs.gcd d=1):Cz z d=if z.natAbs≤4611686018427387904∧d≤4611686018427387904 then(z,(d:Int),0)else(0,0,5):=by
 unfold Cz;rw[h,Nat.div_one,Nat.div_one];simp
theorem OL {d:Nat} (h:0<d):Cz 0 d=(0,1,0):=by
 unfold Cz;simp[Nat.div_self h]
theorem B8 {n d:Int} (h:AU n d=true):1≤d∧d≤4611686018427387904∧ -4611686018427387904≤n∧n≤4611686018427387904∧n.natAbs.gcd d.toNat=1:=by simpa[AU]using h
theorem OM {n d:Int} (hn: -9223372036854775808≤n) (hd:1≤d) (hd2:d≤9223372036854775807):AU n d=decide (EZ n d=(n,d,0)):=by
 unfold AU EZ;rw[decide_eq_decide,Un (by omega)];obtain⟨m,rfl⟩:∃m:Nat,d=(m:Int):=⟨d.toNat,by omega⟩;by_cases h1:n= -9223372036854775808
 ·rw[Uo (.inl h1)];constructor
  ·intro h;omega
  intro h;simp at h
 rw[Un (by omega),Un (by omega),Int.natAbs_natCast,Int.toNat_natCast];constructor
 ·rintro⟨_,h2,h3,h4,h5⟩;rw[Ic h5,Uo (by omega)]
 intro h;have hg:0<n.natAbs.gcd m:=Nat.gcd_pos_of_pos_right _ (by omega);have hone:n.natAbs.gcd m=1:=by
  unfold Cz at h;split at h
  ·simp only[Uq]at h;have h2:=h.2.1;have h3:m/n.natAbs.gcd m=m:=by omega
   rcases Nat.lt_or_ge 1 (n.natAbs.gcd m)with h4|h4
   ·have:=Nat.div_lt_self (show 0<m by omega) h4;omega
   omega
  simp at h
 rw[Ic hone]at h;split at h
 ·omega
 simp at h
theorem R7 {n1 d1 n2 d2:Int} (h1:AU n1 d1=true) (h2:AU n2 d2=true):
  DE n1 d1 n2 d2=(if(n1.tdiv ((n1.natAbs.gcd d2.toNat:Nat):Int)*n2.tdiv ((n2.natAbs.gcd d1.toNat:Nat):Int)).natAbs≤4611686018427387904∧(d1.tdiv ((n2.natAbs.gcd d1.toNat:Nat):Int)*d2.tdiv ((n1.natAbs.gcd d2.toNat:Nat):Int)).natAbs≤4611686018427387904 then(n1.tdiv ((n1.natAbs.gcd d2.toNat:Nat):Int)*n2.tdiv ((n2.natAbs.gcd d1.toNat:Nat):Int),d1.tdiv ((n2.natAbs.gcd d1.toNat:Nat):Int)*d2.tdiv ((n1.natAbs.gcd d2.toNat:Nat):Int),0)else(0,0,5)):=by
 unfold DE;rw[Uo ⟨h1,h2⟩];obtain⟨a1,a2,a3,a4,a5⟩:=B8 h1;obtain⟨b1,b2,b3,b4,b5⟩:=B8 h2;obtain⟨p,rfl⟩:∃p:Nat,d1=(p:Int):=⟨d1.toNat,by omega⟩;obtain⟨q,rfl⟩:∃q:Nat,d2=(q:Int):=⟨d2.toNat,by omega⟩;rw[Int.toNat_natCast]at a5 b5;have hc:=KC n1.natAbs n2.natAbs p q (by omega) (by omega) a5 b5;have hg:0<n1.natAbs.gcd q:=Nat.gcd_pos_of_pos_right _ (by omega);have hh:0<n2.natAbs.gcd p:=Nat.gcd_pos_of_pos_right _ (by omega);have g1:=Nat.gcd_dvd_left n1.natAbs q;have g2:=Nat.gcd_dvd_right n1.natAbs q;have k1:=Nat.gcd_dvd_left n2.natAbs p;have k2:=Nat.gcd_dvd_right n2.natAbs p;simp only[Int.toNat_natCast];rw[show((p:Int)*(q:Int)).toNat=p*q from by rw[←Um];rfl];generalize n1.natAbs.gcd q=g at*;generalize n2.natAbs.gcd p=h at*;obtain⟨x,hx⟩:=Int.ofNat_dvd_left.2 g1;obtain⟨y,hy⟩:=Int.ofNat_dvd_left.2 k1;obtain⟨s,rfl⟩:=g2;obtain⟨t,rfl⟩:=k2;have gi:(g:Int)≠0:=by omega
 have hi:(h:Int)≠0:=by omega
 have e1:n1.tdiv (g:Int)=x:=by rw[hx,Int.mul_tdiv_cancel_left _ gi]
 have e2:n2.tdiv (h:Int)=y:=by rw[hy,Int.mul_tdiv_cancel_left _ hi]
 have e3:((h*t:Nat):Int).tdiv (h:Int)=(t:Int):=by rw[Um,Int.mul_tdiv_cancel_left _ hi]
 have e4:((g*s:Nat):Int).tdiv (g:Int)=(s:Int):=by rw[Um,Int.mul_tdiv_cancel_left _ gi]
 rw[e1,e2,e3,e4];have f1:n1.natAbs/g=x.natAbs:=by rw[hx,Int.natAbs_mul,Int.natAbs_natCast,Nat.mul_div_cancel_left _ hg]
 have f2:n2.natAbs/h=y.natAbs:=by rw[hy,Int.natAbs_mul,Int.natAbs_natCast,Nat.mul_div_cancel_left _ hh]
 rw[f1,f2,Nat.mul_div_cancel_left _ hg,Nat.mul_div_cancel_left _ hh]at hc;have e5:n1*n2=((g*h:Nat):Int)*(x*y):=by
  rw[hx,hy,Um];simp only[Int.mul_assoc,Int.mul_left_comm,Int.mul_comm]
 have e6:h*t*(g*s)=(g*h)*(t*s):=by simp only[Ut,Nat.mul_left_comm,Up]
 rw[e5,e6,IA _ (Nat.mul_pos hg hh),Ic (by rw[Int.natAbs_mul];exact hc)];rw[←Um,Int.natAbs_natCast]
theorem Qb {n1 d1 n2 d2:Int} (h1:AU n1 d1=true) (h2:AU n2 d2=true) (p q:Nat) (hp:d1=(p:Int)) (hq:d2=(q:Int)) (z:Int) (hz:z=n1*((q/p.gcd q:Nat):Int)+n2*((p/p.gcd q:Nat):Int)):
  DQ n1 d1 n2 d2=if z=0 then(0,1,0)else if z.natAbs/z.natAbs.gcd (p.gcd q)≤4611686018427387904∧(p/p.gcd q)*(q/z.natAbs.gcd (p.gcd q))≤4611686018427387904 then(z.tdiv ((z.natAbs.gcd (p.gcd q):Nat):Int),(((p/p.gcd q)*(q/z.natAbs.gcd (p.gcd q)):Nat):Int),0)else(0,0,5):=by
 unfold DQ;rw[Uo ⟨h1,h2⟩];subst hp;subst hq;obtain⟨a1,a2,a3,a4,a5⟩:=B8 h1;obtain⟨b1,b2,b3,b4,b5⟩:=B8 h2;rw[Int.toNat_natCast]at a5 b5;have hc:=KH n1 n2 p q (by omega) a5 b5;rw[←hz]at hc;have hg:0<p.gcd q:=Nat.gcd_pos_of_pos_left _ (by omega);have g1:=Nat.gcd_dvd_left p q;have g2:=Nat.gcd_dvd_right p q;rw[show((p:Int)*(q:Int)).toNat=p*q from by rw[←Um];rfl];have e1:n1*(q:Int)+n2*(p:Int)=((p.gcd q:Nat):Int)*z:=by
  rw[hz,Int.mul_add];have h3:((p.gcd q:Nat):Int)*((q/p.gcd q:Nat):Int)=(q:Int):=by rw[←Um,Nat.mul_div_cancel' g2]
  have h4:((p.gcd q:Nat):Int)*((p/p.gcd q:Nat):Int)=(p:Int):=by rw[←Um,Nat.mul_div_cancel' g1]
  rw[Int.mul_left_comm,h3,Int.mul_left_comm,h4]
 have e2:p*q=p.gcd q*((p/p.gcd q)*q):=by rw[←Ut,Nat.mul_div_cancel' g1]
 rw[e1,e2,IA _ hg];have hpp:0<p/p.gcd q:=Nat.div_pos (Nat.le_of_dvd (by omega) g1) hg;by_cases h0:z=0
 ·rw[Uo h0,h0,OL (Nat.mul_pos hpp (by omega))]
 rw[Un h0];unfold Cz;rw[hc];have hd:z.natAbs.gcd (p.gcd q)∣q:=Nat.dvd_trans (Nat.gcd_dvd_right _ _) g2;rw[Nat.mul_div_assoc _ hd]
theorem ML (n1 d1 n2 d2:Int):(if AU n2 d2=true then DQ n1 d1 (-n2) d2 else(0,0,1))=GA n1 d1 n2 d2:=by
 unfold GA;by_cases h2:AU n2 d2=true
 ·by_cases h1:AU n1 d1=true
  ·rw[Uo h2,Uo ⟨h1,h2⟩]
  rw[Uo h2,Un (fun h=>h1 h.1)];unfold DQ;rw[Un (fun h=>h1 h.1)]
 rw[Un h2,Un (fun h=>h2 h.2)]
theorem Nw (a m:Nat) (hm:0<m):(m≤a%(m*2)→a/m=2*(a/(m*2))+1∧a%(m*2)-m=a%m)∧(a%(m*2)<m→a/m=2*(a/(m*2))∧a%(m*2)=a%m):=by
 have e1:a%(m*2)=a%m+m*(a/m%2):=Nat.mod_mul;have e2:a/(m*2)=a/m/2:=by rw[Nat.div_div_eq_div_mul]
 have h1:=Nat.mod_lt a hm;rw[e1,e2];rcases Nat.mod_two_eq_zero_or_one (a/m)with h|h
 ·rw[h,Nat.mul_zero];exact⟨fun h3=>by omega,fun _=>⟨by omega,rfl⟩⟩
 rw[h,Nat.mul_one];exact⟨fun _=>⟨by omega,by omega⟩,fun h3=>by omega⟩
theorem Of {n1 n2:Int} {p q:Nat} (h:decide (n1<0)=decide (n2<0)):(if n1<0 then -((n1.natAbs*q+n2.natAbs*p:Nat):Int)else((n1.natAbs*q+n2.natAbs*p:Nat):Int))=n1*(q:Int)+n2*(p:Int):=by
 rw[decide_eq_decide]at h;rw[Int.natCast_add,Um,Um];split
 ·rename_i h1
  rw[show n1= -((n1.natAbs:Nat):Int)from by omega,show n2= -((n2.natAbs:Nat):Int)from by omega];simp only[Int.natAbs_neg,Int.natAbs_natCast,Int.neg_mul];omega
 ·rename_i h1
  rw[show n1=((n1.natAbs:Nat):Int)from by omega,show n2=((n2.natAbs:Nat):Int)from by omega];simp only[Int.natAbs_natCast]
theorem Kz {n1 n2:Int} {p q:Nat} (h:decide (n1<0)≠decide (n2<0)) (hl:n1.natAbs*q≤n2.natAbs*p):(if n2<0 then -((n2.natAbs*p-n1.natAbs*q:Nat):Int)else((n2.natAbs*p-n1.natAbs*q:Nat):Int))=n1*(q:Int)+n2*(p:Int):=by
 rw[Ne,decide_eq_decide]at h;rw[Int.ofNat_sub hl,Um,Um];split
 ·rename_i h1
  rw[show n1=((n1.natAbs:Nat):Int)from by omega,show n2= -((n2.natAbs:Nat):Int)from by omega];simp only[Int.natAbs_neg,Int.natAbs_natCast,Int.neg_mul];omega
 ·rename_i h1
  rw[show n1= -((n1.natAbs:Nat):Int)from by omega,show n2=((n2.natAbs:Nat):Int)from by omega];simp only[Int.natAbs_neg,Int.natAbs_natCast,Int.neg_mul];omega
theorem QM {n1 n2:Int} {p q:Nat} (h:decide (n1<0)≠decide (n2<0)) (hl:n2.natAbs*p≤n1.natAbs*q):(if n1<0 then -((n1.natAbs*q-n2.natAbs*p:Nat):Int)else((n1.natAbs*q-n2.natAbs*p:Nat):Int))=n1*(q:Int)+n2*(p:Int):=by
 rw[Int.add_comm];exact Kz (fun e=>h e.symm) hl
theorem MC (n1 n2:Int):(if(decide (n1<0) !=decide (n2<0))=true then -((n1.natAbs*n2.natAbs:Nat):Int)else((n1.natAbs*n2.natAbs:Nat):Int))=n1*n2:=by
 rw[Um];by_cases h1:n1<0<;>by_cases h2:n2<0<;>simp[h1,h2]
 ·rw[show n1= -((n1.natAbs:Nat):Int)from by omega,show n2= -((n2.natAbs:Nat):Int)from by omega];simp[Int.neg_mul_neg]
 ·rw[show n1= -((n1.natAbs:Nat):Int)from by omega,show n2=((n2.natAbs:Nat):Int)from by omega];simp[Int.neg_mul]
 ·rw[show n1=((n1.natAbs:Nat):Int)from by omega,show n2= -((n2.natAbs:Nat):Int)from by omega];simp[Int.mul_neg]
 rw[show n1=((n1.natAbs:Nat):Int)from by omega,show n2=((n2.natAbs:Nat):Int)from by omega];simp
theorem GY {n1 d1 n2 d2:Int} (h:AU n1 d1=false∨AU n2 d2=false):DE n1 d1 n2 d2=(0,0,1):=by
 unfold DE;rw[Un];rintro⟨h1,h2⟩;rcases h with h|h
 ·rw[h1]at h;cases h
 rw[h2]at h;cases h
theorem Gh {n1 d1 n2 d2:Int} (h:AU n1 d1=false∨AU n2 d2=false):DQ n1 d1 n2 d2=(0,0,1):=by
 unfold DQ;rw[Un];rintro⟨h1,h2⟩;rcases h with h|h
 ·rw[h1]at h;cases h
 rw[h2]at h;cases h
theorem Ld {n1 d1 n2 d2:Int} (h:AU n1 d1=false∨AU n2 d2=false):GA n1 d1 n2 d2=(0,0,1):=by
 unfold GA;rw[Un];rintro⟨h1,h2⟩;rcases h with h|h
 ·rw[h1]at h;cases h
 rw[h2]at h;cases h
theorem GX {n1 d1 n2 d2:Int} (h:AU n1 d1=false∨AU n2 d2=false):GL n1 d1 n2 d2=(0,0,1):=by
 unfold GL;rw[Un];rintro⟨h1,h2⟩;rcases h with h|h
 ·rw[h1]at h;cases h
 rw[h2]at h;cases h
theorem JN {n1 d1 n2 d2:Int} (h1:AU n1 d1=true) (h2:AU n2 d2=true) (h:n2=0):GL n1 d1 n2 d2=(0,0,6):=by
 unfold GL;rw[Uo ⟨h1,h2⟩,Uo h]
theorem Kq {n1 d1 n2 d2:Int} (h1:AU n1 d1=true) (h2:AU n2 d2=true) (h:¬n2=0) (h3:n2<0):GL n1 d1 n2 d2=DE n1 d1 (-d2) (-n2):=by
 unfold GL;rw[Uo ⟨h1,h2⟩,Un h,Uo h3]
theorem Lz {n1 d1 n2 d2:Int} (h1:AU n1 d1=true) (h2:AU n2 d2=true) (h:¬n2=0) (h3:¬n2<0):GL n1 d1 n2 d2=DE n1 d1 d2 n2:=by
 unfold GL;rw[Uo ⟨h1,h2⟩,Un h,Un h3]
theorem Qj {n1 d1 n2 d2:Int} (h1:AU n1 d1=true) (h2:AU n2 d2=true):GA n1 d1 n2 d2=DQ n1 d1 (-n2) d2:=by
 unfold GA;rw[Uo ⟨h1,h2⟩]
end Go.Proofs.YtkclnhpofkaclaaGreatDoor
namespace Go.Proofs.YtkclnhpofkaclaaGreatDoor
open Go.RowKit Pl
theorem EQ {n d:Int} (h:d<1∨4611686018427387904<d∨n< -4611686018427387904∨4611686018427387904<n):AU n d=false:=by
 unfold AU;rw[decide_eq_false_iff_not];omega
theorem MR {n d:Int} (h1:¬d<1) (h2:¬4611686018427387904<d) (h3:¬n< -4611686018427387904) (h4:¬4611686018427387904<n):AU n d=(((n.natAbs.gcd d.toNat:Nat):Int)==1):=by
 unfold AU;rw[Bool.eq_iff_iff,decide_eq_true_iff,Ud];omega
theorem IK (n d:Int) (w:World) (hn:Ah n) (hd:Ah d):
  Calls Tryz.prog 86 #[.agg #[.int .i64 n,.int .i64 d]] w fun e w'=>e= .returned (.bool (AU n d))∧A5 w w':=by
 obtain⟨n1,n2⟩:=hn;obtain⟨d1,d2⟩:=hd;have hbx:=Ux w 24 #[.int .i64 n,.int .i64 d];have HG:=UX ((Uv w).alloc (.cells #[.int .i64 n,.int .i64 d] 24));go_enter Tryz.func86,Tryz.ntmps86;go_upto_region 1 with fail;generalize w.alloc (.cells #[.int .i64 n,.int .i64 d] 24)=w1 at*;have c0:w1.cell? ⟨w.heap.size,0,none⟩=some (.int .i64 n):=hbx.cell 0;have c1:w1.cell? ⟨w.heap.size,1,none⟩=some (.int .i64 d):=hbx.cell 1;clear hbx;by_cases h1:d<1
 ·have HV:=UX (EQ (n:=n) (.inl h1));have t1:decide (d<1)=true:=by simpa using h1
  go_wp2_with fail;go_ret;exact⟨by rw[HV.out];rfl,HG.out⟩
 have t1:decide (d<1)=false:=by simpa using h1
 by_cases h2:4611686018427387904<d
 ·have HV:=UX (EQ (n:=n) (.inr (.inl h2)));have t2:decide (4611686018427387904<d)=true:=by simpa using h2
  clear h1 h2;go_wp2_with fail;go_ret;exact⟨by rw[HV.out];rfl,HG.out⟩
 have t2:decide (4611686018427387904<d)=false:=by simpa using h2
 by_cases h3:n< -4611686018427387904
 ·have HV:=UX (EQ (d:=d) (.inr (.inr (.inl h3))));have t3:decide (n< -4611686018427387904)=true:=by simpa using h3
  clear h1 h2 h3;go_wp2_with fail;go_ret;exact⟨by rw[HV.out];rfl,HG.out⟩
 have t3:decide (n< -4611686018427387904)=false:=by simpa using h3
 by_cases h4:4611686018427387904<n
 ·have HV:=UX (EQ (d:=d) (.inr (.inr (.inr h4))));have t4:decide (4611686018427387904<n)=true:=by simpa using h4
  clear h1 h2 h3 h4;go_wp2_with fail;go_ret;exact⟨by rw[HV.out];rfl,HG.out⟩
 have t4:decide (4611686018427387904<n)=false:=by simpa using h4
 have HV:=UX (MR h1 h2 h3 h4);obtain⟨m,hm⟩:∃m:Nat,d=(m:Int):=⟨d.toNat,by omega⟩;subst hm;rw[Int.toNat_natCast]at HV;have HA:=UX (fun w'=>GJ n w' (by omega) (by omega));have HGc:=UX (fun w'=>Gj n.natAbs m w' (by omega) (by omega));clear h1 h2 h3 h4;go_wp2_with fail;go_quiet ((first|(go_at_call 96;exact Calls.quiet_of_same (HA.out _))|(go_at_call 90;exact Calls.quiet_of (HGc.out _))));obtain⟨gb,hgb⟩:∃gb:Bool,(((n.natAbs.gcd m:Nat):Int)==1)=gb:=⟨_,rfl⟩;rw[hgb]at HV ⊢;clear hgb t1 t2 t3 t4 c0 c1;go_wp2_with fail;go_ret;exact⟨by rw[HV.out];rfl,V1 HG.out _⟩
def vu (n:Nat):Value:= .int .u64 (n:Int)
def AI (F:Nat→Nat):List Value:=[vu (F 0),vu (F 1),vu (F 2),vu (F 3),vu (F 4),vu (F 5),vu (F 6),vu (F 7)]
def Ar (n:Nat):Value:= .agg (AI (dg n)).toArray
def I6 (F:Nat→Nat) (j v:Nat):Nat→Nat:=fun i=>if i=j then v else F i
theorem IC (F:Nat→Nat) {j:Nat} (h:j<8):(AI F)[j]? =some (.int .u64 (F j:Int)):=by
 rcases(show j=0∨j=1∨j=2∨j=3∨j=4∨j=5∨j=6∨j=7 by omega)with rfl|rfl|rfl|rfl|rfl|rfl|rfl|rfl<;>rfl
theorem Oi (F:Nat→Nat) {j:Nat} (v:Nat) (h:j<8):(AI F).set j (.int .u64 (v:Int))=AI (I6 F j v):=by
 rcases(show j=0∨j=1∨j=2∨j=3∨j=4∨j=5∨j=6∨j=7 by omega)with rfl|rfl|rfl|rfl|rfl|rfl|rfl|rfl<;>rfl
theorem Dm {F G:Nat→Nat} (h:∀i,i<8→F i=G i):AI F=AI G:=by
 unfold AI;rw[h 0 (by omega),h 1 (by omega),h 2 (by omega),h 3 (by omega),h 4 (by omega),h 5 (by omega),h 6 (by omega),h 7 (by omega)]
theorem Ap (F:Nat→Nat):∀v∈AI F,v.oneCell'=true:=by
 intro v hv;simp[AI]at hv;rcases hv with rfl|rfl|rfl|rfl|rfl|rfl|rfl|rfl<;>rfl
theorem CG:(Tryz.prog.info? 147).map (·.size)=some 8:=by kernel_rfl
theorem rN:J3 147 8:=⟨CG,_,Tryz.underlying147,rfl⟩
theorem B2 {w:World} {g:Nat} {t:TypeId} {F:Nat→Nat} (h:AK w g t (AI F).toArray) {j:Nat} (hj:j<8):w.cell? ⟨g,j,none⟩=some (.int .u64 (F j:Int)):=by
 rw[h.cell,List.getElem?_toArray,IC F hj]
theorem Mv {w:World} {g:Nat} {t:TypeId} {F:Nat→Nat} (h:AK w g t (AI F).toArray) {j:Nat} (v:Nat) (hj:j<8):AK (w.setCell ⟨g,j,none⟩ (.int .u64 (v:Int))) g t (AI (I6 F j v)).toArray:=by
 have:=h.set_ j (.int .u64 (v:Int));rwa[List.setIfInBounds_toArray,Oi F v hj]at this
theorem AH (n:Nat) (h:n<18446744073709551616):IntKind.u64.wrap (n:Int)=(n:Int):=by
 show(n:Int)%2^64=(n:Int);omega
theorem BI (w:World) (t t':TypeId) (A B:Array Value):AK ((w.alloc (.cells A t)).alloc (.cells B t')) w.heap.size t A∧AK ((w.alloc (.cells A t)).alloc (.cells B t')) (w.heap.size+1) t' B∧A5 w ((w.alloc (.cells A t)).alloc (.cells B t')):=by
 have hz:(w.alloc (.cells A t)).heap.size=w.heap.size+1:=World.size_alloc ..;have h2:=Ux (w.alloc (.cells A t)) t' B;rw[hz]at h2;exact⟨(Ux w t A).alloc _,h2,((Uv w).alloc _).alloc _⟩
theorem BO (w:World) (t t' t'':TypeId) (A B C:Array Value):AK (((w.alloc (.cells A t)).alloc (.cells B t')).alloc (.cells C t'')) w.heap.size t A∧AK (((w.alloc (.cells A t)).alloc (.cells B t')).alloc (.cells C t'')) (w.heap.size+1) t' B∧AK (((w.alloc (.cells A t)).alloc (.cells B t')).alloc (.cells C t'')) (w.heap.size+1+1) t'' C∧A5 w (((w.alloc (.cells A t)).alloc (.cells B t')).alloc (.cells C t'')):=by
 obtain⟨h1,h2,h3⟩:=BI w t t' A B;have hz:((w.alloc (.cells A t)).alloc (.cells B t')).heap.size=w.heap.size+1+1:=by rw[World.size_alloc,World.size_alloc]
 have h4:=Ux ((w.alloc (.cells A t)).alloc (.cells B t')) t'' C;rw[hz]at h4;exact⟨h1.alloc _,h2.alloc _,h4,h3.alloc _⟩
theorem SI {ops:Array Oper} {rest:List Oper} {o:Oper} {a:Act} {w:World} {Q:Exit→Act→World→Prop} (x y:Operand) (g:Nat) (F:Nat→Nat) (j v:Nat) (hj:j<8) (t:TypeId) (hgd:o.guard=none) (ho:o.op= .store 111 x y)
  (hx:a.eval x= .pointer (some ⟨g,j,none⟩)) (hy:a.eval y= .int .u64 (v:Int)) (hb:AK w g t (AI F).toArray)
  (h:∀w',AK w' g t (AI (I6 F j v)).toArray→A4 (fun i=>i=g) w w'→wpList Tryz.prog ops Q rest (a.put o.dst undef) w'):wpList Tryz.prog ops Q (o::rest) a w:=by
 have hc:=B2 hb hj;have hf:=hb.frozen j;have hb':=Mv hb v hj;have hk':A4 (fun i=>i=g) w (w.setCell ⟨g,j,none⟩ (.int .u64 (v:Int))):=(Uz (fun i=>i=g) w).setCell (p:=⟨g,j,none⟩) (.inl rfl) _;refine wpList_plain hgd fun K hK=>?_
 unfold Oper.wp execOp;simp only[ho,hx,hy];go_simp;exact hK _ _ (h _ hb' hk')
theorem RP {fn:Func} {p:Tmp} {ty:TypeId} (h:fn.results=#[.cell p ty]) {tmps:Array Value} {w:World} {g:Nat} {vs:List Value} {t:TypeId} (hp:tmps.getD p undef= .pointer (some ⟨g,0,none⟩)) (hT:(Tryz.prog.info? ty).map (·.size)=some vs.length) {d:TypeDesc} (hu:Tryz.prog.underlying ty=some d) (hd:d.isRow=true) (hb:AK w g t vs.toArray):
  (results fn tmps).run Tryz.prog w= .ok (.agg vs.toArray) w:=by
 have hl:=run_loadVar_mid (P:=Tryz.prog) w g 0 ty vs d (hb.rangeN 0 vs (by simp)) hu hd hT;simp only[results,h];rw[Array.getD_eq_getD_getElem?]at hp;simp[hp,hl,asAddr]
theorem Eg (n:Int) (w:World) (h:Ah n):Calls Tryz.prog 140 #[.int .i64 n] w fun e w'=>e= .returned (.int .u64 (n.natAbs:Nat))∧w'=w:=by
 obtain⟨h1,h2⟩:=h;by_cases h0:n<0
 ·have t0:decide (n<0)=true:=by simpa using h0
  have HV:=UX (show IntKind.u64.wrap (-(IntKind.u64.wrap n))=((n.natAbs:Nat):Int)from by
   show(-(n%2^64))%2^64=_;omega)
  clear h0;go_enter Tryz.func140,Tryz.ntmps140;go_wp2;go_ret;exact⟨by rw[HV.out];rfl,rfl⟩
 have t0:decide (n<0)=false:=by simpa using h0
 have HV:=UX (show IntKind.u64.wrap n=((n.natAbs:Nat):Int)from by
  show(n%2^64)=_;omega)
 clear h0;go_enter Tryz.func140,Tryz.ntmps140;go_wp2;go_ret;exact⟨by rw[HV.out];rfl,rfl⟩
theorem Cr (n:Nat) (w:World) (h:n<18446744073709551616):Calls Tryz.prog 139 #[.int .u64 (n:Nat)] w fun e w'=>e= .returned (Ar n)∧A5 w w':=by
 obtain⟨hb1,hb2,hG2⟩:=BI w 147 147 (AI (fun _=>0)).toArray (AI (fun _=>0)).toArray;have hF:Hid (AI (I6 (I6 (fun _=>0) 0 (n%4294967296)) 1 (n/4294967296))=AI (dg n)):=UX (Dm (fun i hi=>by
  rcases(show i=0∨i=1∨2≤i by omega)with rfl|rfl|h2
  ·simp[I6,dg]
  ·simp[I6,dg];omega
  rw[Pj (Ub h (Ue (by decide) (Nat.pow_le_pow_right (by decide) h2)))];unfold I6;rw[Un (by omega),Un (by omega)]))
 go_enter Tryz.func139,Tryz.ntmps139;go_upto_region 2 with fail;change Code.wp _ _ _ _ ((w.alloc (.cells (AI (fun _=>0)).toArray 147)).alloc (.cells (AI (fun _=>0)).toArray 147));generalize (w.alloc (.cells (AI (fun _=>0)).toArray 147)).alloc (.cells (AI (fun _=>0)).toArray 147)=w2 at*;have e0:(n:Int).tmod 4294967296=((n%4294967296:Nat):Int):=by rw[Int.tmod_eq_emod_of_nonneg (by omega)];rfl
 have e1:(n:Int).tdiv 4294967296=((n/4294967296:Nat):Int):=by rw[Int.tdiv_eq_ediv_of_nonneg (by omega)];rfl
 have e2:IntKind.u64.wrap ((n/4294967296:Nat):Int)=((n/4294967296:Nat):Int):=AH _ (by omega);generalize n%4294967296=a0 at*;generalize n/4294967296=a1 at*;go_wp2_with(first|(refine SI (.tmp 6) (.tmp 5) (w.heap.size+1) (fun _=>0) 0 a0 (by omega) 147 rfl rfl rfl rfl hb2 ?_;intro w3 hb3 k3;have hc3:=hb1.keep k3 (by omega))|(refine SI (.tmp 9) (.tmp 8) (w.heap.size+1) _ 1 a1 (by omega) 147 rfl rfl rfl rfl hb3 ?_;intro w4 hb4 k4;have hc4:=hc3.keep k4 (by omega);rw[hF.out]at hb4;have HG4:=UX (Uw (Uw hG2 k3 (fun i hi e=>by omega)) k4 (fun i hi e=>by omega)))|(refine lN (.tmp 3) hb4 rN ?_)|(refine sN (.tmp 2) (.tmp 10) (AI (dg n)) hc4 rN ?_;intro w5 hb5 k5 d5)|fail);refine rO rN hb5 ?_;exact⟨rfl,Uw HG4.out k5 (fun i hi e=>by omega)⟩
theorem Oh (n:Nat):(n:Int).tmod 4294967296=((n%4294967296:Nat):Int):=by rw[Int.tmod_eq_emod_of_nonneg (by omega)];rfl
theorem PH (n:Nat):(n:Int).tdiv 4294967296=((n/4294967296:Nat):Int):=by rw[Int.tdiv_eq_ediv_of_nonneg (by omega)];rfl
theorem BB (z:Int) (h:0≤z) (h2:z<18446744073709551616):IntKind.u64.wrap z=z:=by
 show z%2^64=z;omega
theorem Ez (a b:Nat) (w:World) (hb:b<4294967296^8):Calls Tryz.prog 142 #[Ar a,Ar b] w fun e w'=>e= .returned (Ar (a+b))∧A5 w w':=by
 obtain⟨hb1,hb2,hb3,hG3⟩:=BO w 147 147 147 (AI (dg a)).toArray (AI (dg b)).toArray (AI (fun _=>0)).toArray;unfold Ar;have hE:Hid (a+b%4294967296^8=a+b):=UX (by rw[Nat.mod_eq_of_lt hb]);have hA0:Hid (a+b%4294967296^0=a):=UX (by rw[Nat.pow_zero,Nat.mod_one];rfl);clear hb;go_enter Tryz.func142,Tryz.ntmps142;go_upto_region 1 with fail;change Code.wp _ _ _ _ (((w.alloc (.cells (AI (dg a)).toArray 147)).alloc (.cells (AI (dg b)).toArray 147)).alloc (.cells (AI (fun _=>0)).toArray 147));generalize ((w.alloc (.cells (AI (dg a)).toArray 147)).alloc (.cells (AI (dg b)).toArray 147)).alloc (.cells (AI (fun _=>0)).toArray 147)=w3 at*;have HB:=UX (UZ hb1 (UZ hb2 (UZ hb3 hG3)));clear hb1 hb2 hb3 hG3;go_wp2_with fail;go_loopw [5,6] (fun c i wr=>∃(k:Nat) (F:Nat→Nat),k≤8∧i= .int .i64 (k:Nat)∧c= .int .u64 ((M7 a 1 b 0 k:Nat):Int)∧AK wr w.heap.size 147 (AI F).toArray∧(∀j,j<k→F j=dg (a+b%4294967296^k) j)∧(∀j,k≤j→F j=dg a j)∧A4 (fun i=>i=w.heap.size) w3 wr) (fun _ i _=>8-(intOf i).toNat)
 case atStart=>exact⟨0,dg a,by omega,rfl,by rw[N7];rfl,HB.out.1,by omega,fun _ _=>rfl,Uz _ _⟩
 case round=>
  obtain⟨k,F,hk,rfl,rfl,hbF,hF1,hF2,hGr⟩:=hrel;have hbB:=HB.out.2.1.keep hGr (by omega);have hbR:=HB.out.2.2.1.keep hGr (by omega);by_cases hlt:k<8
  ·have c1:=B2 hbF hlt;have c2:=B2 hbB hlt;rw[hF2 k (Ua _)]at c1;have HS:=UX (UZ (Qu a b k) (QZ a b k));have d1:=Fm a k;have d2:=Fm b k;have d3:=RJ a 1 b 0 k;have HF:=UX (UZ hF1 hF2);clear hF1 hF2;generalize M7 a 1 b 0 k=c at*;generalize dg a k=A' at*;generalize dg b k=B' at*;generalize hs:c+A'+B'=s at*;have hsb:s<18446744073709551616:=by omega
   have m1:=Oh s;have m2:=PH s;have m3:IntKind.u64.wrap ((s/4294967296:Nat):Int)=((s/4294967296:Nat):Int):=AH _ (by omega);generalize s%4294967296=r at*;generalize s/4294967296=q at*;have e1:IntKind.u64.wrap ((c:Int)+(A':Int))=((c+A':Nat):Int):=by rw[←Int.natCast_add];exact AH _ (by omega)
   have e2:IntKind.u64.wrap (((c+A':Nat):Int)+(B':Int))=(s:Int):=by rw[←Int.natCast_add,hs];exact AH _ hsb
   go_wp2_with fail;go_quiet (fail);rw[show(c:Int)+(A':Int)+(B':Int)=(s:Int)from by omega];have hb5:=hbF.drewN nq;have hG5:=V1 hGr nq;generalize wr.drewN nq=w5 at*;clear hbF hbB hbR hGr c1 c2 e1 e2 hs d1 d2 d3;go_wp2_with(refine SI (.tmp 23) (.tmp 22) w.heap.size F k r hlt 147 rfl rfl rfl rfl hb5 ?_;intro w6 hb6 k6;have hG6:=A4.trans hG5 k6);go_roundw
   case rel=>
    refine⟨k+1,I6 F k r,by omega,by go_num,by rw[HS.out.1],hb6,fun j hj=>?_,fun j hj=>?_,hG6⟩
    ·unfold I6;by_cases hjk:j=k
     ·rw[Uo hjk,hjk,HS.out.2]
     rw[Un hjk,HF.out.1 j (by omega),Nf _ _ _ _ (by omega)]
    unfold I6;rw[Un (by omega),HF.out.2 j (by omega)]
   case measure=>simp[intOf];omega
  obtain rfl:k=8:=by omega
  have HL:Hid (AI F=AI (dg (a+b))):=UX (Dm fun i hi=>by rw[hF1 i hi,hE.out]);rw[HL.out]at hbF;clear hF1 hF2 hlt hk;go_wp2_with(first|(refine lN (.tmp 2) hbF rN ?_)|(refine sN (.tmp 4) (.tmp 26) (AI (dg (a+b))) hbR rN ?_;intro w5 hb5 k5 d5)|fail);refine rO rN hb5 ?_;exact⟨rfl,Uw (Uw HB.out.2.2.2 hGr (fun i hi e=>by omega)) k5 (fun i hi e=>by omega)⟩
theorem CZ (a b:Nat) (w:World) (hb:b≤a) (ha:a<4294967296^8):Calls Tryz.prog 144 #[Ar a,Ar b] w fun e w'=>e= .returned (Ar (a-b))∧A5 w w':=by
 obtain⟨hb1,hb2,hb3,hG3⟩:=BO w 147 147 147 (AI (dg a)).toArray (AI (dg b)).toArray (AI (fun _=>0)).toArray;unfold Ar;have HBA:=UX hb;clear hb ha;go_enter Tryz.func144,Tryz.ntmps144;go_upto_region 1 with fail;change Code.wp _ _ _ _ (((w.alloc (.cells (AI (dg a)).toArray 147)).alloc (.cells (AI (dg b)).toArray 147)).alloc (.cells (AI (fun _=>0)).toArray 147));generalize ((w.alloc (.cells (AI (dg a)).toArray 147)).alloc (.cells (AI (dg b)).toArray 147)).alloc (.cells (AI (fun _=>0)).toArray 147)=w3 at*;have HB:=UX (UZ hb1 (UZ hb2 (UZ hb3 hG3)));clear hb1 hb2 hb3 hG3;go_wp2_with fail;go_loopw [5,6] (fun c i wr=>∃(k:Nat) (F:Nat→Nat),k≤8∧i= .int .i64 (k:Nat)∧c= .int .u64 ((Od a b k:Nat):Int)∧AK wr w.heap.size 147 (AI F).toArray∧(∀j,j<k→F j=dg (a-b) j)∧(∀j,k≤j→F j=dg a j)∧A4 (fun i=>i=w.heap.size) w3 wr) (fun _ i _=>8-(intOf i).toNat)
 case atStart=>exact⟨0,dg a,by omega,rfl,by rw[RB];rfl,HB.out.1,by omega,fun _ _=>rfl,Uz _ _⟩
 case round=>
  obtain⟨k,F,hk,rfl,rfl,hbF,hF1,hF2,hGr⟩:=hrel;have hbB:=HB.out.2.1.keep hGr (by omega);have hbR:=HB.out.2.2.1.keep hGr (by omega);by_cases hlt:k<8
  ·have c1:=B2 hbF hlt;have c2:=B2 hbB hlt;rw[hF2 k (Ua _)]at c1;have HS:=UX (UZ (Re a b k) (Rt a b k HBA.out));have d1:=Fm a k;have d2:=Fm b k;have d3:=RS a b k;have HF:=UX (UZ hF1 hF2);clear hF1 hF2;generalize Od a b k=c at*;generalize dg a k=A' at*;generalize dg b k=B' at*;generalize hs:A'+4294967296-B'-c=s at*;have hsb:s<8589934592:=by omega
   have m1:=Oh s;have m2:=PH s;have m3:IntKind.u64.wrap ((s/4294967296:Nat):Int)=((s/4294967296:Nat):Int):=AH _ (by omega);have hq:s/4294967296≤1:=by omega
   generalize s%4294967296=r at*;generalize s/4294967296=q at*;have m4:IntKind.u64.wrap (1-(q:Int))=((1-q:Nat):Int):=by rw[BB _ (by omega) (by omega)];omega
   generalize 1-q=q1 at*;have e1:IntKind.u64.wrap ((A':Int)+4294967296)=(A':Int)+4294967296:=BB _ (by omega) (by omega);have e2:IntKind.u64.wrap ((A':Int)+4294967296-(B':Int))=(A':Int)+4294967296-(B':Int):=BB _ (by omega) (by omega);have e3:IntKind.u64.wrap ((A':Int)+4294967296-(B':Int)-(c:Int))=(A':Int)+4294967296-(B':Int)-(c:Int):=BB _ (by omega) (by omega);go_wp2_with fail;go_quiet (fail);rw[show(A':Int)+4294967296-(B':Int)-(c:Int)=(s:Int)from by omega];have hb5:=hbF.drewN nq;have hG5:=V1 hGr nq;generalize wr.drewN nq=w5 at*;clear hbF hbB hbR hGr c1 c2 e1 e2 e3 hs d1 d2 d3 hq;go_wp2_with(refine SI (.tmp 25) (.tmp 24) w.heap.size F k r hlt 147 rfl rfl rfl rfl hb5 ?_;intro w6 hb6 k6;have hG6:=A4.trans hG5 k6);go_roundw
   case rel=>
    refine⟨k+1,I6 F k r,by omega,by go_num,by rw[HS.out.1],hb6,fun j hj=>?_,fun j hj=>?_,hG6⟩
    ·unfold I6;by_cases hjk:j=k
     ·rw[Uo hjk,hjk,HS.out.2]
     rw[Un hjk,HF.out.1 j (by omega)]
    unfold I6;rw[Un (by omega),HF.out.2 j (by omega)]
   case measure=>simp[intOf];omega
  obtain rfl:k=8:=by omega
  have HL:Hid (AI F=AI (dg (a-b))):=UX (Dm fun i hi=>hF1 i hi);rw[HL.out]at hbF;clear hF1 hF2 hlt hk;go_wp2_with(first|(refine lN (.tmp 2) hbF rN ?_)|(refine sN (.tmp 4) (.tmp 29) (AI (dg (a-b))) hbR rN ?_;intro w5 hb5 k5 d5)|fail);refine rO rN hb5 ?_;exact⟨rfl,Uw (Uw HB.out.2.2.2 hGr (fun i hi e=>by omega)) k5 (fun i hi e=>by omega)⟩
theorem RV (n:Nat):(n:Int).tmod 2=((n%2:Nat):Int):=by rw[Int.tmod_eq_emod_of_nonneg (by omega)];rfl
theorem RH (n:Nat):(n:Int).tdiv 2=((n/2:Nat):Int):=by rw[Int.tdiv_eq_ediv_of_nonneg (by omega)];rfl
theorem Dp (a:Nat) (w:World) (ha:a<4294967296^8):Calls Tryz.prog 176 #[Ar a] w fun e w'=>e= .returned (Ar (a/2))∧A5 w w':=by
 obtain⟨hb1,hb2,hG2⟩:=BI w 147 147 (AI (dg a)).toArray (AI (fun _=>0)).toArray;unfold Ar;have H8:=UX (Pj ha);clear ha;go_enter Tryz.func176,Tryz.ntmps176;go_upto_region 1 with fail;change Code.wp _ _ _ _ ((w.alloc (.cells (AI (dg a)).toArray 147)).alloc (.cells (AI (fun _=>0)).toArray 147));generalize (w.alloc (.cells (AI (dg a)).toArray 147)).alloc (.cells (AI (fun _=>0)).toArray 147)=w3 at*;have HB:=UX (UZ hb1 (UZ hb2 hG2));clear hb1 hb2 hG2;go_wp2_with fail;go_loopw [3] (fun i wr=>∃(k:Nat) (F:Nat→Nat),k≤8∧i= .int .i64 (k:Nat)∧AK wr w.heap.size 147 (AI F).toArray∧(∀j,j<k→F j=dg (a/2) j)∧(∀j,k≤j→F j=dg a j)∧A4 (fun i=>i=w.heap.size) w3 wr) (fun i _=>8-(intOf i).toNat)
 case atStart=>exact⟨0,dg a,by omega,rfl,HB.out.1,by omega,fun _ _=>rfl,Uz _ _⟩
 case round=>
  obtain⟨k,F,hk,rfl,hbF,hF1,hF2,hGr⟩:=hrel;have hbR:=HB.out.2.1.keep hGr (by omega);by_cases hlt:k<8
  ·have c1:=B2 hbF hlt;rw[hF2 k (Ua _)]at c1;have hHS:=QS a k;have d1:=Fm a k;have HF:=UX (UZ hF1 hF2);clear hF1 hF2;by_cases h7:k<7
   ·have c2:=B2 hbF (j:=k+1) (by omega);rw[HF.out.2 (k+1) (by omega)]at c2;have m1:=RV (dg a (k+1));generalize dg a (k+1)=B' at*;have hr:B'%2≤1:=by omega
    generalize B'%2=r at*;have m2:=RH (dg a k);have hq:dg a k/2<2147483648:=by omega
    have m3:IntKind.u64.wrap ((dg a k/2:Nat):Int)=((dg a k/2:Nat):Int):=AH _ (by omega);generalize dg a k=A' at*;generalize A'/2=q at*;have m4:IntKind.u64.wrap (2147483648*(r:Int))=((2147483648*r:Nat):Int):=by rw[BB _ (by omega) (by omega)];omega
    generalize hz:2147483648*r=z at*;have m5:IntKind.u64.wrap ((q:Int)+(z:Int))=((q+z:Nat):Int):=by rw[BB _ (by omega) (by omega)];omega
    generalize q+z=s at*;have HS:=UX hHS;clear hHS hz d1 hr hq;have t7:decide ((k:Int)<7)=true:=by simp;omega
    go_wp2_with(refine SI (.tmp 24) (.tmp 23) w.heap.size F k s hlt 147 rfl rfl rfl rfl hbF ?_;intro w6 hb6 k6;have hG6:=A4.trans hGr k6);go_roundw
    case rel=>
     refine⟨k+1,I6 F k s,by omega,by go_num,hb6,fun j hj=>?_,fun j hj=>?_,hG6⟩
     ·unfold I6;by_cases hjk:j=k
      ·rw[Uo hjk,hjk,HS.out]
      rw[Un hjk,HF.out.1 j (by omega)]
     unfold I6;rw[Un (by omega),HF.out.2 j (by omega)]
    case measure=>simp[intOf];omega
   obtain rfl:k=7:=by omega
   have h8:dg a (7+1)=0:=H8.out;rw[h8]at hHS;have m2:=RH (dg a 7);have hq:dg a 7/2<2147483648:=by omega
   have m3:IntKind.u64.wrap ((dg a 7/2:Nat):Int)=((dg a 7/2:Nat):Int):=AH _ (by omega);generalize dg a 7=A' at*;generalize A'/2=s at*;have HS:Hid (s=dg (a/2) 7):=UX (by omega);clear hHS h8 d1 hq;go_wp2_with(refine SI (.tmp 24) (.tmp 23) w.heap.size F 7 s hlt 147 rfl rfl rfl rfl hbF ?_;intro w6 hb6 k6;have hG6:=A4.trans hGr k6);go_roundw
   case rel=>
    refine⟨7+1,I6 F 7 s,by omega,by go_num,hb6,fun j hj=>?_,fun j hj=>?_,hG6⟩
    ·unfold I6;by_cases hjk:j=7
     ·rw[Uo hjk,hjk,HS.out]
     rw[Un hjk,HF.out.1 j (by omega)]
    unfold I6;rw[Un (by omega),HF.out.2 j (by omega)]
   case measure=>simp[intOf]
  obtain rfl:k=8:=by omega
  have HL:Hid (AI F=AI (dg (a/2))):=UX (Dm fun i hi=>hF1 i hi);rw[HL.out]at hbF;clear hF1 hF2 hlt hk;go_wp2_with(first|(refine lN (.tmp 1) hbF rN ?_)|(refine sN (.tmp 2) (.tmp 25) (AI (dg (a/2))) hbR rN ?_;intro w5 hb5 k5 d5)|fail);refine rO rN hb5 ?_;exact⟨rfl,Uw (Uw HB.out.2.2 hGr (fun i hi e=>by omega)) k5 (fun i hi e=>by omega)⟩
theorem DH (a b:Nat) (w:World) (ha:a<4294967296^8) (hb:b<4294967296^8):Calls Tryz.prog 143 #[Ar a,Ar b] w fun e w'=>e= .returned (.int .i64 (CQ a b))∧A5 w w':=by
 obtain⟨hb1,hb2,hG2⟩:=BI w 147 147 (AI (dg a)).toArray (AI (dg b)).toArray;unfold Ar;have H8:Hid (a/4294967296^8=b/4294967296^8):=UX (by rw[Nat.div_eq_of_lt ha,Nat.div_eq_of_lt hb]);clear ha hb;go_enter Tryz.func143,Tryz.ntmps143;go_upto_region 1 with fail;generalize (w.alloc (.cells (AI (dg a)).toArray 147)).alloc (.cells (AI (dg b)).toArray 147)=w3 at*;have HB:=UX (UZ hb1 (UZ hb2 hG2));clear hb1 hb2 hG2;go_wp2_with fail;go_loopw [5] (fun i wr=>∃(k:Nat) (z:Int),k≤8∧i= .int .i64 z∧z=(k:Int)-1∧a/4294967296^k=b/4294967296^k∧A5 w3 wr) (fun i _=>(intOf i+1).toNat)
 case atStart=>exact⟨8,7,by omega,rfl,rfl,H8.out,Uv _⟩
 case round=>
  obtain⟨k,z,hk,rfl,hz,hE,hGr⟩:=hrel;rcases Nat.eq_zero_or_pos k with rfl|hpos
  ·have HC:=UX (Qm hE);obtain rfl:z= -1:=by omega
   clear hz hE hk;go_wp2_with fail;go_ret;exact⟨by rw[HC.out];rfl,HB.out.2.2.trans hGr⟩
  obtain⟨m,rfl⟩:∃m,k=m+1:=⟨k-1,by omega⟩;obtain rfl:z=(m:Int):=by omega
  have hm:m<8:=by omega
  have c1:=B2 (HB.out.1.grew hGr) hm;have c2:=B2 (HB.out.2.1.grew hGr) hm;have t0:decide ((m:Int)≥0)=true:=by simp
  have t0':decide ((0:Int)≤(m:Int))=true:=by simp
  have HE:=UX hE;clear hz hpos hE;rcases Nat.lt_trichotomy (dg a m) (dg b m)with h|h|h
  ·have HC:=UX (Rz HE.out h);generalize dg a m=A' at*;generalize dg b m=B' at*;have t1:decide (A'<B')=true:=by simpa using h
   have t2:decide ((A':Int)<(B':Int))=true:=by simp;omega
   clear h;go_wp2_with fail;go_quiet (fail);have hG5:=V1 hGr nq;generalize wr.drewN nq=w5 at*;clear c1 c2 hGr;go_wp2_with fail;go_ret;exact⟨by rw[HC.out];rfl,HB.out.2.2.trans hG5⟩
  ·have HC:=UX (Pf HE.out h);rw[←h]at c2;generalize dg a m=A' at*;have t1:decide (A'<A')=false:=by simp
   have t2:decide ((A':Int)<(A':Int))=false:=by simp
   have t3:decide ((A':Int)>(A':Int))=false:=by simp
   have t4:decide (A'>A')=false:=by simp
   clear h;go_wp2_with fail;go_quiet (fail);have hG5:=V1 hGr nq;have c1:(wr.drewN nq).cell? ⟨w.heap.size,m,none⟩=some (.int .u64 (A':Int)):=c1;have c2:(wr.drewN nq).cell? ⟨w.heap.size+1,m,none⟩=some (.int .u64 (A':Int)):=c2;generalize wr.drewN nq=w5 at*;clear hGr;go_wp2_with fail;go_quiet (fail);have hG6:=V1 hG5 nq;generalize w5.drewN nq=w6 at*;clear c1 c2 hG5;go_wp2_with fail;go_roundw
   case rel=>exact⟨m,(m:Int)-1,by omega,by go_num,rfl,HC.out,hG6⟩
   case measure=>simp[intOf]
  have HC:=UX (S3 HE.out h);generalize dg a m=A' at*;generalize dg b m=B' at*;have t1:decide (A'<B')=false:=by simp;omega
  have t2:decide ((A':Int)<(B':Int))=false:=by simp;omega
  have t3:decide ((A':Int)>(B':Int))=true:=by simp;omega
  have t4:decide (B'<A')=true:=by simpa using h
  have t5:decide ((B':Int)<(A':Int))=true:=by simp;omega
  clear h;go_wp2_with fail;go_quiet (fail);have hG5:=V1 hGr nq;have c1:(wr.drewN nq).cell? ⟨w.heap.size,m,none⟩=some (.int .u64 (A':Int)):=c1;have c2:(wr.drewN nq).cell? ⟨w.heap.size+1,m,none⟩=some (.int .u64 (B':Int)):=c2;generalize wr.drewN nq=w5 at*;clear hGr;go_wp2_with fail;go_quiet (fail);have hG6:=V1 hG5 nq;generalize w5.drewN nq=w6 at*;clear c1 c2 hG5;go_wp2_with fail;go_ret;exact⟨by rw[HC.out];rfl,HB.out.2.2.trans hG6⟩
end Go.Proofs.YtkclnhpofkaclaaGreatDoor
