/- Division of two words by one in two steps of half a word: plain. -/
import Derived.Test.YthpflelgbadkcaaGreatDoorRewriteTypesP01
set_option maxRecDepth 100000
set_option maxHeartbeats 12800000
set_option linter.unusedVariables false
set_option linter.unusedSimpArgs false
namespace Go.Proofs.YthpflelgbadkcaaGreatDoor
theorem L8 {u a b d x r:Nat} (hd:d<4294967296) (hv:0<a) (hx:u=x*a+r) (hr:r<a):(u*4294967296+d)/(a*4294967296+b)≤x:=by
 refine Nat.le_of_lt_succ ((Nat.div_lt_iff_lt_mul (by omega)).2 ?_);have h1:(x+1)*(a*4294967296+b)=(x*a+a)*4294967296+(x+1)*b:=by
  rw[Nat.mul_add,←VT,Nat.succ_mul]
 rw[h1];omega
theorem RP {u a b d x r:Nat} (hu:u<a*4294967296+b) (hd:d<4294967296) (hx:u=x*a+r) (h:4294967296≤x∨4294967296*r+d<x*b):(u*4294967296+d)/(a*4294967296+b)<x:=by
 refine(Nat.div_lt_iff_lt_mul (by omega)).2 ?_;rcases h with h|h
 ·have:4294967296*(a*4294967296+b)≤x*(a*4294967296+b):=Nat.mul_le_mul_right _ h;omega
 rw[Nat.mul_add,←VT];omega
theorem Pa {u a b d x r:Nat} (hv:0<a*4294967296+b) (hx:u=x*a+r) (h:x*b≤4294967296*r+d):x≤(u*4294967296+d)/(a*4294967296+b):=by
 refine(Nat.le_div_iff_mul_le hv).2 ?_;rw[Nat.mul_add,←VT];omega
theorem GB {u a b:Nat} (ha:2147483648≤a) (hb:b<4294967296) (hu:u<a*4294967296+b):u/a≤4294967297:=by
 refine Nat.le_of_lt_succ ((Nat.div_lt_iff_lt_mul (by omega)).2 ?_);omega
theorem De {u a b d x r:Nat} (hu:u<a*4294967296+b) (hd:d<4294967296) (hx:u=x*a+r) (h:4294967296≤x∨4294967296*r+d<x*b):1≤x∧u=(x-1)*a+(r+a)∧(u*4294967296+d)/(a*4294967296+b)≤x-1:=by
 have h1:=RP hu hd hx h;have h0:0<x:=Nat.lt_of_le_of_lt (Nat.zero_le _) h1;obtain⟨y,rfl⟩:∃y,x=y+1:=⟨x-1,by omega⟩;refine⟨Nat.le_add_left _ _,?_,Nat.le_of_lt_succ h1⟩;rw[Nat.add_sub_cancel,hx,Nat.succ_mul];omega
theorem DY {u a b d x r:Nat} (hv:0<a) (hb:b<4294967296) (hx:u=x*a+r) (hx2:x≤4294967296) (hr:4294967296≤r) (hq:(u*4294967296+d)/(a*4294967296+b)≤x):(u*4294967296+d)/(a*4294967296+b)=x:=by
 refine Nat.le_antisymm hq (Pa (by omega) hx ?_);have:=Nat.mul_le_mul hx2 (show b≤4294967295 by omega);omega
theorem Il {u a b d x r:Nat} (hv:0<a) (hx:u=x*a+r) (h:x*b≤4294967296*r+d) (hq:(u*4294967296+d)/(a*4294967296+b)≤x):(u*4294967296+d)/(a*4294967296+b)=x:=Nat.le_antisymm hq (Pa (by omega) hx h)
theorem Dv (n v d:Nat) (hv:0<v):n/v*4294967296+(n%v*4294967296+d)/v=(n*4294967296+d)/v∧(n%v*4294967296+d)%v=(n*4294967296+d)%v:=by
 have e:n*4294967296+d=(n%v*4294967296+d)+v*(n/v*4294967296):=by
  have h:=Nat.mod_add_div n v;have h2:v*(n/v*4294967296)=(v*(n/v))*4294967296:=by rw[VT]
  rw[h2];generalize v*(n/v)=z at*;omega
 rw[e,Nat.add_mul_div_left _ _ hv,Nat.add_mul_mod_self_left];exact⟨Nat.add_comm _ _,rfl⟩
theorem NP (hi lo y s:Nat) (hs:s≤64) (hy:hi<y) (hl:lo<18446744073709551616):hi*2^s+lo/2^(64-s)<y*2^s∧(hi*2^s+lo/2^(64-s))*18446744073709551616+lo*2^s%18446744073709551616=(hi*18446744073709551616+lo)*2^s:=by
 have hp:0<2^s:=Nat.pow_pos (by decide);have hp2:0<2^(64-s):=Nat.pow_pos (by decide);have he:18446744073709551616=2^(64-s)*2^s:=by rw[←Nat.pow_add,Nat.sub_add_cancel hs]
 have e1:lo/2^(64-s)=lo*2^s/18446744073709551616:=by rw[he,Nat.mul_div_mul_right _ _ hp]
 have e2:=Nat.mod_add_div (lo*2^s) 18446744073709551616;have h3:lo/2^(64-s)<2^s:=by
  rw[Nat.div_lt_iff_lt_mul hp2,VO,←he];exact hl
 have h4:(hi+1)*2^s≤y*2^s:=Nat.mul_le_mul_right _ hy;rw[Nat.succ_mul]at h4;rw[e1]at h3 ⊢;generalize 2^s=S at*;constructor
 ·omega
 rw[Nat.add_mul (hi*18446744073709551616),VT hi,VO 18446744073709551616 S,←VT];generalize hi*S=z at*;generalize lo*S=t at*;omega
theorem OU (u y s:Nat) (hy:0<y):u*2^s/(y*2^s)=u/y∧u*2^s%(y*2^s)/2^s=u%y:=by
 have hp:0<2^s:=Nat.pow_pos (by decide);exact⟨Nat.mul_div_mul_right _ _ hp,by rw[Nat.mul_mod_mul_right,Nat.mul_div_cancel _ hp]⟩
end Go.Proofs.YthpflelgbadkcaaGreatDoor
