/- math/bits.Div64 and Rem64. -/
import Derived.Test.YthpflelgbadkcaaGreatDoorRewriteTypesP01
import Derived.Shelf.Small.Bits
import Derived.Test.YthpflelgbadkcaaGreatDoorRewriteTypesP13
import Derived.Test.YthpflelgbadkcaaGreatDoorRewriteTypesP02
set_option maxRecDepth 100000
set_option maxHeartbeats 12800000
set_option linter.unusedVariables false
set_option linter.unusedSimpArgs false
namespace Go.Proofs.YthpflelgbadkcaaGreatDoor
open Go.Shelf Go.RowKit Pl
def Sp:Go.Shelf.Ren:=⟨fun|129=>150|134=>135|n=>n,fun|3=>3|4=>4|5=>5|9=>9|46=>194|53=>123|n=>n,fun|n=>n⟩
theorem U1:Go.Proofs.Lays.n134 Tryz.prog Sp:={
 mixed:=by kernel_rfl
 f129:=Tryz.func150.trans (congrArg some (by kernel_rfl))
 f134:=Tryz.func135.trans (congrArg some (by kernel_rfl))
 t3:=Tryz.underlying3
 a3:=Tryz.isAgg3
 z3:=Tryz.sizeOf3
 v3:=Tryz.zeroValue3
 t4:=Tryz.underlying4
 a4:=Tryz.isAgg4
 z4:=Tryz.sizeOf4
 v4:=Tryz.zeroValue4
 t5:=Tryz.underlying5
 a5:=Tryz.isAgg5
 z5:=Tryz.sizeOf5
 v5:=Tryz.zeroValue5
 t9:=Tryz.underlying9
 a9:=Tryz.isAgg9
 z9:=Tryz.sizeOf9
 v9:=Tryz.zeroValue9
 t46:=Tryz.underlying194
 a46:=Tryz.isAgg194
 z46:=Tryz.sizeOf194
 v46:=Tryz.zeroValue194
 t53:=Tryz.underlying123
 a53:=Tryz.isAgg123
 z53:=Tryz.sizeOf123
 v53:=Tryz.zeroValue123 }
theorem Fs:∀(f x:Nat),x<2^f→x<2^Lib.bitLenAux f x∧(x≠0→2^Lib.bitLenAux f x≤2*x)∧Lib.bitLenAux f x≤f
 |0,x,h=>by simp at h;subst h;simp[Lib.bitLenAux]
 |f+1,x,h=>by
  unfold Lib.bitLenAux;split
  ·rename_i h0;subst h0;simp
  ·rename_i h0
   obtain⟨h1,h2,h3⟩:=Fs f (x/2) (by rw[Nat.pow_succ]at h;omega);rw[Nat.add_comm 1,Nat.pow_succ];refine⟨by omega,fun _=>?_,by omega⟩;by_cases hx:x/2=0
   ·rw[hx];have:Lib.bitLenAux f 0=0:=by cases f<;>rfl
    rw[this];omega
   have:=h2 hx;omega
theorem Rj (y:Nat) (h0:0<y) (h1:y<18446744073709551616):∃s:Nat,s<64∧64-(Lib.bitLen y:Int)=(s:Int)∧9223372036854775808≤y*2^s∧y*2^s<18446744073709551616:=by
 obtain⟨h2,h3,h4⟩:=Fs 64 y (by omega);have h3:=h3 (by omega);unfold Lib.bitLen;generalize Lib.bitLenAux 64 y=k at*;have hk:k≠0:=by rintro rfl;simp at h2;omega
 refine⟨64-k,by omega,by omega,?_,?_⟩
 ·have:2^k*2^(64-k)=2^64:=by rw[←Nat.pow_add];congr 1;omega
  have h5:=Nat.mul_le_mul_right (2^(64-k)) h3;rw[this,VT]at h5;omega
 have:2^k*2^(64-k)=2^64:=by rw[←Nat.pow_add];congr 1;omega
 have h5:y*2^(64-k)<2^k*2^(64-k):=Nat.mul_lt_mul_of_pos_right h2 (Nat.two_pow_pos _);omega
theorem RQ (x:Nat) (w:World) (h1:x<18446744073709551616):
  Calls Tryz.prog 135 #[.int .u64 (x:Int)] w fun e w'=>e= .returned (.int .i64 (64-(Lib.bitLen x:Int)))∧w'=w:=Any.bits_LeadingZeros64 U1 x w (by omega) (by omega)
theorem Hu (u d1 d0 t:Nat) (h:4294967296*d1+d0=t):(u*4294967296+d1)*4294967296+d0=u*18446744073709551616+t:=by omega
def E3 (hi lo y:Nat):Value:= .tuple #[.int .u64 (((hi*18446744073709551616+lo)/y:Nat):Int),.int .u64 (((hi*18446744073709551616+lo)%y:Nat):Int)]
theorem KO (hi lo y:Nat) (w:World) (hy:hi<y) (hy2:y<18446744073709551616) (hl:lo<18446744073709551616):Calls Tryz.prog 117 #[.int .u64 (hi:Int),.int .u64 (lo:Int),.int .u64 (y:Int)] w fun e w'=>e= .returned (E3 hi lo y)∧A4 w w':=by
 have t0:((y:Int)==0)=false:=by rw[V4];omega
 have t1:decide ((y:Int)≤(hi:Int))=false:=by simp;omega
 by_cases h0:hi=0
 ·have t2:((hi:Int)==0)=true:=by rw[VC];omega
  have q0:¬(y:Int)=0:=by omega
  have q1:¬y=0:=by omega
  have e1:(lo:Int).tdiv (y:Int)=((lo/y:Nat):Int):=rfl;have e2:(lo:Int).tmod (y:Int)=((lo%y:Nat):Int):=by rw[Int.tmod_eq_emod_of_nonneg (by omega)];rfl
  have l1:=Nat.div_le_self lo y;have l2:=Nat.mod_lt lo (show 0<y by omega);have HR:Hid (E3 hi lo y= .tuple #[.int .u64 ((lo/y:Nat):Int),.int .u64 ((lo%y:Nat):Int)]):=V3 (by unfold E3;rw[h0,Nat.zero_mul,Nat.zero_add]);generalize lo/y=qq at*;generalize lo%y=rr at*;have e3:IntKind.u64.wrap (qq:Int)=(qq:Int):=AS _ (by omega);clear h0 l1 l2;go_enter Tryz.func117,Tryz.ntmps117;go_wp2_with fail;go_quiet (fail);go_wp2_with fail;go_ret2;exact⟨by rw[HR.out];rfl,Va (VU w) nq⟩
 have t2:((hi:Int)==0)=false:=by rw[V4];omega
 obtain⟨s,hs,hbl,hv1,hv2⟩:=Rj y (by omega) hy2;have HLZ:=V3 (fun w'=>RQ y w' hy2);rw[hbl]at HLZ;go_enter Tryz.func117,Tryz.ntmps117;go_upto_region 8 with(go_at_call 135;(with_reducible refine(HLZ.out _).mono ?_);rintro e w' ⟨rfl,rfl⟩);have HN:=V3 (NP hi lo y s (by omega) hy hl);have HBk:=V3 (OU (hi*18446744073709551616+lo) y s (by omega));have hp:0<2^s:=Nat.two_pow_pos s;have hp2:0<2^(64-s):=Nat.two_pow_pos _;have hpp:2^(64-s)*2^s=18446744073709551616:=by rw[←Nat.pow_add,Nat.sub_add_cancel (by omega)]
 have hl2:lo/2^(64-s)<2^s:=by rw[Nat.div_lt_iff_lt_mul hp2,VO,hpp];exact hl
 have hh2:hi*2^s<y*2^s:=Nat.mul_lt_mul_of_pos_right hy hp;have e1:IntKind.u64.wrap ((y:Int)*2^s)=((y*2^s:Nat):Int):=by rw[show(y:Int)*2^s=((y*2^s:Nat):Int)from by simp];exact AS _ hv2
 have e4:IntKind.u64.wrap ((hi:Int)*2^s)=((hi*2^s:Nat):Int):=by rw[show(hi:Int)*2^s=((hi*2^s:Nat):Int)from by simp];exact AS _ (by omega)
 have e5:(lo:Int)/2^(64-s)=((lo/2^(64-s):Nat):Int):=by simp
 have hor:hi*2^s|||lo/2^(64-s)=hi*2^s+lo/2^(64-s):=by rw[VO hi,Nat.two_pow_add_eq_or_of_lt hl2]
 have hps:2^s≤18446744073709551616:=by rw[←hpp];exact Nat.le_mul_of_pos_left _ hp2
 have e6:bits BinOp.or IntKind.u64 ((hi*2^s:Nat):Int) ((lo/2^(64-s):Nat):Int)=((hi*2^s+lo/2^(64-s):Nat):Int):=by rw[u64_or_nat _ _ (by omega) (by omega),hor]
 have e7:IntKind.u64.wrap ((lo:Int)*2^s)=((lo*2^s%18446744073709551616:Nat):Int):=by
  rw[show(lo:Int)*2^s=((lo*2^s:Nat):Int)from by simp];show((lo*2^s:Nat):Int)%2^64=_;omega
 have hu:=HN.out.1;have HU:=V3 HN.out.2;clear HN hor hps hh2 hl2 hpp hp2;have ht:=Nat.mod_lt (lo*2^s) (show 0<18446744073709551616 by decide);generalize hvv:y*2^s=v at*;generalize hi*2^s=h2 at*;generalize lo/2^(64-s)=l2 at*;generalize huu:h2+l2=u at*;generalize lo*2^s%18446744073709551616=t at*;have msk:∀x:Nat,x<18446744073709551616→bits BinOp.and IntKind.u64 (x:Int) 4294967295=((x%4294967296:Nat):Int):=fun x hx=>by
  have:=u64_and_nat x 4294967295 hx (by decide);rw[show x&&&4294967295=x%4294967296 from Nat.and_two_pow_sub_one_eq_mod x 32]at this;exact this
 have e2:(v:Int)/4294967296=((v/4294967296:Nat):Int):=rfl;have e3:=msk v hv2;have e8:(t:Int)/4294967296=((t/4294967296:Nat):Int):=rfl;have e9:=msk t ht;have hvd:=Nat.div_add_mod v 4294967296;have htd:=Nat.div_add_mod t 4294967296;have hbl2:=Nat.mod_lt v (show 0<4294967296 by decide);have hd0:=Nat.mod_lt t (show 0<4294967296 by decide);generalize v/4294967296=a at*;generalize v%4294967296=b at*;generalize t/4294967296=d1 at*;generalize t%4294967296=d0 at*;clear msk;go_upto_region 15 with fail;clear e1 e2 e3 e4 e5 e6 e7 e8 e9 t0 t1 t2;have ha:2147483648≤a:=by omega
 have ha2:a<4294967296:=by omega
 have hd1:d1<4294967296:=by omega
 have hv:a*4294967296+b=v:=by omega
 have q0:¬(a:Int)=0:=by omega
 have q1:¬a=0:=by omega
 have f1:(u:Int).tdiv (a:Int)=((u/a:Nat):Int):=rfl;have hx0:=GB ha hbl2 (show u<a*4294967296+b by omega);have hdm:=Nat.div_add_mod u a;have hrl:=Nat.mod_lt u (show 0<a by omega);have hge:=L8 (b:=b) hd1 (show 0<a by omega) (show u=u/a*a+u%a by rw[VO];omega) hrl;rw[hv]at hge;have hma:u/a*a+u%a=u:=by rw[VO];exact hdm
 generalize u/a=x0 at*;generalize u%a=r0 at*;have f2:IntKind.u64.wrap (x0:Int)=(x0:Int):=AS _ (by omega);have f3:(x0:Int)*(a:Int)=((x0*a:Nat):Int):=(VL _ _).symm;have hst:Hid (u=x0*a+r0):=V3 hma.symm;generalize x0*a=m0 at f3 hma;have f4:IntKind.u64.wrap (m0:Int)=(m0:Int):=AS _ (by omega);have f5:IntKind.u64.wrap ((u:Int)-(m0:Int))=(r0:Int):=by
  rw[show(u:Int)-(m0:Int)=(r0:Int) by omega];exact AS _ (by omega)
 have HTD:=V3 htd;have HGE:=V3 hge;have HX0:=V3 hx0;have HRL:Hid (r0<4294967296):=V3 (by omega);have HC:=V3 (V5 hv (V5 ha (V5 ha2 (V5 hbl2 (V5 hd1 (V5 hd0 (V5 hu hv2)))))));go_upto_region 17 with fail;clear f1 f2 f3 f4 f5 q0 q1 hdm hrl hma hvd htd hvv huu ht hge hx0 ha ha2 hbl2 hd1 hd0 hu hv2 hv hv1 hy hy2 hl hp HLZ hbl h0;go_wp2_with fail;go_loopw [15,16] (fun c i wr=>∃(x r:Nat),c= .int .u64 (x:Int)∧i= .int .u64 (r:Int)∧x≤4294967297∧r<4294967296∧u=x*a+r∧(u*4294967296+d1)/v≤x∧wr=w') (fun c _ _=>(intOf c).toNat)
 case atStart=>exact⟨x0,r0,rfl,rfl,HX0.out,HRL.out,hst.out,HGE.out,rfl⟩
 case round=>
  obtain⟨x,r,rfl,rfl,hxl,hrl,hux,hqx,hwr⟩:=hrel;have hw2:=hwr.symm;clear hwr;subst hw2;by_cases hbig:4294967296≤x
  ·have ta:decide ((4294967296:Int)≤(x:Int))=true:=by simp;omega
   obtain⟨g1,g2,g3⟩:=De (b:=b) (show u<a*4294967296+b by have:=HC.out;omega) (show d1<4294967296 by have:=HC.out;omega) hux (.inl hbig);obtain⟨z,hz⟩:∃z,z+1=x:=⟨x-1,by omega⟩;rw[show x-1=z from by omega]at g2 g3;rw[HC.out.1]at g3;have em:IntKind.u64.wrap ((x:Int)-1)=(z:Int):=by rw[show(x:Int)-1=(z:Int)from by omega];exact AS _ (by omega)
   have ea:IntKind.u64.wrap ((r:Int)+(a:Int))=((r+a:Nat):Int):=by rw[←Int.natCast_add];exact AS _ (by have:=HC.out;omega)
   have HZ2:=V3 g2;have HZ3:=V3 g3;have hzl:z≤4294967296:=by omega
   generalize hra:r+a=r2 at*;by_cases hbr:4294967296≤r2
   ·have tb:decide ((4294967296:Int)≤(r2:Int))=true:=by simp;omega
    have HQ:Hid ((u*4294967296+d1)/v=z):=V3 (by
     have h1:=HC.out.1;rw[←h1];exact DY (by have:=HC.out;omega) HC.out.2.2.2.1 HZ2.out hzl hbr (by rw[h1];exact HZ3.out))
    clear g1 g2 g3 hz hra hbr hux hqx hxl hrl hzl HZ2 HZ3 hbig;have hR:=Nat.div_add_mod (u*4294967296+d1) v;have hRl:=Nat.mod_lt (u*4294967296+d1) (show 0<v by have:=HC.out;omega);have hQl:(u*4294967296+d1)/v<4294967296:=by
     have:=HC.out;rw[Nat.div_lt_iff_lt_mul (by omega)];omega
    rw[HQ.out]at hR hQl;have i0:(z:Int)*(v:Int)=((v*z:Nat):Int):=by rw[VO];exact(VL _ _).symm
    obtain⟨R1,hR1⟩:∃z,(u*4294967296+d1)%v=z:=⟨_,rfl⟩;rw[hR1]at hR hRl;generalize v*z=zz at*;obtain⟨m1,hm1⟩:∃z,z=u*4294967296%18446744073709551616:=⟨_,rfl⟩;have i1:IntKind.u64.wrap ((u:Int)*4294967296)=(m1:Int):=by
     show((u:Int)*4294967296)%2^64=_;omega
    obtain⟨m2,hm2⟩:∃z,z=(m1+d1)%18446744073709551616:=⟨_,rfl⟩;have i2:IntKind.u64.wrap ((m1:Int)+(d1:Int))=(m2:Int):=by
     show((m1:Int)+(d1:Int))%2^64=_;omega
    obtain⟨m3,hm3⟩:∃z,z=zz%18446744073709551616:=⟨_,rfl⟩;have i3:IntKind.u64.wrap (zz:Int)=(m3:Int):=by
     show(zz:Int)%2^64=_;omega
    have i4:IntKind.u64.wrap ((m2:Int)-(m3:Int))=(R1:Int):=by
     show((m2:Int)-(m3:Int))%2^64=_;have:=HC.out;omega
    have HR1:=V3 hR1;have HQl:=V3 hQl;have HRl:=V3 hRl;clear hm1 hm2 hm3 hR hR1 hQl;go_upto_region 22 with fail;clear i0 i1 i2 i3 i4
    try clear ea
    try clear em
    try clear ta
    try clear tb
    try clear tc
    try clear e1
    try clear e2
    try clear e3
    try clear e4
    have j0:¬(a:Int)=0:=by have:=HC.out;omega
    have j1:¬a=0:=by omega
    have j2:(R1:Int).tdiv (a:Int)=((R1/a:Nat):Int):=rfl;have jx:=GB HC.out.2.1 HC.out.2.2.2.1 (show R1<a*4294967296+b by have:=HC.out;omega);have jd:=Nat.div_add_mod R1 a;have jl:=Nat.mod_lt R1 (show 0<a by omega);have jg:=L8 (b:=b) HC.out.2.2.2.2.2.1 (show 0<a by omega) (show R1=R1/a*a+R1%a by rw[VO];omega) jl;rw[HC.out.1]at jg;have jm:R1/a*a+R1%a=R1:=by rw[VO];exact jd
    generalize R1/a=y0 at*;generalize R1%a=s0 at*;have k2:IntKind.u64.wrap (y0:Int)=(y0:Int):=AS _ (by omega);have k3:(y0:Int)*(a:Int)=((y0*a:Nat):Int):=(VL _ _).symm;have kst:Hid (R1=y0*a+s0):=V3 jm.symm;generalize y0*a=n0 at k3 jm;have k4:IntKind.u64.wrap (n0:Int)=(n0:Int):=AS _ (by have:=HC.out;omega);have k5:IntKind.u64.wrap ((R1:Int)-(n0:Int))=(s0:Int):=by
     rw[show(R1:Int)-(n0:Int)=(s0:Int) by omega];exact AS _ (by have:=HC.out;omega)
    have KL:Hid (s0<4294967296):=V3 (by have:=HC.out;omega);have KX:=V3 jx;have KG:=V3 jg;have HQ1:=HQ;clear HQ;clear jx jd jl jg jm hRl;go_upto_region 24 with fail;clear j0 j1 j2 k2 k3 k4 k5;go_wp2_with fail;go_loopw [18,16] (fun c i wr=>∃(xb rb:Nat),c= .int .u64 (xb:Int)∧i= .int .u64 (rb:Int)∧xb≤4294967297∧rb<4294967296∧R1=xb*a+rb∧(R1*4294967296+d0)/v≤xb∧wr=w') (fun c _ _=>(intOf c).toNat)
    case atStart=>exact⟨y0,s0,rfl,rfl,KX.out,KL.out,kst.out,KG.out,rfl⟩
    case round=>
     obtain⟨xb,rb,rfl,rfl,hxl,hrl,hux,hqx,hwr⟩:=hrel;have hw2:=hwr.symm;clear hwr;subst hw2;by_cases hbig:4294967296≤xb
     ·have ta:decide ((4294967296:Int)≤(xb:Int))=true:=by simp;omega
      obtain⟨g1,g2,g3⟩:=De (b:=b) (show R1<a*4294967296+b by have:=HC.out;have:=HRl.out;omega) (show d0<4294967296 by have:=HC.out;omega) hux (.inl hbig);obtain⟨zb,hz⟩:∃zb,zb+1=xb:=⟨xb-1,by omega⟩;rw[show xb-1=zb from by omega]at g2 g3;rw[HC.out.1]at g3;have em:IntKind.u64.wrap ((xb:Int)-1)=(zb:Int):=by rw[show(xb:Int)-1=(zb:Int)from by omega];exact AS _ (by omega)
      have ea:IntKind.u64.wrap ((rb:Int)+(a:Int))=((rb+a:Nat):Int):=by rw[←Int.natCast_add];exact AS _ (by have:=HC.out;omega)
      have HZ2:=V3 g2;have HZ3:=V3 g3;have hzl:zb≤4294967296:=by omega
      generalize hra:rb+a=r2b at*;by_cases hbr:4294967296≤r2b
      ·have tb:decide ((4294967296:Int)≤(r2b:Int))=true:=by simp;omega
       have HQ:Hid ((R1*4294967296+d0)/v=zb):=V3 (by
        have h1:=HC.out.1;rw[←h1];exact DY (by have:=HC.out;omega) HC.out.2.2.2.1 HZ2.out hzl hbr (by rw[h1];exact HZ3.out))
       clear g1 g2 g3 hz hra hbr hux hqx hxl hrl hzl HZ2 HZ3 hbig;have hR:=Nat.div_add_mod (R1*4294967296+d0) v;have hRl:=Nat.mod_lt (R1*4294967296+d0) (show 0<v by have:=HC.out;omega);have hQl:(R1*4294967296+d0)/v<4294967296:=by
        have:=HC.out;have:=HRl.out;rw[Nat.div_lt_iff_lt_mul (by omega)];omega
       rw[HQ.out]at hR hQl;have hQ1l:=HQl.out;have i0:(zb:Int)*(v:Int)=((v*zb:Nat):Int):=by rw[VO];exact(VL _ _).symm
       obtain⟨R0,hR0⟩:∃z,(R1*4294967296+d0)%v=z:=⟨_,rfl⟩;rw[hR0]at hR hRl;have HRES:Hid (E3 hi lo y= .tuple #[.int .u64 ((z*4294967296+zb:Nat):Int),.int .u64 ((R0/2^s:Nat):Int)]):=V3 (by
        obtain⟨h1,h2⟩:=Dv (u*4294967296+d1) v d0 (by have:=HC.out;omega);rw[HR1.out,HQ1.out,HQ.out]at h1;rw[HR1.out,hR0]at h2;have h3:(u*4294967296+d1)*4294967296+d0=(hi*18446744073709551616+lo)*2^s:=Eq.trans (Hu u d1 d0 t HTD.out) HU.out;rw[h3]at h1 h2;rw[HBk.out.1]at h1;unfold E3;rw[h1,h2,HBk.out.2])
       generalize v*zb=zz0 at*;obtain⟨qb,hqb⟩:∃n,n=z*4294967296:=⟨_,rfl⟩;have k1:IntKind.u64.wrap ((z:Int)*4294967296)=(qb:Int):=by rw[show(z:Int)*4294967296=(qb:Int)from by omega];exact AS _ (by omega)
       obtain⟨qq,hqq⟩:∃n,n=qb+zb:=⟨_,rfl⟩;have k2:IntKind.u64.wrap ((qb:Int)+(zb:Int))=(qq:Int):=by rw[show(qb:Int)+(zb:Int)=(qq:Int)from by omega];exact AS _ (by omega)
       rw[←hqb,←hqq]at HRES;obtain⟨m1,hm1⟩:∃z,z=R1*4294967296%18446744073709551616:=⟨_,rfl⟩;have i1:IntKind.u64.wrap ((R1:Int)*4294967296)=(m1:Int):=by
        show((R1:Int)*4294967296)%2^64=_;omega
       obtain⟨m2,hm2⟩:∃z,z=(m1+d0)%18446744073709551616:=⟨_,rfl⟩;have i2:IntKind.u64.wrap ((m1:Int)+(d0:Int))=(m2:Int):=by
        show((m1:Int)+(d0:Int))%2^64=_;omega
       obtain⟨m3,hm3⟩:∃z,z=zz0%18446744073709551616:=⟨_,rfl⟩;have i3:IntKind.u64.wrap (zz0:Int)=(m3:Int):=by
        show(zz0:Int)%2^64=_;omega
       have i4:IntKind.u64.wrap ((m2:Int)-(m3:Int))=(R0:Int):=by
        show((m2:Int)-(m3:Int))%2^64=_;have:=HC.out;omega
       have k7:(R0:Int)/2^s=((R0/2^s:Nat):Int):=by simp
       generalize R0/2^s=rr at*;clear hm1 hm2 hm3 hR hRl hR0 hQl hQ1l hqb hqq;go_wp2_with fail;go_ret2;exact⟨by rw[HRES.out];rfl,VU _⟩
      have tb:decide ((4294967296:Int)≤(r2b:Int))=false:=by simp;omega
      have hxm:zb<xb:=by omega
      have HXM:=V3 hxm;have HZL:=V3 hzl;have HBR:Hid (r2b<4294967296):=V3 (by omega);clear g1 g2 g3 hz hra hbr hux hqx hxl hrl hzl hxm hbig;go_wp2_with fail;go_roundw
      case rel=>exact⟨zb,r2b,rfl,rfl,by have:=HZL.out;omega,HBR.out,HZ2.out,HZ3.out,trivial⟩
      case measure=>have:=HXM.out;simp[intOf];omega
     have ta:decide ((4294967296:Int)≤(xb:Int))=false:=by simp;omega
     have hpr:=Nat.mul_le_mul hxl (show b≤4294967295 by have:=HC.out;omega);have e1:(xb:Int)*(b:Int)=((xb*b:Nat):Int):=(VL _ _).symm;have hmm:Hid (xb*b=xb*b):=V3 rfl;generalize hm:xb*b=mb at*;have e2:IntKind.u64.wrap (mb:Int)=(mb:Int):=AS _ (by omega);have e3:IntKind.u64.wrap (4294967296*(rb:Int))=4294967296*(rb:Int):=Cw _ (by omega) (by omega);have e4:IntKind.u64.wrap (4294967296*(rb:Int)+(d0:Int))=4294967296*(rb:Int)+(d0:Int):=Cw _ (by omega) (by have:=HC.out;omega);clear hmm hbig hpr;by_cases hcd:4294967296*rb+d0<mb
     ·have tc:decide (4294967296*(rb:Int)+(d0:Int)<(mb:Int))=true:=by simp;omega
      rw[←hm]at hcd;obtain⟨g1,g2,g3⟩:=De (b:=b) (show R1<a*4294967296+b by have:=HC.out;have:=HRl.out;omega) (show d0<4294967296 by have:=HC.out;omega) hux (.inr hcd);obtain⟨zb,hz⟩:∃zb,zb+1=xb:=⟨xb-1,by omega⟩;rw[show xb-1=zb from by omega]at g2 g3;rw[HC.out.1]at g3;have em:IntKind.u64.wrap ((xb:Int)-1)=(zb:Int):=by rw[show(xb:Int)-1=(zb:Int)from by omega];exact AS _ (by omega)
      have ea:IntKind.u64.wrap ((rb:Int)+(a:Int))=((rb+a:Nat):Int):=by rw[←Int.natCast_add];exact AS _ (by have:=HC.out;omega)
      have HZ2:=V3 g2;have HZ3:=V3 g3;have hzl:zb≤4294967296:=by omega
      generalize hra:rb+a=r2b at*;by_cases hbr:4294967296≤r2b
      ·have tb:decide ((4294967296:Int)≤(r2b:Int))=true:=by simp;omega
       have HQ:Hid ((R1*4294967296+d0)/v=zb):=V3 (by
        have h1:=HC.out.1;rw[←h1];exact DY (by have:=HC.out;omega) HC.out.2.2.2.1 HZ2.out hzl hbr (by rw[h1];exact HZ3.out))
       clear g1 g2 g3 hz hra hbr hux hqx hxl hrl hzl HZ2 HZ3 hcd;have hR:=Nat.div_add_mod (R1*4294967296+d0) v;have hRl:=Nat.mod_lt (R1*4294967296+d0) (show 0<v by have:=HC.out;omega);have hQl:(R1*4294967296+d0)/v<4294967296:=by
        have:=HC.out;have:=HRl.out;rw[Nat.div_lt_iff_lt_mul (by omega)];omega
       rw[HQ.out]at hR hQl;have hQ1l:=HQl.out;have i0:(zb:Int)*(v:Int)=((v*zb:Nat):Int):=by rw[VO];exact(VL _ _).symm
       obtain⟨R0,hR0⟩:∃z,(R1*4294967296+d0)%v=z:=⟨_,rfl⟩;rw[hR0]at hR hRl;have HRES:Hid (E3 hi lo y= .tuple #[.int .u64 ((z*4294967296+zb:Nat):Int),.int .u64 ((R0/2^s:Nat):Int)]):=V3 (by
        obtain⟨h1,h2⟩:=Dv (u*4294967296+d1) v d0 (by have:=HC.out;omega);rw[HR1.out,HQ1.out,HQ.out]at h1;rw[HR1.out,hR0]at h2;have h3:(u*4294967296+d1)*4294967296+d0=(hi*18446744073709551616+lo)*2^s:=Eq.trans (Hu u d1 d0 t HTD.out) HU.out;rw[h3]at h1 h2;rw[HBk.out.1]at h1;unfold E3;rw[h1,h2,HBk.out.2])
       generalize v*zb=zz0 at*;obtain⟨qb,hqb⟩:∃n,n=z*4294967296:=⟨_,rfl⟩;have k1:IntKind.u64.wrap ((z:Int)*4294967296)=(qb:Int):=by rw[show(z:Int)*4294967296=(qb:Int)from by omega];exact AS _ (by omega)
       obtain⟨qq,hqq⟩:∃n,n=qb+zb:=⟨_,rfl⟩;have k2:IntKind.u64.wrap ((qb:Int)+(zb:Int))=(qq:Int):=by rw[show(qb:Int)+(zb:Int)=(qq:Int)from by omega];exact AS _ (by omega)
       rw[←hqb,←hqq]at HRES;obtain⟨m1,hm1⟩:∃z,z=R1*4294967296%18446744073709551616:=⟨_,rfl⟩;have i1:IntKind.u64.wrap ((R1:Int)*4294967296)=(m1:Int):=by
        show((R1:Int)*4294967296)%2^64=_;omega
       obtain⟨m2,hm2⟩:∃z,z=(m1+d0)%18446744073709551616:=⟨_,rfl⟩;have i2:IntKind.u64.wrap ((m1:Int)+(d0:Int))=(m2:Int):=by
        show((m1:Int)+(d0:Int))%2^64=_;omega
       obtain⟨m3,hm3⟩:∃z,z=zz0%18446744073709551616:=⟨_,rfl⟩;have i3:IntKind.u64.wrap (zz0:Int)=(m3:Int):=by
        show(zz0:Int)%2^64=_;omega
       have i4:IntKind.u64.wrap ((m2:Int)-(m3:Int))=(R0:Int):=by
        show((m2:Int)-(m3:Int))%2^64=_;have:=HC.out;omega
       have k7:(R0:Int)/2^s=((R0/2^s:Nat):Int):=by simp
       generalize R0/2^s=rr at*;clear hm1 hm2 hm3 hR hRl hR0 hQl hQ1l hqb hqq;go_wp2_with fail;go_ret2;exact⟨by rw[HRES.out];rfl,VU _⟩
      have tb:decide ((4294967296:Int)≤(r2b:Int))=false:=by simp;omega
      have hxm:zb<xb:=by omega
      have HXM:=V3 hxm;have HZL:=V3 hzl;have HBR:Hid (r2b<4294967296):=V3 (by omega);clear g1 g2 g3 hz hra hbr hux hqx hxl hrl hzl hxm hcd;go_wp2_with fail;go_roundw
      case rel=>exact⟨zb,r2b,rfl,rfl,by have:=HZL.out;omega,HBR.out,HZ2.out,HZ3.out,trivial⟩
      case measure=>have:=HXM.out;simp[intOf];omega
     have tc:decide (4294967296*(rb:Int)+(d0:Int)<(mb:Int))=false:=by simp;omega
     have HQ:Hid ((R1*4294967296+d0)/v=xb):=V3 (by
      have h1:=HC.out.1;rw[←h1];exact Il (by have:=HC.out;omega) hux (by rw[hm];omega) (by rw[h1];exact hqx))
     clear hux hqx hxl hrl hm hcd;have hR:=Nat.div_add_mod (R1*4294967296+d0) v;have hRl:=Nat.mod_lt (R1*4294967296+d0) (show 0<v by have:=HC.out;omega);have hQl:(R1*4294967296+d0)/v<4294967296:=by
      have:=HC.out;have:=HRl.out;rw[Nat.div_lt_iff_lt_mul (by omega)];omega
     rw[HQ.out]at hR hQl;have hQ1l:=HQl.out;have i0:(xb:Int)*(v:Int)=((v*xb:Nat):Int):=by rw[VO];exact(VL _ _).symm
     obtain⟨R0,hR0⟩:∃z,(R1*4294967296+d0)%v=z:=⟨_,rfl⟩;rw[hR0]at hR hRl;have HRES:Hid (E3 hi lo y= .tuple #[.int .u64 ((z*4294967296+xb:Nat):Int),.int .u64 ((R0/2^s:Nat):Int)]):=V3 (by
      obtain⟨h1,h2⟩:=Dv (u*4294967296+d1) v d0 (by have:=HC.out;omega);rw[HR1.out,HQ1.out,HQ.out]at h1;rw[HR1.out,hR0]at h2;have h3:(u*4294967296+d1)*4294967296+d0=(hi*18446744073709551616+lo)*2^s:=Eq.trans (Hu u d1 d0 t HTD.out) HU.out;rw[h3]at h1 h2;rw[HBk.out.1]at h1;unfold E3;rw[h1,h2,HBk.out.2])
     generalize v*xb=zz0 at*;obtain⟨qb,hqb⟩:∃n,n=z*4294967296:=⟨_,rfl⟩;have k1:IntKind.u64.wrap ((z:Int)*4294967296)=(qb:Int):=by rw[show(z:Int)*4294967296=(qb:Int)from by omega];exact AS _ (by omega)
     obtain⟨qq,hqq⟩:∃n,n=qb+xb:=⟨_,rfl⟩;have k2:IntKind.u64.wrap ((qb:Int)+(xb:Int))=(qq:Int):=by rw[show(qb:Int)+(xb:Int)=(qq:Int)from by omega];exact AS _ (by omega)
     rw[←hqb,←hqq]at HRES;obtain⟨m1,hm1⟩:∃z,z=R1*4294967296%18446744073709551616:=⟨_,rfl⟩;have i1:IntKind.u64.wrap ((R1:Int)*4294967296)=(m1:Int):=by
      show((R1:Int)*4294967296)%2^64=_;omega
     obtain⟨m2,hm2⟩:∃z,z=(m1+d0)%18446744073709551616:=⟨_,rfl⟩;have i2:IntKind.u64.wrap ((m1:Int)+(d0:Int))=(m2:Int):=by
      show((m1:Int)+(d0:Int))%2^64=_;omega
     obtain⟨m3,hm3⟩:∃z,z=zz0%18446744073709551616:=⟨_,rfl⟩;have i3:IntKind.u64.wrap (zz0:Int)=(m3:Int):=by
      show(zz0:Int)%2^64=_;omega
     have i4:IntKind.u64.wrap ((m2:Int)-(m3:Int))=(R0:Int):=by
      show((m2:Int)-(m3:Int))%2^64=_;have:=HC.out;omega
     have k7:(R0:Int)/2^s=((R0/2^s:Nat):Int):=by simp
     generalize R0/2^s=rr at*;clear hm1 hm2 hm3 hR hRl hR0 hQl hQ1l hqb hqq;go_wp2_with fail;go_ret2;exact⟨by rw[HRES.out];rfl,VU _⟩
   have tb:decide ((4294967296:Int)≤(r2:Int))=false:=by simp;omega
   have hxm:z<x:=by omega
   have HXM:=V3 hxm;have HZL:=V3 hzl;have HBR:Hid (r2<4294967296):=V3 (by omega);clear g1 g2 g3 hz hra hbr hux hqx hxl hrl hzl hxm hbig;go_wp2_with fail;go_roundw
   case rel=>exact⟨z,r2,rfl,rfl,by have:=HZL.out;omega,HBR.out,HZ2.out,HZ3.out,trivial⟩
   case measure=>have:=HXM.out;simp[intOf];omega
  have ta:decide ((4294967296:Int)≤(x:Int))=false:=by simp;omega
  have hpr:=Nat.mul_le_mul hxl (show b≤4294967295 by have:=HC.out;omega);have e1:(x:Int)*(b:Int)=((x*b:Nat):Int):=(VL _ _).symm;have hmm:Hid (x*b=x*b):=V3 rfl;generalize hm:x*b=m at*;have e2:IntKind.u64.wrap (m:Int)=(m:Int):=AS _ (by omega);have e3:IntKind.u64.wrap (4294967296*(r:Int))=4294967296*(r:Int):=Cw _ (by omega) (by omega);have e4:IntKind.u64.wrap (4294967296*(r:Int)+(d1:Int))=4294967296*(r:Int)+(d1:Int):=Cw _ (by omega) (by have:=HC.out;omega);clear hmm hbig hpr;by_cases hcd:4294967296*r+d1<m
  ·have tc:decide (4294967296*(r:Int)+(d1:Int)<(m:Int))=true:=by simp;omega
   rw[←hm]at hcd;obtain⟨g1,g2,g3⟩:=De (b:=b) (show u<a*4294967296+b by have:=HC.out;omega) (show d1<4294967296 by have:=HC.out;omega) hux (.inr hcd);obtain⟨z,hz⟩:∃z,z+1=x:=⟨x-1,by omega⟩;rw[show x-1=z from by omega]at g2 g3;rw[HC.out.1]at g3;have em:IntKind.u64.wrap ((x:Int)-1)=(z:Int):=by rw[show(x:Int)-1=(z:Int)from by omega];exact AS _ (by omega)
   have ea:IntKind.u64.wrap ((r:Int)+(a:Int))=((r+a:Nat):Int):=by rw[←Int.natCast_add];exact AS _ (by have:=HC.out;omega)
   have HZ2:=V3 g2;have HZ3:=V3 g3;have hzl:z≤4294967296:=by omega
   generalize hra:r+a=r2 at*;by_cases hbr:4294967296≤r2
   ·have tb:decide ((4294967296:Int)≤(r2:Int))=true:=by simp;omega
    have HQ:Hid ((u*4294967296+d1)/v=z):=V3 (by
     have h1:=HC.out.1;rw[←h1];exact DY (by have:=HC.out;omega) HC.out.2.2.2.1 HZ2.out hzl hbr (by rw[h1];exact HZ3.out))
    clear g1 g2 g3 hz hra hbr hux hqx hxl hrl hzl HZ2 HZ3 hcd;have hR:=Nat.div_add_mod (u*4294967296+d1) v;have hRl:=Nat.mod_lt (u*4294967296+d1) (show 0<v by have:=HC.out;omega);have hQl:(u*4294967296+d1)/v<4294967296:=by
     have:=HC.out;rw[Nat.div_lt_iff_lt_mul (by omega)];omega
    rw[HQ.out]at hR hQl;have i0:(z:Int)*(v:Int)=((v*z:Nat):Int):=by rw[VO];exact(VL _ _).symm
    obtain⟨R1,hR1⟩:∃z,(u*4294967296+d1)%v=z:=⟨_,rfl⟩;rw[hR1]at hR hRl;generalize v*z=zz at*;obtain⟨m1,hm1⟩:∃z,z=u*4294967296%18446744073709551616:=⟨_,rfl⟩;have i1:IntKind.u64.wrap ((u:Int)*4294967296)=(m1:Int):=by
     show((u:Int)*4294967296)%2^64=_;omega
    obtain⟨m2,hm2⟩:∃z,z=(m1+d1)%18446744073709551616:=⟨_,rfl⟩;have i2:IntKind.u64.wrap ((m1:Int)+(d1:Int))=(m2:Int):=by
     show((m1:Int)+(d1:Int))%2^64=_;omega
    obtain⟨m3,hm3⟩:∃z,z=zz%18446744073709551616:=⟨_,rfl⟩;have i3:IntKind.u64.wrap (zz:Int)=(m3:Int):=by
     show(zz:Int)%2^64=_;omega
    have i4:IntKind.u64.wrap ((m2:Int)-(m3:Int))=(R1:Int):=by
     show((m2:Int)-(m3:Int))%2^64=_;have:=HC.out;omega
    have HR1:=V3 hR1;have HQl:=V3 hQl;have HRl:=V3 hRl;clear hm1 hm2 hm3 hR hR1 hQl;go_upto_region 22 with fail;clear i0 i1 i2 i3 i4
    try clear ea
    try clear em
    try clear ta
    try clear tb
    try clear tc
    try clear e1
    try clear e2
    try clear e3
    try clear e4
    have j0:¬(a:Int)=0:=by have:=HC.out;omega
    have j1:¬a=0:=by omega
    have j2:(R1:Int).tdiv (a:Int)=((R1/a:Nat):Int):=rfl;have jx:=GB HC.out.2.1 HC.out.2.2.2.1 (show R1<a*4294967296+b by have:=HC.out;omega);have jd:=Nat.div_add_mod R1 a;have jl:=Nat.mod_lt R1 (show 0<a by omega);have jg:=L8 (b:=b) HC.out.2.2.2.2.2.1 (show 0<a by omega) (show R1=R1/a*a+R1%a by rw[VO];omega) jl;rw[HC.out.1]at jg;have jm:R1/a*a+R1%a=R1:=by rw[VO];exact jd
    generalize R1/a=y0 at*;generalize R1%a=s0 at*;have k2:IntKind.u64.wrap (y0:Int)=(y0:Int):=AS _ (by omega);have k3:(y0:Int)*(a:Int)=((y0*a:Nat):Int):=(VL _ _).symm;have kst:Hid (R1=y0*a+s0):=V3 jm.symm;generalize y0*a=n0 at k3 jm;have k4:IntKind.u64.wrap (n0:Int)=(n0:Int):=AS _ (by have:=HC.out;omega);have k5:IntKind.u64.wrap ((R1:Int)-(n0:Int))=(s0:Int):=by
     rw[show(R1:Int)-(n0:Int)=(s0:Int) by omega];exact AS _ (by have:=HC.out;omega)
    have KL:Hid (s0<4294967296):=V3 (by have:=HC.out;omega);have KX:=V3 jx;have KG:=V3 jg;have HQ1:=HQ;clear HQ;clear jx jd jl jg jm hRl;go_upto_region 24 with fail;clear j0 j1 j2 k2 k3 k4 k5;go_wp2_with fail;go_loopw [18,16] (fun c i wr=>∃(xb rb:Nat),c= .int .u64 (xb:Int)∧i= .int .u64 (rb:Int)∧xb≤4294967297∧rb<4294967296∧R1=xb*a+rb∧(R1*4294967296+d0)/v≤xb∧wr=w') (fun c _ _=>(intOf c).toNat)
    case atStart=>exact⟨y0,s0,rfl,rfl,KX.out,KL.out,kst.out,KG.out,rfl⟩
    case round=>
     obtain⟨xb,rb,rfl,rfl,hxl,hrl,hux,hqx,hwr⟩:=hrel;have hw2:=hwr.symm;clear hwr;subst hw2;by_cases hbig:4294967296≤xb
     ·have ta:decide ((4294967296:Int)≤(xb:Int))=true:=by simp;omega
      obtain⟨g1,g2,g3⟩:=De (b:=b) (show R1<a*4294967296+b by have:=HC.out;have:=HRl.out;omega) (show d0<4294967296 by have:=HC.out;omega) hux (.inl hbig);obtain⟨zb,hz⟩:∃zb,zb+1=xb:=⟨xb-1,by omega⟩;rw[show xb-1=zb from by omega]at g2 g3;rw[HC.out.1]at g3;have em:IntKind.u64.wrap ((xb:Int)-1)=(zb:Int):=by rw[show(xb:Int)-1=(zb:Int)from by omega];exact AS _ (by omega)
      have ea:IntKind.u64.wrap ((rb:Int)+(a:Int))=((rb+a:Nat):Int):=by rw[←Int.natCast_add];exact AS _ (by have:=HC.out;omega)
      have HZ2:=V3 g2;have HZ3:=V3 g3;have hzl:zb≤4294967296:=by omega
      generalize hra:rb+a=r2b at*;by_cases hbr:4294967296≤r2b
      ·have tb:decide ((4294967296:Int)≤(r2b:Int))=true:=by simp;omega
       have HQ:Hid ((R1*4294967296+d0)/v=zb):=V3 (by
        have h1:=HC.out.1;rw[←h1];exact DY (by have:=HC.out;omega) HC.out.2.2.2.1 HZ2.out hzl hbr (by rw[h1];exact HZ3.out))
       clear g1 g2 g3 hz hra hbr hux hqx hxl hrl hzl HZ2 HZ3 hbig;have hR:=Nat.div_add_mod (R1*4294967296+d0) v;have hRl:=Nat.mod_lt (R1*4294967296+d0) (show 0<v by have:=HC.out;omega);have hQl:(R1*4294967296+d0)/v<4294967296:=by
        have:=HC.out;have:=HRl.out;rw[Nat.div_lt_iff_lt_mul (by omega)];omega
       rw[HQ.out]at hR hQl;have hQ1l:=HQl.out;have i0:(zb:Int)*(v:Int)=((v*zb:Nat):Int):=by rw[VO];exact(VL _ _).symm
       obtain⟨R0,hR0⟩:∃z,(R1*4294967296+d0)%v=z:=⟨_,rfl⟩;rw[hR0]at hR hRl;have HRES:Hid (E3 hi lo y= .tuple #[.int .u64 ((z*4294967296+zb:Nat):Int),.int .u64 ((R0/2^s:Nat):Int)]):=V3 (by
        obtain⟨h1,h2⟩:=Dv (u*4294967296+d1) v d0 (by have:=HC.out;omega);rw[HR1.out,HQ1.out,HQ.out]at h1;rw[HR1.out,hR0]at h2;have h3:(u*4294967296+d1)*4294967296+d0=(hi*18446744073709551616+lo)*2^s:=Eq.trans (Hu u d1 d0 t HTD.out) HU.out;rw[h3]at h1 h2;rw[HBk.out.1]at h1;unfold E3;rw[h1,h2,HBk.out.2])
       generalize v*zb=zz0 at*;obtain⟨qb,hqb⟩:∃n,n=z*4294967296:=⟨_,rfl⟩;have k1:IntKind.u64.wrap ((z:Int)*4294967296)=(qb:Int):=by rw[show(z:Int)*4294967296=(qb:Int)from by omega];exact AS _ (by omega)
       obtain⟨qq,hqq⟩:∃n,n=qb+zb:=⟨_,rfl⟩;have k2:IntKind.u64.wrap ((qb:Int)+(zb:Int))=(qq:Int):=by rw[show(qb:Int)+(zb:Int)=(qq:Int)from by omega];exact AS _ (by omega)
       rw[←hqb,←hqq]at HRES;obtain⟨m1,hm1⟩:∃z,z=R1*4294967296%18446744073709551616:=⟨_,rfl⟩;have i1:IntKind.u64.wrap ((R1:Int)*4294967296)=(m1:Int):=by
        show((R1:Int)*4294967296)%2^64=_;omega
       obtain⟨m2,hm2⟩:∃z,z=(m1+d0)%18446744073709551616:=⟨_,rfl⟩;have i2:IntKind.u64.wrap ((m1:Int)+(d0:Int))=(m2:Int):=by
        show((m1:Int)+(d0:Int))%2^64=_;omega
       obtain⟨m3,hm3⟩:∃z,z=zz0%18446744073709551616:=⟨_,rfl⟩;have i3:IntKind.u64.wrap (zz0:Int)=(m3:Int):=by
        show(zz0:Int)%2^64=_;omega
       have i4:IntKind.u64.wrap ((m2:Int)-(m3:Int))=(R0:Int):=by
        show((m2:Int)-(m3:Int))%2^64=_;have:=HC.out;omega
       have k7:(R0:Int)/2^s=((R0/2^s:Nat):Int):=by simp
       generalize R0/2^s=rr at*;clear hm1 hm2 hm3 hR hRl hR0 hQl hQ1l hqb hqq;go_wp2_with fail;go_ret2;exact⟨by rw[HRES.out];rfl,VU _⟩
      have tb:decide ((4294967296:Int)≤(r2b:Int))=false:=by simp;omega
      have hxm:zb<xb:=by omega
      have HXM:=V3 hxm;have HZL:=V3 hzl;have HBR:Hid (r2b<4294967296):=V3 (by omega);clear g1 g2 g3 hz hra hbr hux hqx hxl hrl hzl hxm hbig;go_wp2_with fail;go_roundw
      case rel=>exact⟨zb,r2b,rfl,rfl,by have:=HZL.out;omega,HBR.out,HZ2.out,HZ3.out,trivial⟩
      case measure=>have:=HXM.out;simp[intOf];omega
     have ta:decide ((4294967296:Int)≤(xb:Int))=false:=by simp;omega
     have hpr:=Nat.mul_le_mul hxl (show b≤4294967295 by have:=HC.out;omega);have e1:(xb:Int)*(b:Int)=((xb*b:Nat):Int):=(VL _ _).symm;have hmm:Hid (xb*b=xb*b):=V3 rfl;generalize hm:xb*b=mb at*;have e2:IntKind.u64.wrap (mb:Int)=(mb:Int):=AS _ (by omega);have e3:IntKind.u64.wrap (4294967296*(rb:Int))=4294967296*(rb:Int):=Cw _ (by omega) (by omega);have e4:IntKind.u64.wrap (4294967296*(rb:Int)+(d0:Int))=4294967296*(rb:Int)+(d0:Int):=Cw _ (by omega) (by have:=HC.out;omega);clear hmm hbig hpr;by_cases hcd:4294967296*rb+d0<mb
     ·have tc:decide (4294967296*(rb:Int)+(d0:Int)<(mb:Int))=true:=by simp;omega
      rw[←hm]at hcd;obtain⟨g1,g2,g3⟩:=De (b:=b) (show R1<a*4294967296+b by have:=HC.out;have:=HRl.out;omega) (show d0<4294967296 by have:=HC.out;omega) hux (.inr hcd);obtain⟨zb,hz⟩:∃zb,zb+1=xb:=⟨xb-1,by omega⟩;rw[show xb-1=zb from by omega]at g2 g3;rw[HC.out.1]at g3;have em:IntKind.u64.wrap ((xb:Int)-1)=(zb:Int):=by rw[show(xb:Int)-1=(zb:Int)from by omega];exact AS _ (by omega)
      have ea:IntKind.u64.wrap ((rb:Int)+(a:Int))=((rb+a:Nat):Int):=by rw[←Int.natCast_add];exact AS _ (by have:=HC.out;omega)
      have HZ2:=V3 g2;have HZ3:=V3 g3;have hzl:zb≤4294967296:=by omega
      generalize hra:rb+a=r2b at*;by_cases hbr:4294967296≤r2b
      ·have tb:decide ((4294967296:Int)≤(r2b:Int))=true:=by simp;omega
       have HQ:Hid ((R1*4294967296+d0)/v=zb):=V3 (by
        have h1:=HC.out.1;rw[←h1];exact DY (by have:=HC.out;omega) HC.out.2.2.2.1 HZ2.out hzl hbr (by rw[h1];exact HZ3.out))
       clear g1 g2 g3 hz hra hbr hux hqx hxl hrl hzl HZ2 HZ3 hcd;have hR:=Nat.div_add_mod (R1*4294967296+d0) v;have hRl:=Nat.mod_lt (R1*4294967296+d0) (show 0<v by have:=HC.out;omega);have hQl:(R1*4294967296+d0)/v<4294967296:=by
        have:=HC.out;have:=HRl.out;rw[Nat.div_lt_iff_lt_mul (by omega)];omega
       rw[HQ.out]at hR hQl;have hQ1l:=HQl.out;have i0:(zb:Int)*(v:Int)=((v*zb:Nat):Int):=by rw[VO];exact(VL _ _).symm
       obtain⟨R0,hR0⟩:∃z,(R1*4294967296+d0)%v=z:=⟨_,rfl⟩;rw[hR0]at hR hRl;have HRES:Hid (E3 hi lo y= .tuple #[.int .u64 ((z*4294967296+zb:Nat):Int),.int .u64 ((R0/2^s:Nat):Int)]):=V3 (by
        obtain⟨h1,h2⟩:=Dv (u*4294967296+d1) v d0 (by have:=HC.out;omega);rw[HR1.out,HQ1.out,HQ.out]at h1;rw[HR1.out,hR0]at h2;have h3:(u*4294967296+d1)*4294967296+d0=(hi*18446744073709551616+lo)*2^s:=Eq.trans (Hu u d1 d0 t HTD.out) HU.out;rw[h3]at h1 h2;rw[HBk.out.1]at h1;unfold E3;rw[h1,h2,HBk.out.2])
       generalize v*zb=zz0 at*;obtain⟨qb,hqb⟩:∃n,n=z*4294967296:=⟨_,rfl⟩;have k1:IntKind.u64.wrap ((z:Int)*4294967296)=(qb:Int):=by rw[show(z:Int)*4294967296=(qb:Int)from by omega];exact AS _ (by omega)
       obtain⟨qq,hqq⟩:∃n,n=qb+zb:=⟨_,rfl⟩;have k2:IntKind.u64.wrap ((qb:Int)+(zb:Int))=(qq:Int):=by rw[show(qb:Int)+(zb:Int)=(qq:Int)from by omega];exact AS _ (by omega)
       rw[←hqb,←hqq]at HRES;obtain⟨m1,hm1⟩:∃z,z=R1*4294967296%18446744073709551616:=⟨_,rfl⟩;have i1:IntKind.u64.wrap ((R1:Int)*4294967296)=(m1:Int):=by
        show((R1:Int)*4294967296)%2^64=_;omega
       obtain⟨m2,hm2⟩:∃z,z=(m1+d0)%18446744073709551616:=⟨_,rfl⟩;have i2:IntKind.u64.wrap ((m1:Int)+(d0:Int))=(m2:Int):=by
        show((m1:Int)+(d0:Int))%2^64=_;omega
       obtain⟨m3,hm3⟩:∃z,z=zz0%18446744073709551616:=⟨_,rfl⟩;have i3:IntKind.u64.wrap (zz0:Int)=(m3:Int):=by
        show(zz0:Int)%2^64=_;omega
       have i4:IntKind.u64.wrap ((m2:Int)-(m3:Int))=(R0:Int):=by
        show((m2:Int)-(m3:Int))%2^64=_;have:=HC.out;omega
       have k7:(R0:Int)/2^s=((R0/2^s:Nat):Int):=by simp
       generalize R0/2^s=rr at*;clear hm1 hm2 hm3 hR hRl hR0 hQl hQ1l hqb hqq;go_wp2_with fail;go_ret2;exact⟨by rw[HRES.out];rfl,VU _⟩
      have tb:decide ((4294967296:Int)≤(r2b:Int))=false:=by simp;omega
      have hxm:zb<xb:=by omega
      have HXM:=V3 hxm;have HZL:=V3 hzl;have HBR:Hid (r2b<4294967296):=V3 (by omega);clear g1 g2 g3 hz hra hbr hux hqx hxl hrl hzl hxm hcd;go_wp2_with fail;go_roundw
      case rel=>exact⟨zb,r2b,rfl,rfl,by have:=HZL.out;omega,HBR.out,HZ2.out,HZ3.out,trivial⟩
      case measure=>have:=HXM.out;simp[intOf];omega
     have tc:decide (4294967296*(rb:Int)+(d0:Int)<(mb:Int))=false:=by simp;omega
     have HQ:Hid ((R1*4294967296+d0)/v=xb):=V3 (by
      have h1:=HC.out.1;rw[←h1];exact Il (by have:=HC.out;omega) hux (by rw[hm];omega) (by rw[h1];exact hqx))
     clear hux hqx hxl hrl hm hcd;have hR:=Nat.div_add_mod (R1*4294967296+d0) v;have hRl:=Nat.mod_lt (R1*4294967296+d0) (show 0<v by have:=HC.out;omega);have hQl:(R1*4294967296+d0)/v<4294967296:=by
      have:=HC.out;have:=HRl.out;rw[Nat.div_lt_iff_lt_mul (by omega)];omega
     rw[HQ.out]at hR hQl;have hQ1l:=HQl.out;have i0:(xb:Int)*(v:Int)=((v*xb:Nat):Int):=by rw[VO];exact(VL _ _).symm
     obtain⟨R0,hR0⟩:∃z,(R1*4294967296+d0)%v=z:=⟨_,rfl⟩;rw[hR0]at hR hRl;have HRES:Hid (E3 hi lo y= .tuple #[.int .u64 ((z*4294967296+xb:Nat):Int),.int .u64 ((R0/2^s:Nat):Int)]):=V3 (by
      obtain⟨h1,h2⟩:=Dv (u*4294967296+d1) v d0 (by have:=HC.out;omega);rw[HR1.out,HQ1.out,HQ.out]at h1;rw[HR1.out,hR0]at h2;have h3:(u*4294967296+d1)*4294967296+d0=(hi*18446744073709551616+lo)*2^s:=Eq.trans (Hu u d1 d0 t HTD.out) HU.out;rw[h3]at h1 h2;rw[HBk.out.1]at h1;unfold E3;rw[h1,h2,HBk.out.2])
     generalize v*xb=zz0 at*;obtain⟨qb,hqb⟩:∃n,n=z*4294967296:=⟨_,rfl⟩;have k1:IntKind.u64.wrap ((z:Int)*4294967296)=(qb:Int):=by rw[show(z:Int)*4294967296=(qb:Int)from by omega];exact AS _ (by omega)
     obtain⟨qq,hqq⟩:∃n,n=qb+xb:=⟨_,rfl⟩;have k2:IntKind.u64.wrap ((qb:Int)+(xb:Int))=(qq:Int):=by rw[show(qb:Int)+(xb:Int)=(qq:Int)from by omega];exact AS _ (by omega)
     rw[←hqb,←hqq]at HRES;obtain⟨m1,hm1⟩:∃z,z=R1*4294967296%18446744073709551616:=⟨_,rfl⟩;have i1:IntKind.u64.wrap ((R1:Int)*4294967296)=(m1:Int):=by
      show((R1:Int)*4294967296)%2^64=_;omega
     obtain⟨m2,hm2⟩:∃z,z=(m1+d0)%18446744073709551616:=⟨_,rfl⟩;have i2:IntKind.u64.wrap ((m1:Int)+(d0:Int))=(m2:Int):=by
      show((m1:Int)+(d0:Int))%2^64=_;omega
     obtain⟨m3,hm3⟩:∃z,z=zz0%18446744073709551616:=⟨_,rfl⟩;have i3:IntKind.u64.wrap (zz0:Int)=(m3:Int):=by
      show(zz0:Int)%2^64=_;omega
     have i4:IntKind.u64.wrap ((m2:Int)-(m3:Int))=(R0:Int):=by
      show((m2:Int)-(m3:Int))%2^64=_;have:=HC.out;omega
     have k7:(R0:Int)/2^s=((R0/2^s:Nat):Int):=by simp
     generalize R0/2^s=rr at*;clear hm1 hm2 hm3 hR hRl hR0 hQl hQ1l hqb hqq;go_wp2_with fail;go_ret2;exact⟨by rw[HRES.out];rfl,VU _⟩
   have tb:decide ((4294967296:Int)≤(r2:Int))=false:=by simp;omega
   have hxm:z<x:=by omega
   have HXM:=V3 hxm;have HZL:=V3 hzl;have HBR:Hid (r2<4294967296):=V3 (by omega);clear g1 g2 g3 hz hra hbr hux hqx hxl hrl hzl hxm hcd;go_wp2_with fail;go_roundw
   case rel=>exact⟨z,r2,rfl,rfl,by have:=HZL.out;omega,HBR.out,HZ2.out,HZ3.out,trivial⟩
   case measure=>have:=HXM.out;simp[intOf];omega
  have tc:decide (4294967296*(r:Int)+(d1:Int)<(m:Int))=false:=by simp;omega
  have HQ:Hid ((u*4294967296+d1)/v=x):=V3 (by
   have h1:=HC.out.1;rw[←h1];exact Il (by have:=HC.out;omega) hux (by rw[hm];omega) (by rw[h1];exact hqx))
  clear hux hqx hxl hrl hm hcd;have hR:=Nat.div_add_mod (u*4294967296+d1) v;have hRl:=Nat.mod_lt (u*4294967296+d1) (show 0<v by have:=HC.out;omega);have hQl:(u*4294967296+d1)/v<4294967296:=by
   have:=HC.out;rw[Nat.div_lt_iff_lt_mul (by omega)];omega
  rw[HQ.out]at hR hQl;have i0:(x:Int)*(v:Int)=((v*x:Nat):Int):=by rw[VO];exact(VL _ _).symm
  obtain⟨R1,hR1⟩:∃z,(u*4294967296+d1)%v=z:=⟨_,rfl⟩;rw[hR1]at hR hRl;generalize v*x=zz at*;obtain⟨m1,hm1⟩:∃z,z=u*4294967296%18446744073709551616:=⟨_,rfl⟩;have i1:IntKind.u64.wrap ((u:Int)*4294967296)=(m1:Int):=by
   show((u:Int)*4294967296)%2^64=_;omega
  obtain⟨m2,hm2⟩:∃z,z=(m1+d1)%18446744073709551616:=⟨_,rfl⟩;have i2:IntKind.u64.wrap ((m1:Int)+(d1:Int))=(m2:Int):=by
   show((m1:Int)+(d1:Int))%2^64=_;omega
  obtain⟨m3,hm3⟩:∃z,z=zz%18446744073709551616:=⟨_,rfl⟩;have i3:IntKind.u64.wrap (zz:Int)=(m3:Int):=by
   show(zz:Int)%2^64=_;omega
  have i4:IntKind.u64.wrap ((m2:Int)-(m3:Int))=(R1:Int):=by
   show((m2:Int)-(m3:Int))%2^64=_;have:=HC.out;omega
  have HR1:=V3 hR1;have HQl:=V3 hQl;have HRl:=V3 hRl;clear hm1 hm2 hm3 hR hR1 hQl;go_upto_region 22 with fail;clear i0 i1 i2 i3 i4
  try clear ea
  try clear em
  try clear ta
  try clear tb
  try clear tc
  try clear e1
  try clear e2
  try clear e3
  try clear e4
  have j0:¬(a:Int)=0:=by have:=HC.out;omega
  have j1:¬a=0:=by omega
  have j2:(R1:Int).tdiv (a:Int)=((R1/a:Nat):Int):=rfl;have jx:=GB HC.out.2.1 HC.out.2.2.2.1 (show R1<a*4294967296+b by have:=HC.out;omega);have jd:=Nat.div_add_mod R1 a;have jl:=Nat.mod_lt R1 (show 0<a by omega);have jg:=L8 (b:=b) HC.out.2.2.2.2.2.1 (show 0<a by omega) (show R1=R1/a*a+R1%a by rw[VO];omega) jl;rw[HC.out.1]at jg;have jm:R1/a*a+R1%a=R1:=by rw[VO];exact jd
  generalize R1/a=y0 at*;generalize R1%a=s0 at*;have k2:IntKind.u64.wrap (y0:Int)=(y0:Int):=AS _ (by omega);have k3:(y0:Int)*(a:Int)=((y0*a:Nat):Int):=(VL _ _).symm;have kst:Hid (R1=y0*a+s0):=V3 jm.symm;generalize y0*a=n0 at k3 jm;have k4:IntKind.u64.wrap (n0:Int)=(n0:Int):=AS _ (by have:=HC.out;omega);have k5:IntKind.u64.wrap ((R1:Int)-(n0:Int))=(s0:Int):=by
   rw[show(R1:Int)-(n0:Int)=(s0:Int) by omega];exact AS _ (by have:=HC.out;omega)
  have KL:Hid (s0<4294967296):=V3 (by have:=HC.out;omega);have KX:=V3 jx;have KG:=V3 jg;have HQ1:=HQ;clear HQ;clear jx jd jl jg jm hRl;go_upto_region 24 with fail;clear j0 j1 j2 k2 k3 k4 k5;go_wp2_with fail;go_loopw [18,16] (fun c i wr=>∃(xb rb:Nat),c= .int .u64 (xb:Int)∧i= .int .u64 (rb:Int)∧xb≤4294967297∧rb<4294967296∧R1=xb*a+rb∧(R1*4294967296+d0)/v≤xb∧wr=w') (fun c _ _=>(intOf c).toNat)
  case atStart=>exact⟨y0,s0,rfl,rfl,KX.out,KL.out,kst.out,KG.out,rfl⟩
  case round=>
   obtain⟨xb,rb,rfl,rfl,hxl,hrl,hux,hqx,hwr⟩:=hrel;have hw2:=hwr.symm;clear hwr;subst hw2;by_cases hbig:4294967296≤xb
   ·have ta:decide ((4294967296:Int)≤(xb:Int))=true:=by simp;omega
    obtain⟨g1,g2,g3⟩:=De (b:=b) (show R1<a*4294967296+b by have:=HC.out;have:=HRl.out;omega) (show d0<4294967296 by have:=HC.out;omega) hux (.inl hbig);obtain⟨zb,hz⟩:∃zb,zb+1=xb:=⟨xb-1,by omega⟩;rw[show xb-1=zb from by omega]at g2 g3;rw[HC.out.1]at g3;have em:IntKind.u64.wrap ((xb:Int)-1)=(zb:Int):=by rw[show(xb:Int)-1=(zb:Int)from by omega];exact AS _ (by omega)
    have ea:IntKind.u64.wrap ((rb:Int)+(a:Int))=((rb+a:Nat):Int):=by rw[←Int.natCast_add];exact AS _ (by have:=HC.out;omega)
    have HZ2:=V3 g2;have HZ3:=V3 g3;have hzl:zb≤4294967296:=by omega
    generalize hra:rb+a=r2b at*;by_cases hbr:4294967296≤r2b
    ·have tb:decide ((4294967296:Int)≤(r2b:Int))=true:=by simp;omega
     have HQ:Hid ((R1*4294967296+d0)/v=zb):=V3 (by
      have h1:=HC.out.1;rw[←h1];exact DY (by have:=HC.out;omega) HC.out.2.2.2.1 HZ2.out hzl hbr (by rw[h1];exact HZ3.out))
     clear g1 g2 g3 hz hra hbr hux hqx hxl hrl hzl HZ2 HZ3 hbig;have hR:=Nat.div_add_mod (R1*4294967296+d0) v;have hRl:=Nat.mod_lt (R1*4294967296+d0) (show 0<v by have:=HC.out;omega);have hQl:(R1*4294967296+d0)/v<4294967296:=by
      have:=HC.out;have:=HRl.out;rw[Nat.div_lt_iff_lt_mul (by omega)];omega
     rw[HQ.out]at hR hQl;have hQ1l:=HQl.out;have i0:(zb:Int)*(v:Int)=((v*zb:Nat):Int):=by rw[VO];exact(VL _ _).symm
     obtain⟨R0,hR0⟩:∃z,(R1*4294967296+d0)%v=z:=⟨_,rfl⟩;rw[hR0]at hR hRl;have HRES:Hid (E3 hi lo y= .tuple #[.int .u64 ((x*4294967296+zb:Nat):Int),.int .u64 ((R0/2^s:Nat):Int)]):=V3 (by
      obtain⟨h1,h2⟩:=Dv (u*4294967296+d1) v d0 (by have:=HC.out;omega);rw[HR1.out,HQ1.out,HQ.out]at h1;rw[HR1.out,hR0]at h2;have h3:(u*4294967296+d1)*4294967296+d0=(hi*18446744073709551616+lo)*2^s:=Eq.trans (Hu u d1 d0 t HTD.out) HU.out;rw[h3]at h1 h2;rw[HBk.out.1]at h1;unfold E3;rw[h1,h2,HBk.out.2])
     generalize v*zb=zz0 at*;obtain⟨qb,hqb⟩:∃n,n=x*4294967296:=⟨_,rfl⟩;have k1:IntKind.u64.wrap ((x:Int)*4294967296)=(qb:Int):=by rw[show(x:Int)*4294967296=(qb:Int)from by omega];exact AS _ (by omega)
     obtain⟨qq,hqq⟩:∃n,n=qb+zb:=⟨_,rfl⟩;have k2:IntKind.u64.wrap ((qb:Int)+(zb:Int))=(qq:Int):=by rw[show(qb:Int)+(zb:Int)=(qq:Int)from by omega];exact AS _ (by omega)
     rw[←hqb,←hqq]at HRES;obtain⟨m1,hm1⟩:∃z,z=R1*4294967296%18446744073709551616:=⟨_,rfl⟩;have i1:IntKind.u64.wrap ((R1:Int)*4294967296)=(m1:Int):=by
      show((R1:Int)*4294967296)%2^64=_;omega
     obtain⟨m2,hm2⟩:∃z,z=(m1+d0)%18446744073709551616:=⟨_,rfl⟩;have i2:IntKind.u64.wrap ((m1:Int)+(d0:Int))=(m2:Int):=by
      show((m1:Int)+(d0:Int))%2^64=_;omega
     obtain⟨m3,hm3⟩:∃z,z=zz0%18446744073709551616:=⟨_,rfl⟩;have i3:IntKind.u64.wrap (zz0:Int)=(m3:Int):=by
      show(zz0:Int)%2^64=_;omega
     have i4:IntKind.u64.wrap ((m2:Int)-(m3:Int))=(R0:Int):=by
      show((m2:Int)-(m3:Int))%2^64=_;have:=HC.out;omega
     have k7:(R0:Int)/2^s=((R0/2^s:Nat):Int):=by simp
     generalize R0/2^s=rr at*;clear hm1 hm2 hm3 hR hRl hR0 hQl hQ1l hqb hqq;go_wp2_with fail;go_ret2;exact⟨by rw[HRES.out];rfl,VU _⟩
    have tb:decide ((4294967296:Int)≤(r2b:Int))=false:=by simp;omega
    have hxm:zb<xb:=by omega
    have HXM:=V3 hxm;have HZL:=V3 hzl;have HBR:Hid (r2b<4294967296):=V3 (by omega);clear g1 g2 g3 hz hra hbr hux hqx hxl hrl hzl hxm hbig;go_wp2_with fail;go_roundw
    case rel=>exact⟨zb,r2b,rfl,rfl,by have:=HZL.out;omega,HBR.out,HZ2.out,HZ3.out,trivial⟩
    case measure=>have:=HXM.out;simp[intOf];omega
   have ta:decide ((4294967296:Int)≤(xb:Int))=false:=by simp;omega
   have hpr:=Nat.mul_le_mul hxl (show b≤4294967295 by have:=HC.out;omega);have e1:(xb:Int)*(b:Int)=((xb*b:Nat):Int):=(VL _ _).symm;have hmm:Hid (xb*b=xb*b):=V3 rfl;generalize hm:xb*b=mb at*;have e2:IntKind.u64.wrap (mb:Int)=(mb:Int):=AS _ (by omega);have e3:IntKind.u64.wrap (4294967296*(rb:Int))=4294967296*(rb:Int):=Cw _ (by omega) (by omega);have e4:IntKind.u64.wrap (4294967296*(rb:Int)+(d0:Int))=4294967296*(rb:Int)+(d0:Int):=Cw _ (by omega) (by have:=HC.out;omega);clear hmm hbig hpr;by_cases hcd:4294967296*rb+d0<mb
   ·have tc:decide (4294967296*(rb:Int)+(d0:Int)<(mb:Int))=true:=by simp;omega
    rw[←hm]at hcd;obtain⟨g1,g2,g3⟩:=De (b:=b) (show R1<a*4294967296+b by have:=HC.out;have:=HRl.out;omega) (show d0<4294967296 by have:=HC.out;omega) hux (.inr hcd);obtain⟨zb,hz⟩:∃zb,zb+1=xb:=⟨xb-1,by omega⟩;rw[show xb-1=zb from by omega]at g2 g3;rw[HC.out.1]at g3;have em:IntKind.u64.wrap ((xb:Int)-1)=(zb:Int):=by rw[show(xb:Int)-1=(zb:Int)from by omega];exact AS _ (by omega)
    have ea:IntKind.u64.wrap ((rb:Int)+(a:Int))=((rb+a:Nat):Int):=by rw[←Int.natCast_add];exact AS _ (by have:=HC.out;omega)
    have HZ2:=V3 g2;have HZ3:=V3 g3;have hzl:zb≤4294967296:=by omega
    generalize hra:rb+a=r2b at*;by_cases hbr:4294967296≤r2b
    ·have tb:decide ((4294967296:Int)≤(r2b:Int))=true:=by simp;omega
     have HQ:Hid ((R1*4294967296+d0)/v=zb):=V3 (by
      have h1:=HC.out.1;rw[←h1];exact DY (by have:=HC.out;omega) HC.out.2.2.2.1 HZ2.out hzl hbr (by rw[h1];exact HZ3.out))
     clear g1 g2 g3 hz hra hbr hux hqx hxl hrl hzl HZ2 HZ3 hcd;have hR:=Nat.div_add_mod (R1*4294967296+d0) v;have hRl:=Nat.mod_lt (R1*4294967296+d0) (show 0<v by have:=HC.out;omega);have hQl:(R1*4294967296+d0)/v<4294967296:=by
      have:=HC.out;have:=HRl.out;rw[Nat.div_lt_iff_lt_mul (by omega)];omega
     rw[HQ.out]at hR hQl;have hQ1l:=HQl.out;have i0:(zb:Int)*(v:Int)=((v*zb:Nat):Int):=by rw[VO];exact(VL _ _).symm
     obtain⟨R0,hR0⟩:∃z,(R1*4294967296+d0)%v=z:=⟨_,rfl⟩;rw[hR0]at hR hRl;have HRES:Hid (E3 hi lo y= .tuple #[.int .u64 ((x*4294967296+zb:Nat):Int),.int .u64 ((R0/2^s:Nat):Int)]):=V3 (by
      obtain⟨h1,h2⟩:=Dv (u*4294967296+d1) v d0 (by have:=HC.out;omega);rw[HR1.out,HQ1.out,HQ.out]at h1;rw[HR1.out,hR0]at h2;have h3:(u*4294967296+d1)*4294967296+d0=(hi*18446744073709551616+lo)*2^s:=Eq.trans (Hu u d1 d0 t HTD.out) HU.out;rw[h3]at h1 h2;rw[HBk.out.1]at h1;unfold E3;rw[h1,h2,HBk.out.2])
     generalize v*zb=zz0 at*;obtain⟨qb,hqb⟩:∃n,n=x*4294967296:=⟨_,rfl⟩;have k1:IntKind.u64.wrap ((x:Int)*4294967296)=(qb:Int):=by rw[show(x:Int)*4294967296=(qb:Int)from by omega];exact AS _ (by omega)
     obtain⟨qq,hqq⟩:∃n,n=qb+zb:=⟨_,rfl⟩;have k2:IntKind.u64.wrap ((qb:Int)+(zb:Int))=(qq:Int):=by rw[show(qb:Int)+(zb:Int)=(qq:Int)from by omega];exact AS _ (by omega)
     rw[←hqb,←hqq]at HRES;obtain⟨m1,hm1⟩:∃z,z=R1*4294967296%18446744073709551616:=⟨_,rfl⟩;have i1:IntKind.u64.wrap ((R1:Int)*4294967296)=(m1:Int):=by
      show((R1:Int)*4294967296)%2^64=_;omega
     obtain⟨m2,hm2⟩:∃z,z=(m1+d0)%18446744073709551616:=⟨_,rfl⟩;have i2:IntKind.u64.wrap ((m1:Int)+(d0:Int))=(m2:Int):=by
      show((m1:Int)+(d0:Int))%2^64=_;omega
     obtain⟨m3,hm3⟩:∃z,z=zz0%18446744073709551616:=⟨_,rfl⟩;have i3:IntKind.u64.wrap (zz0:Int)=(m3:Int):=by
      show(zz0:Int)%2^64=_;omega
     have i4:IntKind.u64.wrap ((m2:Int)-(m3:Int))=(R0:Int):=by
      show((m2:Int)-(m3:Int))%2^64=_;have:=HC.out;omega
     have k7:(R0:Int)/2^s=((R0/2^s:Nat):Int):=by simp
     generalize R0/2^s=rr at*;clear hm1 hm2 hm3 hR hRl hR0 hQl hQ1l hqb hqq;go_wp2_with fail;go_ret2;exact⟨by rw[HRES.out];rfl,VU _⟩
    have tb:decide ((4294967296:Int)≤(r2b:Int))=false:=by simp;omega
    have hxm:zb<xb:=by omega
    have HXM:=V3 hxm;have HZL:=V3 hzl;have HBR:Hid (r2b<4294967296):=V3 (by omega);clear g1 g2 g3 hz hra hbr hux hqx hxl hrl hzl hxm hcd;go_wp2_with fail;go_roundw
    case rel=>exact⟨zb,r2b,rfl,rfl,by have:=HZL.out;omega,HBR.out,HZ2.out,HZ3.out,trivial⟩
    case measure=>have:=HXM.out;simp[intOf];omega
   have tc:decide (4294967296*(rb:Int)+(d0:Int)<(mb:Int))=false:=by simp;omega
   have HQ:Hid ((R1*4294967296+d0)/v=xb):=V3 (by
    have h1:=HC.out.1;rw[←h1];exact Il (by have:=HC.out;omega) hux (by rw[hm];omega) (by rw[h1];exact hqx))
   clear hux hqx hxl hrl hm hcd;have hR:=Nat.div_add_mod (R1*4294967296+d0) v;have hRl:=Nat.mod_lt (R1*4294967296+d0) (show 0<v by have:=HC.out;omega);have hQl:(R1*4294967296+d0)/v<4294967296:=by
    have:=HC.out;have:=HRl.out;rw[Nat.div_lt_iff_lt_mul (by omega)];omega
   rw[HQ.out]at hR hQl;have hQ1l:=HQl.out;have i0:(xb:Int)*(v:Int)=((v*xb:Nat):Int):=by rw[VO];exact(VL _ _).symm
   obtain⟨R0,hR0⟩:∃z,(R1*4294967296+d0)%v=z:=⟨_,rfl⟩;rw[hR0]at hR hRl;have HRES:Hid (E3 hi lo y= .tuple #[.int .u64 ((x*4294967296+xb:Nat):Int),.int .u64 ((R0/2^s:Nat):Int)]):=V3 (by
    obtain⟨h1,h2⟩:=Dv (u*4294967296+d1) v d0 (by have:=HC.out;omega);rw[HR1.out,HQ1.out,HQ.out]at h1;rw[HR1.out,hR0]at h2;have h3:(u*4294967296+d1)*4294967296+d0=(hi*18446744073709551616+lo)*2^s:=Eq.trans (Hu u d1 d0 t HTD.out) HU.out;rw[h3]at h1 h2;rw[HBk.out.1]at h1;unfold E3;rw[h1,h2,HBk.out.2])
   generalize v*xb=zz0 at*;obtain⟨qb,hqb⟩:∃n,n=x*4294967296:=⟨_,rfl⟩;have k1:IntKind.u64.wrap ((x:Int)*4294967296)=(qb:Int):=by rw[show(x:Int)*4294967296=(qb:Int)from by omega];exact AS _ (by omega)
   obtain⟨qq,hqq⟩:∃n,n=qb+xb:=⟨_,rfl⟩;have k2:IntKind.u64.wrap ((qb:Int)+(xb:Int))=(qq:Int):=by rw[show(qb:Int)+(xb:Int)=(qq:Int)from by omega];exact AS _ (by omega)
   rw[←hqb,←hqq]at HRES;obtain⟨m1,hm1⟩:∃z,z=R1*4294967296%18446744073709551616:=⟨_,rfl⟩;have i1:IntKind.u64.wrap ((R1:Int)*4294967296)=(m1:Int):=by
    show((R1:Int)*4294967296)%2^64=_;omega
   obtain⟨m2,hm2⟩:∃z,z=(m1+d0)%18446744073709551616:=⟨_,rfl⟩;have i2:IntKind.u64.wrap ((m1:Int)+(d0:Int))=(m2:Int):=by
    show((m1:Int)+(d0:Int))%2^64=_;omega
   obtain⟨m3,hm3⟩:∃z,z=zz0%18446744073709551616:=⟨_,rfl⟩;have i3:IntKind.u64.wrap (zz0:Int)=(m3:Int):=by
    show(zz0:Int)%2^64=_;omega
   have i4:IntKind.u64.wrap ((m2:Int)-(m3:Int))=(R0:Int):=by
    show((m2:Int)-(m3:Int))%2^64=_;have:=HC.out;omega
   have k7:(R0:Int)/2^s=((R0/2^s:Nat):Int):=by simp
   generalize R0/2^s=rr at*;clear hm1 hm2 hm3 hR hRl hR0 hQl hQ1l hqb hqq;go_wp2_with fail;go_ret2;exact⟨by rw[HRES.out];rfl,VU _⟩
end Go.Proofs.YthpflelgbadkcaaGreatDoor
