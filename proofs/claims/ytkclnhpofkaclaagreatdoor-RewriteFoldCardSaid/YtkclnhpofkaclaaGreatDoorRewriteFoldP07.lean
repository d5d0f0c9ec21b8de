/- What the card of the law stands on: NatO, FracV, NatW, NatN. -/
import Derived.Test.YtkclnhpofkaclaaGreatDoorRewriteFoldP01
import Derived.Test.YtkclnhpofkaclaaGreatDoorRewriteFoldP06
import Derived.Test.YtkclnhpofkaclaaGreatDoorRewriteFoldP05
import Derived.Test.YtkclnhpofkaclaaGreatDoorRewriteFoldP04
import Derived.ChangeKeysEq
import Derived.Laws.StructEq
set_option maxRecDepth 100000
set_option maxHeartbeats 12800000
set_option linter.unusedVariables false
set_option linter.unusedSimpArgs false
namespace Go.Proofs.YtkclnhpofkaclaaGreatDoor
open Go.RowKit Pl
def Ho (a b:Nat):Value:=if a<b*18446744073709551616 then .tuple #[.int .u64 ((a/b:Nat):Int),.bool true]else .tuple #[.int .u64 0,.bool false]
structure Oc (w:World) (x b s:Nat) (wr:World):Prop where
 A:AK wr w.heap.size 147 (AI (dg x)).toArray
 B:AK wr (w.heap.size+1) 147 (AI (dg b)).toArray
 S:AK wr (w.heap.size+1+1) 147 (AI (dg s)).toArray
 G:A5 w wr
theorem Oc.grew {w wr w':World} {x b s:Nat} (h:Oc w x b s wr) (k:A5 wr w'):Oc w x b s w':=⟨h.A.grew k,h.B.grew k,h.S.grew k,h.G.trans k⟩
theorem Oc.setA {w wr w':World} {x b s x':Nat} (h:Oc w x b s wr) (hb:AK w' w.heap.size 147 (AI (dg x')).toArray) (k:A4 (fun i=>i=w.heap.size) wr w'):Oc w x' b s w':=
 ⟨hb,h.B.keep k (by omega),h.S.keep k (by omega),Uw h.G k (fun i hi e=>by omega)⟩
theorem Oc.setS {w wr w':World} {x b s s':Nat} (h:Oc w x b s wr) (hb:AK w' (w.heap.size+1+1) 147 (AI (dg s')).toArray) (k:A4 (fun i=>i=w.heap.size+1+1) wr w'):Oc w x b s' w':=
 ⟨h.A.keep k (by omega),h.B.keep k (by omega),hb,Uw h.G k (fun i hi e=>by omega)⟩
theorem PG {a b:Nat}:decide (CQ a b≤0)=decide (a≤b):=by
 unfold CQ;rw[decide_eq_decide];split
 ·omega
 split<;>omega
theorem LV (a b:Nat) (w:World) (ha:a<2^255) (hb:b<2^256) (hb0:0<b):Calls Tryz.prog 163 #[Ar a,Ar b] w fun e w'=>e= .returned (Ho a b)∧A5 w w':=by
 obtain⟨hb1,hb2,hb3,hG3⟩:=BO w 147 147 147 (AI (dg a)).toArray (AI (dg b)).toArray (AI (fun _=>0)).toArray;unfold Ar;have HA:=UX ha;have HB:=UX hb;have HB0:=UX hb0;clear ha hb hb0;go_enter Tryz.func163,Tryz.ntmps163;go_upto_region 1 with fail;go_upto_region 2 with(first|(refine lN (.tmp 3) ((BI w 147 147 (AI (dg a)).toArray (AI (dg b)).toArray).2.1) rN ?_)|(refine sN (.tmp 6) (.tmp 10) (AI (dg b)) hb3 rN ?_;intro w4 hb4 k4 d4)|fail);have hS:Oc w a b b w4:=⟨hb1.keep k4 (by omega),hb2.keep k4 (by omega),hb4,Uw hG3 k4 (fun i hi e=>by omega)⟩;clear hb1 hb2 hb3 hG3 hb4 k4 d4;have HS:=UX hS;clear hS;go_wp2_with fail;go_loopw [7] (fun t wr=>∃(k:Nat),t= .int .i64 (k:Nat)∧k≤65∧(k=0∨b*2^(k-1)≤a)∧Oc w a b (b*2^k) wr) (fun t _=>66-(intOf t).toNat)
 case atStart=>exact⟨0,rfl,by omega,.inl rfl,by rw[Nat.pow_zero,Nat.mul_one];exact HS.out⟩
 case round=>
  obtain⟨k,rfl,hk,hle,hS⟩:=hrel;have HLE:=UX hle;have hsl:b*2^k<2^256:=by
   rcases hle with rfl|h
   ·rw[Nat.pow_zero,Nat.mul_one];exact HB.out
   rcases Nat.eq_zero_or_pos k with rfl|hk0
   ·rw[Nat.pow_zero,Nat.mul_one];exact HB.out
   obtain⟨j,rfl⟩:∃j,k=j+1:=⟨k-1,by omega⟩;rw[Nat.add_sub_cancel]at h;rw[Nat.pow_succ,←Ut];have:=HA.out;omega
  have bA:=hS.A;have bS:=hS.S;have HSL:=UX hsl;have HS:=UX hS;have HL:=UX (fun w'=>DH (b*2^k) a w' (by have:=HSL.out;omega) (by have:=HA.out;omega));clear hsl hS hle;generalize hs:b*2^k=s at*;have hq:decide (CQ s a≤0)=decide (s≤a):=PG;generalize CQ s a=c at*;by_cases hgo:s≤a∧k<65
  ·have t0:decide (c≤0)=true:=by rw[hq];simpa using hgo.1
   have t1:decide ((k:Int)<65)=true:=by simp;omega
   have HP:=UX (fun w'=>Ez s s w' (by have:=HSL.out;omega));have HGO:=UX hgo;have HE:=UX hs;clear hq hgo hs;go_upto_region 4 with(first|(refine lN (.tmp 6) bS rN ?_)|(refine lN (.tmp 2) bA rN ?_)|(go_at_call 143;refine(HL.out _).mono ?_;rintro e wh ⟨rfl,kh⟩;have hS1:=HS.out.grew kh)|fail);clear bA bS;have bS:=hS1.S;go_upto_region 5 with(first|(refine lN (.tmp 6) bS rN ?_)|(go_at_call 142;refine(HP.out _).mono ?_;rintro e wi ⟨rfl,ki⟩;have hS2:=hS1.grew ki;have bS2:=hS2.S)|(refine sN (.tmp 6) (.tmp 21) (AI (dg (s+s))) bS2 rN ?_;intro w7 hb7 k7 d7)|fail);have HS7:=UX (hS2.setS hb7 k7);clear bS hS1 hS2 bS2 kh ki hb7 k7 d7;go_wp2_with fail;go_roundw
   case rel=>
    refine⟨k+1,by go_num,by have:=HGO.out;omega,.inr (by rw[Nat.add_sub_cancel,HE.out];exact HGO.out.1),?_⟩;rw[Nat.pow_succ,←Ut,HE.out,Nat.mul_two];exact HS7.out
   case measure=>have:=HGO.out;simp[intOf];omega
  have HGO:=UX hgo;have HE:=UX hs;by_cases hk65:k=65
  ·have t1:decide ((k:Int)<65)=false:=by simp;omega
   have t2:decide ((64:Int)<(k:Int))=true:=by simp;omega
   have HK:=UX hk65;have HR:Hid (Ho a b= .tuple #[.int .u64 0,.bool false]):=UX (by
    unfold Ho;have h:=HLE.out;rw[HK.out]at h;rw[Un];rcases h with h|h
    ·omega
    rw[show 65-1=64 from rfl]at h;omega)
   obtain⟨c0,hc0⟩:∃z:Bool,decide (c≤0)=z:=⟨_,rfl⟩;clear hq hgo hs hk65;cases c0
   ·go_upto_region 6 with(first|(refine lN (.tmp 6) bS rN ?_)|(refine lN (.tmp 2) bA rN ?_)|(go_at_call 143;refine(HL.out _).mono ?_;rintro e wh ⟨rfl,kh⟩;have HG1:=UX (HS.out.grew kh).G)|fail);go_wp2_with fail;go_ret2;exact⟨by rw[HR.out];rfl,HG1.out⟩
   go_upto_region 6 with(first|(refine lN (.tmp 6) bS rN ?_)|(refine lN (.tmp 2) bA rN ?_)|(go_at_call 143;refine(HL.out _).mono ?_;rintro e wh ⟨rfl,kh⟩;have HG1:=UX (HS.out.grew kh).G)|fail);go_wp2_with fail;go_ret2;exact⟨by rw[HR.out];rfl,HG1.out⟩
  have hk64:k≤64:=by omega
  have hsa:¬s≤a:=fun h=>hgo ⟨h,by omega⟩
  have t0:decide (c≤0)=false:=by rw[hq];simpa using hsa
  have t1:decide ((64:Int)<(k:Int))=false:=by simp;omega
  have hfit:a<b*18446744073709551616:=by
   have h2:b*2^k≤b*2^64:=Nat.mul_le_mul_left _ (Nat.pow_le_pow_right (by decide) hk64);omega
  have HR:Hid (Ho a b= .tuple #[.int .u64 ((a/b:Nat):Int),.bool true]):=UX (by unfold Ho;rw[Uo hfit]);have HSA:=UX hsa;have HFI:=UX hfit;clear hq hgo hs hsa hfit hk65;go_upto_region 6 with(first|(refine lN (.tmp 6) bS rN ?_)|(refine lN (.tmp 2) bA rN ?_)|(go_at_call 143;refine(HL.out _).mono ?_;rintro e wh ⟨rfl,kh⟩;have HS1:=UX (HS.out.grew kh))|fail);clear bA bS t0 kh;go_wp2_with fail;go_loopw [8,9] (fun n i wr=>∃(j:Nat),i= .int .i64 (j:Nat)∧j≤k∧n= .int .u64 ((a/(b*2^(k-j)):Nat):Int)∧Oc w (a%(b*2^(k-j))) b (b*2^(k-j)) wr) (fun _ i _=>k-(intOf i).toNat)
  case atStart=>
   have h1:a<b*2^(k-0):=by rw[Nat.sub_zero,HE.out];exact Nat.lt_of_not_le HSA.out
   refine⟨0,rfl,by omega,by rw[Nat.div_eq_of_lt h1];rfl,?_⟩;rw[Nat.mod_eq_of_lt h1,Nat.sub_zero,HE.out];exact HS1.out
  case round=>
   obtain⟨j,rfl,hj,rfl,hS⟩:=hrel;by_cases hlt:j<k
   ·obtain⟨d,hd⟩:∃d,k-j=d+1:=⟨k-j-1,by omega⟩;have hd2:k-(j+1)=d:=by omega
    have hM:b*2^(k-j)=b*2^d*2:=by rw[hd,Nat.pow_succ,Ut]
    have hm0:0<b*2^d:=Nat.mul_pos HB0.out (Nat.two_pow_pos d);have hml:b*2^d*2≤s:=by
     rw[←hM,←HE.out];exact Nat.mul_le_mul_left _ (Nat.pow_le_pow_right (by decide) (by omega))
    have HST:=UX (Nw a (b*2^d) hm0);have hnb:a/(b*2^d)<2^64:=by
     rw[Nat.div_lt_iff_lt_mul hm0];refine Ub HFI.out ?_;rw[Up];exact Nat.mul_le_mul_left _ (Nat.le_mul_of_pos_right _ (Nat.two_pow_pos d))
    have HRel:Hid (k-(j+1)=d):=UX hd2;rw[hM]at hS ⊢;clear hd hM hd2;have hml2:=Nat.lt_of_le_of_lt hml HSL.out;clear hml;have hxl:a%(b*2^d*2)<2^256:=Nat.lt_trans (Nat.mod_lt _ (by omega)) hml2;have HX:Hid (a%(b*2^d*2)<2^256):=UX hxl;have hq2:a/(b*2^d*2)=a/(b*2^d)/2:=by rw[Nat.div_div_eq_div_mul]
    obtain⟨m,hm⟩:∃m,m=b*2^d:=⟨_,rfl⟩;rw[←hm]at hS HST hnb hml2 HX hm0 hq2 ⊢;have HMd:=UX hm;clear hm hxl;have hn2:a/(m*2)<2^63:=by rw[hq2];omega
    clear hq2;obtain⟨x,hx⟩:∃x,x=a%(m*2):=⟨_,rfl⟩;obtain⟨n,hn⟩:∃n,n=a/(m*2):=⟨_,rfl⟩;rw[←hx,←hn]at HST;rw[←hx]at hS HX;rw[←hn]at hn2 ⊢;have hmod:=Nat.mod_lt a (show 0<m*2 by omega);rw[←hx]at hmod;clear hx hn;have bS:=hS.S;have HS2:=UX hS;have HH:=UX (fun w'=>Dp (m*2) w' (by have:=hml2;omega));have HLs:=UX (fun w'=>DH m x w' (by have:=hml2;omega) (by have:=HX.out;omega));have hh:m*2/2=m:=by omega
    rw[hh]at HH;have HM0:=UX (UZ hml2 (UZ hm0 (UZ hmod hnb)));clear hS hml2 hm0 hmod hnb hh;have t0:decide ((j:Int)<(k:Int))=true:=by simp;omega
    have e1:IntKind.u64.wrap (2*(n:Int))=2*(n:Int):=BB _ (by omega) (by omega);go_upto_region 12 with fail;clear t0;go_upto_region 13 with(first|(refine lN (.tmp 6) bS rN ?_)|(go_at_call 176;refine(HH.out _).mono ?_;rintro e wi ⟨rfl,ki⟩;have hS3:=HS2.out.grew ki;have bS3:=hS3.S)|(refine sN (.tmp 6) (.tmp 32) (AI (dg (m))) bS3 rN ?_;intro w7 hb7 k7 d7)|fail);have hS7:=hS3.setS hb7 k7;clear bS hS3 bS3 ki hb7 k7 d7;go_upto_region 14 with fail;have bS:=hS7.S;have bA:=hS7.A;have hq:decide (CQ m x≤0)=decide (m≤x):=PG;generalize CQ m x=cc at*;by_cases hmx:m≤x
    ·have u0:decide (cc≤0)=true:=by rw[hq];simpa using hmx
     have HMi:=UX (fun w'=>CZ x m w' hmx (by have:=HX.out;omega));have HMX:=UX hmx;clear hq hmx;go_upto_region 15 with(first|(refine lN (.tmp 6) bS rN ?_)|(refine lN (.tmp 2) bA rN ?_)|(go_at_call 143;refine(HLs.out _).mono ?_;rintro e wj ⟨rfl,kj⟩;have hS8:=hS7.grew kj)|fail);clear bS bA u0 e1;have bS:=hS8.S;have bA:=hS8.A;have e2:IntKind.u64.wrap (2*(n:Int)+1)=2*(n:Int)+1:=BB _ (by omega) (by omega);go_upto_region 16 with(first|(refine lN (.tmp 6) bS rN ?_)|(refine lN (.tmp 2) bA rN ?_)|(go_at_call 144;refine(HMi.out _).mono ?_;rintro e wl ⟨rfl,kl⟩;have hS9:=hS8.grew kl;have bA9:=hS9.A)|(refine sN (.tmp 2) (.tmp 41) (AI (dg (x-m))) bA9 rN ?_;intro wm hbm km dm)|fail);have HS10:=UX (hS9.setA hbm km);clear bS bA hS8 hS9 bA9 kj kl hbm km dm hS7;go_wp2_with fail;go_roundw
     case rel=>
      have hz:=HST.out.1 HMX.out;refine⟨j+1,by go_num,hlt,?_,?_⟩
      ·rw[HRel.out,←HMd.out,hz.1];congr 1
      rw[HRel.out,←HMd.out,←hz.2];exact HS10.out
     case measure=>simp[intOf];omega
    have u0:decide (cc≤0)=false:=by rw[hq];simpa using hmx
    have HMX:Hid (x<m):=UX (by omega);clear hq hmx;go_wp2_with(first|(refine lN (.tmp 6) bS rN ?_)|(refine lN (.tmp 2) bA rN ?_)|(go_at_call 143;refine(HLs.out _).mono ?_;rintro e wj ⟨rfl,kj⟩;have HS10:=UX (hS7.grew kj))|fail);go_roundw
    case rel=>
     have hz:=HST.out.2 HMX.out;refine⟨j+1,by go_num,hlt,?_,?_⟩
     ·rw[HRel.out,←HMd.out,hz.1];congr 1
     rw[HRel.out,←HMd.out,←hz.2];exact HS10.out
    case measure=>simp[intOf];omega
   obtain rfl:j=k:=by omega
   have t0:decide ((j:Int)<(j:Int))=false:=by simp
   rw[Nat.sub_self,Nat.pow_zero,Nat.mul_one]at hS ⊢;have HG:=UX hS.G;clear hS;generalize a/b=q at*;go_wp2_with fail;go_ret2;exact⟨by rw[HR.out];rfl,HG.out⟩
def AA (n d:Int):List Value:=[.int .i64 n,.int .i64 d]
def BS (p:Int×Int×Int):Value:= .tuple #[.agg (AA p.1 p.2.1).toArray,.int .i64 p.2.2]
theorem BP (n d:Int):∀v∈AA n d,v.oneCell'=true:=by
 intro v hv;simp[AA]at hv;rcases hv with rfl|rfl<;>rfl
theorem C1:(Tryz.prog.info? 24).map (·.size)=some 2:=by kernel_rfl
theorem rF:J3 24 2:=⟨C1,_,Tryz.underlying24,rfl⟩
theorem KD {fn:Func} {p q:Tmp} {ty:TypeId} (h:fn.results=#[.cell p ty,.tmp q]) {tmps:Array Value} {w:World} {g:Nat} {vs:List Value} {v:Value} {t:TypeId} (hp:tmps.getD p undef= .pointer (some ⟨g,0,none⟩)) (hq:tmps.getD q undef=v) (hT:(Tryz.prog.info? ty).map (·.size)=some vs.length) {d:TypeDesc} (hu:Tryz.prog.underlying ty=some d) (hd:d.isRow=true) (hb:AK w g t vs.toArray):
  (results fn tmps).run Tryz.prog w= .ok (.tuple #[.agg vs.toArray,v]) w:=by
 have hl:=run_loadVar_mid (P:=Tryz.prog) w g 0 ty vs d (hb.rangeN 0 vs (by simp)) hu hd hT;simp only[results,h];rw[Array.getD_eq_getD_getElem?]at hp hq
 first|(simp[hp,hq,Result.andThen,hl,asAddr];done)|(simp[Sem.run_bind,hp,hq,Result.andThen,hl,asAddr];done)|(simp only[Sem.run_bind];simp[hp,hq,Result.andThen,hl,asAddr])
theorem OT {P:Program} {ops:Array Oper} {rest:List Oper} {o:Oper} {a:Act} {w:World} {Q:Exit→Act→World→Prop} (hw:Region.wanted o (yielded ops a.tmps)=true) (T:TypeId) {d:TypeDesc} (hu:P.underlying T=some d) (hd:d.isRow=true) (x:Operand) (g:Nat) (vs:List Value) (t:TypeId) (hT:(P.info? T).map (·.size)=some vs.length) (ho:o.op= .load T x)
  (hx:a.eval x= .pointer (some ⟨g,0,none⟩)) (hb:AK w g t vs.toArray)
  (h:wpList P ops Q rest (a.put o.dst (.agg vs.toArray)) w):wpList P ops Q (o::rest) a w:=
 wpList_step fun K hK=>by rw[Uo hw];exact wp_load_mid T x ho g 0 hx vs d (hb.rangeN 0 vs (by simp)) hu hd hT (hK _ _ h)
theorem Ip (a b:Nat) (hb:0<b):∃(x:Nat) (f:Bool),Ho a b= .tuple #[.int .u64 (x:Int),.bool f]∧x<18446744073709551616∧(f=true→x=a/b)∧(f=false→18446744073709551616≤a/b):=by
 by_cases h:a<b*18446744073709551616
 ·refine⟨a/b,true,by unfold Ho;rw[Uo h],?_,fun _=>rfl,fun h=>(by cases h)⟩;rw[Nat.div_lt_iff_lt_mul hb,Up];exact h
 refine⟨0,false,by unfold Ho;rw[Un h];rfl,by decide,fun h=>(by cases h),fun _=>?_⟩;rw[Nat.le_div_iff_mul_le hb,Up];omega
theorem Lj {z:Int} {n d:Nat} (hz:z.natAbs=n) (h:4611686018427387904<n/n.gcd d∨4611686018427387904<d/n.gcd d):Cz z d=(0,0,5):=by
 unfold Cz;rw[hz,Un (by omega)]
theorem NO {z:Int} {n d:Nat} (hz:z.natAbs=n) (h1:n/n.gcd d≤4611686018427387904) (h2:d/n.gcd d≤4611686018427387904):Cz z d=(z.tdiv ((n.gcd d:Nat):Int),((d/n.gcd d:Nat):Int),0):=by
 unfold Cz;rw[hz,Uo ⟨h1,h2⟩]
theorem Ch (neg:Bool) (n d:Nat) (z:Int) (w:World) (hn:n<2^255) (hd:d<2^255) (hd0:0<d) (hz:z=if neg=true then -(n:Int)else(n:Int)):Calls Tryz.prog 141 #[.bool neg,Ar n,Ar d] w fun e w'=>e= .returned (BS (Cz z d))∧A5 w w':=by
 obtain⟨hb1,hb2,hb3,hG3⟩:=BO w 147 147 24 (AI (dg n)).toArray (AI (dg d)).toArray (AA 0 0).toArray;have hz3:((((w.alloc (.cells (AI (dg n)).toArray 147)).alloc (.cells (AI (dg d)).toArray 147)).alloc (.cells (AA 0 0).toArray 24))).heap.size=w.heap.size+1+1+1:=by rw[World.size_alloc,World.size_alloc,World.size_alloc]
 unfold Ar;have hg0:0<n.gcd d:=Nat.gcd_pos_of_pos_right _ hd0;have hgl:n.gcd d<2^256:=Nat.lt_of_le_of_lt (Nat.gcd_le_right _ hd0) (by omega);have hzn:z.natAbs=n:=by rw[hz];split<;>simp
 have HC:=UX (fun w'=>QI n d w' (by omega) (by omega));have HE:=UX (Lj (z:=z) (n:=n) (d:=d) hzn);have HO:=UX (NO (z:=z) (n:=n) (d:=d) hzn);generalize n.gcd d=g at*;have HO1:=UX (fun w'=>LV n g w' hn hgl hg0);have HO2:=UX (fun w'=>LV d g w' hd hgl hg0);obtain⟨x,fx,h1,h2,h3,h4⟩:=Ip n g hg0;obtain⟨y,fy,h5,h6,h7,h8⟩:=Ip d g hg0;rw[h1]at HO1;rw[h5]at HO2;clear h1 h5;have HZ:Hid (z.tdiv (g:Int)=if neg=true then -((n/g:Nat):Int)else((n/g:Nat):Int)):=UX (by
  rw[hz];split
  ·rw[Int.neg_tdiv];rfl
  rfl)
 clear hn hd hd0 hz hgl hg0 hzn;go_enter Tryz.func141,Tryz.ntmps141;go_upto_region 1 with fail;change Code.wp _ _ _ _ (((w.alloc (.cells (AI (dg n)).toArray 147)).alloc (.cells (AI (dg d)).toArray 147)).alloc (.cells (AA 0 0).toArray 24));generalize ((w.alloc (.cells (AI (dg n)).toArray 147)).alloc (.cells (AI (dg d)).toArray 147)).alloc (.cells (AA 0 0).toArray 24)=w3 at*;go_upto_region 2 with(first|(refine lN (.tmp 4) hb1 rN ?_)|(refine lN (.tmp 5) hb2 rN ?_)|(go_at_call 162;refine(HC.out _).mono ?_;rintro e w4 ⟨rfl,k4⟩;have hz4:=k4.size;have bZ:=Ux w4 147 (AI (fun _=>0)).toArray;have hA4:=(hb1.grew k4).alloc (.cells (AI (fun _=>0)).toArray 147);have hB4:=(hb2.grew k4).alloc (.cells (AI (fun _=>0)).toArray 147);have hR4:=(hb3.grew k4).alloc (.cells (AI (fun _=>0)).toArray 147);have hG4:=(hG3.trans k4).alloc (.cells (AI (fun _=>0)).toArray 147))|(refine sN (.tmp 8) (.tmp 15) (AI (dg g)) bZ rN ?_;intro w5 hb5 k5 d5)|fail);have c1:=hA4.keep k5 (by omega);have c2:=hB4.keep k5 (by omega);have c3:=hR4.keep k5 (by omega);have hG5:=Uw hG4 k5 (fun i hi e=>by omega);generalize w4.heap.size=zz at*;clear hA4 hB4 hR4 k5 hG4 hz4 k4 bZ hb1 hb2 hb3 hG3 hz3 d5;go_upto_region 3 with(first|(refine lN (.tmp 4) c1 rN ?_)|(refine lN (.tmp 8) hb5 rN ?_)|(go_at_call 163;refine(HO1.out _).mono ?_;rintro e w6 ⟨rfl,k6⟩;have e2:=c2.grew k6;have e3:=c3.grew k6;have e5:=hb5.grew k6;have hG6:=hG5.trans k6)|fail);clear c1 c2 c3 hb5 hG5 k6;go_upto_region 4 with(first|(refine lN (.tmp 5) e2 rN ?_)|(refine lN (.tmp 8) e5 rN ?_)|(go_at_call 163;refine(HO2.out _).mono ?_;rintro e w7 ⟨rfl,k7⟩;have f3:=e3.grew k7;have HG7:=UX (hG6.trans k7))|fail);clear e2 e3 e5 hG6 k7;cases fx
 ·have h9:=h4 rfl;have HR:=UX (HE.out (.inl (by omega)));clear h3 h4 h7 h8;go_wp2_with(first|(refine sN (.tmp 6) (.tmp 42) (AA 0 0) f3 rF ?_;intro w8 hb8 k8 d8)|fail);refine rT rF hb8 ?_;rw[HR.out];exact⟨rfl,Uw HG7.out k8 (fun i hi e=>by omega)⟩
 cases fy
 ·have h9:=h8 rfl;have HR:=UX (HE.out (.inr (by omega)));clear h3 h4 h7 h8;go_wp2_with(first|(refine sN (.tmp 6) (.tmp 42) (AA 0 0) f3 rF ?_;intro w8 hb8 k8 d8)|fail);refine rT rF hb8 ?_;rw[HR.out];exact⟨rfl,Uw HG7.out k8 (fun i hi e=>by omega)⟩
 have hx:=h3 rfl;have hy:=h7 rfl;rw[←hx]at HE HO HZ;rw[←hy]at HE HO;clear h3 h4 h7 h8 hx hy;by_cases hxm:4611686018427387904<x
 ·have t1:decide ((4611686018427387904:Int)<(x:Int))=true:=by simp;omega
  have HR:=UX (HE.out (.inl hxm));clear hxm;go_wp2_with(first|(refine sN (.tmp 6) (.tmp 42) (AA 0 0) f3 rF ?_;intro w8 hb8 k8 d8)|fail);refine rT rF hb8 ?_;rw[HR.out];exact⟨rfl,Uw HG7.out k8 (fun i hi e=>by omega)⟩
 have t1:decide ((4611686018427387904:Int)<(x:Int))=false:=by simp;omega
 by_cases hym:4611686018427387904<y
 ·have t2:decide ((4611686018427387904:Int)<(y:Int))=true:=by simp;omega
  have HR:=UX (HE.out (.inr hym));clear hxm hym;go_wp2_with(first|(refine sN (.tmp 6) (.tmp 42) (AA 0 0) f3 rF ?_;intro w8 hb8 k8 d8)|fail);refine rT rF hb8 ?_;rw[HR.out];exact⟨rfl,Uw HG7.out k8 (fun i hi e=>by omega)⟩
 have t2:decide ((4611686018427387904:Int)<(y:Int))=false:=by simp;omega
 have HR:=UX (HO.out (by omega) (by omega));cases neg
 ·have v1:IntKind.i64.wrap (x:Int)=(x:Int):=IntWalk.i64_in _ (by omega);have v3:IntKind.i64.wrap (y:Int)=(y:Int):=IntWalk.i64_in _ (by omega);go_wp2_with(first|(refine sN (.tmp 6) (.tmp 54) (AA (x:Int) (y:Int)) f3 rF ?_;intro w8 hb8 k8 d8)|fail);refine rT rF hb8 ?_;rw[HR.out,HZ.out];exact⟨rfl,Uw HG7.out k8 (fun i hi e=>by omega)⟩
 have v1:IntKind.i64.wrap (x:Int)=(x:Int):=IntWalk.i64_in _ (by omega);have v2:IntKind.i64.wrap (-(x:Int))= -(x:Int):=IntWalk.i64_in _ (by omega);have v3:IntKind.i64.wrap (y:Int)=(y:Int):=IntWalk.i64_in _ (by omega);go_wp2_with(first|(refine sN (.tmp 6) (.tmp 49) (AA (-(x:Int)) (y:Int)) f3 rF ?_;intro w8 hb8 k8 d8)|fail);refine rT rF hb8 ?_;rw[HR.out,HZ.out];exact⟨rfl,Uw HG7.out k8 (fun i hi e=>by omega)⟩
theorem Dw (a b c d:Int) (r:Bool) (hr:decide (a=c∧b=d)=r) (w:World):(binOp .eql 24 (.agg (AA a b).toArray) (.agg (AA c d).toArray)).run Tryz.prog w= .ok (.bool r) w:=by
 have h1:∀w,(part 3 (AA a b).toArray 0).run Tryz.prog w= .ok (.int .i64 a) w:=fun w=>by simp[go_sem,part,Tryz.underlying3,AA]
 have h2:∀w,(part 3 (AA a b).toArray 1).run Tryz.prog w= .ok (.int .i64 b) w:=fun w=>by simp[go_sem,part,Tryz.underlying3,AA]
 have h3:∀w,(part 3 (AA c d).toArray 0).run Tryz.prog w= .ok (.int .i64 c) w:=fun w=>by simp[go_sem,part,Tryz.underlying3,AA]
 have h4:∀w,(part 3 (AA c d).toArray 1).run Tryz.prog w= .ok (.int .i64 d) w:=fun w=>by simp[go_sem,part,Tryz.underlying3,AA]
 have e1:∀w,(Op.equalIn 9999 3 (.int .i64 a) (.int .i64 c)).run Tryz.prog w= .ok (a==c) w:=fun w=>run_equalIn_int w 9998 3 _ _ _ _ Tryz.underlying3
 have e2:∀w,(Op.equalIn 9999 3 (.int .i64 b) (.int .i64 d)).run Tryz.prog w= .ok (b==d) w:=fun w=>run_equalIn_int w 9998 3 _ _ _ _ Tryz.underlying3
 have hf:(Tryz.prog.fieldsOf 24).toList.map (fun f=>(f.name,f.type,f.offset))=[("Num",3,0),("Den",3,1)]:=by kernel_rfl
 rw[run_eql_struct,run_equalIn_struct w 9999 24 _ _ (by kernel_rfl) (by kernel_rfl)];generalize (Tryz.prog.fieldsOf 24).toList=fs at hf ⊢;rcases fs with _|⟨f1,_|⟨f2,_|⟨f3,fs⟩⟩⟩
 ·exact absurd (congrArg List.length hf) (by simp)
 ·exact absurd (congrArg List.length hf) (by simp)
 ·simp only[List.map_cons,List.map_nil,List.cons.injEq,Uq,and_true]at hf;obtain⟨⟨m1,t1,o1⟩,m2,t2,o2⟩:=hf;have key:(Op.eqFields 9999 (AA a b).toArray (AA c d).toArray [f1,f2]).run Tryz.prog w= .ok (decide (a=c∧b=d)) w:=by
   have n1:f1.name≠ "_":=by rw[m1];decide
   have n2:f2.name≠ "_":=by rw[m2];decide
   simp only[Op.eqFields,t1,t2,o1,o2,Uo n1,Uo n2,Sem.run_bind,h1,h2,h3,h4,e1,e2,Result.andThen_ok,Sem.run_ite,Sem.run_pure];by_cases x1:a=c<;>by_cases x2:b=d<;>simp[x1,x2]
  rw[key,hr];rfl
 exact absurd (congrArg List.length hf) (by simp)
theorem OD (z:Int) (d:Nat):(Cz z d).2.2=0∨(Cz z d).2.2=5:=by unfold Cz;split<;>simp
theorem Oa (n:Int) {d:Int} (h:d≠0):(EZ n d).2.2=0∨(EZ n d).2.2=5:=by
 unfold EZ;rw[Un h];by_cases h1:n= -9223372036854775808∨d= -9223372036854775808
 ·rw[Uo h1];simp
 rw[Un h1];exact OD _ _
theorem Sf {n d:Int}:(if d<0 then -n else n).natAbs=n.natAbs:=by split<;>omega
theorem PK (n d:Int) (g:Nat):(if d<0 then -n else n).tdiv (g:Int)=if(decide (n<0) !=decide (d<0))=true then -((n.natAbs/g:Nat):Int)else((n.natAbs/g:Nat):Int):=by
 have e:(if d<0 then -n else n)=if(decide (n<0) !=decide (d<0))=true then -((n.natAbs:Nat):Int)else((n.natAbs:Nat):Int):=by
  by_cases h1:n<0<;>by_cases h2:d<0<;>simp[h1,h2]<;>omega
 rw[e];split
 ·rw[Int.neg_tdiv];rfl
 rfl
theorem Iz (n d:Int) (w:World) (hn:Ah n) (hd:Ah d):Calls Tryz.prog 133 #[.int .i64 n,.int .i64 d] w fun e w'=>e= .returned (BS (EZ n d))∧A5 w w':=by
 have hb1:=Ux w 24 (AA 0 0).toArray;have hG1:=(Uv w).alloc (.cells (AA 0 0).toArray 24);have HS1:=UX (fun w'=>Eg n w' hn);have HS2:=UX (fun w'=>Eg d w' hd);obtain⟨n1,n2⟩:=hn;obtain⟨d1,d2⟩:=hd;go_enter Tryz.func133,Tryz.ntmps133;go_upto_region 1 with fail;change Code.wp _ _ _ _ (w.alloc (.cells (AA 0 0).toArray 24));generalize w.alloc (.cells (AA 0 0).toArray 24)=w1 at*;by_cases h0:d=0
 ·have HR:Hid (EZ n d=(0,0,6)):=UX (by unfold EZ;rw[Uo h0]);have t0:(d==0)=true:=by simpa using h0
  clear h0;go_wp2_with(first|(refine sN (.tmp 4) (.tmp 11) (AA 0 0) hb1 rF ?_;intro w8 hb8 k8 d8)|fail);refine rT rF hb8 ?_;rw[HR.out];exact⟨rfl,Uw hG1 k8 (fun i hi e=>by omega)⟩
 have t0:(d==0)=false:=by simpa using h0
 obtain⟨x,hx⟩:∃x:Nat,n.natAbs=x:=⟨_,rfl⟩;obtain⟨y,hy⟩:∃y:Nat,d.natAbs=y:=⟨_,rfl⟩;rw[hx]at HS1;rw[hy]at HS2;go_upto_region 4 with(go_at_call 140;refine(HS1.out _).mono ?_;rintro e w' ⟨rfl,rfl⟩);clear HS1;go_upto_region 5 with(go_at_call 140;refine(HS2.out _).mono ?_;rintro e w' ⟨rfl,rfl⟩);clear HS2;by_cases h1:n= -9223372036854775808
 ·have HR:Hid (EZ n d=(0,0,5)):=UX (by unfold EZ;rw[Un h0,Uo (.inl h1)]);have t1:decide ((9223372036854775807:Int)<(x:Int))=true:=by simp;omega
  clear h0 h1 hx hy;go_wp2_with(first|(refine sN (.tmp 4) (.tmp 22) (AA 0 0) hb1 rF ?_;intro w8 hb8 k8 d8)|fail);refine rT rF hb8 ?_;rw[HR.out];exact⟨rfl,Uw hG1 k8 (fun i hi e=>by omega)⟩
 have t1:decide ((9223372036854775807:Int)<(x:Int))=false:=by simp;omega
 by_cases h2:d= -9223372036854775808
 ·have HR:Hid (EZ n d=(0,0,5)):=UX (by unfold EZ;rw[Un h0,Uo (.inr h2)]);have t2:decide ((9223372036854775807:Int)<(y:Int))=true:=by simp;omega
  clear h0 h1 h2 hx hy;go_wp2_with(first|(refine sN (.tmp 4) (.tmp 22) (AA 0 0) hb1 rF ?_;intro w8 hb8 k8 d8)|fail);refine rT rF hb8 ?_;rw[HR.out];exact⟨rfl,Uw hG1 k8 (fun i hi e=>by omega)⟩
 have t2:decide ((9223372036854775807:Int)<(y:Int))=false:=by simp;omega
 have hg0:0<x.gcd y:=Nat.gcd_pos_of_pos_right _ (by omega);have HF:Hid (EZ n d=Cz (if d<0 then -n else n) y):=UX (by unfold EZ;rw[Un h0,Un (by omega),hy]);have hzn:(if d<0 then -n else n).natAbs=x:=by rw[Sf,hx]
 have HE:=UX (Lj (d:=y) hzn);have HO:=UX (NO (d:=y) hzn);have HZ:=PK n d (x.gcd y);rw[hx]at HZ;generalize (if d<0 then -n else n)=z at*;have HC:=UX (fun w'=>MV x y w' (by omega) (by omega));generalize x.gcd y=g at*;have q0:¬(g:Int)=0:=by omega
 have q1:(x:Int).tdiv (g:Int)=((x/g:Nat):Int):=rfl;have q2:(y:Int).tdiv (g:Int)=((y/g:Nat):Int):=rfl;have l1:=Nat.div_le_self x g;have l2:=Nat.div_le_self y g;generalize hq1:x/g=qx at*;generalize hq2:y/g=qy at*;have e1:IntKind.u64.wrap (qx:Int)=(qx:Int):=AH _ (by omega);have e2:IntKind.u64.wrap (qy:Int)=(qy:Int):=AH _ (by omega);have HZ:=UX HZ;obtain⟨sg,hsg⟩:∃s:Bool,(decide (n<0) !=decide (d<0))=s:=⟨_,rfl⟩;rw[hsg]at HZ;obtain⟨sa,hsa⟩:∃s:Bool,decide (n<0)=s:=⟨_,rfl⟩;obtain⟨sb,hsb⟩:∃s:Bool,decide (d<0)=s:=⟨_,rfl⟩;rw[hsa,hsb]at hsg;clear h0 h1 h2 hx hy hq1 hq2 hg0 n1 n2 d1 d2 hzn;go_upto_region 8 with(go_at_call 160;refine(HC.out _).mono ?_;rintro e w' ⟨rfl,rfl⟩);clear HC;by_cases hxm:4611686018427387904<qx
 ·have t3:decide ((4611686018427387904:Int)<(qx:Int))=true:=by simp;omega
  have HR:=UX (HF.out.trans (HE.out (.inl hxm)));clear hxm hsg HZ;go_wp2_with(first|(refine sN (.tmp 4) (.tmp 38) (AA 0 0) hb1 rF ?_;intro w8 hb8 k8 d8)|fail);refine rT rF hb8 ?_;rw[HR.out];exact⟨rfl,Uw hG1 k8 (fun i hi e=>by omega)⟩
 have t3:decide ((4611686018427387904:Int)<(qx:Int))=false:=by simp;omega
 by_cases hym:4611686018427387904<qy
 ·have t4:decide ((4611686018427387904:Int)<(qy:Int))=true:=by simp;omega
  have HR:=UX (HF.out.trans (HE.out (.inr hym)));clear hxm hym hsg HZ;go_wp2_with(first|(refine sN (.tmp 4) (.tmp 38) (AA 0 0) hb1 rF ?_;intro w8 hb8 k8 d8)|fail);refine rT rF hb8 ?_;rw[HR.out];exact⟨rfl,Uw hG1 k8 (fun i hi e=>by omega)⟩
 have t4:decide ((4611686018427387904:Int)<(qy:Int))=false:=by simp;omega
 have HR:=UX (HF.out.trans (HO.out (by omega) (by omega)));have v1:IntKind.i64.wrap (qx:Int)=(qx:Int):=IntWalk.i64_in _ (by omega);have v2:IntKind.i64.wrap (-(qx:Int))= -(qx:Int):=IntWalk.i64_in _ (by omega);have v3:IntKind.i64.wrap (qy:Int)=(qy:Int):=IntWalk.i64_in _ (by omega);clear hxm hym;cases sa
 ·cases sb
  ·obtain rfl:=hsg;go_wp2_with(first|(refine sN (.tmp 4) (.tmp 54) (AA (qx:Int) (qy:Int)) hb1 rF ?_;intro w8 hb8 k8 d8)|fail);refine rT rF hb8 ?_;rw[HR.out,HZ.out];exact⟨rfl,Uw hG1 k8 (fun i hi e=>by omega)⟩
  obtain rfl:=hsg;go_wp2_with(first|(refine sN (.tmp 4) (.tmp 49) (AA (-(qx:Int)) (qy:Int)) hb1 rF ?_;intro w8 hb8 k8 d8)|fail);refine rT rF hb8 ?_;rw[HR.out,HZ.out];exact⟨rfl,Uw hG1 k8 (fun i hi e=>by omega)⟩
 cases sb
 ·obtain rfl:=hsg;go_wp2_with(first|(refine sN (.tmp 4) (.tmp 49) (AA (-(qx:Int)) (qy:Int)) hb1 rF ?_;intro w8 hb8 k8 d8)|fail);refine rT rF hb8 ?_;rw[HR.out,HZ.out];exact⟨rfl,Uw hG1 k8 (fun i hi e=>by omega)⟩
 obtain rfl:=hsg;go_wp2_with(first|(refine sN (.tmp 4) (.tmp 54) (AA (qx:Int) (qy:Int)) hb1 rF ?_;intro w8 hb8 k8 d8)|fail);refine rT rF hb8 ?_;rw[HR.out,HZ.out];exact⟨rfl,Uw hG1 k8 (fun i hi e=>by omega)⟩
theorem C7 (n d:Int) (w:World) (hn:Ah n) (hd:Ah d):Calls Tryz.prog 102 #[.agg (AA n d).toArray] w fun e w'=>e= .returned (.bool (AU n d))∧A5 w w':=by
 have hb1:=Ux w 24 (AA n d).toArray;have hG1:=(Uv w).alloc (.cells (AA n d).toArray 24);have hz1:(w.alloc (.cells (AA n d).toArray 24)).heap.size=w.heap.size+1:=by rw[World.size_alloc]
 have HN:=UX (fun w'=>Iz n d w' hn hd);obtain⟨n1,n2⟩:=hn;obtain⟨d1,d2⟩:=hd;go_enter Tryz.func102,Tryz.ntmps102;go_upto_region 1 with fail;change Code.wp _ _ _ _ (w.alloc (.cells (AA n d).toArray 24));generalize w.alloc (.cells (AA n d).toArray 24)=w1 at*;have c0:w1.cell? ⟨w.heap.size,0,none⟩=some (.int .i64 n):=hb1.cell 0;have c1:w1.cell? ⟨w.heap.size,1,none⟩=some (.int .i64 d):=hb1.cell 1;by_cases h1:d<1
 ·have HV:=UX (EQ (n:=n) (.inl h1));have t1:decide (d<1)=true:=by simpa using h1
  clear h1;go_wp2_with fail;go_ret;exact⟨by rw[HV.out];rfl,hG1⟩
 have t1:decide (d<1)=false:=by simpa using h1
 have HV:=UX (OM (n:=n) (d:=d) (by omega) (by omega) (by omega));obtain⟨⟨p,q,er⟩,hp⟩:∃z,EZ n d=z:=⟨_,rfl⟩;have her:er=0∨er=5:=by
  have:=Oa n (d:=d) (by omega);rw[hp]at this;exact this
 rw[hp]at HV HN;simp only[BS]at HN;clear h1 hp n1 n2 d1 d2;obtain⟨bq,hbq⟩:∃b:Bool,decide (n=p∧d=q)=b:=⟨_,rfl⟩;have hq:=Dw n d p q bq hbq;have HV2:Hid (AU n d=(decide (er=0)&&bq)):=UX (by
  rw[HV.out,←hbq,←Bool.decide_and,decide_eq_decide];simp;omega)
 clear hbq HV;go_upto_region 4 with(first|(go_at_call 133;refine(HN.out _).mono ?_;rintro e w4 ⟨rfl,k4⟩;have hz4:=k4.size;have bZ:=Ux w4 24 (AA 0 0).toArray;have hA4:=(hb1.grew k4).alloc (.cells (AA 0 0).toArray 24);have hG4:=(hG1.trans k4).alloc (.cells (AA 0 0).toArray 24))|(refine sN (.tmp 3) (.tmp 14) (AA p q) bZ rF ?_;intro w5 hb5 k5 d5)|fail);have hA5:=hA4.keep k5 (by omega);have hG5:=UX (Uw hG4 k5 (fun i hi e=>by omega));generalize w4.heap.size=z4 at*;clear hA4 k5 hG4 hz4 k4 bZ hb1 hG1 d5 c0 c1 t1 hz1;rcases her with rfl|rfl
 ·go_wp2_with(first|(refine OT rfl 24 Tryz.underlying24 rfl (.tmp 1) w.heap.size (AA n d) 24 C1 rfl rfl hA5 ?_)|(refine OT rfl 24 Tryz.underlying24 rfl (.tmp 3) z4 (AA p q) 24 C1 rfl rfl hb5 ?_));go_ret;exact⟨by rw[HV2.out];rfl,hG5.out⟩
 go_wp2_with fail;go_ret;exact⟨by rw[HV2.out];rfl,hG5.out⟩
def Dy (n d:Int):Bool:=decide (n.natAbs≤1073741824∧d≤1073741824)
theorem Ed (n d:Int) (w:World) (hn:Ah n):Calls Tryz.prog 137 #[.agg (AA n d).toArray] w fun e w'=>e= .returned (.bool (Dy n d))∧A5 w w':=by
 have hb1:=Ux w 24 (AA n d).toArray;have hG1:=(Uv w).alloc (.cells (AA n d).toArray 24);have HS1:=UX (fun w'=>Eg n w' hn);clear hn;go_enter Tryz.func137,Tryz.ntmps137;go_upto_region 1 with fail;change Code.wp _ _ _ _ (w.alloc (.cells (AA n d).toArray 24));generalize w.alloc (.cells (AA n d).toArray 24)=w1 at*;have c0:w1.cell? ⟨w.heap.size,0,none⟩=some (.int .i64 n):=hb1.cell 0;have c1:w1.cell? ⟨w.heap.size,1,none⟩=some (.int .i64 d):=hb1.cell 1;obtain⟨x,hx⟩:∃x,n.natAbs=x:=⟨_,rfl⟩;rw[hx]at HS1;by_cases h1:x≤1073741824
 ·have t1:decide ((x:Int)≤1073741824)=true:=by simp;omega
  have HV:Hid (Dy n d=decide (d≤1073741824)):=UX (by unfold Dy;rw[decide_eq_decide];omega);obtain⟨b,hb⟩:∃b:Bool,decide (d≤1073741824)=b:=⟨_,rfl⟩;rw[hb]at HV;clear h1 hx;go_wp2_with(go_at_call 140;refine(HS1.out _).mono ?_;rintro e w' ⟨rfl,rfl⟩);go_ret;exact⟨by rw[HV.out];rfl,hG1⟩
 have t1:decide ((x:Int)≤1073741824)=false:=by simp;omega
 have HV:Hid (Dy n d=false):=UX (by unfold Dy;simp;omega);clear h1 hx;go_wp2_with(go_at_call 140;refine(HS1.out _).mono ?_;rintro e w' ⟨rfl,rfl⟩);go_ret;exact⟨by rw[HV.out];rfl,hG1⟩
end Go.Proofs.YtkclnhpofkaclaaGreatDoor
