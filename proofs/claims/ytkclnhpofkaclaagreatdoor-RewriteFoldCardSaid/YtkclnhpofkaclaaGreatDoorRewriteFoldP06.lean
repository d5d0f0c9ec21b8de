/- What the card of the law stands on: NatE, GcdPl, NatG. -/
import Derived.Test.YtkclnhpofkaclaaGreatDoorRewriteFoldP05
import Derived.ChangeKeysEq
import Derived.Laws.StructEq
import Derived.Test.YtkclnhpofkaclaaGreatDoorRewriteFoldP01
set_option maxRecDepth 100000
set_option maxHeartbeats 12800000
set_option linter.unusedVariables false
set_option linter.unusedSimpArgs false
namespace Go.Proofs.YtkclnhpofkaclaaGreatDoor
open Go.RowKit Pl
theorem LF (F:Nat→Nat) (i:Nat) (hi:i<8) (w:World):(part 111 (AI F).toArray (i*1)).run Tryz.prog w= .ok (.int .u64 (F i:Int)) w:=by
 rcases(show i=0∨i=1∨i=2∨i=3∨i=4∨i=5∨i=6∨i=7 by omega)with rfl|rfl|rfl|rfl|rfl|rfl|rfl|rfl<;>simp[go_sem,part,Tryz.underlying111,AI,vu]
theorem Jq (F G:Nat→Nat) (w:World):∀is:List Nat,(∀i∈is,i<8)→(Op.eqItems 9999 111 1 (AI F).toArray (AI G).toArray is).run Tryz.prog w= .ok (decide (∀i∈is,F i=G i)) w
 |[],_=>by simp[Op.eqItems]
 |i::is,h=>by
  have hi:=h i List.mem_cons_self;have ih:=Jq F G w is (fun j hj=>h j (List.mem_cons_of_mem _ hj));have he:(Op.equalIn 9999 111 (.int .u64 (F i:Int)) (.int .u64 (G i:Int))).run Tryz.prog w= .ok ((F i:Int)==(G i:Int)) w:=by
   exact run_equalIn_int w 9998 111 _ _ _ _ Tryz.underlying111
  simp only[Op.eqItems,Sem.run_bind,LF F i hi,LF G i hi,he,Result.andThen_ok];by_cases hq:F i=G i
  ·simp[hq,ih]
  have:((F i:Int)==(G i:Int))=false:=by rw[UY];omega
  simp[this,hq]
theorem SC (F G:Nat→Nat) (w:World):(Op.equalIn 10000 147 (.agg (AI F).toArray) (.agg (AI G).toArray)).run Tryz.prog w= .ok (decide (∀i∈List.range 8,F i=G i)) w:=by
 obtain⟨i,hi⟩:=Option.isSome_iff_exists.1 (show(Tryz.prog.info? 111).isSome=true by kernel_rfl);have h:=run_equalIn_array (P:=Tryz.prog) (w:=w) 9999 (t:=147) (e:=111) (n:=8) (AI F).toArray (AI G).toArray Tryz.underlying147 hi;rw[h];exact Jq F G w (List.range 8) (by simp)
theorem Q9 {a b:Nat} (ha:a<4294967296^8) (hb:b<4294967296^8) (w:World):(Op.equalIn 10000 147 (.agg (AI (dg a)).toArray) (.agg (AI (dg b)).toArray)).run Tryz.prog w= .ok (decide (a=b)) w:=by
 rw[SC];congr 1;rw[decide_eq_decide];constructor
 ·intro h;exact Pg ha hb fun i hi=>h i (by simpa using hi)
 rintro rfl _ _;rfl
theorem MV (a b:Nat) (w:World) (hb:b≤18446744073709551615) (ha:a≤18446744073709551615):
  Calls Tryz.prog 160 #[.int .u64 (a:Nat),.int .u64 (b:Nat)] w fun e w'=>e= .returned (.int .u64 (Nat.gcd a b:Nat))∧w'=w:=by
 go_enter Tryz.func160,Tryz.ntmps160;go_wp2_with fail;go_loopw [0,1] (fun s t wr=>∃(x y:Nat),s= .int .u64 (x:Nat)∧t= .int .u64 (y:Nat)∧x≤18446744073709551615∧y≤18446744073709551615∧Nat.gcd x y=Nat.gcd a b∧wr=w) (fun _ t _=>(intOf t).toNat)
 case atStart=>exact⟨a,b,rfl,rfl,ha,hb,rfl,rfl⟩
 case round=>
  obtain⟨x,y,rfl,rfl,hx,hy,hg,rfl⟩:=hrel;have HG:=UX hg;clear hg;by_cases h0:y=0
  ·have t0:((y:Int)==0)=true:=by rw[Ud];omega
   have t1:((y:Int) !=0)=false:=by simp;omega
   have HY:=UX h0;clear h0;go_wp2_with fail;go_ret;exact⟨by rw[←HG.out,HY.out,Nat.gcd_zero_right];rfl,rfl⟩
  have hy0:0<y:=by omega
  have t0:((y:Int)==0)=false:=by rw[UY];omega
  have t1:((y:Int) !=0)=true:=by simp;omega
  have q0:¬(y:Int)=0:=by omega
  have q1:(x:Int).tmod (y:Int)=((x%y:Nat):Int):=by rw[Int.tmod_eq_emod_of_nonneg (by omega)];rfl
  have hlt:=Nat.mod_lt x hy0;have HGn:=UX (show Nat.gcd y (x%y)=Nat.gcd a b from by rw[←HG.out,Nat.gcd_comm x y,Nat.gcd_rec y x,Nat.gcd_comm]);clear h0;generalize x%y=z at*;go_wp2_with fail;go_roundw
  case rel=>exact⟨y,z,rfl,rfl,by omega,by omega,HGn.out,trivial⟩
  case measure=>simp[intOf];omega
end Go.Proofs.YtkclnhpofkaclaaGreatDoor
namespace Go.Proofs.YtkclnhpofkaclaaGreatDoor
theorem SL {a b:Nat} (ha:a%2=0) (hb:b%2=0):(a/2).gcd (b/2)*2=a.gcd b:=by
 obtain⟨x,rfl⟩:∃x,a=2*x:=⟨a/2,by omega⟩;obtain⟨y,rfl⟩:∃y,b=2*y:=⟨b/2,by omega⟩;rw[Nat.mul_div_cancel_left _ (by decide),Nat.mul_div_cancel_left _ (by decide),Nat.gcd_mul_left,Up]
theorem Q7z {a b:Nat} (ha:a%2=0) (ho:a.gcd b%2=1):(a/2).gcd b=a.gcd b:=by
 obtain⟨x,rfl⟩:∃x,a=2*x:=⟨a/2,by omega⟩;rw[Nat.mul_div_cancel_left _ (by decide)];have hb:b%2=1:=by
  rcases Nat.mod_two_eq_zero_or_one b with h|h
  ·exfalso;have:2∣(2*x).gcd b:=Nat.dvd_gcd ⟨x,rfl⟩ (Nat.dvd_of_mod_eq_zero h);omega
  exact h
 have hc:Nat.Coprime 2 b:=by
  unfold Nat.Coprime;rw[Nat.gcd_rec,hb];rfl
 rw[Nat.gcd_comm,Nat.gcd_comm (2*x)];exact(Nat.Coprime.gcd_mul_left_cancel_right x hc).symm
theorem MF {a b:Nat} (h:a%2=1∨b%2=1):a.gcd b%2=1:=by
 rcases Nat.mod_two_eq_zero_or_one (a.gcd b)with h0|h0
 ·exfalso;have h2:2∣a.gcd b:=Nat.dvd_of_mod_eq_zero h0;have ha:=Nat.dvd_trans h2 (Nat.gcd_dvd_left a b);have hb:=Nat.dvd_trans h2 (Nat.gcd_dvd_right a b);omega
 exact h0
theorem GR {a b:Nat} (h:a≤b):a.gcd (b-a)=a.gcd b:=Nat.gcd_sub_self_right h
end Go.Proofs.YtkclnhpofkaclaaGreatDoor
namespace Go.Proofs.YtkclnhpofkaclaaGreatDoor
open Go.RowKit Pl
noncomputable def Fk (w:World) (g:Nat):Nat:=@Classical.epsilon Nat ⟨0⟩ fun n=>n<4294967296^8∧AK w g 147 (AI (dg n)).toArray
theorem QA {F G:Nat→Nat} (h:(AI F).toArray=(AI G).toArray):∀i,i<8→F i=G i:=by
 intro i hi;have h1:=IC F hi;have h2:=IC G hi;have h3:AI F=AI G:=by simpa using congrArg Array.toList h
 rw[h3,h2]at h1;simp at h1;omega
theorem B3 {w:World} {g n:Nat} (hb:AK w g 147 (AI (dg n)).toArray) (hn:n<4294967296^8):Fk w g=n:=by
 have h:=@Classical.epsilon_spec Nat (fun n=>n<4294967296^8∧AK w g 147 (AI (dg n)).toArray) ⟨n,hn,hb⟩;have h2:=h.2;have h1:=h.1;unfold Fk;refine Pg h1 hn (QA ?_);have h3:=(Eq.symm h2).trans hb;injection h3 with h3;injection h3 with h3
structure KJ (w:World) (z x y:Nat) (wr:World):Prop where
 A:AK wr w.heap.size 147 (AI (dg x)).toArray
 B:AK wr (w.heap.size+1) 147 (AI (dg y)).toArray
 R:AK wr (w.heap.size+1+1) 147 (AI (fun _=>0)).toArray
 Z:AK wr z 147 (AI (dg 0)).toArray
 z:w.heap.size+1+1<z
 G:A5 w wr
theorem KJ.grew {w wr w':World} {z x y:Nat} (h:KJ w z x y wr) (k:A5 wr w'):KJ w z x y w':=⟨h.A.grew k,h.B.grew k,h.R.grew k,h.Z.grew k,h.z,h.G.trans k⟩
theorem KJ.setA {w wr w':World} {z x y x':Nat} (h:KJ w z x y wr) (b:AK w' w.heap.size 147 (AI (dg x')).toArray) (k:A4 (fun i=>i=w.heap.size) wr w'):KJ w z x' y w':=by
 have hz:=h.z;exact⟨b,h.B.keep k (by omega),h.R.keep k (by omega),h.Z.keep k (by omega),h.z,Uw h.G k (fun i hi e=>by omega)⟩
theorem KJ.setB {w wr w':World} {z x y y':Nat} (h:KJ w z x y wr) (b:AK w' (w.heap.size+1) 147 (AI (dg y')).toArray) (k:A4 (fun i=>i=w.heap.size+1) wr w'):KJ w z x y' w':=by
 have hz:=h.z;exact⟨h.A.keep k (by omega),b,h.R.keep k (by omega),h.Z.keep k (by omega),h.z,Uw h.G k (fun i hi e=>by omega)⟩
theorem OZ (x:Nat):((dg x 0:Nat):Int).tmod 2=((x%2:Nat):Int):=by
 rw[RV];unfold dg;rw[Nat.pow_zero,Nat.div_one];congr 1;omega
theorem GO {a b:Nat} (ha:a<4294967296^8) (hb:b<4294967296^8) (r:Bool) (hr:decide (a=b)=r) (w:World):(binOp .eql 147 (.agg (AI (dg a)).toArray) (.agg (AI (dg b)).toArray)).run Tryz.prog w= .ok (.bool r) w:=by
 rw[run_eql_struct,Q9 ha hb,hr];rfl
theorem I4 {a b:Nat} (ha:a<4294967296^8) (hb:b<4294967296^8) (r:Bool) (hr:(!decide (a=b))=r) (w:World):(binOp .neq 147 (.agg (AI (dg a)).toArray) (.agg (AI (dg b)).toArray)).run Tryz.prog w= .ok (.bool r) w:=by
 rw[run_neq_struct,Q9 ha hb,←hr];rfl
theorem Ff {P:Program} {w:World} {ops:Array Oper} {rest:List Oper} {o:Oper} {a:Act} {Q:Exit→Act→World→Prop} (T:TypeId) (x y:Operand) (g:Nat) (vs us:List Value) (t:TypeId) (hT:(P.info? T).map (·.size)=some vs.length) (hl:us.length=vs.length) (h1:∀v∈vs,v.oneCell'=true) (hgd:o.guard=none) (ho:o.op= .store T x y)
  (hx:a.eval x= .pointer (some ⟨g,0,none⟩)) (hy:a.eval y= .agg vs.toArray) (hd:o.dst=none) (hb:AK w g t us.toArray)
  (h:∀w',AK w' g t vs.toArray→A4 (fun i=>i=g) w w'→wpList P ops Q rest a w'):wpList P ops Q (o::rest) a w:=by
 refine P6 T x y g vs us t hT hl h1 hgd ho hx hy hb fun w' k1 k2 _=>?_
 have e:a.put o.dst undef=a:=by rw[hd];rfl
 rw[e];exact h w' k1 k2
theorem QI (a b:Nat) (w:World) (ha:a<4294967296^8) (hb:b<4294967296^8):Calls Tryz.prog 162 #[Ar a,Ar b] w fun e w'=>e= .returned (Ar (a.gcd b))∧A5 w w':=by
 obtain⟨hb1,hb2,hb3,hG3⟩:=BO w 147 147 147 (AI (dg a)).toArray (AI (dg b)).toArray (AI (fun _=>0)).toArray;have hz3:((((w.alloc (.cells (AI (dg a)).toArray 147)).alloc (.cells (AI (dg b)).toArray 147)).alloc (.cells (AI (fun _=>0)).toArray 147))).heap.size=w.heap.size+1+1+1:=by rw[World.size_alloc,World.size_alloc,World.size_alloc]
 unfold Ar;have h0:(0:Nat)<4294967296^8:=by decide
 have HF:=UX (fun w'=>Cr 0 w' (by decide));have HA:=UX ha;have HB:=UX hb;clear ha hb;go_enter Tryz.func162,Tryz.ntmps162;go_upto_region 1 with fail;change Code.wp _ _ _ _ (((w.alloc (.cells (AI (dg a)).toArray 147)).alloc (.cells (AI (dg b)).toArray 147)).alloc (.cells (AI (fun _=>0)).toArray 147));generalize ((w.alloc (.cells (AI (dg a)).toArray 147)).alloc (.cells (AI (dg b)).toArray 147)).alloc (.cells (AI (fun _=>0)).toArray 147)=w3 at*;go_upto_region 2 with(first|(go_at_call 139;refine(HF.out _).mono ?_;rintro e w4 ⟨rfl,k4⟩;have hz4:=k4.size;have bZ:=Ux w4 147 (AI (fun _=>0)).toArray;have hA4:=(hb1.grew k4).alloc (.cells (AI (fun _=>0)).toArray 147);have hB4:=(hb2.grew k4).alloc (.cells (AI (fun _=>0)).toArray 147);have hR4:=(hb3.grew k4).alloc (.cells (AI (fun _=>0)).toArray 147);have hG4:=(hG3.trans k4).alloc (.cells (AI (fun _=>0)).toArray 147))|(refine sN (.tmp 5) (.tmp 8) (AI (dg 0)) bZ rN ?_;intro w5 hb5 k5 d5)|fail);have hS:KJ w w4.heap.size a b w5:=⟨hA4.keep k5 (by omega),hB4.keep k5 (by omega),hR4.keep k5 (by omega),hb5,by omega,Uw hG4 k5 (fun i hi e=>by omega)⟩;generalize w4.heap.size=z at*;clear hA4 hB4 hR4 hb5 k5 hG4 hz4 k4 bZ hb1 hb2 hb3 hG3 hz3 d5;have bA:=hS.A;have bB:=hS.B;have bR:=hS.R;have bZ:=hS.Z;have HS:=UX hS;clear hS;by_cases ea:a=0
 ·have hq:=GO HA.out h0 true (by simp[ea]);have HE:Hid (a.gcd b=b):=UX (by rw[ea,Nat.gcd_zero_left]);clear ea;go_wp2_with(first|(refine lN (.tmp 2) bA rN ?_)|(refine lN (.tmp 5) bZ rN ?_)|(refine lN (.tmp 3) bB rN ?_)|(refine sN (.tmp 4) (.tmp 12) (AI (dg b)) bR rN ?_;intro w6 hb6 k6 d6)|fail);refine rO rN hb6 ?_;exact⟨by rw[HE.out],Uw HS.out.G k6 (fun i hi e=>by omega)⟩
 by_cases eb:b=0
 ·have hq:=GO HA.out h0 false (by simp[ea]);have hq2:=GO HB.out h0 true (by simp[eb]);have HE:Hid (a.gcd b=a):=UX (by rw[eb,Nat.gcd_zero_right]);clear ea eb;go_wp2_with(first|(refine lN (.tmp 2) bA rN ?_)|(refine lN (.tmp 5) bZ rN ?_)|(refine lN (.tmp 3) bB rN ?_)|(refine sN (.tmp 4) (.tmp 16) (AI (dg a)) bR rN ?_;intro w6 hb6 k6 d6)|fail);refine rO rN hb6 ?_;exact⟨by rw[HE.out],Uw HS.out.G k6 (fun i hi e=>by omega)⟩
 have hq:=GO HA.out h0 false (by simp[ea]);have hq2:=GO HB.out h0 false (by simp[eb]);have HEA:=UX ea;have HEB:=UX eb;clear ea eb;go_wp2_with(first|(refine lN (.tmp 2) bA rN ?_)|(refine lN (.tmp 5) bZ rN ?_)|(refine lN (.tmp 3) bB rN ?_)|fail);clear hq hq2 bA bB bR bZ;go_loopw [6] (fun t wr=>∃(k x y:Nat),t= .int .i64 (k:Nat)∧k<256∧x*2^k=a∧y*2^k=b∧KJ w z x y wr) (fun t _=>256-(intOf t).toNat)
 case atStart=>exact⟨0,a,b,rfl,by omega,by omega,by omega,HS.out⟩
 case round=>
  obtain⟨k,x,y,rfl,hk,hxa,hyb,hS⟩:=hrel;have hx0:x≠0:=by rintro rfl;rw[Nat.zero_mul]at hxa;exact HEA.out hxa.symm
  have hy0:y≠0:=by rintro rfl;rw[Nat.zero_mul]at hyb;exact HEB.out hyb.symm
  have hxl:x<4294967296^8:=Nat.lt_of_le_of_lt (by rw[←hxa];exact Nat.le_mul_of_pos_right _ (Nat.two_pow_pos k)) HA.out;have hyl:y<4294967296^8:=Nat.lt_of_le_of_lt (by rw[←hyb];exact Nat.le_mul_of_pos_right _ (Nat.two_pow_pos k)) HB.out;have bA:=hS.A;have bB:=hS.B;have c0:=B2 bA (j:=0) (by omega);have c1:=B2 bB (j:=0) (by omega);have p0:=OZ x;have p1:=OZ y;have HXl:=UX hxl;have HYl:=UX hyl;have HX0:=UX hx0;have HY0:=UX hy0;have HXA:=UX hxa;have HYB:=UX hyb;clear hxl hyl hx0 hy0 hxa hyb;by_cases hboth:x%2=0∧y%2=0
  ·have HP:=UX hboth;rw[hboth.1]at p0;rw[hboth.2]at p1;clear hboth;generalize dg x 0=d0 at*;generalize dg y 0=d1 at*;have HS:=UX hS;clear hS;go_upto_region 8 with fail;clear c0 c1 p0 p1 bB;go_upto_region 9 with(first|(refine lN (.tmp 2) bA rN ?_)|(go_at_call 176;refine(Dp x _ HXl.out).mono ?_;rintro e wh ⟨rfl,kh⟩;have hSh:=HS.out.grew kh;have bAh:=hSh.A)|(refine sN (.tmp 2) (.tmp 28) (AI (dg (x/2))) bAh rN ?_;intro w6 hb6 k6 d6)|fail);have hS6:=hSh.setA hb6 k6;clear bA hSh bAh kh hb6 k6 d6;have bB:=hS6.B;go_upto_region 10 with(first|(refine lN (.tmp 3) bB rN ?_)|(go_at_call 176;refine(Dp y _ HYl.out).mono ?_;rintro e wi ⟨rfl,ki⟩;have hSi:=hS6.grew ki;have bBi:=hSi.B)|(refine sN (.tmp 3) (.tmp 30) (AI (dg (y/2))) bBi rN ?_;intro w7 hb7 k7 d7)|fail);have HS7:=UX (hSi.setB hb7 k7);clear bB hSi bBi ki hb7 k7 d7 hS6;have hkb:k+1<256:=by
    have h1:x/2*2^(k+1)=a:=by
     rw[←HXA.out,Nat.pow_succ,Up (2^k),←Ut];congr 1;have:=HP.out.1;omega
    have hx:=HX0.out;have hp:=HP.out.1;have h2:2^(k+1)≤a:=by rw[←h1];exact Nat.le_mul_of_pos_left _ (by omega)
    have h3:2^(k+1)<2^256:=Nat.lt_of_le_of_lt h2 HA.out;exact(Nat.pow_lt_pow_iff_right (by decide)).1 h3
   go_wp2_with fail;go_roundw
   case rel=>
    refine⟨k+1,x/2,y/2,by go_num,hkb,?_,?_,HS7.out⟩
    ·rw[←HXA.out,Nat.pow_succ,Up (2^k),←Ut];congr 1;have:=HP.out.1;omega
    rw[←HYB.out,Nat.pow_succ,Up (2^k),←Ut];congr 1;have:=HP.out.2;omega
   case measure=>simp[intOf];omega
  have HP:Hid (x%2=1∨y%2=1):=UX (by omega);have HSo:=UX hS;have HK:=UX hk;have HGG:Hid (x.gcd y*2^k=a.gcd b):=UX (by rw[←HXA.out,←HYB.out,Nat.gcd_mul_right]);have HOD:=UX (MF HP.out);generalize hgg:x.gcd y=g at*;have HG2:=UX hgg;have HGB:Hid (g≤x):=UX (by rw[←hgg];exact Nat.gcd_le_left _ (Nat.pos_of_ne_zero HX0.out));clear hboth hS hgg;rcases Nat.mod_two_eq_zero_or_one x with e0|e0
  ·have e1:y%2=1:=by have:=HP.out;omega
   rw[e0]at p0;rw[e1]at p1;clear e0 e1 bA bB;generalize dg x 0=d0 at*;generalize dg y 0=d1 at*;go_wp2_with fail;clear c0 c1 p0 p1;go_loopw [33] (fun _ w2=>∃(x' y':Nat),x'≠0∧x'<4294967296^8∧y'<4294967296^8∧x'.gcd y'=g∧KJ w z x' y' w2) (fun _ w2=>Fk w2 w.heap.size+Fk w2 (w.heap.size+1))
   case atStart=>exact⟨x,y,HX0.out,HXl.out,HYl.out,HG2.out,HSo.out⟩
   case round=>
    obtain⟨x',y',hx0',hxl',hyl',hgg',hS'⟩:=hrel;have HX0':=UX hx0';have HXl':=UX hxl';have HYl':=UX hyl';have HGG':=UX hgg';have HS':=UX hS';have bB:=hS'.B;have bZ:=hS'.Z;clear hx0' hxl' hyl' hgg' hS';by_cases hy0:y'=0
    ·have hq:=I4 HYl'.out h0 false (by simp[hy0]);have HXG:Hid (x'=g):=UX (by rw[←HGG'.out,hy0,Nat.gcd_zero_right]);clear hy0;go_wp2_with(first|(refine lN (.tmp 3) bB rN ?_)|(refine lN (.tmp 5) bZ rN ?_)|fail);clear hq bB bZ;have hg5:=HS'.out;rw[HXG.out]at hg5;have HS5:=UX hg5;clear hg5;have HGA:Hid (g*2^k<4294967296^8):=UX (by rw[HGG.out];exact Nat.lt_of_le_of_lt (Nat.gcd_le_left _ (Nat.pos_of_ne_zero HEA.out)) HA.out);go_loopw [7] (fun i w5=>∃(j:Nat),i= .int .i64 (j:Nat)∧j≤k∧KJ w z (g*2^j) y' w5) (fun i _=>k-(intOf i).toNat)
     case atStart=>exact⟨0,rfl,by omega,by rw[Nat.pow_zero,Nat.mul_one];exact HS5.out⟩
     case round=>
      obtain⟨j,rfl,hj,hS6⟩:=hrel;have hkk:=HK.out;have bA:=hS6.A;have bR:=hS6.R;have HS6:=UX hS6;clear hS6;by_cases hlt:j<k
      ·have t0:decide ((j:Int)<(k:Int))=true:=by simp;omega
       have t1:decide (j<k)=true:=by simpa using hlt
       have HL:Hid (g*2^j<4294967296^8):=UX (Nat.lt_of_le_of_lt (Nat.mul_le_mul_left _ (Nat.pow_le_pow_right (by decide) hj)) HGA.out);have HN:Hid (g*2^j+g*2^j=g*2^(j+1)):=UX (by rw[Nat.pow_succ,←Ut];omega);generalize g*2^j=gj at*;go_upto_region 22 with fail;go_upto_region 21 with(first|(refine lN (.tmp 2) bA rN ?_)|(go_at_call 142;refine(Ez gj gj _ HL.out).mono ?_;rintro e wh ⟨rfl,kh⟩;have hSh:=HS6.out.grew kh;have bAh:=hSh.A)|(refine Ff 147 (.tmp 2) (.tmp 64) w.heap.size (AI (dg (gj+gj))) (AI (dg gj)) 147 CG rfl (Ap _) rfl rfl rfl rfl rfl bAh ?_;intro w6 hb6 k6)|fail);have HS7:=UX (hSh.setA hb6 k6);clear bA bR hSh bAh kh hb6 k6;go_wp2_with fail;go_roundw
       case rel=>exact⟨j+1,by go_num,by omega,by rw[←HN.out];exact HS7.out⟩
       case measure=>simp[intOf];omega
      obtain rfl:j=k:=by omega
      have t0:decide ((j:Int)<(j:Int))=false:=by simp
      have t1:decide (j<j)=false:=by simp
      have HN:=HGG.out;generalize g*2^j=gj at*;have HN:=UX HN;clear hlt hj;go_upto_region 23 with fail;go_wp2_with(first|(refine lN (.tmp 2) bA rN ?_)|(refine Ff 147 (.tmp 4) (.tmp 65) (w.heap.size+1+1) (AI (dg gj)) (AI (fun _=>0)) 147 CG rfl (Ap _) rfl rfl rfl rfl rfl bR ?_;intro w6 hb6 k6)|fail);refine rO rN hb6 ?_;exact⟨by rw[HN.out],Uw HS6.out.G k6 (fun i hi e=>by omega)⟩
    have hq:=I4 HYl'.out h0 true (by simp[hy0]);have HY0':=UX hy0;clear hy0;go_wp2_with(first|(refine lN (.tmp 3) bB rN ?_)|(refine lN (.tmp 5) bZ rN ?_)|fail);clear hq bB bZ;go_loopw [36] (fun _ w3=>∃(x3:Nat),x3≠0∧x3≤x'∧x3.gcd y'=g∧KJ w z x3 y' w3) (fun _ w3=>Fk w3 w.heap.size)
    case atStart=>exact⟨x',HX0'.out,Ua _,HGG'.out,HS'.out⟩
    case round=>
     obtain⟨x3,hx3,hxle,hg3,hS3⟩:=hrel;have HXL3:=UX (show x3<4294967296^8 from Nat.lt_of_le_of_lt hxle HXl'.out);have bA:=hS3.A;have c0:=B2 bA (j:=0) (by omega);have p0:=OZ x3;have HS3:=UX hS3;have HH3:=UX (UZ hx3 (UZ hxle hg3));clear hx3 hxle hg3 hS3;rcases Nat.mod_two_eq_zero_or_one x3 with e0|e0
     ·rw[e0]at p0;have HE0:=UX e0;clear e0;generalize dg x3 0=d0 at*;go_upto_region 13 with fail;clear c0 p0;go_wp2_with(first|(refine lN (.tmp 2) bA rN ?_)|(go_at_call 176;refine(Dp x3 _ HXL3.out).mono ?_;rintro e wh ⟨rfl,kh⟩;have hSh:=HS3.out.grew kh;have bAh:=hSh.A)|(refine Ff 147 (.tmp 2) (.tmp 41) w.heap.size (AI (dg (x3/2))) (AI (dg x3)) 147 CG rfl (Ap _) rfl rfl rfl rfl rfl bAh ?_;intro w6 hb6 k6)|fail);have HS6:=UX (hSh.setA hb6 k6);clear bA hSh bAh kh hb6 k6;go_roundw
      case rel=>exact⟨x3/2,by have h1:=HH3.out.1;have h2:=HE0.out;omega,by have h1:=HH3.out.2.1;omega,by rw[Q7z HE0.out (by rw[HH3.out.2.2];exact HOD.out)];exact HH3.out.2.2,HS6.out⟩
      case measure=>
       have h1:=HH3.out.1;have h3:=HXL3.out;rw[B3 HS6.out.A (Nat.lt_of_le_of_lt (Nat.div_le_self _ _) h3),B3 HS3.out.A h3];omega
     rw[e0]at p0;have HE0:=UX e0;clear e0;generalize dg x3 0=d0 at*;go_wp2_with fail;clear c0 p0 bA;go_loopw [42] (fun _ w4=>∃(y3:Nat),y3≠0∧y3≤y'∧x3.gcd y3=g∧KJ w z x3 y3 w4) (fun _ w4=>Fk w4 (w.heap.size+1))
     case atStart=>exact⟨y',HY0'.out,Ua _,HH3.out.2.2,HS3.out⟩
     case round=>
      obtain⟨y3,hy3,hyle,hg4,hS4⟩:=hrel;have HYL3:=UX (show y3<4294967296^8 from Nat.lt_of_le_of_lt hyle HYl'.out);have bA:=hS4.A;have bB:=hS4.B;have c0:=B2 bB (j:=0) (by omega);have p0:=OZ y3;have HS4:=UX hS4;have HH4:=UX (UZ hy3 (UZ hyle hg4));clear hy3 hyle hg4 hS4;rcases Nat.mod_two_eq_zero_or_one y3 with e1|e1
      ·rw[e1]at p0;have HE1:=UX e1;clear e1 bA;generalize dg y3 0=d2 at*;go_upto_region 15 with fail;clear c0 p0;go_wp2_with(first|(refine lN (.tmp 3) bB rN ?_)|(go_at_call 176;refine(Dp y3 _ HYL3.out).mono ?_;rintro e wh ⟨rfl,kh⟩;have hSh:=HS4.out.grew kh;have bBh:=hSh.B)|(refine Ff 147 (.tmp 3) (.tmp 47) (w.heap.size+1) (AI (dg (y3/2))) (AI (dg y3)) 147 CG rfl (Ap _) rfl rfl rfl rfl rfl bBh ?_;intro w6 hb6 k6)|fail);have HS6:=UX (hSh.setB hb6 k6);clear bB hSh bBh kh hb6 k6;go_roundw
       case rel=>exact⟨y3/2,by have h1:=HH4.out.1;have h2:=HE1.out;omega,by have h1:=HH4.out.2.1;omega,by rw[Nat.gcd_comm,Q7z HE1.out (by rw[Nat.gcd_comm,HH4.out.2.2];exact HOD.out),Nat.gcd_comm];exact HH4.out.2.2,HS6.out⟩
       case measure=>
        have h1:=HH4.out.1;have h3:=HYL3.out;rw[B3 HS6.out.B (Nat.lt_of_le_of_lt (Nat.div_le_self _ _) h3),B3 HS4.out.B h3];omega
      rw[e1]at p0;have HE1:=UX e1;clear e1;generalize dg y3 0=d2 at*;go_upto_region 16 with fail;clear c0 p0;by_cases hc:y3<x3
      ·have HC:=UX hc;have tc:decide (CQ x3 y3>0)=true:=by
        unfold CQ;rw[Un (by omega),Uo hc];rfl
       have tc2:decide (0<CQ x3 y3)=true:=tc;clear hc;have HLs:=UX (fun w'=>DH x3 y3 w' HXL3.out HYL3.out);generalize CQ x3 y3=cc at*;go_upto_region 17 with(first|(refine lN (.tmp 2) bA rN ?_)|(refine lN (.tmp 3) bB rN ?_)|(go_at_call 143;refine(HLs.out _).mono ?_;rintro e wh ⟨rfl,kh⟩)|fail);have hSh:=HS4.out.grew kh;have bAh:=hSh.A;have bBh:=hSh.B;clear bA bB kh tc tc2;go_upto_region 18 with(first|(refine lN (.tmp 3) bBh rN ?_)|(refine lN (.tmp 2) bAh rN ?_)|(refine Ff 147 (.tmp 2) (.tmp 52) w.heap.size (AI (dg y3)) (AI (dg x3)) 147 CG rfl (Ap _) rfl rfl rfl rfl rfl bAh ?_;intro w6 hb6 k6;have hS6:=hSh.setA hb6 k6;have bB6:=hS6.B)|(refine Ff 147 (.tmp 3) (.tmp 53) (w.heap.size+1) (AI (dg x3)) (AI (dg y3)) 147 CG rfl (Ap _) rfl rfl rfl rfl rfl bB6 ?_;intro w7 hb7 k7;have hS7:=hS6.setB hb7 k7;have bA7:=hS7.A;have bB7:=hS7.B)|fail);clear bAh bBh hb6 hb7 k6 k7 bB6;go_wp2_with(first|(refine lN (.tmp 3) bB7 rN ?_)|(refine lN (.tmp 2) bA7 rN ?_)|(go_at_call 144;refine(CZ x3 y3 _ (Nat.le_of_lt HC.out) HXL3.out).mono ?_;rintro e wm ⟨rfl,km⟩;have hSm:=hS7.grew km;have bBm:=hSm.B)|(refine Ff 147 (.tmp 3) (.tmp 56) (w.heap.size+1) (AI (dg (x3-y3))) (AI (dg x3)) 147 CG rfl (Ap _) rfl rfl rfl rfl rfl bBm ?_;intro w8 hb8 k8)|fail);have HS8:=UX (hSm.setB hb8 k8);clear hSh hS6 hS7 bA7 bB7 km hSm bBm hb8 k8;go_roundw
       case rel=>exact⟨y3,x3-y3,HH4.out.1,HYL3.out,Nat.lt_of_le_of_lt (Nat.sub_le _ _) HXL3.out,by rw[GR (Nat.le_of_lt HC.out),Nat.gcd_comm];exact HH4.out.2.2,HS8.out⟩
       case measure=>
        have h1:=HYL3.out;have h2:=HXL3.out;have h3:=HC.out;have h4:=HY0'.out;have h5:=HH3.out.2.1;rw[B3 HS8.out.A h1,B3 HS8.out.B (Nat.lt_of_le_of_lt (Nat.sub_le _ _) h2),B3 HS'.out.A HXl'.out,B3 HS'.out.B HYl'.out];omega
      have HC:Hid (x3≤y3):=UX (by omega);have tc:decide (CQ x3 y3>0)=false:=by
       unfold CQ;rw[decide_eq_false_iff_not,Un hc];split<;>decide
      have tc2:decide (0<CQ x3 y3)=false:=tc;clear hc;have HLs:=UX (fun w'=>DH x3 y3 w' HXL3.out HYL3.out);generalize CQ x3 y3=cc at*;go_upto_region 18 with(first|(refine lN (.tmp 2) bA rN ?_)|(refine lN (.tmp 3) bB rN ?_)|(go_at_call 143;refine(HLs.out _).mono ?_;rintro e wh ⟨rfl,kh⟩)|fail);have hSh:=HS4.out.grew kh;have bAh:=hSh.A;have bBh:=hSh.B;clear bA bB kh tc tc2;go_wp2_with(first|(refine lN (.tmp 3) bBh rN ?_)|(refine lN (.tmp 2) bAh rN ?_)|(go_at_call 144;refine(CZ y3 x3 _ HC.out HYL3.out).mono ?_;rintro e wm ⟨rfl,km⟩;have hSm:=hSh.grew km;have bBm:=hSm.B)|(refine Ff 147 (.tmp 3) (.tmp 56) (w.heap.size+1) (AI (dg (y3-x3))) (AI (dg y3)) 147 CG rfl (Ap _) rfl rfl rfl rfl rfl bBm ?_;intro w8 hb8 k8)|fail);have HS8:=UX (hSm.setB hb8 k8);clear hSh bAh bBh km hSm bBm hb8 k8;go_roundw
      case rel=>exact⟨x3,y3-x3,HH3.out.1,HXL3.out,Nat.lt_of_le_of_lt (Nat.sub_le _ _) HYL3.out,by rw[GR HC.out];exact HH4.out.2.2,HS8.out⟩
      case measure=>
       have h1:=HYL3.out;have h2:=HXL3.out;have h3:=HC.out;have h4:=HX0'.out;have h5:=HH4.out.2.1;have h6:=HH3.out.1;have h7:=HH3.out.2.1;rw[B3 HS8.out.A h2,B3 HS8.out.B (Nat.lt_of_le_of_lt (Nat.sub_le _ _) h1),B3 HS'.out.A HXl'.out,B3 HS'.out.B HYl'.out];omega
  rw[e0]at p0;clear e0 bA bB p1 c1;generalize dg x 0=d0 at*;go_wp2_with fail;clear c0 p0;go_loopw [33] (fun _ w2=>∃(x' y':Nat),x'≠0∧x'<4294967296^8∧y'<4294967296^8∧x'.gcd y'=g∧KJ w z x' y' w2) (fun _ w2=>Fk w2 w.heap.size+Fk w2 (w.heap.size+1))
  case atStart=>exact⟨x,y,HX0.out,HXl.out,HYl.out,HG2.out,HSo.out⟩
  case round=>
   obtain⟨x',y',hx0',hxl',hyl',hgg',hS'⟩:=hrel;have HX0':=UX hx0';have HXl':=UX hxl';have HYl':=UX hyl';have HGG':=UX hgg';have HS':=UX hS';have bB:=hS'.B;have bZ:=hS'.Z;clear hx0' hxl' hyl' hgg' hS';by_cases hy0:y'=0
   ·have hq:=I4 HYl'.out h0 false (by simp[hy0]);have HXG:Hid (x'=g):=UX (by rw[←HGG'.out,hy0,Nat.gcd_zero_right]);clear hy0;go_wp2_with(first|(refine lN (.tmp 3) bB rN ?_)|(refine lN (.tmp 5) bZ rN ?_)|fail);clear hq bB bZ;have hg5:=HS'.out;rw[HXG.out]at hg5;have HS5:=UX hg5;clear hg5;have HGA:Hid (g*2^k<4294967296^8):=UX (by rw[HGG.out];exact Nat.lt_of_le_of_lt (Nat.gcd_le_left _ (Nat.pos_of_ne_zero HEA.out)) HA.out);go_loopw [7] (fun i w5=>∃(j:Nat),i= .int .i64 (j:Nat)∧j≤k∧KJ w z (g*2^j) y' w5) (fun i _=>k-(intOf i).toNat)
    case atStart=>exact⟨0,rfl,by omega,by rw[Nat.pow_zero,Nat.mul_one];exact HS5.out⟩
    case round=>
     obtain⟨j,rfl,hj,hS6⟩:=hrel;have hkk:=HK.out;have bA:=hS6.A;have bR:=hS6.R;have HS6:=UX hS6;clear hS6;by_cases hlt:j<k
     ·have t0:decide ((j:Int)<(k:Int))=true:=by simp;omega
      have t1:decide (j<k)=true:=by simpa using hlt
      have HL:Hid (g*2^j<4294967296^8):=UX (Nat.lt_of_le_of_lt (Nat.mul_le_mul_left _ (Nat.pow_le_pow_right (by decide) hj)) HGA.out);have HN:Hid (g*2^j+g*2^j=g*2^(j+1)):=UX (by rw[Nat.pow_succ,←Ut];omega);generalize g*2^j=gj at*;go_upto_region 22 with fail;go_upto_region 21 with(first|(refine lN (.tmp 2) bA rN ?_)|(go_at_call 142;refine(Ez gj gj _ HL.out).mono ?_;rintro e wh ⟨rfl,kh⟩;have hSh:=HS6.out.grew kh;have bAh:=hSh.A)|(refine Ff 147 (.tmp 2) (.tmp 64) w.heap.size (AI (dg (gj+gj))) (AI (dg gj)) 147 CG rfl (Ap _) rfl rfl rfl rfl rfl bAh ?_;intro w6 hb6 k6)|fail);have HS7:=UX (hSh.setA hb6 k6);clear bA bR hSh bAh kh hb6 k6;go_wp2_with fail;go_roundw
      case rel=>exact⟨j+1,by go_num,by omega,by rw[←HN.out];exact HS7.out⟩
      case measure=>simp[intOf];omega
     obtain rfl:j=k:=by omega
     have t0:decide ((j:Int)<(j:Int))=false:=by simp
     have t1:decide (j<j)=false:=by simp
     have HN:=HGG.out;generalize g*2^j=gj at*;have HN:=UX HN;clear hlt hj;go_upto_region 23 with fail;go_wp2_with(first|(refine lN (.tmp 2) bA rN ?_)|(refine Ff 147 (.tmp 4) (.tmp 65) (w.heap.size+1+1) (AI (dg gj)) (AI (fun _=>0)) 147 CG rfl (Ap _) rfl rfl rfl rfl rfl bR ?_;intro w6 hb6 k6)|fail);refine rO rN hb6 ?_;exact⟨by rw[HN.out],Uw HS6.out.G k6 (fun i hi e=>by omega)⟩
   have hq:=I4 HYl'.out h0 true (by simp[hy0]);have HY0':=UX hy0;clear hy0;go_wp2_with(first|(refine lN (.tmp 3) bB rN ?_)|(refine lN (.tmp 5) bZ rN ?_)|fail);clear hq bB bZ;go_loopw [36] (fun _ w3=>∃(x3:Nat),x3≠0∧x3≤x'∧x3.gcd y'=g∧KJ w z x3 y' w3) (fun _ w3=>Fk w3 w.heap.size)
   case atStart=>exact⟨x',HX0'.out,Ua _,HGG'.out,HS'.out⟩
   case round=>
    obtain⟨x3,hx3,hxle,hg3,hS3⟩:=hrel;have HXL3:=UX (show x3<4294967296^8 from Nat.lt_of_le_of_lt hxle HXl'.out);have bA:=hS3.A;have c0:=B2 bA (j:=0) (by omega);have p0:=OZ x3;have HS3:=UX hS3;have HH3:=UX (UZ hx3 (UZ hxle hg3));clear hx3 hxle hg3 hS3;rcases Nat.mod_two_eq_zero_or_one x3 with e0|e0
    ·rw[e0]at p0;have HE0:=UX e0;clear e0;generalize dg x3 0=d0 at*;go_upto_region 13 with fail;clear c0 p0;go_wp2_with(first|(refine lN (.tmp 2) bA rN ?_)|(go_at_call 176;refine(Dp x3 _ HXL3.out).mono ?_;rintro e wh ⟨rfl,kh⟩;have hSh:=HS3.out.grew kh;have bAh:=hSh.A)|(refine Ff 147 (.tmp 2) (.tmp 41) w.heap.size (AI (dg (x3/2))) (AI (dg x3)) 147 CG rfl (Ap _) rfl rfl rfl rfl rfl bAh ?_;intro w6 hb6 k6)|fail);have HS6:=UX (hSh.setA hb6 k6);clear bA hSh bAh kh hb6 k6;go_roundw
     case rel=>exact⟨x3/2,by have h1:=HH3.out.1;have h2:=HE0.out;omega,by have h1:=HH3.out.2.1;omega,by rw[Q7z HE0.out (by rw[HH3.out.2.2];exact HOD.out)];exact HH3.out.2.2,HS6.out⟩
     case measure=>
      have h1:=HH3.out.1;have h3:=HXL3.out;rw[B3 HS6.out.A (Nat.lt_of_le_of_lt (Nat.div_le_self _ _) h3),B3 HS3.out.A h3];omega
    rw[e0]at p0;have HE0:=UX e0;clear e0;generalize dg x3 0=d0 at*;go_wp2_with fail;clear c0 p0 bA;go_loopw [42] (fun _ w4=>∃(y3:Nat),y3≠0∧y3≤y'∧x3.gcd y3=g∧KJ w z x3 y3 w4) (fun _ w4=>Fk w4 (w.heap.size+1))
    case atStart=>exact⟨y',HY0'.out,Ua _,HH3.out.2.2,HS3.out⟩
    case round=>
     obtain⟨y3,hy3,hyle,hg4,hS4⟩:=hrel;have HYL3:=UX (show y3<4294967296^8 from Nat.lt_of_le_of_lt hyle HYl'.out);have bA:=hS4.A;have bB:=hS4.B;have c0:=B2 bB (j:=0) (by omega);have p0:=OZ y3;have HS4:=UX hS4;have HH4:=UX (UZ hy3 (UZ hyle hg4));clear hy3 hyle hg4 hS4;rcases Nat.mod_two_eq_zero_or_one y3 with e1|e1
     ·rw[e1]at p0;have HE1:=UX e1;clear e1 bA;generalize dg y3 0=d2 at*;go_upto_region 15 with fail;clear c0 p0;go_wp2_with(first|(refine lN (.tmp 3) bB rN ?_)|(go_at_call 176;refine(Dp y3 _ HYL3.out).mono ?_;rintro e wh ⟨rfl,kh⟩;have hSh:=HS4.out.grew kh;have bBh:=hSh.B)|(refine Ff 147 (.tmp 3) (.tmp 47) (w.heap.size+1) (AI (dg (y3/2))) (AI (dg y3)) 147 CG rfl (Ap _) rfl rfl rfl rfl rfl bBh ?_;intro w6 hb6 k6)|fail);have HS6:=UX (hSh.setB hb6 k6);clear bB hSh bBh kh hb6 k6;go_roundw
      case rel=>exact⟨y3/2,by have h1:=HH4.out.1;have h2:=HE1.out;omega,by have h1:=HH4.out.2.1;omega,by rw[Nat.gcd_comm,Q7z HE1.out (by rw[Nat.gcd_comm,HH4.out.2.2];exact HOD.out),Nat.gcd_comm];exact HH4.out.2.2,HS6.out⟩
      case measure=>
       have h1:=HH4.out.1;have h3:=HYL3.out;rw[B3 HS6.out.B (Nat.lt_of_le_of_lt (Nat.div_le_self _ _) h3),B3 HS4.out.B h3];omega
     rw[e1]at p0;have HE1:=UX e1;clear e1;generalize dg y3 0=d2 at*;go_upto_region 16 with fail;clear c0 p0;by_cases hc:y3<x3
     ·have HC:=UX hc;have tc:decide (CQ x3 y3>0)=true:=by
       unfold CQ;rw[Un (by omega),Uo hc];rfl
      have tc2:decide (0<CQ x3 y3)=true:=tc;clear hc;have HLs:=UX (fun w'=>DH x3 y3 w' HXL3.out HYL3.out);generalize CQ x3 y3=cc at*;go_upto_region 17 with(first|(refine lN (.tmp 2) bA rN ?_)|(refine lN (.tmp 3) bB rN ?_)|(go_at_call 143;refine(HLs.out _).mono ?_;rintro e wh ⟨rfl,kh⟩)|fail);have hSh:=HS4.out.grew kh;have bAh:=hSh.A;have bBh:=hSh.B;clear bA bB kh tc tc2;go_upto_region 18 with(first|(refine lN (.tmp 3) bBh rN ?_)|(refine lN (.tmp 2) bAh rN ?_)|(refine Ff 147 (.tmp 2) (.tmp 52) w.heap.size (AI (dg y3)) (AI (dg x3)) 147 CG rfl (Ap _) rfl rfl rfl rfl rfl bAh ?_;intro w6 hb6 k6;have hS6:=hSh.setA hb6 k6;have bB6:=hS6.B)|(refine Ff 147 (.tmp 3) (.tmp 53) (w.heap.size+1) (AI (dg x3)) (AI (dg y3)) 147 CG rfl (Ap _) rfl rfl rfl rfl rfl bB6 ?_;intro w7 hb7 k7;have hS7:=hS6.setB hb7 k7;have bA7:=hS7.A;have bB7:=hS7.B)|fail);clear bAh bBh hb6 hb7 k6 k7 bB6;go_wp2_with(first|(refine lN (.tmp 3) bB7 rN ?_)|(refine lN (.tmp 2) bA7 rN ?_)|(go_at_call 144;refine(CZ x3 y3 _ (Nat.le_of_lt HC.out) HXL3.out).mono ?_;rintro e wm ⟨rfl,km⟩;have hSm:=hS7.grew km;have bBm:=hSm.B)|(refine Ff 147 (.tmp 3) (.tmp 56) (w.heap.size+1) (AI (dg (x3-y3))) (AI (dg x3)) 147 CG rfl (Ap _) rfl rfl rfl rfl rfl bBm ?_;intro w8 hb8 k8)|fail);have HS8:=UX (hSm.setB hb8 k8);clear hSh hS6 hS7 bA7 bB7 km hSm bBm hb8 k8;go_roundw
      case rel=>exact⟨y3,x3-y3,HH4.out.1,HYL3.out,Nat.lt_of_le_of_lt (Nat.sub_le _ _) HXL3.out,by rw[GR (Nat.le_of_lt HC.out),Nat.gcd_comm];exact HH4.out.2.2,HS8.out⟩
      case measure=>
       have h1:=HYL3.out;have h2:=HXL3.out;have h3:=HC.out;have h4:=HY0'.out;have h5:=HH3.out.2.1;rw[B3 HS8.out.A h1,B3 HS8.out.B (Nat.lt_of_le_of_lt (Nat.sub_le _ _) h2),B3 HS'.out.A HXl'.out,B3 HS'.out.B HYl'.out];omega
     have HC:Hid (x3≤y3):=UX (by omega);have tc:decide (CQ x3 y3>0)=false:=by
      unfold CQ;rw[decide_eq_false_iff_not,Un hc];split<;>decide
     have tc2:decide (0<CQ x3 y3)=false:=tc;clear hc;have HLs:=UX (fun w'=>DH x3 y3 w' HXL3.out HYL3.out);generalize CQ x3 y3=cc at*;go_upto_region 18 with(first|(refine lN (.tmp 2) bA rN ?_)|(refine lN (.tmp 3) bB rN ?_)|(go_at_call 143;refine(HLs.out _).mono ?_;rintro e wh ⟨rfl,kh⟩)|fail);have hSh:=HS4.out.grew kh;have bAh:=hSh.A;have bBh:=hSh.B;clear bA bB kh tc tc2;go_wp2_with(first|(refine lN (.tmp 3) bBh rN ?_)|(refine lN (.tmp 2) bAh rN ?_)|(go_at_call 144;refine(CZ y3 x3 _ HC.out HYL3.out).mono ?_;rintro e wm ⟨rfl,km⟩;have hSm:=hSh.grew km;have bBm:=hSm.B)|(refine Ff 147 (.tmp 3) (.tmp 56) (w.heap.size+1) (AI (dg (y3-x3))) (AI (dg y3)) 147 CG rfl (Ap _) rfl rfl rfl rfl rfl bBm ?_;intro w8 hb8 k8)|fail);have HS8:=UX (hSm.setB hb8 k8);clear hSh bAh bBh km hSm bBm hb8 k8;go_roundw
     case rel=>exact⟨x3,y3-x3,HH3.out.1,HXL3.out,Nat.lt_of_le_of_lt (Nat.sub_le _ _) HYL3.out,by rw[GR HC.out];exact HH4.out.2.2,HS8.out⟩
     case measure=>
      have h1:=HYL3.out;have h2:=HXL3.out;have h3:=HC.out;have h4:=HX0'.out;have h5:=HH4.out.2.1;have h6:=HH3.out.1;have h7:=HH3.out.2.1;rw[B3 HS8.out.A h2,B3 HS8.out.B (Nat.lt_of_le_of_lt (Nat.sub_le _ _) h1),B3 HS'.out.A HXl'.out,B3 HS'.out.B HYl'.out];omega
end Go.Proofs.YtkclnhpofkaclaaGreatDoor
