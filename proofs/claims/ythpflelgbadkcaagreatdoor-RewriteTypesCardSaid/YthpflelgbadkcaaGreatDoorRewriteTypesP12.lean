/- frac.sum. -/
import Derived.Test.YthpflelgbadkcaaGreatDoorRewriteTypesP01
import Derived.Test.YthpflelgbadkcaaGreatDoorRewriteTypesP02
import Derived.Test.YthpflelgbadkcaaGreatDoorRewriteTypesP11
set_option maxRecDepth 100000
set_option maxHeartbeats 12800000
set_option linter.unusedVariables false
set_option linter.unusedSimpArgs false
namespace Go.Proofs.YthpflelgbadkcaaGreatDoor
open Go.RowKit Pl
theorem Se {P:Program} {ops:Array Oper} {rest:List Oper} {o:Oper} {a:Act} {w:World} {Q:Exit→Act→World→Prop} (T:TypeId) (x:Operand) (ho:o.op= .load T x) (hw:Region.wanted o (yielded ops a.tmps)=true) {d:TypeDesc} (hu:P.underlying T=some d) (hd:d.isRow=true) (g:Nat) (vs:List Value) (t:TypeId) (hT:(P.info? T).map (·.size)=some vs.length)
  (hx:a.eval x= .pointer (some ⟨g,0,none⟩)) (hb:AR w g t vs.toArray)
  (h:wpList P ops Q rest (a.put o.dst (.agg vs.toArray)) w):wpList P ops Q (o::rest) a w:=QF hw T hu hd x g vs t hT ho hx hb h
def BG (h l:Nat) (n:Bool):List Value:=[.int .u64 (h:Int),.int .u64 (l:Int),.bool n]
theorem TF (h l:Nat) (n:Bool):∀v∈BG h l n,v.oneCell'=true:=by
 intro v hv;simp[BG]at hv;rcases hv with rfl|rfl|rfl<;>rfl
theorem Bu {z:Int} {h l:Nat} {n:Bool} (h1:z.natAbs=h*18446744073709551616+l) (h2:l<18446744073709551616) (h3:decide (z<0)=n):B5 z=BG h l n:=by
 unfold B5 BG;rw[h1,h3,Nat.add_comm,Nat.add_mul_div_right _ _ (by decide),Nat.div_eq_of_lt h2,Nat.add_mul_mod_self_right,Nat.mod_eq_of_lt h2,Nat.zero_add]
theorem Gj (z:Int) (r:Bool) (hr:decide (z=0)=r) (w:World):(binOp .eql 169 (.agg (B5 z).toArray) (.agg #[.int .u64 0,.int .u64 0,.bool false])).run Tryz.prog w= .ok (.bool r) w:=by
 have h1:∀w,(part 123 (B5 z).toArray 0).run Tryz.prog w= .ok (.int .u64 ((z.natAbs/18446744073709551616:Nat):Int)) w:=fun w=>by simp[go_sem,part,Tryz.underlying123,B5]
 have h2:∀w,(part 123 (B5 z).toArray 1).run Tryz.prog w= .ok (.int .u64 ((z.natAbs%18446744073709551616:Nat):Int)) w:=fun w=>by simp[go_sem,part,Tryz.underlying123,B5]
 have h3:∀w,(part 4 (B5 z).toArray 2).run Tryz.prog w= .ok (.bool (decide (z<0))) w:=fun w=>by simp[go_sem,part,Tryz.underlying4,B5]
 have h4:∀w,(part 123 #[.int .u64 0,.int .u64 0,.bool false] 0).run Tryz.prog w= .ok (.int .u64 0) w:=fun w=>by simp[go_sem,part,Tryz.underlying123]
 have h5:∀w,(part 123 #[.int .u64 0,.int .u64 0,.bool false] 1).run Tryz.prog w= .ok (.int .u64 0) w:=fun w=>by simp[go_sem,part,Tryz.underlying123]
 have h6:∀w,(part 4 #[.int .u64 0,.int .u64 0,.bool false] 2).run Tryz.prog w= .ok (.bool false) w:=fun w=>by simp[go_sem,part,Tryz.underlying4]
 have e1:∀w (a b:Int),(Op.equalIn 9999 123 (.int .u64 a) (.int .u64 b)).run Tryz.prog w= .ok (a==b) w:=fun w a b=>run_equalIn_int w 9998 123 _ _ _ _ Tryz.underlying123
 have e2:∀w (a b:Bool),(Op.equalIn 9999 4 (.bool a) (.bool b)).run Tryz.prog w= .ok (a==b) w:=fun w a b=>run_equalIn_bool' w 9998 4 _ _ Tryz.underlying4
 have hf:(Tryz.prog.fieldsOf 169).toList.map (fun f=>(f.name,f.type,f.offset))=[("hi",123,0),("lo",123,1),("neg",4,2)]:=by kernel_rfl
 rw[run_eql_struct,run_equalIn_struct w 9999 169 _ _ (by kernel_rfl) (by kernel_rfl)];generalize (Tryz.prog.fieldsOf 169).toList=fs at hf ⊢;rcases fs with _|⟨f1,_|⟨f2,_|⟨f3,_|⟨f4,fs⟩⟩⟩⟩
 ·exact absurd (congrArg List.length hf) (by simp)
 ·exact absurd (congrArg List.length hf) (by simp)
 ·exact absurd (congrArg List.length hf) (by simp)
 ·simp only[List.map_cons,List.map_nil,List.cons.injEq,VP,and_true]at hf;obtain⟨⟨m1,t1,o1⟩,⟨m2,t2,o2⟩,m3,t3,o3⟩:=hf;have n1:f1.name≠ "_":=by rw[m1];decide
  have n2:f2.name≠ "_":=by rw[m2];decide
  have n3:f3.name≠ "_":=by rw[m3];decide
  have key:(Op.eqFields 9999 (B5 z).toArray #[.int .u64 0,.int .u64 0,.bool false] [f1,f2,f3]).run Tryz.prog w= .ok (decide (z=0)) w:=by
   simp only[Op.eqFields,t1,t2,t3,o1,o2,o3,VN n1,VN n2,VN n3,Sem.run_bind,h1,h2,h3,h4,h5,h6,e1,e2,Result.andThen_ok,Sem.run_ite,Sem.run_pure];by_cases hz:z=0
   ·subst hz;simp
   by_cases x1:z.natAbs/18446744073709551616=0
   ·have x2:¬z.natAbs%18446744073709551616=0:=by omega
    have y1:(((z.natAbs/18446744073709551616:Nat):Int)==0)=true:=by rw[VC];omega
    have y2:(((z.natAbs%18446744073709551616:Nat):Int)==0)=false:=by rw[V4];omega
    simp[y1,y2,hz];intros;omega
   have y1:(((z.natAbs/18446744073709551616:Nat):Int)==0)=false:=by rw[V4];omega
   simp[y1,hz];intros;omega
  rw[key,hr];rfl
 exact absurd (congrArg List.length hf) (by simp)
theorem FD {a b:Int} (ha: -4611686018427387904≤a∧a≤4611686018427387904) (hb: -4611686018427387904≤b∧b≤4611686018427387904):(a*b).natAbs≤21267647932558653966460912964485513216:=by
 rw[Int.natAbs_mul];exact Nat.mul_le_mul (show a.natAbs≤4611686018427387904 by omega) (show b.natAbs≤4611686018427387904 by omega)
theorem Pz (a b c d:Int) (w:World) (ha: -4611686018427387904≤a∧a≤4611686018427387904) (hb: -4611686018427387904≤b∧b≤4611686018427387904) (hc: -4611686018427387904≤c∧c≤4611686018427387904) (hd: -4611686018427387904≤d∧d≤4611686018427387904):
  Calls Tryz.prog 114 #[.int .i64 a,.int .i64 b,.int .i64 c,.int .i64 d] w fun e w'=>e= .returned (.agg (B5 (a*b+c*d)).toArray)∧A4 w w':=by
 have hbx:=VW w 169 [.int .u64 0,.int .u64 0,.bool false].toArray;have hG1:=(VU w).alloc (.cells [.int .u64 0,.int .u64 0,.bool false].toArray 169);have hz1:(w.alloc (.cells [.int .u64 0,.int .u64 0,.bool false].toArray 169)).heap.size=w.heap.size+1:=by rw[World.size_alloc]
 have HP1:=V3 (fun w'=>EJ a b w' (by omega) (by omega) (by omega) (by omega));have HP2:=V3 (fun w'=>EJ c d w' (by omega) (by omega) (by omega) (by omega));have hu:=FD ha hb;have hv:=FD hc hd;obtain⟨u,hue⟩:∃u,a*b=u:=⟨_,rfl⟩;obtain⟨v,hve⟩:∃v,c*d=v:=⟨_,rfl⟩;rw[hue]at hu HP1;rw[hve]at hv HP2;rw[hue,hve];clear ha hb hc hd hue hve;go_enter Tryz.func114,Tryz.ntmps114;go_upto_region 1 with fail;change Code.wp _ _ _ _ (w.alloc (.cells [.int .u64 0,.int .u64 0,.bool false].toArray 169));generalize w.alloc (.cells [.int .u64 0,.int .u64 0,.bool false].toArray 169)=w1 at*;go_upto_region 2 with(first|(go_at_call 120;(with_reducible refine(HP1.out _).mono ?_);rintro e wa ⟨rfl,ka⟩;have r1:=hbx.grew ka;have G1:=hG1.trans ka)|(go_at_call 120;(with_reducible refine(HP2.out _).mono ?_);rintro e wb ⟨rfl,kb⟩;have zb:=kb.size;have za:=ka.size;obtain⟨y1,y2,y3⟩:=CI wb 169 169 [.int .u64 0,.int .u64 0,.bool false].toArray [.int .u64 0,.int .u64 0,.bool false].toArray;have r2:=(r1.grew kb).grew y3;have G2:=(G1.trans kb).trans y3)|(refine sN (.tmp 9) (.tmp 21) (B5 u) y1 rW ?_;intro wc b9 kc _;have y2b:=y2.keep kc (by omega);have r3:=r2.keep kc (by omega);have G3:=VV G2 kc (fun i hi e=>by omega))|(refine sN (.tmp 10) (.tmp 24) (B5 v) y2b rW ?_;intro wd b10 kd _)|fail);have r4:=r3.keep kd (by omega);have b9:=b9.keep kd (by omega);have hG:=VV G3 kd (fun i hi e=>by omega);have hzz:w.heap.size<wb.heap.size:=by omega
 generalize wb.heap.size=g at*;clear hbx hG1 hz1 HP1 HP2 ka r1 G1 kb zb za y1 y2 y3 r2 G2 kc y2b r3 G3 kd;have c1:wd.cell? ⟨g,0,none⟩=some (.int .u64 ((u.natAbs/18446744073709551616:Nat):Int)):=b9.cell 0;have c2:wd.cell? ⟨g,1,none⟩=some (.int .u64 ((u.natAbs%18446744073709551616:Nat):Int)):=b9.cell 1;have c3:wd.cell? ⟨g,2,none⟩=some (.bool (decide (u<0))):=b9.cell 2;have c4:wd.cell? ⟨g+1,0,none⟩=some (.int .u64 ((v.natAbs/18446744073709551616:Nat):Int)):=b10.cell 0;have c5:wd.cell? ⟨g+1,1,none⟩=some (.int .u64 ((v.natAbs%18446744073709551616:Nat):Int)):=b10.cell 1;have c6:wd.cell? ⟨g+1,2,none⟩=some (.bool (decide (v<0))):=b10.cell 2;have hmu:=Nat.mod_lt u.natAbs (show 0<18446744073709551616 by decide);have hmv:=Nat.mod_lt v.natAbs (show 0<18446744073709551616 by decide);have hdu:=Nat.div_add_mod u.natAbs 18446744073709551616;have hdv:=Nat.div_add_mod v.natAbs 18446744073709551616;have hul:u.natAbs/18446744073709551616<2305843009213693952:=by omega
 have hvl:v.natAbs/18446744073709551616<2305843009213693952:=by omega
 generalize u.natAbs/18446744073709551616=hi1 at*;generalize u.natAbs%18446744073709551616=lo1 at*;generalize v.natAbs/18446744073709551616=hi2 at*;generalize v.natAbs%18446744073709551616=lo2 at*;have hqu:=fun(r:Bool) hr=>Gj u r hr
 have hqv:=fun(r:Bool) hr=>Gj v r hr
 obtain⟨su,hsu⟩:∃s:Bool,decide (u<0)=s:=⟨_,rfl⟩;obtain⟨sv,hsv⟩:∃s:Bool,decide (v<0)=s:=⟨_,rfl⟩;rw[hsu]at c3;rw[hsv]at c6;have hadd1:∀w,(callFunc 133 #[.int .u64 (lo1:Int),.int .u64 (lo2:Int),.int .u64 0]).run Tryz.prog w= .ok (.value (.tuple #[.int .u64 (((lo1+lo2)%18446744073709551616:Nat):Int),.int .u64 (((lo1+lo2)/18446744073709551616:Nat):Int)])) w:=fun w=>KY lo1 lo2 0 (by decide) w
 obtain⟨L,hL⟩:∃x,(lo1+lo2)%18446744073709551616=x:=⟨_,rfl⟩;obtain⟨K,hK⟩:∃x,(lo1+lo2)/18446744073709551616=x:=⟨_,rfl⟩;have hadd2:=fun w=>KY hi1 hi2 K (by omega) w
 rw[hL,hK]at hadd1;obtain⟨M,hM⟩:∃x,(hi1+hi2+K)%18446744073709551616=x:=⟨_,rfl⟩;obtain⟨K2,hK2⟩:∃x,(hi1+hi2+K)/18446744073709551616=x:=⟨_,rfl⟩;rw[hM,hK2]at hadd2;have HAD:=V3 (V5 hL (V5 hK (V5 hM hK2)));clear hL hK hM hK2;cases su
 ·have hun:=of_decide_eq_false hsu;cases sv
  ·have hvn:=of_decide_eq_false hsv;have HW:Hid (B5 (u+v)=BG M L false):=V3 (Bu (by have:=HAD.out;omega) (by have:=HAD.out;omega) (by simp;omega));clear hqu hqv hsu hsv hmu hmv hdu hdv hul hvl hu hv;go_upto_region 3 with fail;go_upto_region 5 with fail;go_wp2_with(first|(refine sN (.tmp 8) (.tmp 65) (BG M L false) r4 rW ?_;intro we b11 ke _)|fail);refine rO rW b11 ?_;rw[HW.out];exact⟨rfl,VV hG ke (fun i hi e=>by omega)⟩
  have hvn:=VH hsv;have hq1:=hqv false (by simp;omega);by_cases h0:u=0
  ·have hq0:=hqu true (by simpa using h0);have HW:Hid (B5 (u+v)=BG M L true):=V3 (Bu (by have:=HAD.out;omega) (by have:=HAD.out;omega) (by simp;omega));clear hqu hqv h0 hsu hsv hmu hmv hdu hdv hul hvl hu hv;go_upto_region 3 with(first|((with_reducible refine AF 169 (.tmp 9) rfl ?_);refine Se 169 (.tmp 9) rfl rfl Tryz.underlying169 rfl g (B5 u) 169 EI rfl b9 ?_)|((with_reducible refine AF 169 (.tmp 10) rfl ?_);refine Se 169 (.tmp 10) rfl rfl Tryz.underlying169 rfl (g+1) (B5 v) 169 EI rfl b10 ?_));go_upto_region 5 with fail;go_wp2_with(first|(refine sN (.tmp 8) (.tmp 65) (BG M L true) r4 rW ?_;intro we b11 ke _)|fail);refine rO rW b11 ?_;rw[HW.out];exact⟨rfl,VV hG ke (fun i hi e=>by omega)⟩
  have hq0:=hqu false (by simpa using h0);clear hqu hqv hadd1 hadd2 HAD;have HA0:=V3 (V5 hun (V5 hvn (V5 hmu (V5 hmv (V5 hdu (V5 hdv (V5 hul (V5 hvl (V5 hsu hsv)))))))));clear hun hvn h0 hsu hsv hmu hmv hdu hdv hul hvl hu hv;go_upto_region 6 with(first|((with_reducible refine AF 169 (.tmp 9) rfl ?_);refine Se 169 (.tmp 9) rfl rfl Tryz.underlying169 rfl g (B5 u) 169 EI rfl b9 ?_)|((with_reducible refine AF 169 (.tmp 10) rfl ?_);refine Se 169 (.tmp 10) rfl rfl Tryz.underlying169 rfl (g+1) (B5 v) 169 EI rfl b10 ?_));clear hq0 hq1;obtain⟨hun,hvn,hmu,hmv,hdu,hdv,hul,hvl,hsu,hsv⟩:=HA0.out;have HW1:Hid (B5 u=BG hi1 lo1 false):=V3 (Bu (by omega) hmu hsu);have HW2:Hid (B5 v=BG hi2 lo2 true):=V3 (Bu (by omega) hmv hsv);by_cases g1:hi1<hi2
  ·have t3:decide (hi1<hi2)=true:=by simpa using g1
   have hgt:u.natAbs<v.natAbs:=by omega
   have HAR:=V3 (V5 hun (V5 hvn (V5 hmu (V5 hmv (V5 hdu (V5 hdv (V5 hul (V5 hvl hgt))))))));clear hun hvn hsu hsv hmu hmv hdu hdv hul hvl hgt g1;go_upto_region 7 with fail;clear c1 c2 c3 c4 c5 c6;go_upto_region 8 with(first|(refine lN (.tmp 10) b10 rW ?_)|(refine lN (.tmp 9) b9 rW ?_)|(refine sN (.tmp 9) (.tmp 85) (B5 v) b9 rW ?_;intro wf b9f kf _;have b10f:=b10.keep kf (by omega))|(refine sN (.tmp 10) (.tmp 86) (B5 u) b10f rW ?_;intro wg b10g kg _)|fail);have b9g:=b9f.keep kg (by omega);have r5:=(r4.keep kf (by omega)).keep kg (by omega);have hG5:=VV (VV hG kf (fun i hi e=>by omega)) kg (fun i hi e=>by omega);have d1:wg.cell? ⟨g,0,none⟩=some (.int .u64 (hi2:Int)):=by have:=b9g.cell 0;rw[HW2.out]at this;exact this
   have d2:wg.cell? ⟨g,1,none⟩=some (.int .u64 (lo2:Int)):=by have:=b9g.cell 1;rw[HW2.out]at this;exact this
   have d3:wg.cell? ⟨g,2,none⟩=some (.bool true):=by have:=b9g.cell 2;rw[HW2.out]at this;exact this
   have d4:wg.cell? ⟨g+1,0,none⟩=some (.int .u64 (hi1:Int)):=by have:=b10g.cell 0;rw[HW1.out]at this;exact this
   have d5:wg.cell? ⟨g+1,1,none⟩=some (.int .u64 (lo1:Int)):=by have:=b10g.cell 1;rw[HW1.out]at this;exact this
   clear b9 b10 b9f b10f b9g b10g kf kg r4 hG;obtain⟨hun,hvn,hmu,hmv,hdu,hdv,hul,hvl,hgt⟩:=HAR.out;have hsub1:∀w,(callFunc 134 #[.int .u64 (lo2:Int),.int .u64 (lo1:Int),.int .u64 0]).run Tryz.prog w= .ok (.value (.tuple #[.int .u64 (((lo2+18446744073709551616-lo1-0)%18446744073709551616:Nat):Int),.int .u64 ((if lo2<lo1+0 then 1 else 0:Nat):Int)])) w:=fun w=>Bd lo2 lo1 0 (by decide) w
   obtain⟨L2,hL2⟩:∃x,(lo2+18446744073709551616-lo1-0)%18446744073709551616=x:=⟨_,rfl⟩;obtain⟨Q,hQ⟩:∃x:Nat,(if lo2<lo1+0 then 1 else 0)=x:=⟨_,rfl⟩;have hQ1:Q≤1:=by rw[←hQ];split<;>omega
   have hQv:(lo2<lo1∧Q=1)∨(lo1≤lo2∧Q=0):=by rw[←hQ];split<;>omega
   rw[hL2,hQ]at hsub1;have hsub2:=fun w=>Bd hi2 hi1 Q hQ1 w
   obtain⟨M2,hM2⟩:∃x,(hi2+18446744073709551616-hi1-Q)%18446744073709551616=x:=⟨_,rfl⟩;obtain⟨Q2,hQ2⟩:∃x:Nat,(if hi2<hi1+Q then 1 else 0)=x:=⟨_,rfl⟩;rw[hM2,hQ2]at hsub2;have HM:Hid (u+v=0∨B5 (u+v)=BG M2 L2 true):=V3 (by
    by_cases hz:u+v=0
    ·exact .inl hz
    exact .inr (Bu (by omega) (by omega) (by simp;omega)))
   have HZ:Hid ((M2=0∧L2=0)↔u+v=0):=V3 (by omega);clear hQ hQ1 hQv hM2 hQ2 hL2 hmu hmv hdu hdv hul hvl hgt hun hvn;by_cases z1:M2=0
   ·have t1:((M2:Int)==0)=true:=by rw[VC];omega
    by_cases z2:L2=0
    ·have t2:((L2:Int)==0)=true:=by rw[VC];omega
     have HZ0:=V3 (HZ.out.1 ⟨z1,z2⟩);clear z1 z2;go_upto_region 11 with fail;go_wp2_with(first|(refine sN (.tmp 8) (.tmp 110) (BG 0 0 false) r5 rW ?_;intro we b11 ke _)|fail);refine rO rW b11 ?_;rw[HZ0.out];exact⟨rfl,VV hG5 ke (fun i hi e=>by omega)⟩
    have t2:((L2:Int)==0)=false:=by rw[V4];omega
    have HW:=V3 (HM.out.resolve_left (fun h=>z2 (HZ.out.2 h).2));clear z1 z2;go_upto_region 12 with fail;go_wp2_with(first|(refine sN (.tmp 8) (.tmp 115) (BG M2 L2 true) r5 rW ?_;intro we b11 ke _)|fail);refine rO rW b11 ?_;rw[HW.out];exact⟨rfl,VV hG5 ke (fun i hi e=>by omega)⟩
   have t1:((M2:Int)==0)=false:=by rw[V4];omega
   have HW:=V3 (HM.out.resolve_left (fun h=>z1 (HZ.out.2 h).1));clear z1;go_upto_region 12 with fail;go_wp2_with(first|(refine sN (.tmp 8) (.tmp 115) (BG M2 L2 true) r5 rW ?_;intro we b11 ke _)|fail);refine rO rW b11 ?_;rw[HW.out];exact⟨rfl,VV hG5 ke (fun i hi e=>by omega)⟩
  have t3:decide (hi1<hi2)=false:=by simpa using g1
  by_cases g2:hi1=hi2
  ·have t4:((hi1:Int)==(hi2:Int))=true:=by rw[VC];omega
   have t4b:(hi1==hi2)=true:=by rw[VC];omega
   have t4c:decide (hi1=hi2)=true:=by simpa using g2
   by_cases g3:lo1<lo2
   ·have t5:decide (lo1<lo2)=true:=by simpa using g3
    have hgt:u.natAbs<v.natAbs:=by omega
    have HAR:=V3 (V5 hun (V5 hvn (V5 hmu (V5 hmv (V5 hdu (V5 hdv (V5 hul (V5 hvl hgt))))))));clear hun hvn hsu hsv hmu hmv hdu hdv hul hvl hgt g1 g2 g3;go_upto_region 7 with fail;clear c1 c2 c3 c4 c5 c6;go_upto_region 8 with(first|(refine lN (.tmp 10) b10 rW ?_)|(refine lN (.tmp 9) b9 rW ?_)|(refine sN (.tmp 9) (.tmp 85) (B5 v) b9 rW ?_;intro wf b9f kf _;have b10f:=b10.keep kf (by omega))|(refine sN (.tmp 10) (.tmp 86) (B5 u) b10f rW ?_;intro wg b10g kg _)|fail);have b9g:=b9f.keep kg (by omega);have r5:=(r4.keep kf (by omega)).keep kg (by omega);have hG5:=VV (VV hG kf (fun i hi e=>by omega)) kg (fun i hi e=>by omega);have d1:wg.cell? ⟨g,0,none⟩=some (.int .u64 (hi2:Int)):=by have:=b9g.cell 0;rw[HW2.out]at this;exact this
    have d2:wg.cell? ⟨g,1,none⟩=some (.int .u64 (lo2:Int)):=by have:=b9g.cell 1;rw[HW2.out]at this;exact this
    have d3:wg.cell? ⟨g,2,none⟩=some (.bool true):=by have:=b9g.cell 2;rw[HW2.out]at this;exact this
    have d4:wg.cell? ⟨g+1,0,none⟩=some (.int .u64 (hi1:Int)):=by have:=b10g.cell 0;rw[HW1.out]at this;exact this
    have d5:wg.cell? ⟨g+1,1,none⟩=some (.int .u64 (lo1:Int)):=by have:=b10g.cell 1;rw[HW1.out]at this;exact this
    clear b9 b10 b9f b10f b9g b10g kf kg r4 hG;obtain⟨hun,hvn,hmu,hmv,hdu,hdv,hul,hvl,hgt⟩:=HAR.out;have hsub1:∀w,(callFunc 134 #[.int .u64 (lo2:Int),.int .u64 (lo1:Int),.int .u64 0]).run Tryz.prog w= .ok (.value (.tuple #[.int .u64 (((lo2+18446744073709551616-lo1-0)%18446744073709551616:Nat):Int),.int .u64 ((if lo2<lo1+0 then 1 else 0:Nat):Int)])) w:=fun w=>Bd lo2 lo1 0 (by decide) w
    obtain⟨L2,hL2⟩:∃x,(lo2+18446744073709551616-lo1-0)%18446744073709551616=x:=⟨_,rfl⟩;obtain⟨Q,hQ⟩:∃x:Nat,(if lo2<lo1+0 then 1 else 0)=x:=⟨_,rfl⟩;have hQ1:Q≤1:=by rw[←hQ];split<;>omega
    have hQv:(lo2<lo1∧Q=1)∨(lo1≤lo2∧Q=0):=by rw[←hQ];split<;>omega
    rw[hL2,hQ]at hsub1;have hsub2:=fun w=>Bd hi2 hi1 Q hQ1 w
    obtain⟨M2,hM2⟩:∃x,(hi2+18446744073709551616-hi1-Q)%18446744073709551616=x:=⟨_,rfl⟩;obtain⟨Q2,hQ2⟩:∃x:Nat,(if hi2<hi1+Q then 1 else 0)=x:=⟨_,rfl⟩;rw[hM2,hQ2]at hsub2;have HM:Hid (u+v=0∨B5 (u+v)=BG M2 L2 true):=V3 (by
     by_cases hz:u+v=0
     ·exact .inl hz
     exact .inr (Bu (by omega) (by omega) (by simp;omega)))
    have HZ:Hid ((M2=0∧L2=0)↔u+v=0):=V3 (by omega);clear hQ hQ1 hQv hM2 hQ2 hL2 hmu hmv hdu hdv hul hvl hgt hun hvn;by_cases z1:M2=0
    ·have t1:((M2:Int)==0)=true:=by rw[VC];omega
     by_cases z2:L2=0
     ·have t2:((L2:Int)==0)=true:=by rw[VC];omega
      have HZ0:=V3 (HZ.out.1 ⟨z1,z2⟩);clear z1 z2;go_upto_region 11 with fail;go_wp2_with(first|(refine sN (.tmp 8) (.tmp 110) (BG 0 0 false) r5 rW ?_;intro we b11 ke _)|fail);refine rO rW b11 ?_;rw[HZ0.out];exact⟨rfl,VV hG5 ke (fun i hi e=>by omega)⟩
     have t2:((L2:Int)==0)=false:=by rw[V4];omega
     have HW:=V3 (HM.out.resolve_left (fun h=>z2 (HZ.out.2 h).2));clear z1 z2;go_upto_region 12 with fail;go_wp2_with(first|(refine sN (.tmp 8) (.tmp 115) (BG M2 L2 true) r5 rW ?_;intro we b11 ke _)|fail);refine rO rW b11 ?_;rw[HW.out];exact⟨rfl,VV hG5 ke (fun i hi e=>by omega)⟩
    have t1:((M2:Int)==0)=false:=by rw[V4];omega
    have HW:=V3 (HM.out.resolve_left (fun h=>z1 (HZ.out.2 h).1));clear z1;go_upto_region 12 with fail;go_wp2_with(first|(refine sN (.tmp 8) (.tmp 115) (BG M2 L2 true) r5 rW ?_;intro we b11 ke _)|fail);refine rO rW b11 ?_;rw[HW.out];exact⟨rfl,VV hG5 ke (fun i hi e=>by omega)⟩
   have t5:decide (lo1<lo2)=false:=by simpa using g3
   have hgt:v.natAbs≤u.natAbs:=by omega
   have HAR:=V3 (V5 hun (V5 hvn (V5 hmu (V5 hmv (V5 hdu (V5 hdv (V5 hul (V5 hvl hgt))))))));clear hun hvn hsu hsv hmu hmv hdu hdv hul hvl hgt g1 g2 g3;go_upto_region 8 with fail;have r5:=r4;have hG5:=hG;clear r4 hG b9 b10;obtain⟨hun,hvn,hmu,hmv,hdu,hdv,hul,hvl,hgt⟩:=HAR.out;have hsub1:∀w,(callFunc 134 #[.int .u64 (lo1:Int),.int .u64 (lo2:Int),.int .u64 0]).run Tryz.prog w= .ok (.value (.tuple #[.int .u64 (((lo1+18446744073709551616-lo2-0)%18446744073709551616:Nat):Int),.int .u64 ((if lo1<lo2+0 then 1 else 0:Nat):Int)])) w:=fun w=>Bd lo1 lo2 0 (by decide) w
   obtain⟨L2,hL2⟩:∃x,(lo1+18446744073709551616-lo2-0)%18446744073709551616=x:=⟨_,rfl⟩;obtain⟨Q,hQ⟩:∃x:Nat,(if lo1<lo2+0 then 1 else 0)=x:=⟨_,rfl⟩;have hQ1:Q≤1:=by rw[←hQ];split<;>omega
   have hQv:(lo1<lo2∧Q=1)∨(lo2≤lo1∧Q=0):=by rw[←hQ];split<;>omega
   rw[hL2,hQ]at hsub1;have hsub2:=fun w=>Bd hi1 hi2 Q hQ1 w
   obtain⟨M2,hM2⟩:∃x,(hi1+18446744073709551616-hi2-Q)%18446744073709551616=x:=⟨_,rfl⟩;obtain⟨Q2,hQ2⟩:∃x:Nat,(if hi1<hi2+Q then 1 else 0)=x:=⟨_,rfl⟩;rw[hM2,hQ2]at hsub2;have HM:Hid (u+v=0∨B5 (u+v)=BG M2 L2 false):=V3 (by
    by_cases hz:u+v=0
    ·exact .inl hz
    exact .inr (Bu (by omega) (by omega) (by simp;omega)))
   have HZ:Hid ((M2=0∧L2=0)↔u+v=0):=V3 (by omega);clear hQ hQ1 hQv hM2 hQ2 hL2 hmu hmv hdu hdv hul hvl hgt hun hvn;by_cases z1:M2=0
   ·have t1:((M2:Int)==0)=true:=by rw[VC];omega
    by_cases z2:L2=0
    ·have t2:((L2:Int)==0)=true:=by rw[VC];omega
     have HZ0:=V3 (HZ.out.1 ⟨z1,z2⟩);clear z1 z2;go_upto_region 11 with fail;go_wp2_with(first|(refine sN (.tmp 8) (.tmp 110) (BG 0 0 false) r5 rW ?_;intro we b11 ke _)|fail);refine rO rW b11 ?_;rw[HZ0.out];exact⟨rfl,VV hG5 ke (fun i hi e=>by omega)⟩
    have t2:((L2:Int)==0)=false:=by rw[V4];omega
    have HW:=V3 (HM.out.resolve_left (fun h=>z2 (HZ.out.2 h).2));clear z1 z2;go_upto_region 12 with fail;go_wp2_with(first|(refine sN (.tmp 8) (.tmp 115) (BG M2 L2 false) r5 rW ?_;intro we b11 ke _)|fail);refine rO rW b11 ?_;rw[HW.out];exact⟨rfl,VV hG5 ke (fun i hi e=>by omega)⟩
   have t1:((M2:Int)==0)=false:=by rw[V4];omega
   have HW:=V3 (HM.out.resolve_left (fun h=>z1 (HZ.out.2 h).1));clear z1;go_upto_region 12 with fail;go_wp2_with(first|(refine sN (.tmp 8) (.tmp 115) (BG M2 L2 false) r5 rW ?_;intro we b11 ke _)|fail);refine rO rW b11 ?_;rw[HW.out];exact⟨rfl,VV hG5 ke (fun i hi e=>by omega)⟩
  have t4:((hi1:Int)==(hi2:Int))=false:=by rw[V4];omega
  have t4b:(hi1==hi2)=false:=by rw[V4];omega
  have t4c:decide (hi1=hi2)=false:=by simpa using g2
  have hgt:v.natAbs≤u.natAbs:=by omega
  have HAR:=V3 (V5 hun (V5 hvn (V5 hmu (V5 hmv (V5 hdu (V5 hdv (V5 hul (V5 hvl hgt))))))));clear hun hvn hsu hsv hmu hmv hdu hdv hul hvl hgt g1 g2;go_upto_region 8 with fail;have r5:=r4;have hG5:=hG;clear r4 hG b9 b10;obtain⟨hun,hvn,hmu,hmv,hdu,hdv,hul,hvl,hgt⟩:=HAR.out;have hsub1:∀w,(callFunc 134 #[.int .u64 (lo1:Int),.int .u64 (lo2:Int),.int .u64 0]).run Tryz.prog w= .ok (.value (.tuple #[.int .u64 (((lo1+18446744073709551616-lo2-0)%18446744073709551616:Nat):Int),.int .u64 ((if lo1<lo2+0 then 1 else 0:Nat):Int)])) w:=fun w=>Bd lo1 lo2 0 (by decide) w
  obtain⟨L2,hL2⟩:∃x,(lo1+18446744073709551616-lo2-0)%18446744073709551616=x:=⟨_,rfl⟩;obtain⟨Q,hQ⟩:∃x:Nat,(if lo1<lo2+0 then 1 else 0)=x:=⟨_,rfl⟩;have hQ1:Q≤1:=by rw[←hQ];split<;>omega
  have hQv:(lo1<lo2∧Q=1)∨(lo2≤lo1∧Q=0):=by rw[←hQ];split<;>omega
  rw[hL2,hQ]at hsub1;have hsub2:=fun w=>Bd hi1 hi2 Q hQ1 w
  obtain⟨M2,hM2⟩:∃x,(hi1+18446744073709551616-hi2-Q)%18446744073709551616=x:=⟨_,rfl⟩;obtain⟨Q2,hQ2⟩:∃x:Nat,(if hi1<hi2+Q then 1 else 0)=x:=⟨_,rfl⟩;rw[hM2,hQ2]at hsub2;have HM:Hid (u+v=0∨B5 (u+v)=BG M2 L2 false):=V3 (by
   by_cases hz:u+v=0
   ·exact .inl hz
   exact .inr (Bu (by omega) (by omega) (by simp;omega)))
  have HZ:Hid ((M2=0∧L2=0)↔u+v=0):=V3 (by omega);clear hQ hQ1 hQv hM2 hQ2 hL2 hmu hmv hdu hdv hul hvl hgt hun hvn;by_cases z1:M2=0
  ·have t1:((M2:Int)==0)=true:=by rw[VC];omega
   by_cases z2:L2=0
   ·have t2:((L2:Int)==0)=true:=by rw[VC];omega
    have HZ0:=V3 (HZ.out.1 ⟨z1,z2⟩);clear z1 z2;go_upto_region 11 with fail;go_wp2_with(first|(refine sN (.tmp 8) (.tmp 110) (BG 0 0 false) r5 rW ?_;intro we b11 ke _)|fail);refine rO rW b11 ?_;rw[HZ0.out];exact⟨rfl,VV hG5 ke (fun i hi e=>by omega)⟩
   have t2:((L2:Int)==0)=false:=by rw[V4];omega
   have HW:=V3 (HM.out.resolve_left (fun h=>z2 (HZ.out.2 h).2));clear z1 z2;go_upto_region 12 with fail;go_wp2_with(first|(refine sN (.tmp 8) (.tmp 115) (BG M2 L2 false) r5 rW ?_;intro we b11 ke _)|fail);refine rO rW b11 ?_;rw[HW.out];exact⟨rfl,VV hG5 ke (fun i hi e=>by omega)⟩
  have t1:((M2:Int)==0)=false:=by rw[V4];omega
  have HW:=V3 (HM.out.resolve_left (fun h=>z1 (HZ.out.2 h).1));clear z1;go_upto_region 12 with fail;go_wp2_with(first|(refine sN (.tmp 8) (.tmp 115) (BG M2 L2 false) r5 rW ?_;intro we b11 ke _)|fail);refine rO rW b11 ?_;rw[HW.out];exact⟨rfl,VV hG5 ke (fun i hi e=>by omega)⟩
 have hun:=VH hsu;cases sv
 ·have hvn:=of_decide_eq_false hsv;have hq1:=hqu false (by simp;omega);by_cases h0:v=0
  ·have hq0:=hqv true (by simpa using h0);have HW:Hid (B5 (u+v)=BG M L true):=V3 (Bu (by have:=HAD.out;omega) (by have:=HAD.out;omega) (by simp;omega));clear hqu hqv h0 hsu hsv hmu hmv hdu hdv hul hvl hu hv;go_upto_region 3 with(first|((with_reducible refine AF 169 (.tmp 9) rfl ?_);refine Se 169 (.tmp 9) rfl rfl Tryz.underlying169 rfl g (B5 u) 169 EI rfl b9 ?_)|((with_reducible refine AF 169 (.tmp 10) rfl ?_);refine Se 169 (.tmp 10) rfl rfl Tryz.underlying169 rfl (g+1) (B5 v) 169 EI rfl b10 ?_));go_upto_region 5 with fail;go_wp2_with(first|(refine sN (.tmp 8) (.tmp 65) (BG M L true) r4 rW ?_;intro we b11 ke _)|fail);refine rO rW b11 ?_;rw[HW.out];exact⟨rfl,VV hG ke (fun i hi e=>by omega)⟩
  have hq0:=hqv false (by simpa using h0);clear hqu hqv hadd1 hadd2 HAD;have HA0:=V3 (V5 hun (V5 hvn (V5 hmu (V5 hmv (V5 hdu (V5 hdv (V5 hul (V5 hvl (V5 hsu hsv)))))))));clear hun hvn h0 hsu hsv hmu hmv hdu hdv hul hvl hu hv;go_upto_region 6 with(first|((with_reducible refine AF 169 (.tmp 9) rfl ?_);refine Se 169 (.tmp 9) rfl rfl Tryz.underlying169 rfl g (B5 u) 169 EI rfl b9 ?_)|((with_reducible refine AF 169 (.tmp 10) rfl ?_);refine Se 169 (.tmp 10) rfl rfl Tryz.underlying169 rfl (g+1) (B5 v) 169 EI rfl b10 ?_));clear hq0 hq1;obtain⟨hun,hvn,hmu,hmv,hdu,hdv,hul,hvl,hsu,hsv⟩:=HA0.out;have HW1:Hid (B5 u=BG hi1 lo1 true):=V3 (Bu (by omega) hmu hsu);have HW2:Hid (B5 v=BG hi2 lo2 false):=V3 (Bu (by omega) hmv hsv);by_cases g1:hi1<hi2
  ·have t3:decide (hi1<hi2)=true:=by simpa using g1
   have hgt:u.natAbs<v.natAbs:=by omega
   have HAR:=V3 (V5 hun (V5 hvn (V5 hmu (V5 hmv (V5 hdu (V5 hdv (V5 hul (V5 hvl hgt))))))));clear hun hvn hsu hsv hmu hmv hdu hdv hul hvl hgt g1;go_upto_region 7 with fail;clear c1 c2 c3 c4 c5 c6;go_upto_region 8 with(first|(refine lN (.tmp 10) b10 rW ?_)|(refine lN (.tmp 9) b9 rW ?_)|(refine sN (.tmp 9) (.tmp 85) (B5 v) b9 rW ?_;intro wf b9f kf _;have b10f:=b10.keep kf (by omega))|(refine sN (.tmp 10) (.tmp 86) (B5 u) b10f rW ?_;intro wg b10g kg _)|fail);have b9g:=b9f.keep kg (by omega);have r5:=(r4.keep kf (by omega)).keep kg (by omega);have hG5:=VV (VV hG kf (fun i hi e=>by omega)) kg (fun i hi e=>by omega);have d1:wg.cell? ⟨g,0,none⟩=some (.int .u64 (hi2:Int)):=by have:=b9g.cell 0;rw[HW2.out]at this;exact this
   have d2:wg.cell? ⟨g,1,none⟩=some (.int .u64 (lo2:Int)):=by have:=b9g.cell 1;rw[HW2.out]at this;exact this
   have d3:wg.cell? ⟨g,2,none⟩=some (.bool false):=by have:=b9g.cell 2;rw[HW2.out]at this;exact this
   have d4:wg.cell? ⟨g+1,0,none⟩=some (.int .u64 (hi1:Int)):=by have:=b10g.cell 0;rw[HW1.out]at this;exact this
   have d5:wg.cell? ⟨g+1,1,none⟩=some (.int .u64 (lo1:Int)):=by have:=b10g.cell 1;rw[HW1.out]at this;exact this
   clear b9 b10 b9f b10f b9g b10g kf kg r4 hG;obtain⟨hun,hvn,hmu,hmv,hdu,hdv,hul,hvl,hgt⟩:=HAR.out;have hsub1:∀w,(callFunc 134 #[.int .u64 (lo2:Int),.int .u64 (lo1:Int),.int .u64 0]).run Tryz.prog w= .ok (.value (.tuple #[.int .u64 (((lo2+18446744073709551616-lo1-0)%18446744073709551616:Nat):Int),.int .u64 ((if lo2<lo1+0 then 1 else 0:Nat):Int)])) w:=fun w=>Bd lo2 lo1 0 (by decide) w
   obtain⟨L2,hL2⟩:∃x,(lo2+18446744073709551616-lo1-0)%18446744073709551616=x:=⟨_,rfl⟩;obtain⟨Q,hQ⟩:∃x:Nat,(if lo2<lo1+0 then 1 else 0)=x:=⟨_,rfl⟩;have hQ1:Q≤1:=by rw[←hQ];split<;>omega
   have hQv:(lo2<lo1∧Q=1)∨(lo1≤lo2∧Q=0):=by rw[←hQ];split<;>omega
   rw[hL2,hQ]at hsub1;have hsub2:=fun w=>Bd hi2 hi1 Q hQ1 w
   obtain⟨M2,hM2⟩:∃x,(hi2+18446744073709551616-hi1-Q)%18446744073709551616=x:=⟨_,rfl⟩;obtain⟨Q2,hQ2⟩:∃x:Nat,(if hi2<hi1+Q then 1 else 0)=x:=⟨_,rfl⟩;rw[hM2,hQ2]at hsub2;have HM:Hid (u+v=0∨B5 (u+v)=BG M2 L2 false):=V3 (by
    by_cases hz:u+v=0
    ·exact .inl hz
    exact .inr (Bu (by omega) (by omega) (by simp;omega)))
   have HZ:Hid ((M2=0∧L2=0)↔u+v=0):=V3 (by omega);clear hQ hQ1 hQv hM2 hQ2 hL2 hmu hmv hdu hdv hul hvl hgt hun hvn;by_cases z1:M2=0
   ·have t1:((M2:Int)==0)=true:=by rw[VC];omega
    by_cases z2:L2=0
    ·have t2:((L2:Int)==0)=true:=by rw[VC];omega
     have HZ0:=V3 (HZ.out.1 ⟨z1,z2⟩);clear z1 z2;go_upto_region 11 with fail;go_wp2_with(first|(refine sN (.tmp 8) (.tmp 110) (BG 0 0 false) r5 rW ?_;intro we b11 ke _)|fail);refine rO rW b11 ?_;rw[HZ0.out];exact⟨rfl,VV hG5 ke (fun i hi e=>by omega)⟩
    have t2:((L2:Int)==0)=false:=by rw[V4];omega
    have HW:=V3 (HM.out.resolve_left (fun h=>z2 (HZ.out.2 h).2));clear z1 z2;go_upto_region 12 with fail;go_wp2_with(first|(refine sN (.tmp 8) (.tmp 115) (BG M2 L2 false) r5 rW ?_;intro we b11 ke _)|fail);refine rO rW b11 ?_;rw[HW.out];exact⟨rfl,VV hG5 ke (fun i hi e=>by omega)⟩
   have t1:((M2:Int)==0)=false:=by rw[V4];omega
   have HW:=V3 (HM.out.resolve_left (fun h=>z1 (HZ.out.2 h).1));clear z1;go_upto_region 12 with fail;go_wp2_with(first|(refine sN (.tmp 8) (.tmp 115) (BG M2 L2 false) r5 rW ?_;intro we b11 ke _)|fail);refine rO rW b11 ?_;rw[HW.out];exact⟨rfl,VV hG5 ke (fun i hi e=>by omega)⟩
  have t3:decide (hi1<hi2)=false:=by simpa using g1
  by_cases g2:hi1=hi2
  ·have t4:((hi1:Int)==(hi2:Int))=true:=by rw[VC];omega
   have t4b:(hi1==hi2)=true:=by rw[VC];omega
   have t4c:decide (hi1=hi2)=true:=by simpa using g2
   by_cases g3:lo1<lo2
   ·have t5:decide (lo1<lo2)=true:=by simpa using g3
    have hgt:u.natAbs<v.natAbs:=by omega
    have HAR:=V3 (V5 hun (V5 hvn (V5 hmu (V5 hmv (V5 hdu (V5 hdv (V5 hul (V5 hvl hgt))))))));clear hun hvn hsu hsv hmu hmv hdu hdv hul hvl hgt g1 g2 g3;go_upto_region 7 with fail;clear c1 c2 c3 c4 c5 c6;go_upto_region 8 with(first|(refine lN (.tmp 10) b10 rW ?_)|(refine lN (.tmp 9) b9 rW ?_)|(refine sN (.tmp 9) (.tmp 85) (B5 v) b9 rW ?_;intro wf b9f kf _;have b10f:=b10.keep kf (by omega))|(refine sN (.tmp 10) (.tmp 86) (B5 u) b10f rW ?_;intro wg b10g kg _)|fail);have b9g:=b9f.keep kg (by omega);have r5:=(r4.keep kf (by omega)).keep kg (by omega);have hG5:=VV (VV hG kf (fun i hi e=>by omega)) kg (fun i hi e=>by omega);have d1:wg.cell? ⟨g,0,none⟩=some (.int .u64 (hi2:Int)):=by have:=b9g.cell 0;rw[HW2.out]at this;exact this
    have d2:wg.cell? ⟨g,1,none⟩=some (.int .u64 (lo2:Int)):=by have:=b9g.cell 1;rw[HW2.out]at this;exact this
    have d3:wg.cell? ⟨g,2,none⟩=some (.bool false):=by have:=b9g.cell 2;rw[HW2.out]at this;exact this
    have d4:wg.cell? ⟨g+1,0,none⟩=some (.int .u64 (hi1:Int)):=by have:=b10g.cell 0;rw[HW1.out]at this;exact this
    have d5:wg.cell? ⟨g+1,1,none⟩=some (.int .u64 (lo1:Int)):=by have:=b10g.cell 1;rw[HW1.out]at this;exact this
    clear b9 b10 b9f b10f b9g b10g kf kg r4 hG;obtain⟨hun,hvn,hmu,hmv,hdu,hdv,hul,hvl,hgt⟩:=HAR.out;have hsub1:∀w,(callFunc 134 #[.int .u64 (lo2:Int),.int .u64 (lo1:Int),.int .u64 0]).run Tryz.prog w= .ok (.value (.tuple #[.int .u64 (((lo2+18446744073709551616-lo1-0)%18446744073709551616:Nat):Int),.int .u64 ((if lo2<lo1+0 then 1 else 0:Nat):Int)])) w:=fun w=>Bd lo2 lo1 0 (by decide) w
    obtain⟨L2,hL2⟩:∃x,(lo2+18446744073709551616-lo1-0)%18446744073709551616=x:=⟨_,rfl⟩;obtain⟨Q,hQ⟩:∃x:Nat,(if lo2<lo1+0 then 1 else 0)=x:=⟨_,rfl⟩;have hQ1:Q≤1:=by rw[←hQ];split<;>omega
    have hQv:(lo2<lo1∧Q=1)∨(lo1≤lo2∧Q=0):=by rw[←hQ];split<;>omega
    rw[hL2,hQ]at hsub1;have hsub2:=fun w=>Bd hi2 hi1 Q hQ1 w
    obtain⟨M2,hM2⟩:∃x,(hi2+18446744073709551616-hi1-Q)%18446744073709551616=x:=⟨_,rfl⟩;obtain⟨Q2,hQ2⟩:∃x:Nat,(if hi2<hi1+Q then 1 else 0)=x:=⟨_,rfl⟩;rw[hM2,hQ2]at hsub2;have HM:Hid (u+v=0∨B5 (u+v)=BG M2 L2 false):=V3 (by
     by_cases hz:u+v=0
     ·exact .inl hz
     exact .inr (Bu (by omega) (by omega) (by simp;omega)))
    have HZ:Hid ((M2=0∧L2=0)↔u+v=0):=V3 (by omega);clear hQ hQ1 hQv hM2 hQ2 hL2 hmu hmv hdu hdv hul hvl hgt hun hvn;by_cases z1:M2=0
    ·have t1:((M2:Int)==0)=true:=by rw[VC];omega
     by_cases z2:L2=0
     ·have t2:((L2:Int)==0)=true:=by rw[VC];omega
      have HZ0:=V3 (HZ.out.1 ⟨z1,z2⟩);clear z1 z2;go_upto_region 11 with fail;go_wp2_with(first|(refine sN (.tmp 8) (.tmp 110) (BG 0 0 false) r5 rW ?_;intro we b11 ke _)|fail);refine rO rW b11 ?_;rw[HZ0.out];exact⟨rfl,VV hG5 ke (fun i hi e=>by omega)⟩
     have t2:((L2:Int)==0)=false:=by rw[V4];omega
     have HW:=V3 (HM.out.resolve_left (fun h=>z2 (HZ.out.2 h).2));clear z1 z2;go_upto_region 12 with fail;go_wp2_with(first|(refine sN (.tmp 8) (.tmp 115) (BG M2 L2 false) r5 rW ?_;intro we b11 ke _)|fail);refine rO rW b11 ?_;rw[HW.out];exact⟨rfl,VV hG5 ke (fun i hi e=>by omega)⟩
    have t1:((M2:Int)==0)=false:=by rw[V4];omega
    have HW:=V3 (HM.out.resolve_left (fun h=>z1 (HZ.out.2 h).1));clear z1;go_upto_region 12 with fail;go_wp2_with(first|(refine sN (.tmp 8) (.tmp 115) (BG M2 L2 false) r5 rW ?_;intro we b11 ke _)|fail);refine rO rW b11 ?_;rw[HW.out];exact⟨rfl,VV hG5 ke (fun i hi e=>by omega)⟩
   have t5:decide (lo1<lo2)=false:=by simpa using g3
   have hgt:v.natAbs≤u.natAbs:=by omega
   have HAR:=V3 (V5 hun (V5 hvn (V5 hmu (V5 hmv (V5 hdu (V5 hdv (V5 hul (V5 hvl hgt))))))));clear hun hvn hsu hsv hmu hmv hdu hdv hul hvl hgt g1 g2 g3;go_upto_region 8 with fail;have r5:=r4;have hG5:=hG;clear r4 hG b9 b10;obtain⟨hun,hvn,hmu,hmv,hdu,hdv,hul,hvl,hgt⟩:=HAR.out;have hsub1:∀w,(callFunc 134 #[.int .u64 (lo1:Int),.int .u64 (lo2:Int),.int .u64 0]).run Tryz.prog w= .ok (.value (.tuple #[.int .u64 (((lo1+18446744073709551616-lo2-0)%18446744073709551616:Nat):Int),.int .u64 ((if lo1<lo2+0 then 1 else 0:Nat):Int)])) w:=fun w=>Bd lo1 lo2 0 (by decide) w
   obtain⟨L2,hL2⟩:∃x,(lo1+18446744073709551616-lo2-0)%18446744073709551616=x:=⟨_,rfl⟩;obtain⟨Q,hQ⟩:∃x:Nat,(if lo1<lo2+0 then 1 else 0)=x:=⟨_,rfl⟩;have hQ1:Q≤1:=by rw[←hQ];split<;>omega
   have hQv:(lo1<lo2∧Q=1)∨(lo2≤lo1∧Q=0):=by rw[←hQ];split<;>omega
   rw[hL2,hQ]at hsub1;have hsub2:=fun w=>Bd hi1 hi2 Q hQ1 w
   obtain⟨M2,hM2⟩:∃x,(hi1+18446744073709551616-hi2-Q)%18446744073709551616=x:=⟨_,rfl⟩;obtain⟨Q2,hQ2⟩:∃x:Nat,(if hi1<hi2+Q then 1 else 0)=x:=⟨_,rfl⟩;rw[hM2,hQ2]at hsub2;have HM:Hid (u+v=0∨B5 (u+v)=BG M2 L2 true):=V3 (by
    by_cases hz:u+v=0
    ·exact .inl hz
    exact .inr (Bu (by omega) (by omega) (by simp;omega)))
   have HZ:Hid ((M2=0∧L2=0)↔u+v=0):=V3 (by omega);clear hQ hQ1 hQv hM2 hQ2 hL2 hmu hmv hdu hdv hul hvl hgt hun hvn;by_cases z1:M2=0
   ·have t1:((M2:Int)==0)=true:=by rw[VC];omega
    by_cases z2:L2=0
    ·have t2:((L2:Int)==0)=true:=by rw[VC];omega
     have HZ0:=V3 (HZ.out.1 ⟨z1,z2⟩);clear z1 z2;go_upto_region 11 with fail;go_wp2_with(first|(refine sN (.tmp 8) (.tmp 110) (BG 0 0 false) r5 rW ?_;intro we b11 ke _)|fail);refine rO rW b11 ?_;rw[HZ0.out];exact⟨rfl,VV hG5 ke (fun i hi e=>by omega)⟩
    have t2:((L2:Int)==0)=false:=by rw[V4];omega
    have HW:=V3 (HM.out.resolve_left (fun h=>z2 (HZ.out.2 h).2));clear z1 z2;go_upto_region 12 with fail;go_wp2_with(first|(refine sN (.tmp 8) (.tmp 115) (BG M2 L2 true) r5 rW ?_;intro we b11 ke _)|fail);refine rO rW b11 ?_;rw[HW.out];exact⟨rfl,VV hG5 ke (fun i hi e=>by omega)⟩
   have t1:((M2:Int)==0)=false:=by rw[V4];omega
   have HW:=V3 (HM.out.resolve_left (fun h=>z1 (HZ.out.2 h).1));clear z1;go_upto_region 12 with fail;go_wp2_with(first|(refine sN (.tmp 8) (.tmp 115) (BG M2 L2 true) r5 rW ?_;intro we b11 ke _)|fail);refine rO rW b11 ?_;rw[HW.out];exact⟨rfl,VV hG5 ke (fun i hi e=>by omega)⟩
  have t4:((hi1:Int)==(hi2:Int))=false:=by rw[V4];omega
  have t4b:(hi1==hi2)=false:=by rw[V4];omega
  have t4c:decide (hi1=hi2)=false:=by simpa using g2
  have hgt:v.natAbs≤u.natAbs:=by omega
  have HAR:=V3 (V5 hun (V5 hvn (V5 hmu (V5 hmv (V5 hdu (V5 hdv (V5 hul (V5 hvl hgt))))))));clear hun hvn hsu hsv hmu hmv hdu hdv hul hvl hgt g1 g2;go_upto_region 8 with fail;have r5:=r4;have hG5:=hG;clear r4 hG b9 b10;obtain⟨hun,hvn,hmu,hmv,hdu,hdv,hul,hvl,hgt⟩:=HAR.out;have hsub1:∀w,(callFunc 134 #[.int .u64 (lo1:Int),.int .u64 (lo2:Int),.int .u64 0]).run Tryz.prog w= .ok (.value (.tuple #[.int .u64 (((lo1+18446744073709551616-lo2-0)%18446744073709551616:Nat):Int),.int .u64 ((if lo1<lo2+0 then 1 else 0:Nat):Int)])) w:=fun w=>Bd lo1 lo2 0 (by decide) w
  obtain⟨L2,hL2⟩:∃x,(lo1+18446744073709551616-lo2-0)%18446744073709551616=x:=⟨_,rfl⟩;obtain⟨Q,hQ⟩:∃x:Nat,(if lo1<lo2+0 then 1 else 0)=x:=⟨_,rfl⟩;have hQ1:Q≤1:=by rw[←hQ];split<;>omega
  have hQv:(lo1<lo2∧Q=1)∨(lo2≤lo1∧Q=0):=by rw[←hQ];split<;>omega
  rw[hL2,hQ]at hsub1;have hsub2:=fun w=>Bd hi1 hi2 Q hQ1 w
  obtain⟨M2,hM2⟩:∃x,(hi1+18446744073709551616-hi2-Q)%18446744073709551616=x:=⟨_,rfl⟩;obtain⟨Q2,hQ2⟩:∃x:Nat,(if hi1<hi2+Q then 1 else 0)=x:=⟨_,rfl⟩;rw[hM2,hQ2]at hsub2;have HM:Hid (u+v=0∨B5 (u+v)=BG M2 L2 true):=V3 (by
   by_cases hz:u+v=0
   ·exact .inl hz
   exact .inr (Bu (by omega) (by omega) (by simp;omega)))
  have HZ:Hid ((M2=0∧L2=0)↔u+v=0):=V3 (by omega);clear hQ hQ1 hQv hM2 hQ2 hL2 hmu hmv hdu hdv hul hvl hgt hun hvn;by_cases z1:M2=0
  ·have t1:((M2:Int)==0)=true:=by rw[VC];omega
   by_cases z2:L2=0
   ·have t2:((L2:Int)==0)=true:=by rw[VC];omega
    have HZ0:=V3 (HZ.out.1 ⟨z1,z2⟩);clear z1 z2;go_upto_region 11 with fail;go_wp2_with(first|(refine sN (.tmp 8) (.tmp 110) (BG 0 0 false) r5 rW ?_;intro we b11 ke _)|fail);refine rO rW b11 ?_;rw[HZ0.out];exact⟨rfl,VV hG5 ke (fun i hi e=>by omega)⟩
   have t2:((L2:Int)==0)=false:=by rw[V4];omega
   have HW:=V3 (HM.out.resolve_left (fun h=>z2 (HZ.out.2 h).2));clear z1 z2;go_upto_region 12 with fail;go_wp2_with(first|(refine sN (.tmp 8) (.tmp 115) (BG M2 L2 true) r5 rW ?_;intro we b11 ke _)|fail);refine rO rW b11 ?_;rw[HW.out];exact⟨rfl,VV hG5 ke (fun i hi e=>by omega)⟩
  have t1:((M2:Int)==0)=false:=by rw[V4];omega
  have HW:=V3 (HM.out.resolve_left (fun h=>z1 (HZ.out.2 h).1));clear z1;go_upto_region 12 with fail;go_wp2_with(first|(refine sN (.tmp 8) (.tmp 115) (BG M2 L2 true) r5 rW ?_;intro we b11 ke _)|fail);refine rO rW b11 ?_;rw[HW.out];exact⟨rfl,VV hG5 ke (fun i hi e=>by omega)⟩
 have hvn:=VH hsv;have HW:Hid (B5 (u+v)=BG M L true):=V3 (Bu (by have:=HAD.out;omega) (by have:=HAD.out;omega) (by simp;omega));clear hqu hqv hsu hsv hmu hmv hdu hdv hul hvl hu hv;go_upto_region 3 with fail;go_upto_region 5 with fail;go_wp2_with(first|(refine sN (.tmp 8) (.tmp 65) (BG M L true) r4 rW ?_;intro we b11 ke _)|fail);refine rO rW b11 ?_;rw[HW.out];exact⟨rfl,VV hG ke (fun i hi e=>by omega)⟩
end Go.Proofs.YthpflelgbadkcaaGreatDoor
