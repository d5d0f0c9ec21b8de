/- types.binary: the unit of an operation. -/
import Derived.Test.YthpflelgbadkcaaGreatDoorRewriteTypesP01
import Derived.Test.YthpflelgbadkcaaGreatDoorRewriteTypesP35
import Derived.Test.YthpflelgbadkcaaGreatDoorRewriteTypesP02
import Derived.Test.YthpflelgbadkcaaGreatDoorRewriteTypesP11
import Derived.Test.YthpflelgbadkcaaGreatDoorRewriteTypesP36
import Derived.Test.YthpflelgbadkcaaGreatDoorRewriteTypesP42
import Derived.Test.YthpflelgbadkcaaGreatDoorRewriteTypesP43
import Derived.Test.YthpflelgbadkcaaGreatDoorRewriteTypesP19
set_option maxRecDepth 100000
set_option maxHeartbeats 12800000
set_option linter.unusedVariables false
set_option linter.unusedSimpArgs false
namespace Go.Proofs.YthpflelgbadkcaaGreatDoor
open Go.RowKit Go.Shelf Pl
theorem Gy (ET:Int) (ds:List Du):∀(k:Nat) (e:Ex),AH e≤k→Be e→(vE ET ds e).2.2.length≤1000000
 |0,e,h,_=>absurd (Aj e) (by omega)
 |k+1,e,hk,hg=>by
  have hne:=Az e;rcases FK hg.top.2 with⟨h0, -⟩|⟨h0, -⟩|⟨h0,a,hks⟩|⟨h0,ea,eb,hks⟩
  ·rw[DV h0];decide
  ·rw[H9 h0];show 1≤1000000;decide
  ·rw[F5 h0 hks];exact VD hg.top.1.2.2.2.2.2 (by decide)
  have ga:Be ea:=hg.kid (by rw[hks];simp);have gb:Be eb:=hg.kid (by rw[hks];simp);have hna:=AT (show ea∈e.kids by rw[hks];simp);have hnb:=AT (show eb∈e.kids by rw[hks];simp);rw[Dr h0 hks,Bl];split
  ·exact Gy ET ds k eb (by omega) gb
  exact Gy ET ds k ea (by omega) ga
theorem Ph:(Tryz.prog.info? 127).map (·.size)=some 6:=by kernel_rfl
theorem Uz:Lf 127 6:=⟨Ph,_,Tryz.underlying127,rfl⟩
theorem Fe {w:World} {B:Nat} {e:Ex} {cs:List Value} (h:BU w B e cs):∀v∈cs,v.oneCell'=true:=Ap (BU.toQ (Q:=fun b=>b<B) (fun _ h=>h) _ _ h)
theorem PX (g:Nat) (T:TypeId) (dv:Value) (ds:List Du) (e ea eb:Ex) (hks:e.kids=[ea,eb]) (ga:Be ea) (gb:Be eb) (ua ub:Un) (hua:Cl ua=true) (hub:Cl ub=true) (w:World) (cs:List Value) (hb:AR w g T (E9 dv 0).toArray) (hr:BU w g e cs):
  Calls Tryz.prog 80 #[.pointer (some ⟨g,0,none⟩),.agg cs.toArray,.agg (Aa ua++Aa ub).toArray] w fun e' w'=>e'= .returned (.agg (Aa (Ej 7 e.fn (BJ ea) (BJ eb) (vE 7 ds ea).2.2 (vE 7 ds eb).2.2 ua ub).1).toArray)∧AR w' g T (E9 dv (Ej 7 e.fn (BJ ea) (BJ eb) (vE 7 ds ea).2.2 (vE 7 ds eb).2.2 ua ub).2).toArray∧AA (fun i=>i=g) w w':=by
 obtain⟨vm,vb,vk,rfl, -, -,hT⟩:=hr.open_;obtain⟨b,o,c,ca,cb,rfl,hbb,hra,hrb,hea,heb⟩:=Fm hT hks;have hlt:=hb.lt;have hEa:∀w',A4 w w'→BU w' w'.heap.size ea ca:=fun w' k=>BU.keep (Nat.le_of_lt hlt) (VD (Nat.le_of_lt hlt) k.size) k (fun _ _ h=>h) _ _ hea
 have hEb:∀w',A4 w w'→BU w' w'.heap.size eb cb:=fun w' k=>BU.keep (Nat.le_of_lt hlt) (VD (Nat.le_of_lt hlt) k.size) k (fun _ _ h=>h) _ _ heb
 have HA:=V3 (fun w' (k:A4 w w')=>CL (AH ea) ea (V6 _) (Dg ga) w' ca (hEa w' k));have HC:=V3 (fun w' (k:A4 w w')=>CL (AH eb) eb (V6 _) (Dg gb) w' cb (hEb w' k));have HRA:=V3 (fun(h:BJ ea=false) w' (k:A4 w w')=>Ef 7 ds (AH ea) ea (V6 _) ga h w' ca (hEa w' k));have HRB:=V3 (fun(h:BJ eb=false) w' (k:A4 w w')=>Ef 7 ds (AH eb) eb (V6 _) gb h w' cb (hEb w' k));have HLa:=V3 (V5 (Gy 7 ds _ ea (V6 _) ga) (Gy 7 ds _ eb (V6 _) gb));have HL:=V3 (V5 (BC hea) (BC heb));have HO:=V3 (V5 (Fe hea) (Fe heb));have HRg:=V3 (show ∀w',A4 w w'→w'.rangeAt b o ca∧w'.rangeAt b (o+11) cb from fun w' k=>⟨AU hra (Nat.lt_trans hbb hlt) k (fun h=>h),AU hrb (Nat.lt_trans hbb hlt) k (fun h=>h)⟩);obtain⟨la,hla⟩:∃l,(vE 7 ds ea).2.2=l:=⟨_,rfl⟩;obtain⟨lb,hlb⟩:∃l,(vE 7 ds eb).2.2=l:=⟨_,rfl⟩;obtain⟨x,hx⟩:∃x,BJ ea=x:=⟨_,rfl⟩;obtain⟨xb,hxb⟩:∃x,BJ eb=x:=⟨_,rfl⟩;rw[hla]at HRA HLa ⊢;rw[hlb]at HRB HLa ⊢;rw[hx]at HA HRA ⊢;rw[hxb]at HC HRB ⊢;have HUu:=V3 (V5 hua hub);clear hr hT hra hrb hea heb hEa hEb hla hlb hx hxb ga gb hks hua hub;have h2:=VW w 29 (AC e vm vb (.slice (some ⟨b,o,none⟩) 2 c)).toArray;have hb2:=hb.alloc (.cells (AC e vm vb (.slice (some ⟨b,o,none⟩) 2 c)).toArray 29);have k2:=(VU w).alloc (.cells (AC e vm vb (.slice (some ⟨b,o,none⟩) 2 c)).toArray 29);go_enter Tryz.func80,Tryz.ntmps80;go_upto_region 1 with fail;change Code.wp _ _ _ _ (((w.alloc (.cells (AC e vm vb (.slice (some ⟨b,o,none⟩) 2 c)).toArray 29)).alloc (.cells (Aa ua++Aa ub).toArray 127)).alloc (.cells (Aa BO).toArray 51));generalize hw1:w.alloc (.cells (AC e vm vb (.slice (some ⟨b,o,none⟩) 2 c)).toArray 29)=w1 at*;have s1:w1.heap.size=w.heap.size+1:=by rw[←hw1];simp
 clear hw1;have h3:=VW w1 127 (Aa ua++Aa ub).toArray;have hb3:=hb2.alloc (.cells (Aa ua++Aa ub).toArray 127);have h23:=h2.alloc (.cells (Aa ua++Aa ub).toArray 127);have k3:=k2.alloc (.cells (Aa ua++Aa ub).toArray 127);generalize hw2:w1.alloc (.cells (Aa ua++Aa ub).toArray 127)=w2 at*;have s2:w2.heap.size=w1.heap.size+1:=by rw[←hw2];simp
 clear hw2;have h4:=VW w2 51 (Aa BO).toArray;have hb4:=hb3.alloc (.cells (Aa BO).toArray 51);have h24:=h23.alloc (.cells (Aa BO).toArray 51);have h34:=h3.alloc (.cells (Aa BO).toArray 51);have k4:=k3.alloc (.cells (Aa BO).toArray 51);generalize w2.alloc (.cells (Aa BO).toArray 51)=w3 at*;obtain⟨y,hy⟩:∃y,w.heap.size=y:=⟨_,rfl⟩;rw[hy]at s1 h24 ⊢;rw[s1]at s2;obtain⟨k,hk⟩:∃k,y+1=k:=⟨_,rfl⟩;obtain⟨z,hz⟩:∃z,y+1+1=z:=⟨_,rfl⟩;rw[s1,hk]at h34;rw[s2,hz]at h4
 first|rw[hz]|rw[show y+2=z from hz]
 rw[hk];have HNe:=V3 (show z≠g∧w.heap.size≤z from⟨by omega,by omega⟩);have HX:=V3 h24;have HKu:=V3 h34;have HZ:=V3 h4;have HB:=V3 hb4;have HK:=V3 k4;have HSz:=V3 (show k<w3.heap.size from h34.lt);clear hb hb2 h2 k2 hy hz hk s1 s2 h3 hb3 h23 k3 hlt hb4 h4 h24 h34 k4;have gd:A4 w3 w3.drew:=VX (VU w3);have HX10:=V3 (fun w' (h:A4 w3.drew w')=>(HX.out.grew (gd.trans h)).cell 10);have HRg2:=V3 (fun w' (h:A4 w3.drew w')=>HRg.out w' (HK.out.trans (gd.trans h)));go_cut [7,8] (fun s7 s8 wx=>∃(p q:Nat),s7= .pointer (some ⟨p,0,none⟩)∧s8= .pointer (some ⟨q,0,none⟩)∧AR wx p 29 ca.toArray∧AR wx q 29 cb.toArray∧A4 w3 wx)
 case first=>
  refine lR 11 (fun w'=>A4 w3.drew w') (VU _) fun hcl hkn=>?_
  try simp only[nf]
  refine tP (i:=0) hcl hkn fun hcl hkn=>?_
  try simp only[nf]
  refine' BK [] 11 _ (i:=1) (v:=_) rfl (by kernel_rfl) (by kernel_rfl) (by kernel_rfl) hcl hkn (by rfl) 0 rfl (by kernel_rfl) (fun _ _ _ h=>h) rfl ?_ ?_
  rotate_left
  ·intro w' hA;have hc:w'.cell? ⟨y,10,none⟩=some (.slice (some ⟨b,o,none⟩) 2 c):=HX10.out _ hA;go_simp;try with_reducible rfl
  clear hcl hkn;intro hcl hkn
  try simp only[nf]
  refine tP (i:=2) hcl hkn fun hcl hkn=>?_
  try simp only[nf]
  refine C9 (i:=3) 11 hcl hkn (.tmp 11) b o (ca) (fun w' hA=>(HRg2.out _ hA).1) HL.out.1 fun hcl hkn=>?_
  try simp only[nf]
  refine tP (i:=4) hcl hkn fun hcl hkn=>?_
  try simp only[nf]
  refine' BK [] 11 _ (i:=5) (v:=_) rfl (by kernel_rfl) (by kernel_rfl) (by kernel_rfl) hcl hkn (by rfl) 0 rfl (by kernel_rfl) (fun _ _ _ h=>h) rfl ?_ ?_
  rotate_left
  ·intro w' hA;have hc:w'.cell? ⟨y,10,none⟩=some (.slice (some ⟨b,o,none⟩) 2 c):=HX10.out _ hA;go_simp;try with_reducible rfl
  clear hcl hkn;intro hcl hkn
  try simp only[nf]
  refine tP (i:=6) hcl hkn fun hcl hkn=>?_
  try simp only[nf]
  refine C9 (i:=7) 11 hcl hkn (.tmp 15) b (o+11) (cb) (fun w' hA=>(HRg2.out _ hA).2) HL.out.2 fun hcl hkn=>?_
  try simp only[nf]
  refine OQ hcl (i:=8) (j:=9) (by kernel_rfl) rfl rfl rfl rfl (fun K hK=>?_) (fun K hK=>?_)
  ·refine GE rfl ?_;intro wa hba ka;refine hK _ _ (kr ka) ?_;clear hK K;clear hcl hkn;intro hcl hkn
   try simp only[nf]
   refine oN (i:=9) hcl fun K hK=>?_
   refine GE rfl ?_;intro wb hbb2 kb;refine hK _ _ (kr (ka.trans kb)) ?_;clear hK K;clear hcl hkn;intro hcl hkn
   try simp only[nf]
   refine oN (i:=10) hcl fun K hK=>?_
   refine sW (.tmp 7) (.tmp 12) ca (hba.grew kb) rX ?_ (hl:=HL.out.1) (h1:=HO.out.1);intro wc hbc kc;have hne:w3.drew.heap.size≠wa.heap.size:=by have:=hba.lt;omega
   refine hK _ _ (kr (VV (ka.trans kb) kc fun i hi e=>by have:=ka.size;omega)) ?_;clear hK K;clear hcl hkn;intro hcl hkn
   try simp only[nf]
   refine oN (i:=11) hcl fun K hK=>?_
   refine sW (.tmp 8) (.tmp 16) cb (hbb2.keep kc (fun e=>hne e.symm)) rX ?_ (hl:=HL.out.2) (h1:=HO.out.2);intro wd hbd kd;refine hK _ _ kl ?_;clear hK K;clear hcl hkn;intro hcl hkn
   try simp only[nf]
   refine aD ?_;clear hcl hkn;go_wp2_with fail;go_meet;exact⟨_,_,rfl,rfl,hbc.keep kd hne,hbd,gd.trans (VV (VV (ka.trans kb) kc fun i hi e=>by have:=ka.size;omega) kd fun i hi e=>by have:=ka.size;omega)⟩
  refine GE rfl ?_;intro wa hba ka;refine hK _ _ (kr ka) ?_;clear hK K;clear hcl hkn;intro hcl hkn
  try simp only[nf]
  refine oN (i:=8) hcl fun K hK=>?_
  refine GE rfl ?_;intro wb hbb2 kb;refine hK _ _ (kr (ka.trans kb)) ?_;clear hK K;clear hcl hkn;intro hcl hkn
  try simp only[nf]
  refine oN (i:=10) hcl fun K hK=>?_
  refine sW (.tmp 7) (.tmp 12) ca hbb2 rX ?_ (hl:=HL.out.1) (h1:=HO.out.1);intro wc hbc kc;have hne:wa.heap.size≠w3.drew.heap.size:=by have:=hba.lt;omega
  refine hK _ _ (kr (VV (ka.trans kb) kc fun i hi e=>by have:=ka.size;omega)) ?_;clear hK K;clear hcl hkn;intro hcl hkn
  try simp only[nf]
  refine oN (i:=11) hcl fun K hK=>?_
  refine sW (.tmp 8) (.tmp 16) cb ((hba.grew kb).keep kc (fun e=>hne e.symm)) rX ?_ (hl:=HL.out.2) (h1:=HO.out.2);intro wd hbd kd;refine hK _ _ kl ?_;clear hK K;clear hcl hkn;intro hcl hkn
  try simp only[nf]
  refine aD ?_;clear hcl hkn;go_wp2_with fail;go_meet;exact⟨_,_,rfl,rfl,hbc.keep kd hne,hbd,gd.trans (VV (VV (ka.trans kb) kc fun i hi e=>by have:=ka.size;omega) kd fun i hi e=>by have:=ka.size;omega)⟩
 case rest=>
  obtain⟨za,zb,rfl,rfl,hba,hbb2,hg4⟩:=hcut;have HBa:=V3 hba;have HBb:=V3 hbb2;have HG4:=V3 hg4;clear hba hbb2 hg4 HX10 HRg2 gd;have gd:A4 wc wc.drew:=VX (VU wc);obtain⟨p,hp⟩:∃p:Bool,(!x&& !xb&& !decide (la=lb))=p:=⟨_,rfl⟩;go_upto_region 2 with fail;go_cut [32] (fun s wx=>s= .bool p∧A4 wc wx)
  case first=>
   cases x
   ·cases xb
    ·refine lR 15 (fun w'=>A4 wc.drew w') (VU _) fun hcl hkn=>?_
     try simp only[nf]
     refine Cb [8,7,3,2,1] 15 _ (i:=0) rfl (by kernel_rfl) (by kernel_rfl) (by kernel_rfl) hcl hkn (by rfl) 0 rfl (by kernel_rfl) 29 (.tmp 7) rfl za 0 rfl (ca) _ (fun w' hA=>(HBa.out.grew (gd.trans hA)).rangeN 0 _ (by simp)) Tryz.underlying29 rfl (by rw[HL.out.1];exact AE) (fun _ _ _ h=>h) (by kernel_rfl) ?_;clear hcl hkn;intro hcl hkn
     try simp only[nf]
     refine oN (i:=1) hcl fun K hK=>?_
     go_simp;(with_reducible refine(HA.out _ (HK.out.trans (HG4.out.trans gd))).mono ?_);rintro e5 w5 ⟨rfl,k5⟩;refine hK _ _ (kr (k5)) ?_;clear hK K;clear hcl hkn;intro hcl hkn
     try simp only[nf]
     refine tP (i:=2) hcl hkn fun hcl hkn=>?_
     try simp only[nf]
     refine tP (i:=3) hcl hkn fun hcl hkn=>?_
     try simp only[nf]
     refine Cb [8,7,6,5] 15 _ (i:=4) rfl (by kernel_rfl) (by kernel_rfl) (by kernel_rfl) hcl hkn (by rfl) 0 rfl (by kernel_rfl) 29 (.tmp 8) rfl zb 0 rfl (cb) _ (fun w' hA=>(HBb.out.grew (gd.trans hA)).rangeN 0 _ (by simp)) Tryz.underlying29 rfl (by rw[HL.out.2];exact AE) (fun _ _ _ h=>h) (by kernel_rfl) ?_;clear hcl hkn;intro hcl hkn
     try simp only[nf]
     refine Eo hcl (i:=5) (by kernel_rfl) rfl (by kernel_rfl) (fun K hK=>?_);go_simp;(with_reducible refine(HC.out _ (HK.out.trans (HG4.out.trans (gd.trans k5)))).mono ?_);rintro e6 w6 ⟨rfl,k6⟩;refine hK _ _ (kr (k5.trans k6)) ?_;clear hK K;clear hcl hkn;intro hcl hkn
     try simp only[nf]
     refine' GR [8,7] 15 _ (i:=6) (v:=_) rfl (by kernel_rfl) (by kernel_rfl) (by kernel_rfl) hcl hkn (by rfl) 0 rfl (by kernel_rfl) (fun _ _ _ h=>h) (by kernel_rfl) ?_ ?_
     rotate_left
     ·intro w' hA;clear hA;go_simp;try with_reducible rfl
     clear hcl hkn;intro hcl hkn
     try simp only[nf]
     refine' AV (i:=7) (v:= .bool true) rfl (by kernel_rfl) (by kernel_rfl) (by kernel_rfl) hcl hkn (by rfl) (fun _ _ _ h=>h) rfl ?_ ?_
     ·intro w';go_simp
     clear hcl hkn;intro hcl hkn
     try simp only[nf]
     refine tP (i:=8) hcl hkn fun hcl hkn=>?_
     try simp only[nf]
     refine Cb [14,13,10] 15 _ (i:=9) rfl (by kernel_rfl) (by kernel_rfl) (by kernel_rfl) hcl hkn (by rfl) 0 rfl (by kernel_rfl) 29 (.tmp 7) rfl za 0 rfl (ca) _ (fun w' hA=>(HBa.out.grew (gd.trans hA)).rangeN 0 _ (by simp)) Tryz.underlying29 rfl (by rw[HL.out.1];exact AE) (fun _ _ _ h=>h) (by kernel_rfl) ?_;clear hcl hkn;intro hcl hkn
     try simp only[nf]
     refine Cb [14,13,12] 15 _ (i:=11) rfl (by kernel_rfl) (by kernel_rfl) (by kernel_rfl) hcl hkn (by rfl) 0 rfl (by kernel_rfl) 29 (.tmp 8) rfl zb 0 rfl (cb) _ (fun w' hA=>(HBb.out.grew (gd.trans hA)).rangeN 0 _ (by simp)) Tryz.underlying29 rfl (by rw[HL.out.2];exact AE) (fun _ _ _ h=>h) (by kernel_rfl) ?_;clear hcl hkn;intro hcl hkn
     try simp only[nf]
     refine Eo hcl (i:=10) (by kernel_rfl) rfl (by kernel_rfl) (fun K hK=>?_);go_simp;(with_reducible refine(HRA.out rfl _ (HK.out.trans (HG4.out.trans (gd.trans (k5.trans k6))))).mono ?_);rintro e7 w7 ⟨v7,rfl,h7,k7⟩;refine hK _ _ (kr ((k5.trans k6).trans k7)) ?_;clear hK K;clear hcl hkn;intro hcl hkn
     try simp only[nf]
     refine Eo hcl (i:=12) (by kernel_rfl) rfl (by kernel_rfl) (fun K hK=>?_);go_simp;(with_reducible refine(HRB.out rfl _ (HK.out.trans (HG4.out.trans (gd.trans ((k5.trans k6).trans k7))))).mono ?_);rintro e8 w8 ⟨v8,rfl,h8,k8⟩;refine hK _ _ (kr (((k5.trans k6).trans k7).trans k8)) ?_;clear hK K;clear hcl hkn;intro hcl hkn
     try simp only[nf]
     refine Eo hcl (i:=13) (by kernel_rfl) rfl (by kernel_rfl) (fun K hK=>?_);go_simp;refine(KD v7 v8 la lb w8 (Cg.keep (h7.toB (B:=w7.heap.size) (fun _ h=>h)) (V6 _) k8.size k8 (fun _ _ h=>h)) (h8.toB (fun _ h=>h)) HLa.out.1 HLa.out.2).mono ?_;rintro e9 w9 ⟨rfl,k9⟩;refine hK _ _ (Aw (.inr ((((k5.trans k6).trans k7).trans k8).trans k9))) ?_;clear hK K;clear hcl hkn;intro hcl hkn
     try simp only[nf]
     refine' GR [] 15 _ (i:=14) (v:=_) rfl (by kernel_rfl) (by kernel_rfl) (by kernel_rfl) hcl hkn (by rfl) 0 rfl (by kernel_rfl) (fun _ _ _ h=>h) (by kernel_rfl) ?_ ?_
     rotate_left
     ·intro w' hA;clear hA;go_simp;try with_reducible rfl
     clear hcl hkn;intro hcl hkn
     try simp only[nf]
     refine oN (i:=15) hcl fun K hK=>?_
     go_simp;refine hK _ _ kl ?_;clear hK K;clear hcl hkn;intro hcl hkn
     try simp only[nf]
     refine aD ?_;clear hcl hkn;go_wp2_with fail;go_meet;exact⟨by rw[←hp];first|rfl|simp,gd.trans ((((k5.trans k6).trans k7).trans k8).trans k9)⟩
    refine lR 15 (fun w'=>A4 wc.drew w') (VU _) fun hcl hkn=>?_
    try simp only[nf]
    refine Cb [8,7,3,2,1] 15 _ (i:=0) rfl (by kernel_rfl) (by kernel_rfl) (by kernel_rfl) hcl hkn (by rfl) 0 rfl (by kernel_rfl) 29 (.tmp 7) rfl za 0 rfl (ca) _ (fun w' hA=>(HBa.out.grew (gd.trans hA)).rangeN 0 _ (by simp)) Tryz.underlying29 rfl (by rw[HL.out.1];exact AE) (fun _ _ _ h=>h) (by kernel_rfl) ?_;clear hcl hkn;intro hcl hkn
    try simp only[nf]
    refine oN (i:=1) hcl fun K hK=>?_
    go_simp;(with_reducible refine(HA.out _ (HK.out.trans (HG4.out.trans gd))).mono ?_);rintro e5 w5 ⟨rfl,k5⟩;refine hK _ _ (kr (k5)) ?_;clear hK K;clear hcl hkn;intro hcl hkn
    try simp only[nf]
    refine tP (i:=2) hcl hkn fun hcl hkn=>?_
    try simp only[nf]
    refine tP (i:=3) hcl hkn fun hcl hkn=>?_
    try simp only[nf]
    refine Cb [8,7,6,5] 15 _ (i:=4) rfl (by kernel_rfl) (by kernel_rfl) (by kernel_rfl) hcl hkn (by rfl) 0 rfl (by kernel_rfl) 29 (.tmp 8) rfl zb 0 rfl (cb) _ (fun w' hA=>(HBb.out.grew (gd.trans hA)).rangeN 0 _ (by simp)) Tryz.underlying29 rfl (by rw[HL.out.2];exact AE) (fun _ _ _ h=>h) (by kernel_rfl) ?_;clear hcl hkn;intro hcl hkn
    try simp only[nf]
    refine Eo hcl (i:=5) (by kernel_rfl) rfl (by kernel_rfl) (fun K hK=>?_);go_simp;(with_reducible refine(HC.out _ (HK.out.trans (HG4.out.trans (gd.trans k5)))).mono ?_);rintro e6 w6 ⟨rfl,k6⟩;refine hK _ _ (kr (k5.trans k6)) ?_;clear hK K;clear hcl hkn;intro hcl hkn
    try simp only[nf]
    refine' GR [8,7] 15 _ (i:=6) (v:=_) rfl (by kernel_rfl) (by kernel_rfl) (by kernel_rfl) hcl hkn (by rfl) 0 rfl (by kernel_rfl) (fun _ _ _ h=>h) (by kernel_rfl) ?_ ?_
    rotate_left
    ·intro w' hA;clear hA;go_simp;try with_reducible rfl
    clear hcl hkn;intro hcl hkn
    try simp only[nf]
    refine' AV (i:=7) (v:= .bool false) rfl (by kernel_rfl) (by kernel_rfl) (by kernel_rfl) hcl hkn (by rfl) (fun _ _ _ h=>h) rfl ?_ ?_
    ·intro w';go_simp
    clear hcl hkn;intro hcl hkn
    try simp only[nf]
    refine tP (i:=8) hcl hkn fun hcl hkn=>?_
    try simp only[nf]
    refine BQ (i:=9) rfl (by kernel_rfl) (by kernel_rfl) (by kernel_rfl) hcl hkn (by rfl) (fun _ _ _ h=>h) (by kernel_rfl) ?_;clear hcl hkn;intro hcl hkn
    try simp only[nf]
    refine BQ (i:=10) rfl (by kernel_rfl) (by kernel_rfl) (by kernel_rfl) hcl hkn (by rfl) (fun _ _ _ h=>h) (by kernel_rfl) ?_;clear hcl hkn;intro hcl hkn
    try simp only[nf]
    refine BQ (i:=11) rfl (by kernel_rfl) (by kernel_rfl) (by kernel_rfl) hcl hkn (by rfl) (fun _ _ _ h=>h) (by kernel_rfl) ?_;clear hcl hkn;intro hcl hkn
    try simp only[nf]
    refine BQ (i:=12) rfl (by kernel_rfl) (by kernel_rfl) (by kernel_rfl) hcl hkn (by rfl) (fun _ _ _ h=>h) (by kernel_rfl) ?_;clear hcl hkn;intro hcl hkn
    try simp only[nf]
    refine BQ (i:=13) rfl (by kernel_rfl) (by kernel_rfl) (by kernel_rfl) hcl hkn (by rfl) (fun _ _ _ h=>h) (by kernel_rfl) ?_;clear hcl hkn;intro hcl hkn
    try simp only[nf]
    refine BQ (i:=14) rfl (by kernel_rfl) (by kernel_rfl) (by kernel_rfl) hcl hkn (by rfl) (fun _ _ _ h=>h) (by kernel_rfl) ?_;clear hcl hkn;intro hcl hkn
    try simp only[nf]
    refine oN (i:=15) hcl fun K hK=>?_
    go_simp;refine hK _ _ kl ?_;clear hK K;clear hcl hkn;intro hcl hkn
    try simp only[nf]
    refine aD ?_;clear hcl hkn;go_wp2_with fail;go_meet;exact⟨by rw[←hp];first|rfl|simp,gd.trans (k5.trans k6)⟩
   refine lR 15 (fun w'=>A4 wc.drew w') (VU _) fun hcl hkn=>?_
   try simp only[nf]
   refine Cb [8,7,3,2,1] 15 _ (i:=0) rfl (by kernel_rfl) (by kernel_rfl) (by kernel_rfl) hcl hkn (by rfl) 0 rfl (by kernel_rfl) 29 (.tmp 7) rfl za 0 rfl (ca) _ (fun w' hA=>(HBa.out.grew (gd.trans hA)).rangeN 0 _ (by simp)) Tryz.underlying29 rfl (by rw[HL.out.1];exact AE) (fun _ _ _ h=>h) (by kernel_rfl) ?_;clear hcl hkn;intro hcl hkn
   try simp only[nf]
   refine oN (i:=1) hcl fun K hK=>?_
   go_simp;(with_reducible refine(HA.out _ (HK.out.trans (HG4.out.trans gd))).mono ?_);rintro e5 w5 ⟨rfl,k5⟩;refine hK _ _ (kr (k5)) ?_;clear hK K;clear hcl hkn;intro hcl hkn
   try simp only[nf]
   refine tP (i:=2) hcl hkn fun hcl hkn=>?_
   try simp only[nf]
   refine tP (i:=3) hcl hkn fun hcl hkn=>?_
   try simp only[nf]
   refine BQ (i:=4) rfl (by kernel_rfl) (by kernel_rfl) (by kernel_rfl) hcl hkn (by rfl) (fun _ _ _ h=>h) (by kernel_rfl) ?_;clear hcl hkn;intro hcl hkn
   try simp only[nf]
   refine BQ (i:=5) rfl (by kernel_rfl) (by kernel_rfl) (by kernel_rfl) hcl hkn (by rfl) (fun _ _ _ h=>h) (by kernel_rfl) ?_;clear hcl hkn;intro hcl hkn
   try simp only[nf]
   refine BQ (i:=6) rfl (by kernel_rfl) (by kernel_rfl) (by kernel_rfl) hcl hkn (by rfl) (fun _ _ _ h=>h) (by kernel_rfl) ?_;clear hcl hkn;intro hcl hkn
   try simp only[nf]
   refine' AV (i:=7) (v:= .bool false) rfl (by kernel_rfl) (by kernel_rfl) (by kernel_rfl) hcl hkn (by rfl) (fun _ _ _ h=>h) rfl ?_ ?_
   ·intro w';go_simp
   clear hcl hkn;intro hcl hkn
   try simp only[nf]
   refine tP (i:=8) hcl hkn fun hcl hkn=>?_
   try simp only[nf]
   refine BQ (i:=9) rfl (by kernel_rfl) (by kernel_rfl) (by kernel_rfl) hcl hkn (by rfl) (fun _ _ _ h=>h) (by kernel_rfl) ?_;clear hcl hkn;intro hcl hkn
   try simp only[nf]
   refine BQ (i:=10) rfl (by kernel_rfl) (by kernel_rfl) (by kernel_rfl) hcl hkn (by rfl) (fun _ _ _ h=>h) (by kernel_rfl) ?_;clear hcl hkn;intro hcl hkn
   try simp only[nf]
   refine BQ (i:=11) rfl (by kernel_rfl) (by kernel_rfl) (by kernel_rfl) hcl hkn (by rfl) (fun _ _ _ h=>h) (by kernel_rfl) ?_;clear hcl hkn;intro hcl hkn
   try simp only[nf]
   refine BQ (i:=12) rfl (by kernel_rfl) (by kernel_rfl) (by kernel_rfl) hcl hkn (by rfl) (fun _ _ _ h=>h) (by kernel_rfl) ?_;clear hcl hkn;intro hcl hkn
   try simp only[nf]
   refine BQ (i:=13) rfl (by kernel_rfl) (by kernel_rfl) (by kernel_rfl) hcl hkn (by rfl) (fun _ _ _ h=>h) (by kernel_rfl) ?_;clear hcl hkn;intro hcl hkn
   try simp only[nf]
   refine BQ (i:=14) rfl (by kernel_rfl) (by kernel_rfl) (by kernel_rfl) hcl hkn (by rfl) (fun _ _ _ h=>h) (by kernel_rfl) ?_;clear hcl hkn;intro hcl hkn
   try simp only[nf]
   refine oN (i:=15) hcl fun K hK=>?_
   go_simp;refine hK _ _ kl ?_;clear hK K;clear hcl hkn;intro hcl hkn
   try simp only[nf]
   refine aD ?_;clear hcl hkn;go_wp2_with fail;go_meet;exact⟨by rw[←hp];first|rfl|simp,gd.trans (k5)⟩
  case rest=>
   obtain⟨rfl,hg5⟩:=hcut;have HGn:=V3 (HG4.out.trans hg5);clear hg5 gd HBa HBb HG4 HRg;have HBn:=V3 (HB.out.grew HGn.out);have HZn:=V3 (HZ.out.grew HGn.out);have HKn:=V3 (HK.out.trans HGn.out);have HKv:=V3 (HKu.out.grew HGn.out);have HP:=V3 hp;clear hp;cases p
   ·have HT0:=V3 (show Ej 7 e.fn x xb la lb ua ub=if e.fn=2 then FB (GL ua ub)else if e.fn=3 then FB (IR ua ub)else if ua≠ub then(BO,7)else(ua,0)from by
     unfold Ej;refine VM fun h=>?_
     obtain⟨rfl,rfl,h3⟩:=h;have h4:=HP.out;rw[VI h3]at h4;cases h4)
    have c1:wc.cell? ⟨y,1,none⟩=some (.int .i64 e.fn):=(HX.out.grew HGn.out).cell 1;have gd:A4 wc wc.drew:=VX (VU wc);by_cases h2:e.fn=2
    ·have t2:(e.fn==2)=true:=by rw[VC];exact h2
     have HT:=V3 (HT0.out.trans (VN h2));clear h2;go_upto_region 6 with fail;refine lR 7 (fun w'=>A4 wc.drew w') (VU _) fun hcl hkn=>?_
     try simp only[nf]
     refine tP (i:=0) hcl hkn fun hcl hkn=>?_
     try simp only[nf]
     refine tP (i:=1) hcl hkn fun hcl hkn=>?_
     try simp only[nf]
     refine tP (i:=2) hcl hkn fun hcl hkn=>?_
     try simp only[nf]
     refine tP (i:=3) hcl hkn fun hcl hkn=>?_
     try simp only[nf]
     refine Bg 7 _ (i:=4) rfl (by kernel_rfl) (by kernel_rfl) (by kernel_rfl) hcl hkn (by rfl) 0 rfl (by kernel_rfl) 51 (.tmp 44) rfl k 0 rfl (Aa ua) _ (fun w' hA=>(HKv.out.grew (gd.trans hA)).rangeN 0 (Aa ua) rfl) Tryz.underlying51 rfl Ag (fun _ _ _ h=>h) rfl ?_;clear hcl hkn;intro hcl hkn
     try simp only[nf]
     refine tP (i:=5) hcl hkn fun hcl hkn=>?_
     try simp only[nf]
     refine Bg 7 _ (i:=6) rfl (by kernel_rfl) (by kernel_rfl) (by kernel_rfl) hcl hkn (by rfl) 0 rfl (by kernel_rfl) 51 (.tmp 46) rfl k 3 rfl (Aa ub) _ (fun w' hA=>(HKv.out.grew (gd.trans hA)).rangeN 3 (Aa ub) rfl) Tryz.underlying51 rfl Ag (fun _ _ _ h=>h) rfl ?_;clear hcl hkn;intro hcl hkn
     try simp only[nf]
     refine oN (i:=7) hcl fun K hK=>?_
     go_simp;(with_reducible refine(Pq ua ub HUu.out.1 HUu.out.2 _).mono ?_);rintro e5 w5 ⟨rfl,k5⟩;refine hK _ _ kl ?_;clear hK K;clear hcl hkn;intro hcl hkn
     try simp only[nf]
     refine oN (i:=8) hcl fun K hK=>?_
     go_simp;(with_reducible refine(FF g T dv (GL ua ub) _ (HBn.out.grew (gd.trans k5))).mono ?_);rintro e8 w8 ⟨rfl,hb8,k8⟩;refine hK _ _ kl ?_;clear hK K;clear hcl hkn;intro hcl hkn
     try simp only[nf]
     refine oN (i:=9) hcl fun K hK=>?_
     refine sW (.tmp 6) (.tmp 49) (Aa (FB (GL ua ub)).1) ((HZn.out.grew (gd.trans k5)).keep k8 HNe.out.1) KH ?_;intro w9 hb9 k9;refine hK _ _ kl ?_;clear hK K;clear hcl hkn;intro hcl hkn
     try simp only[nf]
     refine aD ?_;clear hcl hkn;have HB9:=V3 (hb8.keep k9 (fun e=>HNe.out.1 e.symm));have HZ9:=V3 hb9;have HK9:=V3 (VV (VV ((HKn.out.trans (gd.trans k5)).keeps (S:=fun i=>i=g)) k8 fun i _ h=>h) k9 fun i hi e=>by have:=HNe.out.2;omega);clear hb8 k8 hb9 k9 k5;go_wp2_with fail;refine rO KH HZ9.out ?_;rw[HT.out];exact⟨rfl,HB9.out,HK9.out⟩
    have t2:(e.fn==2)=false:=by rw[V4];exact h2
    have HT1:=V3 (HT0.out.trans (VM h2));clear h2;by_cases h3:e.fn=3
    ·have t3:(e.fn==3)=true:=by rw[VC];exact h3
     have HT:=V3 (HT1.out.trans (VN h3));clear h3;go_upto_region 8 with fail;refine lR 7 (fun w'=>A4 wc.drew w') (VU _) fun hcl hkn=>?_
     try simp only[nf]
     refine tP (i:=0) hcl hkn fun hcl hkn=>?_
     try simp only[nf]
     refine tP (i:=1) hcl hkn fun hcl hkn=>?_
     try simp only[nf]
     refine tP (i:=2) hcl hkn fun hcl hkn=>?_
     try simp only[nf]
     refine tP (i:=3) hcl hkn fun hcl hkn=>?_
     try simp only[nf]
     refine Bg 7 _ (i:=4) rfl (by kernel_rfl) (by kernel_rfl) (by kernel_rfl) hcl hkn (by rfl) 0 rfl (by kernel_rfl) 51 (.tmp 55) rfl k 0 rfl (Aa ua) _ (fun w' hA=>(HKv.out.grew (gd.trans hA)).rangeN 0 (Aa ua) rfl) Tryz.underlying51 rfl Ag (fun _ _ _ h=>h) rfl ?_;clear hcl hkn;intro hcl hkn
     try simp only[nf]
     refine tP (i:=5) hcl hkn fun hcl hkn=>?_
     try simp only[nf]
     refine Bg 7 _ (i:=6) rfl (by kernel_rfl) (by kernel_rfl) (by kernel_rfl) hcl hkn (by rfl) 0 rfl (by kernel_rfl) 51 (.tmp 57) rfl k 3 rfl (Aa ub) _ (fun w' hA=>(HKv.out.grew (gd.trans hA)).rangeN 3 (Aa ub) rfl) Tryz.underlying51 rfl Ag (fun _ _ _ h=>h) rfl ?_;clear hcl hkn;intro hcl hkn
     try simp only[nf]
     refine oN (i:=7) hcl fun K hK=>?_
     go_simp;(with_reducible refine(Q3 ua ub HUu.out.1 HUu.out.2 _).mono ?_);rintro e5 w5 ⟨rfl,k5⟩;refine hK _ _ kl ?_;clear hK K;clear hcl hkn;intro hcl hkn
     try simp only[nf]
     refine oN (i:=8) hcl fun K hK=>?_
     go_simp;(with_reducible refine(FF g T dv (IR ua ub) _ (HBn.out.grew (gd.trans k5))).mono ?_);rintro e8 w8 ⟨rfl,hb8,k8⟩;refine hK _ _ kl ?_;clear hK K;clear hcl hkn;intro hcl hkn
     try simp only[nf]
     refine oN (i:=9) hcl fun K hK=>?_
     refine sW (.tmp 6) (.tmp 60) (Aa (FB (IR ua ub)).1) ((HZn.out.grew (gd.trans k5)).keep k8 HNe.out.1) KH ?_;intro w9 hb9 k9;refine hK _ _ kl ?_;clear hK K;clear hcl hkn;intro hcl hkn
     try simp only[nf]
     refine aD ?_;clear hcl hkn;have HB9:=V3 (hb8.keep k9 (fun e=>HNe.out.1 e.symm));have HZ9:=V3 hb9;have HK9:=V3 (VV (VV ((HKn.out.trans (gd.trans k5)).keeps (S:=fun i=>i=g)) k8 fun i _ h=>h) k9 fun i hi e=>by have:=HNe.out.2;omega);clear hb8 k8 hb9 k9 k5;go_wp2_with fail;refine rO KH HZ9.out ?_;rw[HT.out];exact⟨rfl,HB9.out,HK9.out⟩
    have t3:(e.fn==3)=false:=by rw[V4];exact h3
    have HT2:=V3 (HT1.out.trans (VM h3));clear h3 gd;obtain⟨q,hq⟩:∃q:Bool,(!decide (ua=ub))=q:=⟨_,rfl⟩;have h9:=QH ua ub q hq;have HQ:=V3 hq;clear hq;go_upto_if 65 with(first|(refine lM (.tmp 61) (HKv.out.rangeN 0 (Aa ua) rfl) KH ?_ (vs:=(Aa ua)))|(refine lM (.tmp 63) (HKv.out.rangeN 3 (Aa ub) rfl) KH ?_ (vs:=(Aa ub))));clear h9;cases q
    ·have HT:=V3 (HT2.out.trans (VM (not_not_intro (by simpa using HQ.out))));go_wp2_with(first|(refine lM (.tmp 70) (HKv.out.rangeN 0 (Aa ua) rfl) KH ?_ (vs:=(Aa ua)))|(refine sN (.tmp 6) (.tmp 71) (Aa ua) HZn.out KH ?_;intro w9 hbw9 kw9 dw9;have HZ9:=V3 hbw9;have HB9:=V3 (HBn.out.keep kw9 (fun e=>HNe.out.1 e.symm));have HK9:=V3 (VV (HKn.out.keeps (S:=fun i=>i=g)) kw9 fun i hi e=>by have:=HNe.out.2;omega);clear hbw9 kw9 dw9)|fail);refine rO KH HZ9.out ?_;rw[HT.out];exact⟨rfl,HB9.out,HK9.out⟩
    have HT:=V3 (HT2.out.trans (VN (by simpa using HQ.out)));go_wp2_with(first|(go_at_call 79;(with_reducible refine(DN g T dv 7 _ HBn.out).mono ?_);rintro e8 w8 ⟨rfl,hb8,k8⟩;have HB8:=V3 hb8;have HZ8:=V3 (HZn.out.keep k8 HNe.out.1);have HK8:=V3 (VV (HKn.out.keeps (S:=fun i=>i=g)) k8 fun i _ h=>h);clear hb8 k8)|(refine sN (.tmp 6) (.tmp 69) (Aa BO) HZ8.out KH ?_;intro w9 hbw9 kw9 dw9;have HZ9:=V3 hbw9;have HB9:=V3 (HB8.out.keep kw9 (fun e=>HNe.out.1 e.symm));have HK9:=V3 (VV HK8.out kw9 fun i hi e=>by have:=HNe.out.2;omega);clear hbw9 kw9 dw9)|fail);refine rO KH HZ9.out ?_;rw[HT.out];exact⟨rfl,HB9.out,HK9.out⟩
   have HT:=V3 (show Ej 7 e.fn x xb la lb ua ub=(BO,7)from by
    unfold Ej;refine VN ?_;have h4:=HP.out;simp only[Bool.and_eq_true,Bool.not_eq_true',decide_eq_false_iff_not]at h4;exact⟨h4.1.1,h4.1.2,h4.2⟩)
   go_wp2_with(first|(go_at_call 79;(with_reducible refine(DN g T dv 7 _ HBn.out).mono ?_);rintro e8 w8 ⟨rfl,hb8,k8⟩;have HB8:=V3 hb8;have HZ8:=V3 (HZn.out.keep k8 HNe.out.1);have HK8:=V3 (VV (HKn.out.keeps (S:=fun i=>i=g)) k8 fun i _ h=>h);clear hb8 k8)|(refine sN (.tmp 6) (.tmp 36) (Aa BO) HZ8.out KH ?_;intro w9 hbw9 kw9 dw9;have HZ9:=V3 hbw9;have HB9:=V3 (HB8.out.keep kw9 (fun e=>HNe.out.1 e.symm));have HK9:=V3 (VV HK8.out kw9 fun i hi e=>by have:=HNe.out.2;omega);clear hbw9 kw9 dw9)|fail);refine rO KH HZ9.out ?_;rw[HT.out];exact⟨rfl,HB9.out,HK9.out⟩
end Go.Proofs.YthpflelgbadkcaaGreatDoor
