/- package rewrite: source of valid trees. -/
import Derived.Test.YthpflelgbadkcaaGreatDoorRewriteTypesP01
import Derived.Test.YthpflelgbadkcaaGreatDoorRewriteTypesP22
import Derived.Test.YthpflelgbadkcaaGreatDoorRewriteTypesP20
set_option maxRecDepth 100000
set_option maxHeartbeats 12800000
set_option linter.unusedVariables false
set_option linter.unusedSimpArgs false
namespace Go.Proofs.YthpflelgbadkcaaGreatDoor
open Go.RowKit Pl
def Oh (bys:List ByteArray) (l:ByteArray):ByteArray:=(⟨#[98,121,40]⟩:ByteArray)++IQ bys++⟨#[41,40]⟩++l++⟨#[41]⟩
def JF (k:Int) (nm:ByteArray) (ms:List Mt) (bys:List ByteArray) (ps:List (Bool×ByteArray×Bool)):ByteArray×Bool:=
 if k=1 then(NU nm ms,true)else match ps with
  |[(_,l,kn)]=>if k=2 then(Oh bys l,kn)else(⟨#[]⟩,false)
  |[(ra,la,ka),(rb,lb,kb)]=>if k=3 then(if ra then(lb,kb)else if rb then(la,ka)else(la,ka&&kb&&la.toList==lb.toList))else(⟨#[]⟩,false)
  |_=>(⟨#[]⟩,false)
mutual
def CX:Ex→ByteArray×Bool
 | .mk k _ _ _ _ _ _ nm ms bys ks=>JF k nm ms bys (IW ks)
def IW:List Ex→List (Bool×ByteArray×Bool)
 |[]=>[]
 |e::es=>(BJ e,CX e)::IW es
end
theorem G7 (e:Ex):CX e=JF e.kind e.name e.ms e.bys (IW e.kids):=by cases e;rw[CX];rfl
theorem J7 {e a b:Ex} (h:e.kind=3) (hk:e.kids=[a,b]):CX e=if BJ a then CX b else if BJ b then CX a else((CX a).1,(CX a).2&&(CX b).2&&(CX a).1.toList==(CX b).1.toList):=by
 rw[G7,hk,h];unfold IW IW IW JF;rw[VM (by decide)];simp
theorem LN {e a:Ex} (h:e.kind=2) (hk:e.kids=[a]):CX e=(Oh e.bys (CX a).1,(CX a).2):=by
 rw[G7,hk,h];unfold IW IW JF;rw[VM (by decide)];simp
theorem MD {e:Ex} (h:e.kind=1):CX e=(NU e.name e.ms,true):=by
 rw[G7,h];unfold JF;rw[VN rfl]
def LZ (e:Ex):Prop:=(e.kind=0∧e.kids=[])∨(e.kind=1∧Lv e.name e.ms∨e.kind=2∧(∃a,e.kids=[a])∧Pu e.bys)∨(e.kind=3∧∃a b,e.kids=[a,b])
theorem Hg {e:Ex} (h:LZ e):He e:=fun h3=>by
 rcases h with⟨h, -⟩|(⟨h, -⟩|⟨h, -⟩)|⟨-,h⟩
 ·rw[h]at h3;cases h3
 ·rw[h]at h3;cases h3
 ·rw[h]at h3;cases h3
 exact h
theorem MP {e:Ex} (hok:Bz e) (hv:Bq e=0):LZ e:=by
 obtain⟨hs, -⟩:=Gc hv;have hs0:=hs;unfold BH at hs;simp only[Bool.and_eq_true,Bool.or_eq_true,decide_eq_true_eq]at hs;rcases hs.1.1.1 with((⟨h, -⟩|h)|h)|h
 ·exact .inl ⟨h.1,List.length_eq_zero_iff.1 h.2.2⟩
 ·exact .inr (.inl (.inl ⟨h.1,MU h.1 hok hv⟩))
 ·refine .inr (.inl (.inr ⟨h.1,?_,MI hv⟩));rcases hk:e.kids with _|⟨a,_|⟨b,l⟩⟩
  ·rw[hk]at h;simp at h
  ·exact⟨a,rfl⟩
  rw[hk]at h;simp at h
 refine .inr (.inr ⟨h.1,?_⟩);rcases hk:e.kids with _|⟨a,_|⟨b,_|⟨c,l⟩⟩⟩
 ·rw[hk]at h;simp at h
 ·rw[hk]at h;simp at h
 ·exact⟨a,b,rfl⟩
 rw[hk]at h;simp at h
theorem PU (bys:List ByteArray) (l:ByteArray):(Oh bys l).size=6+(IQ bys).size+l.size:=by
 unfold Oh;rw[ByteArray.size_append,ByteArray.size_append,ByteArray.size_append,ByteArray.size_append];show 3+_+2+_+1=_;omega
theorem Hp:∀(k:Nat) (e:Ex),AH e≤k→BW LZ e→(CX e).1.size≤3000*AH e
 |0,e,h,_=>absurd (Aj e) (by omega)
 |k+1,e,hk,h=>by
  have hne:=Az e;rcases h.top with⟨h0,hks⟩|(⟨h1,hs⟩|⟨h2,⟨a,hks⟩,hb⟩)|⟨h3,a,b,hks⟩
  ·have:CX e=(⟨#[]⟩,false):=by rw[G7,hks,h0];rfl
   rw[this];exact Nat.zero_le _
  ·rw[MD h1];have h5:=hs.2.2.2.2.2;rw[←O4,CD]at h5;have:=Aj e;show(NU e.name e.ms).size≤_;omega
  ·rw[LN h2 hks];have hm:=AT (show a∈e.kids by rw[hks];simp);have h5:=Hp k a (by omega) (h.kid (by rw[hks];simp));show(Oh e.bys (CX a).1).size≤_;rw[PU];have h6:=hb.2;omega
  rw[J7 h3 hks];have hma:=AT (show a∈e.kids by rw[hks];simp);have hmb:=AT (show b∈e.kids by rw[hks];simp);have h5:=Hp k a (by omega) (h.kid (by rw[hks];simp));have h6:=Hp k b (by omega) (h.kid (by rw[hks];simp));split
  ·omega
  split
  ·omega
  show(CX a).1.size≤_;omega
def TT (nm:ByteArray) (vm:Value):List Value:=[.int .i64 1,.int .i64 0,.int .i64 0,.int .i64 0,.int .i64 0,.int .i64 0,.int .i64 0,.string nm,vm,.slice none 0 0,.slice none 0 0]
theorem E8:∀(k:Nat) (e:Ex),AH e≤k→k≤1000000→BW LZ e→∀(w:World) (cs:List Value),DI w→EB w→BU w w.heap.size e cs→
  Calls Tryz.prog 121 #[.agg cs.toArray] w fun e' w'=>e'= .returned (.tuple #[.string (CX e).1,.bool (CX e).2])∧A4 w w'
 |0,e,h,_,_,_,_,_,_,_=>absurd (Aj e) (by omega)
 |k+1,e,hk,hk2,h2,w,cs,hwt,hot,hr=>by
  have h23:BW He e:=h2.mono (fun _ h=>Hg h) (AH e) e (V6 _);obtain⟨vm,vb,vk,rfl,hms,hyb,hT⟩:=hr.open_;have hne:=Az e;rcases h2.top with⟨h0,hks⟩|(⟨h1,hsel⟩|⟨h2g,⟨ea,hks⟩,hby⟩)|⟨h3,ea,eb,hks⟩
  ·have hF:CX e=(⟨#[]⟩,false):=by rw[G7,hks,h0];rfl
   have hb:=VW w 29 (AC e vm vb vk).toArray;have hg:=(VU w).alloc (.cells (AC e vm vb vk).toArray 29);rw[hF];clear hr hT hk hk2 h2 h23 hne hF hks hwt hot hms hyb;go_enter Tryz.func121,Tryz.ntmps121;go_upto_region 1 with fail;change Code.wp _ _ _ _ (w.alloc (.cells (AC e vm vb vk).toArray 29));generalize w.alloc (.cells (AC e vm vb vk).toArray 29)=w1 at*;have c0:w1.cell? ⟨w.heap.size,0,none⟩=some (.int .i64 0):=by rw[←h0];exact hb.cell 0
   have HG:=V3 hg;clear hb hg h0;go_wp2_with fail;refine bodyPost_ret (by simp[results,Tryz.func121];rfl) rfl ?_;exact⟨rfl,HG.out⟩
  ·have hF:CX e=(NU e.name e.ms,true):=MD h1;have hms0:=hms;obtain⟨Am,nm,c,rfl⟩:∃A n c,vm= .slice A n c:=by obtain⟨A,c,h, -⟩:=hms;exact⟨A,_,c,h⟩
   have hb:=VW w 29 (AC e (.slice Am nm c) vb vk).toArray;have hg:=(VU w).alloc (.cells (AC e (.slice Am nm c) vb vk).toArray 29);have hpe:EZ (Ge e.name e.ms)=bl e.name++Mi e.ms:=rfl;have HP:=V3 (show ∀w',A4 w w'→Calls Tryz.prog 67 #[.agg (TT e.name (.slice Am nm c)).toArray] w' (K8 (Ge e.name e.ms) w')from fun w' g=>KN (Ge e.name e.ms) (by unfold Ge;simp[AH,Ar]) (B3.2 ⟨hsel.2.1,fun k hk=>nomatch hk⟩) (B3.2 ⟨.inr (.inl ⟨rfl,rfl,rfl,hsel.2.2.2.2.1,hsel.2.2.2.1⟩),fun k hk=>nomatch hk⟩) hsel.1
    (by rw[hpe];refine⟨?_,hsel.2.2.2.2.2⟩;rw[VR,CD];have:=hsel.2.2.1;omega) (by rw[hpe];exact DR (Er _) (KP _)) w' (TT e.name (.slice Am nm c)) (hwt.grew g) (hot.keep g (fun h=>h))
    (BU.mk_ (e:=Ge e.name e.ms) (vm:= .slice Am nm c) (hms0.keep (V6 _) g.size g (fun _ _ h=>h)) (Cg.nil _ _ _) (JG.nil _ _)))
   obtain⟨sx,hsx⟩:∃s,NU e.name e.ms=s:=⟨_,rfl⟩;have HSX:=V3 (show bl sx=EZ (Ge e.name e.ms) by rw[←hsx,hpe,O4]);rw[hF,hsx];clear hr hT hk hk2 h2 h23 hne hF hwt hot hsel hms hms0 hpe hsx hyb;go_enter Tryz.func121,Tryz.ntmps121;go_upto_region 1 with fail;change Code.wp _ _ _ _ (w.alloc (.cells (AC e (.slice Am nm c) vb vk).toArray 29));generalize w.alloc (.cells (AC e (.slice Am nm c) vb vk).toArray 29)=w1 at*;have c0:w1.cell? ⟨w.heap.size,0,none⟩=some (.int .i64 1):=by rw[←h1];exact hb.cell 0
   have c7:w1.cell? ⟨w.heap.size,7,none⟩=some (.string e.name):=hb.cell 7;have c8:w1.cell? ⟨w.heap.size,8,none⟩=some (.slice Am nm c):=hb.cell 8;have HG:=V3 hg;clear hb hg h1;go_wp2_with(go_at_call 67;refine(HP.out _ HG.out).mono ?_;rintro e3 w2 ⟨s,rfl,hs,k2⟩;obtain rfl:s=sx:=Qd (hs.trans HSX.out.symm);have HG2:=V3 (HG.out.trans k2);clear k2 hs);refine bodyPost_ret (by simp[results,Tryz.func121];rfl) rfl ?_;exact⟨rfl,HG2.out⟩
  ·have hna:=AT (show ea∈e.kids by rw[hks];simp);have hF:=LN h2g hks;obtain⟨b,o,c,ca,rfl,hbb,hra,hea⟩:=RT hT hks;have hsz:=Hp k ea (by omega) (h2.kid (by rw[hks];simp));have HAs:=V3 (fun w' (g:A4 w w')=>E8 k ea (by omega) (by omega) (h2.kid (by rw[hks];simp)) w' ca (hwt.grew g) (hot.keep g (fun h=>h)) (hea.grew g));have hyb0:=hyb;obtain⟨Ab,nb,cb,rfl⟩:∃A n c,vb= .slice A n c:=by obtain⟨A,c,h, -⟩:=hyb;exact⟨A,_,c,h⟩
   have HJ:=V3 (fun w' (g:A4 w w')=>QY hby (hyb0.keep (V6 _) g.size g (fun _ _ h=>h):Cg w' w'.heap.size 1 (.slice Ab nb cb) _));have HL:=V3 (BC hea);have HRa:=V3 (show ∀w',A4 w w'→w'.rangeAt b o ca from fun w' g=>AU hra hbb g (fun h=>h));have hb:=VW w 29 (AC e vm (.slice Ab nb cb) (.slice (some ⟨b,o,none⟩) 1 c)).toArray;have hg:=(VU w).alloc (.cells (AC e vm (.slice Ab nb cb) (.slice (some ⟨b,o,none⟩) 1 c)).toArray 29);obtain⟨⟨la,ka⟩,hsa⟩:∃p,CX ea=p:=⟨_,rfl⟩;obtain⟨J,hJ⟩:∃s,IQ e.bys=s:=⟨_,rfl⟩;have hJs:=hby.2;rw[hsa]at HAs hF hsz;rw[hJ]at HJ hJs;have hF2:CX e=((⟨#[98,121,40]⟩:ByteArray)++J++⟨#[41,40]⟩++la++⟨#[41]⟩,ka):=by rw[hF];unfold Oh;rw[hJ]
   rw[hF2];dsimp only at HAs hsz ⊢;have hz1:(9223372036854775807<3+J.size)=False:=eq_false (by omega);have hz2:(9223372036854775807<3+J.size+2)=False:=eq_false (by omega);have hz3:(9223372036854775807<3+J.size+2+la.size)=False:=eq_false (by omega);have hz4:(9223372036854775807<3+J.size+2+la.size+1)=False:=eq_false (by omega);clear hr hT hk hk2 h2 h23 hne hF hF2 hna hra hea hks hsa hJ hwt hot hms hyb hyb0 hby hsz hJs;go_enter Tryz.func121,Tryz.ntmps121;go_upto_region 1 with fail;change Code.wp _ _ _ _ (w.alloc (.cells (AC e vm (.slice Ab nb cb) (.slice (some ⟨b,o,none⟩) 1 c)).toArray 29));generalize w.alloc (.cells (AC e vm (.slice Ab nb cb) (.slice (some ⟨b,o,none⟩) 1 c)).toArray 29)=w1 at*;have c0:w1.cell? ⟨w.heap.size,0,none⟩=some (.int .i64 2):=by rw[←h2g];exact hb.cell 0
   have c10:w1.cell? ⟨w.heap.size,10,none⟩=some (.slice (some ⟨b,o,none⟩) 1 c):=hb.cell 10;have HG:=V3 hg;have HC:=V3 (show ∀w',A4 w1 w'→w'.cell? ⟨w.heap.size,9,none⟩=some (.slice Ab nb cb)from fun w' g=>(hb.grew g).cell 9);clear hb hg h2g;go_wp2_with(first|((with_reducible refine AF 29 (.tmp 33) rfl ?_);refine wpList_load_mid rfl 29 (.tmp 33) rfl b o rfl ca _ (HRa.out _ HG.out) Tryz.underlying29 rfl (by rw[HL.out];exact AE) ?_)|(go_at_call 121;(with_reducible refine(HAs.out _ HG.out).mono ?_);rintro e3 w2 ⟨rfl,k2⟩;have HG2:=V3 (HG.out.trans k2);have c9:w2.cell? ⟨w.heap.size,9,none⟩=some (.slice Ab nb cb):=HC.out _ k2;clear k2)|(go_at_call 136;(with_reducible refine(HJ.out _ HG2.out).mono ?_);rintro e3 w3 ⟨rfl,k3⟩;have HG3:=V3 (HG2.out.trans k3);clear k3));refine bodyPost_ret (by simp[results,Tryz.func121];rfl) rfl ?_;exact⟨rfl,HG3.out⟩
  have hna:=AT (show ea∈e.kids by rw[hks];simp);have hnb:=AT (show eb∈e.kids by rw[hks];simp);have hF:=J7 h3 hks;obtain⟨b,o,c,ca,cb,rfl,hbb,hra,hrb,hea,heb⟩:=Fm hT hks;have HAr:=V3 (fun w' (g:A4 w w')=>Dh (AH ea) ea (V6 _) (h23.kid (by rw[hks];simp)) w' ca (hea.grew g));have HBr:=V3 (fun w' (g:A4 w w')=>Dh (AH eb) eb (V6 _) (h23.kid (by rw[hks];simp)) w' cb (heb.grew g));have HAs:=V3 (fun w' (g:A4 w w')=>E8 k ea (by omega) (by omega) (h2.kid (by rw[hks];simp)) w' ca (hwt.grew g) (hot.keep g (fun h=>h)) (hea.grew g));have HBs:=V3 (fun w' (g:A4 w w')=>E8 k eb (by omega) (by omega) (h2.kid (by rw[hks];simp)) w' cb (hwt.grew g) (hot.keep g (fun h=>h)) (heb.grew g));have HL:=V3 (V5 (BC hea) (BC heb));have HRa:=V3 (show ∀w',A4 w w'→w'.rangeAt b o ca∧w'.rangeAt b (o+11) cb from fun w' g=>⟨AU hra hbb g (fun h=>h),AU hrb hbb g (fun h=>h)⟩);have hb:=VW w 29 (AC e vm vb (.slice (some ⟨b,o,none⟩) 2 c)).toArray;have hg:=(VU w).alloc (.cells (AC e vm vb (.slice (some ⟨b,o,none⟩) 2 c)).toArray 29);obtain⟨x,hx⟩:∃x,BJ ea=x:=⟨_,rfl⟩;obtain⟨y,hy⟩:∃y,BJ eb=y:=⟨_,rfl⟩;obtain⟨⟨la,ka⟩,hsa⟩:∃p,CX ea=p:=⟨_,rfl⟩;obtain⟨⟨lb,kb⟩,hsb⟩:∃p,CX eb=p:=⟨_,rfl⟩;rw[hx]at HAr hF;rw[hy]at HBr hF;rw[hsa]at HAs hF;rw[hsb]at HBs hF;dsimp only at hF HAs HBs;obtain⟨⟨ls,ks⟩,hls⟩:∃p,CX e=p:=⟨_,rfl⟩;rw[hls]at hF ⊢;have HF:=V3 hF;clear hr hT hk hk2 h2 h23 hne hF hna hnb hra hrb hea heb hks hx hy hsa hsb hwt hot hms hls hyb;go_enter Tryz.func121,Tryz.ntmps121;go_upto_region 1 with fail;change Code.wp _ _ _ _ (w.alloc (.cells (AC e vm vb (.slice (some ⟨b,o,none⟩) 2 c)).toArray 29));generalize w.alloc (.cells (AC e vm vb (.slice (some ⟨b,o,none⟩) 2 c)).toArray 29)=w1 at*;have c0:w1.cell? ⟨w.heap.size,0,none⟩=some (.int .i64 3):=by rw[←h3];exact hb.cell 0
  have c10:w1.cell? ⟨w.heap.size,10,none⟩=some (.slice (some ⟨b,o,none⟩) 2 c):=hb.cell 10;have HG:=V3 hg;have HC:=V3 (show ∀w',A4 w1 w'→w'.cell? ⟨w.heap.size,10,none⟩=some (.slice (some ⟨b,o,none⟩) 2 c)from fun w' g=>(hb.grew g).cell 10);clear hb hg h3;have HK:=V3 (VU w1);rcases x with _|_
  ·go_upto_region 12 with(first|((with_reducible refine AF 29 (.tmp 51) rfl ?_);refine wpList_load_mid rfl 29 (.tmp 51) rfl b o rfl ca _ (HRa.out _ HG.out).1 Tryz.underlying29 rfl (by rw[HL.out.1];exact AE) ?_)|(go_at_call 87;(with_reducible refine(HAr.out _ HG.out).mono ?_);rintro e3 w2 ⟨rfl,k2⟩;have HG2:=V3 (HG.out.trans k2);have HK2:=V3 (HK.out.trans k2);have ccw2:w2.cell? ⟨w.heap.size,10,none⟩=some (.slice (some ⟨b,o,none⟩) 2 c):=HC.out _ HK2.out;clear k2)|((with_reducible refine AF 29 (.tmp 64) rfl ?_);refine wpList_load_mid rfl 29 (.tmp 64) rfl b o rfl ca _ (HRa.out _ HG2.out).1 Tryz.underlying29 rfl (by rw[HL.out.1];exact AE) ?_)|(go_at_call 121;(with_reducible refine(HAs.out _ HG2.out).mono ?_);rintro e3 w3 ⟨rfl,k2⟩;have HG3:=V3 (HG2.out.trans k2);have HK3:=V3 (HK2.out.trans k2);have ccw3:w3.cell? ⟨w.heap.size,10,none⟩=some (.slice (some ⟨b,o,none⟩) 2 c):=HC.out _ HK3.out;clear k2));clear ccw2 c10;rcases y with _|_
   ·go_upto_region 15 with(first|((with_reducible refine AF 29 (.tmp 71) rfl ?_);refine wpList_load_mid rfl 29 (.tmp 71) rfl b (o+11) rfl cb _ (HRa.out _ HG3.out).2 Tryz.underlying29 rfl (by rw[HL.out.2];exact AE) ?_)|(go_at_call 87;(with_reducible refine(HBr.out _ HG3.out).mono ?_);rintro e3 w4 ⟨rfl,k2⟩;have HG4:=V3 (HG3.out.trans k2);have HK4:=V3 (HK3.out.trans k2);have ccw4:w4.cell? ⟨w.heap.size,10,none⟩=some (.slice (some ⟨b,o,none⟩) 2 c):=HC.out _ HK4.out;clear k2)|((with_reducible refine AF 29 (.tmp 79) rfl ?_);refine wpList_load_mid rfl 29 (.tmp 79) rfl b (o+11) rfl cb _ (HRa.out _ HG4.out).2 Tryz.underlying29 rfl (by rw[HL.out.2];exact AE) ?_)|(go_at_call 121;(with_reducible refine(HBs.out _ HG4.out).mono ?_);rintro e3 w5 ⟨rfl,k2⟩;have HG5:=V3 (HG4.out.trans k2);have HK5:=V3 (HK4.out.trans k2);have ccw5:w5.cell? ⟨w.heap.size,10,none⟩=some (.slice (some ⟨b,o,none⟩) 2 c):=HC.out _ HK5.out;clear k2));have hF:=HF.out;simp only[Bool.false_eq_true,if_false,VP]at hF;obtain⟨rfl,hF⟩:=hF;rcases ka with _|_
    ·have hkz:ks=false:=by rw[hF];rfl
     clear hF HF;subst hkz;go_wp2_with fail;refine bodyPost_ret (by simp[results,Tryz.func121];rfl) rfl ?_;exact⟨rfl,HG5.out⟩
    rcases kb with _|_
    ·have hkz:ks=false:=by rw[hF];rfl
     clear hF HF;subst hkz;go_wp2_with fail;refine bodyPost_ret (by simp[results,Tryz.func121];rfl) rfl ?_;exact⟨rfl,HG5.out⟩
    obtain⟨z,hz⟩:∃z,(ls.toList==lb.toList)=z:=⟨_,rfl⟩;have hkz:ks=z:=by rw[hF,←hz];rfl
    clear hF HF;subst hkz;rcases ks with _|_
    ·go_wp2_with fail;refine bodyPost_ret (by simp[results,Tryz.func121];rfl) rfl ?_;exact⟨rfl,HG5.out⟩
    go_wp2_with fail;refine bodyPost_ret (by simp[results,Tryz.func121];rfl) rfl ?_;exact⟨rfl,HG5.out⟩
   go_wp2_with(first|((with_reducible refine AF 29 (.tmp 71) rfl ?_);refine wpList_load_mid rfl 29 (.tmp 71) rfl b (o+11) rfl cb _ (HRa.out _ HG3.out).2 Tryz.underlying29 rfl (by rw[HL.out.2];exact AE) ?_)|(go_at_call 87;(with_reducible refine(HBr.out _ HG3.out).mono ?_);rintro e3 w4 ⟨rfl,k2⟩;have HG4:=V3 (HG3.out.trans k2);have HK4:=V3 (HK3.out.trans k2);have ccw4:w4.cell? ⟨w.heap.size,10,none⟩=some (.slice (some ⟨b,o,none⟩) 2 c):=HC.out _ HK4.out;clear k2));have hF:=HF.out;simp only[Bool.false_eq_true,if_false,if_true,VP]at hF;obtain⟨rfl,rfl⟩:=hF;refine bodyPost_ret (by simp[results,Tryz.func121];rfl) rfl ?_;exact⟨rfl,HG4.out⟩
  go_wp2_with(first|((with_reducible refine AF 29 (.tmp 51) rfl ?_);refine wpList_load_mid rfl 29 (.tmp 51) rfl b o rfl ca _ (HRa.out _ HG.out).1 Tryz.underlying29 rfl (by rw[HL.out.1];exact AE) ?_)|(go_at_call 87;(with_reducible refine(HAr.out _ HG.out).mono ?_);rintro e3 w2 ⟨rfl,k2⟩;have HG2:=V3 (HG.out.trans k2);have HK2:=V3 (HK.out.trans k2);have ccw2:w2.cell? ⟨w.heap.size,10,none⟩=some (.slice (some ⟨b,o,none⟩) 2 c):=HC.out _ HK2.out;clear k2)|((with_reducible refine AF 29 (.tmp 56) rfl ?_);refine wpList_load_mid rfl 29 (.tmp 56) rfl b (o+11) rfl cb _ (HRa.out _ HG2.out).2 Tryz.underlying29 rfl (by rw[HL.out.2];exact AE) ?_)|(go_at_call 121;(with_reducible refine(HBs.out _ HG2.out).mono ?_);rintro e3 w3 ⟨rfl,k2⟩;have HG3:=V3 (HG2.out.trans k2);have HK3:=V3 (HK2.out.trans k2);have ccw3:w3.cell? ⟨w.heap.size,10,none⟩=some (.slice (some ⟨b,o,none⟩) 2 c):=HC.out _ HK3.out;clear k2));have hF:=HF.out;simp only[if_true,VP]at hF;obtain⟨rfl,rfl⟩:=hF;refine bodyPost_ret (by simp[results,Tryz.func121];rfl) rfl ?_;exact⟨rfl,HG3.out⟩
end Go.Proofs.YthpflelgbadkcaaGreatDoor
