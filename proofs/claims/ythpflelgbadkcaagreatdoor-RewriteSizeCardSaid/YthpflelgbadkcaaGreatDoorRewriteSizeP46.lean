/- rewrite.Size, ref26.Size: how many selections; parser.Nodes, parser.Depth. -/
import Derived.Test.YthpflelgbadkcaaGreatDoorRewriteSizeP01
import Derived.Test.YthpflelgbadkcaaGreatDoorRewriteSizeP22
import Derived.Test.YthpflelgbadkcaaGreatDoorRewriteSizeP11
import Derived.Test.YthpflelgbadkcaaGreatDoorRewriteSizeP08
import Derived.Deep.DeepCutAuto
set_option maxRecDepth 100000
set_option maxHeartbeats 12800000
set_option linter.unusedVariables false
set_option linter.unusedSimpArgs false
namespace Go.Proofs.YthpflelgbadkcaaGreatDoor
open Go.RowKit Pl
def DZ (w:World) (e:Sh) (cs:List Value):Prop:=C5 w (fun b=>b<w.heap.size) e cs
theorem DZ.grew {w w':World} {e:Sh} {cs:List Value} (h:DZ w e cs) (g:A5 w w'):DZ w' e cs:=C5.keep (S:=fun _=>False) (fun b hb=>⟨hb,fun h=>h,SE hb g.size⟩) g e cs h
theorem DZ.of {w:World} {e:Ex} {cs:List Value} (h:BZ w w.heap.size e cs):DZ w (Hv e) cs:=AW.sh e cs (BZ.toQ (fun b hb=>hb) e cs h)
theorem He:∀(k:Nat) (e:Sh),CS e≤k→k≤1000000→∀(w:World) (cs:List Value),DZ w e cs→
  Calls Tryz.prog 10 #[.agg cs.toArray] w fun e' w'=>e'= .returned (.int .i64 (Bp e:Nat))∧A5 w w'
 |0,e,h,_,_,_,_=>absurd (G0 e) (by omega)
 |k+1,e,hk,hk2,w,cs,hr=>by
  obtain⟨c1,c2,c3,c4,c5,c6,c7,c8,c9,vk,rfl,ho,hT⟩:=hr.open_;have hne:=Hb e;have hse:=Kv e;have hkl:=Fs e.kids;obtain⟨A,n,c,rfl,hn, -⟩:=hT.slice;have HIH:=S9 (fun(e':Sh) (w':World) (cs:List Value) (h1:e'∈e.kids) (h2:DZ w' e' cs)=>He k e' (by have:=FA h1;omega) (by omega) w' cs h2);have HT:=S9 (fun w' (g:A5 w w')=>D6.keep (S:=fun _=>False) (Q':=fun b=>b<w'.heap.size) hT (fun b hb=>⟨hb,fun h=>h,SE hb g.size⟩) g);have HN:=S9 hn;have HSE:=S9 hse;have hbx:=Sc w 29 (BD e.kind c1 c2 c3 c4 c5 c6 c7 c8 c9 (.slice A n c)).toArray;have hG:=(Sa w).alloc (.cells (BD e.kind c1 c2 c3 c4 c5 c6 c7 c8 c9 (.slice A n c)).toArray 29);have hb1:BO e.kids≤1000000:=by have:=E2 e.kids;omega
  have hnb:n≤1000000:=by omega
  have HB1:=S9 hb1;clear hr hT hn hne hse hkl hk hk2 hb1 ho;go_enter Tryz.func10,Tryz.ntmps10;go_upto_region 1 with fail;change Code.wp _ _ _ _ (w.alloc (.cells (BD e.kind c1 c2 c3 c4 c5 c6 c7 c8 c9 (.slice A n c)).toArray 29));generalize w.alloc (.cells (BD e.kind c1 c2 c3 c4 c5 c6 c7 c8 c9 (.slice A n c)).toArray 29)=w1 at*;have HBx:=S9 hbx;have HG:=S9 hG;have c0:w1.cell? ⟨w.heap.size,0,none⟩=some (.int .i64 e.kind):=hbx.cell 0;have c10:w1.cell? ⟨w.heap.size,10,none⟩=some (.slice A n c):=hbx.cell 10;clear hbx hG;by_cases h1:e.kind=1
  ·have t0:(e.kind==1)=true:=by rw[SG];exact h1
   have HS0:=S9 (show Bp e=1+BO e.kids by rw[HSE.out,SR h1]);clear h1;go_wp2_with fail;go_loopw [3,5,12] (fun s _ i wr=>∃(j s':Nat),j≤n∧i= .int .i64 (j:Nat)∧s= .int .i64 (s':Nat)∧s'=1+BO (e.kids.take j)∧s'≤2000000∧A5 w1 wr) (fun _ _ i _=>n-(intOf i).toNat)
   case atStart=>exact⟨0,1,by omega,rfl,rfl,by simp[BO],by omega,Sa _⟩
   case round=>
    obtain⟨j,s',hj,rfl,rfl,hs,hsb,hGr⟩:=hrel;have HS:=S9 hs;clear hs c0;by_cases hlt:j<n
    ·have hjl:j<e.kids.length:=by rw[←HN.out];exact hlt
     obtain⟨e',he'⟩:∃e',e.kids[j]? =some e':=⟨_,SF hjl⟩;have hmem:e'∈e.kids:=SN he';obtain⟨x,cs,rfl,hb,hrg,hre⟩:=(HT.out wr (HG.out.trans hGr)).at_ he';have hone:=CT hre;obtain⟨d1,d2,d3,d4,d5,d6,d7,d8,d9,dk,hcs, -, -⟩:=hre.open_;subst hcs;have HI:=S9 (fun w' (g:A5 wr w')=>HIH.out e' w' _ hmem (DZ.grew hre g));have HSn:=S9 (show 1+BO (e.kids.take (j+1))=s'+Bp e' from by rw[E1 he',HS.out];omega);have hbd:s'+Bp e'≤2000000:=by
      have h1:=CU e.kids (j+1);have h2:=HB1.out;have h3:=HSn.out;omega
     have HRg:=S9 hrg;have HO:=S9 hone;have HGr:=S9 hGr;clear hjl he' hmem hrg hre hGr hone c10;go_wp2_with(first|((with_reducible refine AG 29 (.tmp 14) rfl ?_);refine DI rfl 29 (.tmp 14) rfl (x.add (j*11)) rfl (BD e'.kind d1 d2 d3 d4 d5 d6 d7 d8 d9 dk) _ HRg.out Tryz.underlying29 rfl AD ?_)|((with_reducible refine AF 29 (.tmp 5) (.tmp 15) rfl ?_);refine Ar 29 (.tmp 5) (.tmp 15) (wr.heap.size) (BD e'.kind d1 d2 d3 d4 d5 d6 d7 d8 d9 dk) (AH 0 0) 29 AD rfl HO.out rfl rfl rfl rfl (Sc wr 29 _) ?_;intro w5 hb5 k5 d5;have g5:A5 wr w5:=Sb ((Sa wr).alloc _) k5 (fun i hi e=>by omega);clear k5 d5)|((with_reducible refine AG 29 (.tmp 5) rfl ?_);refine BR 29 Tryz.underlying29 rfl (.tmp 5) (wr.heap.size) (BD e'.kind d1 d2 d3 d4 d5 d6 d7 d8 d9 dk) 29 AD rfl rfl rfl hb5 ?_)|(go_at_call 10;(with_reducible refine(HI.out _ g5).mono ?_);rintro e2 w6 ⟨rfl,k6⟩;have HG6:=S9 ((HGr.out.trans g5).trans k6);clear k6 g5 hb5));go_roundw
     case rel=>exact⟨j+1,s'+Bp e',by omega,by go_num,by go_num,HSn.out.symm,hbd,HG6.out⟩
     case measure=>simp[intOf];omega
    obtain rfl:j=n:=by omega
    have HF:=S9 (show s'=Bp e from by rw[HS.out,HS0.out,List.take_of_length_le (by rw[←HN.out];exact SD _)]);go_wp2_with fail;go_ret;exact⟨by rw[←HF.out];rfl,HG.out.trans hGr⟩
  have t0:(e.kind==1)=false:=by rw[SA];exact h1
  have HS0:=S9 (show Bp e=0+BO e.kids by rw[HSE.out,SQ h1]);clear h1;go_wp2_with fail;go_loopw [3,5,12] (fun s _ i wr=>∃(j s':Nat),j≤n∧i= .int .i64 (j:Nat)∧s= .int .i64 (s':Nat)∧s'=0+BO (e.kids.take j)∧s'≤2000000∧A5 w1 wr) (fun _ _ i _=>n-(intOf i).toNat)
  case atStart=>exact⟨0,0,by omega,rfl,rfl,by simp[BO],by omega,Sa _⟩
  case round=>
   obtain⟨j,s',hj,rfl,rfl,hs,hsb,hGr⟩:=hrel;have HS:=S9 hs;clear hs c0;by_cases hlt:j<n
   ·have hjl:j<e.kids.length:=by rw[←HN.out];exact hlt
    obtain⟨e',he'⟩:∃e',e.kids[j]? =some e':=⟨_,SF hjl⟩;have hmem:e'∈e.kids:=SN he';obtain⟨x,cs,rfl,hb,hrg,hre⟩:=(HT.out wr (HG.out.trans hGr)).at_ he';have hone:=CT hre;obtain⟨d1,d2,d3,d4,d5,d6,d7,d8,d9,dk,hcs, -, -⟩:=hre.open_;subst hcs;have HI:=S9 (fun w' (g:A5 wr w')=>HIH.out e' w' _ hmem (DZ.grew hre g));have HSn:=S9 (show 0+BO (e.kids.take (j+1))=s'+Bp e' from by rw[E1 he',HS.out];omega);have hbd:s'+Bp e'≤2000000:=by
     have h1:=CU e.kids (j+1);have h2:=HB1.out;have h3:=HSn.out;omega
    have HRg:=S9 hrg;have HO:=S9 hone;have HGr:=S9 hGr;clear hjl he' hmem hrg hre hGr hone c10;go_wp2_with(first|((with_reducible refine AG 29 (.tmp 14) rfl ?_);refine DI rfl 29 (.tmp 14) rfl (x.add (j*11)) rfl (BD e'.kind d1 d2 d3 d4 d5 d6 d7 d8 d9 dk) _ HRg.out Tryz.underlying29 rfl AD ?_)|((with_reducible refine AF 29 (.tmp 5) (.tmp 15) rfl ?_);refine Ar 29 (.tmp 5) (.tmp 15) (wr.heap.size) (BD e'.kind d1 d2 d3 d4 d5 d6 d7 d8 d9 dk) (AH 0 0) 29 AD rfl HO.out rfl rfl rfl rfl (Sc wr 29 _) ?_;intro w5 hb5 k5 d5;have g5:A5 wr w5:=Sb ((Sa wr).alloc _) k5 (fun i hi e=>by omega);clear k5 d5)|((with_reducible refine AG 29 (.tmp 5) rfl ?_);refine BR 29 Tryz.underlying29 rfl (.tmp 5) (wr.heap.size) (BD e'.kind d1 d2 d3 d4 d5 d6 d7 d8 d9 dk) 29 AD rfl rfl rfl hb5 ?_)|(go_at_call 10;(with_reducible refine(HI.out _ g5).mono ?_);rintro e2 w6 ⟨rfl,k6⟩;have HG6:=S9 ((HGr.out.trans g5).trans k6);clear k6 g5 hb5));go_roundw
    case rel=>exact⟨j+1,s'+Bp e',by omega,by go_num,by go_num,HSn.out.symm,hbd,HG6.out⟩
    case measure=>simp[intOf];omega
   obtain rfl:j=n:=by omega
   have HF:=S9 (show s'=Bp e from by rw[HS.out,HS0.out,List.take_of_length_le (by rw[←HN.out];exact SD _)]);go_wp2_with fail;go_ret;exact⟨by rw[←HF.out];rfl,HG.out.trans hGr⟩
theorem H9:∀(k:Nat) (e:Sh),CS e≤k→k≤1000000→∀(w:World) (cs:List Value),DZ w e cs→
  Calls Tryz.prog 11 #[.agg cs.toArray] w fun e' w'=>e'= .returned (.int .i64 (Bp e:Nat))∧A5 w w'
 |0,e,h,_,_,_,_=>absurd (G0 e) (by omega)
 |k+1,e,hk,hk2,w,cs,hr=>by
  obtain⟨c1,c2,c3,c4,c5,c6,c7,c8,c9,vk,rfl,ho,hT⟩:=hr.open_;have hne:=Hb e;have hse:=Kv e;have hkl:=Fs e.kids;obtain⟨A,n,c,rfl,hn, -⟩:=hT.slice;have HIH:=S9 (fun(e':Sh) (w':World) (cs:List Value) (h1:e'∈e.kids) (h2:DZ w' e' cs)=>H9 k e' (by have:=FA h1;omega) (by omega) w' cs h2);have HT:=S9 (fun w' (g:A5 w w')=>D6.keep (S:=fun _=>False) (Q':=fun b=>b<w'.heap.size) hT (fun b hb=>⟨hb,fun h=>h,SE hb g.size⟩) g);have HN:=S9 hn;have HSE:=S9 hse;have hbx:=Sc w 29 (BD e.kind c1 c2 c3 c4 c5 c6 c7 c8 c9 (.slice A n c)).toArray;have hG:=(Sa w).alloc (.cells (BD e.kind c1 c2 c3 c4 c5 c6 c7 c8 c9 (.slice A n c)).toArray 29);have hb1:BO e.kids≤1000000:=by have:=E2 e.kids;omega
  have hnb:n≤1000000:=by omega
  have HB1:=S9 hb1;clear hr hT hn hne hse hkl hk hk2 hb1 ho;go_enter Tryz.func11,Tryz.ntmps11;go_upto_region 1 with fail;change Code.wp _ _ _ _ (w.alloc (.cells (BD e.kind c1 c2 c3 c4 c5 c6 c7 c8 c9 (.slice A n c)).toArray 29));generalize w.alloc (.cells (BD e.kind c1 c2 c3 c4 c5 c6 c7 c8 c9 (.slice A n c)).toArray 29)=w1 at*;have HBx:=S9 hbx;have HG:=S9 hG;have c0:w1.cell? ⟨w.heap.size,0,none⟩=some (.int .i64 e.kind):=hbx.cell 0;have c10:w1.cell? ⟨w.heap.size,10,none⟩=some (.slice A n c):=hbx.cell 10;clear hbx hG;by_cases h1:e.kind=1
  ·have t0:(e.kind==1)=true:=by rw[SG];exact h1
   have HS0:=S9 (show Bp e=1+BO e.kids by rw[HSE.out,SR h1]);clear h1;go_wp2_with fail;go_loopw [3,4] (fun s i wr=>∃(j s':Nat),j≤n∧i= .int .i64 (j:Nat)∧s= .int .i64 (s':Nat)∧s'=1+BO (e.kids.take j)∧s'≤2000000∧A5 w1 wr) (fun _ i _=>n-(intOf i).toNat)
   case atStart=>exact⟨0,1,by omega,rfl,rfl,by simp[BO],by omega,Sa _⟩
   case round=>
    obtain⟨j,s',hj,rfl,rfl,hs,hsb,hGr⟩:=hrel;have HS:=S9 hs;clear hs c0;clear c10;have c10:wr.cell? ⟨w.heap.size,10,none⟩=some (.slice A n c):=(HBx.out.grew hGr).cell 10;by_cases hlt:j<n
    ·have hjl:j<e.kids.length:=by rw[←HN.out];exact hlt
     obtain⟨e',he'⟩:∃e',e.kids[j]? =some e':=⟨_,SF hjl⟩;have hmem:e'∈e.kids:=SN he';obtain⟨x,cs,rfl,hb,hrg,hre⟩:=(HT.out wr (HG.out.trans hGr)).at_ he';have hone:=CT hre;obtain⟨d1,d2,d3,d4,d5,d6,d7,d8,d9,dk,hcs, -, -⟩:=hre.open_;subst hcs;have HI:=S9 (fun w' (g:A5 wr w')=>HIH.out e' w' _ hmem (DZ.grew hre g));have HSn:=S9 (show 1+BO (e.kids.take (j+1))=s'+Bp e' from by rw[E1 he',HS.out];omega);have hbd:s'+Bp e'≤2000000:=by
      have h1:=CU e.kids (j+1);have h2:=HB1.out;have h3:=HSn.out;omega
     have HRg:=S9 hrg;have HO:=S9 hone;have HGr:=S9 hGr;clear hjl he' hmem hrg hre hGr hone;go_wp2_with(first|((with_reducible refine AG 29 (.tmp 19) rfl ?_);refine DI rfl 29 (.tmp 19) rfl (x.add (j*11)) rfl (BD e'.kind d1 d2 d3 d4 d5 d6 d7 d8 d9 dk) _ HRg.out Tryz.underlying29 rfl AD ?_)|(go_at_call 11;(with_reducible refine(HI.out _ (Sa _)).mono ?_);rintro e2 w6 ⟨rfl,k6⟩;have HG6:=S9 (HGr.out.trans k6);clear k6));go_roundw
     case rel=>exact⟨j+1,s'+Bp e',by omega,by go_num,by go_num,HSn.out.symm,hbd,HG6.out⟩
     case measure=>simp[intOf];omega
    obtain rfl:j=n:=by omega
    have HF:=S9 (show s'=Bp e from by rw[HS.out,HS0.out,List.take_of_length_le (by rw[←HN.out];exact SD _)]);go_wp2_with fail;go_ret;exact⟨by rw[←HF.out];rfl,HG.out.trans hGr⟩
  have t0:(e.kind==1)=false:=by rw[SA];exact h1
  have HS0:=S9 (show Bp e=0+BO e.kids by rw[HSE.out,SQ h1]);clear h1;go_wp2_with fail;go_loopw [3,4] (fun s i wr=>∃(j s':Nat),j≤n∧i= .int .i64 (j:Nat)∧s= .int .i64 (s':Nat)∧s'=0+BO (e.kids.take j)∧s'≤2000000∧A5 w1 wr) (fun _ i _=>n-(intOf i).toNat)
  case atStart=>exact⟨0,0,by omega,rfl,rfl,by simp[BO],by omega,Sa _⟩
  case round=>
   obtain⟨j,s',hj,rfl,rfl,hs,hsb,hGr⟩:=hrel;have HS:=S9 hs;clear hs c0;clear c10;have c10:wr.cell? ⟨w.heap.size,10,none⟩=some (.slice A n c):=(HBx.out.grew hGr).cell 10;by_cases hlt:j<n
   ·have hjl:j<e.kids.length:=by rw[←HN.out];exact hlt
    obtain⟨e',he'⟩:∃e',e.kids[j]? =some e':=⟨_,SF hjl⟩;have hmem:e'∈e.kids:=SN he';obtain⟨x,cs,rfl,hb,hrg,hre⟩:=(HT.out wr (HG.out.trans hGr)).at_ he';have hone:=CT hre;obtain⟨d1,d2,d3,d4,d5,d6,d7,d8,d9,dk,hcs, -, -⟩:=hre.open_;subst hcs;have HI:=S9 (fun w' (g:A5 wr w')=>HIH.out e' w' _ hmem (DZ.grew hre g));have HSn:=S9 (show 0+BO (e.kids.take (j+1))=s'+Bp e' from by rw[E1 he',HS.out];omega);have hbd:s'+Bp e'≤2000000:=by
     have h1:=CU e.kids (j+1);have h2:=HB1.out;have h3:=HSn.out;omega
    have HRg:=S9 hrg;have HO:=S9 hone;have HGr:=S9 hGr;clear hjl he' hmem hrg hre hGr hone;go_wp2_with(first|((with_reducible refine AG 29 (.tmp 19) rfl ?_);refine DI rfl 29 (.tmp 19) rfl (x.add (j*11)) rfl (BD e'.kind d1 d2 d3 d4 d5 d6 d7 d8 d9 dk) _ HRg.out Tryz.underlying29 rfl AD ?_)|(go_at_call 11;(with_reducible refine(HI.out _ (Sa _)).mono ?_);rintro e2 w6 ⟨rfl,k6⟩;have HG6:=S9 (HGr.out.trans k6);clear k6));go_roundw
    case rel=>exact⟨j+1,s'+Bp e',by omega,by go_num,by go_num,HSn.out.symm,hbd,HG6.out⟩
    case measure=>simp[intOf];omega
   obtain rfl:j=n:=by omega
   have HF:=S9 (show s'=Bp e from by rw[HS.out,HS0.out,List.take_of_length_le (by rw[←HN.out];exact SD _)]);go_wp2_with fail;go_ret;exact⟨by rw[←HF.out];rfl,HG.out.trans hGr⟩
theorem Ip:∀(k:Nat) (e:Ex),AL e≤k→k≤1000000→∀(w:World) (cs:List Value),BZ w w.heap.size e cs→
  Calls Tryz.prog 14 #[.agg cs.toArray] w fun e' w'=>e'= .returned (.int .i64 (AL e:Nat))∧A5 w w'
 |0,e,h,_,_,_,_=>absurd (Aw e) (by omega)
 |k+1,e,hk,hk2,w,cs,hr=>by
  obtain⟨vm,vb,vk,rfl, -, -,hT⟩:=hr.open_;have hne:=B9 e;have hnn:=B9 e;have hkl:=Bh e.kids;obtain⟨A,n,c,rfl,hn, -⟩:=hT.slice;have HIH:=S9 (fun(e':Ex) (w':World) (cs:List Value) (h1:e'∈e.kids) (h2:BZ w' w'.heap.size e' cs)=>Ip k e' (by have:=Aa h1;omega) (by omega) w' cs h2);have HT:=S9 hT;have HN:=S9 hn;have HNE:=S9 hne;have hbx:=Sc w 29 (AE e vm vb (.slice A n c)).toArray;have hG:=(Sa w).alloc (.cells (AE e vm vb (.slice A n c)).toArray 29);have hb1:Af e.kids≤1000000:=by omega
  have hnb:n≤1000000:=by omega
  have HB1:=S9 hb1;clear hr hT hn hne hnn hkl hk hk2 hb1;go_enter Tryz.func14,Tryz.ntmps14;go_upto_region 1 with fail;change Code.wp _ _ _ _ (w.alloc (.cells (AE e vm vb (.slice A n c)).toArray 29));generalize w.alloc (.cells (AE e vm vb (.slice A n c)).toArray 29)=w1 at*;have HG:=S9 hG;have c10:w1.cell? ⟨w.heap.size,10,none⟩=some (.slice A n c):=hbx.cell 10;clear hbx hG;go_wp2_with fail;go_loopw [3,5,9] (fun s _ i wr=>∃(j s':Nat),j≤n∧i= .int .i64 (j:Nat)∧s= .int .i64 (s':Nat)∧s'=1+Af (e.kids.take j)∧s'≤2000000∧A5 w1 wr) (fun _ _ i _=>n-(intOf i).toNat)
  case atStart=>exact⟨0,1,by omega,rfl,rfl,by simp[Af],by omega,Sa _⟩
  case round=>
   obtain⟨j,s',hj,rfl,rfl,hs,hsb,hGr⟩:=hrel;have HS:=S9 hs;clear hs;by_cases hlt:j<n
   ·have hjl:j<e.kids.length:=by rw[←HN.out];exact hlt
    obtain⟨e',he'⟩:∃e',e.kids[j]? =some e':=⟨_,SF hjl⟩;have hmem:e'∈e.kids:=SN he';obtain⟨b,o,cs,rfl,hb,hrg,hre⟩:=(HT.out.grew (HG.out.trans hGr)).at_ he';obtain⟨vm',vb',vk',hcs,hm',hy',hT'⟩:=hre.open_;subst hcs;obtain⟨A1,n1,c1,rfl⟩:∃A n c,vm'= .slice A n c:=by obtain⟨A,c,h, -⟩:=hm';exact⟨A,_,c,h⟩
    obtain⟨A2,n2,c2,rfl⟩:∃A n c,vb'= .slice A n c:=by obtain⟨A,c,h, -⟩:=hy';exact⟨A,_,c,h⟩
    obtain⟨A3,n3,c3,rfl, -⟩:=hT'.slice;have HI:=S9 (fun w' (g:A5 wr w')=>HIH.out e' w' _ hmem (hre.grew g));have HSn:=S9 (show 1+Af (e.kids.take (j+1))=s'+AL e' from by rw[K3 he',HS.out];omega);have hbd:s'+AL e'≤2000000:=by
     have h1:=Ey e.kids (j+1);have h2:=HB1.out;have h3:=HSn.out;omega
    have HRg:=S9 hrg;have HGr:=S9 hGr;clear hjl he' hmem hrg hre hGr hm' hy' hT' c10;go_wp2_with(first|((with_reducible refine AG 29 (.tmp 11) rfl ?_);refine wpList_load_mid rfl 29 (.tmp 11) rfl b (o+j*11) rfl (AE e' (.slice A1 n1 c1) (.slice A2 n2 c2) (.slice A3 n3 c3)) _ HRg.out Tryz.underlying29 rfl AD ?_)|((with_reducible refine AF 29 (.tmp 5) (.tmp 12) rfl ?_);refine Ar 29 (.tmp 5) (.tmp 12) (wr.heap.size) (AE e' (.slice A1 n1 c1) (.slice A2 n2 c2) (.slice A3 n3 c3)) (AH 0 0) 29 AD rfl (Ay _ _ _ _ _ _ _ _ _ _) rfl rfl rfl rfl (Sc wr 29 _) ?_;intro w5 hb5 k5 d5;have g5:A5 wr w5:=Sb ((Sa wr).alloc _) k5 (fun i hi e=>by omega);clear k5 d5)|((with_reducible refine AG 29 (.tmp 5) rfl ?_);refine BR 29 Tryz.underlying29 rfl (.tmp 5) (wr.heap.size) (AE e' (.slice A1 n1 c1) (.slice A2 n2 c2) (.slice A3 n3 c3)) 29 AD rfl rfl rfl hb5 ?_)|(go_at_call 14;(with_reducible refine(HI.out _ g5).mono ?_);rintro e2 w6 ⟨rfl,k6⟩;have HG6:=S9 ((HGr.out.trans g5).trans k6);clear k6 g5 hb5));go_roundw
    case rel=>exact⟨j+1,s'+AL e',by omega,by go_num,by go_num,HSn.out.symm,hbd,HG6.out⟩
    case measure=>simp[intOf];omega
   obtain rfl:j=n:=by omega
   have HF:=S9 (show s'=AL e from by rw[HS.out,HNE.out,List.take_of_length_le (by rw[←HN.out];exact SD _)]);go_wp2_with fail;go_ret;exact⟨by rw[←HF.out];rfl,HG.out.trans hGr⟩
theorem IL:∀(k:Nat) (e:Ex),AL e≤k→k≤1000000→∀(w:World) (cs:List Value),BZ w w.heap.size e cs→
  Calls Tryz.prog 15 #[.agg cs.toArray] w fun e' w'=>e'= .returned (.int .i64 (BF e:Nat))∧A5 w w'
 |0,e,h,_,_,_,_=>absurd (Aw e) (by omega)
 |k+1,e,hk,hk2,w,cs,hr=>by
  obtain⟨vm,vb,vk,rfl, -, -,hT⟩:=hr.open_;have hne:=Dv e;have hnn:=B9 e;have hkl:=Bh e.kids;obtain⟨A,n,c,rfl,hn, -⟩:=hT.slice;have HIH:=S9 (fun(e':Ex) (w':World) (cs:List Value) (h1:e'∈e.kids) (h2:BZ w' w'.heap.size e' cs)=>IL k e' (by have:=Aa h1;omega) (by omega) w' cs h2);have HT:=S9 hT;have HN:=S9 hn;have HNE:=S9 hne;have hbx:=Sc w 29 (AE e vm vb (.slice A n c)).toArray;have hG:=(Sa w).alloc (.cells (AE e vm vb (.slice A n c)).toArray 29);have hb1:BI e.kids≤1000000:=by have:=EC e.kids;omega
  have hnb:n≤1000000:=by omega
  have HB1:=S9 hb1;clear hr hT hn hne hnn hkl hk hk2 hb1;go_enter Tryz.func15,Tryz.ntmps15;go_upto_region 1 with fail;change Code.wp _ _ _ _ (w.alloc (.cells (AE e vm vb (.slice A n c)).toArray 29));generalize w.alloc (.cells (AE e vm vb (.slice A n c)).toArray 29)=w1 at*;have HG:=S9 hG;have c10:w1.cell? ⟨w.heap.size,10,none⟩=some (.slice A n c):=hbx.cell 10;clear hbx hG;go_wp2_with fail;go_loopw [3,5,9] (fun s _ i wr=>∃(j s':Nat),j≤n∧i= .int .i64 (j:Nat)∧s= .int .i64 (s':Nat)∧s'=BI (e.kids.take j)∧s'≤2000000∧A5 w1 wr) (fun _ _ i _=>n-(intOf i).toNat)
  case atStart=>exact⟨0,0,by omega,rfl,rfl,by simp[BI],by omega,Sa _⟩
  case round=>
   obtain⟨j,s',hj,rfl,rfl,hs,hsb,hGr⟩:=hrel;have HS:=S9 hs;clear hs;by_cases hlt:j<n
   ·have hjl:j<e.kids.length:=by rw[←HN.out];exact hlt
    obtain⟨e',he'⟩:∃e',e.kids[j]? =some e':=⟨_,SF hjl⟩;have hmem:e'∈e.kids:=SN he';obtain⟨b,o,cs,rfl,hb,hrg,hre⟩:=(HT.out.grew (HG.out.trans hGr)).at_ he';obtain⟨vm',vb',vk',hcs,hm',hy',hT'⟩:=hre.open_;subst hcs;obtain⟨A1,n1,c1,rfl⟩:∃A n c,vm'= .slice A n c:=by obtain⟨A,c,h, -⟩:=hm';exact⟨A,_,c,h⟩
    obtain⟨A2,n2,c2,rfl⟩:∃A n c,vb'= .slice A n c:=by obtain⟨A,c,h, -⟩:=hy';exact⟨A,_,c,h⟩
    obtain⟨A3,n3,c3,rfl, -⟩:=hT'.slice;have HI:=S9 (fun w' (g:A5 wr w')=>HIH.out e' w' _ hmem (hre.grew g));have HSn:=S9 (show BI (e.kids.take (j+1))=max s' (BF e')from by rw[K0 he',HS.out]);have hdk:BF e'≤1000000:=by have:=FJ hmem;have:=HB1.out;omega
    have HRg:=S9 hrg;have HGr:=S9 hGr;clear hjl he' hmem hrg hre hGr hm' hy' hT' c10;go_wp2_with(first|((with_reducible refine AG 29 (.tmp 11) rfl ?_);refine wpList_load_mid rfl 29 (.tmp 11) rfl b (o+j*11) rfl (AE e' (.slice A1 n1 c1) (.slice A2 n2 c2) (.slice A3 n3 c3)) _ HRg.out Tryz.underlying29 rfl AD ?_)|((with_reducible refine AF 29 (.tmp 5) (.tmp 12) rfl ?_);refine Ar 29 (.tmp 5) (.tmp 12) (wr.heap.size) (AE e' (.slice A1 n1 c1) (.slice A2 n2 c2) (.slice A3 n3 c3)) (AH 0 0) 29 AD rfl (Ay _ _ _ _ _ _ _ _ _ _) rfl rfl rfl rfl (Sc wr 29 _) ?_;intro w5 hb5 k5 d5;have g5:A5 wr w5:=Sb ((Sa wr).alloc _) k5 (fun i hi e=>by omega);clear k5 d5)|((with_reducible refine AG 29 (.tmp 5) rfl ?_);refine BR 29 Tryz.underlying29 rfl (.tmp 5) (wr.heap.size) (AE e' (.slice A1 n1 c1) (.slice A2 n2 c2) (.slice A3 n3 c3)) 29 AD rfl rfl rfl hb5 ?_)|(go_at_call 15;(with_reducible refine(HI.out _ g5).mono ?_);rintro e2 w6 ⟨rfl,k6⟩;have HG6:=S9 ((HGr.out.trans g5).trans k6);clear k6 g5 hb5));go_roundw
    case rel=>exact⟨j+1,max s' (BF e'),by omega,by go_num,(by congr 1;first|omega|(split<;>omega)),HSn.out.symm,by omega,HG6.out⟩
    case measure=>simp[intOf];omega
   obtain rfl:j=n:=by omega
   have HF:=S9 (show s'+1=BF e from by rw[HS.out,HNE.out,List.take_of_length_le (by rw[←HN.out];exact SD _)]);go_wp2_with fail;go_ret;exact⟨by rw[←HF.out];rfl,HG.out.trans hGr⟩
end Go.Proofs.YthpflelgbadkcaaGreatDoor
