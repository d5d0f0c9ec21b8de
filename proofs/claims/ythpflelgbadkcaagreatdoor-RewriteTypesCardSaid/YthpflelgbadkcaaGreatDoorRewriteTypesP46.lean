/- What the card of the law stands on: RHash, RHash2, Many, LabV2, KeyB, KeyC, KeyD. -/
import Derived.Test.YthpflelgbadkcaaGreatDoorRewriteTypesP01
import Derived.Test.YthpflelgbadkcaaGreatDoorRewriteTypesP08
import Derived.Test.YthpflelgbadkcaaGreatDoorRewriteTypesP04
import Derived.Lib.ConvBytes
import Derived.Deep.QuietTactic
import Derived.Deep.DeepCutAuto
import Derived.Laws.Closers25b
import Derived.Laws.Cover1
import Derived.Deep.RegionHeld3
set_option maxRecDepth 100000
set_option maxHeartbeats 12800000
set_option linter.unusedVariables false
set_option linter.unusedSimpArgs false
namespace Go.Proofs.YthpflelgbadkcaaGreatDoor
open Go.RowKit Pl
def U2 (x:Nat):Value:= .int .u64 x
theorem Ta:SI Tryz.prog 161 123 8 (.int .u64 0):=⟨Tryz.underlying161,by kernel_rfl,rfl,by decide⟩
theorem Fi (s x:Nat) (w:World) (hs:s<18446744073709551616) (hx:x<18446744073709551616):
  Calls Tryz.prog 108 #[.int .u64 (s:Nat),.int .u64 (x:Nat)] w fun e w'=>e= .returned (.int .u64 (Ed s x:Nat))∧w=w':=by
 have h1:=u64_xor_nat s x hs hx;have hf:bits BinOp.xor IntKind.u64 (((s^^^x:Nat):Int)*11400714819323198485%18446744073709551616) (((s^^^x:Nat):Int)*11400714819323198485%18446744073709551616/4294967296)=((Ed s x:Nat):Int):=by
  unfold Ed;generalize s^^^x=y;have e1:(y:Int)*11400714819323198485%18446744073709551616=((y*11400714819323198485%18446744073709551616:Nat):Int):=by omega
  rw[e1];have hm:y*11400714819323198485%18446744073709551616<18446744073709551616:=by omega
  generalize y*11400714819323198485%18446744073709551616=m at*;have e2:(m:Int)/4294967296=((m/4294967296:Nat):Int):=by omega
  rw[e2,u64_xor_nat _ _ hm (by omega)]
 have hu:∀z:Int,IntKind.u64.wrap z=z%18446744073709551616:=fun z=>rfl
 have hf2:bits BinOp.xor IntKind.u64 (IntKind.u64.wrap (((s^^^x:Nat):Int)*11400714819323198485)) (IntKind.u64.wrap ((IntKind.u64.wrap (((s^^^x:Nat):Int)*11400714819323198485)).tdiv 4294967296))=((Ed s x:Nat):Int):=by
  rw[←hf,hu,hu];generalize ((s^^^x:Nat):Int)*11400714819323198485=z;rw[Int.tdiv_eq_ediv_of_nonneg (by omega)];congr 1;omega
 have HF:=V3 hf2;clear hf hf2 hu;go_enter Tryz.func108,Tryz.ntmps108;go_wp2_with fail;go_ret;exact⟨by rw[←HF.out];rfl,rfl⟩
theorem Px (l:List Nat) (t:Nat) (h:t<l.length):N8 (l.drop t)=l.getD t 0+256*N8 (l.drop (t+1)):=by
 rw[List.drop_eq_getElem_cons h,N8,List.getD_eq_getElem?_getD,VB h];rfl
theorem NA (bs:List Nat) (i t:Nat) (ht:t<8):(Cm bs i).getD t 0=bs.getD (8*i+t) 0:=by
 unfold Cm;rw[List.getD_eq_getElem?_getD,List.getElem?_take,VN ht,List.getElem?_drop,List.getD_eq_getElem?_getD]
theorem Mh {bs:List Nat} (h:Bytes bs) (i t:Nat):N8 ((Cm bs i).drop t)<256^((Cm bs i).length-t):=by
 have:=Q7 ((Cm bs i).drop t) (fun x hx=>Ic h i x (List.mem_of_mem_drop hx));rwa[List.length_drop]at this
theorem Ob {k:Nat} (h:k≤8):256^k≤18446744073709551616:=by
 have h2:256^k≤256^8:=Nat.pow_le_pow_right (by omega) h;have h3:(256:Nat)^8=18446744073709551616:=by decide
 omega
theorem NL (v:Value) (bs:List Nat) (w:World) (h:Rd w w.heap.size v (bs.map vb)) (hbb:Bytes bs) (hl:bs.length≤1000000):
  Calls Tryz.prog 107 #[v] w fun e w'=>∃v',e= .returned v'∧B9 w' w.heap.size 123 v' ((BE bs).map U2)∧A4 w w':=by
 obtain⟨A,n,c,rfl,hn,hc⟩:=h.form;rw[List.length_map]at hn;have hnl:n≤1000000:=by omega
 have HN:=V3 hn;have H:=V3 h;clear hn h;go_enter Tryz.func107,Tryz.ntmps107;go_wp2_with fail;go_loopw [3,4] (fun a i wr=>∃(j m:Nat) (A1:Option Addr) (c1:Nat),j≤ER bs∧i= .int .i64 ((8*j:Nat):Int)∧a= .slice A1 m c1∧B9 wr w.heap.size 123 (.slice A1 m c1) (((BE bs).take j).map U2)∧A4 w wr) (fun _ i _=>n+8-(intOf i).toNat)
 case atStart=>exact⟨0,0,none,0,by omega,rfl,rfl,by rw[List.take_zero];exact B9.nil _ _ _,VU _⟩
 case round=>
  obtain⟨j,m,A1,c1,hj,rfl,rfl,hM,hG⟩:=hrel;have hsz:=hG.size;have hjn:j≤(n+7)/8:=by unfold ER at hj;rw[HN.out];exact hj
  by_cases hlt:8*j<n
  ·have t0:decide (((8*j:Nat):Int)<(n:Int))=true:=by simp;omega
   have hjw:j<ER bs:=by unfold ER;rw[←HN.out];omega
   have hcl:(Cm bs j).length=min 8 (n-8*j):=by rw[LJ,HN.out]
   obtain⟨L,hL⟩:∃L:Nat,L=(Cm bs j).length:=⟨_,rfl⟩;rw[←hL]at hcl;have hL8:L≤8:=by omega
   have hLn:8*j+L≤n:=by omega
   have HL:=V3 hL;have HCL:=V3 hcl;have HT:=V3 (Nd bs j hjw);have hml:(((BE bs).take j).map U2).length<1099511627776:=by rw[List.length_map,List.length_take];omega
   have hr:=H.out.grew (V6 _) hG;clear hL hcl hjw hj;go_wp2_with fail
   all_goals(
    have hcl:=HCL.out;go_loopw [5,6] (fun a k wq=>∃(t:Nat) (y:Int),t≤L∧y+1=((8*j+t:Nat):Int)∧k= .int .i64 y∧a= .int .u64 (N8 ((Cm bs j).drop t):Nat)∧wq=wr) (fun _ k _=>(intOf k+1).toNat)
    case atStart=>exact⟨L,_,V6 _,by omega,rfl,by rw[HL.out,List.drop_length];rfl,rfl⟩
    case round=>
     obtain⟨t,y,ht,hy,rfl,rfl,rfl⟩:=hrel;clear hcl;by_cases h0:0<t
     ·obtain⟨t',rfl⟩:∃t',t=t'+1:=⟨t-1,by omega⟩;obtain⟨p,hp⟩:∃p:Nat,p=8*j+t':=⟨_,rfl⟩;obtain rfl:y=(p:Int):=by omega
      have hpl:p<bs.length:=by rw[←HN.out];omega
      have hpn:p<n:=by omega
      obtain⟨ad,rfl,hadb,hcell⟩:=hr.byte_at hpl;have t1:decide ((8*(j:Int))≤(p:Int))=true:=by simp;omega
      have hle:=Px (Cm bs j) t' (by rw[←HL.out];omega);rw[NA bs j t' (by omega),←hp]at hle;have hlt2:=Mh hbb j t';have hpw:=Ob (k:=(Cm bs j).length-t') (by rw[←HL.out];omega);have hbl:bs.getD p 0<256:=Ox hbb p;have HLE:=V3 hle;have hs2:256*N8 ((Cm bs j).drop (t'+1))+bs.getD p 0<18446744073709551616:=by omega
      clear hle hlt2 hpw;generalize N8 ((Cm bs j).drop (t'+1))=q at*;generalize bs.getD p 0=b at*;have HP:=V3 hp;have HY:=V3 hy;clear hp hy;go_wp2_with fail;have hp:=HP.out;go_roundw
      case rel=>exact⟨t',_,by omega,by omega,rfl,by rw[HLE.out];congr 1;omega,trivial⟩
      case measure=>simp[intOf]
     obtain rfl:t=0:=by omega
     have t1:decide ((8*(j:Int))≤y)=false:=by simp;omega
     have hcv:=Ly hbb j;rw[List.drop_zero];generalize N8 (Cm bs j)=q at*;go_wp2_with(at_builtin;refine Ii Ta rfl (.tmp 32) (.tmp 34) rfl rfl (hM.alloc _) wr.heap.size 1 (.int .u64 (q:Nat)) rfl (V6 _) (by simp) (by simp) rfl hml (by simp;omega) ?_;intro r cap w1 hM1 hk1 hr1 hbr1 hlr1);go_roundw
     case rel=>exact⟨j+1,_,_,_,by unfold ER;rw[←HN.out];omega,by go_num,rfl,by rw[HT.out,List.map_append];rw[List.length_map,List.length_take]at hM1;exact hM1,(hG.alloc _).app (hM.alloc _) hk1⟩
     case measure=>simp[intOf];omega)
  have t0:decide (((8*j:Nat):Int)<(n:Int))=false:=by simp;omega
  have hall:(BE bs).take j=BE bs:=by
   rw[List.take_of_length_le];rw[DF];unfold ER;rw[←HN.out];omega
  rw[hall]at hM;go_wp2_with fail;go_ret;exact⟨_,rfl,hM,hG⟩
theorem Rd.w64_at {w:World} {B:Nat} {A:Option Addr} {n c j:Nat} {l:List Nat} (h:Rd w B (.slice A n c) (l.map U2)) (hj:j<l.length):∃ad,A=some ad∧ad.block<B∧w.cell? (ad.add j)=some (.int .u64 (l.getD j 0:Nat)):=by
 obtain⟨ad,u,rfl,h1,h2,h3⟩:=h.at_ (j:=j) (by rw[List.length_map];exact hj);rw[List.getElem?_map,VB hj]at h2;refine⟨ad,rfl,h1,?_⟩;rw[h3,←h2,List.getD_eq_getElem?_getD,VB hj];rfl
theorem Rd.vw_at {w:World} {B:Nat} {A:Option Addr} {n c j:Nat} {l:List Nat} (h:Rd w B (.slice A n c) (l.map vw)) (hj:j<l.length):∃ad,A=some ad∧ad.block<B∧w.cell? (ad.add j)=some (.int .i64 (Po (l.getD j 0))):=by
 obtain⟨ad,u,rfl,h1,h2,h3⟩:=h.at_ (j:=j) (by rw[List.length_map];exact hj);rw[List.getElem?_map,VB hj]at h2;refine⟨ad,rfl,h1,?_⟩;rw[h3,←h2,List.getD_eq_getElem?_getD,VB hj];rfl
theorem KV (l:List Nat) (j:Nat) (hj:j<l.length):l.take (j+1)=l.take j++[l.getD j 0]:=by
 rw[List.take_add_one,VB hj,List.getD_eq_getElem?_getD,VB hj];rfl
theorem PH (w:World) (e:TypeId) (s:ByteArray):A4 w (Lib.bytesWorld w e s):=
 ⟨rfl,rfl,rfl,by rw[Lib.bytesWorld_size];omega,fun k hk _=>Lib.bytesWorld_at_old w e s k hk⟩
theorem S6 (w:World) (e:TypeId) (s:ByteArray) (lb:List Nat) (hlb:lb=s.data.toList.map UInt8.toNat):Rd (Lib.bytesWorld w e s) (Lib.bytesWorld w e s).heap.size (.slice (some ⟨w.heap.size,0,none⟩) s.size (grownCap w s.size 0 e)) (lb.map vb):=by
 have hl:(lb.map vb).length=s.size:=by rw[hlb,List.length_map,List.length_map,Array.length_toList];rfl
 refine⟨_,_,by rw[hl],by rw[hl];exact grownCap_ge _ _ _ _,fun _=>⟨_,rfl,by rw[Lib.bytesWorld_size];show w.heap.size<_;omega,fun j u hu=>?_⟩⟩;have e1:(⟨w.heap.size,0,none⟩:Addr).add j=⟨w.heap.size,j,none⟩:=by unfold Addr.add;split<;>simp_all
 have hj:j<s.size:=by
  have:=(VG.1 hu).1;omega
 rw[e1,Lib.bytesWorld_cell w e s j hj];rw[hlb,List.map_map,List.getElem?_map]at hu;have hj2:j<s.data.toList.length:=by rw[Array.length_toList];exact hj
 rw[VB hj2]at hu;rw[List.getD_eq_getElem?_getD,VB hj2];exact hu
theorem RX (s:ByteArray) (lb:List Nat) (v:Value) (ws:List Nat) (w:World) (hlb:lb=s.data.toList.map UInt8.toNat) (hlB:Bytes lb) (hls:s.size≤1000000) (h:Rd w w.heap.size v (ws.map vw)) (hw:∀x∈ws,x<18446744073709551616) (hl:ws.length≤1000000000):
  Calls Tryz.prog 76 #[.string s,v] w fun e w'=>e= .returned (.int .u64 (Ip lb ws:Nat))∧A4 w w':=by
 obtain⟨A,q,c,rfl,hq,hc⟩:=h.form;rw[List.length_map]at hq;have HQ:=V3 hq;have H:=V3 h;have HLB:=V3 hlb;obtain⟨hv,hhv⟩:∃hv,hv=Ip lb ws:=⟨_,rfl⟩;rw[←hhv];have HHV:=V3 hhv;clear hq h hlb hhv;go_enter Tryz.func76,Tryz.ntmps76;have hconv:=Lib.run_convert_string_bytes (P:=Tryz.prog) w 9 154 5 s Tryz.underlying9 Tryz.underlying154 Tryz.underlying5;have hG0:=PH w 5 s;have hls2:lb.length=s.size:=by rw[HLB.out,List.length_map,Array.length_toList];rfl
 have hrw:=NL _ lb _ (S6 w 5 s lb HLB.out) hlB (by omega);generalize grownCap w s.size 0 5=gc at*;generalize Lib.bytesWorld w 5 s=W0 at*;have HRW:=V3 hrw;have HLS:=V3 hls2;clear hrw hls2;go_wp2_with fail;refine HRW.out.mono ?_;rintro e w1 ⟨v1,rfl,m1,g1⟩;obtain⟨A1,n1,c1,rfl,hn1⟩:=m1.slice;have hG1:=hG0.trans g1;rw[List.length_map,DF]at hn1;have hnw:n1≤1000000:=by have:=HLS.out;unfold ER at hn1;omega
 have HN1:=V3 hn1;have hwl:=QE hlB;clear hn1 g1 hG0 HRW;go_wp2_with fail;go_loopw [5,7] (fun a i wr=>∃j:Nat,j≤n1∧i= .int .i64 (j:Nat)∧a= .int .u64 (Bo 0 ((BE lb).take j):Nat)∧wr=w1) (fun _ i _=>n1-(intOf i).toNat)
 case atStart=>exact⟨0,by omega,rfl,by rw[List.take_zero,Ix];rfl,rfl⟩
 case round=>
  obtain⟨j,hj,rfl,rfl,rfl⟩:=hrel;by_cases hlt:j<n1
  ·have hjl:j<(BE lb).length:=by rw[DF,←HN1.out];exact hlt
   obtain⟨ad,rfl,hadb,hcell⟩:=m1.rd.w64_at hjl;have HTK:=V3 (KV _ _ hjl);have hbx:(BE lb).getD j 0<18446744073709551616:=by
    rw[List.getD_eq_getElem?_getD,VB hjl];exact hwl _ (List.getElem_mem hjl)
   have HM:=V3 (Fi (Bo 0 ((BE lb).take j)) ((BE lb).getD j 0) wr (G4 (by omega) _) hbx);have HS:=V3 (Fo 0 ((BE lb).take j) ((BE lb).getD j 0));rw[←HTK.out]at HS;generalize Ed (Bo 0 ((BE lb).take j)) ((BE lb).getD j 0)=mm at*;generalize Bo 0 ((BE lb).take j)=ma at*;generalize (BE lb).getD j 0=b at*;clear hjl HTK;go_wp2_with fail;refine HM.out.mono ?_;rintro e w2 ⟨rfl,rfl⟩;go_wp2_with fail;go_roundw
   case rel=>exact⟨j+1,by omega,by go_num,by rw[HS.out],trivial⟩
   case measure=>simp[intOf];omega
  have hall:(BE lb).take j=BE lb:=by
   rw[List.take_of_length_le];rw[DF,←HN1.out];omega
  rw[hall];have hml:=G4 (s:=0) (by omega) (BE lb);have hql:q≤1000000000:=by rw[HQ.out];exact hl
  have HM1:=V3 (Fi (Bo 0 (BE lb)) s.size wr hml (by omega));have HM2:=V3 (Fi (Ed (Bo 0 (BE lb)) s.size) q wr (In _ _) (by omega));have hs2:=In (Ed (Bo 0 (BE lb)) s.size) q;have hfin:hv=Ed (Bo (Ed (Ed (Bo 0 (BE lb)) s.size) q) ws) 0:=by
   rw[HHV.out];unfold Ip;rw[HLS.out,←HQ.out]
  have HFIN:=V3 hfin;clear hfin hall HHV;generalize Ed (Ed (Bo 0 (BE lb)) s.size) q=z2 at*;generalize Ed (Bo 0 (BE lb)) s.size=z1 at*;generalize Bo 0 (BE lb)=z0 at*;have hr:=H.out.grew (V6 _) hG1;go_wp2_with fail;refine HM1.out.mono ?_;rintro e w2 ⟨rfl,rfl⟩;go_wp2_with fail;refine HM2.out.mono ?_;rintro e w2 ⟨rfl,rfl⟩;go_wp2_with fail;go_loopw [5,8] (fun a i wq=>∃j:Nat,j≤q∧i= .int .i64 (j:Nat)∧a= .int .u64 (Bo z2 (ws.take j):Nat)∧wq=wr) (fun _ i _=>q-(intOf i).toNat)
  case atStart=>exact⟨0,by omega,rfl,by rw[List.take_zero,Ix],rfl⟩
  case round=>
   obtain⟨j,hj,rfl,rfl,rfl⟩:=hrel;by_cases hlt:j<q
   ·have hjl:j<ws.length:=by rw[←HQ.out];exact hlt
    obtain⟨ad,rfl,hadb,hcell⟩:=hr.vw_at hjl;have HTK:=V3 (KV _ _ hjl);have hbx:ws.getD j 0<18446744073709551616:=by
     rw[List.getD_eq_getElem?_getD,VB hjl];exact hw _ (List.getElem_mem hjl)
    have HM:=V3 (Fi (Bo z2 (ws.take j)) (ws.getD j 0) wr (G4 hs2 _) hbx);have HS:=V3 (Fo z2 (ws.take j) (ws.getD j 0));have hb1:=QI hbx;have hb2:Po (ws.getD j 0)%18446744073709551616=((ws.getD j 0:Nat):Int):=by rw[←IntKind.wrap_u64];exact hb1
    have hbi:=Rx hbx;rw[←HTK.out]at HS;generalize Ed (Bo z2 (ws.take j)) (ws.getD j 0)=mm at*;generalize Bo z2 (ws.take j)=ma at*;generalize Po (ws.getD j 0)=y at*;generalize ws.getD j 0=b at*;clear hjl HTK;go_wp2_with fail;refine HM.out.mono ?_;rintro e w2 ⟨rfl,rfl⟩;go_wp2_with fail;go_roundw
    case rel=>exact⟨j+1,by omega,by go_num,by rw[HS.out],trivial⟩
    case measure=>simp[intOf];omega
   have hall:ws.take j=ws:=by
    rw[List.take_of_length_le];rw[←HQ.out];omega
   rw[hall];have HM3:=V3 (Fi (Bo z2 ws) 0 wr (G4 hs2 _) (by omega));rw[←HFIN.out]at HM3;generalize Bo z2 ws=z3 at*;go_wp2_with fail;refine HM3.out.mono ?_;rintro e w2 ⟨rfl,rfl⟩;go_wp2_with fail;go_ret;exact⟨rfl,hG1⟩
end Go.Proofs.YthpflelgbadkcaaGreatDoor
namespace Go.Proofs.YthpflelgbadkcaaGreatDoor
open Go.RowKit Go.Shelf Pl
def SZ (x:Int):Nat:=(x%18446744073709551616).toNat
theorem SN {x:Int} (h:BI x):Po (SZ x)=x:=by
 unfold Po SZ;unfold BI at h;split<;>omega
theorem Sv (x:Int):SZ x<18446744073709551616:=by unfold SZ;omega
theorem Tw {l:List Int} (h:∀x∈l,BI x):l.map vi=(l.map SZ).map vw:=by
 rw[List.map_map];apply List.map_congr_left;intro x hx;show vi x=vw (SZ x);unfold vw;rw[SN (h x hx)];rfl
theorem S7 (w:World) (xs:List Int):Rd (w.alloc (.cells (xs.map vi).toArray 3)) (w.alloc (.cells (xs.map vi).toArray 3)).heap.size (.slice (some ⟨w.heap.size,0,none⟩) xs.length xs.length) (xs.map vi):=by
 have hb:=VW w 3 (xs.map vi).toArray;refine⟨_,xs.length,by rw[List.length_map],by rw[List.length_map];exact V6 _,fun _=>⟨_,rfl,hb.lt,fun j u hj=>?_⟩⟩;rw[Addr.add_mid,hb.cell,Nat.zero_add,List.getElem?_toArray];exact hj
def PY:List Nat:=[118,105,101,119]
def M7 (n:Nat) (w:World) (e:Ending) (w':World):Prop:=∃(A:Option Addr) (c:Nat) (xs:List Int),e= .returned (.slice A n c)∧Rd w' w'.heap.size (.slice A n c) (xs.map vi)∧B9 w' w.heap.size 3 (.slice A n c) (xs.map vi)∧n≤c∧xs.length=n∧(∀x∈xs,0≤x∧x<1000003)∧A4 w w'
theorem Qk (v:Value) (l:List Int) (p n:Nat) (w:World) (h:Rd w w.heap.size v (l.map vi)) (hi:∀x∈l,BI x) (hp:p≤1000) (hn:n≤1000):
  Calls Tryz.prog 42 #[v,.int .i64 (p:Nat),.int .i64 (n:Nat)] w (M7 n w):=by
 have HI:=V3 (show Calls Tryz.prog 75 #[v,.int .i64 8] w (fun e w'=>∃v',e= .returned v'∧B9 w' w.heap.size 3 v' ((l.take 8).map vi)∧A4 w w')from Jy v l 8 w h (by omega));obtain⟨x8,hx8⟩:∃x,l.take 8=x:=⟨_,rfl⟩;have hi8:∀x∈x8,BI x:=fun x hx=>hi x (List.mem_of_mem_take (by rw[hx8];exact hx))
 have hl8:x8.length≤8:=by rw[←hx8,List.length_take];omega
 rw[hx8]at HI;have HI8:=V3 hi8;clear h hi hx8 hi8;go_enter Tryz.func42,Tryz.ntmps42;go_wp2_with(go_at_call 75;(with_reducible refine HI.out.mono ?_);rintro e1 w1 ⟨v1,rfl,hM1,k1⟩;obtain⟨A1,n1,c1,rfl, -⟩:=hM1.slice;have HM1:=V3 hM1;have HG1:=V3 k1;clear hM1 k1);go_loopw [7,9,10] (fun o i _ wr=>∃(k q:Nat) (C:Option Addr) (xs:List Int),k≤n∧i= .int .i64 (k:Nat)∧o= .slice C k q∧B9 wr w1.heap.size 3 (.slice C k q) (xs.map vi)∧xs.length=k∧(∀x∈xs,0≤x∧x<1000003)∧A4 w1 wr) (fun _ i _ _=>n-(intOf i).toNat)
 case atStart=>exact⟨0,0,none,[],by omega,rfl,rfl,B9.nil _ _ _,rfl,(fun x hx=>nomatch hx),VU _⟩
 case round=>
  obtain⟨k,q,C,xs,hk,rfl,rfl,hM,hxl,hxs,hG⟩:=hrel;have HM:=V3 hM;have HXl:=V3 hxl;have HXs:=V3 hxs;have HG:=V3 hG;have HSz:=V3 hG.size;clear hM hxl hxs hG;by_cases hlt:k<n
  ·have HR1:=V3 ((HM1.out.grew HG.out).rd);have HXk:=V3 (show xs.length≤1000 from by have:=HXl.out;omega);obtain⟨lw,hlw⟩:∃lw:List Int,x8++[(p:Int),(k:Int)]=lw:=⟨_,rfl⟩;have HLw:=V3 hlw;have hlwi:∀x∈lw,BI x:=fun x hx=>by
    rw[←hlw]at hx;rcases List.mem_append.1 hx with h|h
    ·exact HI8.out x h
    simp only[List.mem_cons,List.not_mem_nil,or_false]at h;unfold BI;rcases h with rfl|rfl<;>omega
   have hlwl:lw.length≤10:=by rw[←hlw];simp;omega
   have HLi:=V3 (V5 hlwi hlwl);obtain⟨hs,hhs⟩:∃h,Ip PY (lw.map SZ)=h:=⟨_,rfl⟩;have hs64:hs<18446744073709551616:=by rw[←hhs];exact In _ _
   have HSm:=V3 (fun(w':World) (v:Value) (hr:Rd w' w'.heap.size v (lw.map vi))=>(show Calls Tryz.prog 76 #[.string ⟨#[118,105,101,119]⟩,v] w' (fun e w''=>e= .returned (.int .u64 (hs:Nat))∧A4 w' w'')from by
    have h:=RX ⟨#[118,105,101,119]⟩ PY v (lw.map SZ) w' rfl (by unfold PY Bytes;decide) (by decide) (by rw[←Tw hlwi];exact hr) (fun x hx=>by obtain⟨y, -,rfl⟩:=List.mem_map.1 hx;exact Sv y) (by rw[List.length_map];omega);rw[hhs]at h;exact h))
   have HLv:=V3 (show([]++x8.map vi)++[(p:Int),(k:Int)].map vi=lw.map vi by rw[←hlw,List.map_append];rfl);have hw1:IntKind.i64.wrap ((hs:Int)%1000003)=(hs:Int)%1000003:=IntWalk.i64_in _ (by omega);clear hlw hlwi hlwl hhs;go_wp2_with(first|(at_builtin;refine Gu Gw rfl (.tmp 18) (.tmp 19) rfl rfl (B9.nil wr wr.heap.size _) rfl HR1.out (LA _) (by simp;omega) (V6 _) ?_;intro A2 m2 q2 w2 hm2 hM2 hk2 hr2;have HM2:=V3 hM2;have HG2:=V3 (show A4 wr w2 from AA.mono hk2 (fun i hi e=>by cases e));have hz2:=HG2.out.size;clear hm2 hM2 hk2 hr2)|(at_builtin;refine Gu Gw rfl (.tmp 20) (.tmp 23) rfl rfl (HM2.out.alloc _) rfl (S7 w2 [(p:Int),(k:Int)]) (LA _) (by simp;omega) (by simp;omega) ?_;intro A3 m3 q3 w3 hm3 hM3 hk3 hr3;have HM3:=V3 hM3;have HG3:=V3 (show A4 w1 w3 from VV ((HG.out.trans HG2.out).alloc _) hk3 (fun i hi e=>by have:=(HM2.out.lt i e).1;have:=HSz.out;omega));have HO3:=V3 ((HM.out.grew (HG2.out.alloc _)).keep hk3 (fun b hb e=>by have:=(HM2.out.lt b e).1;have:=(HM.out.lt b hb).2;omega));clear hm3 hM3 hk3 hr3)|(go_at_call 76;refine(HSm.out w3 (.slice A3 m3 q3) (by have h:=HM3.out.rd;rw[HLv.out]at h;exact h)).mono ?_;rintro e5 w5 ⟨rfl,k5⟩;have HG5:=V3 (HG3.out.trans k5);have HM5:=V3 (HO3.out.grew k5);have hz5:=HG5.out.size;clear k5)|(at_builtin;refine Ii Gw rfl (.tmp 25) (.tmp 30) rfl rfl (HM5.out.alloc _) w5.heap.size 1 (.int .i64 ((hs:Int)%1000003)) rfl (V6 _) (by simp) (by simp) rfl (by rw[List.length_map];have:=HXk.out;omega) (by simp;omega) ?_;intro r6 c6 w6 hM6 hk6 hr6 hbr6 hlr6;rw[List.length_map,HXl.out]at hM6 ⊢;have HM6:=V3 hM6;have HG6:=V3 (show A4 w1 w6 from VV (HG5.out.alloc _) hk6 (fun i hi e=>by have:=(HM5.out.lt i e).1;omega));clear hM6 hk6 hr6 hbr6 hlr6));go_roundw
   case rel=>exact⟨k+1,c6,_,xs++[(hs:Int)%1000003],by omega,by go_num,rfl,by rw[List.map_append];exact HM6.out,by simp;exact HXl.out,(fun x hx=>by
    rcases List.mem_append.1 hx with h|h
    ·exact HXs.out x h
    rw[VF.1 h];omega),HG6.out⟩
   case measure=>simp[intOf];omega
  obtain rfl:n=k:=by omega
  go_wp2_with fail;go_ret;have hr:=HM.out.rd;obtain⟨A',n',c',hv,hn',hc'⟩:=hr.form;injection hv with h1 h2 h3;exact⟨C,q,xs,rfl,hr,HM.out.base_le HG1.out.size,by omega,HXl.out,HXs.out,HG1.out.trans HG.out⟩
end Go.Proofs.YthpflelgbadkcaaGreatDoor
namespace Go.Proofs.YthpflelgbadkcaaGreatDoor
open Go.RowKit Pl
def Iw (nm:ByteArray) (v:Value) (x:Fin 10→Int):Value:=
 .agg #[.string nm,v,.int .i64 (x 0),.int .i64 (x 1),.int .i64 (x 2),.int .i64 (x 3),.int .i64 (x 4),.int .i64 (x 5),.int .i64 (x 6),.int .i64 (x 7),.int .i64 (x 8),.int .i64 (x 9)]
def Bf (l:List Int) (i m:Nat):Nat:=if i<l.length then FC (l.getD i 0) m else 0
theorem Db (l:List Int) (i m:Nat) (hm:0<m):Bf l i m<m:=by
 unfold Bf;split
 ·exact Fu _ _ hm
 exact hm
theorem M1 (v:Value) (l:List Int) (i m:Nat) (w:World) (h:Rd w w.heap.size v (l.map vi)) (hi:∀x∈l,BI x) (hl:l.length≤1000000000000000) (_:i≤1000) (hm:0<m) (hm2:m≤1000):
  Calls Tryz.prog 23 #[v,.int .i64 (i:Nat),.int .i64 (m:Nat)] w fun e w'=>e= .returned (.int .i64 (Bf l i m:Nat))∧w'=w:=by
 obtain⟨A,n,c,rfl,hn,hc⟩:=h.form;rw[List.length_map]at hn;by_cases hlt:i<n
 ·have hpv:Bf l i m=FC (l.getD i 0) m:=by unfold Bf;rw[VN (by omega)]
  rw[hpv];clear hpv;obtain⟨ad,rfl,hadb,hcell⟩:=h.int_at (j:=i) (by omega);have HA:=V3 (FI (l.getD i 0) m w (Ft hi i) hm (by omega));generalize l.getD i 0=x at*;generalize FC x m=k at*;have hnl:n≤1000000000000000:=by omega
  have t0:decide ((i:Int)<0)=false:=by simp
  have t1:decide (n≤i)=false:=by simp;omega
  have t2:decide ((n:Int)≤(i:Int))=false:=by simp;omega
  clear h hn hi;go_enter Tryz.func23,Tryz.ntmps23;go_wp2_with fail;refine HA.out.mono ?_;rintro e w' ⟨rfl,hw'⟩;rw[hw'];clear hw' w';go_wp2_with fail;go_ret;exact⟨rfl,rfl⟩
 have hpv:Bf l i m=0:=by unfold Bf;rw[VM (by omega)]
 rw[hpv];clear hpv;have hnl:n≤1000000000000000:=by omega
 have t0:decide ((i:Int)<0)=false:=by simp
 have t1:decide (n≤i)=true:=by simp;omega
 have t2:decide ((n:Int)≤(i:Int))=true:=by simp;omega
 clear h hn hi;go_enter Tryz.func23,Tryz.ntmps23;go_wp2_with fail;go_ret;exact⟨rfl,rfl⟩
def AQ (nm:ByteArray) (v:Value) (x:Fin 10→Int):List Value:=
 [.string nm,v,.int .i64 (x 0),.int .i64 (x 1),.int .i64 (x 2),.int .i64 (x 3),.int .i64 (x 4),.int .i64 (x 5),.int .i64 (x 6),.int .i64 (x 7),.int .i64 (x 8),.int .i64 (x 9)]
theorem Dm (nm:ByteArray) (v:Value) (x:Fin 10→Int):Iw nm v x= .agg (AQ nm v x).toArray:=rfl
theorem FA:(Tryz.prog.info? 54).map (·.size)=some 12:=by kernel_rfl
section
variable {w:World} {g:Nat} {t:TypeId} {nm:ByteArray} {v:Value} {x:Fin 10→Int}
theorem AR.there12 (h:AR w g t (AQ nm v x).toArray):w.there g 0 12:=by
 intro j hj;refine⟨?_,?_⟩
 ·rw[Nat.zero_add,h.cell];simp[AQ,hj]
 rw[Nat.zero_add];exact h.frozen j
theorem AR.range12 (h:AR w g t (AQ nm v x).toArray):w.rangeAt g 0 (AQ nm v x):=fun j u hu=>by
 rw[Nat.zero_add,h.cell];simpa using hu
theorem IU (w:World) (g:Nat) (xs:List Value) (hl:xs.length=12):AA (fun i=>i=g) w (w.setCells g 0 xs):=by
 match xs,hl with
 |[x0,x1,x2,x3,x4,x5,x6,x7,x8,x9,xa,xb],_=>
  show AA _ w ((((((((((((w.setCell ⟨g,0,none⟩ _).setCell ⟨g,1,none⟩ _).setCell ⟨g,2,none⟩ _).setCell ⟨g,3,none⟩ _).setCell ⟨g,4,none⟩ _).setCell ⟨g,5,none⟩ _).setCell ⟨g,6,none⟩ _).setCell ⟨g,7,none⟩ _).setCell ⟨g,8,none⟩ _).setCell ⟨g,9,none⟩ _).setCell ⟨g,10,none⟩ _).setCell ⟨g,11,none⟩ _)
  iterate 12 (refine VZ (S:=fun i=>i=g) ?_ (.inl rfl) _)
  exact VY _ _
theorem AR.put12 (h:AR w g t (AQ nm v x).toArray) (nm':ByteArray) (v':Value) (x':Fin 10→Int):AR (w.setCells g 0 (AQ nm' v' x')) g t (AQ nm' v' x').toArray:=by
 have h1:=(((((((((((h.set_ 0 (.string nm')).set_ 1 v').set_ 2 (.int .i64 (x' 0))).set_ 3 (.int .i64 (x' 1))).set_ 4 (.int .i64 (x' 2))).set_ 5 (.int .i64 (x' 3))).set_ 6 (.int .i64 (x' 4))).set_ 7 (.int .i64 (x' 5))).set_ 8 (.int .i64 (x' 6))).set_ 9 (.int .i64 (x' 7))).set_ 10 (.int .i64 (x' 8))).set_ 11 (.int .i64 (x' 9));show AR ((((((((((((w.setCell ⟨g,0,none⟩ _).setCell ⟨g,1,none⟩ _).setCell ⟨g,2,none⟩ _).setCell ⟨g,3,none⟩ _).setCell ⟨g,4,none⟩ _).setCell ⟨g,5,none⟩ _).setCell ⟨g,6,none⟩ _).setCell ⟨g,7,none⟩ _).setCell ⟨g,8,none⟩ _).setCell ⟨g,9,none⟩ _).setCell ⟨g,10,none⟩ _).setCell ⟨g,11,none⟩ _) g t _;simpa[AQ]using h1
def C2 (x:Fin 10→Int) (k:Nat) (n:Int):Fin 10→Int:=fun i=>if i.val=k then n else x i
theorem AR.put1d (h:AR w g t (AQ nm v x).toArray) (k:Nat) (hk:k<10) (n:Int):AR (w.setCell ⟨g,k+2,none⟩ (.int .i64 n)) g t (AQ nm v (C2 x k n)).toArray:=by
 have h1:=h.set_ (k+2) (.int .i64 n);have:k=0∨k=1∨k=2∨k=3∨k=4∨k=5∨k=6∨k=7∨k=8∨k=9:=by omega
 rcases this with rfl|rfl|rfl|rfl|rfl|rfl|rfl|rfl|rfl|rfl<;>exact h1
section
variable {ops:Array Oper} {rest:List Oper} {o:Oper} {a:Act} {Q:Exit→Act→World→Prop}
theorem U9 (xo yo:Operand) (nm':ByteArray) (A:Option Addr) (n c:Nat) (x':Fin 10→Int) (hgd:o.guard=none) (ho:o.op= .store 54 xo yo)
  (hx:a.eval xo= .pointer (some ⟨g,0,none⟩)) (hy:a.eval yo= .agg (AQ nm' (.slice A n c) x').toArray) (hb:AR w g t (AQ nm v x).toArray)
  (h:∀w',AR w' g t (AQ nm' (.slice A n c) x').toArray→AA (fun i=>i=g) w w'→wpList Tryz.prog ops Q rest (a.put o.dst undef) w'):wpList Tryz.prog ops Q (o::rest) a w:=by
 refine wpList_store_mid hgd 54 xo yo ho g 0 (AQ nm' (.slice A n c) x').toArray hx hy hb.there12 FA ?_ ?_
 ·simp[AQ,Value.oneCell']
 exact h _ (hb.put12 nm' _ x') (IU w g _ rfl)
theorem UN (xo:Operand) (hgd:o.guard=none) (ho:o.op= .load 54 xo)
  (hx:a.eval xo= .pointer (some ⟨g,0,none⟩)) (hb:AR w g t (AQ nm v x).toArray)
  (h:wpList Tryz.prog ops Q rest (a.put o.dst (.agg (AQ nm v x).toArray)) w):wpList Tryz.prog ops Q (o::rest) a w:=
 wpList_load_mid hgd 54 xo ho g 0 hx (AQ nm v x) _ hb.range12 Tryz.underlying54 rfl FA h
end
theorem Iy {fn:Func} {p:Tmp} (h:fn.results=#[.cell p 54]) {tmps:Array Value} (hp:tmps.getD p undef= .pointer (some ⟨g,0,none⟩)) (hb:AR w g t (AQ nm v x).toArray):
  (results fn tmps).run Tryz.prog w= .ok (Iw nm v x) w:=by
 have hl:=run_loadVar_mid (P:=Tryz.prog) w g 0 54 (AQ nm v x) _ hb.range12 Tryz.underlying54 rfl FA;simp only[results,h];rw[Array.getD_eq_getD_getElem?]at hp;simp[hp,hl,asAddr,Dm]
end
end Go.Proofs.YthpflelgbadkcaaGreatDoor
