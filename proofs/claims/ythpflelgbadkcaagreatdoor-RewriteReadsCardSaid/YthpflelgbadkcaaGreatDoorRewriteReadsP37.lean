/- What the card of the law stands on: LivP, GenN. -/
import Derived.Test.YthpflelgbadkcaaGreatDoorRewriteReadsP01
import Derived.Test.YthpflelgbadkcaaGreatDoorRewriteReadsP36
import Derived.Test.YthpflelgbadkcaaGreatDoorRewriteReadsP17
set_option maxRecDepth 100000
set_option maxHeartbeats 12800000
set_option linter.unusedVariables false
set_option linter.unusedSimpArgs false
namespace Go.Proofs.YthpflelgbadkcaaGreatDoor
open Go.RowKit Pl
def RR:ByteArray:=⟨#[97]⟩
def Ra:ByteArray:=⟨#[98]⟩
theorem Ql:Li RR:=⟨fun i h=>by
 have:i=0:=by have:RR.size=1:=rfl;omega
 subst this;exact(show UInt8.toNat 97<128 by decide),by decide⟩
theorem RO:Li Ra:=⟨fun i h=>by
 have:i=0:=by have:Ra.size=1:=rfl;omega
 subst this;exact(show UInt8.toNat 98<128 by decide),by decide⟩
theorem Hh {f wd:Nat} {nm:ByteArray} (hf:f<1000) (hw:wd<1000) (h:Li nm):BL Be (H8 f wd nm):=by
 refine BA.2 ⟨⟨?_,h,(fun m hm=>nomatch hm),(fun m hm=>nomatch hm),Nat.zero_le _,Nat.zero_le _⟩,fun k hk=>nomatch hk⟩;show Bc 1∧Bc f∧Bc wd∧Bc 0∧Bc 0∧Bc 0∧Bc 0;unfold Bc;omega
theorem Ml {x y:Int} (hx:Bc x) (hy:Bc y):BL Be (BG x y):=by
 have z0:Bc 0:=CR.1;exact BA.2 ⟨⟨⟨z0,z0,z0,z0,z0,hx,hy⟩,Hz x y⟩,fun k hk=>nomatch hk⟩
theorem EB {f:Int} {a b:Ex} (hf:0≤f∧f≤3) (ha:BL Be a) (hb:BL Be b):BL Be (BB f a b):=by
 refine BA.2 ⟨⟨?_,?_⟩,fun k hk=>?_⟩
 ·show Bc 3∧Bc f∧Bc 0∧Bc 0∧Bc 0∧Bc 0∧Bc 0;unfold Bc;omega
 ·exact⟨(Hz 0 0).1,(fun m hm=>nomatch hm),(fun m hm=>nomatch hm),Nat.zero_le _,Nat.zero_le _⟩
 rcases List.mem_cons.1 hk with rfl|hk
 ·exact ha
 obtain rfl:=SJ.1 hk;exact hb
theorem K1 {f wd:Nat} {nm:ByteArray} (hf:f<1000) (hw:wd<1000) (hn:KV nm []):EH (H8 f wd nm):=by
 refine BA.2 ⟨⟨⟨(Hh hf hw hn.2.1.2.1).top.1,fun h=>nomatch h⟩,.inr (.inl (.inl ⟨rfl,hn⟩)),Nat.zero_le _,Nat.zero_le _⟩,fun k hk=>nomatch hk⟩
theorem Eg {f:Int} {a b:Ex} (hf:0≤f∧f≤3) (ha:EH a) (hb:EH b):EH (BB f a b):=by
 refine BA.2 ⟨⟨⟨?_,fun _=>⟨rfl,hf⟩⟩,.inr (.inr ⟨rfl,a,b,rfl⟩),Nat.zero_le _,Nat.zero_le _⟩,fun k hk=>?_⟩
 ·show Bc 3∧Bc f∧Bc 0∧Bc 0∧Bc 0∧Bc 0∧Bc 0;unfold Bc;omega
 rcases List.mem_cons.1 hk with rfl|hk
 ·exact ha
 obtain rfl:=SJ.1 hk;exact hb
theorem IT {wd:Nat} {nm:ByteArray} (hn:nm.size≤1000):BL QD (H8 0 wd nm):=BA.2 ⟨.inr (.inl ⟨rfl,rfl,rfl,I9,hn⟩),fun k hk=>nomatch hk⟩
theorem O9 {n:Nat} (hn:n<10):BL QD (BG n 1):=BA.2 ⟨.inl ⟨rfl,rfl,n,hn,rfl⟩,fun k hk=>nomatch hk⟩
theorem Ls {f:Nat} {a b:Ex} (hf:f<4) (ha:BL QD a) (hb:BL QD b):BL QD (BB f a b):=by
 refine BA.2 ⟨.inr (.inr ⟨rfl,⟨f,hf,rfl⟩,a,b,rfl⟩),fun k hk=>?_⟩;rcases List.mem_cons.1 hk with rfl|hk
 ·exact ha
 obtain rfl:=SJ.1 hk;exact hb
theorem RE:KV RR []:=⟨by kernel_rfl,(Hh (f:=0) (wd:=0) (by decide) (by decide) Ql).top,by decide,by decide,I9,by decide⟩
theorem Rl:KV Ra []:=⟨by kernel_rfl,(Hh (f:=0) (wd:=0) (by decide) (by decide) RO).top,by decide,by decide,I9,by decide⟩
def eA:Ex:=H8 0 0 RR
def eB:Ex:=H8 0 0 Ra
def eM:Ex:=H8 4 3 RR
theorem Qt:BL Be eA:=Hh (by decide) (by decide) Ql
theorem Pp:BL Be eB:=Hh (by decide) (by decide) RO
theorem Rn:BL Be eM:=Hh (by decide) (by decide) Ql
theorem Py:EH eA:=K1 (by decide) (by decide) RE
theorem RI:EH eB:=K1 (by decide) (by decide) Rl
theorem RH:EH eM:=K1 (by decide) (by decide) RE
theorem f0:(0:Int)≤0∧(0:Int)≤3:=by decide
theorem f1:(0:Int)≤1∧(1:Int)≤3:=by decide
theorem f2:(0:Int)≤2∧(2:Int)≤3:=by decide
theorem NY {n:Nat} (h:n<100):Bc n:=by unfold Bc;omega
abbrev Rj:ByteArray:=⟨#[40,97,43,97,46,109,101,97,110,40,51,41,41,45,97,46,109,101,97,110,40,51,41]⟩
abbrev Ry:ByteArray:=⟨#[40,97,43,98,41,45,98]⟩
abbrev S5:ByteArray:=⟨#[97,45,97]⟩
abbrev S6:ByteArray:=⟨#[49,43,50,42,51]⟩
abbrev Rx:ByteArray:=⟨#[97]⟩
abbrev Ru:ByteArray:=⟨#[97,43,98,45,98]⟩
abbrev Rv:ByteArray:=⟨#[97,42,48]⟩
abbrev Rt:ByteArray:=⟨#[55]⟩
theorem L0:Ah (BB 1 (BB 0 eA eM) eM)=eA:=by kernel_rfl
theorem L1:Ah (BB 1 (BB 0 eA eB) eB)=BB 1 (BB 0 eA eB) eB:=by kernel_rfl
theorem LZ:Ah (BB 1 eA eA)=BB 2 eA (BG 0 1):=by kernel_rfl
theorem L7:Ah (BB 0 (BG 1 1) (BB 2 (BG 2 1) (BG 3 1)))=BG 7 1:=by kernel_rfl
theorem R8:Ic Rj Rx (BB 1 (BB 0 eA eM) eM) where
 size:=by decide
 parse:=by kernel_rfl
 small:=by decide
 node:=EB f1 (EB f0 Qt Rn) Rn
 sok:=Eg f1 (Eg f0 Py RH) RH
 valid:=by kernel_rfl
 node2:=by rw[L0];exact Qt
 prn:=by rw[L0];exact IT (by decide)
 valid2:=by rw[L0];kernel_rfl
 len:=by rw[L0];decide
 text:=by rw[L0];kernel_rfl
theorem RD:Ic Ry Ru (BB 1 (BB 0 eA eB) eB) where
 size:=by decide
 parse:=by kernel_rfl
 small:=by decide
 node:=EB f1 (EB f0 Qt Pp) Pp
 sok:=Eg f1 (Eg f0 Py RI) RI
 valid:=by kernel_rfl
 node2:=by rw[L1];exact EB f1 (EB f0 Qt Pp) Pp
 prn:=by rw[L1];exact Ls (f:=1) (by decide) (Ls (f:=0) (by decide) (IT (by decide)) (IT (by decide))) (IT (by decide))
 valid2:=by rw[L1];kernel_rfl
 len:=by rw[L1];decide
 text:=by rw[L1];kernel_rfl
theorem RG:Ic S5 Rv (BB 1 eA eA) where
 size:=by decide
 parse:=by kernel_rfl
 small:=by decide
 node:=EB f1 Qt Qt
 sok:=Eg f1 Py Py
 valid:=by kernel_rfl
 node2:=by rw[LZ];exact EB f2 Qt (Ml (NY (n:=0) (by decide)) (NY (n:=1) (by decide)))
 prn:=by rw[LZ];exact Ls (f:=2) (by decide) (IT (by decide)) (O9 (n:=0) (by decide))
 valid2:=by rw[LZ];kernel_rfl
 len:=by rw[LZ];decide
 text:=by rw[LZ];kernel_rfl
theorem nn (n:Nat) (h:n<100):BL Be (BG n 1):=Ml (NY h) (NY (n:=1) (by decide))
theorem sn (n:Nat) (h:n<100):EH (BG n 1):=I2 (NY h) (NY (n:=1) (by decide))
theorem RP:Ic S6 Rt (BB 0 (BG 1 1) (BB 2 (BG 2 1) (BG 3 1))) where
 size:=by decide
 parse:=by kernel_rfl
 small:=by decide
 node:=EB f0 (nn 1 (by decide)) (EB f2 (nn 2 (by decide)) (nn 3 (by decide)))
 sok:=Eg f0 (sn 1 (by decide)) (Eg f2 (sn 2 (by decide)) (sn 3 (by decide)))
 valid:=by kernel_rfl
 node2:=by rw[L7];exact nn 7 (by decide)
 prn:=by rw[L7];exact O9 (n:=7) (by decide)
 valid2:=by rw[L7];kernel_rfl
 len:=by rw[L7];decide
 text:=by rw[L7];kernel_rfl
theorem Kq (w:World) (ht:D0 w):Calls Tryz.prog 16 #[] w fun e' w'=>e'= .returned (.bool true)∧A5 w w':=by
 have H1:=S9 (fun w' (g:A5 w w')=>E5 R8 w' ⟨ht.1.grew g,ht.2.1.keep g (fun h=>h),ht.2.2.keep g (fun h=>h)⟩);have H2:=S9 (fun w' (g:A5 w w')=>E5 RD w' ⟨ht.1.grew g,ht.2.1.keep g (fun h=>h),ht.2.2.keep g (fun h=>h)⟩);have H3:=S9 (fun w' (g:A5 w w')=>E5 RG w' ⟨ht.1.grew g,ht.2.1.keep g (fun h=>h),ht.2.2.keep g (fun h=>h)⟩);have H4:=S9 (fun w' (g:A5 w w')=>E5 RP w' ⟨ht.1.grew g,ht.2.1.keep g (fun h=>h),ht.2.2.keep g (fun h=>h)⟩);clear ht;go_enter Tryz.func16,Tryz.ntmps16;go_upto_region 1 with fail;refine AK [.bool true,.bool true,.bool true,.bool true,.bool true,.bool true,.bool true,.bool true,.bool true,.bool true,.bool true] _ (by kernel_rfl) (by kernel_rfl) rfl ?sH ?sT
 case sH=>
  simp only[List.toList_toArray,List.append_eq,List.cons_append,List.nil_append,AI,Act.put,List.setIfInBounds_toArray,List.set_cons_zero,List.set_cons_succ];refine A4 (by kernel_rfl) (fun w' hg=>?_) ?_
  ·go_simp;(with_reducible refine((H1.out _ hg:Calls _ _ _ _ _)).mono ?_);rintro e wq ⟨rfl,kq⟩;exact⟨rfl,kq⟩
  refine A4 (by kernel_rfl) (fun w' hg=>?_) ?_
  ·go_simp;exact Sa _
  refine A4 (by kernel_rfl) (fun w' hg=>?_) ?_
  ·go_simp;(with_reducible refine((H2.out _ hg:Calls _ _ _ _ _)).mono ?_);rintro e wq ⟨rfl,kq⟩;exact⟨rfl,kq⟩
  refine A4 (by kernel_rfl) (fun w' hg=>?_) ?_
  ·go_simp;exact Sa _
  refine A4 (by kernel_rfl) (fun w' hg=>?_) ?_
  ·go_simp;exact Sa _
  refine A4 (by kernel_rfl) (fun w' hg=>?_) ?_
  ·go_simp;(with_reducible refine((H3.out _ hg:Calls _ _ _ _ _)).mono ?_);rintro e wq ⟨rfl,kq⟩;exact⟨rfl,kq⟩
  refine A4 (by kernel_rfl) (fun w' hg=>?_) ?_
  ·go_simp;exact Sa _
  refine A4 (by kernel_rfl) (fun w' hg=>?_) ?_
  ·go_simp;exact Sa _
  refine A4 (by kernel_rfl) (fun w' hg=>?_) ?_
  ·go_simp;(with_reducible refine((H4.out _ hg:Calls _ _ _ _ _)).mono ?_);rintro e wq ⟨rfl,kq⟩;exact⟨rfl,kq⟩
  refine A4 (by kernel_rfl) (fun w' hg=>?_) ?_
  ·go_simp;exact Sa _
  refine A4 (by kernel_rfl) (fun w' hg=>?_) ?_
  ·go_simp;exact Sa _
  exact AQ
 case sT=>
  intro w9 hg9;simp only[List.toList_toArray,List.append_eq,List.cons_append,List.nil_append,AI,Act.put,List.setIfInBounds_toArray,List.set_cons_zero,List.set_cons_succ];go_wp2_with fail;go_ret;exact⟨rfl,hg9⟩
def OH:List (Int×Int):=[(0,1),(1,1),(2,1),(3,1),(1,2),(-1,1),(-2,3),(4611686018427387904,1)]
theorem ON (k:Nat) (hk:k<8):∃n d:Int,OH[k]? =some (n,d)∧B2 n d=true:=by
 rcases(show k=0∨k=1∨k=2∨k=3∨k=4∨k=5∨k=6∨k=7 by omega)with rfl|rfl|rfl|rfl|rfl|rfl|rfl|rfl<;>exact⟨_,_,rfl,by decide⟩
def ET:List Value:=[.int .i64 0,.int .i64 1,.int .i64 1,.int .i64 1,.int .i64 2,.int .i64 1,.int .i64 3,.int .i64 1,.int .i64 1,.int .i64 2,.int .i64 (-1),.int .i64 1,.int .i64 (-2),.int .i64 3,.int .i64 4611686018427387904,.int .i64 1]
theorem NV {w:World} {z:Nat} {t:TypeId} (h:Ag w z t ET.toArray) {k:Nat} {n d:Int} (hk:OH[k]? =some (n,d)):w.rangeAt z (k*2) [.int .i64 n,.int .i64 d]:=by
 have hk8:k<8:=(SK.1 hk).1;rcases(show k=0∨k=1∨k=2∨k=3∨k=4∨k=5∨k=6∨k=7 by omega)with rfl|rfl|rfl|rfl|rfl|rfl|rfl|rfl<;>(
  simp only[OH,List.getElem?_cons_zero,List.getElem?_cons_succ,SW,SV]at hk;obtain⟨rfl,rfl⟩:=hk;exact h.rangeN _ _ rfl)
theorem Ec (w:World) (g B:Nat) (v:Value) (l:List Int) (i:Nat) (h:GS w g B v l i) (hi:i≤100000):
  Calls Tryz.prog 52 #[.pointer (some ⟨g,0,none⟩)] w (Cw g B v l w.heap.size 1 1 i 1 w):=by
 have hgl:=h.1.lt;have hb2:=Sc w 29 (AH 0 0).toArray;have hG:=(Sa w).alloc (.cells (AH 0 0).toArray 29);have hs:(w.alloc (.cells (AH 0 0).toArray 29)).heap.size=w.heap.size+1:=by simp
 have HGS:=S9 h;have HGL:=S9 hgl;clear h hgl;go_enter Tryz.func52,Tryz.ntmps52;go_upto_region 1 with fail;change Code.wp _ _ _ _ (w.alloc (.cells (AH 0 0).toArray 29));generalize w.alloc (.cells (AH 0 0).toArray 29)=w1 at*;have HS:=S9 hs;clear hs;go_upto_region 2 with fail;change Code.wp _ _ _ _ (w1.alloc (.cells ET.toArray 24));have hbF:=Sc w1 24 ET.toArray;have hG2:=(Sa w1).alloc (.cells ET.toArray 24);generalize w1.alloc (.cells ET.toArray 24)=w2 at*;have HNx:=S9 (show Calls Tryz.prog 51 #[.pointer (some ⟨g,0,none⟩),.int .i64 16] w2 (Bt g B v l i 16 w2)from BS w2 g B v l i 16 (HGS.out.grew (hG.trans hG2)) hi (by decide) (by decide));have HB:=S9 (SC (hb2.grew hG2) (SC hbF (hG.trans hG2)));have hzf:w1.heap.size<w2.heap.size:=hbF.lt;have HZF:=S9 hzf;generalize w1.heap.size=z1 at*;clear hb2 hG hbF hG2 hzf;go_upto_region 3 with(first|(go_at_call 51;(with_reducible refine HNx.out.mono ?_);rintro e3 w3 ⟨r,hr,rfl,hgs,k3⟩;have HG3:=S9 hgs;have HK3:=S9 k3;clear hgs k3));have hb2:=HB.out.1.keep HK3.out (by have:=HGL.out;omega);have hbF:=HB.out.2.1.keep HK3.out (by have:=HS.out;have:=HGL.out;omega);obtain⟨k,hk8,hkr⟩:∃k:Nat,k<8∧((8≤r∧r%4=k)∨(r<8∧r=k)):=by
  by_cases h8:8≤r
  ·exact⟨r%4,by omega,.inl ⟨h8,rfl⟩⟩
  exact⟨r,by omega,.inr ⟨by omega,rfl⟩⟩
 obtain⟨n,d,hfk,hval⟩:=ON k hk8;have HRow:=S9 (NV hbF hfk);have HVal:=S9 hval;clear hfk hval hbF;rcases hkr with⟨h8,hk⟩|⟨h8,hk⟩
 ·have t8:decide ((8:Int)≤(r:Int))=true:=by simp;omega
  have hmod:(r:Int)%4=(k:Int):=by omega
  have hmod2:((r:Int).tmod 4)=(k:Int):=by rw[Int.tmod_eq_emod_of_nonneg (by omega)];exact hmod
  clear h8 hk;go_upto_region 5 with fail;go_wp2_with(first|((with_reducible refine AG 24 (.tmp 24) rfl ?_);refine wpList_load_mid rfl 24 (.tmp 24) rfl z1 (k*2) rfl [.int .i64 n,.int .i64 d] _ HRow.out Tryz.underlying24 rfl Ad ?_)|((with_reducible refine AF 29 (.tmp 2) (.tmp 26) rfl ?_);refine Ar 29 (.tmp 2) (.tmp 26) (w.heap.size) (AH n d) (AH 0 0) 29 AD rfl (AX _ _) rfl rfl rfl rfl hb2 ?_;intro w8 hb8 k8 d8));refine bodyPost_ret (AP rfl rfl AD Tryz.underlying29 rfl hb8) rfl ?_;have hgl:=HGL.out;refine⟨BG n d,AH n d,i+1,rfl,Js _ _ _ _,F8 HVal.out,⟨HG3.out.1.keep k8 (by omega),HG3.out.2.1.keep (by have:=HG3.out.2.2.1;have:=HG3.out.1.lt;omega) k8 (fun b hb e=>by have:=HG3.out.2.2.1;omega),HG3.out.2.2⟩,SD _,Sb (Sb (Si HB.out.2.2) HK3.out fun b hb e=>e) k8 fun b hb e=>by omega⟩
 subst hk;have t8:decide ((8:Int)≤(r:Int))=false:=by simp;omega
 clear h8;go_upto_region 5 with fail;go_wp2_with(first|((with_reducible refine AG 24 (.tmp 24) rfl ?_);refine wpList_load_mid rfl 24 (.tmp 24) rfl z1 (r*2) rfl [.int .i64 n,.int .i64 d] _ HRow.out Tryz.underlying24 rfl Ad ?_)|((with_reducible refine AF 29 (.tmp 2) (.tmp 26) rfl ?_);refine Ar 29 (.tmp 2) (.tmp 26) (w.heap.size) (AH n d) (AH 0 0) 29 AD rfl (AX _ _) rfl rfl rfl rfl hb2 ?_;intro w8 hb8 k8 d8));refine bodyPost_ret (AP rfl rfl AD Tryz.underlying29 rfl hb8) rfl ?_;have hgl:=HGL.out;refine⟨BG n d,AH n d,i+1,rfl,Js _ _ _ _,F8 HVal.out,⟨HG3.out.1.keep k8 (by omega),HG3.out.2.1.keep (by have:=HG3.out.2.2.1;have:=HG3.out.1.lt;omega) k8 (fun b hb e=>by have:=HG3.out.2.2.1;omega),HG3.out.2.2⟩,SD _,Sb (Sb (Si HB.out.2.2) HK3.out fun b hb e=>e) k8 fun b hb e=>by omega⟩
end Go.Proofs.YthpflelgbadkcaaGreatDoor
