/- The generator of expressions (ref07): selection, up to its fields. -/
import Derived.Test.YtkclnhpofkaclaaGreatDoorRewriteFoldP15
import Derived.Test.YtkclnhpofkaclaaGreatDoorRewriteFoldP01
import Derived.Test.YtkclnhpofkaclaaGreatDoorRewriteFoldP04
import Derived.Test.YtkclnhpofkaclaaGreatDoorRewriteFoldP43
import Derived.Test.YtkclnhpofkaclaaGreatDoorRewriteFoldP41
set_option maxRecDepth 100000
set_option maxHeartbeats 12800000
set_option linter.unusedVariables false
set_option linter.unusedSimpArgs false
namespace Go.Proofs.YtkclnhpofkaclaaGreatDoor
open Go.RowKit Pl
def Kf (N D:Nat) (e:Ex):Prop:=AD e≤N∧Ae e≤D∧Aw B1 e
theorem Kf.more {N D N' D':Nat} {e:Ex} (h:Kf N D e) (hN:N≤N') (hD:D≤D'):Kf N' D' e:=⟨Ue h.1 hN,Ue h.2.1 hD,h.2.2⟩
def Dz (g B:Nat) (n:Gn) (M N D i C:Nat) (w:World) (e:Ending) (w':World):Prop:=
 ∃(t:Ex) (cs:List Value) (i':Nat),e= .returned (.agg cs.toArray)∧AN w' (C9 0 M w'.heap.size) t cs∧Kf N D t∧F7 w' g B n i'∧i'≤i+C∧A4 (fun b=>b=g) w w'
def S2 (n:Gn):Prop:=0<n.names.length∧n.names.length≤1000∧(∀s∈n.names,Fz s)∧1≤n.most∧n.most≤50000
def Pw (nm:ByteArray) (fn win off k:Nat):Prop:=Fz nm∧fn<8∧win≤100000∧off≤100000∧k≤200000
theorem Rs {nm:ByteArray} {fn win off k:Nat} {ms:List Mt} (h:Pw nm fn win off k) (hm:∀m∈ms,LU m) (hl:ms.length≤1000):Kf 1 1 (B5 nm (fn:Nat) (win:Nat) (off:Nat) (k:Nat) ms):=by
 obtain⟨h1,h2,h3,h4,h5⟩:=h;have z0:Ah 0:=Bt.1;refine⟨Ua _,Ua _,Aa.2 ⟨⟨⟨?_,?_,?_,?_,?_,z0,z0⟩,h1,hm,(fun s hs=>nomatch hs),hl,Nat.zero_le _⟩,(fun k hk=>nomatch hk)⟩⟩
 ·unfold Ah;show _≤(1:Int)∧(1:Int)≤_;omega
 ·unfold Ah;show _≤((fn:Nat):Int)∧((fn:Nat):Int)≤_;omega
 ·unfold Ah;show _≤((win:Nat):Int)∧((win:Nat):Int)≤_;omega
 ·unfold Ah;show _≤((off:Nat):Int)∧((off:Nat):Int)≤_;omega
 unfold Ah;show _≤((k:Nat):Int)∧((k:Nat):Int)≤_;omega
def LC (p:Prop) (w1:World) (g B:Nat) (n:Gn) (i z:Nat) (vm:Value) (ms:List Mt) (wx:World):Prop:=
 w1.heap.size≤z∧(∃(nm:ByteArray) (fn win off k:Nat),Pw nm fn win off k∧(p→fn=7→1≤win)∧AK wx z 29 (A8 (B5 nm (fn:Nat) (win:Nat) (off:Nat) (k:Nat) ms) vm (.slice none 0 0) (.slice none 0 0)).toArray)∧F7 wx g B n i∧A4 (fun b=>b=g∨w1.heap.size≤b) w1 wx
def Tf (g b o nn kn:Nat) (names:List ByteArray) (w':World):Prop:=w'.cell? ⟨g,2,none⟩=some (.slice (some ⟨b,o,none⟩) nn kn)∧∀r s,names[r]? =some s→w'.cell? ⟨b,o+r,none⟩=some (.string s)
theorem F7.nmA {w:World} {g B b o nn kn i most:Nat} {v:Value} {l:List Int} {names:List ByteArray} (h:F7 w g B ⟨v,l,.slice (some ⟨b,o,none⟩) nn kn,names,most⟩ i):Tf g b o nn kn names w:=by
 refine⟨h.1.cell 2,fun r s hr=>?_⟩;obtain⟨b',o',he,hc⟩:=P7 h.2.2.2.2.2 hr;injection he with he;injection he with e1 e2;subst e1 e2;exact hc
theorem OC (w:World) (g B:Nat) (gn:Gn) (i:Nat) (h:F7 w g B gn i) (hn:S2 gn) (hi:i≤50000):
  Calls Tryz.prog 49 #[.pointer (some ⟨g,0,none⟩)] w (Dz g B gn w.heap.size 1 1 i 17 w):=by
 obtain⟨v,l,vn,names,most⟩:=gn;have hgl:=h.1.lt;have hBg:=h.2.2.1;obtain⟨hn1,hn2,hn3,hn4,hn5⟩:=hn;dsimp only at hn1 hn2 hn3 hn4 hn5;obtain⟨A,kn,hvn,hkn,hx⟩:=h.2.2.2.2.2;dsimp only at hvn;obtain⟨nn,hnn⟩:∃q,(names.map fun s=>[Value.string s]).length=q:=⟨_,rfl⟩;rw[hnn]at hvn;obtain⟨b,o,hA, -, -⟩:=hx (by simpa using hn1);subst hvn hA;have hnl:nn=names.length:=by rw[←hnn];simp
 clear hx hkn hnn;have hbr:=Ux w 29 (AE 0 0).toArray;have hG:=(Uv w).alloc (.cells (AE 0 0).toArray 29);have hs:(w.alloc (.cells (AE 0 0).toArray 29)).heap.size=w.heap.size+1:=by simp
 have HGS:=UX (h.grew hG);have HGK:=UX (UZ hnl (UZ hn1 (UZ hn2 (UZ hn3 (UZ hn4 hn5)))));have HGL:=UX (UZ hgl hBg);have HG0:=UX hG;clear h hgl hBg hnl hn1 hn2 hn3 hn4 hn5 hG;go_enter Tryz.func49,Tryz.ntmps49;go_upto_region 1 with fail;change Code.wp _ _ _ _ (w.alloc (.cells (AE 0 0).toArray 29));generalize w.alloc (.cells (AE 0 0).toArray 29)=w1 at*;have HS:=UX hs;have HBR:=UX hbr;clear hs hbr;go_cut [3] (fun s3 wx=>∃z i',s3= .pointer (some ⟨z,0,none⟩)∧i'≤i+2∧LC False w1 g B ⟨v,l,.slice (some ⟨b,o,none⟩) nn kn,names,most⟩ i' z (.slice none 0 0) [] wx)
 case first=>
  have HN8:=UX (fun(w':World) (i':Nat) (hs:F7 w' g B ⟨v,l,.slice (some ⟨b,o,none⟩) nn kn,names,most⟩ i') (hi':i'≤60000)=>show Calls Tryz.prog 48 #[.pointer (some ⟨g,0,none⟩),.int .i64 8] w' (BW g B ⟨v,l,.slice (some ⟨b,o,none⟩) nn kn,names,most⟩ i' 8 w')from BR w' g B ⟨v,l,.slice (some ⟨b,o,none⟩) nn kn,names,most⟩ i' 8 hs (by omega) (by decide) (by decide));have HNn:=UX (fun(w':World) (i':Nat) (hs:F7 w' g B ⟨v,l,.slice (some ⟨b,o,none⟩) nn kn,names,most⟩ i') (hi':i'≤60000)=>show Calls Tryz.prog 48 #[.pointer (some ⟨g,0,none⟩),.int .i64 (nn:Nat)] w' (BW g B ⟨v,l,.slice (some ⟨b,o,none⟩) nn kn,names,most⟩ i' nn w')from BR w' g B ⟨v,l,.slice (some ⟨b,o,none⟩) nn kn,names,most⟩ i' nn hs (by omega) (by have:=HGK.out;omega) (by have:=HGK.out;omega));refine lR 17 (Tf g b o nn kn names) ((HGS.out.grew (Uy (Uv w1))).nmA) fun hcl hkn=>?_
  refine tP (i:=0) hcl hkn fun hcl hkn=>?_
  try simp only[nf]
  refine tP (i:=2) hcl hkn fun hcl hkn=>?_
  try simp only[nf]
  refine tP (i:=3) hcl hkn fun hcl hkn=>?_
  try simp only[nf]
  refine tP (i:=4) hcl hkn fun hcl hkn=>?_
  try simp only[nf]
  refine' CB [15,14,13] 17 _ (i:=5) (v:=_) rfl (by kernel_rfl) (by kernel_rfl) (by kernel_rfl) hcl hkn (by rfl) 0 rfl (by kernel_rfl) (fun _ _ _ h=>h) rfl ?_ ?_
  rotate_left
  ·rintro w' ⟨hc2, -⟩;go_simp;try with_reducible rfl
  clear hcl hkn;intro hcl hkn
  try simp only[nf]
  refine tP (i:=6) hcl hkn fun hcl hkn=>?_
  try simp only[nf]
  refine tP (i:=7) hcl hkn fun hcl hkn=>?_
  try simp only[nf]
  refine tP (i:=8) hcl hkn fun hcl hkn=>?_
  try simp only[nf]
  refine tP (i:=9) hcl hkn fun hcl hkn=>?_
  try simp only[nf]
  refine' CB [15,14,13,12,11] 17 _ (i:=10) (v:=_) rfl (by kernel_rfl) (by kernel_rfl) (by kernel_rfl) hcl hkn (by rfl) 0 rfl (by kernel_rfl) (fun _ _ _ h=>h) rfl ?_ ?_
  rotate_left
  ·rintro w' ⟨hc2, -⟩;go_simp;try with_reducible rfl
  clear hcl hkn;intro hcl hkn
  try simp only[nf]
  refine tP (i:=11) hcl hkn fun hcl hkn=>?_
  try simp only[nf]
  refine IU hcl (i:=1) (j:=16) (by kernel_rfl) rfl rfl rfl rfl (fun K hK=>?_) (fun K hK=>?_)
  ·go_simp;refine(HN8.out _ _ (HGS.out.grew (Uy (Uv w1))) (by omega)).mono ?_;rintro e3 w3 ⟨f,hf,rfl,hgs3,k3⟩;refine hK _ _ (kr hgs3.nmA) ?_;clear hK K;clear hcl hkn;intro hcl hkn
   try simp only[nf]
   refine IU hcl (i:=12) (j:=16) (by kernel_rfl) rfl rfl rfl rfl (fun K hK=>?_) (fun K hK=>?_)
   ·go_simp;refine(HNn.out _ _ hgs3 (by omega)).mono ?_;rintro e4 w4 ⟨q,hq,rfl,hgs4,k4⟩;refine hK _ _ (kr hgs4.nmA) ?_;clear hK K;clear hcl hkn;intro hcl hkn
    try simp only[nf]
    obtain⟨nm,hnm⟩:∃s,names[q]? =some s:=⟨_,Uc (by rw[←HGK.out.1];exact hq)⟩;have hq1:(0:Int)≤(q:Nat):=by omega
    have hq2:((q:Nat):Int)<(nn:Nat):=by omega
    refine tP (i:=13) hcl hkn fun hcl hkn=>?_
    try simp only[nf]
    have HNM:=UX hnm
    refine' CB [15] 17 _ (i:=14) (v:=_) rfl (by kernel_rfl) (by kernel_rfl) (by kernel_rfl) hcl hkn (by rfl) 0 rfl (by kernel_rfl) (fun _ _ _ h=>h) rfl ?_ ?_
    rotate_left
    ·rintro w' ⟨-,hcell⟩;have hcell:=hcell q nm HNM.out;go_simp;try with_reducible rfl
    clear hcl hkn;intro hcl hkn
    try simp only[nf]
    refine tP (i:=15) hcl hkn fun hcl hkn=>?_
    try simp only[nf]
    refine oN (i:=16) hcl fun K hK=>?_
    go_simp;have hz5:=Ux w4 29 (AE 0 0).toArray;have ga5:=(Uv w4).alloc (.cells (AE 0 0).toArray 29);refine hK _ (w4.alloc (.cells (AE 0 0).toArray 29)) (CX (.inr (hgs4.grew ga5).nmA)) ?_;clear hK K;clear hcl hkn;intro hcl hkn
    try simp only[nf]
    refine oN (i:=17) hcl fun K hK=>?_
    refine sW (.tmp 3) (.tmp 21) (A8 (B5 nm (f:Nat) 0 0 0 []) (.slice none 0 0) (.slice none 0 0) (.slice none 0 0)) hz5 rX ?_;intro w9 hb9 k9;refine hK _ _ kl ?_;clear hK K;clear hcl hkn;intro hcl hkn
    try simp only[nf]
    refine aD ?_;go_wp2_with fail;go_meet;have hle:w1.heap.size≤w4.heap.size:=(by have:=k3.size;have:=k4.size;simp at*;omega);exact⟨w4.heap.size,i+1+1,rfl,Ua _,hle,⟨nm,f,0,0,0,⟨HGK.out.2.2.2.1 nm (Uk HNM.out),by omega,by omega,by omega,by omega⟩,False.elim,hb9⟩,(hgs4.grew ga5).keep k9 (fun b hb e=>by have:=HGL.out;have:=HS.out;have:w4.heap.size=b:=e.symm;omega),Uw (Uw (Uw (Uw (V2 (S:=fun b=>b=g∨w1.heap.size≤b) (Uy (Uv w1))) k3 fun b hb e=> .inl e) k4 fun b hb e=> .inl e) ga5 fun b hb e=>e.elim) k9 fun b hb e=> .inr (by have:b=w4.heap.size:=e;omega)⟩
   go_simp;have hz4:=Ux w3 29 (AE 0 0).toArray;have ga4:=(Uv w3).alloc (.cells (AE 0 0).toArray 29);refine hK _ (w3.alloc (.cells (AE 0 0).toArray 29)) (CX (.inr (hgs3.grew ga4).nmA)) ?_;clear hK K;clear hcl hkn;intro hcl hkn
   try simp only[nf]
   refine oN (i:=12) hcl fun K hK=>?_
   go_simp;refine(HNn.out _ _ (hgs3.grew ga4) (by omega)).mono ?_;rintro e5 w5 ⟨q,hq,rfl,hgs5,k5⟩;refine hK _ _ (kr hgs5.nmA) ?_;clear hK K;clear hcl hkn;intro hcl hkn
   try simp only[nf]
   obtain⟨nm,hnm⟩:∃s,names[q]? =some s:=⟨_,Uc (by rw[←HGK.out.1];exact hq)⟩;have hq1:(0:Int)≤(q:Nat):=by omega
   have hq2:((q:Nat):Int)<(nn:Nat):=by omega
   refine tP (i:=13) hcl hkn fun hcl hkn=>?_
   try simp only[nf]
   have HNM:=UX hnm
   refine' CB [15] 17 _ (i:=14) (v:=_) rfl (by kernel_rfl) (by kernel_rfl) (by kernel_rfl) hcl hkn (by rfl) 0 rfl (by kernel_rfl) (fun _ _ _ h=>h) rfl ?_ ?_
   rotate_left
   ·rintro w' ⟨-,hcell⟩;have hcell:=hcell q nm HNM.out;go_simp;try with_reducible rfl
   clear hcl hkn;intro hcl hkn
   try simp only[nf]
   refine tP (i:=15) hcl hkn fun hcl hkn=>?_
   try simp only[nf]
   have hz6:=hz4.keep k5 (by have:=k3.size;have:=HGL.out;have:=HS.out;simp at*;omega);refine oN (i:=17) hcl fun K hK=>?_
   refine sW (.tmp 3) (.tmp 21) (A8 (B5 nm (f:Nat) 0 0 0 []) (.slice none 0 0) (.slice none 0 0) (.slice none 0 0)) hz6 rX ?_;intro w9 hb9 k9;refine hK _ _ kl ?_;clear hK K;clear hcl hkn;intro hcl hkn
   try simp only[nf]
   refine aD ?_;go_wp2_with fail;go_meet;have hle:w1.heap.size≤w3.heap.size:=(by have:=k3.size;simp at*;omega);exact⟨w3.heap.size,i+1+1,rfl,Ua _,hle,⟨nm,f,0,0,0,⟨HGK.out.2.2.2.1 nm (Uk HNM.out),by omega,by omega,by omega,by omega⟩,False.elim,hb9⟩,hgs5.keep k9 (fun b hb e=>by have:=HGL.out;have:=HS.out;have:w3.heap.size=b:=e.symm;omega),Uw (Uw (Uw (Uw (V2 (S:=fun b=>b=g∨w1.heap.size≤b) (Uy (Uv w1))) k3 fun b hb e=> .inl e) ga4 fun b hb e=>e.elim) k5 fun b hb e=> .inl e) k9 fun b hb e=> .inr (by have:b=w3.heap.size:=e;omega)⟩
  go_simp;have hz3:=Ux w1.drew 29 (AE 0 0).toArray;have ga3:=(Uv w1.drew).alloc (.cells (AE 0 0).toArray 29);refine hK _ (w1.drew.alloc (.cells (AE 0 0).toArray 29)) (CX (.inr ((HGS.out.grew (Uy (Uv w1))).grew ga3).nmA)) ?_;clear hK K;clear hcl hkn;intro hcl hkn
  try simp only[nf]
  refine oN (i:=1) hcl fun K hK=>?_
  go_simp;refine(HN8.out _ _ ((HGS.out.grew (Uy (Uv w1))).grew ga3) (by omega)).mono ?_;rintro e4 w4 ⟨f,hf,rfl,hgs4,k4⟩;refine hK _ _ (kr hgs4.nmA) ?_;clear hK K;clear hcl hkn;intro hcl hkn
  try simp only[nf]
  refine oN (i:=12) hcl fun K hK=>?_
  go_simp;refine(HNn.out _ _ hgs4 (by omega)).mono ?_;rintro e5 w5 ⟨q,hq,rfl,hgs5,k5⟩;refine hK _ _ (kr hgs5.nmA) ?_;clear hK K;clear hcl hkn;intro hcl hkn
  try simp only[nf]
  obtain⟨nm,hnm⟩:∃s,names[q]? =some s:=⟨_,Uc (by rw[←HGK.out.1];exact hq)⟩;have hq1:(0:Int)≤(q:Nat):=by omega
  have hq2:((q:Nat):Int)<(nn:Nat):=by omega
  refine tP (i:=13) hcl hkn fun hcl hkn=>?_
  try simp only[nf]
  have HNM:=UX hnm
  refine' CB [15] 17 _ (i:=14) (v:=_) rfl (by kernel_rfl) (by kernel_rfl) (by kernel_rfl) hcl hkn (by rfl) 0 rfl (by kernel_rfl) (fun _ _ _ h=>h) rfl ?_ ?_
  rotate_left
  ·rintro w' ⟨-,hcell⟩;have hcell:=hcell q nm HNM.out;go_simp;try with_reducible rfl
  clear hcl hkn;intro hcl hkn
  try simp only[nf]
  refine tP (i:=15) hcl hkn fun hcl hkn=>?_
  try simp only[nf]
  have hz6:=(hz3.keep k4 (by have:=HGL.out;have:=HS.out;simp at*;omega)).keep k5 (by have:=HGL.out;have:=HS.out;simp at*;omega);refine oN (i:=17) hcl fun K hK=>?_
  refine sW (.tmp 3) (.tmp 21) (A8 (B5 nm (f:Nat) 0 0 0 []) (.slice none 0 0) (.slice none 0 0) (.slice none 0 0)) hz6 rX ?_;intro w9 hb9 k9;refine hK _ _ kl ?_;clear hK K;clear hcl hkn;intro hcl hkn
  try simp only[nf]
  refine aD ?_;go_wp2_with fail;go_meet;have hle:w1.heap.size≤w1.heap.size:=(Ua _);exact⟨w1.heap.size,i+1+1,rfl,Ua _,hle,⟨nm,f,0,0,0,⟨HGK.out.2.2.2.1 nm (Uk HNM.out),by omega,by omega,by omega,by omega⟩,False.elim,hb9⟩,hgs5.keep k9 (fun b hb e=>by have:=HGL.out;have:=HS.out;have:w1.heap.size=b:=e.symm;omega),Uw (Uw (Uw (Uw (V2 (S:=fun b=>b=g∨w1.heap.size≤b) (Uy (Uv w1))) ga3 fun b hb e=>e.elim) k4 fun b hb e=> .inl e) k5 fun b hb e=> .inl e) k9 fun b hb e=> .inr (by have:b=w1.heap.size:=e;omega)⟩
 case rest=>
  obtain⟨z,i1,rfl,hi1,hst⟩:=hcut;have HZ:=UX (show g<w1.heap.size∧w1.heap.size≤z from⟨by have:=HGL.out;have:=HS.out;omega,hst.1⟩);have hmost:1≤most∧most≤50000:=HGK.out.2.2.2.2;have HNm:=UX (fun(w':World) (i':Nat) (hs:F7 w' g B ⟨v,l,.slice (some ⟨b,o,none⟩) nn kn,names,most⟩ i') (hi':i'≤60000)=>show Calls Tryz.prog 48 #[.pointer (some ⟨g,0,none⟩),.int .i64 (most:Nat)] w' (BW g B ⟨v,l,.slice (some ⟨b,o,none⟩) nn kn,names,most⟩ i' (most) w')from by have h:=BR w' g B ⟨v,l,.slice (some ⟨b,o,none⟩) nn kn,names,most⟩ i' (most) hs (by omega) (by have:=HGK.out;omega) (by have:=HGK.out;omega);rwa[show(((most):Nat):Int)=(most:Nat) by omega]at h);have HN2:=UX (fun(w':World) (i':Nat) (hs:F7 w' g B ⟨v,l,.slice (some ⟨b,o,none⟩) nn kn,names,most⟩ i') (hi':i'≤60000)=>show Calls Tryz.prog 48 #[.pointer (some ⟨g,0,none⟩),.int .i64 2] w' (BW g B ⟨v,l,.slice (some ⟨b,o,none⟩) nn kn,names,most⟩ i' (2) w')from by have h:=BR w' g B ⟨v,l,.slice (some ⟨b,o,none⟩) nn kn,names,most⟩ i' (2) hs (by omega) (by have:=HGK.out;omega) (by have:=HGK.out;omega);rwa[show(((2):Nat):Int)=2 by omega]at h);have HNm1:=UX (fun(w':World) (i':Nat) (hs:F7 w' g B ⟨v,l,.slice (some ⟨b,o,none⟩) nn kn,names,most⟩ i') (hi':i'≤60000)=>show Calls Tryz.prog 48 #[.pointer (some ⟨g,0,none⟩),.int .i64 ((most:Int)+1)] w' (BW g B ⟨v,l,.slice (some ⟨b,o,none⟩) nn kn,names,most⟩ i' (most+1) w')from by have h:=BR w' g B ⟨v,l,.slice (some ⟨b,o,none⟩) nn kn,names,most⟩ i' (most+1) hs (by omega) (by have:=HGK.out;omega) (by have:=HGK.out;omega);rwa[show(((most+1):Nat):Int)=((most:Int)+1) by omega]at h);generalize wc=w4 at*;obtain⟨-,⟨nm,fn,win,off,k,hok,hpw,hb4⟩,hgs4,hk4⟩:=hst;have HG4:=UX hgs4;have HK4:=UX hk4;have HPW:=UX hpw;have HOK:=UX hok;have hlim:fn<8∧win≤100000∧off≤100000∧k≤200000:=hok.2;clear hok hgs4 hk4 hpw;have cc1:w4.cell? ⟨z,1,none⟩=some (.int .i64 (fn:Nat)):=hb4.cell 1;have ff1:w4.frozen? ⟨z,1,none⟩=false:=hb4.frozen 1;go_upto_if 24 with fail;go_cut [] (fun wx=>∃i',i'≤i+3∧LC True w1 g B ⟨v,l,.slice (some ⟨b,o,none⟩) nn kn,names,most⟩ i' z (.slice none 0 0) [] wx)
  case first=>
   by_cases h0:fn=0
   ·have t0:((fn:Int) !=0)=false:=by simp[h0]
    go_wp2_with fail;go_meet;exact⟨i1,by omega,HZ.out.2,⟨nm,fn,win,off,k,⟨HOK.out.1,by omega,by omega,by omega,by omega⟩,(fun _ h=>by omega),by exact hb4⟩,HG4.out,HK4.out⟩
   have t0:((fn:Int) !=0)=true:=by rw[bne_iff_ne];omega
   have cm:w4.cell? ⟨g,3,none⟩=some (.int .i64 (most:Nat)):=HG4.out.1.cell 3;clear h0;go_wp2_with(first|(go_at_call 48;(with_reducible refine(HNm.out _ _ HG4.out (by omega)).mono ?_);rintro e5 w5 ⟨r5,hr5,rfl,hgs5,kn5⟩;have hb5:=hb4.keep kn5 (by have:=HZ.out;omega);have HG5:=UX hgs5;have HK5:=UX (Uw HK4.out kn5 (fun b hb e=> .inl e));clear hgs5 kn5;have cc2:w5.cell? ⟨z,2,none⟩=some (.int .i64 (win:Nat)):=hb5.cell 2;have ff2:w5.frozen? ⟨z,2,none⟩=false:=hb5.frozen 2));have hb6:AK (w5.setCell ⟨z,2,none⟩ (.int .i64 (1+(r5:Int)))) z 29 (A8 (B5 nm (fn:Nat) (1+(r5:Int)) (off:Nat) (k:Nat) []) (.slice none 0 0) (.slice none 0 0) (.slice none 0 0)).toArray:=hb5.set_ 2 (.int .i64 (1+(r5:Int)));have HG6:=UX (HG5.out.keep (S:=fun b=>b=z) (V0 (S:=fun b=>b=z) (p:=⟨z,2,none⟩) (Uz _ w5) (.inl rfl) (.int .i64 (1+(r5:Int)))) (fun b hb e=>by have:=HZ.out;have:b=z:=e;omega));have HK6:=UX (V0 (S:=fun b=>b=g∨w1.heap.size≤b) (p:=⟨z,2,none⟩) HK5.out (.inl (.inr HZ.out.2)) (.int .i64 (1+(r5:Int))));generalize w5.setCell ⟨z,2,none⟩ (.int .i64 (1+(r5:Int)))=w6 at*;go_meet;exact⟨i1+1,by omega,HZ.out.2,⟨nm,fn,1+r5,off,k,⟨HOK.out.1,by omega,by omega,by omega,by omega⟩,(fun _ _=>by omega),by rw[show(((1+r5:Nat)):Int)=1+(r5:Int) by omega];exact hb6⟩,HG6.out,HK6.out⟩
  case rest=>
   clear cc1 ff1 hb4 HG4 HK4 HPW HOK hlim nm fn win off k hi1;obtain⟨i2,hi2,hst⟩:=hcut;generalize wc=w4 at*;obtain⟨-,⟨nm,fn,win,off,k,hok,hpw,hb4⟩,hgs4,hk4⟩:=hst;have HG4:=UX hgs4;have HK4:=UX hk4;have HPW:=UX hpw;have HOK:=UX hok;have hlim:fn<8∧win≤100000∧off≤100000∧k≤200000:=hok.2;clear hok hgs4 hk4 hpw;have cc1:w4.cell? ⟨z,1,none⟩=some (.int .i64 (fn:Nat)):=hb4.cell 1;have ff1:w4.frozen? ⟨z,1,none⟩=false:=hb4.frozen 1;have cc2:w4.cell? ⟨z,2,none⟩=some (.int .i64 (win:Nat)):=hb4.cell 2;have ff2:w4.frozen? ⟨z,2,none⟩=false:=hb4.frozen 2;go_upto_if 35 with fail;go_cut [] (fun wx=>∃i',i'≤i+4∧LC True w1 g B ⟨v,l,.slice (some ⟨b,o,none⟩) nn kn,names,most⟩ i' z (.slice none 0 0) [] wx)
   case first=>
    by_cases h7:fn=7
    ·have hw1:1≤win:=HPW.out True.intro h7;have t7:((fn:Int)==7)=true:=by rw[Ud];omega
     clear h7;have HNw:=UX (fun(w':World) (i':Nat) (hs:F7 w' g B ⟨v,l,.slice (some ⟨b,o,none⟩) nn kn,names,most⟩ i') (hi':i'≤60000)=>show Calls Tryz.prog 48 #[.pointer (some ⟨g,0,none⟩),.int .i64 (win:Nat)] w' (BW g B ⟨v,l,.slice (some ⟨b,o,none⟩) nn kn,names,most⟩ i' (win) w')from by have h:=BR w' g B ⟨v,l,.slice (some ⟨b,o,none⟩) nn kn,names,most⟩ i' (win) hs (by omega) (by omega) (by omega);rwa[show(((win):Nat):Int)=(win:Nat) by omega]at h);go_wp2_with(first|(go_at_call 48;(with_reducible refine(HNw.out _ _ HG4.out (by omega)).mono ?_);rintro e5 w5 ⟨r5,hr5,rfl,hgs5,kn5⟩;have hb5:=hb4.keep kn5 (by have:=HZ.out;omega);have HG5:=UX hgs5;have HK5:=UX (Uw HK4.out kn5 (fun b hb e=> .inl e));clear hgs5 kn5;have cc4:w5.cell? ⟨z,4,none⟩=some (.int .i64 (k:Nat)):=hb5.cell 4;have ff4:w5.frozen? ⟨z,4,none⟩=false:=hb5.frozen 4));have hb6:AK (w5.setCell ⟨z,4,none⟩ (.int .i64 (1+(r5:Int)))) z 29 (A8 (B5 nm (fn:Nat) (win:Nat) (off:Nat) (1+(r5:Int)) []) (.slice none 0 0) (.slice none 0 0) (.slice none 0 0)).toArray:=hb5.set_ 4 (.int .i64 (1+(r5:Int)));have HG6:=UX (HG5.out.keep (S:=fun b=>b=z) (V0 (S:=fun b=>b=z) (p:=⟨z,4,none⟩) (Uz _ w5) (.inl rfl) (.int .i64 (1+(r5:Int)))) (fun b hb e=>by have:=HZ.out;have:b=z:=e;omega));have HK6:=UX (V0 (S:=fun b=>b=g∨w1.heap.size≤b) (p:=⟨z,4,none⟩) HK5.out (.inl (.inr HZ.out.2)) (.int .i64 (1+(r5:Int))));generalize w5.setCell ⟨z,4,none⟩ (.int .i64 (1+(r5:Int)))=w6 at*;go_meet;exact⟨i2+1,by omega,HZ.out.2,⟨nm,fn,win,off,1+r5,⟨HOK.out.1,by omega,by omega,by omega,by omega⟩,HPW.out,by rw[show(((1+r5:Nat)):Int)=1+(r5:Int) by omega];exact hb6⟩,HG6.out,HK6.out⟩
    have t7:((fn:Int)==7)=false:=by rw[UY];omega
    clear h7;go_wp2_with fail;go_meet;exact⟨i2,by omega,HZ.out.2,⟨nm,fn,win,off,k,⟨HOK.out.1,by omega,by omega,by omega,by omega⟩,HPW.out,by exact hb4⟩,HG4.out,HK4.out⟩
   case rest=>
    clear cc1 ff1 cc2 ff2 hb4 HG4 HK4 HPW HOK hlim nm fn win off k hi2;obtain⟨i3,hi3,hst⟩:=hcut;generalize wc=w4 at*;obtain⟨-,⟨nm,fn,win,off,k,hok,hpw,hb4⟩,hgs4,hk4⟩:=hst;have HG4:=UX hgs4;have HK4:=UX hk4;have HPW:=UX hpw;have HOK:=UX hok;have hlim:fn<8∧win≤100000∧off≤100000∧k≤200000:=hok.2;clear hok hgs4 hk4 hpw;go_upto_if 44 with(first|(go_at_call 48;(with_reducible refine(HN2.out _ _ HG4.out (by omega)).mono ?_);rintro e5 w5 ⟨r5,hr5,rfl,hgs5,kn5⟩;have hb5:=hb4.keep kn5 (by have:=HZ.out;omega);have HG5:=UX hgs5;have HK5:=UX (Uw HK4.out kn5 (fun b hb e=> .inl e));clear hgs5 kn5));go_cut [] (fun wx=>∃i',i'≤i+6∧LC True w1 g B ⟨v,l,.slice (some ⟨b,o,none⟩) nn kn,names,most⟩ i' z (.slice none 0 0) [] wx)
    case first=>
     by_cases h1:r5=1
     ·have t1:((r5:Int)==1)=true:=by rw[Ud];omega
      clear h1;have cm:w5.cell? ⟨g,3,none⟩=some (.int .i64 (most:Nat)):=HG5.out.1.cell 3;go_wp2_with(first|(go_at_call 48;(with_reducible refine(HNm1.out _ _ HG5.out (by omega)).mono ?_);rintro e6 w6 ⟨r6,hr6,rfl,hgs6,kn6⟩;have hb6:=hb5.keep kn6 (by have:=HZ.out;omega);have HG6:=UX hgs6;have HK6:=UX (Uw HK5.out kn6 (fun b hb e=> .inl e));clear hgs6 kn6;have cc3:w6.cell? ⟨z,3,none⟩=some (.int .i64 (off:Nat)):=hb6.cell 3;have ff3:w6.frozen? ⟨z,3,none⟩=false:=hb6.frozen 3));have hb7:AK (w6.setCell ⟨z,3,none⟩ (.int .i64 (r6:Nat))) z 29 (A8 (B5 nm (fn:Nat) (win:Nat) (r6:Nat) (k:Nat) []) (.slice none 0 0) (.slice none 0 0) (.slice none 0 0)).toArray:=hb6.set_ 3 (.int .i64 (r6:Nat));have HG7:=UX (HG6.out.keep (S:=fun b=>b=z) (V0 (S:=fun b=>b=z) (p:=⟨z,3,none⟩) (Uz _ w6) (.inl rfl) (.int .i64 (r6:Nat))) (fun b hb e=>by have:=HZ.out;have:b=z:=e;omega));have HK7:=UX (V0 (S:=fun b=>b=g∨w1.heap.size≤b) (p:=⟨z,3,none⟩) HK6.out (.inl (.inr HZ.out.2)) (.int .i64 (r6:Nat)));generalize w6.setCell ⟨z,3,none⟩ (.int .i64 (r6:Nat))=w7 at*;go_meet;exact⟨i3+1+1,by omega,HZ.out.2,⟨nm,fn,win,r6,k,⟨HOK.out.1,by omega,by omega,by omega,by omega⟩,HPW.out,by exact hb7⟩,HG7.out,HK7.out⟩
     have t1:((r5:Int)==1)=false:=by rw[UY];omega
     clear h1;go_wp2_with fail;go_meet;exact⟨i3+1,by omega,HZ.out.2,⟨nm,fn,win,off,k,⟨HOK.out.1,by omega,by omega,by omega,by omega⟩,HPW.out,by exact hb5⟩,HG5.out,HK5.out⟩
    case rest=>
     clear hb4 HG4 HK4 hb5 HG5 HK5 hr5 HPW HOK hlim nm fn win off k hi3 r5 w5;obtain⟨i4,hi4,hst⟩:=hcut;generalize wc=w4 at*;obtain⟨-,⟨nm,fn,win,off,k,hok,hpw,hb4⟩,hgs4,hk4⟩:=hst;have HG4:=UX hgs4;have HK4:=UX hk4;have HPW:=UX hpw;have HOK:=UX hok;have hlim:fn<8∧win≤100000∧off≤100000∧k≤200000:=hok.2;clear hok hgs4 hk4 hpw;go_upto_if 55 with(first|(go_at_call 48;(with_reducible refine(HN2.out _ _ HG4.out (by omega)).mono ?_);rintro e5 w5 ⟨r5,hr5,rfl,hgs5,kn5⟩;have hb5:=hb4.keep kn5 (by have:=HZ.out;omega);have HG5:=UX hgs5;have HK5:=UX (Uw HK4.out kn5 (fun b hb e=> .inl e));clear hgs5 kn5));go_cut [] (fun wx=>∃i' vm ms M,i'≤i+17∧LC True w1 g B ⟨v,l,.slice (some ⟨b,o,none⟩) nn kn,names,most⟩ i' z vm ms wx∧z<M∧BE wx (C9 0 M wx.heap.size) 3 vm (ms.map AL)∧ms.length≤3∧∀m∈ms,LU m)
     case first=>
      by_cases h1:r5=1
      ·have t1:((r5:Int)==1)=true:=by rw[Ud];omega
       rw[t1];clear h1 t1;have hzl5:=hb5.lt;have HB5:=UX hb5;have HNk:=UX (fun(w':World) (i':Nat) (hs:F7 w' g B ⟨v,l,.slice (some ⟨b,o,none⟩) nn kn,names,most⟩ i') (hi':i'≤60000)=>show Calls Tryz.prog 48 #[.pointer (some ⟨g,0,none⟩),.int .i64 1000] w' (BW g B ⟨v,l,.slice (some ⟨b,o,none⟩) nn kn,names,most⟩ i' (1000) w')from by have h:=BR w' g B ⟨v,l,.slice (some ⟨b,o,none⟩) nn kn,names,most⟩ i' (1000) hs (by omega) (by have:=HGK.out;omega) (by have:=HGK.out;omega);rwa[show(((1000):Nat):Int)=1000 by omega]at h);obtain⟨M0,hM0⟩:∃M0,w5.heap.size=M0:=⟨_,rfl⟩;have HM0:=UX (show w5.heap.size=M0∧z<M0 from⟨hM0,by omega⟩);have hi5:i4+1≤i+7:=by omega
       clear hb4 HG4 HK4 hr5 hi4 hzl5 hM0 hb5;go_wp2_with fail;go_loopw [4,5] (fun s i' wr=>∃(j:Nat) (xs:List Int),j≤10∧i'= .int .i64 (j:Nat)∧Bf wr M0 3 s (xs.map vi)∧xs.length=j∧(∀x∈xs,Ah x)∧AK wr z 29 (A8 (B5 nm (fn:Nat) (win:Nat) (off:Nat) (k:Nat) []) (.slice none 0 0) (.slice none 0 0) (.slice none 0 0)).toArray∧F7 wr g B ⟨v,l,.slice (some ⟨b,o,none⟩) nn kn,names,most⟩ (i4+1+j)∧A4 (fun b=>b=g∨M0≤b) w5 wr) (fun _ i' _=>10-(intOf i').toNat)
       case atStart=>exact⟨0,[],by omega,rfl,Bf.nil _ _ _,rfl,(fun x hx=>nomatch hx),HB5.out,HG5.out,Uz _ _⟩
       case round=>
        obtain⟨j,xs,hj,rfl,hM,hxl,hx,hbr6,hg6,hk6⟩:=hrel;obtain⟨As,ns,ks,rfl,hns, -⟩:=hM.rd.form;have HMr:=UX hM;have HGr:=UX hg6;have HKr:=UX hk6;have HX:=UX (UZ hxl hx);have HBr:=UX hbr6;have HZr:=UX (show M0≤wr.heap.size from by have:=hk6.size;have:=HM0.out;omega);clear hM hxl hx hbr6 hg6 hk6 hns;by_cases hlt:j<10
        ·go_wp2_with(first|(go_at_call 48;(with_reducible refine(HNk.out _ _ HGr.out (by omega)).mono ?_);rintro e7 w7 ⟨r7,hr7,rfl,hgs7,kn7⟩;have HM7:=UX (HMr.out.keep kn7 (fun k hk e=>by have:=(HMr.out.lt k hk).1;have:=HM0.out;have:=HZ.out;omega));have HB7:=UX (HBr.out.keep kn7 (by have:=HZ.out;omega));have HG7:=UX hgs7;have HK7:=UX (Uw HKr.out kn7 (fun b hb e=> .inl e));have HZ7:=UX (Ue HZr.out kn7.size);clear hgs7 kn7)|(at_builtin;refine NH Sa rfl (.tmp 60) (.tmp 63) rfl rfl (HM7.out.alloc _) w7.heap.size 1 (.int .i64 (r7:Nat)) rfl (Ua _) (by simp) (by simp) rfl (by have:=HX.out.1;simp;omega) (by have:=HZ7.out;simp;omega) ?_;intro rr cap w8 hM8 hk8 hr8 hbr8 hlt8));go_roundw
         case rel=>
          have hown:∀b,(Value.slice As ns ks).ownBlock=some b→M0≤b:=fun b hb=>((HM7.out.lt b hb).1)
          have hgm:=HM0.out;have hzz:=HZ.out;refine⟨j+1,xs++[(r7:Int)],by omega,by go_num,by rw[List.map_append,←List.length_map (f:=vi)];exact hM8,by have:=HX.out.1;simp;omega,fun x hx=>?_,(HB7.out.alloc _).keep hk8 (fun e=>by have:=hown _ e;omega),?_,?_⟩
          ·rcases List.mem_append.1 hx with h|h
           ·exact HX.out.2 x h
           rw[Ug.1 h];unfold Ah;omega
          ·exact(HG7.out.grew ((Uv w7).alloc _)).keep hk8 (fun b hb e=>by have:=hown b e;omega)
          exact Uw (HK7.out.alloc _) hk8 fun b hb e=> .inr (hown b e)
         case measure=>simp[intOf];omega
        obtain rfl:j=10:=by omega
        go_wp2_with(first|(go_at_call 84;(with_reducible refine(Ij _ _ xs HMr.out.rd HX.out.2 (by have:=HX.out.1;omega)).mono ?_);rintro e7 w7 ⟨vm,ms,rfl,hms,hml,hgm,g7⟩;obtain⟨Am,an,km,rfl, -⟩:=hms.slice;have hb7:=HBr.out.grew g7;have HG7:=UX (HGr.out.grew g7);have HK7:=UX (show A4 (fun b=>b=g∨w1.heap.size≤b) w1 w7 from Uw (Uw HK5.out HKr.out fun b hb e=>by have:=HM0.out;have:=HZ.out;omega) g7 fun b hb e=>e.elim);have HMS:=UX (UZ hms (UZ hml hgm));clear hms hml hgm g7;have cc8:w7.cell? ⟨z,8,none⟩=some (.slice none 0 0):=hb7.cell 8;have ff8:w7.frozen? ⟨z,8,none⟩=false:=hb7.frozen 8));have kst:A4 (fun b=>b=z) w7 (w7.setCell ⟨z,8,none⟩ (.slice Am an km)):=V0 (S:=fun b=>b=z) (p:=⟨z,8,none⟩) (Uz _ w7) (.inl rfl) _;have HR8:=UX (BE.keep (Q':=C9 0 wr.heap.size (w7.setCell ⟨z,8,none⟩ (.slice Am an km)).heap.size) HMS.out.1 (fun b hb=>⟨hb.2,by have:=hb.1;have:=HM0.out;have:=HZr.out;omega,.inr (by have:=hb.1;omega),Ub hb.2 kst.size⟩) kst);clear kst;have hb8:AK (w7.setCell ⟨z,8,none⟩ (.slice Am an km)) z 29 (A8 (B5 nm (fn:Nat) (win:Nat) (off:Nat) (k:Nat) ms) (.slice Am an km) (.slice none 0 0) (.slice none 0 0)).toArray:=hb7.set_ 8 (.slice Am an km);have HG8:=UX (HG7.out.keep (S:=fun b=>b=z) (V0 (S:=fun b=>b=z) (p:=⟨z,8,none⟩) (Uz _ w7) (.inl rfl) (.slice Am an km)) (fun b hb e=>by have:=HZ.out;have:b=z:=e;omega));have HK8:=UX (V0 (S:=fun b=>b=g∨w1.heap.size≤b) (p:=⟨z,8,none⟩) HK7.out (.inl (.inr HZ.out.2)) (.slice Am an km));generalize w7.setCell ⟨z,8,none⟩ (.slice Am an km)=w8 at*;go_meet;exact⟨i4+1+10,.slice Am an km,ms,wr.heap.size,by omega,⟨HZ.out.2,⟨nm,fn,win,off,k,HOK.out,HPW.out,hb8⟩,HG8.out,HK8.out⟩,by have:=HM0.out;have:=HZr.out;omega,HR8.out,HMS.out.2.1,HMS.out.2.2⟩
      have t1:((r5:Int)==1)=false:=by rw[UY];omega
      clear h1;go_wp2_with fail;go_meet;exact⟨i4+1,.slice none 0 0,[],z+1,by omega,⟨HZ.out.2,⟨nm,fn,win,off,k,HOK.out,HPW.out,hb5⟩,HG5.out,HK5.out⟩,Nat.lt_succ_self z,BE.nil _ _ _,Nat.zero_le _,(fun m hm=>nomatch hm)⟩
     case rest=>
      clear hb4 HG4 HK4 hb5 HG5 HK5 hr5 HPW HOK hlim nm fn win off k hi4 r5 w5;obtain⟨i5,vm,ms,M,hi5,hst,hzM,hms,hml,hgm⟩:=hcut;generalize wc=w4 at*;obtain⟨-,⟨nm,fn,win,off,k,hok,hpw,hb4⟩,hgs4,hk4⟩:=hst;have HG4:=UX hgs4;have HK4:=UX hk4;have HPW:=UX hpw;have HOK:=UX hok;have hlim:fn<8∧win≤100000∧off≤100000∧k≤200000:=hok.2;clear hok hgs4 hk4 hpw;obtain⟨Am,an,km,rfl, -⟩:=hms.slice;have HMS:=UX (UZ hms (UZ hml hgm));have HZM:=UX hzM;have hbr4:=HBR.out.keep HK4.out (fun h=>by have:=HGL.out;have:=HS.out;omega);clear hms hml hgm hzM;go_wp2_with(first|(refine lN (.tmp 3) hb4 rX ?_)|(refine sN (.tmp 2) (.tmp 68) (A8 (B5 nm (fn:Nat) (win:Nat) (off:Nat) (k:Nat) ms) (.slice Am an km) (.slice none 0 0) (.slice none 0 0)) hbr4 rX ?_;intro w20 hb20 k20 d20)|fail);refine rO rX hb20 ?_;have hz:=HZ.out;have hzm:=HZM.out;have hsz:=HS.out;have hgl:=HGL.out;refine⟨_,(A8 (B5 nm (fn:Nat) (win:Nat) (off:Nat) (k:Nat) ms) (.slice Am an km) (.slice none 0 0) (.slice none 0 0)),i5,rfl,AN.mk_ (BE.keep (S:=fun b=>b=w.heap.size) HMS.out.1 (fun b hb=>⟨hb.2,by have:=hb.1;omega,.inr (by have:=hb.1;omega),Ub hb.2 k20.size⟩) k20) (BE.nil _ _ _) (Ca.nil _ _),Rs HOK.out HMS.out.2.2 (by have:=HMS.out.2.1;omega),HG4.out.keep k20 (fun b hb e=>by omega),hi5,?_⟩;exact Uw (Uw (V2 (S:=fun b=>b=g) HG0.out) HK4.out fun b hb e=>by rcases e with e|e;exact e;omega) k20 fun b hb e=>by omega
end Go.Proofs.YtkclnhpofkaclaaGreatDoor
