/- What the card of the law stands on: Sq, GenC. -/
import Derived.Test.YthpflelgbadkcaaGreatDoorRewriteTypesP01
import Derived.Test.YthpflelgbadkcaaGreatDoorRewriteTypesP07
import Derived.Test.YthpflelgbadkcaaGreatDoorRewriteTypesP04
import Derived.Test.YthpflelgbadkcaaGreatDoorRewriteTypesP11
import Derived.Test.YthpflelgbadkcaaGreatDoorRewriteTypesP35
import Derived.Test.YthpflelgbadkcaaGreatDoorRewriteTypesP02
import Derived.Test.YthpflelgbadkcaaGreatDoorRewriteTypesP34
import Derived.Test.YthpflelgbadkcaaGreatDoorRewriteTypesP17
set_option maxRecDepth 100000
set_option maxHeartbeats 12800000
set_option linter.unusedVariables false
set_option linter.unusedSimpArgs false
namespace Go.Proofs.YthpflelgbadkcaaGreatDoor
open Go.RowKit
theorem C9 {md:Region.Mode} {i:Nat} {oi:Oper} {fuel:Nat} {listed:Array Bool} {a:Act} {w:World} {P':World→Prop} {ops:Array Oper} {Q:Exit→Act→World→Prop} {Gs':List (Nat×(World→Prop))} (s:Nat) (hcl:Ae md ops listed) (hK:B6 ((s,P')::Gs') listed w) (x:Operand) (b o:Nat) (cs:List Value) (hS:∀w,P' w→w.rangeAt b o cs) (hl:cs.length=11)
  (h:Ae md ops (listed.setIfInBounds i true)→B6 ((s,P')::Gs') (listed.setIfInBounds i true) w→BA Tryz.prog md ops Q ((s,P')::Gs') fuel (listed.setIfInBounds i true) (a.put oi.dst (.agg cs.toArray)) w)
  (hi:ops[i]? =some oi:=by rfl) (hs:Region.noSelect ops=true:=by kernel_rfl) (hf:Region.free md ops listed i=true:=by kernel_rfl) (hr:(Region.ready md ops listed).contains i=true:=by kernel_rfl) (hne':(((s,P')::Gs').map (·.1)).contains i=false:=by rfl)
  (hw:Region.waitsFor md ops s i=true:=by kernel_rfl) (ho:oi.op= .load 29 x:=by rfl) (hx:a.eval x= .pointer (some ⟨b,o,none⟩):=by rfl)
  (hQ:∀c a w,Q (.panic c) (a.put oi.dst (.agg cs.toArray)) w→Q (.panic c) a w:=by exact fun _ _ _ h=>h) (hgd:oi.guard=none:=by rfl):BA Tryz.prog md ops Q ((s,P')::Gs') (fuel+1) listed a w:=
 Bg s P' hi hs hf hr hcl hK hne' 0 rfl hw 29 x ho b o hx cs _ hS Tryz.underlying29 rfl (by rw[hl];exact AE) hQ hgd h
end Go.Proofs.YthpflelgbadkcaaGreatDoor
namespace Go.Proofs.YthpflelgbadkcaaGreatDoor
open Go.RowKit Pl
theorem E0:Cj 1 1 (BB 0 1):=Fp (by decide)
def ES (S:Nat→Prop) (w:World) (b:Nat):Prop:=¬S b∧b<w.heap.size
def Gh (w:World) (z9:Nat) (X Y C:List Value) (w':World):Prop:=w'.rangeAt (w.heap.size) 0 X∧w'.rangeAt (w.heap.size+1) 0 Y∧w'.rangeAt (w.heap.size+1+1) 0 C∧w'.rangeAt z9 0 (AJ 0 1)
theorem QS (S:Nat→Prop) (f:Int) (ea eb:Ex) (ca cb:List Value) (w:World) (hg:∀b,S b→b<w.heap.size) (ha:Ai w (ES S w) ea ca) (hb:Ai w (ES S w) eb cb):
  Calls Tryz.prog 54 #[.int .i64 f,.agg ca.toArray,.agg cb.toArray] w fun e w'=>∃cs,e= .returned (.agg cs.toArray)∧Ai w' (ES S w') (Ax f ea eb) cs∧A4 w w':=by
 refine(KK f ea eb ca cb w (ES S w) (fun b hb=>hb.2) ha hb).mono ?_;rintro e w' ⟨cs,rfl,h,k⟩;have hsz:=k.size;exact⟨cs,rfl,Ai.keep (S:=fun _=>False) (fun b hb=>⟨by rcases hb with h|h;have:=h.2;omega;exact h.2,fun h=>h,by rcases hb with h|h;exact h.1;exact fun hS=>(by have:=hg b hS;omega),by rcases hb with h|h;have:=h.2;omega;exact h.2⟩) (VU _) _ _ h,k⟩
theorem JZ (w:World) (g B:Nat) (v:Value) (l:List Int) (i:Nat) (N D:Nat) (hN:1≤N) (hD:1≤D) (tx ty tc:Ex) (X Y C:List Value) (h:GS w g B v l i) (hi:i≤100000) (M:Nat) (hM:g<M∧M≤w.heap.size) (hx:Ai w (DK 0 M w.heap.size) tx X) (hy:Ai w (DK 0 M w.heap.size) ty Y) (hc:Ai w (DK 0 M w.heap.size) tc C) (gx:Cj N D tx) (gy:Cj N D ty) (gc:Cj 1 1 tc):
  Calls Tryz.prog 55 #[.pointer (some ⟨g,0,none⟩),.agg X.toArray,.agg Y.toArray,.agg C.toArray] w (EP g B v l M (3+3*N) (2+D) i 1 w):=by
 have hgl:=h.1.lt;have hXl:X.length=11:=(by obtain⟨a,b,c,h, -⟩:=hx.open_;rw[h];rfl);have hYl:Y.length=11:=(by obtain⟨a,b,c,h, -⟩:=hy.open_;rw[h];rfl);have hCl:C.length=11:=(by obtain⟨a,b,c,h, -⟩:=hc.open_;rw[h];rfl);have hb1:=VW w 29 X.toArray;obtain⟨hb2,hb3,hb4,hG⟩:=Ci (w.alloc (.cells X.toArray 29)) 29 29 29 Y.toArray C.toArray (AJ 0 0).toArray;have hs0:(w.alloc (.cells X.toArray 29)).heap.size=w.heap.size+1:=by simp
 rw[hs0]at hb2 hb3 hb4;have hb1:=hb1.grew hG;have hG:=((VU w).alloc (.cells X.toArray 29)).trans hG;have hs:((((w.alloc (.cells X.toArray 29)).alloc (.cells Y.toArray 29)).alloc (.cells C.toArray 29)).alloc (.cells (AJ 0 0).toArray 29)).heap.size=w.heap.size+4:=by simp
 have HGS:=V3 h;have HM:=V3 hM;have HGL:=V3 hgl;have HXY:=V3 (V5 hx (V5 hy hc));have HGd:=V3 (V5 gx (V5 gy gc));clear h hgl hx hy hc gx gy gc hs0 hM;go_enter Tryz.func55,Tryz.ntmps55;go_upto_region 1 with fail;change Code.wp _ _ _ _ ((((w.alloc (.cells X.toArray 29)).alloc (.cells Y.toArray 29)).alloc (.cells C.toArray 29)).alloc (.cells (AJ 0 0).toArray 29));generalize (((w.alloc (.cells X.toArray 29)).alloc (.cells Y.toArray 29)).alloc (.cells C.toArray 29)).alloc (.cells (AJ 0 0).toArray 29)=w1 at*;have HS:=V3 hs;clear hs;go_upto_region 2 with(first|(refine sN (.tmp 9) (.tmp 11) (AJ 0 1) (VW w1 29 _) rX ?_ (us:=(AJ 0 0));intro w2 hb9 k9 d9;have g2:A4 w1 w2:=VV ((VU w1).alloc _) k9 (fun i hi e=>by omega))|fail);have HNx:=V3 (show Calls Tryz.prog 51 #[.pointer (some ⟨g,0,none⟩),.int .i64 15] w2 (Bt g B v l i 15 w2)from BR w2 g B v l i 15 (HGS.out.grew (hG.trans g2)) hi (by decide) (by decide));have HBX:=V3 (V5 (hb1.grew g2) (V5 (hb2.grew g2) (V5 (hb3.grew g2) (V5 (hb4.grew g2) (V5 hb9 (hG.trans g2))))));have HZ9:=V3 (show w.heap.size+4≤w1.heap.size from Nat.le_of_eq HS.out.symm);generalize w1.heap.size=z9 at*;clear hb1 hb2 hb3 hb4 hb9 hG g2 k9 d9;go_upto_region 3 with(first|(go_at_call 51;(with_reducible refine HNx.out.mono ?_);rintro e3 w3 ⟨r,hr,rfl,hgs,k3⟩;have HG3:=V3 hgs;have HK3:=V3 k3;clear hgs k3));have hgl:=HGL.out;have hz9:=HZ9.out;have hkw:AA (fun b=>b=g) w w3:=VV (Vb HBX.out.2.2.2.2.2) HK3.out fun b hb e=>e
 have HF:=V3 (show ∀w',A4 w3 w'→w'.rangeAt (w.heap.size) 0 X∧w'.rangeAt (w.heap.size+1) 0 Y∧w'.rangeAt (w.heap.size+1+1) 0 C∧w'.rangeAt z9 0 (AJ 0 1)from fun w' k=>⟨((HBX.out.1.keep HK3.out (by omega)).grew k).rangeN 0 X (by simp),((HBX.out.2.1.keep HK3.out (by omega)).grew k).rangeN 0 Y (by simp),((HBX.out.2.2.1.keep HK3.out (by omega)).grew k).rangeN 0 C (by simp),((HBX.out.2.2.2.2.1.keep HK3.out (by omega)).grew k).rangeN 0 (AJ 0 1) rfl⟩);have HR8:=V3 (show ∀w',A4 w3 w'→AR w' (w.heap.size+1+1+1) 29 (AJ 0 0).toArray from fun w' k=>(HBX.out.2.2.2.1.keep HK3.out (by omega)).grew k);have hgl3:∀b,(b<M∨b=w.heap.size+1+1+1)→b<w3.heap.size:=fun b hb=>by
  have h1:=HM.out.2;have h3:=hkw.size;have h2:=(HR8.out w3 (VU _)).lt;omega
 have hgr:∀(w':World) (t:Ex) (cs:List Value),A4 w3 w'→Ai w (DK 0 M w.heap.size) t cs→Ai w' (ES (fun b=>b<M∨b=w.heap.size+1+1+1) w') t cs:=fun w' t cs k h=>Ai.keep (S:=fun b=>b=g) (fun b hb=>⟨hb.2,(by have h1:=hb.1;have h2:=HM.out;omega),(by have h1:=hb.1;have h2:=hb.2;have h3:=HM.out;omega),VA hb.2 (VD hkw.size k.size)⟩) (VV hkw (Vb k) fun b hb e=>e) t cs h
 have HTx:=V3 (show ∀w',A4 w3 w'→Ai w' (ES (fun b=>b<M∨b=w.heap.size+1+1+1) w') tx X from fun w' k=>hgr w' tx X k HXY.out.1);have HTy:=V3 (show ∀w',A4 w3 w'→Ai w' (ES (fun b=>b<M∨b=w.heap.size+1+1+1) w') ty Y from fun w' k=>hgr w' ty Y k HXY.out.2.1);have HTc:=V3 (show ∀w',A4 w3 w'→Ai w' (ES (fun b=>b<M∨b=w.heap.size+1+1+1) w') tc C from fun w' k=>hgr w' tc C k HXY.out.2.2);have HTz:=V3 (show ∀w',A4 w3 w'→Ai w' (ES (fun b=>b<M∨b=w.heap.size+1+1+1) w') (BB 0 1) (AJ 0 1)from fun w' k=>Kp _ _ _ _);have HBn:=V3 (fun(f:Int) (ea eb:Ex) (ca cb:List Value) (w':World) (k:A4 w3 w')=>QS (fun b=>b<M∨b=w.heap.size+1+1+1) f ea eb ca cb w' (fun b hb=>VA (hgl3 b hb) k.size));have HEND:=V3 (show ∀(t:Ex) (U:List Value) (w5 w8:World),A4 w3 w5→AA (fun b=>b=w.heap.size+1+1+1) w5 w8→Ai w5 (ES (fun b=>b<M∨b=w.heap.size+1+1+1) w5) t U→Cj (3+3*N) (2+D) t→EP g B v l M (3+3*N) (2+D) i 1 w (.returned (.agg U.toArray)) w8 from fun t U w5 w8 k5 k8 hU hgd=>by
  have hgs5:=HG3.out.grew k5;exact⟨t,U,i+1,rfl,Ai.keep (S:=fun b=>b=w.heap.size+1+1+1) (fun b hb=>⟨hb.2,fun e=>hb.1 (.inr e),.inr (Nat.le_of_not_lt fun e=>hb.1 (.inl e)),VA hb.2 k8.size⟩) k8 _ _ hU,hgd,⟨hgs5.1.keep k8 (by omega),hgs5.2.1.keep (by have:=hgs5.2.2.1;have:=hgs5.1.lt;omega) k8 (fun b hb e=>by have:=hgs5.2.2.1;omega),hgs5.2.2⟩,V6 _,VV (VV hkw (Vb k5) fun b hb e=>e) k8 fun b hb e=>by omega⟩)
 clear hgl hz9 hkw hgl3 hgr HXY HBX HNx HZ9 HS HGS;have hcase:r=0∨r=1∨r=2∨r=3∨r=4∨r=5∨r=6∨r=7∨r=8∨r=9∨r=10∨r=11∨r=12∨r=13∨r=14:=by omega
 clear hr;rcases hcase with rfl|rfl|rfl|rfl|rfl|rfl|rfl|rfl|rfl|rfl|rfl|rfl|rfl|rfl|rfl
 ·go_upto_region 4 with fail;refine lR 5 (Gh w z9 X Y C) (HF.out _ (VX (VU _))) fun hcl hkn=>?_
  refine C9 (i:=0) 5 hcl hkn (.tmp 5) (w.heap.size) 0 X (fun w h=>h.1) hXl fun hcl hkn=>?_
  try simp only[nf]
  refine C9 (i:=1) 5 hcl hkn (.tmp 6) (w.heap.size+1) 0 Y (fun w h=>h.2.1) hYl fun hcl hkn=>?_
  try simp only[nf]
  refine C9 (i:=3) 5 hcl hkn (.tmp 6) (w.heap.size+1) 0 Y (fun w h=>h.2.1) hYl fun hcl hkn=>?_
  try simp only[nf]
  refine oN (i:=2) hcl fun K hK=>?_
  go_simp;refine(HBn.out 0 tx ty X Y _ (VX (VU _)) (HTx.out _ (VX (VU _))) (HTy.out _ (VX (VU _)))).mono ?_;rintro e4 w4 ⟨P,rfl,hP,k4⟩;have g4:A4 w3 w4:=(VX (VU w3)).trans k4;refine hK _ _ (kr (HF.out w4 g4)) ?_;have HP:=V3 hP;clear hK K hP k4;clear hcl hkn;intro hcl hkn
  try simp only[nf]
  refine oN (i:=4) hcl fun K hK=>?_
  go_simp;refine(HBn.out 1 (Ax 0 tx ty) ty P Y _ g4 HP.out (HTy.out _ g4)).mono ?_;rintro e5 w5 ⟨U,rfl,hU,k5⟩;have g5:A4 w3 w5:=g4.trans k5;refine hK _ _ (kr (HF.out w5 g5)) ?_;have hU1:=AY hU;have hUl:U.length=11:=(by obtain⟨a,b,c,h, -⟩:=hU.open_;rw[h];rfl);have HU:=V3 hU;have HUl:=V3 hUl;clear hK K hU k5 hUl;clear hcl hkn;intro hcl hkn
  try simp only[nf]
  refine oN (i:=5) hcl fun K hK=>?_
  refine sW (.tmp 8) (.tmp 20) U (HR8.out w5 g5) rX ?_ (hl:=HUl.out) (h1:=hU1);intro w8 hb8 k8;refine hK _ _ kl ?_;clear hK K;clear hcl hkn;intro hcl hkn
  try simp only[nf]
  refine aD ?_;go_wp2_with fail;refine rO rX hb8 ?_ (hl:=HUl.out);exact HEND.out (Ax 1 (Ax 0 tx ty) ty) U w5 w8 g5 k8 HU.out ((Aq (f:=1) (by decide) (Aq (f:=0) (by decide) HGd.out.1 HGd.out.2.1) HGd.out.2.1).more (by omega) (by omega))
 ·go_upto_region 6 with fail;refine lR 5 (Gh w z9 X Y C) (HF.out _ (VX (VU _))) fun hcl hkn=>?_
  refine C9 (i:=0) 5 hcl hkn (.tmp 6) (w.heap.size+1) 0 Y (fun w h=>h.2.1) hYl fun hcl hkn=>?_
  try simp only[nf]
  refine C9 (i:=1) 5 hcl hkn (.tmp 5) (w.heap.size) 0 X (fun w h=>h.1) hXl fun hcl hkn=>?_
  try simp only[nf]
  refine C9 (i:=3) 5 hcl hkn (.tmp 6) (w.heap.size+1) 0 Y (fun w h=>h.2.1) hYl fun hcl hkn=>?_
  try simp only[nf]
  refine oN (i:=2) hcl fun K hK=>?_
  go_simp;refine(HBn.out 0 ty tx Y X _ (VX (VU _)) (HTy.out _ (VX (VU _))) (HTx.out _ (VX (VU _)))).mono ?_;rintro e4 w4 ⟨P,rfl,hP,k4⟩;have g4:A4 w3 w4:=(VX (VU w3)).trans k4;refine hK _ _ (kr (HF.out w4 g4)) ?_;have HP:=V3 hP;clear hK K hP k4;clear hcl hkn;intro hcl hkn
  try simp only[nf]
  refine oN (i:=4) hcl fun K hK=>?_
  go_simp;refine(HBn.out 1 (Ax 0 ty tx) ty P Y _ g4 HP.out (HTy.out _ g4)).mono ?_;rintro e5 w5 ⟨U,rfl,hU,k5⟩;have g5:A4 w3 w5:=g4.trans k5;refine hK _ _ (kr (HF.out w5 g5)) ?_;have hU1:=AY hU;have hUl:U.length=11:=(by obtain⟨a,b,c,h, -⟩:=hU.open_;rw[h];rfl);have HU:=V3 hU;have HUl:=V3 hUl;clear hK K hU k5 hUl;clear hcl hkn;intro hcl hkn
  try simp only[nf]
  refine oN (i:=5) hcl fun K hK=>?_
  refine sW (.tmp 8) (.tmp 27) U (HR8.out w5 g5) rX ?_ (hl:=HUl.out) (h1:=hU1);intro w8 hb8 k8;refine hK _ _ kl ?_;clear hK K;clear hcl hkn;intro hcl hkn
  try simp only[nf]
  refine aD ?_;go_wp2_with fail;refine rO rX hb8 ?_ (hl:=HUl.out);exact HEND.out (Ax 1 (Ax 0 ty tx) ty) U w5 w8 g5 k8 HU.out ((Aq (f:=1) (by decide) (Aq (f:=0) (by decide) HGd.out.2.1 HGd.out.1) HGd.out.2.1).more (by omega) (by omega))
 ·go_upto_region 8 with fail;refine lR 5 (Gh w z9 X Y C) (HF.out _ (VX (VU _))) fun hcl hkn=>?_
  refine C9 (i:=0) 5 hcl hkn (.tmp 5) (w.heap.size) 0 X (fun w h=>h.1) hXl fun hcl hkn=>?_
  try simp only[nf]
  refine C9 (i:=1) 5 hcl hkn (.tmp 6) (w.heap.size+1) 0 Y (fun w h=>h.2.1) hYl fun hcl hkn=>?_
  try simp only[nf]
  refine C9 (i:=3) 5 hcl hkn (.tmp 6) (w.heap.size+1) 0 Y (fun w h=>h.2.1) hYl fun hcl hkn=>?_
  try simp only[nf]
  refine oN (i:=2) hcl fun K hK=>?_
  go_simp;refine(HBn.out 1 tx ty X Y _ (VX (VU _)) (HTx.out _ (VX (VU _))) (HTy.out _ (VX (VU _)))).mono ?_;rintro e4 w4 ⟨P,rfl,hP,k4⟩;have g4:A4 w3 w4:=(VX (VU w3)).trans k4;refine hK _ _ (kr (HF.out w4 g4)) ?_;have HP:=V3 hP;clear hK K hP k4;clear hcl hkn;intro hcl hkn
  try simp only[nf]
  refine oN (i:=4) hcl fun K hK=>?_
  go_simp;refine(HBn.out 0 (Ax 1 tx ty) ty P Y _ g4 HP.out (HTy.out _ g4)).mono ?_;rintro e5 w5 ⟨U,rfl,hU,k5⟩;have g5:A4 w3 w5:=g4.trans k5;refine hK _ _ (kr (HF.out w5 g5)) ?_;have hU1:=AY hU;have hUl:U.length=11:=(by obtain⟨a,b,c,h, -⟩:=hU.open_;rw[h];rfl);have HU:=V3 hU;have HUl:=V3 hUl;clear hK K hU k5 hUl;clear hcl hkn;intro hcl hkn
  try simp only[nf]
  refine oN (i:=5) hcl fun K hK=>?_
  refine sW (.tmp 8) (.tmp 34) U (HR8.out w5 g5) rX ?_ (hl:=HUl.out) (h1:=hU1);intro w8 hb8 k8;refine hK _ _ kl ?_;clear hK K;clear hcl hkn;intro hcl hkn
  try simp only[nf]
  refine aD ?_;go_wp2_with fail;refine rO rX hb8 ?_ (hl:=HUl.out);exact HEND.out (Ax 0 (Ax 1 tx ty) ty) U w5 w8 g5 k8 HU.out ((Aq (f:=0) (by decide) (Aq (f:=1) (by decide) HGd.out.1 HGd.out.2.1) HGd.out.2.1).more (by omega) (by omega))
 ·go_upto_region 10 with fail;refine lR 5 (Gh w z9 X Y C) (HF.out _ (VX (VU _))) fun hcl hkn=>?_
  refine C9 (i:=0) 5 hcl hkn (.tmp 6) (w.heap.size+1) 0 Y (fun w h=>h.2.1) hYl fun hcl hkn=>?_
  try simp only[nf]
  refine C9 (i:=1) 5 hcl hkn (.tmp 5) (w.heap.size) 0 X (fun w h=>h.1) hXl fun hcl hkn=>?_
  try simp only[nf]
  refine C9 (i:=2) 5 hcl hkn (.tmp 6) (w.heap.size+1) 0 Y (fun w h=>h.2.1) hYl fun hcl hkn=>?_
  try simp only[nf]
  refine oN (i:=3) hcl fun K hK=>?_
  go_simp;refine(HBn.out 1 tx ty X Y _ (VX (VU _)) (HTx.out _ (VX (VU _))) (HTy.out _ (VX (VU _)))).mono ?_;rintro e4 w4 ⟨P,rfl,hP,k4⟩;have g4:A4 w3 w4:=(VX (VU w3)).trans k4;refine hK _ _ (kr (HF.out w4 g4)) ?_;have HP:=V3 hP;clear hK K hP k4;clear hcl hkn;intro hcl hkn
  try simp only[nf]
  refine oN (i:=4) hcl fun K hK=>?_
  go_simp;refine(HBn.out 0 ty (Ax 1 tx ty) Y P _ g4 (HTy.out _ g4) HP.out).mono ?_;rintro e5 w5 ⟨U,rfl,hU,k5⟩;have g5:A4 w3 w5:=g4.trans k5;refine hK _ _ (kr (HF.out w5 g5)) ?_;have hU1:=AY hU;have hUl:U.length=11:=(by obtain⟨a,b,c,h, -⟩:=hU.open_;rw[h];rfl);have HU:=V3 hU;have HUl:=V3 hUl;clear hK K hU k5 hUl;clear hcl hkn;intro hcl hkn
  try simp only[nf]
  refine oN (i:=5) hcl fun K hK=>?_
  refine sW (.tmp 8) (.tmp 41) U (HR8.out w5 g5) rX ?_ (hl:=HUl.out) (h1:=hU1);intro w8 hb8 k8;refine hK _ _ kl ?_;clear hK K;clear hcl hkn;intro hcl hkn
  try simp only[nf]
  refine aD ?_;go_wp2_with fail;refine rO rX hb8 ?_ (hl:=HUl.out);exact HEND.out (Ax 0 ty (Ax 1 tx ty)) U w5 w8 g5 k8 HU.out ((Aq (f:=0) (by decide) HGd.out.2.1 (Aq (f:=1) (by decide) HGd.out.1 HGd.out.2.1)).more (by omega) (by omega))
 ·go_upto_region 12 with fail;refine lR 5 (Gh w z9 X Y C) (HF.out _ (VX (VU _))) fun hcl hkn=>?_
  refine C9 (i:=0) 5 hcl hkn (.tmp 6) (w.heap.size+1) 0 Y (fun w h=>h.2.1) hYl fun hcl hkn=>?_
  try simp only[nf]
  refine C9 (i:=1) 5 hcl hkn (.tmp 6) (w.heap.size+1) 0 Y (fun w h=>h.2.1) hYl fun hcl hkn=>?_
  try simp only[nf]
  refine C9 (i:=2) 5 hcl hkn (.tmp 5) (w.heap.size) 0 X (fun w h=>h.1) hXl fun hcl hkn=>?_
  try simp only[nf]
  refine oN (i:=3) hcl fun K hK=>?_
  go_simp;refine(HBn.out 1 ty tx Y X _ (VX (VU _)) (HTy.out _ (VX (VU _))) (HTx.out _ (VX (VU _)))).mono ?_;rintro e4 w4 ⟨P,rfl,hP,k4⟩;have g4:A4 w3 w4:=(VX (VU w3)).trans k4;refine hK _ _ (kr (HF.out w4 g4)) ?_;have HP:=V3 hP;clear hK K hP k4;clear hcl hkn;intro hcl hkn
  try simp only[nf]
  refine oN (i:=4) hcl fun K hK=>?_
  go_simp;refine(HBn.out 1 ty (Ax 1 ty tx) Y P _ g4 (HTy.out _ g4) HP.out).mono ?_;rintro e5 w5 ⟨U,rfl,hU,k5⟩;have g5:A4 w3 w5:=g4.trans k5;refine hK _ _ (kr (HF.out w5 g5)) ?_;have hU1:=AY hU;have hUl:U.length=11:=(by obtain⟨a,b,c,h, -⟩:=hU.open_;rw[h];rfl);have HU:=V3 hU;have HUl:=V3 hUl;clear hK K hU k5 hUl;clear hcl hkn;intro hcl hkn
  try simp only[nf]
  refine oN (i:=5) hcl fun K hK=>?_
  refine sW (.tmp 8) (.tmp 48) U (HR8.out w5 g5) rX ?_ (hl:=HUl.out) (h1:=hU1);intro w8 hb8 k8;refine hK _ _ kl ?_;clear hK K;clear hcl hkn;intro hcl hkn
  try simp only[nf]
  refine aD ?_;go_wp2_with fail;refine rO rX hb8 ?_ (hl:=HUl.out);exact HEND.out (Ax 1 ty (Ax 1 ty tx)) U w5 w8 g5 k8 HU.out ((Aq (f:=1) (by decide) HGd.out.2.1 (Aq (f:=1) (by decide) HGd.out.2.1 HGd.out.1)).more (by omega) (by omega))
 ·go_upto_region 14 with fail;refine lR 5 (Gh w z9 X Y C) (HF.out _ (VX (VU _))) fun hcl hkn=>?_
  refine C9 (i:=0) 5 hcl hkn (.tmp 5) (w.heap.size) 0 X (fun w h=>h.1) hXl fun hcl hkn=>?_
  try simp only[nf]
  refine C9 (i:=1) 5 hcl hkn (.tmp 7) (w.heap.size+1+1) 0 C (fun w h=>h.2.2.1) hCl fun hcl hkn=>?_
  try simp only[nf]
  refine C9 (i:=3) 5 hcl hkn (.tmp 7) (w.heap.size+1+1) 0 C (fun w h=>h.2.2.1) hCl fun hcl hkn=>?_
  try simp only[nf]
  refine oN (i:=2) hcl fun K hK=>?_
  go_simp;refine(HBn.out 2 tx tc X C _ (VX (VU _)) (HTx.out _ (VX (VU _))) (HTc.out _ (VX (VU _)))).mono ?_;rintro e4 w4 ⟨P,rfl,hP,k4⟩;have g4:A4 w3 w4:=(VX (VU w3)).trans k4;refine hK _ _ (kr (HF.out w4 g4)) ?_;have HP:=V3 hP;clear hK K hP k4;clear hcl hkn;intro hcl hkn
  try simp only[nf]
  refine oN (i:=4) hcl fun K hK=>?_
  go_simp;refine(HBn.out 3 (Ax 2 tx tc) tc P C _ g4 HP.out (HTc.out _ g4)).mono ?_;rintro e5 w5 ⟨U,rfl,hU,k5⟩;have g5:A4 w3 w5:=g4.trans k5;refine hK _ _ (kr (HF.out w5 g5)) ?_;have hU1:=AY hU;have hUl:U.length=11:=(by obtain⟨a,b,c,h, -⟩:=hU.open_;rw[h];rfl);have HU:=V3 hU;have HUl:=V3 hUl;clear hK K hU k5 hUl;clear hcl hkn;intro hcl hkn
  try simp only[nf]
  refine oN (i:=5) hcl fun K hK=>?_
  refine sW (.tmp 8) (.tmp 55) U (HR8.out w5 g5) rX ?_ (hl:=HUl.out) (h1:=hU1);intro w8 hb8 k8;refine hK _ _ kl ?_;clear hK K;clear hcl hkn;intro hcl hkn
  try simp only[nf]
  refine aD ?_;go_wp2_with fail;refine rO rX hb8 ?_ (hl:=HUl.out);exact HEND.out (Ax 3 (Ax 2 tx tc) tc) U w5 w8 g5 k8 HU.out ((Aq (f:=3) (by decide) (Aq (f:=2) (by decide) HGd.out.1 HGd.out.2.2) HGd.out.2.2).more (by omega) (by omega))
 ·go_upto_region 16 with fail;refine lR 5 (Gh w z9 X Y C) (HF.out _ (VX (VU _))) fun hcl hkn=>?_
  refine C9 (i:=0) 5 hcl hkn (.tmp 7) (w.heap.size+1+1) 0 C (fun w h=>h.2.2.1) hCl fun hcl hkn=>?_
  try simp only[nf]
  refine C9 (i:=1) 5 hcl hkn (.tmp 5) (w.heap.size) 0 X (fun w h=>h.1) hXl fun hcl hkn=>?_
  try simp only[nf]
  refine C9 (i:=3) 5 hcl hkn (.tmp 7) (w.heap.size+1+1) 0 C (fun w h=>h.2.2.1) hCl fun hcl hkn=>?_
  try simp only[nf]
  refine oN (i:=2) hcl fun K hK=>?_
  go_simp;refine(HBn.out 2 tc tx C X _ (VX (VU _)) (HTc.out _ (VX (VU _))) (HTx.out _ (VX (VU _)))).mono ?_;rintro e4 w4 ⟨P,rfl,hP,k4⟩;have g4:A4 w3 w4:=(VX (VU w3)).trans k4;refine hK _ _ (kr (HF.out w4 g4)) ?_;have HP:=V3 hP;clear hK K hP k4;clear hcl hkn;intro hcl hkn
  try simp only[nf]
  refine oN (i:=4) hcl fun K hK=>?_
  go_simp;refine(HBn.out 3 (Ax 2 tc tx) tc P C _ g4 HP.out (HTc.out _ g4)).mono ?_;rintro e5 w5 ⟨U,rfl,hU,k5⟩;have g5:A4 w3 w5:=g4.trans k5;refine hK _ _ (kr (HF.out w5 g5)) ?_;have hU1:=AY hU;have hUl:U.length=11:=(by obtain⟨a,b,c,h, -⟩:=hU.open_;rw[h];rfl);have HU:=V3 hU;have HUl:=V3 hUl;clear hK K hU k5 hUl;clear hcl hkn;intro hcl hkn
  try simp only[nf]
  refine oN (i:=5) hcl fun K hK=>?_
  refine sW (.tmp 8) (.tmp 62) U (HR8.out w5 g5) rX ?_ (hl:=HUl.out) (h1:=hU1);intro w8 hb8 k8;refine hK _ _ kl ?_;clear hK K;clear hcl hkn;intro hcl hkn
  try simp only[nf]
  refine aD ?_;go_wp2_with fail;refine rO rX hb8 ?_ (hl:=HUl.out);exact HEND.out (Ax 3 (Ax 2 tc tx) tc) U w5 w8 g5 k8 HU.out ((Aq (f:=3) (by decide) (Aq (f:=2) (by decide) HGd.out.2.2 HGd.out.1) HGd.out.2.2).more (by omega) (by omega))
 ·go_upto_region 18 with fail;refine lR 5 (Gh w z9 X Y C) (HF.out _ (VX (VU _))) fun hcl hkn=>?_
  refine C9 (i:=0) 5 hcl hkn (.tmp 5) (w.heap.size) 0 X (fun w h=>h.1) hXl fun hcl hkn=>?_
  try simp only[nf]
  refine C9 (i:=1) 5 hcl hkn (.tmp 7) (w.heap.size+1+1) 0 C (fun w h=>h.2.2.1) hCl fun hcl hkn=>?_
  try simp only[nf]
  refine C9 (i:=3) 5 hcl hkn (.tmp 7) (w.heap.size+1+1) 0 C (fun w h=>h.2.2.1) hCl fun hcl hkn=>?_
  try simp only[nf]
  refine oN (i:=2) hcl fun K hK=>?_
  go_simp;refine(HBn.out 3 tx tc X C _ (VX (VU _)) (HTx.out _ (VX (VU _))) (HTc.out _ (VX (VU _)))).mono ?_;rintro e4 w4 ⟨P,rfl,hP,k4⟩;have g4:A4 w3 w4:=(VX (VU w3)).trans k4;refine hK _ _ (kr (HF.out w4 g4)) ?_;have HP:=V3 hP;clear hK K hP k4;clear hcl hkn;intro hcl hkn
  try simp only[nf]
  refine oN (i:=4) hcl fun K hK=>?_
  go_simp;refine(HBn.out 2 (Ax 3 tx tc) tc P C _ g4 HP.out (HTc.out _ g4)).mono ?_;rintro e5 w5 ⟨U,rfl,hU,k5⟩;have g5:A4 w3 w5:=g4.trans k5;refine hK _ _ (kr (HF.out w5 g5)) ?_;have hU1:=AY hU;have hUl:U.length=11:=(by obtain⟨a,b,c,h, -⟩:=hU.open_;rw[h];rfl);have HU:=V3 hU;have HUl:=V3 hUl;clear hK K hU k5 hUl;clear hcl hkn;intro hcl hkn
  try simp only[nf]
  refine oN (i:=5) hcl fun K hK=>?_
  refine sW (.tmp 8) (.tmp 69) U (HR8.out w5 g5) rX ?_ (hl:=HUl.out) (h1:=hU1);intro w8 hb8 k8;refine hK _ _ kl ?_;clear hK K;clear hcl hkn;intro hcl hkn
  try simp only[nf]
  refine aD ?_;go_wp2_with fail;refine rO rX hb8 ?_ (hl:=HUl.out);exact HEND.out (Ax 2 (Ax 3 tx tc) tc) U w5 w8 g5 k8 HU.out ((Aq (f:=2) (by decide) (Aq (f:=3) (by decide) HGd.out.1 HGd.out.2.2) HGd.out.2.2).more (by omega) (by omega))
 ·go_upto_region 20 with fail;refine lR 5 (Gh w z9 X Y C) (HF.out _ (VX (VU _))) fun hcl hkn=>?_
  refine C9 (i:=0) 5 hcl hkn (.tmp 7) (w.heap.size+1+1) 0 C (fun w h=>h.2.2.1) hCl fun hcl hkn=>?_
  try simp only[nf]
  refine C9 (i:=1) 5 hcl hkn (.tmp 5) (w.heap.size) 0 X (fun w h=>h.1) hXl fun hcl hkn=>?_
  try simp only[nf]
  refine C9 (i:=2) 5 hcl hkn (.tmp 7) (w.heap.size+1+1) 0 C (fun w h=>h.2.2.1) hCl fun hcl hkn=>?_
  try simp only[nf]
  refine oN (i:=3) hcl fun K hK=>?_
  go_simp;refine(HBn.out 3 tx tc X C _ (VX (VU _)) (HTx.out _ (VX (VU _))) (HTc.out _ (VX (VU _)))).mono ?_;rintro e4 w4 ⟨P,rfl,hP,k4⟩;have g4:A4 w3 w4:=(VX (VU w3)).trans k4;refine hK _ _ (kr (HF.out w4 g4)) ?_;have HP:=V3 hP;clear hK K hP k4;clear hcl hkn;intro hcl hkn
  try simp only[nf]
  refine oN (i:=4) hcl fun K hK=>?_
  go_simp;refine(HBn.out 2 tc (Ax 3 tx tc) C P _ g4 (HTc.out _ g4) HP.out).mono ?_;rintro e5 w5 ⟨U,rfl,hU,k5⟩;have g5:A4 w3 w5:=g4.trans k5;refine hK _ _ (kr (HF.out w5 g5)) ?_;have hU1:=AY hU;have hUl:U.length=11:=(by obtain⟨a,b,c,h, -⟩:=hU.open_;rw[h];rfl);have HU:=V3 hU;have HUl:=V3 hUl;clear hK K hU k5 hUl;clear hcl hkn;intro hcl hkn
  try simp only[nf]
  refine oN (i:=5) hcl fun K hK=>?_
  refine sW (.tmp 8) (.tmp 76) U (HR8.out w5 g5) rX ?_ (hl:=HUl.out) (h1:=hU1);intro w8 hb8 k8;refine hK _ _ kl ?_;clear hK K;clear hcl hkn;intro hcl hkn
  try simp only[nf]
  refine aD ?_;go_wp2_with fail;refine rO rX hb8 ?_ (hl:=HUl.out);exact HEND.out (Ax 2 tc (Ax 3 tx tc)) U w5 w8 g5 k8 HU.out ((Aq (f:=2) (by decide) HGd.out.2.2 (Aq (f:=3) (by decide) HGd.out.1 HGd.out.2.2)).more (by omega) (by omega))
 ·go_upto_region 22 with fail;refine lR 5 (Gh w z9 X Y C) (HF.out _ (VX (VU _))) fun hcl hkn=>?_
  refine C9 (i:=0) 5 hcl hkn (.tmp 5) (w.heap.size) 0 X (fun w h=>h.1) hXl fun hcl hkn=>?_
  try simp only[nf]
  refine C9 (i:=1) 5 hcl hkn (.tmp 6) (w.heap.size+1) 0 Y (fun w h=>h.2.1) hYl fun hcl hkn=>?_
  try simp only[nf]
  refine Bg 5 _ (i:=2) rfl (by kernel_rfl) (by kernel_rfl) (by kernel_rfl) hcl hkn (by rfl) 0 rfl (by kernel_rfl) 29 (.tmp 9) rfl (z9) 0 rfl (AJ 0 1) _ (fun w h=>h.2.2.2) Tryz.underlying29 rfl AE (fun _ _ _ h=>h) rfl ?_;clear hcl hkn;intro hcl hkn
  try simp only[nf]
  refine oN (i:=3) hcl fun K hK=>?_
  go_simp;refine(HBn.out 2 ty (BB 0 1) Y (AJ 0 1) _ (VX (VU _)) (HTy.out _ (VX (VU _))) (HTz.out _ (VX (VU _)))).mono ?_;rintro e4 w4 ⟨P,rfl,hP,k4⟩;have g4:A4 w3 w4:=(VX (VU w3)).trans k4;refine hK _ _ (kr (HF.out w4 g4)) ?_;have HP:=V3 hP;clear hK K hP k4;clear hcl hkn;intro hcl hkn
  try simp only[nf]
  refine oN (i:=4) hcl fun K hK=>?_
  go_simp;refine(HBn.out 0 tx (Ax 2 ty (BB 0 1)) X P _ g4 (HTx.out _ g4) HP.out).mono ?_;rintro e5 w5 ⟨U,rfl,hU,k5⟩;have g5:A4 w3 w5:=g4.trans k5;refine hK _ _ (kr (HF.out w5 g5)) ?_;have hU1:=AY hU;have hUl:U.length=11:=(by obtain⟨a,b,c,h, -⟩:=hU.open_;rw[h];rfl);have HU:=V3 hU;have HUl:=V3 hUl;clear hK K hU k5 hUl;clear hcl hkn;intro hcl hkn
  try simp only[nf]
  refine oN (i:=5) hcl fun K hK=>?_
  refine sW (.tmp 8) (.tmp 83) U (HR8.out w5 g5) rX ?_ (hl:=HUl.out) (h1:=hU1);intro w8 hb8 k8;refine hK _ _ kl ?_;clear hK K;clear hcl hkn;intro hcl hkn
  try simp only[nf]
  refine aD ?_;go_wp2_with fail;refine rO rX hb8 ?_ (hl:=HUl.out);exact HEND.out (Ax 0 tx (Ax 2 ty (BB 0 1))) U w5 w8 g5 k8 HU.out ((Aq (f:=0) (by decide) HGd.out.1 (Aq (f:=2) (by decide) HGd.out.2.1 E0)).more (by omega) (by omega))
 ·go_upto_region 24 with fail;refine lR 5 (Gh w z9 X Y C) (HF.out _ (VX (VU _))) fun hcl hkn=>?_
  refine C9 (i:=0) 5 hcl hkn (.tmp 5) (w.heap.size) 0 X (fun w h=>h.1) hXl fun hcl hkn=>?_
  try simp only[nf]
  refine Bg 5 _ (i:=1) rfl (by kernel_rfl) (by kernel_rfl) (by kernel_rfl) hcl hkn (by rfl) 0 rfl (by kernel_rfl) 29 (.tmp 9) rfl (z9) 0 rfl (AJ 0 1) _ (fun w h=>h.2.2.2) Tryz.underlying29 rfl AE (fun _ _ _ h=>h) rfl ?_;clear hcl hkn;intro hcl hkn
  try simp only[nf]
  refine C9 (i:=2) 5 hcl hkn (.tmp 6) (w.heap.size+1) 0 Y (fun w h=>h.2.1) hYl fun hcl hkn=>?_
  try simp only[nf]
  refine oN (i:=3) hcl fun K hK=>?_
  go_simp;refine(HBn.out 2 (BB 0 1) ty (AJ 0 1) Y _ (VX (VU _)) (HTz.out _ (VX (VU _))) (HTy.out _ (VX (VU _)))).mono ?_;rintro e4 w4 ⟨P,rfl,hP,k4⟩;have g4:A4 w3 w4:=(VX (VU w3)).trans k4;refine hK _ _ (kr (HF.out w4 g4)) ?_;have HP:=V3 hP;clear hK K hP k4;clear hcl hkn;intro hcl hkn
  try simp only[nf]
  refine oN (i:=4) hcl fun K hK=>?_
  go_simp;refine(HBn.out 0 tx (Ax 2 (BB 0 1) ty) X P _ g4 (HTx.out _ g4) HP.out).mono ?_;rintro e5 w5 ⟨U,rfl,hU,k5⟩;have g5:A4 w3 w5:=g4.trans k5;refine hK _ _ (kr (HF.out w5 g5)) ?_;have hU1:=AY hU;have hUl:U.length=11:=(by obtain⟨a,b,c,h, -⟩:=hU.open_;rw[h];rfl);have HU:=V3 hU;have HUl:=V3 hUl;clear hK K hU k5 hUl;clear hcl hkn;intro hcl hkn
  try simp only[nf]
  refine oN (i:=5) hcl fun K hK=>?_
  refine sW (.tmp 8) (.tmp 90) U (HR8.out w5 g5) rX ?_ (hl:=HUl.out) (h1:=hU1);intro w8 hb8 k8;refine hK _ _ kl ?_;clear hK K;clear hcl hkn;intro hcl hkn
  try simp only[nf]
  refine aD ?_;go_wp2_with fail;refine rO rX hb8 ?_ (hl:=HUl.out);exact HEND.out (Ax 0 tx (Ax 2 (BB 0 1) ty)) U w5 w8 g5 k8 HU.out ((Aq (f:=0) (by decide) HGd.out.1 (Aq (f:=2) (by decide) E0 HGd.out.2.1)).more (by omega) (by omega))
 ·go_upto_region 26 with fail;refine lR 5 (Gh w z9 X Y C) (HF.out _ (VX (VU _))) fun hcl hkn=>?_
  refine C9 (i:=0) 5 hcl hkn (.tmp 6) (w.heap.size+1) 0 Y (fun w h=>h.2.1) hYl fun hcl hkn=>?_
  try simp only[nf]
  refine Bg 5 _ (i:=1) rfl (by kernel_rfl) (by kernel_rfl) (by kernel_rfl) hcl hkn (by rfl) 0 rfl (by kernel_rfl) 29 (.tmp 9) rfl (z9) 0 rfl (AJ 0 1) _ (fun w h=>h.2.2.2) Tryz.underlying29 rfl AE (fun _ _ _ h=>h) rfl ?_;clear hcl hkn;intro hcl hkn
  try simp only[nf]
  refine C9 (i:=3) 5 hcl hkn (.tmp 5) (w.heap.size) 0 X (fun w h=>h.1) hXl fun hcl hkn=>?_
  try simp only[nf]
  refine oN (i:=2) hcl fun K hK=>?_
  go_simp;refine(HBn.out 2 ty (BB 0 1) Y (AJ 0 1) _ (VX (VU _)) (HTy.out _ (VX (VU _))) (HTz.out _ (VX (VU _)))).mono ?_;rintro e4 w4 ⟨P,rfl,hP,k4⟩;have g4:A4 w3 w4:=(VX (VU w3)).trans k4;refine hK _ _ (kr (HF.out w4 g4)) ?_;have HP:=V3 hP;clear hK K hP k4;clear hcl hkn;intro hcl hkn
  try simp only[nf]
  refine oN (i:=4) hcl fun K hK=>?_
  go_simp;refine(HBn.out 0 (Ax 2 ty (BB 0 1)) tx P X _ g4 HP.out (HTx.out _ g4)).mono ?_;rintro e5 w5 ⟨U,rfl,hU,k5⟩;have g5:A4 w3 w5:=g4.trans k5;refine hK _ _ (kr (HF.out w5 g5)) ?_;have hU1:=AY hU;have hUl:U.length=11:=(by obtain⟨a,b,c,h, -⟩:=hU.open_;rw[h];rfl);have HU:=V3 hU;have HUl:=V3 hUl;clear hK K hU k5 hUl;clear hcl hkn;intro hcl hkn
  try simp only[nf]
  refine oN (i:=5) hcl fun K hK=>?_
  refine sW (.tmp 8) (.tmp 97) U (HR8.out w5 g5) rX ?_ (hl:=HUl.out) (h1:=hU1);intro w8 hb8 k8;refine hK _ _ kl ?_;clear hK K;clear hcl hkn;intro hcl hkn
  try simp only[nf]
  refine aD ?_;go_wp2_with fail;refine rO rX hb8 ?_ (hl:=HUl.out);exact HEND.out (Ax 0 (Ax 2 ty (BB 0 1)) tx) U w5 w8 g5 k8 HU.out ((Aq (f:=0) (by decide) (Aq (f:=2) (by decide) HGd.out.2.1 E0) HGd.out.1).more (by omega) (by omega))
 ·go_upto_region 28 with fail;refine lR 5 (Gh w z9 X Y C) (HF.out _ (VX (VU _))) fun hcl hkn=>?_
  refine Bg 5 _ (i:=0) rfl (by kernel_rfl) (by kernel_rfl) (by kernel_rfl) hcl hkn (by rfl) 0 rfl (by kernel_rfl) 29 (.tmp 9) rfl (z9) 0 rfl (AJ 0 1) _ (fun w h=>h.2.2.2) Tryz.underlying29 rfl AE (fun _ _ _ h=>h) rfl ?_;clear hcl hkn;intro hcl hkn
  try simp only[nf]
  refine C9 (i:=1) 5 hcl hkn (.tmp 6) (w.heap.size+1) 0 Y (fun w h=>h.2.1) hYl fun hcl hkn=>?_
  try simp only[nf]
  refine C9 (i:=3) 5 hcl hkn (.tmp 5) (w.heap.size) 0 X (fun w h=>h.1) hXl fun hcl hkn=>?_
  try simp only[nf]
  refine oN (i:=2) hcl fun K hK=>?_
  go_simp;refine(HBn.out 2 (BB 0 1) ty (AJ 0 1) Y _ (VX (VU _)) (HTz.out _ (VX (VU _))) (HTy.out _ (VX (VU _)))).mono ?_;rintro e4 w4 ⟨P,rfl,hP,k4⟩;have g4:A4 w3 w4:=(VX (VU w3)).trans k4;refine hK _ _ (kr (HF.out w4 g4)) ?_;have HP:=V3 hP;clear hK K hP k4;clear hcl hkn;intro hcl hkn
  try simp only[nf]
  refine oN (i:=4) hcl fun K hK=>?_
  go_simp;refine(HBn.out 0 (Ax 2 (BB 0 1) ty) tx P X _ g4 HP.out (HTx.out _ g4)).mono ?_;rintro e5 w5 ⟨U,rfl,hU,k5⟩;have g5:A4 w3 w5:=g4.trans k5;refine hK _ _ (kr (HF.out w5 g5)) ?_;have hU1:=AY hU;have hUl:U.length=11:=(by obtain⟨a,b,c,h, -⟩:=hU.open_;rw[h];rfl);have HU:=V3 hU;have HUl:=V3 hUl;clear hK K hU k5 hUl;clear hcl hkn;intro hcl hkn
  try simp only[nf]
  refine oN (i:=5) hcl fun K hK=>?_
  refine sW (.tmp 8) (.tmp 104) U (HR8.out w5 g5) rX ?_ (hl:=HUl.out) (h1:=hU1);intro w8 hb8 k8;refine hK _ _ kl ?_;clear hK K;clear hcl hkn;intro hcl hkn
  try simp only[nf]
  refine aD ?_;go_wp2_with fail;refine rO rX hb8 ?_ (hl:=HUl.out);exact HEND.out (Ax 0 (Ax 2 (BB 0 1) ty) tx) U w5 w8 g5 k8 HU.out ((Aq (f:=0) (by decide) (Aq (f:=2) (by decide) E0 HGd.out.2.1) HGd.out.1).more (by omega) (by omega))
 ·go_upto_region 30 with fail;refine lR 5 (Gh w z9 X Y C) (HF.out _ (VX (VU _))) fun hcl hkn=>?_
  refine C9 (i:=0) 5 hcl hkn (.tmp 5) (w.heap.size) 0 X (fun w h=>h.1) hXl fun hcl hkn=>?_
  try simp only[nf]
  refine C9 (i:=1) 5 hcl hkn (.tmp 6) (w.heap.size+1) 0 Y (fun w h=>h.2.1) hYl fun hcl hkn=>?_
  try simp only[nf]
  refine Bg 5 _ (i:=2) rfl (by kernel_rfl) (by kernel_rfl) (by kernel_rfl) hcl hkn (by rfl) 0 rfl (by kernel_rfl) 29 (.tmp 9) rfl (z9) 0 rfl (AJ 0 1) _ (fun w h=>h.2.2.2) Tryz.underlying29 rfl AE (fun _ _ _ h=>h) rfl ?_;clear hcl hkn;intro hcl hkn
  try simp only[nf]
  refine oN (i:=3) hcl fun K hK=>?_
  go_simp;refine(HBn.out 2 ty (BB 0 1) Y (AJ 0 1) _ (VX (VU _)) (HTy.out _ (VX (VU _))) (HTz.out _ (VX (VU _)))).mono ?_;rintro e4 w4 ⟨P,rfl,hP,k4⟩;have g4:A4 w3 w4:=(VX (VU w3)).trans k4;refine hK _ _ (kr (HF.out w4 g4)) ?_;have HP:=V3 hP;clear hK K hP k4;clear hcl hkn;intro hcl hkn
  try simp only[nf]
  refine oN (i:=4) hcl fun K hK=>?_
  go_simp;refine(HBn.out 1 tx (Ax 2 ty (BB 0 1)) X P _ g4 (HTx.out _ g4) HP.out).mono ?_;rintro e5 w5 ⟨U,rfl,hU,k5⟩;have g5:A4 w3 w5:=g4.trans k5;refine hK _ _ (kr (HF.out w5 g5)) ?_;have hU1:=AY hU;have hUl:U.length=11:=(by obtain⟨a,b,c,h, -⟩:=hU.open_;rw[h];rfl);have HU:=V3 hU;have HUl:=V3 hUl;clear hK K hU k5 hUl;clear hcl hkn;intro hcl hkn
  try simp only[nf]
  refine oN (i:=5) hcl fun K hK=>?_
  refine sW (.tmp 8) (.tmp 111) U (HR8.out w5 g5) rX ?_ (hl:=HUl.out) (h1:=hU1);intro w8 hb8 k8;refine hK _ _ kl ?_;clear hK K;clear hcl hkn;intro hcl hkn
  try simp only[nf]
  refine aD ?_;go_wp2_with fail;refine rO rX hb8 ?_ (hl:=HUl.out);exact HEND.out (Ax 1 tx (Ax 2 ty (BB 0 1))) U w5 w8 g5 k8 HU.out ((Aq (f:=1) (by decide) HGd.out.1 (Aq (f:=2) (by decide) HGd.out.2.1 E0)).more (by omega) (by omega))
 go_upto_region 31 with fail;refine lR 5 (Gh w z9 X Y C) (HF.out _ (VX (VU _))) fun hcl hkn=>?_
 refine C9 (i:=0) 5 hcl hkn (.tmp 5) (w.heap.size) 0 X (fun w h=>h.1) hXl fun hcl hkn=>?_
 try simp only[nf]
 refine Bg 5 _ (i:=1) rfl (by kernel_rfl) (by kernel_rfl) (by kernel_rfl) hcl hkn (by rfl) 0 rfl (by kernel_rfl) 29 (.tmp 9) rfl (z9) 0 rfl (AJ 0 1) _ (fun w h=>h.2.2.2) Tryz.underlying29 rfl AE (fun _ _ _ h=>h) rfl ?_;clear hcl hkn;intro hcl hkn
 try simp only[nf]
 refine C9 (i:=2) 5 hcl hkn (.tmp 6) (w.heap.size+1) 0 Y (fun w h=>h.2.1) hYl fun hcl hkn=>?_
 try simp only[nf]
 refine oN (i:=3) hcl fun K hK=>?_
 go_simp;refine(HBn.out 2 (BB 0 1) ty (AJ 0 1) Y _ (VX (VU _)) (HTz.out _ (VX (VU _))) (HTy.out _ (VX (VU _)))).mono ?_;rintro e4 w4 ⟨P,rfl,hP,k4⟩;have g4:A4 w3 w4:=(VX (VU w3)).trans k4;refine hK _ _ (kr (HF.out w4 g4)) ?_;have HP:=V3 hP;clear hK K hP k4;clear hcl hkn;intro hcl hkn
 try simp only[nf]
 refine oN (i:=4) hcl fun K hK=>?_
 go_simp;refine(HBn.out 1 tx (Ax 2 (BB 0 1) ty) X P _ g4 (HTx.out _ g4) HP.out).mono ?_;rintro e5 w5 ⟨U,rfl,hU,k5⟩;have g5:A4 w3 w5:=g4.trans k5;refine hK _ _ (kr (HF.out w5 g5)) ?_;have hU1:=AY hU;have hUl:U.length=11:=(by obtain⟨a,b,c,h, -⟩:=hU.open_;rw[h];rfl);have HU:=V3 hU;have HUl:=V3 hUl;clear hK K hU k5 hUl;clear hcl hkn;intro hcl hkn
 try simp only[nf]
 refine oN (i:=5) hcl fun K hK=>?_
 refine sW (.tmp 8) (.tmp 116) U (HR8.out w5 g5) rX ?_ (hl:=HUl.out) (h1:=hU1);intro w8 hb8 k8;refine hK _ _ kl ?_;clear hK K;clear hcl hkn;intro hcl hkn
 try simp only[nf]
 refine aD ?_;go_wp2_with fail;refine rO rX hb8 ?_ (hl:=HUl.out);exact HEND.out (Ax 1 tx (Ax 2 (BB 0 1) ty)) U w5 w8 g5 k8 HU.out ((Aq (f:=1) (by decide) HGd.out.1 (Aq (f:=2) (by decide) E0 HGd.out.2.1)).more (by omega) (by omega))
end Go.Proofs.YthpflelgbadkcaaGreatDoor
