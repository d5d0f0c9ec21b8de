/- What the card of the law stands on: GenC, GenG. -/
import Derived.Test.YtkclnhpofkaclaaGreatDoorRewriteFoldP15
import Derived.Test.YtkclnhpofkaclaaGreatDoorRewriteFoldP01
import Derived.Test.YtkclnhpofkaclaaGreatDoorRewriteFoldP04
import Derived.Test.YtkclnhpofkaclaaGreatDoorRewriteFoldP28
import Derived.Test.YtkclnhpofkaclaaGreatDoorRewriteFoldP40
import Derived.Test.YtkclnhpofkaclaaGreatDoorRewriteFoldP27
import Derived.Test.YtkclnhpofkaclaaGreatDoorRewriteFoldP14
set_option maxRecDepth 100000
set_option maxHeartbeats 12800000
set_option linter.unusedVariables false
set_option linter.unusedSimpArgs false
namespace Go.Proofs.YtkclnhpofkaclaaGreatDoor
open Go.RowKit Pl
theorem Di:Cd 1 1 (Ay 0 1):=Ie (by decide)
def ED (S:Nat→Prop) (w:World) (b:Nat):Prop:=¬S b∧b<w.heap.size
def GB (w:World) (z9:Nat) (X Y C:List Value) (w':World):Prop:=w'.rangeAt (w.heap.size) 0 X∧w'.rangeAt (w.heap.size+1) 0 Y∧w'.rangeAt (w.heap.size+1+1) 0 C∧w'.rangeAt z9 0 (AE 0 1)
theorem Pe (S:Nat→Prop) (f:Int) (ea eb:Ex) (ca cb:List Value) (w:World) (hg:∀b,S b→b<w.heap.size) (ha:AV w (ED S w) ea ca) (hb:AV w (ED S w) eb cb):
  Calls Tryz.prog 26 #[.int .i64 f,.agg ca.toArray,.agg cb.toArray] w fun e w'=>∃cs,e= .returned (.agg cs.toArray)∧AV w' (ED S w') (Af f ea eb) cs∧A5 w w':=by
 refine(JI f ea eb ca cb w (ED S w) (fun b hb=>hb.2) ha hb).mono ?_;rintro e w' ⟨cs,rfl,h,k⟩;have hsz:=k.size;exact⟨cs,rfl,AV.keep (S:=fun _=>False) (fun b hb=>⟨by rcases hb with h|h;have:=h.2;omega;exact h.2,fun h=>h,by rcases hb with h|h;exact h.1;exact fun hS=>(by have:=hg b hS;omega),by rcases hb with h|h;have:=h.2;omega;exact h.2⟩) (Uv _) _ _ h,k⟩
theorem I8 (w:World) (g B:Nat) (v:Value) (l:List Int) (i:Nat) (N D:Nat) (hN:1≤N) (hD:1≤D) (tx ty tc:Ex) (X Y C:List Value) (h:GS w g B v l i) (hi:i≤100000) (M:Nat) (hM:g<M∧M≤w.heap.size) (hx:AV w (C9 0 M w.heap.size) tx X) (hy:AV w (C9 0 M w.heap.size) ty Y) (hc:AV w (C9 0 M w.heap.size) tc C) (gx:Cd N D tx) (gy:Cd N D ty) (gc:Cd 1 1 tc):
  Calls Tryz.prog 27 #[.pointer (some ⟨g,0,none⟩),.agg X.toArray,.agg Y.toArray,.agg C.toArray] w (EB g B v l M (3+3*N) (2+D) i 1 w):=by
 have hgl:=h.1.lt;have hXl:X.length=11:=(by obtain⟨a,b,c,h, -⟩:=hx.open_;rw[h];rfl);have hYl:Y.length=11:=(by obtain⟨a,b,c,h, -⟩:=hy.open_;rw[h];rfl);have hCl:C.length=11:=(by obtain⟨a,b,c,h, -⟩:=hc.open_;rw[h];rfl);have hb1:=Ux w 29 X.toArray;obtain⟨hb2,hb3,hb4,hG⟩:=BO (w.alloc (.cells X.toArray 29)) 29 29 29 Y.toArray C.toArray (AE 0 0).toArray;have hs0:(w.alloc (.cells X.toArray 29)).heap.size=w.heap.size+1:=by simp
 rw[hs0]at hb2 hb3 hb4;have hb1:=hb1.grew hG;have hG:=((Uv w).alloc (.cells X.toArray 29)).trans hG;have hs:((((w.alloc (.cells X.toArray 29)).alloc (.cells Y.toArray 29)).alloc (.cells C.toArray 29)).alloc (.cells (AE 0 0).toArray 29)).heap.size=w.heap.size+4:=by simp
 have HGS:=UX h;have HM:=UX hM;have HGL:=UX hgl;have HXY:=UX (UZ hx (UZ hy hc));have HGd:=UX (UZ gx (UZ gy gc));clear h hgl hx hy hc gx gy gc hs0 hM;go_enter Tryz.func27,Tryz.ntmps27;go_upto_region 1 with fail;change Code.wp _ _ _ _ ((((w.alloc (.cells X.toArray 29)).alloc (.cells Y.toArray 29)).alloc (.cells C.toArray 29)).alloc (.cells (AE 0 0).toArray 29));generalize (((w.alloc (.cells X.toArray 29)).alloc (.cells Y.toArray 29)).alloc (.cells C.toArray 29)).alloc (.cells (AE 0 0).toArray 29)=w1 at*;have HS:=UX hs;clear hs;go_upto_region 2 with(first|(refine sN (.tmp 9) (.tmp 11) (AE 0 1) (Ux w1 29 _) rX ?_ (us:=(AE 0 0));intro w2 hb9 k9 d9;have g2:A5 w1 w2:=Uw ((Uv w1).alloc _) k9 (fun i hi e=>by omega))|fail);have HNx:=UX (show Calls Tryz.prog 23 #[.pointer (some ⟨g,0,none⟩),.int .i64 15] w2 (BY g B v l i 15 w2)from BD w2 g B v l i 15 (HGS.out.grew (hG.trans g2)) hi (by decide) (by decide));have HBX:=UX (UZ (hb1.grew g2) (UZ (hb2.grew g2) (UZ (hb3.grew g2) (UZ (hb4.grew g2) (UZ hb9 (hG.trans g2))))));have HZ9:=UX (show w.heap.size+4≤w1.heap.size from Nat.le_of_eq HS.out.symm);generalize w1.heap.size=z9 at*;clear hb1 hb2 hb3 hb4 hb9 hG g2 k9 d9;go_upto_region 3 with(first|(go_at_call 23;(with_reducible refine HNx.out.mono ?_);rintro e3 w3 ⟨r,hr,rfl,hgs,k3⟩;have HG3:=UX hgs;have HK3:=UX k3;clear hgs k3));have hgl:=HGL.out;have hz9:=HZ9.out;have hkw:A4 (fun b=>b=g) w w3:=Uw (V2 HBX.out.2.2.2.2.2) HK3.out fun b hb e=>e
 have HF:=UX (show ∀w',A5 w3 w'→w'.rangeAt (w.heap.size) 0 X∧w'.rangeAt (w.heap.size+1) 0 Y∧w'.rangeAt (w.heap.size+1+1) 0 C∧w'.rangeAt z9 0 (AE 0 1)from fun w' k=>⟨((HBX.out.1.keep HK3.out (by omega)).grew k).rangeN 0 X (by simp),((HBX.out.2.1.keep HK3.out (by omega)).grew k).rangeN 0 Y (by simp),((HBX.out.2.2.1.keep HK3.out (by omega)).grew k).rangeN 0 C (by simp),((HBX.out.2.2.2.2.1.keep HK3.out (by omega)).grew k).rangeN 0 (AE 0 1) rfl⟩);have HR8:=UX (show ∀w',A5 w3 w'→AK w' (w.heap.size+1+1+1) 29 (AE 0 0).toArray from fun w' k=>(HBX.out.2.2.2.1.keep HK3.out (by omega)).grew k);have hgl3:∀b,(b<M∨b=w.heap.size+1+1+1)→b<w3.heap.size:=fun b hb=>by
  have h1:=HM.out.2;have h3:=hkw.size;have h2:=(HR8.out w3 (Uv _)).lt;omega
 have hgr:∀(w':World) (t:Ex) (cs:List Value),A5 w3 w'→AV w (C9 0 M w.heap.size) t cs→AV w' (ED (fun b=>b<M∨b=w.heap.size+1+1+1) w') t cs:=fun w' t cs k h=>AV.keep (S:=fun b=>b=g) (fun b hb=>⟨hb.2,(by have h1:=hb.1;have h2:=HM.out;omega),(by have h1:=hb.1;have h2:=hb.2;have h3:=HM.out;omega),Ub hb.2 (Ue hkw.size k.size)⟩) (Uw hkw (V2 k) fun b hb e=>e) t cs h
 have HTx:=UX (show ∀w',A5 w3 w'→AV w' (ED (fun b=>b<M∨b=w.heap.size+1+1+1) w') tx X from fun w' k=>hgr w' tx X k HXY.out.1);have HTy:=UX (show ∀w',A5 w3 w'→AV w' (ED (fun b=>b<M∨b=w.heap.size+1+1+1) w') ty Y from fun w' k=>hgr w' ty Y k HXY.out.2.1);have HTc:=UX (show ∀w',A5 w3 w'→AV w' (ED (fun b=>b<M∨b=w.heap.size+1+1+1) w') tc C from fun w' k=>hgr w' tc C k HXY.out.2.2);have HTz:=UX (show ∀w',A5 w3 w'→AV w' (ED (fun b=>b<M∨b=w.heap.size+1+1+1) w') (Ay 0 1) (AE 0 1)from fun w' k=>FQ _ _ _ _);have HBn:=UX (fun(f:Int) (ea eb:Ex) (ca cb:List Value) (w':World) (k:A5 w3 w')=>Pe (fun b=>b<M∨b=w.heap.size+1+1+1) f ea eb ca cb w' (fun b hb=>Ub (hgl3 b hb) k.size));have HEND:=UX (show ∀(t:Ex) (U:List Value) (w5 w8:World),A5 w3 w5→A4 (fun b=>b=w.heap.size+1+1+1) w5 w8→AV w5 (ED (fun b=>b<M∨b=w.heap.size+1+1+1) w5) t U→Cd (3+3*N) (2+D) t→EB g B v l M (3+3*N) (2+D) i 1 w (.returned (.agg U.toArray)) w8 from fun t U w5 w8 k5 k8 hU hgd=>by
  have hgs5:=HG3.out.grew k5;exact⟨t,U,i+1,rfl,AV.keep (S:=fun b=>b=w.heap.size+1+1+1) (fun b hb=>⟨hb.2,fun e=>hb.1 (.inr e),.inr (Nat.le_of_not_lt fun e=>hb.1 (.inl e)),Ub hb.2 k8.size⟩) k8 _ _ hU,hgd,⟨hgs5.1.keep k8 (by omega),hgs5.2.1.keep (by have:=hgs5.2.2.1;have:=hgs5.1.lt;omega) k8 (fun b hb e=>by have:=hgs5.2.2.1;omega),hgs5.2.2⟩,Ua _,Uw (Uw hkw (V2 k5) fun b hb e=>e) k8 fun b hb e=>by omega⟩)
 clear hgl hz9 hkw hgl3 hgr HXY HBX HNx HZ9 HS HGS;have hcase:r=0∨r=1∨r=2∨r=3∨r=4∨r=5∨r=6∨r=7∨r=8∨r=9∨r=10∨r=11∨r=12∨r=13∨r=14:=by omega
 clear hr;rcases hcase with rfl|rfl|rfl|rfl|rfl|rfl|rfl|rfl|rfl|rfl|rfl|rfl|rfl|rfl|rfl
 ·go_upto_region 4 with fail;refine lR 5 (GB w z9 X Y C) (HF.out _ (Uy (Uv _))) fun hcl hkn=>?_
  refine Bu (i:=0) 5 hcl hkn (.tmp 5) (w.heap.size) 0 X (fun w h=>h.1) hXl fun hcl hkn=>?_
  try simp only[nf]
  refine Bu (i:=1) 5 hcl hkn (.tmp 6) (w.heap.size+1) 0 Y (fun w h=>h.2.1) hYl fun hcl hkn=>?_
  try simp only[nf]
  refine Bu (i:=3) 5 hcl hkn (.tmp 6) (w.heap.size+1) 0 Y (fun w h=>h.2.1) hYl fun hcl hkn=>?_
  try simp only[nf]
  refine oN (i:=2) hcl fun K hK=>?_
  go_simp;refine(HBn.out 0 tx ty X Y _ (Uy (Uv _)) (HTx.out _ (Uy (Uv _))) (HTy.out _ (Uy (Uv _)))).mono ?_;rintro e4 w4 ⟨P,rfl,hP,k4⟩;have g4:A5 w3 w4:=(Uy (Uv w3)).trans k4;refine hK _ _ (kr (HF.out w4 g4)) ?_;have HP:=UX hP;clear hK K hP k4;clear hcl hkn;intro hcl hkn
  try simp only[nf]
  refine oN (i:=4) hcl fun K hK=>?_
  go_simp;refine(HBn.out 1 (Af 0 tx ty) ty P Y _ g4 HP.out (HTy.out _ g4)).mono ?_;rintro e5 w5 ⟨U,rfl,hU,k5⟩;have g5:A5 w3 w5:=g4.trans k5;refine hK _ _ (kr (HF.out w5 g5)) ?_;have hU1:=AP hU;have hUl:U.length=11:=(by obtain⟨a,b,c,h, -⟩:=hU.open_;rw[h];rfl);have HU:=UX hU;have HUl:=UX hUl;clear hK K hU k5 hUl;clear hcl hkn;intro hcl hkn
  try simp only[nf]
  refine oN (i:=5) hcl fun K hK=>?_
  refine sW (.tmp 8) (.tmp 20) U (HR8.out w5 g5) rX ?_ (hl:=HUl.out) (h1:=hU1);intro w8 hb8 k8;refine hK _ _ kl ?_;clear hK K;clear hcl hkn;intro hcl hkn
  try simp only[nf]
  refine aD ?_;go_wp2_with fail;refine rO rX hb8 ?_ (hl:=HUl.out);exact HEND.out (Af 1 (Af 0 tx ty) ty) U w5 w8 g5 k8 HU.out ((Ac (f:=1) (by decide) (Ac (f:=0) (by decide) HGd.out.1 HGd.out.2.1) HGd.out.2.1).more (by omega) (by omega))
 ·go_upto_region 6 with fail;refine lR 5 (GB w z9 X Y C) (HF.out _ (Uy (Uv _))) fun hcl hkn=>?_
  refine Bu (i:=0) 5 hcl hkn (.tmp 6) (w.heap.size+1) 0 Y (fun w h=>h.2.1) hYl fun hcl hkn=>?_
  try simp only[nf]
  refine Bu (i:=1) 5 hcl hkn (.tmp 5) (w.heap.size) 0 X (fun w h=>h.1) hXl fun hcl hkn=>?_
  try simp only[nf]
  refine Bu (i:=3) 5 hcl hkn (.tmp 6) (w.heap.size+1) 0 Y (fun w h=>h.2.1) hYl fun hcl hkn=>?_
  try simp only[nf]
  refine oN (i:=2) hcl fun K hK=>?_
  go_simp;refine(HBn.out 0 ty tx Y X _ (Uy (Uv _)) (HTy.out _ (Uy (Uv _))) (HTx.out _ (Uy (Uv _)))).mono ?_;rintro e4 w4 ⟨P,rfl,hP,k4⟩;have g4:A5 w3 w4:=(Uy (Uv w3)).trans k4;refine hK _ _ (kr (HF.out w4 g4)) ?_;have HP:=UX hP;clear hK K hP k4;clear hcl hkn;intro hcl hkn
  try simp only[nf]
  refine oN (i:=4) hcl fun K hK=>?_
  go_simp;refine(HBn.out 1 (Af 0 ty tx) ty P Y _ g4 HP.out (HTy.out _ g4)).mono ?_;rintro e5 w5 ⟨U,rfl,hU,k5⟩;have g5:A5 w3 w5:=g4.trans k5;refine hK _ _ (kr (HF.out w5 g5)) ?_;have hU1:=AP hU;have hUl:U.length=11:=(by obtain⟨a,b,c,h, -⟩:=hU.open_;rw[h];rfl);have HU:=UX hU;have HUl:=UX hUl;clear hK K hU k5 hUl;clear hcl hkn;intro hcl hkn
  try simp only[nf]
  refine oN (i:=5) hcl fun K hK=>?_
  refine sW (.tmp 8) (.tmp 27) U (HR8.out w5 g5) rX ?_ (hl:=HUl.out) (h1:=hU1);intro w8 hb8 k8;refine hK _ _ kl ?_;clear hK K;clear hcl hkn;intro hcl hkn
  try simp only[nf]
  refine aD ?_;go_wp2_with fail;refine rO rX hb8 ?_ (hl:=HUl.out);exact HEND.out (Af 1 (Af 0 ty tx) ty) U w5 w8 g5 k8 HU.out ((Ac (f:=1) (by decide) (Ac (f:=0) (by decide) HGd.out.2.1 HGd.out.1) HGd.out.2.1).more (by omega) (by omega))
 ·go_upto_region 8 with fail;refine lR 5 (GB w z9 X Y C) (HF.out _ (Uy (Uv _))) fun hcl hkn=>?_
  refine Bu (i:=0) 5 hcl hkn (.tmp 5) (w.heap.size) 0 X (fun w h=>h.1) hXl fun hcl hkn=>?_
  try simp only[nf]
  refine Bu (i:=1) 5 hcl hkn (.tmp 6) (w.heap.size+1) 0 Y (fun w h=>h.2.1) hYl fun hcl hkn=>?_
  try simp only[nf]
  refine Bu (i:=3) 5 hcl hkn (.tmp 6) (w.heap.size+1) 0 Y (fun w h=>h.2.1) hYl fun hcl hkn=>?_
  try simp only[nf]
  refine oN (i:=2) hcl fun K hK=>?_
  go_simp;refine(HBn.out 1 tx ty X Y _ (Uy (Uv _)) (HTx.out _ (Uy (Uv _))) (HTy.out _ (Uy (Uv _)))).mono ?_;rintro e4 w4 ⟨P,rfl,hP,k4⟩;have g4:A5 w3 w4:=(Uy (Uv w3)).trans k4;refine hK _ _ (kr (HF.out w4 g4)) ?_;have HP:=UX hP;clear hK K hP k4;clear hcl hkn;intro hcl hkn
  try simp only[nf]
  refine oN (i:=4) hcl fun K hK=>?_
  go_simp;refine(HBn.out 0 (Af 1 tx ty) ty P Y _ g4 HP.out (HTy.out _ g4)).mono ?_;rintro e5 w5 ⟨U,rfl,hU,k5⟩;have g5:A5 w3 w5:=g4.trans k5;refine hK _ _ (kr (HF.out w5 g5)) ?_;have hU1:=AP hU;have hUl:U.length=11:=(by obtain⟨a,b,c,h, -⟩:=hU.open_;rw[h];rfl);have HU:=UX hU;have HUl:=UX hUl;clear hK K hU k5 hUl;clear hcl hkn;intro hcl hkn
  try simp only[nf]
  refine oN (i:=5) hcl fun K hK=>?_
  refine sW (.tmp 8) (.tmp 34) U (HR8.out w5 g5) rX ?_ (hl:=HUl.out) (h1:=hU1);intro w8 hb8 k8;refine hK _ _ kl ?_;clear hK K;clear hcl hkn;intro hcl hkn
  try simp only[nf]
  refine aD ?_;go_wp2_with fail;refine rO rX hb8 ?_ (hl:=HUl.out);exact HEND.out (Af 0 (Af 1 tx ty) ty) U w5 w8 g5 k8 HU.out ((Ac (f:=0) (by decide) (Ac (f:=1) (by decide) HGd.out.1 HGd.out.2.1) HGd.out.2.1).more (by omega) (by omega))
 ·go_upto_region 10 with fail;refine lR 5 (GB w z9 X Y C) (HF.out _ (Uy (Uv _))) fun hcl hkn=>?_
  refine Bu (i:=0) 5 hcl hkn (.tmp 6) (w.heap.size+1) 0 Y (fun w h=>h.2.1) hYl fun hcl hkn=>?_
  try simp only[nf]
  refine Bu (i:=1) 5 hcl hkn (.tmp 5) (w.heap.size) 0 X (fun w h=>h.1) hXl fun hcl hkn=>?_
  try simp only[nf]
  refine Bu (i:=2) 5 hcl hkn (.tmp 6) (w.heap.size+1) 0 Y (fun w h=>h.2.1) hYl fun hcl hkn=>?_
  try simp only[nf]
  refine oN (i:=3) hcl fun K hK=>?_
  go_simp;refine(HBn.out 1 tx ty X Y _ (Uy (Uv _)) (HTx.out _ (Uy (Uv _))) (HTy.out _ (Uy (Uv _)))).mono ?_;rintro e4 w4 ⟨P,rfl,hP,k4⟩;have g4:A5 w3 w4:=(Uy (Uv w3)).trans k4;refine hK _ _ (kr (HF.out w4 g4)) ?_;have HP:=UX hP;clear hK K hP k4;clear hcl hkn;intro hcl hkn
  try simp only[nf]
  refine oN (i:=4) hcl fun K hK=>?_
  go_simp;refine(HBn.out 0 ty (Af 1 tx ty) Y P _ g4 (HTy.out _ g4) HP.out).mono ?_;rintro e5 w5 ⟨U,rfl,hU,k5⟩;have g5:A5 w3 w5:=g4.trans k5;refine hK _ _ (kr (HF.out w5 g5)) ?_;have hU1:=AP hU;have hUl:U.length=11:=(by obtain⟨a,b,c,h, -⟩:=hU.open_;rw[h];rfl);have HU:=UX hU;have HUl:=UX hUl;clear hK K hU k5 hUl;clear hcl hkn;intro hcl hkn
  try simp only[nf]
  refine oN (i:=5) hcl fun K hK=>?_
  refine sW (.tmp 8) (.tmp 41) U (HR8.out w5 g5) rX ?_ (hl:=HUl.out) (h1:=hU1);intro w8 hb8 k8;refine hK _ _ kl ?_;clear hK K;clear hcl hkn;intro hcl hkn
  try simp only[nf]
  refine aD ?_;go_wp2_with fail;refine rO rX hb8 ?_ (hl:=HUl.out);exact HEND.out (Af 0 ty (Af 1 tx ty)) U w5 w8 g5 k8 HU.out ((Ac (f:=0) (by decide) HGd.out.2.1 (Ac (f:=1) (by decide) HGd.out.1 HGd.out.2.1)).more (by omega) (by omega))
 ·go_upto_region 12 with fail;refine lR 5 (GB w z9 X Y C) (HF.out _ (Uy (Uv _))) fun hcl hkn=>?_
  refine Bu (i:=0) 5 hcl hkn (.tmp 6) (w.heap.size+1) 0 Y (fun w h=>h.2.1) hYl fun hcl hkn=>?_
  try simp only[nf]
  refine Bu (i:=1) 5 hcl hkn (.tmp 6) (w.heap.size+1) 0 Y (fun w h=>h.2.1) hYl fun hcl hkn=>?_
  try simp only[nf]
  refine Bu (i:=2) 5 hcl hkn (.tmp 5) (w.heap.size) 0 X (fun w h=>h.1) hXl fun hcl hkn=>?_
  try simp only[nf]
  refine oN (i:=3) hcl fun K hK=>?_
  go_simp;refine(HBn.out 1 ty tx Y X _ (Uy (Uv _)) (HTy.out _ (Uy (Uv _))) (HTx.out _ (Uy (Uv _)))).mono ?_;rintro e4 w4 ⟨P,rfl,hP,k4⟩;have g4:A5 w3 w4:=(Uy (Uv w3)).trans k4;refine hK _ _ (kr (HF.out w4 g4)) ?_;have HP:=UX hP;clear hK K hP k4;clear hcl hkn;intro hcl hkn
  try simp only[nf]
  refine oN (i:=4) hcl fun K hK=>?_
  go_simp;refine(HBn.out 1 ty (Af 1 ty tx) Y P _ g4 (HTy.out _ g4) HP.out).mono ?_;rintro e5 w5 ⟨U,rfl,hU,k5⟩;have g5:A5 w3 w5:=g4.trans k5;refine hK _ _ (kr (HF.out w5 g5)) ?_;have hU1:=AP hU;have hUl:U.length=11:=(by obtain⟨a,b,c,h, -⟩:=hU.open_;rw[h];rfl);have HU:=UX hU;have HUl:=UX hUl;clear hK K hU k5 hUl;clear hcl hkn;intro hcl hkn
  try simp only[nf]
  refine oN (i:=5) hcl fun K hK=>?_
  refine sW (.tmp 8) (.tmp 48) U (HR8.out w5 g5) rX ?_ (hl:=HUl.out) (h1:=hU1);intro w8 hb8 k8;refine hK _ _ kl ?_;clear hK K;clear hcl hkn;intro hcl hkn
  try simp only[nf]
  refine aD ?_;go_wp2_with fail;refine rO rX hb8 ?_ (hl:=HUl.out);exact HEND.out (Af 1 ty (Af 1 ty tx)) U w5 w8 g5 k8 HU.out ((Ac (f:=1) (by decide) HGd.out.2.1 (Ac (f:=1) (by decide) HGd.out.2.1 HGd.out.1)).more (by omega) (by omega))
 ·go_upto_region 14 with fail;refine lR 5 (GB w z9 X Y C) (HF.out _ (Uy (Uv _))) fun hcl hkn=>?_
  refine Bu (i:=0) 5 hcl hkn (.tmp 5) (w.heap.size) 0 X (fun w h=>h.1) hXl fun hcl hkn=>?_
  try simp only[nf]
  refine Bu (i:=1) 5 hcl hkn (.tmp 7) (w.heap.size+1+1) 0 C (fun w h=>h.2.2.1) hCl fun hcl hkn=>?_
  try simp only[nf]
  refine Bu (i:=3) 5 hcl hkn (.tmp 7) (w.heap.size+1+1) 0 C (fun w h=>h.2.2.1) hCl fun hcl hkn=>?_
  try simp only[nf]
  refine oN (i:=2) hcl fun K hK=>?_
  go_simp;refine(HBn.out 2 tx tc X C _ (Uy (Uv _)) (HTx.out _ (Uy (Uv _))) (HTc.out _ (Uy (Uv _)))).mono ?_;rintro e4 w4 ⟨P,rfl,hP,k4⟩;have g4:A5 w3 w4:=(Uy (Uv w3)).trans k4;refine hK _ _ (kr (HF.out w4 g4)) ?_;have HP:=UX hP;clear hK K hP k4;clear hcl hkn;intro hcl hkn
  try simp only[nf]
  refine oN (i:=4) hcl fun K hK=>?_
  go_simp;refine(HBn.out 3 (Af 2 tx tc) tc P C _ g4 HP.out (HTc.out _ g4)).mono ?_;rintro e5 w5 ⟨U,rfl,hU,k5⟩;have g5:A5 w3 w5:=g4.trans k5;refine hK _ _ (kr (HF.out w5 g5)) ?_;have hU1:=AP hU;have hUl:U.length=11:=(by obtain⟨a,b,c,h, -⟩:=hU.open_;rw[h];rfl);have HU:=UX hU;have HUl:=UX hUl;clear hK K hU k5 hUl;clear hcl hkn;intro hcl hkn
  try simp only[nf]
  refine oN (i:=5) hcl fun K hK=>?_
  refine sW (.tmp 8) (.tmp 55) U (HR8.out w5 g5) rX ?_ (hl:=HUl.out) (h1:=hU1);intro w8 hb8 k8;refine hK _ _ kl ?_;clear hK K;clear hcl hkn;intro hcl hkn
  try simp only[nf]
  refine aD ?_;go_wp2_with fail;refine rO rX hb8 ?_ (hl:=HUl.out);exact HEND.out (Af 3 (Af 2 tx tc) tc) U w5 w8 g5 k8 HU.out ((Ac (f:=3) (by decide) (Ac (f:=2) (by decide) HGd.out.1 HGd.out.2.2) HGd.out.2.2).more (by omega) (by omega))
 ·go_upto_region 16 with fail;refine lR 5 (GB w z9 X Y C) (HF.out _ (Uy (Uv _))) fun hcl hkn=>?_
  refine Bu (i:=0) 5 hcl hkn (.tmp 7) (w.heap.size+1+1) 0 C (fun w h=>h.2.2.1) hCl fun hcl hkn=>?_
  try simp only[nf]
  refine Bu (i:=1) 5 hcl hkn (.tmp 5) (w.heap.size) 0 X (fun w h=>h.1) hXl fun hcl hkn=>?_
  try simp only[nf]
  refine Bu (i:=3) 5 hcl hkn (.tmp 7) (w.heap.size+1+1) 0 C (fun w h=>h.2.2.1) hCl fun hcl hkn=>?_
  try simp only[nf]
  refine oN (i:=2) hcl fun K hK=>?_
  go_simp;refine(HBn.out 2 tc tx C X _ (Uy (Uv _)) (HTc.out _ (Uy (Uv _))) (HTx.out _ (Uy (Uv _)))).mono ?_;rintro e4 w4 ⟨P,rfl,hP,k4⟩;have g4:A5 w3 w4:=(Uy (Uv w3)).trans k4;refine hK _ _ (kr (HF.out w4 g4)) ?_;have HP:=UX hP;clear hK K hP k4;clear hcl hkn;intro hcl hkn
  try simp only[nf]
  refine oN (i:=4) hcl fun K hK=>?_
  go_simp;refine(HBn.out 3 (Af 2 tc tx) tc P C _ g4 HP.out (HTc.out _ g4)).mono ?_;rintro e5 w5 ⟨U,rfl,hU,k5⟩;have g5:A5 w3 w5:=g4.trans k5;refine hK _ _ (kr (HF.out w5 g5)) ?_;have hU1:=AP hU;have hUl:U.length=11:=(by obtain⟨a,b,c,h, -⟩:=hU.open_;rw[h];rfl);have HU:=UX hU;have HUl:=UX hUl;clear hK K hU k5 hUl;clear hcl hkn;intro hcl hkn
  try simp only[nf]
  refine oN (i:=5) hcl fun K hK=>?_
  refine sW (.tmp 8) (.tmp 62) U (HR8.out w5 g5) rX ?_ (hl:=HUl.out) (h1:=hU1);intro w8 hb8 k8;refine hK _ _ kl ?_;clear hK K;clear hcl hkn;intro hcl hkn
  try simp only[nf]
  refine aD ?_;go_wp2_with fail;refine rO rX hb8 ?_ (hl:=HUl.out);exact HEND.out (Af 3 (Af 2 tc tx) tc) U w5 w8 g5 k8 HU.out ((Ac (f:=3) (by decide) (Ac (f:=2) (by decide) HGd.out.2.2 HGd.out.1) HGd.out.2.2).more (by omega) (by omega))
 ·go_upto_region 18 with fail;refine lR 5 (GB w z9 X Y C) (HF.out _ (Uy (Uv _))) fun hcl hkn=>?_
  refine Bu (i:=0) 5 hcl hkn (.tmp 5) (w.heap.size) 0 X (fun w h=>h.1) hXl fun hcl hkn=>?_
  try simp only[nf]
  refine Bu (i:=1) 5 hcl hkn (.tmp 7) (w.heap.size+1+1) 0 C (fun w h=>h.2.2.1) hCl fun hcl hkn=>?_
  try simp only[nf]
  refine Bu (i:=3) 5 hcl hkn (.tmp 7) (w.heap.size+1+1) 0 C (fun w h=>h.2.2.1) hCl fun hcl hkn=>?_
  try simp only[nf]
  refine oN (i:=2) hcl fun K hK=>?_
  go_simp;refine(HBn.out 3 tx tc X C _ (Uy (Uv _)) (HTx.out _ (Uy (Uv _))) (HTc.out _ (Uy (Uv _)))).mono ?_;rintro e4 w4 ⟨P,rfl,hP,k4⟩;have g4:A5 w3 w4:=(Uy (Uv w3)).trans k4;refine hK _ _ (kr (HF.out w4 g4)) ?_;have HP:=UX hP;clear hK K hP k4;clear hcl hkn;intro hcl hkn
  try simp only[nf]
  refine oN (i:=4) hcl fun K hK=>?_
  go_simp;refine(HBn.out 2 (Af 3 tx tc) tc P C _ g4 HP.out (HTc.out _ g4)).mono ?_;rintro e5 w5 ⟨U,rfl,hU,k5⟩;have g5:A5 w3 w5:=g4.trans k5;refine hK _ _ (kr (HF.out w5 g5)) ?_;have hU1:=AP hU;have hUl:U.length=11:=(by obtain⟨a,b,c,h, -⟩:=hU.open_;rw[h];rfl);have HU:=UX hU;have HUl:=UX hUl;clear hK K hU k5 hUl;clear hcl hkn;intro hcl hkn
  try simp only[nf]
  refine oN (i:=5) hcl fun K hK=>?_
  refine sW (.tmp 8) (.tmp 69) U (HR8.out w5 g5) rX ?_ (hl:=HUl.out) (h1:=hU1);intro w8 hb8 k8;refine hK _ _ kl ?_;clear hK K;clear hcl hkn;intro hcl hkn
  try simp only[nf]
  refine aD ?_;go_wp2_with fail;refine rO rX hb8 ?_ (hl:=HUl.out);exact HEND.out (Af 2 (Af 3 tx tc) tc) U w5 w8 g5 k8 HU.out ((Ac (f:=2) (by decide) (Ac (f:=3) (by decide) HGd.out.1 HGd.out.2.2) HGd.out.2.2).more (by omega) (by omega))
 ·go_upto_region 20 with fail;refine lR 5 (GB w z9 X Y C) (HF.out _ (Uy (Uv _))) fun hcl hkn=>?_
  refine Bu (i:=0) 5 hcl hkn (.tmp 7) (w.heap.size+1+1) 0 C (fun w h=>h.2.2.1) hCl fun hcl hkn=>?_
  try simp only[nf]
  refine Bu (i:=1) 5 hcl hkn (.tmp 5) (w.heap.size) 0 X (fun w h=>h.1) hXl fun hcl hkn=>?_
  try simp only[nf]
  refine Bu (i:=2) 5 hcl hkn (.tmp 7) (w.heap.size+1+1) 0 C (fun w h=>h.2.2.1) hCl fun hcl hkn=>?_
  try simp only[nf]
  refine oN (i:=3) hcl fun K hK=>?_
  go_simp;refine(HBn.out 3 tx tc X C _ (Uy (Uv _)) (HTx.out _ (Uy (Uv _))) (HTc.out _ (Uy (Uv _)))).mono ?_;rintro e4 w4 ⟨P,rfl,hP,k4⟩;have g4:A5 w3 w4:=(Uy (Uv w3)).trans k4;refine hK _ _ (kr (HF.out w4 g4)) ?_;have HP:=UX hP;clear hK K hP k4;clear hcl hkn;intro hcl hkn
  try simp only[nf]
  refine oN (i:=4) hcl fun K hK=>?_
  go_simp;refine(HBn.out 2 tc (Af 3 tx tc) C P _ g4 (HTc.out _ g4) HP.out).mono ?_;rintro e5 w5 ⟨U,rfl,hU,k5⟩;have g5:A5 w3 w5:=g4.trans k5;refine hK _ _ (kr (HF.out w5 g5)) ?_;have hU1:=AP hU;have hUl:U.length=11:=(by obtain⟨a,b,c,h, -⟩:=hU.open_;rw[h];rfl);have HU:=UX hU;have HUl:=UX hUl;clear hK K hU k5 hUl;clear hcl hkn;intro hcl hkn
  try simp only[nf]
  refine oN (i:=5) hcl fun K hK=>?_
  refine sW (.tmp 8) (.tmp 76) U (HR8.out w5 g5) rX ?_ (hl:=HUl.out) (h1:=hU1);intro w8 hb8 k8;refine hK _ _ kl ?_;clear hK K;clear hcl hkn;intro hcl hkn
  try simp only[nf]
  refine aD ?_;go_wp2_with fail;refine rO rX hb8 ?_ (hl:=HUl.out);exact HEND.out (Af 2 tc (Af 3 tx tc)) U w5 w8 g5 k8 HU.out ((Ac (f:=2) (by decide) HGd.out.2.2 (Ac (f:=3) (by decide) HGd.out.1 HGd.out.2.2)).more (by omega) (by omega))
 ·go_upto_region 22 with fail;refine lR 5 (GB w z9 X Y C) (HF.out _ (Uy (Uv _))) fun hcl hkn=>?_
  refine Bu (i:=0) 5 hcl hkn (.tmp 5) (w.heap.size) 0 X (fun w h=>h.1) hXl fun hcl hkn=>?_
  try simp only[nf]
  refine Bu (i:=1) 5 hcl hkn (.tmp 6) (w.heap.size+1) 0 Y (fun w h=>h.2.1) hYl fun hcl hkn=>?_
  try simp only[nf]
  refine DG 5 _ (i:=2) rfl (by kernel_rfl) (by kernel_rfl) (by kernel_rfl) hcl hkn (by rfl) 0 rfl (by kernel_rfl) 29 (.tmp 9) rfl (z9) 0 rfl (AE 0 1) _ (fun w h=>h.2.2.2) Tryz.underlying29 rfl Bd (fun _ _ _ h=>h) rfl ?_;clear hcl hkn;intro hcl hkn
  try simp only[nf]
  refine oN (i:=3) hcl fun K hK=>?_
  go_simp;refine(HBn.out 2 ty (Ay 0 1) Y (AE 0 1) _ (Uy (Uv _)) (HTy.out _ (Uy (Uv _))) (HTz.out _ (Uy (Uv _)))).mono ?_;rintro e4 w4 ⟨P,rfl,hP,k4⟩;have g4:A5 w3 w4:=(Uy (Uv w3)).trans k4;refine hK _ _ (kr (HF.out w4 g4)) ?_;have HP:=UX hP;clear hK K hP k4;clear hcl hkn;intro hcl hkn
  try simp only[nf]
  refine oN (i:=4) hcl fun K hK=>?_
  go_simp;refine(HBn.out 0 tx (Af 2 ty (Ay 0 1)) X P _ g4 (HTx.out _ g4) HP.out).mono ?_;rintro e5 w5 ⟨U,rfl,hU,k5⟩;have g5:A5 w3 w5:=g4.trans k5;refine hK _ _ (kr (HF.out w5 g5)) ?_;have hU1:=AP hU;have hUl:U.length=11:=(by obtain⟨a,b,c,h, -⟩:=hU.open_;rw[h];rfl);have HU:=UX hU;have HUl:=UX hUl;clear hK K hU k5 hUl;clear hcl hkn;intro hcl hkn
  try simp only[nf]
  refine oN (i:=5) hcl fun K hK=>?_
  refine sW (.tmp 8) (.tmp 83) U (HR8.out w5 g5) rX ?_ (hl:=HUl.out) (h1:=hU1);intro w8 hb8 k8;refine hK _ _ kl ?_;clear hK K;clear hcl hkn;intro hcl hkn
  try simp only[nf]
  refine aD ?_;go_wp2_with fail;refine rO rX hb8 ?_ (hl:=HUl.out);exact HEND.out (Af 0 tx (Af 2 ty (Ay 0 1))) U w5 w8 g5 k8 HU.out ((Ac (f:=0) (by decide) HGd.out.1 (Ac (f:=2) (by decide) HGd.out.2.1 Di)).more (by omega) (by omega))
 ·go_upto_region 24 with fail;refine lR 5 (GB w z9 X Y C) (HF.out _ (Uy (Uv _))) fun hcl hkn=>?_
  refine Bu (i:=0) 5 hcl hkn (.tmp 5) (w.heap.size) 0 X (fun w h=>h.1) hXl fun hcl hkn=>?_
  try simp only[nf]
  refine DG 5 _ (i:=1) rfl (by kernel_rfl) (by kernel_rfl) (by kernel_rfl) hcl hkn (by rfl) 0 rfl (by kernel_rfl) 29 (.tmp 9) rfl (z9) 0 rfl (AE 0 1) _ (fun w h=>h.2.2.2) Tryz.underlying29 rfl Bd (fun _ _ _ h=>h) rfl ?_;clear hcl hkn;intro hcl hkn
  try simp only[nf]
  refine Bu (i:=2) 5 hcl hkn (.tmp 6) (w.heap.size+1) 0 Y (fun w h=>h.2.1) hYl fun hcl hkn=>?_
  try simp only[nf]
  refine oN (i:=3) hcl fun K hK=>?_
  go_simp;refine(HBn.out 2 (Ay 0 1) ty (AE 0 1) Y _ (Uy (Uv _)) (HTz.out _ (Uy (Uv _))) (HTy.out _ (Uy (Uv _)))).mono ?_;rintro e4 w4 ⟨P,rfl,hP,k4⟩;have g4:A5 w3 w4:=(Uy (Uv w3)).trans k4;refine hK _ _ (kr (HF.out w4 g4)) ?_;have HP:=UX hP;clear hK K hP k4;clear hcl hkn;intro hcl hkn
  try simp only[nf]
  refine oN (i:=4) hcl fun K hK=>?_
  go_simp;refine(HBn.out 0 tx (Af 2 (Ay 0 1) ty) X P _ g4 (HTx.out _ g4) HP.out).mono ?_;rintro e5 w5 ⟨U,rfl,hU,k5⟩;have g5:A5 w3 w5:=g4.trans k5;refine hK _ _ (kr (HF.out w5 g5)) ?_;have hU1:=AP hU;have hUl:U.length=11:=(by obtain⟨a,b,c,h, -⟩:=hU.open_;rw[h];rfl);have HU:=UX hU;have HUl:=UX hUl;clear hK K hU k5 hUl;clear hcl hkn;intro hcl hkn
  try simp only[nf]
  refine oN (i:=5) hcl fun K hK=>?_
  refine sW (.tmp 8) (.tmp 90) U (HR8.out w5 g5) rX ?_ (hl:=HUl.out) (h1:=hU1);intro w8 hb8 k8;refine hK _ _ kl ?_;clear hK K;clear hcl hkn;intro hcl hkn
  try simp only[nf]
  refine aD ?_;go_wp2_with fail;refine rO rX hb8 ?_ (hl:=HUl.out);exact HEND.out (Af 0 tx (Af 2 (Ay 0 1) ty)) U w5 w8 g5 k8 HU.out ((Ac (f:=0) (by decide) HGd.out.1 (Ac (f:=2) (by decide) Di HGd.out.2.1)).more (by omega) (by omega))
 ·go_upto_region 26 with fail;refine lR 5 (GB w z9 X Y C) (HF.out _ (Uy (Uv _))) fun hcl hkn=>?_
  refine Bu (i:=0) 5 hcl hkn (.tmp 6) (w.heap.size+1) 0 Y (fun w h=>h.2.1) hYl fun hcl hkn=>?_
  try simp only[nf]
  refine DG 5 _ (i:=1) rfl (by kernel_rfl) (by kernel_rfl) (by kernel_rfl) hcl hkn (by rfl) 0 rfl (by kernel_rfl) 29 (.tmp 9) rfl (z9) 0 rfl (AE 0 1) _ (fun w h=>h.2.2.2) Tryz.underlying29 rfl Bd (fun _ _ _ h=>h) rfl ?_;clear hcl hkn;intro hcl hkn
  try simp only[nf]
  refine Bu (i:=3) 5 hcl hkn (.tmp 5) (w.heap.size) 0 X (fun w h=>h.1) hXl fun hcl hkn=>?_
  try simp only[nf]
  refine oN (i:=2) hcl fun K hK=>?_
  go_simp;refine(HBn.out 2 ty (Ay 0 1) Y (AE 0 1) _ (Uy (Uv _)) (HTy.out _ (Uy (Uv _))) (HTz.out _ (Uy (Uv _)))).mono ?_;rintro e4 w4 ⟨P,rfl,hP,k4⟩;have g4:A5 w3 w4:=(Uy (Uv w3)).trans k4;refine hK _ _ (kr (HF.out w4 g4)) ?_;have HP:=UX hP;clear hK K hP k4;clear hcl hkn;intro hcl hkn
  try simp only[nf]
  refine oN (i:=4) hcl fun K hK=>?_
  go_simp;refine(HBn.out 0 (Af 2 ty (Ay 0 1)) tx P X _ g4 HP.out (HTx.out _ g4)).mono ?_;rintro e5 w5 ⟨U,rfl,hU,k5⟩;have g5:A5 w3 w5:=g4.trans k5;refine hK _ _ (kr (HF.out w5 g5)) ?_;have hU1:=AP hU;have hUl:U.length=11:=(by obtain⟨a,b,c,h, -⟩:=hU.open_;rw[h];rfl);have HU:=UX hU;have HUl:=UX hUl;clear hK K hU k5 hUl;clear hcl hkn;intro hcl hkn
  try simp only[nf]
  refine oN (i:=5) hcl fun K hK=>?_
  refine sW (.tmp 8) (.tmp 97) U (HR8.out w5 g5) rX ?_ (hl:=HUl.out) (h1:=hU1);intro w8 hb8 k8;refine hK _ _ kl ?_;clear hK K;clear hcl hkn;intro hcl hkn
  try simp only[nf]
  refine aD ?_;go_wp2_with fail;refine rO rX hb8 ?_ (hl:=HUl.out);exact HEND.out (Af 0 (Af 2 ty (Ay 0 1)) tx) U w5 w8 g5 k8 HU.out ((Ac (f:=0) (by decide) (Ac (f:=2) (by decide) HGd.out.2.1 Di) HGd.out.1).more (by omega) (by omega))
 ·go_upto_region 28 with fail;refine lR 5 (GB w z9 X Y C) (HF.out _ (Uy (Uv _))) fun hcl hkn=>?_
  refine DG 5 _ (i:=0) rfl (by kernel_rfl) (by kernel_rfl) (by kernel_rfl) hcl hkn (by rfl) 0 rfl (by kernel_rfl) 29 (.tmp 9) rfl (z9) 0 rfl (AE 0 1) _ (fun w h=>h.2.2.2) Tryz.underlying29 rfl Bd (fun _ _ _ h=>h) rfl ?_;clear hcl hkn;intro hcl hkn
  try simp only[nf]
  refine Bu (i:=1) 5 hcl hkn (.tmp 6) (w.heap.size+1) 0 Y (fun w h=>h.2.1) hYl fun hcl hkn=>?_
  try simp only[nf]
  refine Bu (i:=3) 5 hcl hkn (.tmp 5) (w.heap.size) 0 X (fun w h=>h.1) hXl fun hcl hkn=>?_
  try simp only[nf]
  refine oN (i:=2) hcl fun K hK=>?_
  go_simp;refine(HBn.out 2 (Ay 0 1) ty (AE 0 1) Y _ (Uy (Uv _)) (HTz.out _ (Uy (Uv _))) (HTy.out _ (Uy (Uv _)))).mono ?_;rintro e4 w4 ⟨P,rfl,hP,k4⟩;have g4:A5 w3 w4:=(Uy (Uv w3)).trans k4;refine hK _ _ (kr (HF.out w4 g4)) ?_;have HP:=UX hP;clear hK K hP k4;clear hcl hkn;intro hcl hkn
  try simp only[nf]
  refine oN (i:=4) hcl fun K hK=>?_
  go_simp;refine(HBn.out 0 (Af 2 (Ay 0 1) ty) tx P X _ g4 HP.out (HTx.out _ g4)).mono ?_;rintro e5 w5 ⟨U,rfl,hU,k5⟩;have g5:A5 w3 w5:=g4.trans k5;refine hK _ _ (kr (HF.out w5 g5)) ?_;have hU1:=AP hU;have hUl:U.length=11:=(by obtain⟨a,b,c,h, -⟩:=hU.open_;rw[h];rfl);have HU:=UX hU;have HUl:=UX hUl;clear hK K hU k5 hUl;clear hcl hkn;intro hcl hkn
  try simp only[nf]
  refine oN (i:=5) hcl fun K hK=>?_
  refine sW (.tmp 8) (.tmp 104) U (HR8.out w5 g5) rX ?_ (hl:=HUl.out) (h1:=hU1);intro w8 hb8 k8;refine hK _ _ kl ?_;clear hK K;clear hcl hkn;intro hcl hkn
  try simp only[nf]
  refine aD ?_;go_wp2_with fail;refine rO rX hb8 ?_ (hl:=HUl.out);exact HEND.out (Af 0 (Af 2 (Ay 0 1) ty) tx) U w5 w8 g5 k8 HU.out ((Ac (f:=0) (by decide) (Ac (f:=2) (by decide) Di HGd.out.2.1) HGd.out.1).more (by omega) (by omega))
 ·go_upto_region 30 with fail;refine lR 5 (GB w z9 X Y C) (HF.out _ (Uy (Uv _))) fun hcl hkn=>?_
  refine Bu (i:=0) 5 hcl hkn (.tmp 5) (w.heap.size) 0 X (fun w h=>h.1) hXl fun hcl hkn=>?_
  try simp only[nf]
  refine Bu (i:=1) 5 hcl hkn (.tmp 6) (w.heap.size+1) 0 Y (fun w h=>h.2.1) hYl fun hcl hkn=>?_
  try simp only[nf]
  refine DG 5 _ (i:=2) rfl (by kernel_rfl) (by kernel_rfl) (by kernel_rfl) hcl hkn (by rfl) 0 rfl (by kernel_rfl) 29 (.tmp 9) rfl (z9) 0 rfl (AE 0 1) _ (fun w h=>h.2.2.2) Tryz.underlying29 rfl Bd (fun _ _ _ h=>h) rfl ?_;clear hcl hkn;intro hcl hkn
  try simp only[nf]
  refine oN (i:=3) hcl fun K hK=>?_
  go_simp;refine(HBn.out 2 ty (Ay 0 1) Y (AE 0 1) _ (Uy (Uv _)) (HTy.out _ (Uy (Uv _))) (HTz.out _ (Uy (Uv _)))).mono ?_;rintro e4 w4 ⟨P,rfl,hP,k4⟩;have g4:A5 w3 w4:=(Uy (Uv w3)).trans k4;refine hK _ _ (kr (HF.out w4 g4)) ?_;have HP:=UX hP;clear hK K hP k4;clear hcl hkn;intro hcl hkn
  try simp only[nf]
  refine oN (i:=4) hcl fun K hK=>?_
  go_simp;refine(HBn.out 1 tx (Af 2 ty (Ay 0 1)) X P _ g4 (HTx.out _ g4) HP.out).mono ?_;rintro e5 w5 ⟨U,rfl,hU,k5⟩;have g5:A5 w3 w5:=g4.trans k5;refine hK _ _ (kr (HF.out w5 g5)) ?_;have hU1:=AP hU;have hUl:U.length=11:=(by obtain⟨a,b,c,h, -⟩:=hU.open_;rw[h];rfl);have HU:=UX hU;have HUl:=UX hUl;clear hK K hU k5 hUl;clear hcl hkn;intro hcl hkn
  try simp only[nf]
  refine oN (i:=5) hcl fun K hK=>?_
  refine sW (.tmp 8) (.tmp 111) U (HR8.out w5 g5) rX ?_ (hl:=HUl.out) (h1:=hU1);intro w8 hb8 k8;refine hK _ _ kl ?_;clear hK K;clear hcl hkn;intro hcl hkn
  try simp only[nf]
  refine aD ?_;go_wp2_with fail;refine rO rX hb8 ?_ (hl:=HUl.out);exact HEND.out (Af 1 tx (Af 2 ty (Ay 0 1))) U w5 w8 g5 k8 HU.out ((Ac (f:=1) (by decide) HGd.out.1 (Ac (f:=2) (by decide) HGd.out.2.1 Di)).more (by omega) (by omega))
 go_upto_region 31 with fail;refine lR 5 (GB w z9 X Y C) (HF.out _ (Uy (Uv _))) fun hcl hkn=>?_
 refine Bu (i:=0) 5 hcl hkn (.tmp 5) (w.heap.size) 0 X (fun w h=>h.1) hXl fun hcl hkn=>?_
 try simp only[nf]
 refine DG 5 _ (i:=1) rfl (by kernel_rfl) (by kernel_rfl) (by kernel_rfl) hcl hkn (by rfl) 0 rfl (by kernel_rfl) 29 (.tmp 9) rfl (z9) 0 rfl (AE 0 1) _ (fun w h=>h.2.2.2) Tryz.underlying29 rfl Bd (fun _ _ _ h=>h) rfl ?_;clear hcl hkn;intro hcl hkn
 try simp only[nf]
 refine Bu (i:=2) 5 hcl hkn (.tmp 6) (w.heap.size+1) 0 Y (fun w h=>h.2.1) hYl fun hcl hkn=>?_
 try simp only[nf]
 refine oN (i:=3) hcl fun K hK=>?_
 go_simp;refine(HBn.out 2 (Ay 0 1) ty (AE 0 1) Y _ (Uy (Uv _)) (HTz.out _ (Uy (Uv _))) (HTy.out _ (Uy (Uv _)))).mono ?_;rintro e4 w4 ⟨P,rfl,hP,k4⟩;have g4:A5 w3 w4:=(Uy (Uv w3)).trans k4;refine hK _ _ (kr (HF.out w4 g4)) ?_;have HP:=UX hP;clear hK K hP k4;clear hcl hkn;intro hcl hkn
 try simp only[nf]
 refine oN (i:=4) hcl fun K hK=>?_
 go_simp;refine(HBn.out 1 tx (Af 2 (Ay 0 1) ty) X P _ g4 (HTx.out _ g4) HP.out).mono ?_;rintro e5 w5 ⟨U,rfl,hU,k5⟩;have g5:A5 w3 w5:=g4.trans k5;refine hK _ _ (kr (HF.out w5 g5)) ?_;have hU1:=AP hU;have hUl:U.length=11:=(by obtain⟨a,b,c,h, -⟩:=hU.open_;rw[h];rfl);have HU:=UX hU;have HUl:=UX hUl;clear hK K hU k5 hUl;clear hcl hkn;intro hcl hkn
 try simp only[nf]
 refine oN (i:=5) hcl fun K hK=>?_
 refine sW (.tmp 8) (.tmp 116) U (HR8.out w5 g5) rX ?_ (hl:=HUl.out) (h1:=hU1);intro w8 hb8 k8;refine hK _ _ kl ?_;clear hK K;clear hcl hkn;intro hcl hkn
 try simp only[nf]
 refine aD ?_;go_wp2_with fail;refine rO rX hb8 ?_ (hl:=HUl.out);exact HEND.out (Af 1 tx (Af 2 (Ay 0 1) ty)) U w5 w8 g5 k8 HU.out ((Ac (f:=1) (by decide) HGd.out.1 (Ac (f:=2) (by decide) Di HGd.out.2.1)).more (by omega) (by omega))
section
variable {P:Program} {ops:Array Oper} {Q:Exit→Act→World→Prop} {md:Region.Mode} {Gs:List (Nat×(World→Prop))}
theorem IU {i j:Nat} {oi oj:Oper} {fuel:Nat} {listed:Array Bool} {a:Act} {w:World} (hcl:AW md ops listed) (hr:Region.ready md ops listed=[i,j]) (hi:ops[i]? =some oi) (hj:ops[j]? =some oj) (hgi:oi.guard=none) (hgj:oj.guard=none)
  (h1:∀K:Act→World→Prop,(∀a' w',Au Gs (listed.setIfInBounds i true) w'→(AW md ops (listed.setIfInBounds i true)→Au Gs (listed.setIfInBounds i true) w'→Az P md ops Q Gs fuel (listed.setIfInBounds i true) a' w')→K a' w')→oi.wp P a w K Q)
  (h2:∀K:Act→World→Prop,(∀a' w',Au Gs (listed.setIfInBounds j true) w'→(AW md ops (listed.setIfInBounds j true)→Au Gs (listed.setIfInBounds j true) w'→Az P md ops Q Gs fuel (listed.setIfInBounds j true) a' w')→K a' w')→oj.wp P a w K Q):Az P md ops Q Gs (fuel+1) listed a w:=by
 refine⟨(fun h0=>by rw[hr]at h0;cases h0),fun k hk=>?_⟩;have hk':=hk;rw[hr]at hk;have hkk:k=i∨k=j:=by simpa using hk
 rcases hkk with rfl|rfl
 ·unfold wpOp;simp only[hi,Region.wanted,hgi,if_true];exact .inl (h1 _ fun a' w' h3 h4=>⟨h3,h4 (hcl.set hk') h3⟩)
 unfold wpOp;simp only[hj,Region.wanted,hgj,if_true];exact .inl (h2 _ fun a' w' h3 h4=>⟨h3,h4 (hcl.set hk') h3⟩)
end
theorem GH {o:Oper} {a:Act} {w:World} {K:Act→World→Prop} {Q:Exit→Act→World→Prop} (x:Operand) (ho:o.op= .buildSlice 27 1 #[(0,x)]) {ea:Ex} {a1 a2 a3:Value} (hx:a.eval x= .agg (A8 ea a1 a2 a3).toArray)
  (h:∀w',AK w' w.heap.size 29 (A8 ea a1 a2 a3).toArray→A5 w w'→K (a.put o.dst (.slice (some ⟨w.heap.size,0,none⟩) 1 1)) w'):o.wp Tryz.prog a w K Q:=by
 obtain⟨i,hi,hz,hs,hby⟩:=info_parts S5.info;refine wp_buildSlice 27 29 1 #[(0,x)] ho (A8 ea a1 a2 a3).toArray i Ge Tryz.underlying27 hi hz (by rw[hs];decide) (by rw[hs];decide) ?_ (h _ (Ux w 29 _) ((Uv w).alloc _));rw[hs];simp only[List.map_toArray,List.map_cons,List.map_nil,hx];exact LB ea a1 a2 a3
def F8:ByteArray:=⟨#[104,111,115,116]⟩
def DS (f:Int) (bys:List ByteArray) (a:Ex):Ex:= .mk 2 f 0 0 0 0 0 ⟨#[]⟩ [] bys [a]
theorem OG:Fz F8:=⟨by unfold Ib;decide,by decide⟩
theorem Kv {f:Int} (h:0≤f∧f≤3) {a:Ex} {N D:Nat} (ha:Cd N D a) {bys:List ByteArray} (hb:bys=[]∨bys=[F8]):Cd (1+N) (1+D) (DS f bys a):=by
 have hb1:bys.length≤1∧(∀s∈bys,Fz s)∧KM bys=true:=by
  rcases hb with rfl|rfl
  ·exact⟨Nat.zero_le _,(fun s hs=>nomatch hs),rfl⟩
  refine⟨Ua _,fun s hs=>by obtain rfl:=Ug.1 hs;exact OG,by decide⟩
 have z0:Ah 0:=Bt.1;refine⟨?_,?_,Aa.2 ⟨⟨⟨⟨by unfold Ah;show _≤(2:Int)∧(2:Int)≤_;omega,by unfold Ah;show _≤f∧f≤_;omega,z0,z0,z0,z0,z0⟩,CV,(fun m hm=>nomatch hm),hb1.2.1,Nat.zero_le _,by have:=hb1.1;show bys.length≤1000;omega⟩,?_⟩,fun k hk=>?_⟩⟩
 ·show 1+(AD a+0)≤_;have:=ha.1;omega
 ·show max (Ae a) 0+1≤_;have:=ha.2.1;omega
 ·have h1:B7 (DS f bys a)=true:=by
   rw[D4 (DS f bys a) 1 0 bys.length rfl rfl rfl,Un (show ¬(DS f bys a).kind=0 from by show ¬(2:Int)=0;omega),Un (show ¬(DS f bys a).kind=1 from by show ¬(2:Int)=1;omega),Uo (show(DS f bys a).kind=2 from rfl)];exact decide_eq_true ⟨h.1,by show f≤4;omega,rfl,rfl,rfl⟩
  have h2:C3 (DS f bys a)=true:=by
   rw[EV];show(!Br (DS f bys a)&&([]:List Mt).all BA&&KM bys)=true;rw[hb1.2.2];rfl
  have h3:AJ (DS f bys a)=true:=by
   unfold AJ;rw[Un (show ¬(DS f bys a).kind=1 from by show ¬(2:Int)=1;omega),Un (show ¬((DS f bys a).kind=2∧(DS f bys a).fn=4)from by show ¬((2:Int)=2∧f=4);omega)];rfl
  unfold Bh;rw[h1,h2,h3,Un (by simp),Un (by simp),Un (show ¬(8<(DS f bys a).ms.length∨8<(DS f bys a).bys.length)from by show ¬(8<0∨8<bys.length);have:=hb1.1;omega)];rfl
 obtain rfl:=Ug.1 hk;exact ha.2.2
end Go.Proofs.YtkclnhpofkaclaaGreatDoor
