/- The generator of queries: cancelled. -/
import Derived.Test.YthpflelgbadkcaaGreatDoorRewriteReadsP01
import Derived.Test.YthpflelgbadkcaaGreatDoorRewriteReadsP37
import Derived.Test.YthpflelgbadkcaaGreatDoorRewriteReadsP18
import Derived.Test.YthpflelgbadkcaaGreatDoorRewriteReadsP07
set_option maxRecDepth 100000
set_option maxHeartbeats 12800000
set_option linter.unusedVariables false
set_option linter.unusedSimpArgs false
namespace Go.Proofs.YthpflelgbadkcaaGreatDoor
open Go.RowKit Pl
theorem Dh:Cf 1 1 (BG 0 1):=F8 (by decide)
def EL (S:Nat→Prop) (w:World) (b:Nat):Prop:=¬S b∧b<w.heap.size
def GC (w:World) (z9:Nat) (X Y C:List Value) (w':World):Prop:=w'.rangeAt (w.heap.size) 0 X∧w'.rangeAt (w.heap.size+1) 0 Y∧w'.rangeAt (w.heap.size+1+1) 0 C∧w'.rangeAt z9 0 (AH 0 1)
theorem Pc (S:Nat→Prop) (f:Int) (ea eb:Ex) (ca cb:List Value) (w:World) (hg:∀b,S b→b<w.heap.size) (ha:Ax w (EL S w) ea ca) (hb:Ax w (EL S w) eb cb):
  Calls Tryz.prog 54 #[.int .i64 f,.agg ca.toArray,.agg cb.toArray] w fun e w'=>∃cs,e= .returned (.agg cs.toArray)∧Ax w' (EL S w') (BB f ea eb) cs∧A5 w w':=by
 refine(Jb f ea eb ca cb w (EL S w) (fun b hb=>hb.2) ha hb).mono ?_;rintro e w' ⟨cs,rfl,h,k⟩;have hsz:=k.size;exact⟨cs,rfl,Ax.keep (S:=fun _=>False) (fun b hb=>⟨by rcases hb with h|h;have:=h.2;omega;exact h.2,fun h=>h,by rcases hb with h|h;exact h.1;exact fun hS=>(by have:=hg b hS;omega),by rcases hb with h|h;have:=h.2;omega;exact h.2⟩) (Sa _) _ _ h,k⟩
theorem IU (w:World) (g B:Nat) (v:Value) (l:List Int) (i:Nat) (N D:Nat) (hN:1≤N) (hD:1≤D) (tx ty tc:Ex) (X Y C:List Value) (h:GS w g B v l i) (hi:i≤100000) (M:Nat) (hM:g<M∧M≤w.heap.size) (hx:Ax w (CW 0 M w.heap.size) tx X) (hy:Ax w (CW 0 M w.heap.size) ty Y) (hc:Ax w (CW 0 M w.heap.size) tc C) (gx:Cf N D tx) (gy:Cf N D ty) (gc:Cf 1 1 tc):
  Calls Tryz.prog 55 #[.pointer (some ⟨g,0,none⟩),.agg X.toArray,.agg Y.toArray,.agg C.toArray] w (Cw g B v l M (3+3*N) (2+D) i 1 w):=by
 have hgl:=h.1.lt;have hXl:X.length=11:=(by obtain⟨a,b,c,h, -⟩:=hx.open_;rw[h];rfl);have hYl:Y.length=11:=(by obtain⟨a,b,c,h, -⟩:=hy.open_;rw[h];rfl);have hCl:C.length=11:=(by obtain⟨a,b,c,h, -⟩:=hc.open_;rw[h];rfl);have hb1:=Sc w 29 X.toArray;obtain⟨hb2,hb3,hb4,hG⟩:=Cb (w.alloc (.cells X.toArray 29)) 29 29 29 Y.toArray C.toArray (AH 0 0).toArray;have hs0:(w.alloc (.cells X.toArray 29)).heap.size=w.heap.size+1:=by simp
 rw[hs0]at hb2 hb3 hb4;have hb1:=hb1.grew hG;have hG:=((Sa w).alloc (.cells X.toArray 29)).trans hG;have hs:((((w.alloc (.cells X.toArray 29)).alloc (.cells Y.toArray 29)).alloc (.cells C.toArray 29)).alloc (.cells (AH 0 0).toArray 29)).heap.size=w.heap.size+4:=by simp
 have HGS:=S9 h;have HM:=S9 hM;have HGL:=S9 hgl;have HXY:=S9 (SC hx (SC hy hc));have HGd:=S9 (SC gx (SC gy gc));clear h hgl hx hy hc gx gy gc hs0 hM;go_enter Tryz.func55,Tryz.ntmps55;go_upto_region 1 with fail;change Code.wp _ _ _ _ ((((w.alloc (.cells X.toArray 29)).alloc (.cells Y.toArray 29)).alloc (.cells C.toArray 29)).alloc (.cells (AH 0 0).toArray 29));generalize (((w.alloc (.cells X.toArray 29)).alloc (.cells Y.toArray 29)).alloc (.cells C.toArray 29)).alloc (.cells (AH 0 0).toArray 29)=w1 at*;have HS:=S9 hs;clear hs;go_upto_region 2 with(first|((with_reducible refine AF 29 (.tmp 9) (.tmp 11) rfl ?_);refine Ar 29 (.tmp 9) (.tmp 11) (w1.heap.size) (AH 0 1) (AH 0 0) 29 AD rfl (AX _ _) rfl rfl rfl rfl (Sc w1 29 _) ?_;intro w2 hb9 k9 d9;have g2:A5 w1 w2:=Sb ((Sa w1).alloc _) k9 (fun i hi e=>by omega)));have HNx:=S9 (show Calls Tryz.prog 51 #[.pointer (some ⟨g,0,none⟩),.int .i64 15] w2 (Bt g B v l i 15 w2)from BS w2 g B v l i 15 (HGS.out.grew (hG.trans g2)) hi (by decide) (by decide));have HBX:=S9 (SC (hb1.grew g2) (SC (hb2.grew g2) (SC (hb3.grew g2) (SC (hb4.grew g2) (SC hb9 (hG.trans g2))))));have HZ9:=S9 (show w.heap.size+4≤w1.heap.size from Nat.le_of_eq HS.out.symm);generalize w1.heap.size=z9 at*;clear hb1 hb2 hb3 hb4 hb9 hG g2 k9 d9;go_upto_region 3 with(first|(go_at_call 51;(with_reducible refine HNx.out.mono ?_);rintro e3 w3 ⟨r,hr,rfl,hgs,k3⟩;have HG3:=S9 hgs;have HK3:=S9 k3;clear hgs k3));have hgl:=HGL.out;have hz9:=HZ9.out;have hkw:AC (fun b=>b=g) w w3:=Sb (Si HBX.out.2.2.2.2.2) HK3.out fun b hb e=>e
 have HF:=S9 (show ∀w',A5 w3 w'→w'.rangeAt (w.heap.size) 0 X∧w'.rangeAt (w.heap.size+1) 0 Y∧w'.rangeAt (w.heap.size+1+1) 0 C∧w'.rangeAt z9 0 (AH 0 1)from fun w' k=>⟨((HBX.out.1.keep HK3.out (by omega)).grew k).rangeN 0 X (by simp),((HBX.out.2.1.keep HK3.out (by omega)).grew k).rangeN 0 Y (by simp),((HBX.out.2.2.1.keep HK3.out (by omega)).grew k).rangeN 0 C (by simp),((HBX.out.2.2.2.2.1.keep HK3.out (by omega)).grew k).rangeN 0 (AH 0 1) rfl⟩);have HR8:=S9 (show ∀w',A5 w3 w'→Ag w' (w.heap.size+1+1+1) 29 (AH 0 0).toArray from fun w' k=>(HBX.out.2.2.2.1.keep HK3.out (by omega)).grew k);have hgl3:∀b,(b<M∨b=w.heap.size+1+1+1)→b<w3.heap.size:=fun b hb=>by
  have h1:=HM.out.2;have h3:=hkw.size;have h2:=(HR8.out w3 (Sa _)).lt;omega
 have hgr:∀(w':World) (t:Ex) (cs:List Value),A5 w3 w'→Ax w (CW 0 M w.heap.size) t cs→Ax w' (EL (fun b=>b<M∨b=w.heap.size+1+1+1) w') t cs:=fun w' t cs k h=>Ax.keep (S:=fun b=>b=g) (fun b hb=>⟨hb.2,(by have h1:=hb.1;have h2:=HM.out;omega),(by have h1:=hb.1;have h2:=hb.2;have h3:=HM.out;omega),SE hb.2 (SH hkw.size k.size)⟩) (Sb hkw (Si k) fun b hb e=>e) t cs h
 have HTx:=S9 (show ∀w',A5 w3 w'→Ax w' (EL (fun b=>b<M∨b=w.heap.size+1+1+1) w') tx X from fun w' k=>hgr w' tx X k HXY.out.1);have HTy:=S9 (show ∀w',A5 w3 w'→Ax w' (EL (fun b=>b<M∨b=w.heap.size+1+1+1) w') ty Y from fun w' k=>hgr w' ty Y k HXY.out.2.1);have HTc:=S9 (show ∀w',A5 w3 w'→Ax w' (EL (fun b=>b<M∨b=w.heap.size+1+1+1) w') tc C from fun w' k=>hgr w' tc C k HXY.out.2.2);have HTz:=S9 (show ∀w',A5 w3 w'→Ax w' (EL (fun b=>b<M∨b=w.heap.size+1+1+1) w') (BG 0 1) (AH 0 1)from fun w' k=>Js _ _ _ _);have HBn:=S9 (fun(f:Int) (ea eb:Ex) (ca cb:List Value) (w':World) (k:A5 w3 w')=>Pc (fun b=>b<M∨b=w.heap.size+1+1+1) f ea eb ca cb w' (fun b hb=>SE (hgl3 b hb) k.size));have HEND:=S9 (show ∀(t:Ex) (U:List Value) (w5 w8:World),A5 w3 w5→AC (fun b=>b=w.heap.size+1+1+1) w5 w8→Ax w5 (EL (fun b=>b<M∨b=w.heap.size+1+1+1) w5) t U→Cf (3+3*N) (2+D) t→Cw g B v l M (3+3*N) (2+D) i 1 w (.returned (.agg U.toArray)) w8 from fun t U w5 w8 k5 k8 hU hgd=>by
  have hgs5:=HG3.out.grew k5;exact⟨t,U,i+1,rfl,Ax.keep (S:=fun b=>b=w.heap.size+1+1+1) (fun b hb=>⟨hb.2,fun e=>hb.1 (.inr e),.inr (Nat.le_of_not_lt fun e=>hb.1 (.inl e)),SE hb.2 k8.size⟩) k8 _ _ hU,hgd,⟨hgs5.1.keep k8 (by omega),hgs5.2.1.keep (by have:=hgs5.2.2.1;have:=hgs5.1.lt;omega) k8 (fun b hb e=>by have:=hgs5.2.2.1;omega),hgs5.2.2⟩,SD _,Sb (Sb hkw (Si k5) fun b hb e=>e) k8 fun b hb e=>by omega⟩)
 clear hgl hz9 hkw hgl3 hgr HXY HBX HNx HZ9 HS HGS;have hcase:r=0∨r=1∨r=2∨r=3∨r=4∨r=5∨r=6∨r=7∨r=8∨r=9∨r=10∨r=11∨r=12∨r=13∨r=14:=by omega
 clear hr;rcases hcase with rfl|rfl|rfl|rfl|rfl|rfl|rfl|rfl|rfl|rfl|rfl|rfl|rfl|rfl|rfl
 ·go_upto_region 4 with fail;refine B8 [(5,GC w z9 X Y C)] (by kernel_rfl) (by intro pp hp;obtain rfl:=SJ.1 hp;exact HF.out _ (Sd (Sa _))) ?_;intro hcl hkn;refine Ae 5 _ (i:=0) rfl (by kernel_rfl) (by kernel_rfl) (by kernel_rfl) hcl hkn (by rfl) 0 rfl (by kernel_rfl) 29 (.tmp 5) rfl (w.heap.size) 0 rfl X _ (fun w h=>h.1) Tryz.underlying29 rfl (by rw[hXl];exact AD) (fun _ _ _ h=>h) rfl ?_;clear hcl hkn;intro hcl hkn
  try simp only[Bn]
  refine Ae 5 _ (i:=1) rfl (by kernel_rfl) (by kernel_rfl) (by kernel_rfl) hcl hkn (by rfl) 0 rfl (by kernel_rfl) 29 (.tmp 6) rfl (w.heap.size+1) 0 rfl Y _ (fun w h=>h.2.1) Tryz.underlying29 rfl (by rw[hYl];exact AD) (fun _ _ _ h=>h) rfl ?_;clear hcl hkn;intro hcl hkn
  try simp only[Bn]
  refine Ae 5 _ (i:=3) rfl (by kernel_rfl) (by kernel_rfl) (by kernel_rfl) hcl hkn (by rfl) 0 rfl (by kernel_rfl) 29 (.tmp 6) rfl (w.heap.size+1) 0 rfl Y _ (fun w h=>h.2.1) Tryz.underlying29 rfl (by rw[hYl];exact AD) (fun _ _ _ h=>h) rfl ?_;clear hcl hkn;intro hcl hkn
  try simp only[Bn]
  refine AV hcl (i:=2) (by kernel_rfl) rfl rfl (fun K hK=>?_);go_simp;refine(HBn.out 0 tx ty X Y _ (Sd (Sa _)) (HTx.out _ (Sd (Sa _))) (HTy.out _ (Sd (Sa _)))).mono ?_;rintro e4 w4 ⟨P,rfl,hP,k4⟩;have g4:A5 w3 w4:=(Sd (Sa w3)).trans k4;refine hK _ _ (AJ (.inr (HF.out w4 g4))) ?_;have HP:=S9 hP;clear hK K hP k4;clear hcl hkn;intro hcl hkn
  try simp only[Bn]
  refine AV hcl (i:=4) (by kernel_rfl) rfl rfl (fun K hK=>?_);go_simp;refine(HBn.out 1 (BB 0 tx ty) ty P Y _ g4 HP.out (HTy.out _ g4)).mono ?_;rintro e5 w5 ⟨U,rfl,hU,k5⟩;have g5:A5 w3 w5:=g4.trans k5;refine hK _ _ (AJ (.inr (HF.out w5 g5))) ?_;have hU1:=AY hU;have hUl:U.length=11:=(by obtain⟨a,b,c,h, -⟩:=hU.open_;rw[h];rfl);have HU:=S9 hU;have HUl:=S9 hUl;clear hK K hU k5 hUl;clear hcl hkn;intro hcl hkn
  try simp only[Bn]
  refine AV hcl (i:=5) (by kernel_rfl) rfl rfl (fun K hK=>?_);refine Bw 29 (.tmp 8) (.tmp 20) (w.heap.size+1+1+1) U (AH 0 0) 29 (by rw[HUl.out];exact AD) HUl.out.symm hU1 rfl rfl rfl (HR8.out w5 g5) ?_;intro w8 hb8 k8;refine hK _ _ (AJ (.inl (by kernel_rfl))) ?_;clear hK K;clear hcl hkn;intro hcl hkn
  try simp only[Bn]
  refine BK (by kernel_rfl) ?_ _;go_wp2_with fail;refine bodyPost_ret (AP rfl rfl (by rw[HUl.out];exact AD) Tryz.underlying29 rfl hb8) rfl ?_;exact HEND.out (BB 1 (BB 0 tx ty) ty) U w5 w8 g5 k8 HU.out ((B7 (f:=1) (by decide) (B7 (f:=0) (by decide) HGd.out.1 HGd.out.2.1) HGd.out.2.1).more (by omega) (by omega))
 ·go_upto_region 6 with fail;refine B8 [(5,GC w z9 X Y C)] (by kernel_rfl) (by intro pp hp;obtain rfl:=SJ.1 hp;exact HF.out _ (Sd (Sa _))) ?_;intro hcl hkn;refine Ae 5 _ (i:=0) rfl (by kernel_rfl) (by kernel_rfl) (by kernel_rfl) hcl hkn (by rfl) 0 rfl (by kernel_rfl) 29 (.tmp 6) rfl (w.heap.size+1) 0 rfl Y _ (fun w h=>h.2.1) Tryz.underlying29 rfl (by rw[hYl];exact AD) (fun _ _ _ h=>h) rfl ?_;clear hcl hkn;intro hcl hkn
  try simp only[Bn]
  refine Ae 5 _ (i:=1) rfl (by kernel_rfl) (by kernel_rfl) (by kernel_rfl) hcl hkn (by rfl) 0 rfl (by kernel_rfl) 29 (.tmp 5) rfl (w.heap.size) 0 rfl X _ (fun w h=>h.1) Tryz.underlying29 rfl (by rw[hXl];exact AD) (fun _ _ _ h=>h) rfl ?_;clear hcl hkn;intro hcl hkn
  try simp only[Bn]
  refine Ae 5 _ (i:=3) rfl (by kernel_rfl) (by kernel_rfl) (by kernel_rfl) hcl hkn (by rfl) 0 rfl (by kernel_rfl) 29 (.tmp 6) rfl (w.heap.size+1) 0 rfl Y _ (fun w h=>h.2.1) Tryz.underlying29 rfl (by rw[hYl];exact AD) (fun _ _ _ h=>h) rfl ?_;clear hcl hkn;intro hcl hkn
  try simp only[Bn]
  refine AV hcl (i:=2) (by kernel_rfl) rfl rfl (fun K hK=>?_);go_simp;refine(HBn.out 0 ty tx Y X _ (Sd (Sa _)) (HTy.out _ (Sd (Sa _))) (HTx.out _ (Sd (Sa _)))).mono ?_;rintro e4 w4 ⟨P,rfl,hP,k4⟩;have g4:A5 w3 w4:=(Sd (Sa w3)).trans k4;refine hK _ _ (AJ (.inr (HF.out w4 g4))) ?_;have HP:=S9 hP;clear hK K hP k4;clear hcl hkn;intro hcl hkn
  try simp only[Bn]
  refine AV hcl (i:=4) (by kernel_rfl) rfl rfl (fun K hK=>?_);go_simp;refine(HBn.out 1 (BB 0 ty tx) ty P Y _ g4 HP.out (HTy.out _ g4)).mono ?_;rintro e5 w5 ⟨U,rfl,hU,k5⟩;have g5:A5 w3 w5:=g4.trans k5;refine hK _ _ (AJ (.inr (HF.out w5 g5))) ?_;have hU1:=AY hU;have hUl:U.length=11:=(by obtain⟨a,b,c,h, -⟩:=hU.open_;rw[h];rfl);have HU:=S9 hU;have HUl:=S9 hUl;clear hK K hU k5 hUl;clear hcl hkn;intro hcl hkn
  try simp only[Bn]
  refine AV hcl (i:=5) (by kernel_rfl) rfl rfl (fun K hK=>?_);refine Bw 29 (.tmp 8) (.tmp 27) (w.heap.size+1+1+1) U (AH 0 0) 29 (by rw[HUl.out];exact AD) HUl.out.symm hU1 rfl rfl rfl (HR8.out w5 g5) ?_;intro w8 hb8 k8;refine hK _ _ (AJ (.inl (by kernel_rfl))) ?_;clear hK K;clear hcl hkn;intro hcl hkn
  try simp only[Bn]
  refine BK (by kernel_rfl) ?_ _;go_wp2_with fail;refine bodyPost_ret (AP rfl rfl (by rw[HUl.out];exact AD) Tryz.underlying29 rfl hb8) rfl ?_;exact HEND.out (BB 1 (BB 0 ty tx) ty) U w5 w8 g5 k8 HU.out ((B7 (f:=1) (by decide) (B7 (f:=0) (by decide) HGd.out.2.1 HGd.out.1) HGd.out.2.1).more (by omega) (by omega))
 ·go_upto_region 8 with fail;refine B8 [(5,GC w z9 X Y C)] (by kernel_rfl) (by intro pp hp;obtain rfl:=SJ.1 hp;exact HF.out _ (Sd (Sa _))) ?_;intro hcl hkn;refine Ae 5 _ (i:=0) rfl (by kernel_rfl) (by kernel_rfl) (by kernel_rfl) hcl hkn (by rfl) 0 rfl (by kernel_rfl) 29 (.tmp 5) rfl (w.heap.size) 0 rfl X _ (fun w h=>h.1) Tryz.underlying29 rfl (by rw[hXl];exact AD) (fun _ _ _ h=>h) rfl ?_;clear hcl hkn;intro hcl hkn
  try simp only[Bn]
  refine Ae 5 _ (i:=1) rfl (by kernel_rfl) (by kernel_rfl) (by kernel_rfl) hcl hkn (by rfl) 0 rfl (by kernel_rfl) 29 (.tmp 6) rfl (w.heap.size+1) 0 rfl Y _ (fun w h=>h.2.1) Tryz.underlying29 rfl (by rw[hYl];exact AD) (fun _ _ _ h=>h) rfl ?_;clear hcl hkn;intro hcl hkn
  try simp only[Bn]
  refine Ae 5 _ (i:=3) rfl (by kernel_rfl) (by kernel_rfl) (by kernel_rfl) hcl hkn (by rfl) 0 rfl (by kernel_rfl) 29 (.tmp 6) rfl (w.heap.size+1) 0 rfl Y _ (fun w h=>h.2.1) Tryz.underlying29 rfl (by rw[hYl];exact AD) (fun _ _ _ h=>h) rfl ?_;clear hcl hkn;intro hcl hkn
  try simp only[Bn]
  refine AV hcl (i:=2) (by kernel_rfl) rfl rfl (fun K hK=>?_);go_simp;refine(HBn.out 1 tx ty X Y _ (Sd (Sa _)) (HTx.out _ (Sd (Sa _))) (HTy.out _ (Sd (Sa _)))).mono ?_;rintro e4 w4 ⟨P,rfl,hP,k4⟩;have g4:A5 w3 w4:=(Sd (Sa w3)).trans k4;refine hK _ _ (AJ (.inr (HF.out w4 g4))) ?_;have HP:=S9 hP;clear hK K hP k4;clear hcl hkn;intro hcl hkn
  try simp only[Bn]
  refine AV hcl (i:=4) (by kernel_rfl) rfl rfl (fun K hK=>?_);go_simp;refine(HBn.out 0 (BB 1 tx ty) ty P Y _ g4 HP.out (HTy.out _ g4)).mono ?_;rintro e5 w5 ⟨U,rfl,hU,k5⟩;have g5:A5 w3 w5:=g4.trans k5;refine hK _ _ (AJ (.inr (HF.out w5 g5))) ?_;have hU1:=AY hU;have hUl:U.length=11:=(by obtain⟨a,b,c,h, -⟩:=hU.open_;rw[h];rfl);have HU:=S9 hU;have HUl:=S9 hUl;clear hK K hU k5 hUl;clear hcl hkn;intro hcl hkn
  try simp only[Bn]
  refine AV hcl (i:=5) (by kernel_rfl) rfl rfl (fun K hK=>?_);refine Bw 29 (.tmp 8) (.tmp 34) (w.heap.size+1+1+1) U (AH 0 0) 29 (by rw[HUl.out];exact AD) HUl.out.symm hU1 rfl rfl rfl (HR8.out w5 g5) ?_;intro w8 hb8 k8;refine hK _ _ (AJ (.inl (by kernel_rfl))) ?_;clear hK K;clear hcl hkn;intro hcl hkn
  try simp only[Bn]
  refine BK (by kernel_rfl) ?_ _;go_wp2_with fail;refine bodyPost_ret (AP rfl rfl (by rw[HUl.out];exact AD) Tryz.underlying29 rfl hb8) rfl ?_;exact HEND.out (BB 0 (BB 1 tx ty) ty) U w5 w8 g5 k8 HU.out ((B7 (f:=0) (by decide) (B7 (f:=1) (by decide) HGd.out.1 HGd.out.2.1) HGd.out.2.1).more (by omega) (by omega))
 ·go_upto_region 10 with fail;refine B8 [(5,GC w z9 X Y C)] (by kernel_rfl) (by intro pp hp;obtain rfl:=SJ.1 hp;exact HF.out _ (Sd (Sa _))) ?_;intro hcl hkn;refine Ae 5 _ (i:=0) rfl (by kernel_rfl) (by kernel_rfl) (by kernel_rfl) hcl hkn (by rfl) 0 rfl (by kernel_rfl) 29 (.tmp 6) rfl (w.heap.size+1) 0 rfl Y _ (fun w h=>h.2.1) Tryz.underlying29 rfl (by rw[hYl];exact AD) (fun _ _ _ h=>h) rfl ?_;clear hcl hkn;intro hcl hkn
  try simp only[Bn]
  refine Ae 5 _ (i:=1) rfl (by kernel_rfl) (by kernel_rfl) (by kernel_rfl) hcl hkn (by rfl) 0 rfl (by kernel_rfl) 29 (.tmp 5) rfl (w.heap.size) 0 rfl X _ (fun w h=>h.1) Tryz.underlying29 rfl (by rw[hXl];exact AD) (fun _ _ _ h=>h) rfl ?_;clear hcl hkn;intro hcl hkn
  try simp only[Bn]
  refine Ae 5 _ (i:=2) rfl (by kernel_rfl) (by kernel_rfl) (by kernel_rfl) hcl hkn (by rfl) 0 rfl (by kernel_rfl) 29 (.tmp 6) rfl (w.heap.size+1) 0 rfl Y _ (fun w h=>h.2.1) Tryz.underlying29 rfl (by rw[hYl];exact AD) (fun _ _ _ h=>h) rfl ?_;clear hcl hkn;intro hcl hkn
  try simp only[Bn]
  refine AV hcl (i:=3) (by kernel_rfl) rfl rfl (fun K hK=>?_);go_simp;refine(HBn.out 1 tx ty X Y _ (Sd (Sa _)) (HTx.out _ (Sd (Sa _))) (HTy.out _ (Sd (Sa _)))).mono ?_;rintro e4 w4 ⟨P,rfl,hP,k4⟩;have g4:A5 w3 w4:=(Sd (Sa w3)).trans k4;refine hK _ _ (AJ (.inr (HF.out w4 g4))) ?_;have HP:=S9 hP;clear hK K hP k4;clear hcl hkn;intro hcl hkn
  try simp only[Bn]
  refine AV hcl (i:=4) (by kernel_rfl) rfl rfl (fun K hK=>?_);go_simp;refine(HBn.out 0 ty (BB 1 tx ty) Y P _ g4 (HTy.out _ g4) HP.out).mono ?_;rintro e5 w5 ⟨U,rfl,hU,k5⟩;have g5:A5 w3 w5:=g4.trans k5;refine hK _ _ (AJ (.inr (HF.out w5 g5))) ?_;have hU1:=AY hU;have hUl:U.length=11:=(by obtain⟨a,b,c,h, -⟩:=hU.open_;rw[h];rfl);have HU:=S9 hU;have HUl:=S9 hUl;clear hK K hU k5 hUl;clear hcl hkn;intro hcl hkn
  try simp only[Bn]
  refine AV hcl (i:=5) (by kernel_rfl) rfl rfl (fun K hK=>?_);refine Bw 29 (.tmp 8) (.tmp 41) (w.heap.size+1+1+1) U (AH 0 0) 29 (by rw[HUl.out];exact AD) HUl.out.symm hU1 rfl rfl rfl (HR8.out w5 g5) ?_;intro w8 hb8 k8;refine hK _ _ (AJ (.inl (by kernel_rfl))) ?_;clear hK K;clear hcl hkn;intro hcl hkn
  try simp only[Bn]
  refine BK (by kernel_rfl) ?_ _;go_wp2_with fail;refine bodyPost_ret (AP rfl rfl (by rw[HUl.out];exact AD) Tryz.underlying29 rfl hb8) rfl ?_;exact HEND.out (BB 0 ty (BB 1 tx ty)) U w5 w8 g5 k8 HU.out ((B7 (f:=0) (by decide) HGd.out.2.1 (B7 (f:=1) (by decide) HGd.out.1 HGd.out.2.1)).more (by omega) (by omega))
 ·go_upto_region 12 with fail;refine B8 [(5,GC w z9 X Y C)] (by kernel_rfl) (by intro pp hp;obtain rfl:=SJ.1 hp;exact HF.out _ (Sd (Sa _))) ?_;intro hcl hkn;refine Ae 5 _ (i:=0) rfl (by kernel_rfl) (by kernel_rfl) (by kernel_rfl) hcl hkn (by rfl) 0 rfl (by kernel_rfl) 29 (.tmp 6) rfl (w.heap.size+1) 0 rfl Y _ (fun w h=>h.2.1) Tryz.underlying29 rfl (by rw[hYl];exact AD) (fun _ _ _ h=>h) rfl ?_;clear hcl hkn;intro hcl hkn
  try simp only[Bn]
  refine Ae 5 _ (i:=1) rfl (by kernel_rfl) (by kernel_rfl) (by kernel_rfl) hcl hkn (by rfl) 0 rfl (by kernel_rfl) 29 (.tmp 6) rfl (w.heap.size+1) 0 rfl Y _ (fun w h=>h.2.1) Tryz.underlying29 rfl (by rw[hYl];exact AD) (fun _ _ _ h=>h) rfl ?_;clear hcl hkn;intro hcl hkn
  try simp only[Bn]
  refine Ae 5 _ (i:=2) rfl (by kernel_rfl) (by kernel_rfl) (by kernel_rfl) hcl hkn (by rfl) 0 rfl (by kernel_rfl) 29 (.tmp 5) rfl (w.heap.size) 0 rfl X _ (fun w h=>h.1) Tryz.underlying29 rfl (by rw[hXl];exact AD) (fun _ _ _ h=>h) rfl ?_;clear hcl hkn;intro hcl hkn
  try simp only[Bn]
  refine AV hcl (i:=3) (by kernel_rfl) rfl rfl (fun K hK=>?_);go_simp;refine(HBn.out 1 ty tx Y X _ (Sd (Sa _)) (HTy.out _ (Sd (Sa _))) (HTx.out _ (Sd (Sa _)))).mono ?_;rintro e4 w4 ⟨P,rfl,hP,k4⟩;have g4:A5 w3 w4:=(Sd (Sa w3)).trans k4;refine hK _ _ (AJ (.inr (HF.out w4 g4))) ?_;have HP:=S9 hP;clear hK K hP k4;clear hcl hkn;intro hcl hkn
  try simp only[Bn]
  refine AV hcl (i:=4) (by kernel_rfl) rfl rfl (fun K hK=>?_);go_simp;refine(HBn.out 1 ty (BB 1 ty tx) Y P _ g4 (HTy.out _ g4) HP.out).mono ?_;rintro e5 w5 ⟨U,rfl,hU,k5⟩;have g5:A5 w3 w5:=g4.trans k5;refine hK _ _ (AJ (.inr (HF.out w5 g5))) ?_;have hU1:=AY hU;have hUl:U.length=11:=(by obtain⟨a,b,c,h, -⟩:=hU.open_;rw[h];rfl);have HU:=S9 hU;have HUl:=S9 hUl;clear hK K hU k5 hUl;clear hcl hkn;intro hcl hkn
  try simp only[Bn]
  refine AV hcl (i:=5) (by kernel_rfl) rfl rfl (fun K hK=>?_);refine Bw 29 (.tmp 8) (.tmp 48) (w.heap.size+1+1+1) U (AH 0 0) 29 (by rw[HUl.out];exact AD) HUl.out.symm hU1 rfl rfl rfl (HR8.out w5 g5) ?_;intro w8 hb8 k8;refine hK _ _ (AJ (.inl (by kernel_rfl))) ?_;clear hK K;clear hcl hkn;intro hcl hkn
  try simp only[Bn]
  refine BK (by kernel_rfl) ?_ _;go_wp2_with fail;refine bodyPost_ret (AP rfl rfl (by rw[HUl.out];exact AD) Tryz.underlying29 rfl hb8) rfl ?_;exact HEND.out (BB 1 ty (BB 1 ty tx)) U w5 w8 g5 k8 HU.out ((B7 (f:=1) (by decide) HGd.out.2.1 (B7 (f:=1) (by decide) HGd.out.2.1 HGd.out.1)).more (by omega) (by omega))
 ·go_upto_region 14 with fail;refine B8 [(5,GC w z9 X Y C)] (by kernel_rfl) (by intro pp hp;obtain rfl:=SJ.1 hp;exact HF.out _ (Sd (Sa _))) ?_;intro hcl hkn;refine Ae 5 _ (i:=0) rfl (by kernel_rfl) (by kernel_rfl) (by kernel_rfl) hcl hkn (by rfl) 0 rfl (by kernel_rfl) 29 (.tmp 5) rfl (w.heap.size) 0 rfl X _ (fun w h=>h.1) Tryz.underlying29 rfl (by rw[hXl];exact AD) (fun _ _ _ h=>h) rfl ?_;clear hcl hkn;intro hcl hkn
  try simp only[Bn]
  refine Ae 5 _ (i:=1) rfl (by kernel_rfl) (by kernel_rfl) (by kernel_rfl) hcl hkn (by rfl) 0 rfl (by kernel_rfl) 29 (.tmp 7) rfl (w.heap.size+1+1) 0 rfl C _ (fun w h=>h.2.2.1) Tryz.underlying29 rfl (by rw[hCl];exact AD) (fun _ _ _ h=>h) rfl ?_;clear hcl hkn;intro hcl hkn
  try simp only[Bn]
  refine Ae 5 _ (i:=3) rfl (by kernel_rfl) (by kernel_rfl) (by kernel_rfl) hcl hkn (by rfl) 0 rfl (by kernel_rfl) 29 (.tmp 7) rfl (w.heap.size+1+1) 0 rfl C _ (fun w h=>h.2.2.1) Tryz.underlying29 rfl (by rw[hCl];exact AD) (fun _ _ _ h=>h) rfl ?_;clear hcl hkn;intro hcl hkn
  try simp only[Bn]
  refine AV hcl (i:=2) (by kernel_rfl) rfl rfl (fun K hK=>?_);go_simp;refine(HBn.out 2 tx tc X C _ (Sd (Sa _)) (HTx.out _ (Sd (Sa _))) (HTc.out _ (Sd (Sa _)))).mono ?_;rintro e4 w4 ⟨P,rfl,hP,k4⟩;have g4:A5 w3 w4:=(Sd (Sa w3)).trans k4;refine hK _ _ (AJ (.inr (HF.out w4 g4))) ?_;have HP:=S9 hP;clear hK K hP k4;clear hcl hkn;intro hcl hkn
  try simp only[Bn]
  refine AV hcl (i:=4) (by kernel_rfl) rfl rfl (fun K hK=>?_);go_simp;refine(HBn.out 3 (BB 2 tx tc) tc P C _ g4 HP.out (HTc.out _ g4)).mono ?_;rintro e5 w5 ⟨U,rfl,hU,k5⟩;have g5:A5 w3 w5:=g4.trans k5;refine hK _ _ (AJ (.inr (HF.out w5 g5))) ?_;have hU1:=AY hU;have hUl:U.length=11:=(by obtain⟨a,b,c,h, -⟩:=hU.open_;rw[h];rfl);have HU:=S9 hU;have HUl:=S9 hUl;clear hK K hU k5 hUl;clear hcl hkn;intro hcl hkn
  try simp only[Bn]
  refine AV hcl (i:=5) (by kernel_rfl) rfl rfl (fun K hK=>?_);refine Bw 29 (.tmp 8) (.tmp 55) (w.heap.size+1+1+1) U (AH 0 0) 29 (by rw[HUl.out];exact AD) HUl.out.symm hU1 rfl rfl rfl (HR8.out w5 g5) ?_;intro w8 hb8 k8;refine hK _ _ (AJ (.inl (by kernel_rfl))) ?_;clear hK K;clear hcl hkn;intro hcl hkn
  try simp only[Bn]
  refine BK (by kernel_rfl) ?_ _;go_wp2_with fail;refine bodyPost_ret (AP rfl rfl (by rw[HUl.out];exact AD) Tryz.underlying29 rfl hb8) rfl ?_;exact HEND.out (BB 3 (BB 2 tx tc) tc) U w5 w8 g5 k8 HU.out ((B7 (f:=3) (by decide) (B7 (f:=2) (by decide) HGd.out.1 HGd.out.2.2) HGd.out.2.2).more (by omega) (by omega))
 ·go_upto_region 16 with fail;refine B8 [(5,GC w z9 X Y C)] (by kernel_rfl) (by intro pp hp;obtain rfl:=SJ.1 hp;exact HF.out _ (Sd (Sa _))) ?_;intro hcl hkn;refine Ae 5 _ (i:=0) rfl (by kernel_rfl) (by kernel_rfl) (by kernel_rfl) hcl hkn (by rfl) 0 rfl (by kernel_rfl) 29 (.tmp 7) rfl (w.heap.size+1+1) 0 rfl C _ (fun w h=>h.2.2.1) Tryz.underlying29 rfl (by rw[hCl];exact AD) (fun _ _ _ h=>h) rfl ?_;clear hcl hkn;intro hcl hkn
  try simp only[Bn]
  refine Ae 5 _ (i:=1) rfl (by kernel_rfl) (by kernel_rfl) (by kernel_rfl) hcl hkn (by rfl) 0 rfl (by kernel_rfl) 29 (.tmp 5) rfl (w.heap.size) 0 rfl X _ (fun w h=>h.1) Tryz.underlying29 rfl (by rw[hXl];exact AD) (fun _ _ _ h=>h) rfl ?_;clear hcl hkn;intro hcl hkn
  try simp only[Bn]
  refine Ae 5 _ (i:=3) rfl (by kernel_rfl) (by kernel_rfl) (by kernel_rfl) hcl hkn (by rfl) 0 rfl (by kernel_rfl) 29 (.tmp 7) rfl (w.heap.size+1+1) 0 rfl C _ (fun w h=>h.2.2.1) Tryz.underlying29 rfl (by rw[hCl];exact AD) (fun _ _ _ h=>h) rfl ?_;clear hcl hkn;intro hcl hkn
  try simp only[Bn]
  refine AV hcl (i:=2) (by kernel_rfl) rfl rfl (fun K hK=>?_);go_simp;refine(HBn.out 2 tc tx C X _ (Sd (Sa _)) (HTc.out _ (Sd (Sa _))) (HTx.out _ (Sd (Sa _)))).mono ?_;rintro e4 w4 ⟨P,rfl,hP,k4⟩;have g4:A5 w3 w4:=(Sd (Sa w3)).trans k4;refine hK _ _ (AJ (.inr (HF.out w4 g4))) ?_;have HP:=S9 hP;clear hK K hP k4;clear hcl hkn;intro hcl hkn
  try simp only[Bn]
  refine AV hcl (i:=4) (by kernel_rfl) rfl rfl (fun K hK=>?_);go_simp;refine(HBn.out 3 (BB 2 tc tx) tc P C _ g4 HP.out (HTc.out _ g4)).mono ?_;rintro e5 w5 ⟨U,rfl,hU,k5⟩;have g5:A5 w3 w5:=g4.trans k5;refine hK _ _ (AJ (.inr (HF.out w5 g5))) ?_;have hU1:=AY hU;have hUl:U.length=11:=(by obtain⟨a,b,c,h, -⟩:=hU.open_;rw[h];rfl);have HU:=S9 hU;have HUl:=S9 hUl;clear hK K hU k5 hUl;clear hcl hkn;intro hcl hkn
  try simp only[Bn]
  refine AV hcl (i:=5) (by kernel_rfl) rfl rfl (fun K hK=>?_);refine Bw 29 (.tmp 8) (.tmp 62) (w.heap.size+1+1+1) U (AH 0 0) 29 (by rw[HUl.out];exact AD) HUl.out.symm hU1 rfl rfl rfl (HR8.out w5 g5) ?_;intro w8 hb8 k8;refine hK _ _ (AJ (.inl (by kernel_rfl))) ?_;clear hK K;clear hcl hkn;intro hcl hkn
  try simp only[Bn]
  refine BK (by kernel_rfl) ?_ _;go_wp2_with fail;refine bodyPost_ret (AP rfl rfl (by rw[HUl.out];exact AD) Tryz.underlying29 rfl hb8) rfl ?_;exact HEND.out (BB 3 (BB 2 tc tx) tc) U w5 w8 g5 k8 HU.out ((B7 (f:=3) (by decide) (B7 (f:=2) (by decide) HGd.out.2.2 HGd.out.1) HGd.out.2.2).more (by omega) (by omega))
 ·go_upto_region 18 with fail;refine B8 [(5,GC w z9 X Y C)] (by kernel_rfl) (by intro pp hp;obtain rfl:=SJ.1 hp;exact HF.out _ (Sd (Sa _))) ?_;intro hcl hkn;refine Ae 5 _ (i:=0) rfl (by kernel_rfl) (by kernel_rfl) (by kernel_rfl) hcl hkn (by rfl) 0 rfl (by kernel_rfl) 29 (.tmp 5) rfl (w.heap.size) 0 rfl X _ (fun w h=>h.1) Tryz.underlying29 rfl (by rw[hXl];exact AD) (fun _ _ _ h=>h) rfl ?_;clear hcl hkn;intro hcl hkn
  try simp only[Bn]
  refine Ae 5 _ (i:=1) rfl (by kernel_rfl) (by kernel_rfl) (by kernel_rfl) hcl hkn (by rfl) 0 rfl (by kernel_rfl) 29 (.tmp 7) rfl (w.heap.size+1+1) 0 rfl C _ (fun w h=>h.2.2.1) Tryz.underlying29 rfl (by rw[hCl];exact AD) (fun _ _ _ h=>h) rfl ?_;clear hcl hkn;intro hcl hkn
  try simp only[Bn]
  refine Ae 5 _ (i:=3) rfl (by kernel_rfl) (by kernel_rfl) (by kernel_rfl) hcl hkn (by rfl) 0 rfl (by kernel_rfl) 29 (.tmp 7) rfl (w.heap.size+1+1) 0 rfl C _ (fun w h=>h.2.2.1) Tryz.underlying29 rfl (by rw[hCl];exact AD) (fun _ _ _ h=>h) rfl ?_;clear hcl hkn;intro hcl hkn
  try simp only[Bn]
  refine AV hcl (i:=2) (by kernel_rfl) rfl rfl (fun K hK=>?_);go_simp;refine(HBn.out 3 tx tc X C _ (Sd (Sa _)) (HTx.out _ (Sd (Sa _))) (HTc.out _ (Sd (Sa _)))).mono ?_;rintro e4 w4 ⟨P,rfl,hP,k4⟩;have g4:A5 w3 w4:=(Sd (Sa w3)).trans k4;refine hK _ _ (AJ (.inr (HF.out w4 g4))) ?_;have HP:=S9 hP;clear hK K hP k4;clear hcl hkn;intro hcl hkn
  try simp only[Bn]
  refine AV hcl (i:=4) (by kernel_rfl) rfl rfl (fun K hK=>?_);go_simp;refine(HBn.out 2 (BB 3 tx tc) tc P C _ g4 HP.out (HTc.out _ g4)).mono ?_;rintro e5 w5 ⟨U,rfl,hU,k5⟩;have g5:A5 w3 w5:=g4.trans k5;refine hK _ _ (AJ (.inr (HF.out w5 g5))) ?_;have hU1:=AY hU;have hUl:U.length=11:=(by obtain⟨a,b,c,h, -⟩:=hU.open_;rw[h];rfl);have HU:=S9 hU;have HUl:=S9 hUl;clear hK K hU k5 hUl;clear hcl hkn;intro hcl hkn
  try simp only[Bn]
  refine AV hcl (i:=5) (by kernel_rfl) rfl rfl (fun K hK=>?_);refine Bw 29 (.tmp 8) (.tmp 69) (w.heap.size+1+1+1) U (AH 0 0) 29 (by rw[HUl.out];exact AD) HUl.out.symm hU1 rfl rfl rfl (HR8.out w5 g5) ?_;intro w8 hb8 k8;refine hK _ _ (AJ (.inl (by kernel_rfl))) ?_;clear hK K;clear hcl hkn;intro hcl hkn
  try simp only[Bn]
  refine BK (by kernel_rfl) ?_ _;go_wp2_with fail;refine bodyPost_ret (AP rfl rfl (by rw[HUl.out];exact AD) Tryz.underlying29 rfl hb8) rfl ?_;exact HEND.out (BB 2 (BB 3 tx tc) tc) U w5 w8 g5 k8 HU.out ((B7 (f:=2) (by decide) (B7 (f:=3) (by decide) HGd.out.1 HGd.out.2.2) HGd.out.2.2).more (by omega) (by omega))
 ·go_upto_region 20 with fail;refine B8 [(5,GC w z9 X Y C)] (by kernel_rfl) (by intro pp hp;obtain rfl:=SJ.1 hp;exact HF.out _ (Sd (Sa _))) ?_;intro hcl hkn;refine Ae 5 _ (i:=0) rfl (by kernel_rfl) (by kernel_rfl) (by kernel_rfl) hcl hkn (by rfl) 0 rfl (by kernel_rfl) 29 (.tmp 7) rfl (w.heap.size+1+1) 0 rfl C _ (fun w h=>h.2.2.1) Tryz.underlying29 rfl (by rw[hCl];exact AD) (fun _ _ _ h=>h) rfl ?_;clear hcl hkn;intro hcl hkn
  try simp only[Bn]
  refine Ae 5 _ (i:=1) rfl (by kernel_rfl) (by kernel_rfl) (by kernel_rfl) hcl hkn (by rfl) 0 rfl (by kernel_rfl) 29 (.tmp 5) rfl (w.heap.size) 0 rfl X _ (fun w h=>h.1) Tryz.underlying29 rfl (by rw[hXl];exact AD) (fun _ _ _ h=>h) rfl ?_;clear hcl hkn;intro hcl hkn
  try simp only[Bn]
  refine Ae 5 _ (i:=2) rfl (by kernel_rfl) (by kernel_rfl) (by kernel_rfl) hcl hkn (by rfl) 0 rfl (by kernel_rfl) 29 (.tmp 7) rfl (w.heap.size+1+1) 0 rfl C _ (fun w h=>h.2.2.1) Tryz.underlying29 rfl (by rw[hCl];exact AD) (fun _ _ _ h=>h) rfl ?_;clear hcl hkn;intro hcl hkn
  try simp only[Bn]
  refine AV hcl (i:=3) (by kernel_rfl) rfl rfl (fun K hK=>?_);go_simp;refine(HBn.out 3 tx tc X C _ (Sd (Sa _)) (HTx.out _ (Sd (Sa _))) (HTc.out _ (Sd (Sa _)))).mono ?_;rintro e4 w4 ⟨P,rfl,hP,k4⟩;have g4:A5 w3 w4:=(Sd (Sa w3)).trans k4;refine hK _ _ (AJ (.inr (HF.out w4 g4))) ?_;have HP:=S9 hP;clear hK K hP k4;clear hcl hkn;intro hcl hkn
  try simp only[Bn]
  refine AV hcl (i:=4) (by kernel_rfl) rfl rfl (fun K hK=>?_);go_simp;refine(HBn.out 2 tc (BB 3 tx tc) C P _ g4 (HTc.out _ g4) HP.out).mono ?_;rintro e5 w5 ⟨U,rfl,hU,k5⟩;have g5:A5 w3 w5:=g4.trans k5;refine hK _ _ (AJ (.inr (HF.out w5 g5))) ?_;have hU1:=AY hU;have hUl:U.length=11:=(by obtain⟨a,b,c,h, -⟩:=hU.open_;rw[h];rfl);have HU:=S9 hU;have HUl:=S9 hUl;clear hK K hU k5 hUl;clear hcl hkn;intro hcl hkn
  try simp only[Bn]
  refine AV hcl (i:=5) (by kernel_rfl) rfl rfl (fun K hK=>?_);refine Bw 29 (.tmp 8) (.tmp 76) (w.heap.size+1+1+1) U (AH 0 0) 29 (by rw[HUl.out];exact AD) HUl.out.symm hU1 rfl rfl rfl (HR8.out w5 g5) ?_;intro w8 hb8 k8;refine hK _ _ (AJ (.inl (by kernel_rfl))) ?_;clear hK K;clear hcl hkn;intro hcl hkn
  try simp only[Bn]
  refine BK (by kernel_rfl) ?_ _;go_wp2_with fail;refine bodyPost_ret (AP rfl rfl (by rw[HUl.out];exact AD) Tryz.underlying29 rfl hb8) rfl ?_;exact HEND.out (BB 2 tc (BB 3 tx tc)) U w5 w8 g5 k8 HU.out ((B7 (f:=2) (by decide) HGd.out.2.2 (B7 (f:=3) (by decide) HGd.out.1 HGd.out.2.2)).more (by omega) (by omega))
 ·go_upto_region 22 with fail;refine B8 [(5,GC w z9 X Y C)] (by kernel_rfl) (by intro pp hp;obtain rfl:=SJ.1 hp;exact HF.out _ (Sd (Sa _))) ?_;intro hcl hkn;refine Ae 5 _ (i:=0) rfl (by kernel_rfl) (by kernel_rfl) (by kernel_rfl) hcl hkn (by rfl) 0 rfl (by kernel_rfl) 29 (.tmp 5) rfl (w.heap.size) 0 rfl X _ (fun w h=>h.1) Tryz.underlying29 rfl (by rw[hXl];exact AD) (fun _ _ _ h=>h) rfl ?_;clear hcl hkn;intro hcl hkn
  try simp only[Bn]
  refine Ae 5 _ (i:=1) rfl (by kernel_rfl) (by kernel_rfl) (by kernel_rfl) hcl hkn (by rfl) 0 rfl (by kernel_rfl) 29 (.tmp 6) rfl (w.heap.size+1) 0 rfl Y _ (fun w h=>h.2.1) Tryz.underlying29 rfl (by rw[hYl];exact AD) (fun _ _ _ h=>h) rfl ?_;clear hcl hkn;intro hcl hkn
  try simp only[Bn]
  refine Ae 5 _ (i:=2) rfl (by kernel_rfl) (by kernel_rfl) (by kernel_rfl) hcl hkn (by rfl) 0 rfl (by kernel_rfl) 29 (.tmp 9) rfl (z9) 0 rfl (AH 0 1) _ (fun w h=>h.2.2.2) Tryz.underlying29 rfl AD (fun _ _ _ h=>h) rfl ?_;clear hcl hkn;intro hcl hkn
  try simp only[Bn]
  refine AV hcl (i:=3) (by kernel_rfl) rfl rfl (fun K hK=>?_);go_simp;refine(HBn.out 2 ty (BG 0 1) Y (AH 0 1) _ (Sd (Sa _)) (HTy.out _ (Sd (Sa _))) (HTz.out _ (Sd (Sa _)))).mono ?_;rintro e4 w4 ⟨P,rfl,hP,k4⟩;have g4:A5 w3 w4:=(Sd (Sa w3)).trans k4;refine hK _ _ (AJ (.inr (HF.out w4 g4))) ?_;have HP:=S9 hP;clear hK K hP k4;clear hcl hkn;intro hcl hkn
  try simp only[Bn]
  refine AV hcl (i:=4) (by kernel_rfl) rfl rfl (fun K hK=>?_);go_simp;refine(HBn.out 0 tx (BB 2 ty (BG 0 1)) X P _ g4 (HTx.out _ g4) HP.out).mono ?_;rintro e5 w5 ⟨U,rfl,hU,k5⟩;have g5:A5 w3 w5:=g4.trans k5;refine hK _ _ (AJ (.inr (HF.out w5 g5))) ?_;have hU1:=AY hU;have hUl:U.length=11:=(by obtain⟨a,b,c,h, -⟩:=hU.open_;rw[h];rfl);have HU:=S9 hU;have HUl:=S9 hUl;clear hK K hU k5 hUl;clear hcl hkn;intro hcl hkn
  try simp only[Bn]
  refine AV hcl (i:=5) (by kernel_rfl) rfl rfl (fun K hK=>?_);refine Bw 29 (.tmp 8) (.tmp 83) (w.heap.size+1+1+1) U (AH 0 0) 29 (by rw[HUl.out];exact AD) HUl.out.symm hU1 rfl rfl rfl (HR8.out w5 g5) ?_;intro w8 hb8 k8;refine hK _ _ (AJ (.inl (by kernel_rfl))) ?_;clear hK K;clear hcl hkn;intro hcl hkn
  try simp only[Bn]
  refine BK (by kernel_rfl) ?_ _;go_wp2_with fail;refine bodyPost_ret (AP rfl rfl (by rw[HUl.out];exact AD) Tryz.underlying29 rfl hb8) rfl ?_;exact HEND.out (BB 0 tx (BB 2 ty (BG 0 1))) U w5 w8 g5 k8 HU.out ((B7 (f:=0) (by decide) HGd.out.1 (B7 (f:=2) (by decide) HGd.out.2.1 Dh)).more (by omega) (by omega))
 ·go_upto_region 24 with fail;refine B8 [(5,GC w z9 X Y C)] (by kernel_rfl) (by intro pp hp;obtain rfl:=SJ.1 hp;exact HF.out _ (Sd (Sa _))) ?_;intro hcl hkn;refine Ae 5 _ (i:=0) rfl (by kernel_rfl) (by kernel_rfl) (by kernel_rfl) hcl hkn (by rfl) 0 rfl (by kernel_rfl) 29 (.tmp 5) rfl (w.heap.size) 0 rfl X _ (fun w h=>h.1) Tryz.underlying29 rfl (by rw[hXl];exact AD) (fun _ _ _ h=>h) rfl ?_;clear hcl hkn;intro hcl hkn
  try simp only[Bn]
  refine Ae 5 _ (i:=1) rfl (by kernel_rfl) (by kernel_rfl) (by kernel_rfl) hcl hkn (by rfl) 0 rfl (by kernel_rfl) 29 (.tmp 9) rfl (z9) 0 rfl (AH 0 1) _ (fun w h=>h.2.2.2) Tryz.underlying29 rfl AD (fun _ _ _ h=>h) rfl ?_;clear hcl hkn;intro hcl hkn
  try simp only[Bn]
  refine Ae 5 _ (i:=2) rfl (by kernel_rfl) (by kernel_rfl) (by kernel_rfl) hcl hkn (by rfl) 0 rfl (by kernel_rfl) 29 (.tmp 6) rfl (w.heap.size+1) 0 rfl Y _ (fun w h=>h.2.1) Tryz.underlying29 rfl (by rw[hYl];exact AD) (fun _ _ _ h=>h) rfl ?_;clear hcl hkn;intro hcl hkn
  try simp only[Bn]
  refine AV hcl (i:=3) (by kernel_rfl) rfl rfl (fun K hK=>?_);go_simp;refine(HBn.out 2 (BG 0 1) ty (AH 0 1) Y _ (Sd (Sa _)) (HTz.out _ (Sd (Sa _))) (HTy.out _ (Sd (Sa _)))).mono ?_;rintro e4 w4 ⟨P,rfl,hP,k4⟩;have g4:A5 w3 w4:=(Sd (Sa w3)).trans k4;refine hK _ _ (AJ (.inr (HF.out w4 g4))) ?_;have HP:=S9 hP;clear hK K hP k4;clear hcl hkn;intro hcl hkn
  try simp only[Bn]
  refine AV hcl (i:=4) (by kernel_rfl) rfl rfl (fun K hK=>?_);go_simp;refine(HBn.out 0 tx (BB 2 (BG 0 1) ty) X P _ g4 (HTx.out _ g4) HP.out).mono ?_;rintro e5 w5 ⟨U,rfl,hU,k5⟩;have g5:A5 w3 w5:=g4.trans k5;refine hK _ _ (AJ (.inr (HF.out w5 g5))) ?_;have hU1:=AY hU;have hUl:U.length=11:=(by obtain⟨a,b,c,h, -⟩:=hU.open_;rw[h];rfl);have HU:=S9 hU;have HUl:=S9 hUl;clear hK K hU k5 hUl;clear hcl hkn;intro hcl hkn
  try simp only[Bn]
  refine AV hcl (i:=5) (by kernel_rfl) rfl rfl (fun K hK=>?_);refine Bw 29 (.tmp 8) (.tmp 90) (w.heap.size+1+1+1) U (AH 0 0) 29 (by rw[HUl.out];exact AD) HUl.out.symm hU1 rfl rfl rfl (HR8.out w5 g5) ?_;intro w8 hb8 k8;refine hK _ _ (AJ (.inl (by kernel_rfl))) ?_;clear hK K;clear hcl hkn;intro hcl hkn
  try simp only[Bn]
  refine BK (by kernel_rfl) ?_ _;go_wp2_with fail;refine bodyPost_ret (AP rfl rfl (by rw[HUl.out];exact AD) Tryz.underlying29 rfl hb8) rfl ?_;exact HEND.out (BB 0 tx (BB 2 (BG 0 1) ty)) U w5 w8 g5 k8 HU.out ((B7 (f:=0) (by decide) HGd.out.1 (B7 (f:=2) (by decide) Dh HGd.out.2.1)).more (by omega) (by omega))
 ·go_upto_region 26 with fail;refine B8 [(5,GC w z9 X Y C)] (by kernel_rfl) (by intro pp hp;obtain rfl:=SJ.1 hp;exact HF.out _ (Sd (Sa _))) ?_;intro hcl hkn;refine Ae 5 _ (i:=0) rfl (by kernel_rfl) (by kernel_rfl) (by kernel_rfl) hcl hkn (by rfl) 0 rfl (by kernel_rfl) 29 (.tmp 6) rfl (w.heap.size+1) 0 rfl Y _ (fun w h=>h.2.1) Tryz.underlying29 rfl (by rw[hYl];exact AD) (fun _ _ _ h=>h) rfl ?_;clear hcl hkn;intro hcl hkn
  try simp only[Bn]
  refine Ae 5 _ (i:=1) rfl (by kernel_rfl) (by kernel_rfl) (by kernel_rfl) hcl hkn (by rfl) 0 rfl (by kernel_rfl) 29 (.tmp 9) rfl (z9) 0 rfl (AH 0 1) _ (fun w h=>h.2.2.2) Tryz.underlying29 rfl AD (fun _ _ _ h=>h) rfl ?_;clear hcl hkn;intro hcl hkn
  try simp only[Bn]
  refine Ae 5 _ (i:=3) rfl (by kernel_rfl) (by kernel_rfl) (by kernel_rfl) hcl hkn (by rfl) 0 rfl (by kernel_rfl) 29 (.tmp 5) rfl (w.heap.size) 0 rfl X _ (fun w h=>h.1) Tryz.underlying29 rfl (by rw[hXl];exact AD) (fun _ _ _ h=>h) rfl ?_;clear hcl hkn;intro hcl hkn
  try simp only[Bn]
  refine AV hcl (i:=2) (by kernel_rfl) rfl rfl (fun K hK=>?_);go_simp;refine(HBn.out 2 ty (BG 0 1) Y (AH 0 1) _ (Sd (Sa _)) (HTy.out _ (Sd (Sa _))) (HTz.out _ (Sd (Sa _)))).mono ?_;rintro e4 w4 ⟨P,rfl,hP,k4⟩;have g4:A5 w3 w4:=(Sd (Sa w3)).trans k4;refine hK _ _ (AJ (.inr (HF.out w4 g4))) ?_;have HP:=S9 hP;clear hK K hP k4;clear hcl hkn;intro hcl hkn
  try simp only[Bn]
  refine AV hcl (i:=4) (by kernel_rfl) rfl rfl (fun K hK=>?_);go_simp;refine(HBn.out 0 (BB 2 ty (BG 0 1)) tx P X _ g4 HP.out (HTx.out _ g4)).mono ?_;rintro e5 w5 ⟨U,rfl,hU,k5⟩;have g5:A5 w3 w5:=g4.trans k5;refine hK _ _ (AJ (.inr (HF.out w5 g5))) ?_;have hU1:=AY hU;have hUl:U.length=11:=(by obtain⟨a,b,c,h, -⟩:=hU.open_;rw[h];rfl);have HU:=S9 hU;have HUl:=S9 hUl;clear hK K hU k5 hUl;clear hcl hkn;intro hcl hkn
  try simp only[Bn]
  refine AV hcl (i:=5) (by kernel_rfl) rfl rfl (fun K hK=>?_);refine Bw 29 (.tmp 8) (.tmp 97) (w.heap.size+1+1+1) U (AH 0 0) 29 (by rw[HUl.out];exact AD) HUl.out.symm hU1 rfl rfl rfl (HR8.out w5 g5) ?_;intro w8 hb8 k8;refine hK _ _ (AJ (.inl (by kernel_rfl))) ?_;clear hK K;clear hcl hkn;intro hcl hkn
  try simp only[Bn]
  refine BK (by kernel_rfl) ?_ _;go_wp2_with fail;refine bodyPost_ret (AP rfl rfl (by rw[HUl.out];exact AD) Tryz.underlying29 rfl hb8) rfl ?_;exact HEND.out (BB 0 (BB 2 ty (BG 0 1)) tx) U w5 w8 g5 k8 HU.out ((B7 (f:=0) (by decide) (B7 (f:=2) (by decide) HGd.out.2.1 Dh) HGd.out.1).more (by omega) (by omega))
 ·go_upto_region 28 with fail;refine B8 [(5,GC w z9 X Y C)] (by kernel_rfl) (by intro pp hp;obtain rfl:=SJ.1 hp;exact HF.out _ (Sd (Sa _))) ?_;intro hcl hkn;refine Ae 5 _ (i:=0) rfl (by kernel_rfl) (by kernel_rfl) (by kernel_rfl) hcl hkn (by rfl) 0 rfl (by kernel_rfl) 29 (.tmp 9) rfl (z9) 0 rfl (AH 0 1) _ (fun w h=>h.2.2.2) Tryz.underlying29 rfl AD (fun _ _ _ h=>h) rfl ?_;clear hcl hkn;intro hcl hkn
  try simp only[Bn]
  refine Ae 5 _ (i:=1) rfl (by kernel_rfl) (by kernel_rfl) (by kernel_rfl) hcl hkn (by rfl) 0 rfl (by kernel_rfl) 29 (.tmp 6) rfl (w.heap.size+1) 0 rfl Y _ (fun w h=>h.2.1) Tryz.underlying29 rfl (by rw[hYl];exact AD) (fun _ _ _ h=>h) rfl ?_;clear hcl hkn;intro hcl hkn
  try simp only[Bn]
  refine Ae 5 _ (i:=3) rfl (by kernel_rfl) (by kernel_rfl) (by kernel_rfl) hcl hkn (by rfl) 0 rfl (by kernel_rfl) 29 (.tmp 5) rfl (w.heap.size) 0 rfl X _ (fun w h=>h.1) Tryz.underlying29 rfl (by rw[hXl];exact AD) (fun _ _ _ h=>h) rfl ?_;clear hcl hkn;intro hcl hkn
  try simp only[Bn]
  refine AV hcl (i:=2) (by kernel_rfl) rfl rfl (fun K hK=>?_);go_simp;refine(HBn.out 2 (BG 0 1) ty (AH 0 1) Y _ (Sd (Sa _)) (HTz.out _ (Sd (Sa _))) (HTy.out _ (Sd (Sa _)))).mono ?_;rintro e4 w4 ⟨P,rfl,hP,k4⟩;have g4:A5 w3 w4:=(Sd (Sa w3)).trans k4;refine hK _ _ (AJ (.inr (HF.out w4 g4))) ?_;have HP:=S9 hP;clear hK K hP k4;clear hcl hkn;intro hcl hkn
  try simp only[Bn]
  refine AV hcl (i:=4) (by kernel_rfl) rfl rfl (fun K hK=>?_);go_simp;refine(HBn.out 0 (BB 2 (BG 0 1) ty) tx P X _ g4 HP.out (HTx.out _ g4)).mono ?_;rintro e5 w5 ⟨U,rfl,hU,k5⟩;have g5:A5 w3 w5:=g4.trans k5;refine hK _ _ (AJ (.inr (HF.out w5 g5))) ?_;have hU1:=AY hU;have hUl:U.length=11:=(by obtain⟨a,b,c,h, -⟩:=hU.open_;rw[h];rfl);have HU:=S9 hU;have HUl:=S9 hUl;clear hK K hU k5 hUl;clear hcl hkn;intro hcl hkn
  try simp only[Bn]
  refine AV hcl (i:=5) (by kernel_rfl) rfl rfl (fun K hK=>?_);refine Bw 29 (.tmp 8) (.tmp 104) (w.heap.size+1+1+1) U (AH 0 0) 29 (by rw[HUl.out];exact AD) HUl.out.symm hU1 rfl rfl rfl (HR8.out w5 g5) ?_;intro w8 hb8 k8;refine hK _ _ (AJ (.inl (by kernel_rfl))) ?_;clear hK K;clear hcl hkn;intro hcl hkn
  try simp only[Bn]
  refine BK (by kernel_rfl) ?_ _;go_wp2_with fail;refine bodyPost_ret (AP rfl rfl (by rw[HUl.out];exact AD) Tryz.underlying29 rfl hb8) rfl ?_;exact HEND.out (BB 0 (BB 2 (BG 0 1) ty) tx) U w5 w8 g5 k8 HU.out ((B7 (f:=0) (by decide) (B7 (f:=2) (by decide) Dh HGd.out.2.1) HGd.out.1).more (by omega) (by omega))
 ·go_upto_region 30 with fail;refine B8 [(5,GC w z9 X Y C)] (by kernel_rfl) (by intro pp hp;obtain rfl:=SJ.1 hp;exact HF.out _ (Sd (Sa _))) ?_;intro hcl hkn;refine Ae 5 _ (i:=0) rfl (by kernel_rfl) (by kernel_rfl) (by kernel_rfl) hcl hkn (by rfl) 0 rfl (by kernel_rfl) 29 (.tmp 5) rfl (w.heap.size) 0 rfl X _ (fun w h=>h.1) Tryz.underlying29 rfl (by rw[hXl];exact AD) (fun _ _ _ h=>h) rfl ?_;clear hcl hkn;intro hcl hkn
  try simp only[Bn]
  refine Ae 5 _ (i:=1) rfl (by kernel_rfl) (by kernel_rfl) (by kernel_rfl) hcl hkn (by rfl) 0 rfl (by kernel_rfl) 29 (.tmp 6) rfl (w.heap.size+1) 0 rfl Y _ (fun w h=>h.2.1) Tryz.underlying29 rfl (by rw[hYl];exact AD) (fun _ _ _ h=>h) rfl ?_;clear hcl hkn;intro hcl hkn
  try simp only[Bn]
  refine Ae 5 _ (i:=2) rfl (by kernel_rfl) (by kernel_rfl) (by kernel_rfl) hcl hkn (by rfl) 0 rfl (by kernel_rfl) 29 (.tmp 9) rfl (z9) 0 rfl (AH 0 1) _ (fun w h=>h.2.2.2) Tryz.underlying29 rfl AD (fun _ _ _ h=>h) rfl ?_;clear hcl hkn;intro hcl hkn
  try simp only[Bn]
  refine AV hcl (i:=3) (by kernel_rfl) rfl rfl (fun K hK=>?_);go_simp;refine(HBn.out 2 ty (BG 0 1) Y (AH 0 1) _ (Sd (Sa _)) (HTy.out _ (Sd (Sa _))) (HTz.out _ (Sd (Sa _)))).mono ?_;rintro e4 w4 ⟨P,rfl,hP,k4⟩;have g4:A5 w3 w4:=(Sd (Sa w3)).trans k4;refine hK _ _ (AJ (.inr (HF.out w4 g4))) ?_;have HP:=S9 hP;clear hK K hP k4;clear hcl hkn;intro hcl hkn
  try simp only[Bn]
  refine AV hcl (i:=4) (by kernel_rfl) rfl rfl (fun K hK=>?_);go_simp;refine(HBn.out 1 tx (BB 2 ty (BG 0 1)) X P _ g4 (HTx.out _ g4) HP.out).mono ?_;rintro e5 w5 ⟨U,rfl,hU,k5⟩;have g5:A5 w3 w5:=g4.trans k5;refine hK _ _ (AJ (.inr (HF.out w5 g5))) ?_;have hU1:=AY hU;have hUl:U.length=11:=(by obtain⟨a,b,c,h, -⟩:=hU.open_;rw[h];rfl);have HU:=S9 hU;have HUl:=S9 hUl;clear hK K hU k5 hUl;clear hcl hkn;intro hcl hkn
  try simp only[Bn]
  refine AV hcl (i:=5) (by kernel_rfl) rfl rfl (fun K hK=>?_);refine Bw 29 (.tmp 8) (.tmp 111) (w.heap.size+1+1+1) U (AH 0 0) 29 (by rw[HUl.out];exact AD) HUl.out.symm hU1 rfl rfl rfl (HR8.out w5 g5) ?_;intro w8 hb8 k8;refine hK _ _ (AJ (.inl (by kernel_rfl))) ?_;clear hK K;clear hcl hkn;intro hcl hkn
  try simp only[Bn]
  refine BK (by kernel_rfl) ?_ _;go_wp2_with fail;refine bodyPost_ret (AP rfl rfl (by rw[HUl.out];exact AD) Tryz.underlying29 rfl hb8) rfl ?_;exact HEND.out (BB 1 tx (BB 2 ty (BG 0 1))) U w5 w8 g5 k8 HU.out ((B7 (f:=1) (by decide) HGd.out.1 (B7 (f:=2) (by decide) HGd.out.2.1 Dh)).more (by omega) (by omega))
 go_upto_region 31 with fail;refine B8 [(5,GC w z9 X Y C)] (by kernel_rfl) (by intro pp hp;obtain rfl:=SJ.1 hp;exact HF.out _ (Sd (Sa _))) ?_;intro hcl hkn;refine Ae 5 _ (i:=0) rfl (by kernel_rfl) (by kernel_rfl) (by kernel_rfl) hcl hkn (by rfl) 0 rfl (by kernel_rfl) 29 (.tmp 5) rfl (w.heap.size) 0 rfl X _ (fun w h=>h.1) Tryz.underlying29 rfl (by rw[hXl];exact AD) (fun _ _ _ h=>h) rfl ?_;clear hcl hkn;intro hcl hkn
 try simp only[Bn]
 refine Ae 5 _ (i:=1) rfl (by kernel_rfl) (by kernel_rfl) (by kernel_rfl) hcl hkn (by rfl) 0 rfl (by kernel_rfl) 29 (.tmp 9) rfl (z9) 0 rfl (AH 0 1) _ (fun w h=>h.2.2.2) Tryz.underlying29 rfl AD (fun _ _ _ h=>h) rfl ?_;clear hcl hkn;intro hcl hkn
 try simp only[Bn]
 refine Ae 5 _ (i:=2) rfl (by kernel_rfl) (by kernel_rfl) (by kernel_rfl) hcl hkn (by rfl) 0 rfl (by kernel_rfl) 29 (.tmp 6) rfl (w.heap.size+1) 0 rfl Y _ (fun w h=>h.2.1) Tryz.underlying29 rfl (by rw[hYl];exact AD) (fun _ _ _ h=>h) rfl ?_;clear hcl hkn;intro hcl hkn
 try simp only[Bn]
 refine AV hcl (i:=3) (by kernel_rfl) rfl rfl (fun K hK=>?_);go_simp;refine(HBn.out 2 (BG 0 1) ty (AH 0 1) Y _ (Sd (Sa _)) (HTz.out _ (Sd (Sa _))) (HTy.out _ (Sd (Sa _)))).mono ?_;rintro e4 w4 ⟨P,rfl,hP,k4⟩;have g4:A5 w3 w4:=(Sd (Sa w3)).trans k4;refine hK _ _ (AJ (.inr (HF.out w4 g4))) ?_;have HP:=S9 hP;clear hK K hP k4;clear hcl hkn;intro hcl hkn
 try simp only[Bn]
 refine AV hcl (i:=4) (by kernel_rfl) rfl rfl (fun K hK=>?_);go_simp;refine(HBn.out 1 tx (BB 2 (BG 0 1) ty) X P _ g4 (HTx.out _ g4) HP.out).mono ?_;rintro e5 w5 ⟨U,rfl,hU,k5⟩;have g5:A5 w3 w5:=g4.trans k5;refine hK _ _ (AJ (.inr (HF.out w5 g5))) ?_;have hU1:=AY hU;have hUl:U.length=11:=(by obtain⟨a,b,c,h, -⟩:=hU.open_;rw[h];rfl);have HU:=S9 hU;have HUl:=S9 hUl;clear hK K hU k5 hUl;clear hcl hkn;intro hcl hkn
 try simp only[Bn]
 refine AV hcl (i:=5) (by kernel_rfl) rfl rfl (fun K hK=>?_);refine Bw 29 (.tmp 8) (.tmp 116) (w.heap.size+1+1+1) U (AH 0 0) 29 (by rw[HUl.out];exact AD) HUl.out.symm hU1 rfl rfl rfl (HR8.out w5 g5) ?_;intro w8 hb8 k8;refine hK _ _ (AJ (.inl (by kernel_rfl))) ?_;clear hK K;clear hcl hkn;intro hcl hkn
 try simp only[Bn]
 refine BK (by kernel_rfl) ?_ _;go_wp2_with fail;refine bodyPost_ret (AP rfl rfl (by rw[HUl.out];exact AD) Tryz.underlying29 rfl hb8) rfl ?_;exact HEND.out (BB 1 tx (BB 2 (BG 0 1) ty)) U w5 w8 g5 k8 HU.out ((B7 (f:=1) (by decide) HGd.out.1 (B7 (f:=2) (by decide) Dh HGd.out.2.1)).more (by omega) (by omega))
end Go.Proofs.YthpflelgbadkcaaGreatDoor
