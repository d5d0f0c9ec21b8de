/- Series in memory; steps towards ref24.View. -/
import Derived.Test.YthpflelgbadkcaaGreatDoorRewriteTypesP01
import Derived.Test.YthpflelgbadkcaaGreatDoorRewriteTypesP46
import Derived.Test.YthpflelgbadkcaaGreatDoorRewriteTypesP48
import Derived.Test.YthpflelgbadkcaaGreatDoorRewriteTypesP47
import Derived.Test.YthpflelgbadkcaaGreatDoorRewriteTypesP42
import Derived.Test.YthpflelgbadkcaaGreatDoorRewriteTypesP05
import Derived.Test.YthpflelgbadkcaaGreatDoorRewriteTypesP08
import Derived.Test.YthpflelgbadkcaaGreatDoorRewriteTypesP04
import Derived.Deep.DeepCutAuto
set_option maxRecDepth 100000
set_option maxHeartbeats 12800000
set_option linter.unusedVariables false
set_option linter.unusedSimpArgs false
namespace Go.Proofs.YthpflelgbadkcaaGreatDoor
open Go.RowKit Go.Shelf Pl
abbrev Sr:=(Dc×(Fin 10→Int))×List Clm
def QB (w:World) (Q:Nat→Prop) (s:Sr) (cs:List Value):Prop:=∃vl vc,cs=GT s.1.1.1 vl s.1.2++[vc]∧Ba w Q 2 vl (s.1.1.2.map Bi)∧Ba w Q 4 vc (s.2.map Dp)
theorem Ny:KC QB:=fun _ _ _ _ _ _ _ h hq hk=>by
 obtain⟨vl,vc,h1,h2,h3⟩:=h;exact⟨vl,vc,h1,h2.keep hq hk,h3.keep hq hk⟩
def N5 (k:Nat):List (ByteArray×ByteArray):=Lz.getD k []
theorem Nh (w:World) (l:ByteArray×ByteArray) (rest:List Value):Ba (w.alloc (.cells (Bi l++rest).toArray 117)) (fun b=>w.heap.size≤b∧b<(w.alloc (.cells (Bi l++rest).toArray 117)).heap.size) 2 (.slice (some ⟨w.heap.size,0,none⟩) 1 1) [Bi l]:=
 ⟨_,1,rfl,V6 _,fun _=>⟨_,0,rfl,⟨V6 _,by simp⟩,fun j cs hj=>by
  rcases j with _|j
  ·obtain rfl:Bi l=cs:=by simpa using hj
   exact(VW w _ _).rangeN 0 _ rfl
  simp at hj⟩⟩
theorem S5 (w:World) (l m:ByteArray×ByteArray):Ba (w.alloc (.cells (Bi l++Bi m).toArray 117)) (fun b=>w.heap.size≤b∧b<(w.alloc (.cells (Bi l++Bi m).toArray 117)).heap.size) 2 (.slice (some ⟨w.heap.size,0,none⟩) 2 2) [Bi l,Bi m]:=
 ⟨_,2,rfl,V6 _,fun _=>⟨_,0,rfl,⟨V6 _,by simp⟩,fun j cs hj=>by
  rcases j with _|_|j
  ·obtain rfl:Bi l=cs:=by simpa using hj
   exact(VW w _ _).rangeN 0 _ rfl
  ·obtain rfl:Bi m=cs:=by simpa using hj
   exact(VW w _ _).rangeN 2 _ rfl
  simp at hj⟩⟩
def Rp (k:Nat) (w:World) (e:Ending) (w':World):Prop:=∃A n c,e= .returned (.slice A n c)∧Ba w' (fun b=>w.heap.size≤b∧b<w'.heap.size) 2 (.slice A n c) ((N5 k).map Bi)∧A4 w w'
theorem M5 (k:Nat) (hk4:k<4) (w:World):Calls Tryz.prog 44 #[.int .i64 (k:Nat)] w (Rp k w):=by
 have HA:=V3 (LO (k:Int) 4 w (by unfold BI;omega) (by omega) (by omega));have hak:FC (k:Int) (4:Int).toNat=k:=by
  rcases(by omega:k=0∨k=1∨k=2∨k=3)with rfl|rfl|rfl|rfl<;>rfl
 rw[hak]at HA;have hcase:k=0∨k=1∨k=2∨k=3:=by omega
 clear hk4 hak;go_enter Tryz.func44,Tryz.ntmps44;go_wp2_with fail;refine HA.out.mono ?_;rintro e w' ⟨rfl,hw'⟩;rw[hw'];clear hw' w' HA;rcases hcase with rfl|rfl|rfl|rfl
 ·go_wp2_with fail;go_ret;exact⟨_,_,_,rfl,Ba.nil _ _ _,VU _⟩
 ·go_wp2_with fail;go_ret;exact⟨_,_,_,rfl,Nh w (⟨#[104,111,115,116]⟩,⟨#[97]⟩) [],(VU w).alloc _⟩
 ·go_wp2_with fail;go_ret;exact⟨_,_,_,rfl,Nh w (⟨#[104,111,115,116]⟩,⟨#[98]⟩) [],(VU w).alloc _⟩
 go_wp2_with fail;go_ret;exact⟨_,_,_,rfl,S5 w (⟨#[104,111,115,116]⟩,⟨#[98]⟩) (⟨#[122,111,110,101]⟩,⟨#[120]⟩),(VU w).alloc _⟩
structure TS (b i:Nat) (s:Sr):Prop where
 name:s.1.1.1=BP ((b+3*i)%2)
 labels:s.1.1.2=N5 ((b+3*i)%8/2)
 tiny:Ie s.1.2
 zero:s.1.2 5≤0∧0≤s.1.2 6
 life:s.1.2 7≤3∧9≤s.1.2 8
 claims:L4 s.1.2 s.2∧s.2.length≤5
theorem B9.sub {w:World} {base:Nat} {g n c:Nat} {xs:List Int} (h:B9 w base 3 (.slice (some ⟨g,0,none⟩) n c) (xs.map vi)) {i j:Nat} (hij:i≤j) (hj:j≤n):Rd w w.heap.size (.slice (some ⟨g,i,none⟩) (j-i) (c-i)) (((xs.drop i).take (j-i)).map vi):=by
 rcases h.form with⟨h1, -⟩|⟨g',cap,cur,h1,h2,h3,h4,h5,h6,h7⟩
 ·injection h1 with h1;cases h1
 injection h1 with e1 e2 e3;injection e1 with e1;injection e1 with e1;subst e1 e2 e3;rw[List.length_map]at h4 h7 hj;have hl:(((xs.drop i).take (j-i)).map vi).length=j-i:=by rw[List.length_map,List.length_take,List.length_drop];omega
 refine⟨_,_,by rw[hl],by rw[hl];omega,fun _=>⟨_,rfl,h3.lt,fun k u hu=>?_⟩⟩;rw[Addr.add_mid,h3.cell];rw[List.getElem?_map,List.getElem?_take]at hu;split at hu
 ·rw[List.getElem?_drop,←List.getElem?_map,←h7,List.getElem?_take]at hu;split at hu
  ·rw[←hu,Array.getElem?_toList]
  cases hu
 cases hu
theorem Pg {P:Program} {t e:TypeId} {bytes:Nat} {z:Value} {o:Oper} {a:Act} (T:SI P t e bytes z) (x y y':Operand) (ho:o.op= .slice t x (some y) (some y') none) {g n c i j:Nat} (hx:a.eval x= .slice (some ⟨g,0,none⟩) n c) (hy:a.eval y= .int .i64 (i:Nat)) (hz:a.eval y'= .int .i64 (j:Nat)) (hij:i≤j) (hj:j≤c) (hi:i<c) (w:World):
  (execOp a.eval o).run P w= .ok (.value (.slice (some ⟨g,i,none⟩) (j-i) (c-i))) w:=by
 obtain⟨inf,hinf, -,hsz, -⟩:=info_parts T.info;unfold execOp;simp only[ho,hx,hy,hz,Option.map_some,Option.map_none];simp[Instr.sliceAt,Instr.slice,run_underlying T.under,Instr.sliceBounds,Instr.sliceBound,asIntOf,sizeOf,typeInfo,hinf,hsz,Addr.add];rw[VN hj,VN hij,VM (by omega)];by_cases h0:i=0
 ·subst h0;rfl
 rw[VM h0]
theorem CG.toQ {w:World} {base:Nat} {v:Value} {cs:List Clm} (h:CG w base v cs):Ba w (fun b=>base≤b∧b<w.heap.size) 4 v (cs.map Dp):=by
 rcases h.form with⟨rfl,rfl⟩|⟨g,cap,cur,rfl,hb,hbox,h1,h2,h3,h4⟩
 ·exact Ba.nil _ _ _
 refine⟨_,cap,by rw[List.length_map],by rw[List.length_map];exact h1,fun _=>⟨g,0,rfl,⟨hb,hbox.lt⟩,fun j r hj k u hk=>?_⟩⟩;have he:I0 4 (cs.map Dp):=fun r hr=>by obtain⟨c, -,rfl⟩:=List.mem_map.1 hr;rfl
 have hf:=ED he hj hk;have hfl:F2 cs=(cs.map Dp).flatten:=by unfold F2;rw[List.flatMap_def]
 have hlt:j*4+k<cs.length*4:=by rw[←IZ,hfl];exact(VG.1 hf).1
 rw[Nat.zero_add,hbox.cell,←Array.getElem?_toList,←hf,←hfl,←h4,List.getElem?_take,VN hlt]
structure VS (wr wk:World) (zd gm cm:Nat) (xs:List Int) (nm:ByteArray) (A:Option Addr) (n c:Nat) (ls:List (ByteArray×ByteArray)) (x:Fin 10→Int):Prop where
 box:AR wk zd 54 (AQ nm (.slice A n c) x).toArray
 grew:A4 wr wk
 row:B9 wk wr.heap.size 3 (.slice (some ⟨gm,0,none⟩) 48 cm) (xs.map vi)
 lab:Ba wk (fun b=>wr.heap.size≤b∧b<wk.heap.size∧b≠zd) 2 (.slice A n c) (ls.map Bi)
 lt:wr.heap.size≤zd
 ne:gm≠zd
theorem VS.step {wr wk w':World} {zd gm cm:Nat} {xs:List Int} {nm nm':ByteArray} {A:Option Addr} {n c:Nat} {ls:List (ByteArray×ByteArray)} {x x':Fin 10→Int} (h:VS wr wk zd gm cm xs nm A n c ls x) (hb:AR w' zd 54 (AQ nm' (.slice A n c) x').toArray) (k:AA (fun i=>i=zd) wk w'):VS wr w' zd gm cm xs nm' A n c ls x':=
 ⟨hb,VV h.grew k (fun i hi e=>by have:=h.lt;omega),h.row.keep k (fun b hb e=>by have h1:gm=b:=(by simpa[Value.ownBlock]using hb);have:=h.ne;omega),h.lab.keep (fun b hb=>⟨hb.2.1,hb.2.2,hb.1,VA hb.2.1 k.size,hb.2.2⟩) k,h.lt,h.ne⟩
theorem VS.more {wr wk w':World} {zd gm cm:Nat} {xs:List Int} {nm:ByteArray} {A:Option Addr} {n c:Nat} {ls:List (ByteArray×ByteArray)} {x:Fin 10→Int} (h:VS wr wk zd gm cm xs nm A n c ls x) (k:A4 wk w'):VS wr w' zd gm cm xs nm A n c ls x:=
 ⟨h.box.grew k,h.grew.trans k,h.row.grew k,h.lab.keep (S:=fun _=>False) (fun b hb=>⟨hb.2.1,(fun h=>h),hb.1,VA hb.2.1 k.size,hb.2.2⟩) k,h.lt,h.ne⟩
def U7:List Value:=UC++[Value.slice none 0 0]
theorem Tk:My Tryz.prog 48 84 13 144 (.agg U7.toArray):=⟨Tryz.underlying48,by kernel_rfl,rfl,by decide,by decide⟩
theorem RI (nm:ByteArray) (A A2:Option Addr) (n c n2 c2:Nat) (x:Fin 10→Int) (W:World):(Instr.build 84 #[(0,.agg (AQ nm (.slice A n c) x).toArray),(1,.slice A2 n2 c2)]).run Tryz.prog W= .ok (.agg (AQ nm (.slice A n c) x++[Value.slice A2 n2 c2]).toArray) W:=by kernel_rfl
theorem Ms (nm:ByteArray) (A A2:Option Addr) (n c n2 c2:Nat) (x:Fin 10→Int):Instr.fill (fun i=>some (i*13,13)) ((Array.range (1*13)).map ((Value.agg U7.toArray).cells[·%(Value.agg U7.toArray).cells.size]!)) [(0,.agg (AQ nm (.slice A n c) x++[Value.slice A2 n2 c2]).toArray)]=some (AQ nm (.slice A n c) x++[Value.slice A2 n2 c2]).toArray:=by kernel_rfl
theorem JT {o:Oper} {a:Act} {w:World} {K:Act→World→Prop} {Q:Exit→Act→World→Prop} (x:Operand) (ho:o.op= .buildSlice 48 1 #[(0,x)]) {nm:ByteArray} {A A2:Option Addr} {n c n2 c2:Nat} {y:Fin 10→Int} (hx:a.eval x= .agg (AQ nm (.slice A n c) y++[Value.slice A2 n2 c2]).toArray)
  (h:K (a.put o.dst (.slice (some ⟨w.heap.size,0,none⟩) 1 1)) (w.alloc (.cells (AQ nm (.slice A n c) y++[Value.slice A2 n2 c2]).toArray 84))):o.wp Tryz.prog a w K Q:=by
 obtain⟨i,hi,hz,hs,hby⟩:=info_parts Tk.info;refine wp_buildSlice 48 84 1 #[(0,x)] ho (AQ nm (.slice A n c) y++[Value.slice A2 n2 c2]).toArray i (.agg U7.toArray) Tryz.underlying48 hi hz (by rw[hs];decide) (by rw[hs];decide) ?_ h;rw[hs];simp only[List.map_toArray,List.map_cons,List.map_nil,hx];exact Ms nm A A2 n c n2 c2 y
theorem T4 (nm:ByteArray) (A A2:Option Addr) (n c n2 c2:Nat) (x:Fin 10→Int):∀v∈AQ nm (.slice A n c) x++[Value.slice A2 n2 c2],v.oneCell'=true:=fun v hv=>by
 rcases List.mem_append.1 hv with h|h
 ·exact LE _ _ _ _ _ v h
 rw[VF.1 h];rfl
theorem B9.some0 {w:World} {base n c:Nat} {A:Option Addr} {xs:List Value} (h:B9 w base 3 (.slice A n c) xs) (hn:0<n):∃g,A=some ⟨g,0,none⟩:=by
 rcases h.form with⟨h1, -⟩|⟨g,cap,cur,h1, -⟩
 ·injection h1 with _ h2;omega
 injection h1 with h2;exact⟨g,h2⟩
theorem PD (v:Value) (l:List Int) (w:World) (h:Rd w w.heap.size v (l.map vi)) (hi:∀x∈l,BI x) (hl:l.length≤1000000000000000):∃nm x,Ie x∧Calls Tryz.prog 43 #[v] w (Ln nm x w):=
 ⟨_,_,NM _ _ _ _ _ _ _ (Db _ _ _ (by decide)) (Db _ _ _ (by decide)) (Db _ _ _ (by decide)) (Db _ _ _ (by decide)) (Db _ _ _ (by decide)) (Db _ _ _ (by decide)),R7 v l w h hi hl⟩
end Go.Proofs.YthpflelgbadkcaaGreatDoor
