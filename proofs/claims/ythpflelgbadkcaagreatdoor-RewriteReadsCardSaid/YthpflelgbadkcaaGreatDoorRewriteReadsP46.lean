/- What the card of the law stands on: MatchL, DeclR, LateG, LateR. -/
import Derived.Test.YthpflelgbadkcaaGreatDoorRewriteReadsP42
import Derived.Test.YthpflelgbadkcaaGreatDoorRewriteReadsP01
import Derived.Laws.Strings3
import Derived.Deep.OwnRows
import Derived.Test.YthpflelgbadkcaaGreatDoorRewriteReadsP07
import Derived.Test.YthpflelgbadkcaaGreatDoorRewriteReadsP23
set_option maxRecDepth 100000
set_option maxHeartbeats 12800000
set_option linter.unusedVariables false
set_option linter.unusedSimpArgs false
namespace Go.Proofs.YthpflelgbadkcaaGreatDoor
open Go.RowKit Go.Shelf Pl
def Sj (l:ByteArray×ByteArray):List Value:=[.string l.1,.string l.2]
theorem UV (l:ByteArray×ByteArray):∀v∈Sj l,v.oneCell'=true:=by
 intro v hv;simp only[Sj,List.mem_cons,List.not_mem_nil,or_false]at hv;rcases hv with rfl|rfl<;>rfl
theorem Uz (m:Mt):∀v∈Au m,v.oneCell'=true:=by
 intro v hv;simp only[Au,List.mem_cons,List.not_mem_nil,or_false]at hv;rcases hv with rfl|rfl|rfl<;>rfl
theorem U2:(Tryz.prog.info? 117).map (·.size)=some 2:=by kernel_rfl
theorem Ua:(Tryz.prog.info? 68).map (·.size)=some 3:=by kernel_rfl
def U3 (s p:ByteArray):Bool:=decide (p.size≤s.size)&&((s.extract 0 p.size).toList==p.toList)
theorem Tk (s p:ByteArray) (w:World):Calls Tryz.prog 106 #[.string s,.string p] w fun e w'=>e= .returned (.bool (U3 s p))∧w'=w:=by
 unfold U3;go_enter Tryz.func106,Tryz.ntmps106;go_wp2
 ·rename_i h
  go_ret;exact⟨by simp[h],rfl⟩
 ·rename_i h
  go_ret;exact⟨by simp[h],rfl⟩
theorem Tn (s p:ByteArray) (w:World):Calls Tryz.prog 74 #[.string s,.string p] w fun e w'=>e= .returned (.bool (U3 s p))∧w'=w:=by
 have H:=S9 (Tk s p w);go_enter Tryz.func74,Tryz.ntmps74;go_wp2_with(go_at_call 106;(with_reducible refine H.out.mono ?_);rintro e w' ⟨rfl,hw⟩;rw[hw]);go_ret;exact⟨rfl,rfl⟩
def Tr (ls:List (ByteArray×ByteArray)) (n:ByteArray):ByteArray:=match ls.find? (fun l=>l.1.toList==n.toList)with
 |some l=>l.2
 |none=>⟨#[]⟩
theorem U8 {α:Type} {p:α→Bool} {ls:List α} {j:Nat} {x:α} (hx:ls[j]? =some x) (h:(ls.take j).find? p=none):ls.take (j+1)=ls.take j++[x]∧(p x=true→ls.find? p=some x):=by
 have hj:=(SK.1 hx).1;have e1:ls.take (j+1)=ls.take j++[x]:=by rw[←List.take_append_getElem hj,(SK.1 hx).2]
 refine⟨e1,fun hp=>?_⟩;rw[←List.take_append_drop (j+1) ls,e1,List.append_assoc,List.find?_append,h];simp[hp]
theorem Uk (ls:List (ByteArray×ByteArray)) (n:ByteArray) (v:Value) (w:World) (hr:Ch w w.heap.size 2 v (ls.map Sj)) (hn:ls.length≤1000000):Calls Tryz.prog 73 #[v,.string n] w fun e w'=>e= .returned (.string (Tr ls n))∧A5 w w':=by
 obtain⟨A,c,rfl,hc,hx⟩:=hr;rw[List.length_map]at hc hx ⊢;obtain⟨m,hm⟩:∃m,ls.length=m:=⟨_,rfl⟩;rw[hm]at hc hx hn ⊢;have HM:=S9 hm;have HX:=S9 hx;clear hm hx;go_enter Tryz.func73,Tryz.ntmps73;go_wp2_with fail;go_loopw [9] (fun i wr=>∃j:Nat,j≤m∧i= .int .i64 (j:Nat)∧(ls.take j).find? (fun l=>l.1.toList==n.toList)=none∧A5 w wr) (fun i _=>m-(intOf i).toNat)
 case atStart=>exact⟨0,by omega,rfl,rfl,Sa _⟩
 case round=>
  obtain⟨j,hj,rfl,hf,hG⟩:=hrel;have HF:=S9 hf;have HG:=S9 hG;clear hf hG;by_cases hlt:j<m
  ·obtain⟨x,hxj⟩:∃x,ls[j]? =some x:=⟨_,SF (by rw[HM.out];exact hlt)⟩;obtain⟨b,o,hA,hb,hcell⟩:=HX.out (by omega);subst hA;have hrow:=hcell j (Sj x) (by rw[List.getElem?_map,hxj];rfl);have HRw:=S9 (Ao (S:=fun _=>False) hrow hb HG.out (fun h=>h));have HS:=S9 (U8 hxj HF.out);clear hrow hcell hxj hb;obtain⟨q,hq⟩:∃q,(x.1.toList==n.toList)=q:=⟨_,rfl⟩;cases q
   ·have hne:¬(x.1.toList=n.toList):=by simpa using hq
    go_wp2_with(first|((with_reducible refine AG 117 (.tmp 11) rfl ?_);refine wpList_load_mid rfl 117 (.tmp 11) rfl b (o+j*2) rfl (Sj x) _ HRw.out Tryz.underlying117 rfl U2 ?_)|((with_reducible refine AF 117 (.tmp 6) (.tmp 12) rfl ?_);refine Ar 117 (.tmp 6) (.tmp 12) (wr.heap.size) (Sj x) [.string ⟨#[]⟩,.string ⟨#[]⟩] 117 U2 rfl (UV x) rfl rfl rfl rfl (Sc wr 117 _) ?_;intro w6 hb6 k6 d6;have g6:A5 wr w6:=Sb ((Sa wr).alloc _) k6 (fun i hi e=>by omega);have HB6:=S9 hb6;have HG6:=S9 g6;have c0:w6.cell? ⟨wr.heap.size,0,none⟩=some (.string x.1):=hb6.cell 0;have c1:w6.cell? ⟨wr.heap.size,1,none⟩=some (.string x.2):=hb6.cell 1;clear hb6 k6 d6 g6));go_roundw
    case rel=>exact⟨j+1,by omega,by go_num,by rw[HS.out.1,List.find?_append,HF.out];simp[hq],HG.out.trans HG6.out⟩
    case measure=>simp[intOf];omega
   have hne:(x.1.toList=n.toList):=by simpa using hq
   go_wp2_with(first|((with_reducible refine AG 117 (.tmp 11) rfl ?_);refine wpList_load_mid rfl 117 (.tmp 11) rfl b (o+j*2) rfl (Sj x) _ HRw.out Tryz.underlying117 rfl U2 ?_)|((with_reducible refine AF 117 (.tmp 6) (.tmp 12) rfl ?_);refine Ar 117 (.tmp 6) (.tmp 12) (wr.heap.size) (Sj x) [.string ⟨#[]⟩,.string ⟨#[]⟩] 117 U2 rfl (UV x) rfl rfl rfl rfl (Sc wr 117 _) ?_;intro w6 hb6 k6 d6;have g6:A5 wr w6:=Sb ((Sa wr).alloc _) k6 (fun i hi e=>by omega);have HB6:=S9 hb6;have HG6:=S9 g6;have c0:w6.cell? ⟨wr.heap.size,0,none⟩=some (.string x.1):=hb6.cell 0;have c1:w6.cell? ⟨wr.heap.size,1,none⟩=some (.string x.2):=hb6.cell 1;clear hb6 k6 d6 g6));go_ret;exact⟨by unfold Tr;rw[HS.out.2 hq];rfl,HG.out.trans HG6.out⟩
  obtain rfl:j=m:=by omega
  have hall:ls.find? (fun l=>l.1.toList==n.toList)=none:=by have:=HF.out;rwa[List.take_of_length_le (by rw[HM.out];exact SD _)]at this
  have HA:=S9 hall;clear hall;go_wp2_with fail;go_ret;exact⟨by unfold Tr;rw[HA.out];rfl,HG.out⟩
def Uu (ls:List (ByteArray×ByteArray)) (m:Mt):Bool:=if m.2.1=0 then(Tr ls m.1).toList==m.2.2.toList else if m.2.1=1 then !((Tr ls m.1).toList==m.2.2.toList)else if m.2.1=2 then U3 (Tr ls m.1) m.2.2 else false
def TW (ls:List (ByteArray×ByteArray)) (ms:List Mt):Bool:=ms.all (Uu ls)
theorem UT {α:Type} {p:α→Bool} {ls:List α} {j:Nat} {x:α} (hx:ls[j]? =some x) (h:(ls.take j).all p=true):(ls.take (j+1)).all p=p x∧(p x=false→ls.all p=false):=by
 have hj:=(SK.1 hx).1;have e1:ls.take (j+1)=ls.take j++[x]:=by rw[←List.take_append_getElem hj,(SK.1 hx).2]
 refine⟨by rw[e1,List.all_append,h];simp,fun hp=>?_⟩;rw[←List.take_append_drop (j+1) ls,e1,List.all_append,List.all_append];simp[hp]
theorem UF (ls:List (ByteArray×ByteArray)) (ms:List Mt) (v u:Value) (w:World) (hr:Ch w w.heap.size 2 v (ls.map Sj)) (hn:ls.length≤1000000) (hu:Ch w w.heap.size 3 u (ms.map Au)) (hmn:ms.length≤1000000):
  Calls Tryz.prog 41 #[v,u] w fun e w'=>e= .returned (.bool (TW ls ms))∧A5 w w':=by
 have HGt:=S9 (fun w' (g:A5 w w') n=>Uk ls n v w' (hr.keep (SD _) g.size g (fun _ _ h=>h)) hn);obtain⟨A0,c0,rfl, -, -⟩:=hr;obtain⟨A,c,rfl,hc,hx⟩:=hu;rw[List.length_map]at hc hx HGt ⊢;rw[List.length_map];obtain⟨m,hm⟩:∃m,ms.length=m:=⟨_,rfl⟩;rw[hm]at hc hx hmn ⊢;have HM:=S9 hm;have HX:=S9 hx;have HPr:=S9 (fun s p w'=>Tn s p w');clear hm hx;go_enter Tryz.func41,Tryz.ntmps41;go_wp2_with fail;go_loopw [11] (fun i wr=>∃j:Nat,j≤m∧i= .int .i64 (j:Nat)∧(ms.take j).all (Uu ls)=true∧A5 w wr) (fun i _=>m-(intOf i).toNat)
 case atStart=>exact⟨0,by omega,rfl,rfl,Sa _⟩
 case round=>
  obtain⟨j,hj,rfl,hf,hG⟩:=hrel;have HF:=S9 hf;have HG:=S9 hG;clear hf hG;by_cases hlt:j<m
  ·obtain⟨x,hxj⟩:∃x,ms[j]? =some x:=⟨_,SF (by rw[HM.out];exact hlt)⟩;obtain⟨b,o,hA,hb,hcell⟩:=HX.out (by omega);subst hA;have hrow:=hcell j (Au x) (by rw[List.getElem?_map,hxj];rfl);have HRw:=S9 (Ao (S:=fun _=>False) hrow hb HG.out (fun h=>h));have HS:=S9 (UT hxj HF.out);clear hrow hcell hxj hb;go_upto_region 5 with(first|((with_reducible refine AG 68 (.tmp 13) rfl ?_);refine wpList_load_mid rfl 68 (.tmp 13) rfl b (o+j*3) rfl (Au x) _ HRw.out Tryz.underlying68 rfl Ua ?_)|((with_reducible refine AF 68 (.tmp 6) (.tmp 14) rfl ?_);refine Ar 68 (.tmp 6) (.tmp 14) (wr.heap.size) (Au x) [.string ⟨#[]⟩,.int .i64 0,.string ⟨#[]⟩] 68 Ua rfl (Uz x) rfl rfl rfl rfl (Sc wr 68 _) ?_;intro w6 hb6 k6 d6;have g6:A5 wr w6:=Sb ((Sa wr).alloc _) k6 (fun i hi e=>by omega);have HB6:=S9 hb6;have HG6:=S9 g6;have c0:w6.cell? ⟨wr.heap.size,0,none⟩=some (.string x.1):=hb6.cell 0;have c1:w6.cell? ⟨wr.heap.size,1,none⟩=some (.int .i64 x.2.1):=hb6.cell 1;have c2:w6.cell? ⟨wr.heap.size,2,none⟩=some (.string x.2.2):=hb6.cell 2;clear hb6 k6 d6 g6)|(go_at_call 73;(with_reducible refine(HGt.out _ (HG.out.trans HG6.out) x.1).mono ?_);rintro e7 w7 ⟨rfl,k7⟩;have HG7:=S9 k7;have HB7:=S9 (HB6.out.grew k7);have d1:w7.cell? ⟨wr.heap.size,1,none⟩=some (.int .i64 x.2.1):=HB7.out.cell 1;have d2:w7.cell? ⟨wr.heap.size,2,none⟩=some (.string x.2.2):=HB7.out.cell 2;clear k7));have HG9:=S9 (HG.out.trans (HG6.out.trans HG7.out));clear c0 c1 c2 HGt;obtain⟨p,hp⟩:∃p,Uu ls x=p:=⟨_,rfl⟩;rw[hp]at HS;obtain⟨k,hk⟩:∃k,x.2.1=k:=⟨_,rfl⟩;obtain⟨g,hg⟩:∃g,Tr ls x.1=g:=⟨_,rfl⟩;unfold Uu at hp;rw[hk]at d1 hp;rw[hg]at hp ⊢;clear hk hg;by_cases k0:k=0
   ·subst k0;rw[SR rfl]at hp;cases p
    ·first
      |(have hne:¬(g.toList=x.2.2.toList):=by simpa using hp)
      |skip
     go_wp2_with((go_at_call 74;(with_reducible refine(HPr.out _ _ _).mono ?_);rintro e8 w8 ⟨rfl,hw8⟩;rw[hw8,hp];clear hw8));go_ret;exact⟨by show _=Ending.returned (.bool (ms.all (Uu ls)));rw[HS.out.2 (by trivial)];rfl,HG9.out⟩
    first
     |(have hne:g.toList=x.2.2.toList:=by simpa using hp)
     |skip
    go_wp2_with((go_at_call 74;(with_reducible refine(HPr.out _ _ _).mono ?_);rintro e8 w8 ⟨rfl,hw8⟩;rw[hw8,hp];clear hw8));go_roundw
    case rel=>exact⟨j+1,by omega,by go_num,HS.out.1,HG9.out⟩
    case measure=>simp[intOf];omega
   by_cases k1:k=1
   ·subst k1;rw[SQ (by decide),SR rfl]at hp;cases p
    ·have hne:g.toList=x.2.2.toList:=by simpa using hp
     go_wp2_with((go_at_call 74;(with_reducible refine(HPr.out _ _ _).mono ?_);rintro e8 w8 ⟨rfl,hw8⟩;rw[hw8,hp];clear hw8));go_ret;exact⟨by show _=Ending.returned (.bool (ms.all (Uu ls)));rw[HS.out.2 (by trivial)];rfl,HG9.out⟩
    have hne:¬(g.toList=x.2.2.toList):=by simpa using hp
    go_wp2_with((go_at_call 74;(with_reducible refine(HPr.out _ _ _).mono ?_);rintro e8 w8 ⟨rfl,hw8⟩;rw[hw8,hp];clear hw8));go_roundw
    case rel=>exact⟨j+1,by omega,by go_num,HS.out.1,HG9.out⟩
    case measure=>simp[intOf];omega
   by_cases k2:k=2
   ·subst k2;rw[SQ (by decide),SQ (by decide),SR rfl]at hp;cases p
    ·first
      |(have hne:¬(g.toList=x.2.2.toList):=by simpa using hp)
      |skip
     go_wp2_with((go_at_call 74;(with_reducible refine(HPr.out _ _ _).mono ?_);rintro e8 w8 ⟨rfl,hw8⟩;rw[hw8,hp];clear hw8));go_ret;exact⟨by show _=Ending.returned (.bool (ms.all (Uu ls)));rw[HS.out.2 (by trivial)];rfl,HG9.out⟩
    first
     |(have hne:g.toList=x.2.2.toList:=by simpa using hp)
     |skip
    go_wp2_with((go_at_call 74;(with_reducible refine(HPr.out _ _ _).mono ?_);rintro e8 w8 ⟨rfl,hw8⟩;rw[hw8,hp];clear hw8));go_roundw
    case rel=>exact⟨j+1,by omega,by go_num,HS.out.1,HG9.out⟩
    case measure=>simp[intOf];omega
   rw[SQ k0,SQ k1,SQ k2]at hp;have t0:(k==0)=false:=by rw[SA];exact k0
   have t1:(k==1)=false:=by rw[SA];exact k1
   have t2:(k==2)=false:=by rw[SA];exact k2
   subst hp;go_wp2_with((go_at_call 74;(with_reducible refine(HPr.out _ _ _).mono ?_);rintro e8 w8 ⟨rfl,hw8⟩;rw[hw8,hp];clear hw8));go_ret;exact⟨by show _=Ending.returned (.bool (ms.all (Uu ls)));rw[HS.out.2 (by trivial)];rfl,HG9.out⟩
  obtain rfl:j=m:=by omega
  have hall:TW ls ms=true:=by have:=HF.out;rwa[List.take_of_length_le (by rw[HM.out];exact SD _)]at this
  have HA:=S9 hall;clear hall;go_wp2_with fail;go_ret;exact⟨by rw[HA.out];rfl,HG.out⟩
end Go.Proofs.YthpflelgbadkcaaGreatDoor
namespace Go.Proofs.YthpflelgbadkcaaGreatDoor
open Go.RowKit Pl
def Sn (nm:ByteArray) (v:Value) (x:Fin 10→Int):List Value:=
 [.string nm,v,.int .i64 (x 0),.int .i64 (x 1),.int .i64 (x 2),.int .i64 (x 3),.int .i64 (x 4),.int .i64 (x 5),.int .i64 (x 6),.int .i64 (x 7),.int .i64 (x 8),.int .i64 (x 9)]
abbrev VA:=ByteArray×List (ByteArray×ByteArray)
def Te (w:World) (Q:Nat→Prop) (d:VA) (cs:List Value):Prop:=∃vl x,cs=Sn d.1 vl x∧C0 w Q 2 vl (d.2.map Sj)
def TG (w:World) (Q:Nat→Prop) (v:Value) (ds:List VA):Prop:=
 ∃A c,v= .slice A ds.length c∧ds.length≤c∧(0<ds.length→∃b o,A=some ⟨b,o,none⟩∧Q b∧∀j d,ds[j]? =some d→∃cs,w.rangeAt b (o+j*12) cs∧Te w Q d cs)
section
variable {w w':World} {Q Q':Nat→Prop}
theorem Te.keep {S:Nat→Prop} {d:VA} {cs:List Value} (h:Te w Q d cs) (hq:∀b,Q b→b<w.heap.size∧¬S b∧Q' b) (hk:AC S w w'):Te w' Q' d cs:=by
 obtain⟨vl,x,h1,h2⟩:=h;exact⟨vl,x,h1,h2.keep hq hk⟩
theorem TG.keep {v:Value} {ds:List VA} {S:Nat→Prop} (h:TG w Q v ds) (hq:∀b,Q b→b<w.heap.size∧¬S b∧Q' b) (hk:AC S w w'):TG w' Q' v ds:=by
 obtain⟨A,c,hv,hc,hx⟩:=h;refine⟨A,c,hv,hc,fun hn=>?_⟩;obtain⟨b,o,e,hb,hks⟩:=hx hn;refine⟨b,o,e,(hq _ hb).2.2,fun j e' hj=>?_⟩;obtain⟨cs,h1,h2⟩:=hks j e' hj;exact⟨cs,Ao h1 (hq _ hb).1 hk (hq _ hb).2.1,h2.keep hq hk⟩
theorem TG.slice {v:Value} {ds:List VA} (h:TG w Q v ds):∃A n c,v= .slice A n c∧n=ds.length∧n≤c:=by
 obtain⟨A,c,rfl,hc,_⟩:=h;exact⟨A,_,c,rfl,rfl,hc⟩
theorem TG.at_ {A:Option Addr} {n c j:Nat} {ds:List VA} {d:VA} (h:TG w Q (.slice A n c) ds) (hj:ds[j]? =some d):∃b o cs,A=some ⟨b,o,none⟩∧Q b∧w.rangeAt b (o+j*12) cs∧Te w Q d cs:=by
 obtain⟨A',c',hv,_,hx⟩:=h;injection hv with hA;subst hA;have hl:j<ds.length:=(SK.1 hj).1;obtain⟨b,o,rfl,hb,hks⟩:=hx (by omega);obtain⟨cs,h1,h2⟩:=hks j d hj;exact⟨b,o,cs,rfl,hb,h1,h2⟩
end
def Tf (d:VA) (x:Ex):Bool:=decide (x.kind=1)&&(d.1.toList==x.name.toList)&&TW d.2 x.ms
def So (d:VA) (es:List Ex):Nat:=(es.filter (Tf d)).length
def TA (ds:List VA) (es:List Ex):List Nat:=ds.map fun d=>So d es
def TI (ds:List VA) (e1 e2:List Ex) (k:Nat):List Nat:=(ds.take k).map (So · e1)++(ds.drop k).map (So · e2)
def Ud (k:Nat):Value:= .int .i64 (k:Nat)
theorem Sz (d:VA) (es:List Ex) (x:Ex):So d (es++[x])=So d es+(if Tf d x=true then 1 else 0):=by
 unfold So;rw[List.filter_append,SX,List.filter_cons];split<;>rfl
theorem Uo (d:VA) (es:List Ex):So d es≤es.length:=List.length_filter_le _ _
theorem UA (ds:List VA) (e1 e2:List Ex):TI ds e1 e2 0=TA ds e2:=by unfold TI TA;simp
theorem UH (ds:List VA) (e1 e2:List Ex):TI ds e1 e2 ds.length=TA ds e1:=by unfold TI TA;simp
theorem Tw {ds:List VA} {e1 e2:List Ex} {k:Nat} {d:VA} (h:ds[k]? =some d):(TI ds e1 e2 k)[k]? =some (So d e2):=by
 have hk:=(SK.1 h).1;unfold TI;rw[List.getElem?_append_right (by simp;omega),List.length_map,List.length_take,Nat.min_eq_left (by omega),Nat.sub_self,List.getElem?_map,List.getElem?_drop,Nat.add_zero,h];rfl
theorem TS {ds:List VA} {e1 e2:List Ex} {k:Nat} {d:VA} (h:ds[k]? =some d):TI ds e1 e2 (k+1)=(TI ds e1 e2 k).set k (So d e1):=by
 have hk:=(SK.1 h).1;have hd:=(SK.1 h).2;unfold TI;have e3:ds.take (k+1)=ds.take k++[d]:=by rw[←List.take_append_getElem hk,hd]
 have e4:ds.drop k=d::ds.drop (k+1):=by rw[List.drop_eq_getElem_cons hk,hd]
 rw[e3,e4,List.map_append,List.append_assoc,List.set_append];rw[SQ (by simp;omega)];simp[Nat.min_eq_left (Nat.le_of_lt hk)]
theorem TU {ds:List VA} {e1 e2:List Ex} {k:Nat} {d:VA} (h:ds[k]? =some d) (hc:So d e1=So d e2):TI ds e1 e2 (k+1)=TI ds e1 e2 k:=by
 have h2:=Tw (e1:=e1) (e2:=e2) h;obtain⟨h3,h4⟩:=SK.1 h2;rw[TS h,hc,←h4,List.set_getElem_self]
theorem Uj {w:World} {g k c:Nat} {t:TypeId} {L:List Nat} (h:Ag w g t (L.map Ud).toArray):Ag (w.setCell ⟨g,k,none⟩ (Ud c)) g t ((L.set k c).map Ud).toArray:=by
 have:=h.set_ k (Ud c);rwa[List.setIfInBounds_toArray,←List.map_set]at this
theorem UI {ops:Array Oper} {rest:List Oper} {o:Oper} {a:Act} {Q:Exit→Act→World→Prop} {w:World} (hgd:o.guard=none) (l c:Operand) (ho:o.op= .makeSlice 22 l c) (n:Nat) (hl:a.eval l= .int .i64 (n:Nat)) (hc:a.eval c= .int .i64 (n:Nat)) (hn:n≤1000000)
  (h:∀w',Ag w' w.heap.size 3 ((List.replicate n 0).map Ud).toArray→A5 w w'→wpList Tryz.prog ops Q rest (a.put o.dst (.slice (some ⟨w.heap.size,0,none⟩) n n)) w'):wpList Tryz.prog ops Q (o::rest) a w:=by
 refine wpList_plain hgd fun K hK=>?_
 have hrun:=run_make_row' (P:=Tryz.prog) 22 3 (.int .i64 0) 8 Tryz.underlying22 (by kernel_rfl) rfl .i64 .i64 n (by omega) (by omega) w;have hm:madeCells #[Value.int .i64 0] n=((List.replicate n 0).map Ud).toArray:=by
  apply Array.ext
  ·rw[size_madeCells];simp
  intro i h1 h2;simp[madeCells,Ud,Nat.mod_one]
 rw[hm]at hrun;unfold Oper.wp;simp only[execOp,ho,hl,hc,Sem.run_bind,Sem.run_pure,hrun,Result.andThen_ok];exact hK _ _ (h _ (Sc w 3 _) ((Sa w).alloc _))
end Go.Proofs.YthpflelgbadkcaaGreatDoor
namespace Go.Proofs.YthpflelgbadkcaaGreatDoor
open Go.RowKit
section
variable {P:Program} {md:Region.Mode} {ops:Array Oper} {Q:Exit→Act→World→Prop} {Gs:List (Nat×(World→Prop))}
theorem AZ {i:Nat} {oi:Oper} {fuel:Nat} {listed:Array Bool} {a:Act} {w:World} (hcl:B6 md ops listed) (hr:Region.ready md ops listed=[i]) (hi:ops[i]? =some oi) (hgd:Region.wanted oi (yielded ops a.tmps)=true)
  (h:∀K:Act→World→Prop,(∀a' w',BV Gs (listed.setIfInBounds i true) w'→(B6 md ops (listed.setIfInBounds i true)→BV Gs (listed.setIfInBounds i true) w'→Bf P md ops Q Gs fuel (listed.setIfInBounds i true) a' w')→K a' w')→oi.wp P a w K Q):Bf P md ops Q Gs (fuel+1) listed a w:=by
 refine⟨(fun h0=>by rw[hr]at h0;cases h0),fun j hj=>?_⟩;have hj':=hj;rw[hr]at hj;have:j=i:=by simpa using hj
 subst this;unfold wpOp;simp only[hi,hgd,if_true];exact .inl (h _ fun a' w' h1 h2=>⟨h1,h2 (hcl.set hj') h1⟩)
end
section
variable {P:Program} {md:Region.Mode} {ops:Array Oper} {Q:Exit→Act→World→Prop} {Gs:List (Nat×(World→Prop))}
theorem Sm (mid:List Nat) (s:Nat) (A:World→Prop) {i:Nat} {oi:Oper} {v:Value} {fuel:Nat} {listed:Array Bool} {a:Act} {w:World} (hi:ops[i]? =some oi)
  (hs:Region.noSelect ops=true) (hf:Region.free md ops listed i=true) (hr:(Region.ready md ops listed).contains i=true) (hcl:B6 md ops listed) (hK:BV Gs listed w) (hne':(Gs.map (·.1)).contains i=false)
  (k:Nat) (hm':Gs[k]? =some (s,A)) (hw:Ij md ops (s::(mid++[i]))=true)
  (hQ:∀c a w,Q (.panic c) (a.put oi.dst v) w→Q (.panic c) a w) (hgd:Region.wanted oi (yielded ops a.tmps)=true) (hy:∀w,A w→(execOp a.eval oi).run P w= .ok (.value v) w)
  (h:B6 md ops (listed.setIfInBounds i true)→BV Gs (listed.setIfInBounds i true) w→Bf P md ops Q Gs fuel (listed.setIfInBounds i true) (a.put oi.dst v) w):Bf P md ops Q Gs (fuel+1) listed a w:=by
 have hr':i∈Region.ready md ops listed:=by simpa using hr
 have hne:=FW hne';exact Dd hi (Region.noSelect_spec hs) hQ hne fuel listed a w hcl (Region.free_spec hi hf) hr' (.inl ⟨hgd,fun w ⟨l,h1,h2,h3⟩=>hy w (h3 _ (SN hm') (h1.path (getD_both h2) mid s hw))⟩) hK (h (hcl.set hr') ((BV.set hne).2 hK))
theorem Sl {i:Nat} {oi:Oper} {fuel:Nat} {listed:Array Bool} {a:Act} {w:World} (hi:ops[i]? =some oi)
  (hs:Region.noSelect ops=true) (hf:Region.free md ops listed i=true) (hr:(Region.ready md ops listed).contains i=true) (hcl:B6 md ops listed) (hK:BV Gs listed w) (hne':(Gs.map (·.1)).contains i=false)
  (hQ:∀c a w,Q (.panic c) (a.put oi.dst undef) w→Q (.panic c) a w) (hgd:Region.wanted oi (yielded ops a.tmps)=false)
  (h:B6 md ops (listed.setIfInBounds i true)→BV Gs (listed.setIfInBounds i true) w→Bf P md ops Q Gs fuel (listed.setIfInBounds i true) (a.put oi.dst undef) w):Bf P md ops Q Gs (fuel+1) listed a w:=by
 have hr':i∈Region.ready md ops listed:=by simpa using hr
 have hne:=FW hne';exact Dd hi (Region.noSelect_spec hs) hQ hne fuel listed a w hcl (Region.free_spec hi hf) hr' (.inr ⟨hgd,rfl⟩) hK (h (hcl.set hr') ((BV.set hne).2 hK))
end
end Go.Proofs.YthpflelgbadkcaaGreatDoor
