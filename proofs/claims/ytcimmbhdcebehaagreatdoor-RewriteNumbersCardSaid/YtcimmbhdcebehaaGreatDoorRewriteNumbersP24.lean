/- What the card of the law stands on: ItoaL, NumPl, ItoaN. -/
import Derived.Test.YtcimmbhdcebehaaGreatDoorRewriteNumbersP01
import Derived.Shelf.Strconv.Itoa3
import Derived.Test.YtcimmbhdcebehaaGreatDoorProg
import Derived.Test.YtcimmbhdcebehaaGreatDoorRewriteNumbersP05
import Derived.Test.YtcimmbhdcebehaaGreatDoorRewriteNumbersP09
import Derived.Lib.ItoaNum
import Derived.Test.YtcimmbhdcebehaaGreatDoorRewriteNumbersP02
set_option maxRecDepth 100000
set_option maxHeartbeats 12800000
set_option linter.unusedVariables false
set_option linter.unusedSimpArgs false
namespace Go.Proofs.YtcimmbhdcebehaaGreatDoor
open Go.Shelf
def itoaL_ren:Go.Shelf.Ren:=⟨fun|171=>68|243=>92|246=>106|283=>113|284=>114|285=>115|286=>116|129=>88|317=>119|318=>120|319=>121|320=>122|337=>123|338=>124|n=>n,fun|3=>3|9=>9|2=>2|4=>4|171=>144|0=>0|53=>70|37=>46|5=>5|173=>146|212=>150|51=>151|20=>20|213=>152|46=>107|232=>155|233=>156|n=>n,fun|17=>6|18=>8|19=>9|n=>n⟩
theorem itoaL:Go.Proofs.LaysM.n171 Tryz.prog itoaL_ren:={
 mixed:=by kernel_rfl
 f129:=Tryz.func88.trans (congrArg some (by kernel_rfl))
 f171:=Tryz.func68.trans (congrArg some (by kernel_rfl))
 f243:=Tryz.func92.trans (congrArg some (by kernel_rfl))
 f246:=Tryz.func106.trans (congrArg some (by kernel_rfl))
 f283:=Tryz.func113.trans (congrArg some (by kernel_rfl))
 f284:=Tryz.func114.trans (congrArg some (by kernel_rfl))
 f285:=Tryz.func115.trans (congrArg some (by kernel_rfl))
 f286:=Tryz.func116.trans (congrArg some (by kernel_rfl))
 f317:=Tryz.func119.trans (congrArg some (by kernel_rfl))
 f318:=Tryz.func120.trans (congrArg some (by kernel_rfl))
 f319:=Tryz.func121.trans (congrArg some (by kernel_rfl))
 f320:=Tryz.func122.trans (congrArg some (by kernel_rfl))
 f337:=Tryz.func123.trans (congrArg some (by kernel_rfl))
 f338:=Tryz.func124.trans (congrArg some (by kernel_rfl))
 t0:=Tryz.underlying0
 a0:=Tryz.isAgg0
 z0:=Tryz.sizeOf0
 v0:=Tryz.zeroValue0
 t2:=Tryz.underlying2
 a2:=Tryz.isAgg2
 z2:=Tryz.sizeOf2
 v2:=Tryz.zeroValue2
 t3:=Tryz.underlying3
 a3:=Tryz.isAgg3
 z3:=Tryz.sizeOf3
 v3:=Tryz.zeroValue3
 t4:=Tryz.underlying4
 a4:=Tryz.isAgg4
 z4:=Tryz.sizeOf4
 v4:=Tryz.zeroValue4
 t5:=Tryz.underlying5
 a5:=Tryz.isAgg5
 z5:=Tryz.sizeOf5
 v5:=Tryz.zeroValue5
 t9:=Tryz.underlying9
 a9:=Tryz.isAgg9
 z9:=Tryz.sizeOf9
 v9:=Tryz.zeroValue9
 t20:=Tryz.underlying20
 a20:=Tryz.isAgg20
 z20:=Tryz.sizeOf20
 v20:=Tryz.zeroValue20
 t37:=Tryz.underlying46
 a37:=Tryz.isAgg46
 z37:=Tryz.sizeOf46
 v37:=Tryz.zeroValue46
 t46:=Tryz.underlying107
 a46:=Tryz.isAgg107
 z46:=Tryz.sizeOf107
 v46:=Tryz.zeroValue107
 t51:=Tryz.underlying151
 a51:=Tryz.isAgg151
 z51:=Tryz.sizeOf151
 v51:=Tryz.zeroValue151
 t53:=Tryz.underlying70
 a53:=Tryz.isAgg70
 z53:=Tryz.sizeOf70
 v53:=Tryz.zeroValue70
 t171:=Tryz.underlying144
 a171:=Tryz.isAgg144
 z171:=Tryz.sizeOf144
 v171:=Tryz.zeroValue144
 t173:=Tryz.underlying146
 a173:=Tryz.isAgg146
 z173:=Tryz.sizeOf146
 v173:=Tryz.zeroValue146
 t212:=Tryz.underlying150
 a212:=Tryz.isAgg150
 z212:=Tryz.sizeOf150
 v212:=Tryz.zeroValue150
 t213:=Tryz.underlying152
 a213:=Tryz.isAgg152
 z213:=Tryz.sizeOf152
 t232:=Tryz.underlying155
 a232:=Tryz.isAgg155
 z232:=Tryz.sizeOf155
 v232:=Tryz.zeroValue155
 t233:=Tryz.underlying156
 a233:=Tryz.isAgg156
 z233:=Tryz.sizeOf156
 v233:=Tryz.zeroValue156
 g17:=by kernel_rfl
 g18:=by kernel_rfl
 g19:=by kernel_rfl
 i0:=by kernel_rfl
 i2:=by kernel_rfl
 i3:=by kernel_rfl
 i4:=by kernel_rfl
 i5:=by kernel_rfl
 i9:=by kernel_rfl
 i20:=by kernel_rfl
 i37:=by kernel_rfl
 i46:=by kernel_rfl
 i51:=by kernel_rfl
 i53:=by kernel_rfl
 i171:=by kernel_rfl
 i173:=by kernel_rfl
 i212:=by kernel_rfl
 i232:=by kernel_rfl
 i233:=by kernel_rfl
 m17:=by kernel_rfl
 m18:=by kernel_rfl
 m19:=by kernel_rfl }
end Go.Proofs.YtcimmbhdcebehaaGreatDoor
namespace Go.Proofs.YtcimmbhdcebehaaGreatDoor
open Pl
def dcN (n:Nat):List Nat:=(Lib.decDigits n).map UInt8.toNat
def prNum (n d:Int):List Nat:=if d=1∧0≤n then dcN n.toNat else 40::((if n<0 then[48,45]else[])++(dcN n.natAbs++((if d=1 then[]else 47::dcN d.toNat)++[41])))
def dval (l:List Nat):Nat:=l.foldl (fun a c=>a*10+(c-48)) 0
theorem dval_snoc (l:List Nat) (c:Nat):dval (l++[c])=dval l*10+(c-48):=by unfold dval;rw[List.foldl_append];rfl
theorem u8_dig {n:Nat} (h:n<10):(UInt8.ofNat (48+n)).toNat=48+n:=by
 rw[UInt8.toNat_ofNat'];omega
theorem dcN_rec (n:Nat):dcN n=if n<10 then[48+n]else dcN (n/10)++[48+n%10]:=by
 unfold dcN;rw[Lib.decDigits];split
 ·rw[List.map_singleton,u8_dig (by assumption)]
 rw[List.map_append,List.map_singleton,u8_dig (Nat.mod_lt _ (by decide))]
theorem dcN_spec (n:Nat):dval (dcN n)=n∧(∀c∈dcN n,48≤c∧c≤57)∧1≤(dcN n).length:=by
 induction n using Nat.strongRecOn with
 |_ n ih=>
  rw[dcN_rec];split
  ·rename_i h
   refine⟨by show 0*10+(48+n-48)=n;omega,fun c hc=>?_,by simp⟩;obtain rfl:=List.mem_singleton.1 hc;omega
  ·rename_i h
   obtain⟨h1,h2,h3⟩:=ih (n/10) (by omega);refine⟨by rw[dval_snoc,h1];omega,fun c hc=>?_,by simp⟩;rcases List.mem_append.1 hc with hc|hc
   ·exact h2 c hc
   obtain rfl:=List.mem_singleton.1 hc;omega
section
variable {s:ByteArray} {p q ds:List Nat} {c:Nat}
theorem bl_size (s:ByteArray):(bl s).length=s.size:=by unfold bl;rw[List.length_map];rfl
theorem bl_get {i:Nat} (h:i<s.size):(bl s)[i]? =some (chr s i):=by
 unfold bl chr;rw[dif_pos h,List.getElem?_map,List.getElem?_eq_getElem (by exact h)];rfl
theorem chr_at (h:bl s=p++c::q):p.length<s.size∧chr s p.length=c:=by
 have hl:p.length<s.size:=by rw[←bl_size,h];simp
 refine⟨hl,?_⟩;have:=bl_get hl;rw[h,List.getElem?_append_right (Nat.le_refl _),Nat.sub_self]at this;simpa using this.symm
theorem end_at (h:bl s=p):¬p.length<s.size:=by rw[←h,bl_size];omega
theorem digC_of (h:48≤c∧c≤57):digC c=true:=decide_eq_true h
theorem run_dec:∀(ds p:List Nat),bl s=p++(ds++q)→(∀c∈ds,48≤c∧c≤57)→(∀c r,q=c::r→digC c=false)→runE s digC (s.size-p.length) p.length=p.length+ds.length
 |[],p,h,_,hq=>by
  refine(runE_stop fun hh=>?_).trans (by simp);cases q with
  |nil=>exact end_at (by simpa using h) hh.1
  |cons c r=>have:=(chr_at (q:=r) (c:=c) (by simpa using h)).2;rw[this,hq c r rfl]at hh;exact absurd hh.2 (by decide)
 |d::ds,p,h,hd,hq=>by
  obtain⟨h1,h2⟩:=chr_at (s:=s) (p:=p) (c:=d) (q:=ds++q) (by simpa using h);rw[runE_step h1 (by rw[h2];exact digC_of (hd d (by simp)))];have:=run_dec ds (p++[d]) (by simpa using h) (fun c hc=>hd c (by simp[hc])) hq;simp only[List.length_append,List.length_cons,List.length_nil,Nat.zero_add]at this ⊢;rw[this];omega
theorem numV_dec (h:bl s=p++(ds++q)):∀k,k≤ds.length→numV s p.length k=dval (ds.take k)
 |0,_=>by simp[numV,dval]
 |k+1,hk=>by
  have hc:chr s (p.length+k)=ds[k]:=by
   have hl:p.length+k<s.size:=by rw[←bl_size,h];simp;omega
   have:=bl_get hl;rw[h,List.getElem?_append_right (by omega),show p.length+k-p.length=k by omega,List.getElem?_append_left (by omega),List.getElem?_eq_getElem (by omega)]at this;exact(Option.some.inj this).symm
  rw[numV,numV_dec h k (by omega),hc,List.take_succ_eq_append_getElem (by omega),dval_snoc]
theorem lex_cons {k i j:Nat} {t:Tok} {ts:List Tok} (h1:i<s.size) (hb:blank (chr s i)=false) (ht:tokAt s i=some (t,j)) (h:lexF s k j=some ts):lexF s (k+1) i=some (t::ts):=by
 rw[lexF,if_pos h1,hb,ht];simp[h]
theorem lex_num {k:Nat} {ts:List Tok} (n:Nat) (hn:n≤1073741824) (h:bl s=p++(dcN n++q)) (hq:∀c r,q=c::r→digC c=false) (hl:lexF s k (p.length+(dcN n).length)=some ts):∃t,t.kind=1∧t.num=n∧lexF s (k+1) p.length=some (t::ts):=by
 obtain⟨h1,h2,h3⟩:=dcN_spec n;have hr:=run_dec _ _ h h2 hq;have hv:=numV_dec h _ (Nat.le_refl _);rw[List.take_length,h1]at hv;obtain⟨c,l,hcl⟩:∃c l,dcN n=c::l:=List.exists_cons_of_length_pos (by omega);obtain⟨hs,hc⟩:=chr_at (s:=s) (p:=p) (c:=c) (q:=l++q) (by rw[h,hcl];rfl);have hd:=h2 c (by rw[hcl];simp);refine⟨⟨1,s.extract p.length (p.length+(dcN n).length),n,p.length⟩,rfl,rfl,lex_cons (j:=p.length+(dcN n).length) hs (by rw[hc];exact decide_eq_false (by omega)) ?_ hl⟩;unfold tokAt;rw[hc,if_neg (by unfold letC;rw[decide_eq_true_iff];omega),if_pos (digC_of hd),hr,show p.length+(dcN n).length-p.length=(dcN n).length by omega,hv,if_pos hn]
theorem lex_sym {k:Nat} {ts:List Tok} (hc:c=40∨c=41∨c=45∨c=47) (h:bl s=p++c::q) (hl:lexF s k (p.length+1)=some ts):∃t,t.kind=3∧t.text.toList.map UInt8.toNat=[c]∧lexF s (k+1) p.length=some (t::ts):=by
 obtain⟨hs,hch⟩:=chr_at h;have hy:symLen s p.length=1:=by
  unfold symLen;rw[hch,if_pos (by rcases hc with rfl|rfl|rfl|rfl<;>rfl)]
 refine⟨⟨3,s.extract p.length (p.length+1),0,p.length⟩,rfl,?_,lex_cons (j:=p.length+1) hs (by rw[hch];exact decide_eq_false (by omega)) ?_ hl⟩
 ·show((s.extract p.length (p.length+1)).toList).map UInt8.toNat=[c];have:bl (s.extract p.length (p.length+1))=((bl s).drop p.length).take 1:=by
   unfold bl;rw[ByteArray.data_extract,Array.toList_extract,List.extract_eq_take_drop,List.map_take,List.map_drop];simp
  rw[ByteArray.toList_eq];show bl (s.extract p.length (p.length+1))=[c];rw[this,h];simp
 unfold tokAt;rw[hch,if_neg (by unfold letC;rw[decide_eq_true_iff];omega),if_neg (by unfold digC;rw[decide_eq_true_iff];omega),if_neg (by omega),hy,if_neg (by decide)]
theorem lex_end {k:Nat} (h:bl s=p):lexF s (k+1) p.length=some []:=by
 rw[lexF,if_neg (end_at h)]
end
def numT (n d:Int):Ex:=
 if d=1∧0≤n then numE n 1 else if n<0 then binE 1 (numE 0 1) (if d=1 then numE n.natAbs 1 else binE 3 (numE n.natAbs 1) (numE d 1))else if d=1 then numE n.natAbs 1 else binE 3 (numE n.natAbs 1) (numE d 1)
theorem isT_nil (k:Nat) (x:ByteArray):isT [] k x=false:=rfl
theorem isT_sym {t:Tok} {c:Nat} (h:t.kind=3) (ht:t.text.toList.map UInt8.toNat=[c]) (us:List Tok) (b:UInt8):isT (t::us) 3 ⟨#[b]⟩=decide (c=b.toNat):=by
 show(decide (t.kind=3)&&(t.text.toList==(⟨#[b]⟩:ByteArray).toList))=_;rw[h];rw[ByteArray.toList_eq]at ht ⊢;obtain⟨u,hu⟩:∃u,t.text.data.toList=[u]:=by
  cases hx:t.text.data.toList with
  |nil=>rw[hx]at ht;cases ht
  |cons u r=>rw[hx]at ht;simp at ht;exact⟨u,by rw[ht.2]⟩
 rw[hu]at ht;show(true&&(t.text.data.toList==_))=_;rw[hu,ByteArray.toList_eq,←(List.cons.inj ht).1];rw[Bool.true_and,Bool.eq_iff_iff,decide_eq_true_iff,beq_iff_eq];show[u]=[b]↔_;exact⟨fun h=>by rw[(List.cons.inj h).1],fun h=>by rw[UInt8.toNat_inj.1 h]⟩
section
variable {k l:Nat} {t v:Tok} {us vs ts:List Tok} {e:Ex} {r:Option (Ex×List Tok)}
theorem fac_num (h:t.kind=1):parP (k+1) 2 (t::us)=some (numE t.num 1,us):=by rw[parP];simp only[h,if_true]
theorem fac_par (h1:¬t.kind=1) (h:isT (t::us) 3 ⟨#[40]⟩=true) (hp:parP k 0 us=some (e,vs)) (hv:isT vs 3 ⟨#[41]⟩=true):parP (k+1) 2 (t::us)=some (e,vs.tail):=by
 rw[parP];simp only[if_neg h1,h,if_true,hp,hv]
theorem term_of (h:parP k 2 ts=some (e,us)) (hl:lopP k 1 e us=r):parP (k+1) 1 ts=r:=by rw[parP,h];exact hl
theorem expr_of (h:parP k 1 ts=some (e,us)) (hl:lopP k 0 e us=r):parP (k+1) 0 ts=r:=by rw[parP,h];exact hl
theorem lop_stop (h1:isT ts 3 (opS (2*l))=false) (h2:isT ts 3 (opS (2*l+1))=false):lopP (k+1) l e ts=some (e,ts):=by rw[lopP,h1,h2];rfl
theorem lop_two {e2:Ex} (h1:isT ts 3 (opS (2*l))=false) (h2:isT ts 3 (opS (2*l+1))=true) (h:parP k (l+1) ts.tail=some (e2,us)) (hl:lopP k l (binE ((2*l+1:Nat):Int) e e2) us=r):lopP (k+1) l e ts=r:=by rw[lopP,h1,h2];simp only[if_true,Bool.false_eq_true,if_false,h];exact hl
end
theorem no_par {t:Tok} {c:Nat} (h:t.kind=3) (ht:t.text.toList.map UInt8.toNat=[c]) (us:List Tok):isT (t::us) 3 (opS 0)=decide (c=43)∧isT (t::us) 3 (opS 1)=decide (c=45)∧isT (t::us) 3 (opS 2)=decide (c=42)∧isT (t::us) 3 (opS 3)=decide (c=47):=
 ⟨isT_sym h ht us 43,isT_sym h ht us 45,isT_sym h ht us 42,isT_sym h ht us 47⟩
theorem parN_frac {k:Nat} (tn tb:Tok) (vs:List Tok) (hn:tn.kind=1) (hb:tb.kind=3) (hbt:tb.text.toList.map UInt8.toNat=[41]):parP (k+3) 1 (tn::tb::vs)=some (numE tn.num 1,tb::vs):=by
 obtain⟨-, -,b2,b3⟩:=no_par hb hbt vs;exact term_of (fac_num hn) (lop_stop b2 b3)
theorem parN_frac2 {k:Nat} (tn ts td tb:Tok) (vs:List Tok) (hn:tn.kind=1) (hs:ts.kind=3) (hst:ts.text.toList.map UInt8.toNat=[47]) (hd:td.kind=1) (hb:tb.kind=3) (hbt:tb.text.toList.map UInt8.toNat=[41]):
  parP (k+4) 1 (tn::ts::td::tb::vs)=some (binE 3 (numE tn.num 1) (numE td.num 1),tb::vs):=by
 obtain⟨-, -,b2,b3⟩:=no_par hb hbt vs;obtain⟨-, -,s2,s3⟩:=no_par hs hst (td::tb::vs);exact term_of (fac_num hn) (lop_two (k:=k+2) s2 s3 (fac_num (k:=k+1) hd) (lop_stop b2 b3))
theorem parN_in {k:Nat} {ta tb:Tok} {us:List Tok} {e:Ex} (ha:ta.kind=3) (hat:ta.text.toList.map UInt8.toNat=[40]) (hb:tb.kind=3) (hbt:tb.text.toList.map UInt8.toNat=[41]) (h:parP k 0 us=some (e,[tb])):parP (k+3) 0 (ta::us)=some (e,[]):=by
 exact expr_of (term_of (fac_par (by rw[ha];decide) (isT_sym ha hat us 40) h (isT_sym hb hbt [] 41)) (lop_stop (isT_nil _ _) (isT_nil _ _))) (lop_stop (isT_nil _ _) (isT_nil _ _))
theorem parN_up {k:Nat} {tb:Tok} {us:List Tok} {e:Ex} (hb:tb.kind=3) (hbt:tb.text.toList.map UInt8.toNat=[41]) (h:parP (k+1) 1 us=some (e,[tb])):parP (k+2) 0 us=some (e,[tb]):=by
 obtain⟨b0,b1, -, -⟩:=no_par hb hbt [];exact expr_of h (lop_stop b0 b1)
theorem parN_neg {k:Nat} {tz tm tb:Tok} {us:List Tok} {e:Ex} (hz:tz.kind=1) (hzn:tz.num=0) (hm:tm.kind=3) (hmt:tm.text.toList.map UInt8.toNat=[45]) (hb:tb.kind=3) (hbt:tb.text.toList.map UInt8.toNat=[41]) (h:parP (k+2) 1 us=some (e,[tb])):parP (k+4) 0 (tz::tm::us)=some (binE 1 (numE 0 1) e,[tb]):=by
 obtain⟨b0,b1, -, -⟩:=no_par hb hbt [];obtain⟨m0,m1,m2,m3⟩:=no_par hm hmt us;have h1:parP (k+3) 1 (tz::tm::us)=some (numE tz.num 1,tm::us):=term_of (fac_num hz) (lop_stop m2 m3);rw[hzn]at h1;exact expr_of h1 (lop_two (k:=k+2) m0 m1 h (lop_stop b0 b1))
def frT (m d:Nat):Ex:=if d=1 then numE m 1 else binE 3 (numE m 1) (numE d 1)
theorem lex_frac {s:ByteArray} {p:List Nat} {k:Nat} (m d:Nat) (hm:m≤1073741824) (hd:d≤1073741824) (h:bl s=p++(dcN m++((if d=1 then[]else 47::dcN d)++[41]))):
  ∃us tb,tb.kind=3∧tb.text.toList.map UInt8.toNat=[41]∧lexF s (k+5) p.length=some us∧∀j,parP (j+4) 1 us=some (frT m d,[tb]):=by
 unfold frT;by_cases h1:d=1
 ·rw[if_pos h1]at h ⊢;obtain⟨tb,hb,hbt,hl⟩:=lex_sym (s:=s) (p:=p++dcN m) (c:=41) (q:=[]) (k:=k+3) (.inr (.inl rfl)) (by simpa using h) (by have:=lex_end (s:=s) (p:=p++dcN m++[41]) (k:=k+2) (by simpa using h);simpa[Nat.add_assoc]using this);obtain⟨tn,hn,hnn,hl2⟩:=lex_num (s:=s) (p:=p) (q:=[41]) (k:=k+4) m hm (by simpa using h) (fun c r e=>by obtain⟨rfl, -⟩:=List.cons.inj e;rfl) (by simpa[Nat.add_assoc]using hl);exact⟨_,tb,hb,hbt,hl2,fun j=>by have:=parN_frac (k:=j+1) tn tb [] hn hb hbt;rwa[hnn]at this⟩
 rw[if_neg h1]at h ⊢;obtain⟨tb,hb,hbt,hl⟩:=lex_sym (s:=s) (p:=p++dcN m++[47]++dcN d) (c:=41) (q:=[]) (k:=k+1) (.inr (.inl rfl)) (by simpa using h) (by have:=lex_end (s:=s) (p:=p++dcN m++[47]++dcN d++[41]) (k:=k) (by simpa using h);simpa[Nat.add_assoc]using this);obtain⟨td,hd1,hdn,hl2⟩:=lex_num (s:=s) (p:=p++dcN m++[47]) (q:=[41]) (k:=k+2) d hd (by simpa using h) (fun c r e=>by obtain⟨rfl, -⟩:=List.cons.inj e;rfl) (by rw[←List.length_append];exact hl);obtain⟨ts,hs,hst,hl3⟩:=lex_sym (s:=s) (p:=p++dcN m) (c:=47) (q:=dcN d++[41]) (k:=k+3) (.inr (.inr (.inr rfl))) (by simpa using h) (by simpa[Nat.add_assoc]using hl2);obtain⟨tn,hn,hnn,hl4⟩:=lex_num (s:=s) (p:=p) (q:=47::(dcN d++[41])) (k:=k+4) m hm (by simpa using h) (fun c r e=>by obtain⟨rfl, -⟩:=List.cons.inj e;rfl) (by simpa[Nat.add_assoc]using hl3);exact⟨_,tb,hb,hbt,hl4,fun j=>by have:=parN_frac2 (k:=j) tn ts td tb [] hn hs hst hd1 hb hbt;rwa[hnn,hdn]at this⟩
theorem parse_num {s:ByteArray} (n d:Int) (hn:n.natAbs≤1073741824) (hd:1≤d∧d≤1073741824) (h:bl s=prNum n d):parseP s=some (numT n d):=by
 unfold prNum at h;unfold numT parseP;by_cases h0:d=1∧0≤n
 ·rw[if_pos h0]at h ⊢;obtain⟨t,ht,htn,hl⟩:=lex_num (s:=s) (p:=[]) (q:=[]) (k:=2000) n.toNat (by omega) (by simpa using h) (fun c r e=>by cases e) (by have:=lex_end (s:=s) (p:=dcN n.toNat) (k:=1999) h;simpa using this);rw[show lexF s 2001 0=some [t]from hl];have hp:parP 8 0 [t]=some (numE t.num 1,[]):=expr_of (term_of (fac_num ht) (lop_stop (isT_nil _ _) (isT_nil _ _))) (lop_stop (isT_nil _ _) (isT_nil _ _));show(match parP 8 0 [t]with
   |some (e,[])=>some e
   |_=>none)=_
  rw[hp,htn];show some (numE ((n.toNat:Nat):Int) 1)=_;rw[Int.toNat_of_nonneg h0.2]
 rw[if_neg h0]at h ⊢;have hdd:(if d=1 then[]else 47::dcN d.toNat)=(if d.toNat=1 then[]else 47::dcN d.toNat):=by
  by_cases h1:d=1
  ·rw[if_pos h1,if_pos (by omega)]
  rw[if_neg h1,if_neg (by omega)]
 rw[hdd]at h;have hfr:frT n.natAbs d.toNat=if d=1 then numE n.natAbs 1 else binE 3 (numE n.natAbs 1) (numE d 1):=by
  unfold frT;by_cases h1:d=1
  ·rw[if_pos h1,if_pos (by omega)]
  rw[if_neg h1,if_neg (by omega),Int.toNat_of_nonneg (by omega)]
 by_cases hneg:n<0
 ·rw[if_pos hneg]at h ⊢;obtain⟨us,tb,hb,hbt,hl,hp⟩:=lex_frac (s:=s) (p:=[40,48,45]) (k:=1993) n.natAbs d.toNat hn (by omega) (by simpa using h);obtain⟨tm,hm,hmt,hl2⟩:=lex_sym (s:=s) (p:=[40,48]) (c:=45) (q:=dcN n.natAbs++((if d.toNat=1 then[]else 47::dcN d.toNat)++[41])) (k:=1998) (.inr (.inr (.inl rfl))) (by simpa using h) hl;have h48:dcN 0=[48]:=by rw[dcN_rec];rfl
  obtain⟨tz,hz,hzn,hl3⟩:=lex_num (s:=s) (p:=[40]) (q:=45::(dcN n.natAbs++((if d.toNat=1 then[]else 47::dcN d.toNat)++[41]))) (k:=1999) 0 (by decide) (by rw[h48];simpa using h) (fun c r e=>by obtain⟨rfl, -⟩:=List.cons.inj e;rfl) (by rw[h48];exact hl2);obtain⟨ta,ha,hat,hl4⟩:=lex_sym (s:=s) (p:=[]) (c:=40) (q:=48::45::(dcN n.natAbs++((if d.toNat=1 then[]else 47::dcN d.toNat)++[41]))) (k:=2000) (.inl rfl) (by simpa using h) hl3;rw[show lexF s 2001 0=some (ta::tz::tm::us)from hl4];show(match parP (4*(us.length+3)+4) 0 (ta::tz::tm::us)with
   |some (e,[])=>some e
   |_=>none)=_
  obtain⟨j,hj⟩:∃j,4*(us.length+3)+4=j+9:=⟨4*(us.length+3)+4-9,by omega⟩;rw[hj,parN_in (k:=j+6) ha hat hb hbt (parN_neg (k:=j+2) hz hzn hm hmt hb hbt (hp j)),hfr]
 rw[if_neg hneg]at h ⊢;obtain⟨us,tb,hb,hbt,hl,hp⟩:=lex_frac (s:=s) (p:=[40]) (k:=1995) n.natAbs d.toNat hn (by omega) (by simpa using h);obtain⟨ta,ha,hat,hl4⟩:=lex_sym (s:=s) (p:=[]) (c:=40) (q:=dcN n.natAbs++((if d.toNat=1 then[]else 47::dcN d.toNat)++[41])) (k:=2000) (.inl rfl) (by simpa using h) hl;rw[show lexF s 2001 0=some (ta::us)from hl4];show(match parP (4*(us.length+1)+4) 0 (ta::us)with
  |some (e,[])=>some e
  |_=>none)=_
 obtain⟨j,hj⟩:∃j,4*(us.length+1)+4=j+8:=⟨4*(us.length+1)+4-8,by omega⟩;have hu:1≤us.length:=by
  cases us with
  |nil=>have:=hp 0;rw[parP]at this;simp[parP]at this
  |cons _ _=>simp
 obtain⟨j,hj⟩:∃j,4*(us.length+1)+4=j+9:=⟨4*(us.length+1)+4-9,by omega⟩;rw[hj,parN_in (k:=j+6) ha hat hb hbt (parN_up (k:=j+4) hb hbt (hp (j+1))),hfr]
end Go.Proofs.YtcimmbhdcebehaaGreatDoor
namespace Go.Proofs.YtcimmbhdcebehaaGreatDoor
open Go.RowKit Pl
def P10 (w:World):Prop:=6<w.heap.size∧Lib.TabIs Tryz.prog w "internal/strconv.uint64pow10" .u64 Lib.pow10Tab
theorem P10.keep {S:Nat→Prop} {w w':World} (h:P10 w) (k:Keeps S w w') (hn:¬S 6):P10 w':=by
 obtain⟨h1,h2⟩:=h;refine⟨Nat.lt_of_lt_of_le h1 k.size,?_⟩;have hg:Tryz.prog.globalNamed "internal/strconv.uint64pow10"=some 6:=by kernel_rfl
 unfold Lib.TabIs World.var? at h2 ⊢;rw[hg]at h2 ⊢;simp only[Option.bind_some]at h2 ⊢;rw[k.block _ h1 hn];exact h2
theorem P10.grew {w w':World} (h:P10 w) (k:Grew w w'):P10 w':=h.keep k fun e=>e
theorem grow_grew (w:World) (k:Nat) (os:Array Obj):Grew w (Sort.grow (w.drewN k) os):=by
 refine⟨rfl,rfl,rfl,?_,fun i hi _=>?_⟩
 ·show w.heap.size≤(w.heap++os).size;rw[Array.size_append];omega
 show(w.heap++os)[i]? =w.heap[i]?;rw[Array.getElem?_append_left hi]
def decS (n:Nat):ByteArray:=⟨(Lib.decDigits n).toArray⟩
theorem bl_decS (n:Nat):bl (decS n)=dcN n:=by unfold bl decS dcN;rw[List.toList_toArray]
theorem itoaN_any (n:Nat) (hn:n<4611686018427387904) (w:World) (ht:P10 w):Calls Tryz.prog 68 #[.int .i64 (n:Nat)] w fun e w'=>e= .returned (.string (decS n))∧Grew w w':=by
 refine(Any.strconv_Itoa itoaL (n:Int) (by omega) (by omega) w ht.2:Calls _ _ _ _ _).mono ?_;rintro e w' ⟨rfl,k,os,rfl⟩;refine⟨?_,grow_grew w k os⟩;unfold decS Lib.itoa;rw[if_neg (by omega),Int.toNat_natCast]
end Go.Proofs.YtcimmbhdcebehaaGreatDoor
