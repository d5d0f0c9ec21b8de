/- What the card of the law stands on: ShB, NatPl, Same, RefA, Frac1, FracPl. -/
import Derived.Test.YtkclnhpofkaclaaGreatDoorRewriteFoldP03
import Derived.Test.YtkclnhpofkaclaaGreatDoorRewriteFoldP01
import Derived.Deep.QuietTactic
import Derived.BigQuiet
set_option maxRecDepth 100000
set_option maxHeartbeats 12800000
set_option linter.unusedVariables false
set_option linter.unusedSimpArgs false
namespace Go.Proofs.YtkclnhpofkaclaaGreatDoor
open Go.RowKit
section
variable {P:Program} {ops:Array Oper} {Q:Exit→Act→World→Prop} {w0:World} {G:Act} {o:Oper} {r:List Oper}
theorem hS (h2:BJ P ops w0 G r) (hw:Region.wanted o (yielded ops G.tmps)=false:=by kernel_rfl) (h:G.put o.dst undef=G:=by kernel_rfl):BJ P ops w0 G (o::r):=MG hw h h2
theorem hP (h2:BJ P ops w0 G r) (hw:Region.wanted o (yielded ops G.tmps)=true:=by kernel_rfl) (h:∀w,A5 w0 w→o.wp P G w (fun a' w'=>a'=G∧A5 w w') (fun _ _ _=>False):=by intro w' hg;go_simp;exact Uv _):BJ P ops w0 G (o::r):=D8 hw h h2
theorem hR (h:∀w,A5 w0 w→o.wp P G w (fun a' w'=>a'=G∧A5 w w') (fun _ _ _=>False)) (h2:BJ P ops w0 G r) (hw:Region.wanted o (yielded ops G.tmps)=true:=by kernel_rfl):BJ P ops w0 G (o::r):=D8 hw h h2
theorem AG {id:Nat} {a:Act} {w:World} (vals:List Value) (hH:BJ P ops w (BQ ops.toList vals a) ops.toList) (h:∀w1,A5 w w1→Q .normal (BQ ops.toList vals a) w1) (hok:Jb ops ops.toList=true:=by kernel_rfl) (hns:(ops.toList.all fun o=>match o.op with| .select _ _=>false|_=>true)=true:=by kernel_rfl):(Code.region id ops false).wp P Q a w:=La vals _ hok hns rfl hH h
end
theorem nf:(∀(α:Type) (l:List α) (i:Nat) (h:i<l.toArray.size),l.toArray[i]=l[i]'(by simpa using h))∧(∀(α:Type) (x:α) (l:List α) (h:0<(x::l).length),(x::l)[0]=x)∧(∀(α:Type) (x:α) (l:List α) (i:Nat) (h:i+1<(x::l).length),(x::l)[i+1]=l[i]'(Nat.lt_of_succ_lt_succ h))∧
  (∀(t:Array Value) (ds) (d:Nat) (v:Value),Act.put ⟨t,ds⟩ (some d) v=⟨t.setIfInBounds d v,ds⟩)∧(∀(a:Act) (v:Value),a.put none v=a)∧
  (∀(l:List Value) (i:Nat) (v:Value),l.toArray.setIfInBounds i v=(l.set i v).toArray)∧(∀(x y:Value) (l:List Value),(x::l).set 0 y=y::l)∧(∀(x y:Value) (l:List Value) (n:Nat),(x::l).set (n+1) y=x::l.set n y):=by
 refine⟨?_,?_,?_,?_,?_,?_,?_,?_⟩<;>intros<;>first|rfl|simp
theorem nz:(∀l:List Oper,l.toArray.toList=l)∧(∀l k:List Oper,l.append k=l++k)∧(∀(o:Oper) (l k:List Oper),o::l++k=o::(l++k))∧(∀l:List Oper,[]++l=l)∧(∀(o:Oper) (os:List Oper) (v:Value) (vs:List Value) (a:Act),BQ (o::os) (v::vs) a=BQ os vs (a.put o.dst v))∧(∀a:Act,BQ [] [] a=a)∧
  (∀(t:Array Value) (ds) (d:Nat) (v:Value),Act.put ⟨t,ds⟩ (some d) v=⟨t.setIfInBounds d v,ds⟩)∧(∀(a:Act) (v:Value),a.put none v=a)∧
  (∀(l:List Value) (i:Nat) (v:Value),l.toArray.setIfInBounds i v=(l.set i v).toArray)∧(∀(x y:Value) (l:List Value),(x::l).set 0 y=y::l)∧(∀(x y:Value) (l:List Value) (n:Nat),(x::l).set (n+1) y=x::l.set n y):=by
 refine⟨?_,?_,?_,?_,?_,?_,?_,?_,?_,?_,?_⟩<;>intros<;>first|rfl|simp
theorem ny:(∀l:List Oper,l.toArray.toList=l)∧(∀(n:Nat) (o:Oper) (os:List Oper),(o::os).take (n+1)=o::os.take n)∧(∀os:List Oper,os.take 0=[])∧(∀(o:Oper) (os:List Oper) (v:Value) (vs:List Value) (a:Act),BQ (o::os) (v::vs) a=BQ os vs (a.put o.dst v))∧(∀a:Act,BQ [] [] a=a)∧
  (∀(t:Array Value) (ds) (d:Nat) (v:Value),Act.put ⟨t,ds⟩ (some d) v=⟨t.setIfInBounds d v,ds⟩)∧(∀(a:Act) (v:Value),a.put none v=a)∧
  (∀(l:List Value) (i:Nat) (v:Value),l.toArray.setIfInBounds i v=(l.set i v).toArray)∧(∀(x y:Value) (l:List Value),(x::l).set 0 y=y::l)∧(∀(x y:Value) (l:List Value) (n:Nat),(x::l).set (n+1) y=x::l.set n y):=by
 refine⟨?_,?_,?_,?_,?_,?_,?_,?_,?_,?_⟩<;>intros<;>first|rfl|simp
section
variable {P:Program} {ops:Array Oper} {w0:World} {G:Act} {o:Oper} {r:List Oper} {T:TypeId} {x:Operand} {b k:Nat} {v:Value}
theorem TF {a:Act} {w:World} {Q:Exit→Act→World→Prop} (hc:w.cell? ⟨b,k,none⟩=some v) (ho:o.op= .load T x) (hl:∀(w:World) (v:Value),w.cell? ⟨b,k,none⟩=some v→(loadVar T ⟨b,k,none⟩).run P w= .ok v w) (hx:a.eval x= .pointer (some ⟨b,k,none⟩)) (hG:a.put o.dst v=a):o.wp P a w (fun a' w'=>a'=a∧A5 w w') Q:=by
 unfold Oper.wp execOp;simp only[ho,hx,Instr.loadAt,Instr.sureAddr,Sem.run_bind,Sem.run_pure,Result.andThen_ok,hl w v hc];exact⟨hG,Uv _⟩
theorem hE (hc:∀w',A5 w0 w'→w'.cell? ⟨b,k,none⟩=some v) (h2:BJ P ops w0 G r) (ho:o.op= .load T x:=by exact rfl) (hx:G.eval x= .pointer (some ⟨b,k,none⟩):=by kernel_rfl) (hl:∀(w:World) (v:Value),w.cell? ⟨b,k,none⟩=some v→(loadVar T ⟨b,k,none⟩).run P w= .ok v w:=by intro w v h;simp[go_sem,h]) (hG:G.put o.dst v=G:=by kernel_rfl) (hw:Region.wanted o (yielded ops G.tmps)=true:=by kernel_rfl):BJ P ops w0 G (o::r):=
 D8 hw (fun w' hg=>TF (hc w' hg) ho hl hx hG) h2
theorem hL {t:TypeId} {cs:Array Value} (k:Nat) (hb:∀w',A5 w0 w'→AK w' b t cs) (h2:BJ P ops w0 G r) (ho:o.op= .load T x:=by exact rfl) (hx:G.eval x= .pointer (some ⟨b,k,none⟩):=by kernel_rfl) (hv:cs[k]? =some v:=by exact rfl) (hl:∀(w:World) (v:Value),w.cell? ⟨b,k,none⟩=some v→(loadVar T ⟨b,k,none⟩).run P w= .ok v w:=by intro w v h;simp[go_sem,h]) (hG:G.put o.dst v=G:=by kernel_rfl) (hw:Region.wanted o (yielded ops G.tmps)=true:=by kernel_rfl):BJ P ops w0 G (o::r):=
 D8 hw (fun w' hg=>TF (((hb w' hg).cell k).trans hv) ho hl hx hG) h2
theorem RT {a:Act} {w:World} {Q:Exit→Act→World→Prop} {f:FuncId} {args:Array Value} (hc:Calls P f args w fun e w'=>e= .returned v∧A5 w w') (he:(execOp a.eval o).run P w= .ok (.enter f args) w) (hG:a.put o.dst v=a):o.wp P a w (fun a' w'=>a'=a∧A5 w w') Q:=by
 unfold Oper.wp;simp only[he,Oper.upon];refine hc.mono fun e w' h=>?_
 obtain⟨rfl,k⟩:=h;exact⟨hG,k⟩
theorem hK {f:FuncId} {args:Array Value} (hc:∀w',A5 w0 w'→Calls P f args w' fun e w''=>e= .returned v∧A5 w' w'') (h2:BJ P ops w0 G r) (he:∀w,(execOp G.eval o).run P w= .ok (.enter f args) w:=by intro w;go_simp;try with_reducible rfl) (hG:G.put o.dst v=G:=by kernel_rfl) (hw:Region.wanted o (yielded ops G.tmps)=true:=by kernel_rfl):BJ P ops w0 G (o::r):=
 D8 hw (fun w' hg=>RT (hc w' hg) (he w') hG) h2
end
section
variable {P:Program} {w0:World} {ia:Option Nat} {i:Nat} {G:Nat→Act} {o:Oper} {r:List Oper} {T:TypeId} {x:Operand} {b k:Nat} {v:Value}
theorem UU (hc:∀w',A5 w0 w'→w'.cell? ⟨b,k,none⟩=some v) (h2:Cf P w0 ia G (i+1) r) (ho:o.op= .load T x:=by exact rfl) (hx:∀z,(G z).eval x= .pointer (some ⟨b,k,none⟩):=by intro z;kernel_rfl) (hl:∀(w:World) (v:Value),w.cell? ⟨b,k,none⟩=some v→(loadVar T ⟨b,k,none⟩).run P w= .ok v w:=by intro w v h;simp[go_sem,h]) (hG:∀z,(G z).put o.dst v=G z:=by intro z;kernel_rfl):Cf P w0 ia G i (o::r):=
 AC (fun z w' hg=>TF (hc w' hg) ho hl (hx z) (hG z)) h2
theorem Dc {f:FuncId} {args:Array Value} (hc:∀w',A5 w0 w'→Calls P f args w' fun e w''=>e= .returned v∧A5 w' w'') (h2:Cf P w0 ia G (i+1) r) (he:∀z w,(execOp (G z).eval o).run P w= .ok (.enter f args) w:=by intro z w;go_simp;try with_reducible rfl) (hG:∀z,(G z).put o.dst v=G z:=by intro z;kernel_rfl):Cf P w0 ia G i (o::r):=
 AC (fun z w' hg=>RT (hc w' hg) (he z w') (hG z)) h2
end
section
variable {ops:Array Oper} {w0:World} {ia:Option Nat} {i:Nat} {F:Nat→Act} {G:Act} {o:Oper} {r:List Oper} {T:TypeId} {x:Operand} {b k n:Nat} {vs:List Value} {t:TypeId}
theorem hM (hm:∀w',A5 w0 w'→w'.rangeAt b k vs) (hr:J3 T n) (h2:BJ Tryz.prog ops w0 G r) (ho:o.op= .load T x:=by exact rfl) (hl:vs.length=n:=by exact rfl) (hx:G.eval x= .pointer (some ⟨b,k,none⟩):=by kernel_rfl) (hG:G.put o.dst (.agg vs.toArray)=G:=by kernel_rfl) (hw:Region.wanted o (yielded ops G.tmps)=true:=by kernel_rfl):BJ Tryz.prog ops w0 G (o::r):=
 D8 hw (fun w' hg=>mM x (hm w' hg) hr ⟨hG,Uv _⟩ ho hl hx) h2
theorem hN (hb:∀w',A5 w0 w'→AK w' b t vs.toArray) (hr:J3 T n) (h2:BJ Tryz.prog ops w0 G r) (ho:o.op= .load T x:=by exact rfl) (hl:vs.length=n:=by exact rfl) (hx:G.eval x= .pointer (some ⟨b,0,none⟩):=by kernel_rfl) (hG:G.put o.dst (.agg vs.toArray)=G:=by kernel_rfl) (hw:Region.wanted o (yielded ops G.tmps)=true:=by kernel_rfl):BJ Tryz.prog ops w0 G (o::r):=
 D8 hw (fun w' hg=>mB x (hb w' hg) hr ⟨hG,Uv _⟩ ho hl hx) h2
theorem UI (hm:∀w',A5 w0 w'→w'.rangeAt b k vs) (hr:J3 T n) (h2:Cf Tryz.prog w0 ia F (i+1) r) (ho:o.op= .load T x:=by exact rfl) (hl:vs.length=n:=by exact rfl) (hx:∀z,(F z).eval x= .pointer (some ⟨b,k,none⟩):=by intro z;kernel_rfl) (hG:∀z,(F z).put o.dst (.agg vs.toArray)=F z:=by intro z;kernel_rfl):Cf Tryz.prog w0 ia F i (o::r):=
 AC (fun z w' hg=>mM x (hm w' hg) hr ⟨hG z,Uv _⟩ ho hl (hx z)) h2
theorem US (hb:∀w',A5 w0 w'→AK w' b t vs.toArray) (hr:J3 T n) (h2:Cf Tryz.prog w0 ia F (i+1) r) (ho:o.op= .load T x:=by exact rfl) (hl:vs.length=n:=by exact rfl) (hx:∀z,(F z).eval x= .pointer (some ⟨b,0,none⟩):=by intro z;kernel_rfl) (hG:∀z,(F z).put o.dst (.agg vs.toArray)=F z:=by intro z;kernel_rfl):Cf Tryz.prog w0 ia F i (o::r):=
 AC (fun z w' hg=>mB x (hb w' hg) hr ⟨hG z,Uv _⟩ ho hl (hx z)) h2
end
section
variable {P:Program} {w0:World} {ia:Option Nat} {s i:Nat} {pures:List Nat} {G:Nat→Act} {o:Oper} {r:List Oper}
theorem hQ (h2:Cf P w0 ia G (i+1) r) (h:∀z w,A5 w0 w→o.wp P (G z) w (fun a' w'=>a'=G z∧A5 w w') (fun _ _ _=>False):=by intro z w' hg;go_simp;exact Uv _):Cf P w0 ia G i (o::r):=AC h h2
theorem hV (h2:Bj P w0 ia s pures G (i+1) r) (h:∀z w,A5 w0 w→o.wp P (G z) w (fun a' w'=>a'=G z∧A5 w w') (fun _ _ _=>False):=by intro z w' hg;go_simp;exact Uv _) (hp:pures.contains i=false:=by decide):Bj P w0 ia s pures G i (o::r):=IN hp h h2
theorem hW (h:∀z w,A5 w0 w→o.wp P (G z) w (fun a' w'=>a'=G z∧A5 w w') (fun _ _ _=>False)) (h2:Bj P w0 ia s pures G (i+1) r) (hp:pures.contains i=false:=by decide):Bj P w0 ia s pures G i (o::r):=IN hp h h2
theorem hU (h2:Bj P w0 ia s pures G (i+1) r) (h:∀z w,o.wp P (G z) w (fun a' w'=>a'=G z∧w'=w) (fun _ _ _=>False):=by intro z w';go_simp) (hp:pures.contains i=true:=by decide):Bj P w0 ia s pures G i (o::r):=M8 hp h h2
theorem hA (h2:Bj P w0 (some i) s pures G (i+1) r) (hp:pures.contains i=false:=by decide):Bj P w0 (some i) s pures G i (o::r):=L4 hp h2
theorem hB (h2:Bj P w0 ia i pures G (i+1) r) (hp:pures.contains i=false:=by decide):Bj P w0 ia i pures G i (o::r):=LD hp h2
end
end Go.Proofs.YtkclnhpofkaclaaGreatDoor
namespace Go.Proofs.YtkclnhpofkaclaaGreatDoor
def dg (n i:Nat):Nat:=n/4294967296^i%4294967296
theorem Fm (n i:Nat):dg n i<4294967296:=Nat.mod_lt _ (by decide)
theorem F4 (i:Nat):0<4294967296^i:=Nat.pow_pos (by decide)
theorem FN (i:Nat):4294967296^(i+1)=4294967296^i*4294967296:=Nat.pow_succ 4294967296 i
theorem Oz {n j k:Nat} (h:j<k):dg (n%4294967296^k) j=dg n j:=by
 obtain⟨d,rfl⟩:∃d,k=j+1+d:=⟨k-(j+1),by omega⟩;unfold dg;rw[Nat.pow_add,FN,Ut,Nat.mod_mul_right_div_self,Nat.mod_mul_right_mod]
theorem LG {n m j k:Nat} (h:j<k) (he:n%4294967296^k=m%4294967296^k):dg n j=dg m j:=by rw[←Oz h,he,Oz h]
theorem Pj {n i:Nat} (h:n<4294967296^i):dg n i=0:=by
 unfold dg;rw[Nat.div_eq_of_lt h]
theorem DK (a i:Nat):a%4294967296^(i+1)=a%4294967296^i+4294967296^i*dg a i:=by rw[FN,Nat.mod_mul];rfl
def M7 (a m b i k:Nat):Nat:=(a%4294967296^(i+k)+m*(4294967296^i*(b%4294967296^k)))/4294967296^(i+k)
theorem Lg (a m b i k:Nat):M7 a m b i k+dg a (i+k)+m*dg b k=(a%4294967296^(i+k+1)+m*(4294967296^i*(b%4294967296^(k+1))))/4294967296^(i+k):=by
 rw[DK a (i+k),DK b k];have e:a%4294967296^(i+k)+4294967296^(i+k)*dg a (i+k)+m*(4294967296^i*(b%4294967296^k+4294967296^k*dg b k))=a%4294967296^(i+k)+m*(4294967296^i*(b%4294967296^k))+4294967296^(i+k)*(dg a (i+k)+m*dg b k):=by
  rw[Nat.mul_add (4294967296^i),Nat.mul_add m,Nat.mul_add (4294967296^(i+k))];have:m*(4294967296^i*(4294967296^k*dg b k))=4294967296^(i+k)*(m*dg b k):=by
   rw[Nat.pow_add];simp only[Ut,Nat.mul_left_comm,Up]
  omega
 rw[e,Nat.add_mul_div_left _ _ (F4 _)];unfold M7;omega
theorem Mx (a m b i k:Nat):(M7 a m b i k+dg a (i+k)+m*dg b k)/4294967296=M7 a m b i (k+1):=by
 rw[Lg,Nat.div_div_eq_div_mul,←FN];rfl
theorem NQ (a m b i k:Nat):(M7 a m b i k+dg a (i+k)+m*dg b k)%4294967296=dg (a+m*(4294967296^i*(b%4294967296^(k+1)))) (i+k):=by
 rw[Lg];unfold dg;rw[←Nat.mod_mul_right_div_self,←Nat.mod_mul_right_div_self,←FN,Nat.mod_add_mod]
theorem N7 (a m b i:Nat):M7 a m b i 0=0:=by
 unfold M7;rw[Nat.pow_zero,Nat.mod_one,Nat.mul_zero,Nat.mul_zero,Nat.add_zero,Nat.add_zero];exact Nat.div_eq_of_lt (Nat.mod_lt _ (F4 _))
theorem RJ (a m b i k:Nat):M7 a m b i k≤m:=by
 unfold M7;have h1:=Nat.mod_lt a (F4 (i+k));have h2:=Nat.mod_lt b (F4 k);have h3:4294967296^i*(b%4294967296^k)+4294967296^i≤4294967296^(i+k):=by
  rw[Nat.pow_add,←Nat.mul_succ];exact Nat.mul_le_mul_left _ h2
 have h5:=F4 i;have h4:m*(4294967296^i*(b%4294967296^k))≤m*4294967296^(i+k):=Nat.mul_le_mul_left _ (by omega);refine Nat.le_of_lt_succ ((Nat.div_lt_iff_lt_mul (F4 _)).2 ?_);rw[Nat.succ_mul];omega
theorem NC (a m b i k j:Nat) (h:j<i+k):dg (a+m*(4294967296^i*(b%4294967296^(k+1)))) j=dg (a+m*(4294967296^i*(b%4294967296^k))) j:=by
 refine LG h ?_;have e:a+m*(4294967296^i*(b%4294967296^(k+1)))=a+m*(4294967296^i*(b%4294967296^k))+4294967296^(i+k)*(m*dg b k):=by
  rw[DK b k,Nat.mul_add,Nat.mul_add,Nat.pow_add];have:m*(4294967296^i*(4294967296^k*dg b k))=4294967296^i*4294967296^k*(m*dg b k):=by
   simp only[Ut,Nat.mul_left_comm,Up]
  omega
 rw[e,Nat.add_mul_mod_self_left]
theorem QZ (a b k:Nat):(M7 a 1 b 0 k+dg a k+dg b k)%4294967296=dg (a+b%4294967296^(k+1)) k:=by
 have h:=NQ a 1 b 0 k;rw[Nat.zero_add,Nat.one_mul,Nat.one_mul,Nat.pow_zero,Nat.one_mul]at h;exact h
theorem Qu (a b k:Nat):(M7 a 1 b 0 k+dg a k+dg b k)/4294967296=M7 a 1 b 0 (k+1):=by
 have h:=Mx a 1 b 0 k;rw[Nat.zero_add,Nat.one_mul]at h;exact h
theorem Nf (a b k j:Nat) (h:j<k):dg (a+b%4294967296^(k+1)) j=dg (a+b%4294967296^k) j:=by
 have h:=NC a 1 b 0 k j (by omega);rw[Nat.one_mul,Nat.one_mul,Nat.pow_zero,Nat.one_mul,Nat.one_mul]at h;exact h
theorem Qd (a b i j:Nat) (hi:i≤8) (h:j<8):dg ((a%4294967296^i)*b+dg a i*(4294967296^i*(b%4294967296^(8-i)))) j=dg ((a%4294967296^(i+1))*b) j:=by
 refine LG h ?_;have hb:b=b%4294967296^(8-i)+4294967296^(8-i)*(b/4294967296^(8-i)):=(Nat.mod_add_div _ _).symm;have e:(a%4294967296^(i+1))*b=(a%4294967296^i)*b+dg a i*(4294967296^i*(b%4294967296^(8-i)))+4294967296^8*(dg a i*(b/4294967296^(8-i))):=by
  rw[DK,Nat.add_mul];have e2:4294967296^i*dg a i*b=dg a i*(4294967296^i*(b%4294967296^(8-i)))+4294967296^8*(dg a i*(b/4294967296^(8-i))):=by
   have e3:4294967296^8=4294967296^i*4294967296^(8-i):=by rw[←Nat.pow_add];congr 1;omega
   rw[e3]
   conv=>lhs;rw[hb]
   generalize 4294967296^i=M;generalize 4294967296^(8-i)=K;rw[Nat.mul_add];simp only[Ut,Nat.mul_left_comm,Up]
  omega
 rw[e,Nat.add_mul_mod_self_left]
def Od (a b i:Nat):Nat:=if a%4294967296^i<b%4294967296^i then 1 else 0
theorem RS (a b i:Nat):Od a b i≤1:=by unfold Od;split<;>omega
theorem RB (a b:Nat):Od a b 0=0:=by unfold Od;rw[Nat.pow_zero,Nat.mod_one,Nat.mod_one];rfl
theorem Rt (a b i:Nat) (h:b≤a):(dg a i+4294967296-dg b i-Od a b i)%4294967296=dg (a-b) i:=by
 have hM:=F4 i;have h1:=Nat.mod_lt a hM;have h2:=Nat.mod_lt b hM;have e1:=Nat.mod_add_div a (4294967296^i);have e2:=Nat.mod_add_div b (4294967296^i);have hd:(a-b)/4294967296^i+b/4294967296^i+Od a b i=a/4294967296^i:=by
  unfold Od;generalize 4294967296^i=M at*;have hq:b/M≤a/M:=Nat.div_le_div_right h;generalize a%M=a0 at*;generalize b%M=b0 at*;generalize a/M=a1 at*;generalize b/M=b1 at*;obtain⟨z,rfl⟩:∃z,a1=b1+z:=⟨a1-b1,by omega⟩;rw[Nat.mul_add]at e1;split
  ·have hz:0<z:=by
    rcases Nat.eq_zero_or_pos z with h0|h0
    ·subst h0;rw[Nat.mul_zero]at e1;omega
    exact h0
   obtain⟨y,rfl⟩:∃y,z=y+1:=⟨z-1,by omega⟩;rw[Nat.mul_add,Nat.mul_one]at e1;have:a-b=(M+a0-b0)+M*y:=by omega
   rw[this,Nat.add_mul_div_left _ _ hM,Nat.div_eq_of_lt (by omega)];omega
  have:a-b=(a0-b0)+M*z:=by omega
  rw[this,Nat.add_mul_div_left _ _ hM,Nat.div_eq_of_lt (by omega)];omega
 have hb:=RS a b i;unfold dg;generalize (a-b)/4294967296^i=z at*;generalize a/4294967296^i=x at*;generalize b/4294967296^i=y at*;omega
theorem Re (a b i:Nat):1-(dg a i+4294967296-dg b i-Od a b i)/4294967296=Od a b (i+1):=by
 have hM:=F4 i;have h1:=Nat.mod_lt a hM;have h2:=Nat.mod_lt b hM;have h3:=Fm a i;have h4:=Fm b i;unfold Od;rw[DK,DK];generalize dg a i=x at*;generalize dg b i=y at*;generalize 4294967296^i=M at*;generalize a%M=a0 at*;generalize b%M=b0 at*;rcases Nat.lt_trichotomy x y with h|h|h
 ·have:=Nat.mul_le_mul_left M (show x+1≤y by omega);rw[Nat.mul_add]at this;rw[Uo (show a0+M*x<b0+M*y by omega)];split<;>omega
 ·subst h;split
  ·rw[Uo (by omega)];omega
  rw[Un (by omega)];omega
 have:=Nat.mul_le_mul_left M (show y+1≤x by omega);rw[Nat.mul_add]at this;rw[Un (show ¬a0+M*x<b0+M*y by omega)];split<;>omega
theorem QS (a i:Nat):dg a i/2+2147483648*(dg a (i+1)%2)=dg (a/2) i:=by
 unfold dg;rw[Nat.div_div_eq_div_mul,Up 2,←Nat.div_div_eq_div_mul,FN,←Nat.div_div_eq_div_mul];generalize a/4294967296^i=x;omega
def CQ (a b:Nat):Int:=if a<b then -1 else if b<a then 1 else 0
theorem Gu (a i:Nat):a/4294967296^i=4294967296*(a/4294967296^(i+1))+dg a i:=by
 unfold dg;rw[FN,←Nat.div_div_eq_div_mul];generalize a/4294967296^i=x;omega
theorem Ja {a b m:Nat} (h:a/m<b/m):a<b:=by
 rcases Nat.lt_or_ge a b with h1|h1
 ·exact h1
 have:=Nat.div_le_div_right (c:=m) h1;omega
theorem Rz {a b i:Nat} (h:a/4294967296^(i+1)=b/4294967296^(i+1)) (hd:dg a i<dg b i):CQ a b= -1:=by
 have:=Ja (a:=a) (b:=b) (m:=4294967296^i) (by rw[Gu,Gu b,h];omega);unfold CQ;rw[Uo this]
theorem S3 {a b i:Nat} (h:a/4294967296^(i+1)=b/4294967296^(i+1)) (hd:dg b i<dg a i):CQ a b=1:=by
 have:=Ja (a:=b) (b:=a) (m:=4294967296^i) (by rw[Gu,Gu a,h];omega);unfold CQ;rw[Un (by omega),Uo this]
theorem Pf {a b i:Nat} (h:a/4294967296^(i+1)=b/4294967296^(i+1)) (hd:dg a i=dg b i):a/4294967296^i=b/4294967296^i:=by rw[Gu,Gu b,h,hd]
theorem Qm {a b:Nat} (h:a/4294967296^0=b/4294967296^0):CQ a b=0:=by
 rw[Nat.pow_zero,Nat.div_one,Nat.div_one]at h;subst h;unfold CQ;simp
theorem Pg {a b:Nat} (ha:a<4294967296^8) (hb:b<4294967296^8) (h:∀i,i<8→dg a i=dg b i):a=b:=by
 have key:∀k,k≤8→a%4294967296^k=b%4294967296^k:=by
  intro k
  induction k with
  |zero=>intro _;rw[Nat.pow_zero,Nat.mod_one,Nat.mod_one]
  |succ k ih=>intro hk;rw[DK,DK,ih (by omega),h k (by omega)]
 have:=key 8 (Ua _);rwa[Nat.mod_eq_of_lt ha,Nat.mod_eq_of_lt hb]at this
end Go.Proofs.YtkclnhpofkaclaaGreatDoor
namespace Go.Proofs.YtkclnhpofkaclaaGreatDoor
open Go.RowKit Pl
theorem K9 {α:Type} {xs ys:List α} {j:Nat} (h:xs.take j=ys.take j) (hx:xs[j]? =ys[j]?):xs.take (j+1)=ys.take (j+1):=by
 rw[List.take_add_one,List.take_add_one,h,hx]
theorem MK {α:Type} {xs ys:List α} {n:Nat} (hx:xs.length≤n) (hy:ys.length≤n) (h:xs.take n=ys.take n):xs=ys:=by
 rwa[List.take_of_length_le hx,List.take_of_length_le hy]at h
def UT (b:Bool):Value:= .bool b
theorem Sa:SV Tryz.prog 22 3 8 (.int .i64 0):=⟨Tryz.underlying22,by kernel_rfl,rfl,by decide⟩
theorem R4 {k:IntKind} {a b:Int} (h:a=b):Ending.returned (.int k a)= .returned (.int k b):=by rw[h]
def Er (n:Int) (m:Nat):Nat:=(if n<0 then -(n+1)else n).toNat%m
theorem EC (n:Int) (m:Nat) (h:0<m):Er n m<m:=Nat.mod_lt _ h
theorem CM (n:Int) (m:Nat) (w:World) (hn:Ah n) (hm:0<m) (hm2:m≤9223372036854775807):
  Calls Tryz.prog 13 #[.int .i64 n,.int .i64 (m:Nat)] w fun e w'=>e= .returned (.int .i64 (Er n m:Nat))∧w=w':=by
 obtain⟨h1,h2⟩:=hn;by_cases h0:n<0
 ·have ha:((-(n+1))%(m:Int))=((Er n m:Nat):Int):=by
   unfold Er;rw[Uo h0,Int.natCast_emod,Int.toNat_of_nonneg (by omega)]
  have hmz:((m:Int)==0)=false:=by rw[UY];omega
  have HA:=UX ha;clear ha;go_enter Tryz.func13,Tryz.ntmps13;go_wp2_with fail;go_ret;exact⟨R4 (by rw[←HA.out,←Int.neg_tmod,Int.tmod_eq_emod_of_nonneg (by omega)]),rfl⟩
 have ha:(n%(m:Int))=((Er n m:Nat):Int):=by
  unfold Er;rw[Un h0,Int.natCast_emod,Int.toNat_of_nonneg (by omega)]
 have hmz:((m:Int)==0)=false:=by rw[UY];omega
 have HA:=UX ha;clear ha;go_enter Tryz.func13,Tryz.ntmps13;go_wp2_with fail;go_ret;exact⟨by rw[←HA.out];rfl,rfl⟩
theorem Gj (a b:Nat) (w:World) (hb:b≤9223372036854775807) (ha:a≤9223372036854775807):
  Calls Tryz.prog 90 #[.int .i64 (a:Nat),.int .i64 (b:Nat)] w fun e w'=>e= .returned (.int .i64 (Nat.gcd a b:Nat))∧∃n,w'=w.drewN n:=by
 go_enter Tryz.func90,Tryz.ntmps90;go_wp2_with fail;go_loopw [0,1] (fun s t wr=>∃(x y m:Nat),s= .int .i64 (x:Nat)∧t= .int .i64 (y:Nat)∧x≤9223372036854775807∧y≤9223372036854775807∧Nat.gcd x y=Nat.gcd a b∧wr=w.drewN m) (fun _ t _=>(intOf t).toNat)
 case atStart=>exact⟨a,b,0,rfl,rfl,ha,hb,rfl,rfl⟩
 case round=>
  obtain⟨x,y,m,rfl,rfl,hx,hy,hg,rfl⟩:=hrel;have HG:=UX hg;clear hg;by_cases h0:y=0
  ·have t0:((y:Int)==0)=true:=by rw[Ud];omega
   have t1:((y:Int) !=0)=false:=by simp;omega
   have HY:=UX h0;clear h0;go_wp2_with fail;go_ret;exact⟨by rw[←HG.out,HY.out,Nat.gcd_zero_right];rfl,m,rfl⟩
  have hy0:0<y:=by omega
  have t0:((y:Int)==0)=false:=by rw[UY];omega
  have t1:((y:Int) !=0)=true:=by simp;omega
  have q0:¬(y:Int)=0:=by omega
  have q1:(x:Int).tmod (y:Int)=((x%y:Nat):Int):=by rw[Int.tmod_eq_emod_of_nonneg (by omega)];rfl
  have hlt:=Nat.mod_lt x hy0;have HGn:=UX (show Nat.gcd y (x%y)=Nat.gcd a b from by rw[←HG.out,Nat.gcd_comm x y,Nat.gcd_rec y x,Nat.gcd_comm]);clear h0;go_wp2_with fail;go_quiet (fail);have HX:=UX (show(x:Int)%(y:Int)=((x%y:Nat):Int)from rfl);rw[HX.out];clear q1 t0 t1;go_wp2_with fail;go_roundw
  case rel=>exact⟨y,x%y,m+nq,rfl,rfl,by omega,by omega,HGn.out,by simp[World.drewN,Uu]⟩
  case measure=>simp[intOf];omega
theorem Q7 (a b:Nat) (w:World) (hb:b≤18446744073709551615) (ha:a≤18446744073709551615):
  Calls Tryz.prog 93 #[.int .u64 (a:Nat),.int .u64 (b:Nat)] w fun e w'=>e= .returned (.int .u64 (Nat.gcd a b:Nat))∧∃n,w'=w.drewN n:=by
 go_enter Tryz.func93,Tryz.ntmps93;go_wp2_with fail;go_loopw [0,1] (fun s t wr=>∃(x y m:Nat),s= .int .u64 (x:Nat)∧t= .int .u64 (y:Nat)∧x≤18446744073709551615∧y≤18446744073709551615∧Nat.gcd x y=Nat.gcd a b∧wr=w.drewN m) (fun _ t _=>(intOf t).toNat)
 case atStart=>exact⟨a,b,0,rfl,rfl,ha,hb,rfl,rfl⟩
 case round=>
  obtain⟨x,y,m,rfl,rfl,hx,hy,hg,rfl⟩:=hrel;have HG:=UX hg;clear hg;by_cases h0:y=0
  ·have t0:((y:Int)==0)=true:=by rw[Ud];omega
   have t1:((y:Int) !=0)=false:=by simp;omega
   have HY:=UX h0;clear h0;go_wp2_with fail;go_ret;exact⟨by rw[←HG.out,HY.out,Nat.gcd_zero_right];rfl,m,rfl⟩
  have hy0:0<y:=by omega
  have t0:((y:Int)==0)=false:=by rw[UY];omega
  have t1:((y:Int) !=0)=true:=by simp;omega
  have q0:¬(y:Int)=0:=by omega
  have q1:(x:Int).tmod (y:Int)=((x%y:Nat):Int):=by rw[Int.tmod_eq_emod_of_nonneg (by omega)];rfl
  have hlt:=Nat.mod_lt x hy0;have HGn:=UX (show Nat.gcd y (x%y)=Nat.gcd a b from by rw[←HG.out,Nat.gcd_comm x y,Nat.gcd_rec y x,Nat.gcd_comm]);clear h0;go_wp2_with fail;go_quiet (fail);have HX:=UX (show(x:Int)%(y:Int)=((x%y:Nat):Int)from rfl);rw[HX.out];clear q1 t0 t1;go_wp2_with fail;go_roundw
  case rel=>exact⟨y,x%y,m+nq,rfl,rfl,by omega,by omega,HGn.out,by simp[World.drewN,Uu]⟩
  case measure=>simp[intOf];omega
theorem GJ (n:Int) (w:World) (h: -9223372036854775808<n) (h2:n≤9223372036854775807):
  Calls Tryz.prog 96 #[.int .i64 n] w fun e w'=>e= .returned (.int .i64 (n.natAbs:Nat))∧w'=w:=by
 by_cases h0:n<0
 ·have t0:decide (n<0)=true:=by simpa using h0
  have HV:=UX (show((n.natAbs:Nat):Int)= -n from by omega);go_enter Tryz.func96,Tryz.ntmps96;go_wp2;go_ret;exact⟨by rw[HV.out];rfl,rfl⟩
 have t0:decide (n<0)=false:=by simpa using h0
 have HV:=UX (show((n.natAbs:Nat):Int)=n from by omega);go_enter Tryz.func96,Tryz.ntmps96;go_wp2;go_ret;exact⟨by rw[HV.out];rfl,rfl⟩
end Go.Proofs.YtkclnhpofkaclaaGreatDoor
namespace Go.Proofs.YtkclnhpofkaclaaGreatDoor
theorem MN {t a b:Nat} (h1:t∣a) (h2:t∣b) (hc:a.gcd b=1):t=1:=Nat.dvd_one.1 (hc▸Nat.dvd_gcd h1 h2)
theorem NT {a b:Int} {p q:Nat} (h1:a.natAbs.gcd p=1) (h2:q.gcd p=1):(a*(q:Int)+b*(p:Int)).natAbs.gcd p=1:=by
 have hp:(a*(q:Int)+b*(p:Int)).natAbs.gcd p∣p:=Nat.gcd_dvd_right _ _;have hn:(a*(q:Int)+b*(p:Int)).natAbs.gcd p∣(a*(q:Int)+b*(p:Int)).natAbs:=Nat.gcd_dvd_left _ _;generalize (a*(q:Int)+b*(p:Int)).natAbs.gcd p=t at*;have h3:(t:Int)∣a*(q:Int)+b*(p:Int):=Int.ofNat_dvd_left.2 hn;have h4:(t:Int)∣b*(p:Int):=Int.dvd_mul_of_dvd_right (Int.natCast_dvd_natCast.2 hp);have h5:(t:Int)∣a*(q:Int):=by
  have:=Int.dvd_sub h3 h4;rwa[Int.add_sub_cancel]at this
 have h6:t∣a.natAbs*q:=by
  have:=Int.ofNat_dvd_left.1 h5;rwa[Int.natAbs_mul,Int.natAbs_natCast]at this
 have h7:(a.natAbs*q).gcd p=1:=Nat.Coprime.mul_left h1 h2;exact MN h6 hp h7
theorem KH (a b:Int) (d1 d2:Nat) (h1:0<d1) (c1:a.natAbs.gcd d1=1) (c2:b.natAbs.gcd d2=1):
  (a*((d2/d1.gcd d2:Nat):Int)+b*((d1/d1.gcd d2:Nat):Int)).natAbs.gcd ((d1/d1.gcd d2)*d2)=(a*((d2/d1.gcd d2:Nat):Int)+b*((d1/d1.gcd d2:Nat):Int)).natAbs.gcd (d1.gcd d2):=by
 have hg:0<d1.gcd d2:=Nat.gcd_pos_of_pos_left _ h1;obtain⟨p,hp⟩:=Nat.gcd_dvd_left d1 d2;obtain⟨q,hq⟩:=Nat.gcd_dvd_right d1 d2;have hcop:=Nat.coprime_div_gcd_div_gcd (m:=d1) (n:=d2) hg;generalize hgg:d1.gcd d2=g at*;have e1:d1/g=p:=by rw[hp,Nat.mul_div_cancel_left _ hg]
 have e2:d2/g=q:=by rw[hq,Nat.mul_div_cancel_left _ hg]
 rw[e1,e2]at hcop ⊢;have ca:a.natAbs.gcd p=1:=Nat.Coprime.coprime_dvd_right ⟨g,by rw[hp];exact Up _ _⟩ c1;have cb:b.natAbs.gcd q=1:=Nat.Coprime.coprime_dvd_right ⟨g,by rw[hq];exact Up _ _⟩ c2;have k1:(a*(q:Int)+b*(p:Int)).natAbs.gcd p=1:=NT ca (by rw[Nat.gcd_comm];exact hcop);have k2:(a*(q:Int)+b*(p:Int)).natAbs.gcd q=1:=by
  rw[Int.add_comm];exact NT cb hcop
 generalize (a*(q:Int)+b*(p:Int)).natAbs=n at*;rw[hq,Nat.Coprime.gcd_mul_left_cancel_right _ (Nat.Coprime.symm k1),Up g q,Nat.Coprime.gcd_mul_left_cancel_right _ (Nat.Coprime.symm k2)]
theorem KC (a b d1 d2:Nat) (h1:0<d1) (h2:0<d2) (c1:a.gcd d1=1) (c2:b.gcd d2=1):
  ((a/a.gcd d2)*(b/b.gcd d1)).gcd ((d1/b.gcd d1)*(d2/a.gcd d2))=1:=by
 have hg:0<a.gcd d2:=Nat.gcd_pos_of_pos_right _ h2;have hh:0<b.gcd d1:=Nat.gcd_pos_of_pos_right _ h1;have k1:=Nat.coprime_div_gcd_div_gcd (m:=a) (n:=d2) hg;have k2:=Nat.coprime_div_gcd_div_gcd (m:=b) (n:=d1) hh;have da:a/a.gcd d2∣a:=Nat.div_dvd_of_dvd (Nat.gcd_dvd_left _ _);have db:b/b.gcd d1∣b:=Nat.div_dvd_of_dvd (Nat.gcd_dvd_left _ _);have dd1:d1/b.gcd d1∣d1:=Nat.div_dvd_of_dvd (Nat.gcd_dvd_right _ _);have dd2:d2/a.gcd d2∣d2:=Nat.div_dvd_of_dvd (Nat.gcd_dvd_right _ _);have k3:(a/a.gcd d2).gcd (d1/b.gcd d1)=1:=Nat.Coprime.coprime_dvd_left da (Nat.Coprime.coprime_dvd_right dd1 c1);have k4:(b/b.gcd d1).gcd (d2/a.gcd d2)=1:=Nat.Coprime.coprime_dvd_left db (Nat.Coprime.coprime_dvd_right dd2 c2);exact Nat.Coprime.mul_left (Nat.Coprime.mul_right k3 k1) (Nat.Coprime.mul_right k2 k4)
end Go.Proofs.YtkclnhpofkaclaaGreatDoor
