/- The card of the law RewriteTypes: for every input it returns true and leaves its arguments as they were. -/
import Derived.Test.YthpflelgbadkcaaGreatDoorRewriteTypesP01
import Derived.Test.YthpflelgbadkcaaGreatDoorRewriteTypesP18
import Derived.Test.YthpflelgbadkcaaGreatDoorRewriteTypesP51
set_option maxRecDepth 100000
set_option maxHeartbeats 12800000
set_option linter.unusedVariables false
set_option linter.unusedSimpArgs false
namespace Go.Proofs.YthpflelgbadkcaaGreatDoor.rewriteTypes
open Go.ChangeShapes Go.WideShapes Go.ChangeAt Go.RowKit Pl
theorem Jf (H:Type) (enc:TypeId×Value→H) (W:World) (base:Nat) (args:Array Value) (ds gs:List (DataW H)) (before:List MemPlace)
  (hval:∀(j:Nat) t v,Tryz.f5.params[j]? =some t→args[j]? =some v→Value.okWide Tryz.prog W .any base t v)
  (hW:DataW.Whole enc Tryz.prog Tryz.f5.params.toList Rows.rewriteTypesSpec.vars false W args.toList ds gs before) (hL:laidMetH Tryz.prog Rows.rewriteTypesRow.laid W)
  {X:List TypeId} (hsz:(DataW.weightsEach Tryz.prog (Tryz.f5.params.toList++X) (ds++gs)).all (·≤reachBytes)=true):
  Calls Tryz.prog 5 args W fun e W'=>∃v,e= .returned v∧Rows.rewriteTypesSpec.post enc Tryz.prog Tryz.f5 false true false false W args v W':=by
 have hW':=hW;obtain⟨p,q,hA0,hV,rfl,_,_⟩:=hW;have hA:DataW.TrodAll enc Tryz.prog W 0 (fun _=>true) true Tryz.f5.params.toList args.toList ds p:=hA0;rw[Tryz.params5]at hA hval hsz;obtain⟨v0,vs0,d0,ds0,p0,q0,hargs,rfl,rfl,h0,r0⟩:=trodAll_cons hA;obtain⟨v1,vs1,d1,ds1,p1,q1,rfl,rfl,rfl,h1,r1⟩:=trodAll_cons r0;obtain⟨rfl,rfl,rfl⟩:=trodAll_nil r1;obtain rfl:args=#[v0,v1]:=by cases args;simp_all
 obtain⟨rfl,rfl⟩:=trodVars_none hV;obtain⟨a0,len0,cap0,rfl⟩:=okWide_slice Tryz.underlying22 (hval 0 22 v0 rfl rfl);have lt0:∀x∈p0,x.block<W.heap.size:=by obtain⟨m,hm⟩:=h0;exact DataW.trod_lt m _ _ _ hm
 obtain⟨z0,w0⟩:=Q0 Tryz.underlying22 Tryz.underlying3 (by kernel_rfl) h0;obtain⟨ls0,hr0,hi0⟩:=w0.ints;have hn0:=Li h0 hsz 0 rfl rfl hr0;obtain⟨a1,len1,cap1,rfl⟩:=okWide_slice Tryz.underlying22 (hval 1 22 v1 rfl rfl);have UF:∀x∈p1,x.block<W.heap.size:=by obtain⟨m,hm⟩:=h1;exact DataW.trod_lt m _ _ _ hm
 obtain⟨z1,w1⟩:=Q0 Tryz.underlying22 Tryz.underlying3 (by kernel_rfl) h1;obtain⟨ls1,hr1,hi1⟩:=w1.ints;have hn1:=Li h1 hsz 1 rfl rfl hr1;have walk:=Ok W _ _ ls0 ls1 hr0 hi0 hn0 hr1 hi1 hn1 (Q4 (l:=Rows.rewriteTypesRow.laid) hL (.tail _ (.tail _ (.tail _ (.head _)))) (.tail _ (.tail _ (.tail _ (.tail _ (.head _))))) (.tail _ (.tail _ (.tail _ (.tail _ (.tail _ (.tail _ (.head _))))))) (.tail _ (.tail _ (.tail _ (.tail _ (.tail _ (.head _)))))));refine walk.mono fun e W' ⟨he,hg⟩=>?_
 have bel:=hg.below;subst he;exact⟨_,rfl,_,_,_,[],_,[],hW',trodAll_mk1 (shut_bool Tryz.underlying4 _),(trodAll_cons_mk (Below.trod Nq (by kernel_rfl) (VH (by kernel_rfl)) h0 bel lt0) (trodAll_cons_mk (Below.trod Nq (by kernel_rfl) (VH (by kernel_rfl)) h1 bel UF) trodAll_mk0)),rfl,bel.frame _,fun h=>by cases h⟩
theorem RU (os:Os):laidMet Tryz.prog Rows.rewriteTypesRow.laid ((GU os).forCall (fun _ _=>0) ⟨#[],#[.slice none 0 0,.slice none 0 0],[]⟩).memory:=
 laidMet_of_run' 8 (by kernel_rfl) (by kernel_rfl)
theorem GK (os:Os) {H:Type} (enc:TypeId×Value→H):∃places,DataW.whole enc Tryz.prog ((GU os).forCall (fun _ _=>0) ⟨#[],#[.slice none 0 0,.slice none 0 0],[]⟩).memory Tryz.f5.params.toList Rows.rewriteTypesSpec.vars false #[Value.slice none 0 0,.slice none 0 0].toList 8=some ([.nil,.nil],[],places):=
 ⟨[],by kernel_rfl⟩
theorem TE (os:Os) (started:os.Started) (H:Type) (enc:TypeId×Value→H) (F:Stop.Interp):
  ReturnsInHanded {} Tryz.checked os 5 .any ((OpenSpec.ofChange Rows.rewriteTypesSpec).preRow enc Tryz.prog Tryz.f5 Rows.rewriteTypesRow.domain false Rows.rewriteTypesRow.laid) (((OpenSpec.ofChange Rows.rewriteTypesSpec).at F).post enc Tryz.prog Tryz.f5 false true false false):=by
 obtain⟨places,hx⟩:=GK os enc;refine returnsInHanded_of_row (C:=Tryz.checked) (s:=OpenSpec.ofChange Rows.rewriteTypesSpec) own started (by kernel_rfl) Tryz.func5
  (witness_row_at (enc:=enc) (C:=Tryz.checked) false (GU os) #[.slice none 0 0,.slice none 0 0] rfl (by kernel_rfl) (by kernel_rfl) (by kernel_rfl)
   (OpenSpec.preRow_of_cond 8 hx (by kernel_rfl) (fun k hk=>by cases hk) (by kernel_rfl) (RU os))) ?_
 intro W base args ds gs before hval hW _ _ hsz hL _ _;exact Jf H enc W base args ds gs before hval hW hL hsz
theorem UD:Rows.RewriteTypesSaid:=
 OpenClaim.holds_of_cond 5 Tryz.f5 rfl rfl rfl rfl rfl rfl rfl ⟨rfl,rfl,rfl,rfl,rfl⟩ rfl rfl rfl rfl rfl (by kernel_rfl) Tryz.func5 (by kernel_rfl)
  (VH (by kernel_rfl)) (by unfold Func.isWrapper;first|(rw[VN (by decide+kernel)];kernel_rfl)|(rw[VM (by decide+kernel)];exact⟨rfl,rfl⟩))
  (fun os started H enc _ F=>by rw[OpenClaim.pre_eq_preRow];exact TE os started H enc F)
theorem CH (f:FuncId) (fn:Func) (hf:Tryz.pinned.checked.prog.funcNamed "intervalmon/intervalmonlaw26.RewriteTypes"=some f) (hfn:Tryz.pinned.checked.prog.funcs[f]? =some fn):
  true=Tryz.pinned.checked.prog.looks []∧∀(j:Nat) t,fn.params[j]? =some t→Tryz.pinned.checked.prog.wantsStandIn t=false:=by
 obtain rfl:f=5:=VE ((show Tryz.prog.funcNamed "intervalmon/intervalmonlaw26.RewriteTypes"=some 5 by kernel_rfl).symm.trans hf) |>.symm;obtain rfl:fn=Tryz.f5:=(VE (Tryz.func5.symm.trans hfn)).symm;refine⟨by kernel_rfl,fun j t ht=>?_⟩;rw[Tryz.params5]at ht;have ht:=Array.mem_of_getElem? ht;simp only[List.mem_toArray,List.mem_cons,List.not_mem_nil,or_false]at ht;rcases ht with rfl|rfl
 ·exact(show Tryz.prog.wantsStandIn 22=false by kernel_rfl)
 exact(show Tryz.prog.wantsStandIn 22=false by kernel_rfl)
theorem card:Rows.RewriteTypesCardSaid:=
 Claim7.holds_tied_plain_at .later [] _ _ _ _ UD (fun _ h=>by cases h) (by kernel_rfl) (fun _ h=>by cases h) rewriteTypes_row_tie rfl ⟨rfl,rfl⟩ (by kernel_rfl) rfl CH (by kernel_rfl)
#print axioms card
end Go.Proofs.YthpflelgbadkcaaGreatDoor.rewriteTypes
