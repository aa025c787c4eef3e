/-
 'signalling/signallinglaw47.RbcGrants' returns true for every input of bulk at most 1048576, and its arguments read behind the call as they read before; the package tables that it reads are as the program's text lays them (the tied card).
-/
import Derived.Test.YtfpoeepcomnjhaaGreatDoorRbG
import Derived.Test.YtfpoeepcomnjhaaGreatDoorCards
import Derived.Test.YtfpoeepcomnjhaaGreatDoorTie
import Derived.WalkKit
import Derived.ProofKit
import Derived.Deep.DeepHandedRow
import Derived.Lay
namespace Go.Proofs.YtfpoeepcomnjhaaGreatDoor
open Go.ChangeShapes Go.WideShapes Go.ChangeAt Go.RowKit PM
theorem rbcGrants_args : Jon Tryz.prog [54,3] (Jz×Int×Unit) (fun b=>Enc.pv b.1::Enc.pv b.2.1::[]):=Jsd ty54 (Jsd ty3 (Kga))
set_option maxRecDepth 100000 in
theorem rbcGrants_contract (H:Type) (enc:TypeId×Value->H) (W:World) (base:Nat) (args:Array Value) (ds gs:List (DataW H)) (before:List MemPlace)
  (hval:∀ (j:Nat) t v,Tryz.f4.params[j]? = some t->args[j]? = some v->Value.okWide Tryz.prog W .any base t v)
  (hW:DataW.Whole enc Tryz.prog Tryz.f4.params.toList Rows.rbcGrantsSpec.vars false W args.toList ds gs before) {vt:List TypeId} (hw:(DataW.weightsEach Tryz.prog (Tryz.f4.params.toList++vt) (ds++gs)).all (·<=reachBytes)=true)
  (hL:laidMetH Tryz.prog Rows.rbcGrantsUptoRow.laid W) (hsmall:Rows.uptoBulkAll (ds++gs)<=1048576) :
  Calls Tryz.prog 4 args W fun e W'=>∃ v,e=.returned v/\Rows.rbcGrantsSpec.post enc Tryz.prog Tryz.f4 false true false false W args v W' :=
 Kc1 (P:=Tryz.prog) (fn:=Tryz.f4) (f:=4) (spec:=Rows.rbcGrantsSpec) (laid:=Rows.rbcGrantsUptoRow.laid) (Gl:=GlS) (H:=H) (enc:=enc) (W:=W) (args:=args) (ds:=ds) (gs:=gs) (ts:=[54,3]) (by kernel_rfl) rbcGrants_args globs laidOut (by kernel_rfl) rfl (fun H ds h=>by
  match ds,h with
  | [_,_],_=>rfl) (by kernel_rfl:Tryz.f4.resultTypes=#[4]) Tryz.underlying4 (C:=fun b=>DtL.szs b<=1048576/\DtL.rngs b) (fun b hb=>Jfy b.1 b.2.1 true (rbcGrants_in b hb)) (fun b hb hr=>⟨Nat.le_trans (rbcGrants_args.bulk b _ hb) hsmall,hr⟩) hval hW hw hL
set_option maxRecDepth 100000 in
theorem rbcGrants_lifted (os:Os) (started:os.Started) (H:Type) (enc:TypeId×Value->H) (F:Stop.Interp) :
  ReturnsInHanded {} Tryz.checked os 4 .any ((Rows.OpenSpec.upto Rows.rbcGrantsSpec).preRow enc Tryz.prog Tryz.f4 Rows.rbcGrantsUptoRow.domain false Rows.rbcGrantsUptoRow.laid) (((Rows.OpenSpec.upto Rows.rbcGrantsSpec).at F).post enc Tryz.prog Tryz.f4 false true false false):=by
 have hx:∃ places,DataW.whole enc Tryz.prog ((World.laidAll Tryz.prog os Rows.rbcGrantsUptoRow.laid).forCall (fun _ _=>0) ⟨#[],#[.agg #[.string ByteArray.empty,.slice none 0 0,.slice none 0 0,.slice none 0 0,.slice none 0 0,.slice none 0 0,.slice none 0 0,.slice none 0 0,.slice none 0 0,.int .i64 0,.int .i64 0,.slice none 0 0,.slice none 0 0,.slice none 0 0,.slice none 0 0,.slice none 0 0,.slice none 0 0],.int .i64 0],[]⟩).memory Tryz.f4.params.toList Rows.rbcGrantsSpec.vars false #[.agg #[.string ByteArray.empty,.slice none 0 0,.slice none 0 0,.slice none 0 0,.slice none 0 0,.slice none 0 0,.slice none 0 0,.slice none 0 0,.slice none 0 0,.int .i64 0,.int .i64 0,.slice none 0 0,.slice none 0 0,.slice none 0 0,.slice none 0 0,.slice none 0 0,.slice none 0 0],.int .i64 0].toList 8=some ([.agg [.agg [.lit (.string []),.nil,.nil,.nil,.nil,.nil],.agg [.nil,.nil,.nil,.lit (.int .i64 0),.lit (.int .i64 0)],.agg [.nil,.nil],.nil,.nil,.agg [.nil,.nil]],.lit (.int .i64 0)],[],places):=⟨[],by kernel_rfl⟩
 obtain ⟨places,hx⟩:=hx;refine returnsInHanded_of_row (C:=Tryz.checked) (s:=Rows.OpenSpec.upto Rows.rbcGrantsSpec) own started (by kernel_rfl) Tryz.func4
  (witness_row_at (enc:=enc) (C:=Tryz.checked) false (World.laidAll Tryz.prog os Rows.rbcGrantsUptoRow.laid) #[.agg #[.string ByteArray.empty,.slice none 0 0,.slice none 0 0,.slice none 0 0,.slice none 0 0,.slice none 0 0,.slice none 0 0,.slice none 0 0,.slice none 0 0,.int .i64 0,.int .i64 0,.slice none 0 0,.slice none 0 0,.slice none 0 0,.slice none 0 0,.slice none 0 0,.slice none 0 0],.int .i64 0] (World.laidAll_os _ _ _) (by kernel_rfl) (by kernel_rfl) (by kernel_rfl)
   (OpenSpec.preRow_of_cond 8 hx (by kernel_rfl) (fun k hk=>by cases hk; kernel_rfl) (by kernel_rfl) (laidMet_laidAll _ (by kernel_rfl) (by kernel_rfl)))) ?_
 intro W base args ds gs before hval hW _ hcond hw hL _ _;exact rbcGrants_contract H enc W base args ds gs before hval hW hw hL (by simpa [Rows.uptoSmall] using hcond _ rfl)
set_option maxRecDepth 100000 in
theorem rbcGrants_f0 : (Rows.rbcGrantsUptoRow.inPlace == Tryz.prog.inPlace 4)=true:=by kernel_rfl
set_option maxRecDepth 100000 in
theorem rbcGrants_f1 : (Rows.rbcGrantsUptoRow.unfollowed == Tryz.prog.unfollowed 4)=true:=by kernel_rfl
set_option maxRecDepth 100000 in
theorem rbcGrants_f2 : (Rows.rbcGrantsUptoRow.recurses == Tryz.prog.recurses 4)=true:=by kernel_rfl
set_option maxRecDepth 100000 in
theorem rbcGrants_f3 : (Rows.rbcGrantsUptoRow.named == Tryz.prog.varsNamed 4)=true:=by kernel_rfl
theorem bAnd {a b:Bool} (h1:a=true) (h2:b=true):(a&&b)=true:=by rw [h1,h2]; rfl
set_option maxRecDepth 100000 in
theorem rbcGrants_closed : joinedFacts Tryz.prog 4 Tryz.f4 (Rows.OpenSpec.upto Rows.rbcGrantsSpec).bare Rows.rbcGrantsUptoRow=true :=
 (bAnd (bAnd (bAnd (bAnd (bAnd (bAnd (bAnd (bAnd (bAnd (bAnd (bAnd (bAnd (bAnd (bAnd (bAnd (bAnd (bAnd (bAnd (bAnd (bAnd (bAnd (bAnd (bAnd (by kernel_rfl) rbcGrants_f0) rbcGrants_f1) rbcGrants_f2) rbcGrants_f3) (by kernel_rfl)) (by kernel_rfl)) (by kernel_rfl)) (by kernel_rfl)) (by kernel_rfl)) (by kernel_rfl)) (by kernel_rfl)) (by kernel_rfl)) (by kernel_rfl)) (by kernel_rfl)) (by kernel_rfl)) (by kernel_rfl)) (by kernel_rfl)) (by kernel_rfl)) (by kernel_rfl)) (by kernel_rfl)) (by kernel_rfl)) (by kernel_rfl)) (by kernel_rfl))
theorem rbcGrants_said : Rows.RbcGrantsUptoSaid :=
 OpenClaim.holds_of_cond 4 Tryz.f4 rfl rfl rfl rfl rfl rfl rfl ⟨rfl,rfl,rfl,rfl,rfl⟩ rfl rfl rfl rfl rfl (by kernel_rfl) Tryz.func4 rbcGrants_closed
  (of_decide_eq_true (by kernel_rfl)) (by unfold Func.isWrapper; first|(rw [if_pos (by decide +kernel)]; kernel_rfl)|(rw [if_neg (by decide +kernel)]; exact ⟨rfl,rfl⟩))
  (fun os started H enc _ F=>by rw [OpenClaim.pre_eq_preRow]; exact rbcGrants_lifted os started H enc F)
theorem rbcGrants_plain (f:FuncId) (fn:Func) (hf:Tryz.pinned.checked.prog.funcNamed "signalling/signallinglaw47.RbcGrants" = some f) (hfn:Tryz.pinned.checked.prog.funcs[f]? = some fn) :
  true=Tryz.pinned.checked.prog.looks []/\∀ (j:Nat) t,fn.params[j]? = some t->Tryz.pinned.checked.prog.wantsStandIn t=false:=by
 obtain rfl:f=4:=Option.some.inj ((show Tryz.prog.funcNamed "signalling/signallinglaw47.RbcGrants" = some 4 by kernel_rfl).symm.trans hf) |>.symm;obtain rfl:fn=Tryz.f4:=(Option.some.inj (Tryz.func4.symm.trans hfn)).symm;refine ⟨by kernel_rfl,fun j t ht=>?_⟩;have hall:(Tryz.f4.params.toList.all fun t => !Tryz.prog.wantsStandIn t)=true:=by kernel_rfl
 have h1:=List.all_eq_true.1 hall t (Array.mem_toList_iff.2 (Array.mem_of_getElem? ht));have h2:Tryz.prog.wantsStandIn t=false:=by simpa using h1
 exact h2
theorem rbcGrantsUpto_card : Rows.RbcGrantsUptoCardSaid :=
 Claim7.holds_tied_plain_at .later [] _ _ _ _ rbcGrants_said (fun _ h=>by cases h) (by kernel_rfl) (fun _ h=>by cases h) rbcGrantsUpto_row_tie rfl ⟨rfl,rfl⟩ (by kernel_rfl) rfl rbcGrants_plain (by kernel_rfl)
end Go.Proofs.YtfpoeepcomnjhaaGreatDoor
