/-
 'signalling/signallinglaw47.RbcReceives' returns true for every input of bulk at most 1048576, and its arguments read behind the call as they read before; the package tables that it reads are as the program's text lays them (the tied card).
-/
import Derived.Test.YtfpoeepcomnjhaaGreatDoorRbR
import Derived.Test.YtfpoeepcomnjhaaGreatDoorCards
import Derived.Test.YtfpoeepcomnjhaaGreatDoorTie
import Derived.WalkKit
import Derived.ProofKit
import Derived.Deep.DeepHandedRow
import Derived.Lay
namespace Go.Proofs.YtfpoeepcomnjhaaGreatDoor
open Go.ChangeShapes Go.WideShapes Go.ChangeAt Go.RowKit PM
theorem rbcReceives_args : Jmq Tryz.prog [54,68,3] (Jv×Jo×Int×Unit) (fun b=>Enc.pv b.1::Enc.pv b.2.1::Enc.pv b.2.2.1::[]):=Jjp ty54 (Jjp ty68 (Jjp ty3 (Jy7)))
set_option maxRecDepth 100000 in
theorem rbcReceives_contract (H:Type) (enc:TypeId×Value->H) (W:World) (base:Nat) (args:Array Value) (ds gs:List (DataW H)) (before:List MemPlace)
  (hval:∀ (j:Nat) t v,Tryz.f7.params[j]? = some t->args[j]? = some v->Value.okWide Tryz.prog W .any base t v)
  (hW:DataW.Whole enc Tryz.prog Tryz.f7.params.toList Rows.rbcReceivesSpec.vars false W args.toList ds gs before) {vt:List TypeId} (hw:(DataW.weightsEach Tryz.prog (Tryz.f7.params.toList++vt) (ds++gs)).all (·<=reachBytes)=true)
  (hL:laidMetH Tryz.prog Rows.rbcReceivesUptoRow.laid W) (hsmall:Rows.uptoBulkAll (ds++gs)<=1048576) :
  Calls Tryz.prog 7 args W fun e W'=>∃ v,e=.returned v/\Rows.rbcReceivesSpec.post enc Tryz.prog Tryz.f7 false true false false W args v W' :=
 Jx0 (P:=Tryz.prog) (fn:=Tryz.f7) (f:=7) (spec:=Rows.rbcReceivesSpec) (laid:=Rows.rbcReceivesUptoRow.laid) (Gl:=GlS) (H:=H) (enc:=enc) (W:=W) (args:=args) (ds:=ds) (gs:=gs) (ts:=[54,68,3]) (by kernel_rfl) rbcReceives_args globs laidOut (by kernel_rfl) rfl (fun H ds h=>by
  match ds,h with
  | [_,_,_],_=>rfl) (by kernel_rfl:Tryz.f7.resultTypes=#[4]) Tryz.underlying4 (C:=fun b=>DtL.szs b<=1048576/\DtL.rngs b) (fun b hb=>Jcv b.1 b.2.1 b.2.2.1 true (rbcReceives_in b hb)) (fun b hb hr=>⟨Nat.le_trans (rbcReceives_args.bulk b _ hb) hsmall,hr⟩) hval hW hw hL
set_option maxRecDepth 100000 in
theorem rbcReceives_lifted (os:Os) (started:os.Started) (H:Type) (enc:TypeId×Value->H) (F:Stop.Interp) :
  ReturnsInHanded {} Tryz.checked os 7 .any ((Rows.OpenSpec.upto Rows.rbcReceivesSpec).preRow enc Tryz.prog Tryz.f7 Rows.rbcReceivesUptoRow.domain false Rows.rbcReceivesUptoRow.laid) (((Rows.OpenSpec.upto Rows.rbcReceivesSpec).at F).post enc Tryz.prog Tryz.f7 false true false false):=by
 have hx:∃ places,DataW.whole enc Tryz.prog ((World.laidAll Tryz.prog os Rows.rbcReceivesUptoRow.laid).forCall (fun _ _=>0) ⟨#[],#[.agg #[.string ByteArray.empty,.slice none 0 0,.slice none 0 0,.slice none 0 0,.slice none 0 0,.slice none 0 0,.slice none 0 0,.slice none 0 0,.slice none 0 0,.int .i64 0,.int .i64 0,.slice none 0 0,.slice none 0 0,.slice none 0 0,.slice none 0 0,.slice none 0 0,.slice none 0 0],.agg #[.int .i64 0,.int .i64 0,.int .i64 0,.int .i64 0,.int .i64 0,.int .i64 0,.int .i64 0,.slice none 0 0,.slice none 0 0,.int .i64 0,.int .i64 0,.int .i64 0,.int .i64 0,.bool false],.int .i64 0],[]⟩).memory Tryz.f7.params.toList Rows.rbcReceivesSpec.vars false #[.agg #[.string ByteArray.empty,.slice none 0 0,.slice none 0 0,.slice none 0 0,.slice none 0 0,.slice none 0 0,.slice none 0 0,.slice none 0 0,.slice none 0 0,.int .i64 0,.int .i64 0,.slice none 0 0,.slice none 0 0,.slice none 0 0,.slice none 0 0,.slice none 0 0,.slice none 0 0],.agg #[.int .i64 0,.int .i64 0,.int .i64 0,.int .i64 0,.int .i64 0,.int .i64 0,.int .i64 0,.slice none 0 0,.slice none 0 0,.int .i64 0,.int .i64 0,.int .i64 0,.int .i64 0,.bool false],.int .i64 0].toList 8=some ([.agg [.agg [.lit (.string []),.nil,.nil,.nil,.nil,.nil],.agg [.nil,.nil,.nil,.lit (.int .i64 0),.lit (.int .i64 0)],.agg [.nil,.nil],.nil,.nil,.agg [.nil,.nil]],.agg [.lit (.int .i64 0),.lit (.int .i64 0),.lit (.int .i64 0),.lit (.int .i64 0),.lit (.int .i64 0),.agg [.lit (.int .i64 0),.lit (.int .i64 0),.nil,.nil],.agg [.lit (.int .i64 0),.lit (.int .i64 0),.lit (.int .i64 0),.lit (.int .i64 0),.lit (.bool false)]],.lit (.int .i64 0)],[],places):=⟨[],by kernel_rfl⟩
 obtain ⟨places,hx⟩:=hx;refine returnsInHanded_of_row (C:=Tryz.checked) (s:=Rows.OpenSpec.upto Rows.rbcReceivesSpec) own started (by kernel_rfl) Tryz.func7
  (witness_row_at (enc:=enc) (C:=Tryz.checked) false (World.laidAll Tryz.prog os Rows.rbcReceivesUptoRow.laid) #[.agg #[.string ByteArray.empty,.slice none 0 0,.slice none 0 0,.slice none 0 0,.slice none 0 0,.slice none 0 0,.slice none 0 0,.slice none 0 0,.slice none 0 0,.int .i64 0,.int .i64 0,.slice none 0 0,.slice none 0 0,.slice none 0 0,.slice none 0 0,.slice none 0 0,.slice none 0 0],.agg #[.int .i64 0,.int .i64 0,.int .i64 0,.int .i64 0,.int .i64 0,.int .i64 0,.int .i64 0,.slice none 0 0,.slice none 0 0,.int .i64 0,.int .i64 0,.int .i64 0,.int .i64 0,.bool false],.int .i64 0] (World.laidAll_os _ _ _) (by kernel_rfl) (by kernel_rfl) (by kernel_rfl)
   (OpenSpec.preRow_of_cond 8 hx (by kernel_rfl) (fun k hk=>by cases hk; kernel_rfl) (by kernel_rfl) (laidMet_laidAll _ (by kernel_rfl) (by kernel_rfl)))) ?_
 intro W base args ds gs before hval hW _ hcond hw hL _ _;exact rbcReceives_contract H enc W base args ds gs before hval hW hw hL (by simpa [Rows.uptoSmall] using hcond _ rfl)
set_option maxRecDepth 100000 in
theorem rbcReceives_f0 : (Rows.rbcReceivesUptoRow.inPlace == Tryz.prog.inPlace 7)=true:=by kernel_rfl
set_option maxRecDepth 100000 in
theorem rbcReceives_f1 : (Rows.rbcReceivesUptoRow.unfollowed == Tryz.prog.unfollowed 7)=true:=by kernel_rfl
set_option maxRecDepth 100000 in
theorem rbcReceives_f2 : (Rows.rbcReceivesUptoRow.recurses == Tryz.prog.recurses 7)=true:=by kernel_rfl
set_option maxRecDepth 100000 in
theorem rbcReceives_f3 : (Rows.rbcReceivesUptoRow.named == Tryz.prog.varsNamed 7)=true:=by kernel_rfl
theorem bAnd {a b:Bool} (h1:a=true) (h2:b=true):(a&&b)=true:=by rw [h1,h2]; rfl
set_option maxRecDepth 100000 in
theorem rbcReceives_closed : joinedFacts Tryz.prog 7 Tryz.f7 (Rows.OpenSpec.upto Rows.rbcReceivesSpec).bare Rows.rbcReceivesUptoRow=true :=
 (bAnd (bAnd (bAnd (bAnd (bAnd (bAnd (bAnd (bAnd (bAnd (bAnd (bAnd (bAnd (bAnd (bAnd (bAnd (bAnd (bAnd (bAnd (bAnd (bAnd (bAnd (bAnd (bAnd (by kernel_rfl) rbcReceives_f0) rbcReceives_f1) rbcReceives_f2) rbcReceives_f3) (by kernel_rfl)) (by kernel_rfl)) (by kernel_rfl)) (by kernel_rfl)) (by kernel_rfl)) (by kernel_rfl)) (by kernel_rfl)) (by kernel_rfl)) (by kernel_rfl)) (by kernel_rfl)) (by kernel_rfl)) (by kernel_rfl)) (by kernel_rfl)) (by kernel_rfl)) (by kernel_rfl)) (by kernel_rfl)) (by kernel_rfl)) (by kernel_rfl)) (by kernel_rfl))
theorem rbcReceives_said : Rows.RbcReceivesUptoSaid :=
 OpenClaim.holds_of_cond 7 Tryz.f7 rfl rfl rfl rfl rfl rfl rfl ⟨rfl,rfl,rfl,rfl,rfl⟩ rfl rfl rfl rfl rfl (by kernel_rfl) Tryz.func7 rbcReceives_closed
  (of_decide_eq_true (by kernel_rfl)) (by unfold Func.isWrapper; first|(rw [if_pos (by decide +kernel)]; kernel_rfl)|(rw [if_neg (by decide +kernel)]; exact ⟨rfl,rfl⟩))
  (fun os started H enc _ F=>by rw [OpenClaim.pre_eq_preRow]; exact rbcReceives_lifted os started H enc F)
theorem rbcReceives_plain (f:FuncId) (fn:Func) (hf:Tryz.pinned.checked.prog.funcNamed "signalling/signallinglaw47.RbcReceives" = some f) (hfn:Tryz.pinned.checked.prog.funcs[f]? = some fn) :
  true=Tryz.pinned.checked.prog.looks []/\∀ (j:Nat) t,fn.params[j]? = some t->Tryz.pinned.checked.prog.wantsStandIn t=false:=by
 obtain rfl:f=7:=Option.some.inj ((show Tryz.prog.funcNamed "signalling/signallinglaw47.RbcReceives" = some 7 by kernel_rfl).symm.trans hf) |>.symm;obtain rfl:fn=Tryz.f7:=(Option.some.inj (Tryz.func7.symm.trans hfn)).symm;refine ⟨by kernel_rfl,fun j t ht=>?_⟩;have hall:(Tryz.f7.params.toList.all fun t => !Tryz.prog.wantsStandIn t)=true:=by kernel_rfl
 have h1:=List.all_eq_true.1 hall t (Array.mem_toList_iff.2 (Array.mem_of_getElem? ht));have h2:Tryz.prog.wantsStandIn t=false:=by simpa using h1
 exact h2
theorem rbcReceivesUpto_card : Rows.RbcReceivesUptoCardSaid :=
 Claim7.holds_tied_plain_at .later [] _ _ _ _ rbcReceives_said (fun _ h=>by cases h) (by kernel_rfl) (fun _ h=>by cases h) rbcReceivesUpto_row_tie rfl ⟨rfl,rfl⟩ (by kernel_rfl) rfl rbcReceives_plain (by kernel_rfl)
end Go.Proofs.YtfpoeepcomnjhaaGreatDoor
