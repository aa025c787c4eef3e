/-
 'signalling/signallinglaw47.RbcNews' returns true for every input of bulk at most 1048576, and its arguments read behind the call as they read before; the package tables that it reads are as the program's text lays them (the tied card).
-/
import Derived.Test.YtfpoeepcomnjhaaGreatDoorRbN
import Derived.Test.YtfpoeepcomnjhaaGreatDoorCards
import Derived.Test.YtfpoeepcomnjhaaGreatDoorTie
import Derived.WalkKit
import Derived.ProofKit
import Derived.Deep.DeepHandedRow
import Derived.Lay
namespace Go.Proofs.YtfpoeepcomnjhaaGreatDoor
open Go.ChangeShapes Go.WideShapes Go.ChangeAt Go.RowKit PM
theorem rbcNews_args : Joj Tryz.prog [28,29,30] (Jd×(List Kk)×(List Kh)×Unit) (fun b=>Enc.pv b.1::Enc.pv b.2.1::Enc.pv b.2.2.1::[]):=Jja ty28 (Jja ty29 (Jja ty30 (Jzv)))
set_option maxRecDepth 100000 in
theorem rbcNews_contract (H:Type) (enc:TypeId×Value→H) (W:World) (base:Nat) (args:Array Value) (ds gs:List (DataW H)) (before:List MemPlace)
  (hval:∀ (j:Nat) t v,Tryz.f3.params[j]? = some t→args[j]? = some v→Value.okWide Tryz.prog W .any base t v)
  (hW:DataW.Whole enc Tryz.prog Tryz.f3.params.toList Rows.rbcNewsSpec.vars false W args.toList ds gs before) {vt:List TypeId} (hw:(DataW.weightsEach Tryz.prog (Tryz.f3.params.toList++vt) (ds++gs)).all (·≤reachBytes)=true)
  (hL:laidMetH Tryz.prog Rows.rbcNewsUptoRow.laid W) (hsmall:Rows.uptoBulkAll (ds++gs)≤1048576) :
  Calls Tryz.prog 3 args W fun e W'=>∃ v,e=.returned v∧Rows.rbcNewsSpec.post enc Tryz.prog Tryz.f3 false true false false W args v W' :=
 Jwq (P:=Tryz.prog) (fn:=Tryz.f3) (f:=3) (spec:=Rows.rbcNewsSpec) (laid:=Rows.rbcNewsUptoRow.laid) (Gl:=GlS) (H:=H) (enc:=enc) (W:=W) (args:=args) (ds:=ds) (gs:=gs) (ts:=[28,29,30]) (by kernel_rfl) rbcNews_args globs laidOut (by kernel_rfl) rfl (fun H ds h=>by
  match ds,h with
  | [_,_,_],_=>rfl) (by kernel_rfl:Tryz.f3.resultTypes=#[4]) Tryz.underlying4 (C:=fun b=>DtL.szs b≤1048576∧DtL.rngs b) (fun b hb=>Jhq b.1 b.2.1 b.2.2.1 true (rbcNews_in b hb)) (fun b hb hr=>⟨Nat.le_trans (rbcNews_args.bulk b _ hb) hsmall,hr⟩) hval hW hw hL
set_option maxRecDepth 100000 in
theorem rbcNews_lifted (os:Os) (started:os.Started) (H:Type) (enc:TypeId×Value→H) (F:Stop.Interp) :
  ReturnsInHanded {} Tryz.checked os 3 .any ((Rows.OpenSpec.upto Rows.rbcNewsSpec).preRow enc Tryz.prog Tryz.f3 Rows.rbcNewsUptoRow.domain false Rows.rbcNewsUptoRow.laid) (((Rows.OpenSpec.upto Rows.rbcNewsSpec).at F).post enc Tryz.prog Tryz.f3 false true false false):=by
 have hx:∃ places,DataW.whole enc Tryz.prog ((World.laidAll Tryz.prog os Rows.rbcNewsUptoRow.laid).forCall (fun _ _=>0) ⟨#[],#[.agg #[.string ByteArray.empty,.slice none 0 0,.slice none 0 0,.slice none 0 0,.slice none 0 0,.slice none 0 0],.slice none 0 0,.slice none 0 0],[]⟩).memory Tryz.f3.params.toList Rows.rbcNewsSpec.vars false #[.agg #[.string ByteArray.empty,.slice none 0 0,.slice none 0 0,.slice none 0 0,.slice none 0 0,.slice none 0 0],.slice none 0 0,.slice none 0 0].toList 8=some ([.agg [.lit (.string []),.nil,.nil,.nil,.nil,.nil],.nil,.nil],[],places):=⟨[],by kernel_rfl⟩
 obtain ⟨places,hx⟩:=hx
 refine returnsInHanded_of_row (C:=Tryz.checked) (s:=Rows.OpenSpec.upto Rows.rbcNewsSpec) own started (by kernel_rfl) Tryz.func3
  (witness_row_at (enc:=enc) (C:=Tryz.checked) false (World.laidAll Tryz.prog os Rows.rbcNewsUptoRow.laid) #[.agg #[.string ByteArray.empty,.slice none 0 0,.slice none 0 0,.slice none 0 0,.slice none 0 0,.slice none 0 0],.slice none 0 0,.slice none 0 0] (World.laidAll_os _ _ _) (by kernel_rfl) (by kernel_rfl) (by kernel_rfl)
   (OpenSpec.preRow_of_cond 8 hx (by kernel_rfl) (fun k hk=>by cases hk; kernel_rfl) (by kernel_rfl) (laidMet_laidAll _ (by kernel_rfl) (by kernel_rfl)))) ?_
 intro W base args ds gs before hval hW _ hcond hw hL _ _
 exact rbcNews_contract H enc W base args ds gs before hval hW hw hL (by simpa [Rows.uptoSmall] using hcond _ rfl)
set_option maxRecDepth 100000 in
theorem rbcNews_f0 : (Rows.rbcNewsUptoRow.inPlace == Tryz.prog.inPlace 3)=true:=by kernel_rfl
set_option maxRecDepth 100000 in
theorem rbcNews_f1 : (Rows.rbcNewsUptoRow.unfollowed == Tryz.prog.unfollowed 3)=true:=by kernel_rfl
set_option maxRecDepth 100000 in
theorem rbcNews_f2 : (Rows.rbcNewsUptoRow.recurses == Tryz.prog.recurses 3)=true:=by kernel_rfl
set_option maxRecDepth 100000 in
theorem rbcNews_f3 : (Rows.rbcNewsUptoRow.named == Tryz.prog.varsNamed 3)=true:=by kernel_rfl
theorem bAnd {a b:Bool} (h1:a=true) (h2:b=true):(a&&b)=true:=by rw [h1,h2]; rfl
set_option maxRecDepth 100000 in
theorem rbcNews_closed : joinedFacts Tryz.prog 3 Tryz.f3 (Rows.OpenSpec.upto Rows.rbcNewsSpec).bare Rows.rbcNewsUptoRow=true :=
 (bAnd (bAnd (bAnd (bAnd (bAnd (bAnd (bAnd (bAnd (bAnd (bAnd (bAnd (bAnd (bAnd (bAnd (bAnd (bAnd (bAnd (bAnd (bAnd (bAnd (bAnd (bAnd (bAnd (by kernel_rfl) rbcNews_f0) rbcNews_f1) rbcNews_f2) rbcNews_f3) (by kernel_rfl)) (by kernel_rfl)) (by kernel_rfl)) (by kernel_rfl)) (by kernel_rfl)) (by kernel_rfl)) (by kernel_rfl)) (by kernel_rfl)) (by kernel_rfl)) (by kernel_rfl)) (by kernel_rfl)) (by kernel_rfl)) (by kernel_rfl)) (by kernel_rfl)) (by kernel_rfl)) (by kernel_rfl)) (by kernel_rfl)) (by kernel_rfl)) (by kernel_rfl))
theorem rbcNews_said : Rows.RbcNewsUptoSaid :=
 OpenClaim.holds_of_cond 3 Tryz.f3 rfl rfl rfl rfl rfl rfl rfl ⟨rfl,rfl,rfl,rfl,rfl⟩ rfl rfl rfl rfl rfl (by kernel_rfl) Tryz.func3 rbcNews_closed
  (of_decide_eq_true (by kernel_rfl)) (by unfold Func.isWrapper; first|(rw [if_pos (by decide +kernel)]; kernel_rfl)|(rw [if_neg (by decide +kernel)]; exact ⟨rfl,rfl⟩))
  (fun os started H enc _ F=>by rw [OpenClaim.pre_eq_preRow]; exact rbcNews_lifted os started H enc F)
theorem rbcNews_plain (f:FuncId) (fn:Func) (hf:Tryz.pinned.checked.prog.funcNamed "signalling/signallinglaw47.RbcNews" = some f) (hfn:Tryz.pinned.checked.prog.funcs[f]? = some fn) :
  true=Tryz.pinned.checked.prog.looks []∧∀ (j:Nat) t,fn.params[j]? = some t→Tryz.pinned.checked.prog.wantsStandIn t=false:=by
 obtain rfl:f=3:=Option.some.inj ((show Tryz.prog.funcNamed "signalling/signallinglaw47.RbcNews" = some 3 by kernel_rfl).symm.trans hf) |>.symm
 obtain rfl:fn=Tryz.f3:=(Option.some.inj (Tryz.func3.symm.trans hfn)).symm
 refine ⟨by kernel_rfl,fun j t ht=>?_⟩
 have hall:(Tryz.f3.params.toList.all fun t => !Tryz.prog.wantsStandIn t)=true:=by kernel_rfl
 have h1:=List.all_eq_true.1 hall t (Array.mem_toList_iff.2 (Array.mem_of_getElem? ht))
 have h2:Tryz.prog.wantsStandIn t=false:=by simpa using h1
 exact h2
theorem rbcNewsUpto_card : Rows.RbcNewsUptoCardSaid :=
 Claim7.holds_tied_plain_at .later [] _ _ _ _ rbcNews_said (fun _ h=>by cases h) (by kernel_rfl) (fun _ h=>by cases h) rbcNewsUpto_row_tie rfl ⟨rfl,rfl⟩ (by kernel_rfl) rfl rbcNews_plain (by kernel_rfl)
end Go.Proofs.YtfpoeepcomnjhaaGreatDoor
