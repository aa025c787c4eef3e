/-
 'signalling/signallinglaw12.RouteFrom' returns true for every input of bulk at most 1048576, and its arguments read behind the call as they read before; the package tables that it reads are as the program's text lays them (the tied card).
-/
import Derived.Test.YtombbpdpmagngaaGreatDoorRutM
import Derived.Test.YtombbpdpmagngaaGreatDoorCards
import Derived.Test.YtombbpdpmagngaaGreatDoorTie
import Derived.WalkKit
import Derived.ProofKit
import Derived.Deep.DeepHandedRow
import Derived.Lay
namespace Go.Proofs.YtombbpdpmagngaaGreatDoor
open Go.ChangeShapes Go.WideShapes Go.ChangeAt Go.RowKit PM
theorem routeFrom_args : Si Tryz.prog [28,3] (Jd×Int×Unit) (fun b=>Enc.pv b.1::Enc.pv b.2.1::[]):=Ev ty28 (Ev ty3 (Jaf))
set_option maxRecDepth 100000 in
theorem routeFrom_contract (H:Type) (enc:TypeId×Value→H) (W:World) (base:Nat) (args:Array Value) (ds gs:List (DataW H)) (before:List MemPlace)
  (hval:∀ (j:Nat) t v,Tryz.f3.params[j]? = some t→args[j]? = some v→Value.okWide Tryz.prog W .any base t v)
  (hW:DataW.Whole enc Tryz.prog Tryz.f3.params.toList Rows.routeFromSpec.vars false W args.toList ds gs before) {vt:List TypeId} (hw:(DataW.weightsEach Tryz.prog (Tryz.f3.params.toList++vt) (ds++gs)).all (·≤reachBytes)=true)
  (hL:laidMetH Tryz.prog Rows.routeFromUptoRow.laid W) (hsmall:Rows.uptoBulkAll (ds++gs)≤1048576) :
  Calls Tryz.prog 3 args W fun e W'=>∃ v,e=.returned v∧Rows.routeFromSpec.post enc Tryz.prog Tryz.f3 false true false false W args v W' :=
 Ru (P:=Tryz.prog) (fn:=Tryz.f3) (f:=3) (spec:=Rows.routeFromSpec) (laid:=Rows.routeFromUptoRow.laid) (Gl:=GlS) (H:=H) (enc:=enc) (W:=W) (args:=args) (ds:=ds) (gs:=gs) (ts:=[28,3]) (by kernel_rfl) routeFrom_args globs laidOut (by kernel_rfl) rfl (fun H ds h=>by
  match ds,h with
  | [_,_],_=>rfl) (by kernel_rfl:Tryz.f3.resultTypes=#[4]) Tryz.underlying4 (C:=fun b=>DtL.szs b≤1048576∧DtL.rngs b) (fun b hb=>Jak b.1 b.2.1 true (routeFrom_in b hb)) (fun b hb hr=>⟨Nat.le_trans (routeFrom_args.bulk b _ hb) hsmall,hr⟩) hval hW hw hL
set_option maxRecDepth 100000 in
theorem routeFrom_lifted (os:Os) (started:os.Started) (H:Type) (enc:TypeId×Value→H) (F:Stop.Interp) :
  ReturnsInHanded {} Tryz.checked os 3 .any ((Rows.OpenSpec.upto Rows.routeFromSpec).preRow enc Tryz.prog Tryz.f3 Rows.routeFromUptoRow.domain false Rows.routeFromUptoRow.laid) (((Rows.OpenSpec.upto Rows.routeFromSpec).at F).post enc Tryz.prog Tryz.f3 false true false false):=by
 have hx:∃ places,DataW.whole enc Tryz.prog ((World.laidAll Tryz.prog os Rows.routeFromUptoRow.laid).forCall (fun _ _=>0) ⟨#[],#[.agg #[.string ByteArray.empty,.slice none 0 0,.slice none 0 0,.slice none 0 0,.slice none 0 0,.slice none 0 0],.int .i64 0],[]⟩).memory Tryz.f3.params.toList Rows.routeFromSpec.vars false #[.agg #[.string ByteArray.empty,.slice none 0 0,.slice none 0 0,.slice none 0 0,.slice none 0 0,.slice none 0 0],.int .i64 0].toList 8=some ([.agg [.lit (.string []),.nil,.nil,.nil,.nil,.nil],.lit (.int .i64 0)],[],places):=⟨[],by kernel_rfl⟩
 obtain ⟨places,hx⟩:=hx
 refine returnsInHanded_of_row (C:=Tryz.checked) (s:=Rows.OpenSpec.upto Rows.routeFromSpec) own started (by kernel_rfl) Tryz.func3
  (witness_row_at (enc:=enc) (C:=Tryz.checked) false (World.laidAll Tryz.prog os Rows.routeFromUptoRow.laid) #[.agg #[.string ByteArray.empty,.slice none 0 0,.slice none 0 0,.slice none 0 0,.slice none 0 0,.slice none 0 0],.int .i64 0] (World.laidAll_os _ _ _) (by kernel_rfl) (by kernel_rfl) (by kernel_rfl)
   (OpenSpec.preRow_of_cond 8 hx (by kernel_rfl) (fun k hk=>by cases hk; kernel_rfl) (by kernel_rfl) (laidMet_laidAll _ (by kernel_rfl) (by kernel_rfl)))) ?_
 intro W base args ds gs before hval hW _ hcond hw hL _ _
 exact routeFrom_contract H enc W base args ds gs before hval hW hw hL (by simpa [Rows.uptoSmall] using hcond _ rfl)
theorem routeFrom_said : Rows.RouteFromUptoSaid :=
 OpenClaim.holds_of_cond 3 Tryz.f3 rfl rfl rfl rfl rfl rfl rfl ⟨rfl,rfl,rfl,rfl,rfl⟩ rfl rfl rfl rfl rfl (by kernel_rfl) Tryz.func3 (by kernel_rfl)
  (of_decide_eq_true (by kernel_rfl)) (by unfold Func.isWrapper; first|(rw [if_pos (by decide +kernel)]; kernel_rfl)|(rw [if_neg (by decide +kernel)]; exact ⟨rfl,rfl⟩))
  (fun os started H enc _ F=>by rw [OpenClaim.pre_eq_preRow]; exact routeFrom_lifted os started H enc F)
theorem routeFrom_plain (f:FuncId) (fn:Func) (hf:Tryz.pinned.checked.prog.funcNamed "signalling/signallinglaw12.RouteFrom" = some f) (hfn:Tryz.pinned.checked.prog.funcs[f]? = some fn) :
  false=Tryz.pinned.checked.prog.looks []∧∀ (j:Nat) t,fn.params[j]? = some t→Tryz.pinned.checked.prog.wantsStandIn t=false:=by
 obtain rfl:f=3:=Option.some.inj ((show Tryz.prog.funcNamed "signalling/signallinglaw12.RouteFrom" = some 3 by kernel_rfl).symm.trans hf) |>.symm
 obtain rfl:fn=Tryz.f3:=(Option.some.inj (Tryz.func3.symm.trans hfn)).symm
 refine ⟨by kernel_rfl,fun j t ht=>?_⟩
 have hall:(Tryz.f3.params.toList.all fun t => !Tryz.prog.wantsStandIn t)=true:=by kernel_rfl
 have h1:=List.all_eq_true.1 hall t (Array.mem_toList_iff.2 (Array.mem_of_getElem? ht))
 have h2:Tryz.prog.wantsStandIn t=false:=by simpa using h1
 exact h2
theorem routeFromUpto_card : Rows.RouteFromUptoCardSaid :=
 Claim7.holds_tied_plain_at .later [] _ _ _ _ routeFrom_said (fun _ h=>by cases h) (by kernel_rfl) (fun _ h=>by cases h) routeFromUpto_row_tie rfl ⟨rfl,rfl⟩ (by kernel_rfl) rfl routeFrom_plain (by kernel_rfl)
end Go.Proofs.YtombbpdpmagngaaGreatDoor
