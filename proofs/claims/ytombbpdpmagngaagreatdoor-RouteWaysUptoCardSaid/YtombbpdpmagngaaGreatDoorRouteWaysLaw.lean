/-
 'signalling/signallinglaw12.RouteWays' returns true for every input of bulk at most 1048576, and its arguments read behind the call as they read before; the package tables that it reads are as the program's text lays them (the tied card).
-/
import Derived.Test.YtombbpdpmagngaaGreatDoorRutM
import Derived.Test.YtombbpdpmagngaaGreatDoorCards
import Derived.Test.YtombbpdpmagngaaGreatDoorTie
import Derived.WalkKit
import Derived.ProofKit
import Derived.Deep.DeepHandedRow
import Derived.Lay
namespace Go.Proofs.YtombbpdpmagngaaGreatDoor
open Go.ChangeShapes Go.WideShapes Go.ChangeAt Go.RowKit PM
theorem routeWays_args : Si Tryz.prog [28,3,40] (Jd×Int×(List Jb)×Unit) (fun b=>Enc.pv b.1::Enc.pv b.2.1::Enc.pv b.2.2.1::[]):=Ev ty28 (Ev ty3 (Ev ty40 (Jaf)))
set_option maxRecDepth 100000 in
theorem routeWays_contract (H:Type) (enc:TypeId×Value→H) (W:World) (base:Nat) (args:Array Value) (ds gs:List (DataW H)) (before:List MemPlace)
  (hval:∀ (j:Nat) t v,Tryz.f7.params[j]? = some t→args[j]? = some v→Value.okWide Tryz.prog W .any base t v)
  (hW:DataW.Whole enc Tryz.prog Tryz.f7.params.toList Rows.routeWaysSpec.vars false W args.toList ds gs before) {vt:List TypeId} (hw:(DataW.weightsEach Tryz.prog (Tryz.f7.params.toList++vt) (ds++gs)).all (·≤reachBytes)=true)
  (hL:laidMetH Tryz.prog Rows.routeWaysUptoRow.laid W) (hsmall:Rows.uptoBulkAll (ds++gs)≤1048576) :
  Calls Tryz.prog 7 args W fun e W'=>∃ v,e=.returned v∧Rows.routeWaysSpec.post enc Tryz.prog Tryz.f7 false true false false W args v W' :=
 Ru (P:=Tryz.prog) (fn:=Tryz.f7) (f:=7) (spec:=Rows.routeWaysSpec) (laid:=Rows.routeWaysUptoRow.laid) (Gl:=GlS) (H:=H) (enc:=enc) (W:=W) (args:=args) (ds:=ds) (gs:=gs) (ts:=[28,3,40]) (by kernel_rfl) routeWays_args globs laidOut (by kernel_rfl) rfl (fun H ds h=>by
  match ds,h with
  | [_,_,_],_=>rfl) (by kernel_rfl:Tryz.f7.resultTypes=#[4]) Tryz.underlying4 (C:=fun b=>DtL.szs b≤1048576∧DtL.rngs b) (fun b hb=>Jam b.1 b.2.1 b.2.2.1 true (routeWays_in b hb)) (fun b hb hr=>⟨Nat.le_trans (routeWays_args.bulk b _ hb) hsmall,hr⟩) hval hW hw hL
set_option maxRecDepth 100000 in
theorem routeWays_lifted (os:Os) (started:os.Started) (H:Type) (enc:TypeId×Value→H) (F:Stop.Interp) :
  ReturnsInHanded {} Tryz.checked os 7 .any ((Rows.OpenSpec.upto Rows.routeWaysSpec).preRow enc Tryz.prog Tryz.f7 Rows.routeWaysUptoRow.domain false Rows.routeWaysUptoRow.laid) (((Rows.OpenSpec.upto Rows.routeWaysSpec).at F).post enc Tryz.prog Tryz.f7 false true false false):=by
 have hx:∃ places,DataW.whole enc Tryz.prog ((World.laidAll Tryz.prog os Rows.routeWaysUptoRow.laid).forCall (fun _ _=>0) ⟨#[],#[.agg #[.string ByteArray.empty,.slice none 0 0,.slice none 0 0,.slice none 0 0,.slice none 0 0,.slice none 0 0],.int .i64 0,.slice none 0 0],[]⟩).memory Tryz.f7.params.toList Rows.routeWaysSpec.vars false #[.agg #[.string ByteArray.empty,.slice none 0 0,.slice none 0 0,.slice none 0 0,.slice none 0 0,.slice none 0 0],.int .i64 0,.slice none 0 0].toList 8=some ([.agg [.lit (.string []),.nil,.nil,.nil,.nil,.nil],.lit (.int .i64 0),.nil],[],places):=⟨[],by kernel_rfl⟩
 obtain ⟨places,hx⟩:=hx
 refine returnsInHanded_of_row (C:=Tryz.checked) (s:=Rows.OpenSpec.upto Rows.routeWaysSpec) own started (by kernel_rfl) Tryz.func7
  (witness_row_at (enc:=enc) (C:=Tryz.checked) false (World.laidAll Tryz.prog os Rows.routeWaysUptoRow.laid) #[.agg #[.string ByteArray.empty,.slice none 0 0,.slice none 0 0,.slice none 0 0,.slice none 0 0,.slice none 0 0],.int .i64 0,.slice none 0 0] (World.laidAll_os _ _ _) (by kernel_rfl) (by kernel_rfl) (by kernel_rfl)
   (OpenSpec.preRow_of_cond 8 hx (by kernel_rfl) (fun k hk=>by cases hk; kernel_rfl) (by kernel_rfl) (laidMet_laidAll _ (by kernel_rfl) (by kernel_rfl)))) ?_
 intro W base args ds gs before hval hW _ hcond hw hL _ _
 exact routeWays_contract H enc W base args ds gs before hval hW hw hL (by simpa [Rows.uptoSmall] using hcond _ rfl)
theorem routeWays_said : Rows.RouteWaysUptoSaid :=
 OpenClaim.holds_of_cond 7 Tryz.f7 rfl rfl rfl rfl rfl rfl rfl ⟨rfl,rfl,rfl,rfl,rfl⟩ rfl rfl rfl rfl rfl (by kernel_rfl) Tryz.func7 (by kernel_rfl)
  (of_decide_eq_true (by kernel_rfl)) (by unfold Func.isWrapper; first|(rw [if_pos (by decide +kernel)]; kernel_rfl)|(rw [if_neg (by decide +kernel)]; exact ⟨rfl,rfl⟩))
  (fun os started H enc _ F=>by rw [OpenClaim.pre_eq_preRow]; exact routeWays_lifted os started H enc F)
theorem routeWays_plain (f:FuncId) (fn:Func) (hf:Tryz.pinned.checked.prog.funcNamed "signalling/signallinglaw12.RouteWays" = some f) (hfn:Tryz.pinned.checked.prog.funcs[f]? = some fn) :
  false=Tryz.pinned.checked.prog.looks []∧∀ (j:Nat) t,fn.params[j]? = some t→Tryz.pinned.checked.prog.wantsStandIn t=false:=by
 obtain rfl:f=7:=Option.some.inj ((show Tryz.prog.funcNamed "signalling/signallinglaw12.RouteWays" = some 7 by kernel_rfl).symm.trans hf) |>.symm
 obtain rfl:fn=Tryz.f7:=(Option.some.inj (Tryz.func7.symm.trans hfn)).symm
 refine ⟨by kernel_rfl,fun j t ht=>?_⟩
 have hall:(Tryz.f7.params.toList.all fun t => !Tryz.prog.wantsStandIn t)=true:=by kernel_rfl
 have h1:=List.all_eq_true.1 hall t (Array.mem_toList_iff.2 (Array.mem_of_getElem? ht))
 have h2:Tryz.prog.wantsStandIn t=false:=by simpa using h1
 exact h2
theorem routeWaysUpto_card : Rows.RouteWaysUptoCardSaid :=
 Claim7.holds_tied_plain_at .later [] _ _ _ _ routeWays_said (fun _ h=>by cases h) (by kernel_rfl) (fun _ h=>by cases h) routeWaysUpto_row_tie rfl ⟨rfl,rfl⟩ (by kernel_rfl) rfl routeWays_plain (by kernel_rfl)
end Go.Proofs.YtombbpdpmagngaaGreatDoor
