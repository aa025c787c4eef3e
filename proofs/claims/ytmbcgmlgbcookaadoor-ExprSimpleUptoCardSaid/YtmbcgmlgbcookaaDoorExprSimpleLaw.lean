/-
  'signalling/signallinglaw18.ExprSimple' returns true for every input of bulk at most 1048576, and its arguments read behind the call as they read before; the package tables that it reads are as the program's text lays them (the tied card).
-/
import Derived.Test.YtmbcgmlgbcookaaDoorExpN
import Derived.Test.YtmbcgmlgbcookaaDoorCards
import Derived.Test.YtmbcgmlgbcookaaDoorTie
import Derived.WalkKit
import Derived.ProofKit
import Derived.Deep.DeepHandedRow
import Derived.Lay
namespace Go.Proofs.YtmbcgmlgbcookaaDoor
open Go.ChangeShapes Go.WideShapes Go.ChangeAt Go.RowKit PM

theorem exprSimple_args : ArgsOK Tryd.prog [24] (E × Unit) (fun b => Enc.pv b.1 :: []) := args_cons ty24 (args_nil)
set_option maxRecDepth 100000 in
theorem exprSimple_contract (H : Type) (enc : TypeId × Value → H) (W : World) (base : Nat) (args : Array Value) (ds gs : List (DataW H)) (before : List MemPlace)
    (hval : ∀ (j : Nat) t v, Tryd.f6.params[j]? = some t → args[j]? = some v → Value.okWide Tryd.prog W .any base t v)
    (hW : DataW.Whole enc Tryd.prog Tryd.f6.params.toList Rows.exprSimpleSpec.vars false W args.toList ds gs before) {vt : List TypeId} (hw : (DataW.weightsEach Tryd.prog (Tryd.f6.params.toList ++ vt) (ds ++ gs)).all (· ≤ reachBytes) = true)
    (hL : laidMetH Tryd.prog Rows.exprSimpleUptoRow.laid W) (hsmall : Rows.uptoBulkAll (ds ++ gs) ≤ 1048576) :
    Calls Tryd.prog 6 args W fun e W' => ∃ v, e = .returned v ∧ Rows.exprSimpleSpec.post enc Tryd.prog Tryd.f6 false true false false W args v W' :=
  frame_law (P := Tryd.prog) (fn := Tryd.f6) (f := 6) (spec := Rows.exprSimpleSpec) (laid := Rows.exprSimpleUptoRow.laid) (Gl := GlS) (H := H) (enc := enc) (W := W) (args := args) (ds := ds) (gs := gs) (ts := [24]) (by kernel_rfl) exprSimple_args globs laidOut (by kernel_rfl) rfl (fun H ds h => by
    match ds, h with
    | [_], _ => rfl) (by kernel_rfl : Tryd.f6.resultTypes = #[4]) Tryd.underlying4 (C := fun b => DtL.szs b ≤ 1048576 ∧ DtL.rngs b) (fun b hb => d_law18_ExprSimpleE_ok b.1 true (exprSimple_in b hb)) (fun b hb hr => ⟨Nat.le_trans (exprSimple_args.bulk b _ hb) hsmall, hr⟩) hval hW hw hL
set_option maxRecDepth 100000 in
theorem exprSimple_lifted (os : Os) (started : os.Started) (H : Type) (enc : TypeId × Value → H) (F : Stop.Interp) :
    ReturnsInHanded {} Tryd.checked os 6 .any ((Rows.OpenSpec.upto Rows.exprSimpleSpec).preRow enc Tryd.prog Tryd.f6 Rows.exprSimpleUptoRow.domain false Rows.exprSimpleUptoRow.laid) (((Rows.OpenSpec.upto Rows.exprSimpleSpec).at F).post enc Tryd.prog Tryd.f6 false true false false) := by
  have hx : ∃ places, DataW.whole enc Tryd.prog ((World.laidAll Tryd.prog os Rows.exprSimpleUptoRow.laid).forCall (fun _ _ => 0) ⟨#[], #[.agg #[.int .i64 0, .int .i64 0, .slice none 0 0]], []⟩).memory Tryd.f6.params.toList Rows.exprSimpleSpec.vars false #[.agg #[.int .i64 0, .int .i64 0, .slice none 0 0]].toList 8 = some ([.agg [.lit (.int .i64 0), .lit (.int .i64 0), .nil]], [], places) := ⟨[], by kernel_rfl⟩
  obtain ⟨places, hx⟩ := hx
  refine returnsInHanded_of_row (C := Tryd.checked) (s := Rows.OpenSpec.upto Rows.exprSimpleSpec) own started (by kernel_rfl) Tryd.func6
    (witness_row_at (enc := enc) (C := Tryd.checked) false (World.laidAll Tryd.prog os Rows.exprSimpleUptoRow.laid) #[.agg #[.int .i64 0, .int .i64 0, .slice none 0 0]] (World.laidAll_os _ _ _) (by kernel_rfl) (by kernel_rfl) (by kernel_rfl)
      (OpenSpec.preRow_of_cond 8 hx (by kernel_rfl) (fun k hk => by cases hk; kernel_rfl) (by kernel_rfl) (laidMet_laidAll _ (by kernel_rfl) (by kernel_rfl)))) ?_
  intro W base args ds gs before hval hW _ hcond hw hL _ _
  exact exprSimple_contract H enc W base args ds gs before hval hW hw hL (by simpa [Rows.uptoSmall] using hcond _ rfl)
theorem exprSimple_said : Rows.ExprSimpleUptoSaid :=
  OpenClaim.holds_of_cond 6 Tryd.f6 rfl rfl rfl rfl rfl rfl rfl ⟨rfl, rfl, rfl, rfl, rfl⟩ rfl rfl rfl rfl rfl (by kernel_rfl) Tryd.func6 (by kernel_rfl)
    (of_decide_eq_true (by kernel_rfl)) (by unfold Func.isWrapper; first | (rw [if_pos (by decide +kernel)]; kernel_rfl) | (rw [if_neg (by decide +kernel)]; exact ⟨rfl, rfl⟩))
    (fun os started H enc _ F => by rw [OpenClaim.pre_eq_preRow]; exact exprSimple_lifted os started H enc F)
theorem exprSimple_plain (f : FuncId) (fn : Func) (hf : Tryd.pinned.checked.prog.funcNamed "signalling/signallinglaw18.ExprSimple" = some f) (hfn : Tryd.pinned.checked.prog.funcs[f]? = some fn) :
    true = Tryd.pinned.checked.prog.looks [] ∧ ∀ (j : Nat) t, fn.params[j]? = some t → Tryd.pinned.checked.prog.wantsStandIn t = false := by
  obtain rfl : f = 6 := Option.some.inj ((show Tryd.prog.funcNamed "signalling/signallinglaw18.ExprSimple" = some 6 by kernel_rfl).symm.trans hf) |>.symm
  obtain rfl : fn = Tryd.f6 := (Option.some.inj (Tryd.func6.symm.trans hfn)).symm
  refine ⟨by kernel_rfl, fun j t ht => ?_⟩
  have hall : (Tryd.f6.params.toList.all fun t => !Tryd.prog.wantsStandIn t) = true := by kernel_rfl
  have h1 := List.all_eq_true.1 hall t (Array.mem_toList_iff.2 (Array.mem_of_getElem? ht))
  have h2 : Tryd.prog.wantsStandIn t = false := by simpa using h1
  exact h2
theorem exprSimpleUpto_card : Rows.ExprSimpleUptoCardSaid :=
  Claim7.holds_tied_plain_at .later [] _ _ _ _ exprSimple_said (fun _ h => by cases h) (by kernel_rfl) (fun _ h => by cases h) exprSimpleUpto_row_tie rfl ⟨rfl, rfl⟩ (by kernel_rfl) rfl exprSimple_plain (by kernel_rfl)
end Go.Proofs.YtmbcgmlgbcookaaDoor
