/-
  'signalling/signallinglaw12.RouteSame' returns true for every input of bulk at most 1048576, and its arguments read behind the call as they read before; the package tables that it reads are as the program's text lays them (the tied card).
-/
import Derived.Test.YtombbpdpmagngaaDoorRutN
import Derived.Test.YtombbpdpmagngaaDoorCards
import Derived.Test.YtombbpdpmagngaaDoorTie
import Derived.WalkKit
import Derived.ProofKit
import Derived.Deep.DeepHandedRow
import Derived.Lay
namespace Go.Proofs.YtombbpdpmagngaaDoor
open Go.ChangeShapes Go.WideShapes Go.ChangeAt Go.RowKit PM

theorem routeSame_args : ArgsOK Tryd.prog [27, 27] (T_api_Route × T_api_Route × Unit) (fun b => Enc.pv b.1 :: Enc.pv b.2.1 :: []) := args_cons ty27 (args_cons ty27 (args_nil))
set_option maxRecDepth 100000 in
theorem routeSame_contract (H : Type) (enc : TypeId × Value → H) (W : World) (base : Nat) (args : Array Value) (ds gs : List (DataW H)) (before : List MemPlace)
    (hval : ∀ (j : Nat) t v, Tryd.f3.params[j]? = some t → args[j]? = some v → Value.okWide Tryd.prog W .any base t v)
    (hW : DataW.Whole enc Tryd.prog Tryd.f3.params.toList Rows.routeSameSpec.vars false W args.toList ds gs before) {vt : List TypeId} (hw : (DataW.weightsEach Tryd.prog (Tryd.f3.params.toList ++ vt) (ds ++ gs)).all (· ≤ reachBytes) = true)
    (hL : laidMetH Tryd.prog Rows.routeSameUptoRow.laid W) (hsmall : Rows.uptoBulkAll (ds ++ gs) ≤ 1048576) :
    Calls Tryd.prog 3 args W fun e W' => ∃ v, e = .returned v ∧ Rows.routeSameSpec.post enc Tryd.prog Tryd.f3 false true false false W args v W' :=
  frame_law (P := Tryd.prog) (fn := Tryd.f3) (f := 3) (spec := Rows.routeSameSpec) (laid := Rows.routeSameUptoRow.laid) (Gl := GlS) (H := H) (enc := enc) (W := W) (args := args) (ds := ds) (gs := gs) (ts := [27, 27]) (by kernel_rfl) routeSame_args globs laidOut (by kernel_rfl) rfl (fun H ds h => by
    match ds, h with
    | [_, _], _ => rfl) (by kernel_rfl : Tryd.f3.resultTypes = #[4]) Tryd.underlying4 (C := fun b => DtL.szs b ≤ 1048576 ∧ DtL.rngs b) (fun b hb => d_law12_RouteSame_ok b.1 b.2.1 true (routeSame_in b hb)) (fun b hb hr => ⟨Nat.le_trans (routeSame_args.bulk b _ hb) hsmall, hr⟩) hval hW hw hL
set_option maxRecDepth 100000 in
theorem routeSame_lifted (os : Os) (started : os.Started) (H : Type) (enc : TypeId × Value → H) (F : Stop.Interp) :
    ReturnsInHanded {} Tryd.checked os 3 .any ((Rows.OpenSpec.upto Rows.routeSameSpec).preRow enc Tryd.prog Tryd.f3 Rows.routeSameUptoRow.domain false Rows.routeSameUptoRow.laid) (((Rows.OpenSpec.upto Rows.routeSameSpec).at F).post enc Tryd.prog Tryd.f3 false true false false) := by
  have hx : ∃ places, DataW.whole enc Tryd.prog ((World.laidAll Tryd.prog os Rows.routeSameUptoRow.laid).forCall (fun _ _ => 0) ⟨#[], #[.agg #[.string ByteArray.empty, .int .i64 0, .int .i64 0, .slice none 0 0, .slice none 0 0, .slice none 0 0, .int .i64 0, .int .i64 0, .slice none 0 0, .slice none 0 0, .slice none 0 0, .slice none 0 0, .slice none 0 0, .slice none 0 0], .agg #[.string ByteArray.empty, .int .i64 0, .int .i64 0, .slice none 0 0, .slice none 0 0, .slice none 0 0, .int .i64 0, .int .i64 0, .slice none 0 0, .slice none 0 0, .slice none 0 0, .slice none 0 0, .slice none 0 0, .slice none 0 0]], []⟩).memory Tryd.f3.params.toList Rows.routeSameSpec.vars false #[.agg #[.string ByteArray.empty, .int .i64 0, .int .i64 0, .slice none 0 0, .slice none 0 0, .slice none 0 0, .int .i64 0, .int .i64 0, .slice none 0 0, .slice none 0 0, .slice none 0 0, .slice none 0 0, .slice none 0 0, .slice none 0 0], .agg #[.string ByteArray.empty, .int .i64 0, .int .i64 0, .slice none 0 0, .slice none 0 0, .slice none 0 0, .int .i64 0, .int .i64 0, .slice none 0 0, .slice none 0 0, .slice none 0 0, .slice none 0 0, .slice none 0 0, .slice none 0 0]].toList 8 = some ([.agg [.lit (.string []), .lit (.int .i64 0), .lit (.int .i64 0), .nil, .nil, .nil, .lit (.int .i64 0), .lit (.int .i64 0), .nil, .nil, .nil, .nil, .nil, .nil], .agg [.lit (.string []), .lit (.int .i64 0), .lit (.int .i64 0), .nil, .nil, .nil, .lit (.int .i64 0), .lit (.int .i64 0), .nil, .nil, .nil, .nil, .nil, .nil]], [], places) := ⟨[], by kernel_rfl⟩
  obtain ⟨places, hx⟩ := hx
  refine returnsInHanded_of_row (C := Tryd.checked) (s := Rows.OpenSpec.upto Rows.routeSameSpec) own started (by kernel_rfl) Tryd.func3
    (witness_row_at (enc := enc) (C := Tryd.checked) false (World.laidAll Tryd.prog os Rows.routeSameUptoRow.laid) #[.agg #[.string ByteArray.empty, .int .i64 0, .int .i64 0, .slice none 0 0, .slice none 0 0, .slice none 0 0, .int .i64 0, .int .i64 0, .slice none 0 0, .slice none 0 0, .slice none 0 0, .slice none 0 0, .slice none 0 0, .slice none 0 0], .agg #[.string ByteArray.empty, .int .i64 0, .int .i64 0, .slice none 0 0, .slice none 0 0, .slice none 0 0, .int .i64 0, .int .i64 0, .slice none 0 0, .slice none 0 0, .slice none 0 0, .slice none 0 0, .slice none 0 0, .slice none 0 0]] (World.laidAll_os _ _ _) (by kernel_rfl) (by kernel_rfl) (by kernel_rfl)
      (OpenSpec.preRow_of_cond 8 hx (by kernel_rfl) (fun k hk => by cases hk; kernel_rfl) (by kernel_rfl) (laidMet_laidAll _ (by kernel_rfl) (by kernel_rfl)))) ?_
  intro W base args ds gs before hval hW _ hcond hw hL _ _
  exact routeSame_contract H enc W base args ds gs before hval hW hw hL (by simpa [Rows.uptoSmall] using hcond _ rfl)
theorem routeSame_said : Rows.RouteSameUptoSaid :=
  OpenClaim.holds_of_cond 3 Tryd.f3 rfl rfl rfl rfl rfl rfl rfl ⟨rfl, rfl, rfl, rfl, rfl⟩ rfl rfl rfl rfl rfl (by kernel_rfl) Tryd.func3 (by kernel_rfl)
    (of_decide_eq_true (by kernel_rfl)) (by unfold Func.isWrapper; first | (rw [if_pos (by decide +kernel)]; kernel_rfl) | (rw [if_neg (by decide +kernel)]; exact ⟨rfl, rfl⟩))
    (fun os started H enc _ F => by rw [OpenClaim.pre_eq_preRow]; exact routeSame_lifted os started H enc F)
theorem routeSame_plain (f : FuncId) (fn : Func) (hf : Tryd.pinned.checked.prog.funcNamed "signalling/signallinglaw12.RouteSame" = some f) (hfn : Tryd.pinned.checked.prog.funcs[f]? = some fn) :
    false = Tryd.pinned.checked.prog.looks [] ∧ ∀ (j : Nat) t, fn.params[j]? = some t → Tryd.pinned.checked.prog.wantsStandIn t = false := by
  obtain rfl : f = 3 := Option.some.inj ((show Tryd.prog.funcNamed "signalling/signallinglaw12.RouteSame" = some 3 by kernel_rfl).symm.trans hf) |>.symm
  obtain rfl : fn = Tryd.f3 := (Option.some.inj (Tryd.func3.symm.trans hfn)).symm
  refine ⟨by kernel_rfl, fun j t ht => ?_⟩
  have hall : (Tryd.f3.params.toList.all fun t => !Tryd.prog.wantsStandIn t) = true := by kernel_rfl
  have h1 := List.all_eq_true.1 hall t (Array.mem_toList_iff.2 (Array.mem_of_getElem? ht))
  have h2 : Tryd.prog.wantsStandIn t = false := by simpa using h1
  exact h2
theorem routeSameUpto_card : Rows.RouteSameUptoCardSaid :=
  Claim7.holds_tied_plain_at .later [] _ _ _ _ routeSame_said (fun _ h => by cases h) (by kernel_rfl) (fun _ h => by cases h) routeSameUpto_row_tie rfl ⟨rfl, rfl⟩ (by kernel_rfl) rfl routeSame_plain (by kernel_rfl)
end Go.Proofs.YtombbpdpmagngaaDoor
