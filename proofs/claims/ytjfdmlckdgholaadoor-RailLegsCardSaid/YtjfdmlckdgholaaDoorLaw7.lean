/-
  'signalling/signallinglaw06.RailLegs' returns true for every input, and its arguments read behind the call as they read before; the package tables that it reads are as the program's text lays them (the tied card).
-/
import Derived.Test.YtjfdmlckdgholaaDoorRailF
import Derived.Test.YtjfdmlckdgholaaDoorCards
import Derived.Test.YtjfdmlckdgholaaDoorTie
import Derived.WalkKit
import Derived.ProofKit
import Derived.Deep.DeepHandedRow
import Derived.Lay
namespace Go.Proofs.YtjfdmlckdgholaaDoor
open Go.ChangeShapes Go.WideShapes Go.ChangeAt Go.RowKit PM

theorem railLegs_args : ArgsOK Tryd.prog [3, 3] (Int × Int × Unit) (fun b => Enc.pv b.1 :: Enc.pv b.2.1 :: []) := args_cons ty3 (args_cons ty3 (args_nil))
theorem railLegs_contract (H : Type) (enc : TypeId × Value → H) (W : World) (base : Nat) (args : Array Value) (ds gs : List (DataW H)) (before : List MemPlace)
    (hval : ∀ (j : Nat) t v, Tryd.f7.params[j]? = some t → args[j]? = some v → Value.okWide Tryd.prog W .any base t v)
    (hW : DataW.Whole enc Tryd.prog Tryd.f7.params.toList Rows.railLegsSpec.vars false W args.toList ds gs before) {vt : List TypeId} (hw : (DataW.weightsEach Tryd.prog (Tryd.f7.params.toList ++ vt) (ds ++ gs)).all (· ≤ reachBytes) = true)
    (hL : laidMetH Tryd.prog Rows.railLegsRow.laid W) :
    Calls Tryd.prog 7 args W fun e W' => ∃ v, e = .returned v ∧ Rows.railLegsSpec.post enc Tryd.prog Tryd.f7 false true false false W args v W' :=
  frame_law (ts := [3, 3]) (by kernel_rfl) railLegs_args globs laidOut (by kernel_rfl) rfl (fun H ds h => by
    match ds, h with
    | [_, _], _ => rfl) (by kernel_rfl : Tryd.f7.resultTypes = #[4]) Tryd.underlying4 (C := fun _ => True) (fun b hb => f7_ok b.1 b.2.1 true (law7 b.1 b.2.1)) (fun _ _ => trivial) hval hW hw hL
set_option maxRecDepth 100000 in
theorem railLegs_lifted (os : Os) (started : os.Started) (H : Type) (enc : TypeId × Value → H) (F : Stop.Interp) :
    ReturnsInHanded {} Tryd.checked os 7 .any ((OpenSpec.ofChange Rows.railLegsSpec).preRow enc Tryd.prog Tryd.f7 Rows.railLegsRow.domain false Rows.railLegsRow.laid) (((OpenSpec.ofChange Rows.railLegsSpec).at F).post enc Tryd.prog Tryd.f7 false true false false) := by
  have hx : ∃ places, DataW.whole enc Tryd.prog ((World.laidAll Tryd.prog os Rows.railLegsRow.laid).forCall (fun _ _ => 0) ⟨#[], #[.int .i64 0, .int .i64 0], []⟩).memory Tryd.f7.params.toList Rows.railLegsSpec.vars false #[.int .i64 0, .int .i64 0].toList 8 = some ([.lit (.int .i64 0), .lit (.int .i64 0)], [], places) := ⟨[], by kernel_rfl⟩
  obtain ⟨places, hx⟩ := hx
  refine returnsInHanded_of_row (C := Tryd.checked) (s := OpenSpec.ofChange Rows.railLegsSpec) own started (by kernel_rfl) Tryd.func7
    (witness_row_at (enc := enc) (C := Tryd.checked) false (World.laidAll Tryd.prog os Rows.railLegsRow.laid) #[.int .i64 0, .int .i64 0] (World.laidAll_os _ _ _) (by kernel_rfl) (by kernel_rfl) (by kernel_rfl)
      (OpenSpec.preRow_of_cond 8 hx (by kernel_rfl) (fun k hk => by cases hk) (by kernel_rfl) (laidMet_laidAll _ (by kernel_rfl) (by kernel_rfl)))) ?_
  intro W base args ds gs before hval hW _ _ hw hL _ _
  exact railLegs_contract H enc W base args ds gs before hval hW hw hL
theorem railLegs_said : Rows.RailLegsSaid :=
  OpenClaim.holds_of_cond 7 Tryd.f7 rfl rfl rfl rfl rfl rfl rfl ⟨rfl, rfl, rfl, rfl, rfl⟩ rfl rfl rfl rfl rfl (by kernel_rfl) Tryd.func7 (by kernel_rfl)
    (of_decide_eq_true (by kernel_rfl)) (by unfold Func.isWrapper; first | (rw [if_pos (by decide +kernel)]; kernel_rfl) | (rw [if_neg (by decide +kernel)]; exact ⟨rfl, rfl⟩))
    (fun os started H enc _ F => by rw [OpenClaim.pre_eq_preRow]; exact railLegs_lifted os started H enc F)
theorem railLegs_plain (f : FuncId) (fn : Func) (hf : Tryd.pinned.checked.prog.funcNamed "signalling/signallinglaw06.RailLegs" = some f) (hfn : Tryd.pinned.checked.prog.funcs[f]? = some fn) :
    false = Tryd.pinned.checked.prog.looks [] ∧ ∀ (j : Nat) t, fn.params[j]? = some t → Tryd.pinned.checked.prog.wantsStandIn t = false := by
  obtain rfl : f = 7 := Option.some.inj ((show Tryd.prog.funcNamed "signalling/signallinglaw06.RailLegs" = some 7 by kernel_rfl).symm.trans hf) |>.symm
  obtain rfl : fn = Tryd.f7 := (Option.some.inj (Tryd.func7.symm.trans hfn)).symm
  refine ⟨by kernel_rfl, fun j t ht => ?_⟩
  have hall : (Tryd.f7.params.toList.all fun t => !Tryd.prog.wantsStandIn t) = true := by kernel_rfl
  have h1 := List.all_eq_true.1 hall t (Array.mem_toList_iff.2 (Array.mem_of_getElem? ht))
  have h2 : Tryd.prog.wantsStandIn t = false := by simpa using h1
  exact h2
theorem railLegs_card : Rows.RailLegsCardSaid :=
  Claim7.holds_tied_plain_at .later [] _ _ _ _ railLegs_said (fun _ h => by cases h) (by kernel_rfl) (fun _ h => by cases h) railLegs_row_tie rfl ⟨rfl, rfl⟩ (by kernel_rfl) rfl railLegs_plain (by kernel_rfl)
end Go.Proofs.YtjfdmlckdgholaaDoor
