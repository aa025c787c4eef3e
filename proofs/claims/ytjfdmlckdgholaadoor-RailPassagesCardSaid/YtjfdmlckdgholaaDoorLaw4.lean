/-
  'signalling/signallinglaw06.RailPassages' returns true for every input, and its arguments read behind the call as they read before; the package tables that it reads are as the program's text lays them (the tied card).
-/
import Derived.Test.YtjfdmlckdgholaaDoorRailF
import Derived.Test.YtjfdmlckdgholaaDoorCards
import Derived.Test.YtjfdmlckdgholaaDoorTie
import Derived.WalkKit
import Derived.ProofKit
import Derived.Deep.DeepHandedRow
import Derived.Lay
namespace Go.Proofs.YtjfdmlckdgholaaDoor
open Go.ChangeShapes Go.WideShapes Go.ChangeAt Go.RowKit PM

theorem railPassages_args : ArgsOK Tryd.prog [3, 3, 3] (Int × Int × Int × Unit) (fun b => Enc.pv b.1 :: Enc.pv b.2.1 :: Enc.pv b.2.2.1 :: []) := args_cons ty3 (args_cons ty3 (args_cons ty3 (args_nil)))
theorem railPassages_contract (H : Type) (enc : TypeId × Value → H) (W : World) (base : Nat) (args : Array Value) (ds gs : List (DataW H)) (before : List MemPlace)
    (hval : ∀ (j : Nat) t v, Tryd.f4.params[j]? = some t → args[j]? = some v → Value.okWide Tryd.prog W .any base t v)
    (hW : DataW.Whole enc Tryd.prog Tryd.f4.params.toList Rows.railPassagesSpec.vars false W args.toList ds gs before) {vt : List TypeId} (hw : (DataW.weightsEach Tryd.prog (Tryd.f4.params.toList ++ vt) (ds ++ gs)).all (· ≤ reachBytes) = true)
    (hL : laidMetH Tryd.prog Rows.railPassagesRow.laid W) :
    Calls Tryd.prog 4 args W fun e W' => ∃ v, e = .returned v ∧ Rows.railPassagesSpec.post enc Tryd.prog Tryd.f4 false true false false W args v W' :=
  frame_law (ts := [3, 3, 3]) (by kernel_rfl) railPassages_args globs laidOut (by kernel_rfl) rfl (fun H ds h => by
    match ds, h with
    | [_, _, _], _ => rfl) (by kernel_rfl : Tryd.f4.resultTypes = #[4]) Tryd.underlying4 (C := fun _ => True) (fun b hb => f4_ok b.1 b.2.1 b.2.2.1 true (law4 b.1 b.2.1 b.2.2.1)) (fun _ _ => trivial) hval hW hw hL
set_option maxRecDepth 100000 in
theorem railPassages_lifted (os : Os) (started : os.Started) (H : Type) (enc : TypeId × Value → H) (F : Stop.Interp) :
    ReturnsInHanded {} Tryd.checked os 4 .any ((OpenSpec.ofChange Rows.railPassagesSpec).preRow enc Tryd.prog Tryd.f4 Rows.railPassagesRow.domain false Rows.railPassagesRow.laid) (((OpenSpec.ofChange Rows.railPassagesSpec).at F).post enc Tryd.prog Tryd.f4 false true false false) := by
  have hx : ∃ places, DataW.whole enc Tryd.prog ((World.laidAll Tryd.prog os Rows.railPassagesRow.laid).forCall (fun _ _ => 0) ⟨#[], #[.int .i64 0, .int .i64 0, .int .i64 0], []⟩).memory Tryd.f4.params.toList Rows.railPassagesSpec.vars false #[.int .i64 0, .int .i64 0, .int .i64 0].toList 8 = some ([.lit (.int .i64 0), .lit (.int .i64 0), .lit (.int .i64 0)], [], places) := ⟨[], by kernel_rfl⟩
  obtain ⟨places, hx⟩ := hx
  refine returnsInHanded_of_row (C := Tryd.checked) (s := OpenSpec.ofChange Rows.railPassagesSpec) own started (by kernel_rfl) Tryd.func4
    (witness_row_at (enc := enc) (C := Tryd.checked) false (World.laidAll Tryd.prog os Rows.railPassagesRow.laid) #[.int .i64 0, .int .i64 0, .int .i64 0] (World.laidAll_os _ _ _) (by kernel_rfl) (by kernel_rfl) (by kernel_rfl)
      (OpenSpec.preRow_of_cond 8 hx (by kernel_rfl) (fun k hk => by cases hk) (by kernel_rfl) (laidMet_laidAll _ (by kernel_rfl) (by kernel_rfl)))) ?_
  intro W base args ds gs before hval hW _ _ hw hL _ _
  exact railPassages_contract H enc W base args ds gs before hval hW hw hL
theorem railPassages_said : Rows.RailPassagesSaid :=
  OpenClaim.holds_of_cond 4 Tryd.f4 rfl rfl rfl rfl rfl rfl rfl ⟨rfl, rfl, rfl, rfl, rfl⟩ rfl rfl rfl rfl rfl (by kernel_rfl) Tryd.func4 (by kernel_rfl)
    (of_decide_eq_true (by kernel_rfl)) (by unfold Func.isWrapper; first | (rw [if_pos (by decide +kernel)]; kernel_rfl) | (rw [if_neg (by decide +kernel)]; exact ⟨rfl, rfl⟩))
    (fun os started H enc _ F => by rw [OpenClaim.pre_eq_preRow]; exact railPassages_lifted os started H enc F)
theorem railPassages_plain (f : FuncId) (fn : Func) (hf : Tryd.pinned.checked.prog.funcNamed "signalling/signallinglaw06.RailPassages" = some f) (hfn : Tryd.pinned.checked.prog.funcs[f]? = some fn) :
    false = Tryd.pinned.checked.prog.looks [] ∧ ∀ (j : Nat) t, fn.params[j]? = some t → Tryd.pinned.checked.prog.wantsStandIn t = false := by
  obtain rfl : f = 4 := Option.some.inj ((show Tryd.prog.funcNamed "signalling/signallinglaw06.RailPassages" = some 4 by kernel_rfl).symm.trans hf) |>.symm
  obtain rfl : fn = Tryd.f4 := (Option.some.inj (Tryd.func4.symm.trans hfn)).symm
  refine ⟨by kernel_rfl, fun j t ht => ?_⟩
  have hall : (Tryd.f4.params.toList.all fun t => !Tryd.prog.wantsStandIn t) = true := by kernel_rfl
  have h1 := List.all_eq_true.1 hall t (Array.mem_toList_iff.2 (Array.mem_of_getElem? ht))
  have h2 : Tryd.prog.wantsStandIn t = false := by simpa using h1
  exact h2
theorem railPassages_card : Rows.RailPassagesCardSaid :=
  Claim7.holds_tied_plain_at .later [] _ _ _ _ railPassages_said (fun _ h => by cases h) (by kernel_rfl) (fun _ h => by cases h) railPassages_row_tie rfl ⟨rfl, rfl⟩ (by kernel_rfl) rfl railPassages_plain (by kernel_rfl)
end Go.Proofs.YtjfdmlckdgholaaDoor
