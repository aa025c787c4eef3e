/-
  THE BASE OF THE CARDS OF CHAPTER 6: the types of the arguments, and what the rows' list says of the package tables.
-/
import Derived.Test.YtjfdmlckdgholaaDoorRailA
import Derived.Test.YtjfdmlckdgholaaDoorFrB
import Derived.WalkKit
import Derived.ProofKit
namespace Go.Proofs.YtjfdmlckdgholaaDoor
open Go.ChangeShapes Go.WideShapes Go.ChangeAt Go.RowKit PM

theorem own : ownKnob Tryd.prog.godebug = none := by kernel_rfl
theorem laidOut : laidOutB Tryd.prog = true := by kernel_rfl
theorem ty3 : TyOK Tryd.prog 3 Int false := ty_int Tryd.underlying3 (by kernel_rfl)
abbrev Pa := Int × Int × Int × Int × Unit
def unPa (x : T_rail_passage) : Pa := (x.kind_, x.in_, x.out_, x.need_, ())
def mkPa (b : Pa) : T_rail_passage := ⟨b.1, b.2.1, b.2.2.1, b.2.2.2.1⟩
instance : Dt T_rail_passage := dtOf unPa
theorem ty68 : TyOK Tryd.prog 68 T_rail_passage false :=
  ty_struct (k := 4) (b := 32) unPa mkPa Tryd.underlying68 (by kernel_rfl) rfl (by decide) (fld_cons ty3 (off' := 1) (by rfl) (fld_cons ty3 (off' := 2) (by rfl) (fld_cons ty3 (off' := 3) (by rfl) (fld_cons ty3 (off' := 4) (by rfl) (fld_nil 4))))) (fun _ => rfl) (fun _ => rfl) (fun _ => rfl) (fun _ => rfl)
def datT : List (DataW Unit) := match (Rows.laid_signalling_rail_passages : DataW Unit) with
  | .agg l => l
  | _ => []
theorem dat_ints {a b c d : Int} {e : DataW Unit} (h : e = .agg [.lit (.int .i64 a), .lit (.int .i64 b), .lit (.int .i64 c), .lit (.int .i64 d)]) : Dt.dat (T_rail_passage.mk a b c d) e := ⟨_, h, _, _, rfl, rfl, _, _, rfl, rfl, _, _, rfl, rfl, _, _, rfl, rfl, rfl⟩
theorem all_dat : All2 Dt.dat tab1 datT :=
  .cons (dat_ints rfl) (.cons (dat_ints rfl) (.cons (dat_ints rfl) (.cons (dat_ints rfl) (.cons (dat_ints rfl) (.cons (dat_ints rfl) (.cons (dat_ints rfl) (.cons (dat_ints rfl) (.cons (dat_ints rfl) (.cons (dat_ints rfl) .nil)))))))))
theorem globs (W : World) (h : laidMetH Tryd.prog [("signalling/rail.sides", Rows.laid_signalling_rail_sides), ("signalling/rail.passages", Rows.laid_signalling_rail_passages)] W) : ∀ i cs, GlS i = some cs → RelCells (Bk W) W cs i 0 := by
  intro i cs hi
  match i, hi with
  | 0, hi =>
    cases hi
    exact tab_rel (g := 0) ty3 rfl (name := "signalling/rail.sides") (by kernel_rfl) (by kernel_rfl) Tryd.underlying66 (by kernel_rfl) (dsx := [.lit (.int .i64 0), .lit (.int .i64 2), .lit (.int .i64 3), .lit (.int .i64 4)])
      (.cons rfl (.cons rfl (.cons rfl (.cons rfl .nil)))) (by kernel_rfl) (.head _) (by kernel_rfl) h
  | 1, hi =>
    cases hi
    exact tab_rel (g := 1) ty68 rfl (name := "signalling/rail.passages") (by kernel_rfl) (by kernel_rfl) Tryd.underlying69 (by kernel_rfl) (tab := tab1) (dsx := datT) all_dat (by kernel_rfl) (.tail _ (.head _)) (by kernel_rfl) h
end Go.Proofs.YtjfdmlckdgholaaDoor
