/-
  THE BASE OF THE CARDS: the types of the arguments, and what the rows' list says of the package tables. Printed by tyf.py.
-/
import Derived.Test.YtmbcgmlgbcookaaDoorExpH
import Derived.Test.YtmbcgmlgbcookaaDoorFrE
import Derived.WalkKit
import Derived.ProofKit
namespace Go.Proofs.YtmbcgmlgbcookaaDoor
open Go.ChangeShapes Go.WideShapes Go.ChangeAt Go.RowKit PM

theorem own : ownKnob Tryd.prog.godebug = none := by kernel_rfl
theorem laidOut : laidOutB Tryd.prog = true := by kernel_rfl
theorem ty3 : TyOK Tryd.prog 3 Int false := ty_int Tryd.underlying3 (by kernel_rfl)
theorem ty24 : TyOK Tryd.prog 24 E true := tyE (tl := 22) Tryd.underlying24 (by kernel_rfl) Tryd.underlying22 (by kernel_rfl) (fun h => (fld_cons (ty3.mono fun _ _ => trivial) (off' := 1) (by rfl) (fld_cons (ty3.mono fun _ _ => trivial) (off' := 2) (by rfl) (fld_cons h (off' := 3) (by rfl) (fld_nil 3)))))
theorem ty4 : TyOK Tryd.prog 4 Bool false := ty_bool Tryd.underlying4 (by kernel_rfl)
theorem ty25 : TyOK Tryd.prog 25 (List Bool) true := ty_list ty4 Tryd.underlying25 (by kernel_rfl)
theorem ty78 : TyOK Tryd.prog 78 U64 false := ty_u64 Tryd.underlying78 (by kernel_rfl)
def dat_tab_strconv_uint64pow10 : List (DataW Unit) := match (Rows.laid_internal_strconv_uint64pow10 : DataW Unit) with
  | .agg l => l
  | _ => []
theorem all_tab_strconv_uint64pow10 : All2 Dt.dat tab_strconv_uint64pow10 dat_tab_strconv_uint64pow10 :=
  .cons rfl (.cons rfl (.cons rfl (.cons rfl (.cons rfl (.cons rfl (.cons rfl (.cons rfl (.cons rfl (.cons rfl (.cons rfl (.cons rfl (.cons rfl (.cons rfl (.cons rfl (.cons rfl (.cons rfl (.cons rfl (.cons rfl (.cons rfl (.nil))))))))))))))))))))
def laidL : List (String × DataW Unit) := [("math/bits.deBruijn32tab", Rows.laid_math_bits_deBruijn32tab), ("math/bits.deBruijn64tab", Rows.laid_math_bits_deBruijn64tab), ("internal/strconv.uint64pow10", Rows.laid_internal_strconv_uint64pow10)]
theorem globs (W : World) (h : laidMetH Tryd.prog laidL W) : ∀ i cs, GlS i = some cs → RelTab (Bk W) W cs i := by
  intro i cs hi
  match i, hi with
  | 0, hi =>
    cases hi
    exact tab_rel (g := 0) ty78 rfl (name := "internal/strconv.uint64pow10") (by kernel_rfl) (by kernel_rfl) Tryd.underlying103 (by kernel_rfl) (tab := tab_strconv_uint64pow10) (dsx := dat_tab_strconv_uint64pow10) all_tab_strconv_uint64pow10 (by kernel_rfl) (.tail _ (.tail _ (.head _))) (by kernel_rfl) h
theorem d_law18_ExprRewritesE_ok (a : E) (v : Int) (c : E) (r : Bool) (h : d_law18_ExprRewrites (toT a) v (toT c) = some r) : PCall Tryd.prog GlS 4 [Enc.pv a, Enc.pv v, Enc.pv c] (Enc.pv r) := by
  rw [pv_E a, pv_E c]; exact d_law18_ExprRewrites_ok _ _ _ r h
theorem exprRewrites_in (b : E × Int × E × Unit) (h : DtL.szs b ≤ 1048576 ∧ DtL.rngs b) : d_law18_ExprRewrites (toT b.1) b.2.1 (toT b.2.2.1) = some true := by
  have h1 : b.1.size + (1 + (b.2.2.1.size + 0)) ≤ 1048576 := h.1
  exact exprRewrites_law _ _ _ (by unfold BIG; omega) (by unfold BIG; omega)
theorem d_law18_ExprSimplifiesE_ok (a : E) (l : List Bool) (r : Bool) (h : d_law18_ExprSimplifies (toT a) l = some r) : PCall Tryd.prog GlS 5 [Enc.pv a, Enc.pv l] (Enc.pv r) := by
  rw [pv_E a]; exact d_law18_ExprSimplifies_ok _ _ r h
theorem exprSimplifies_in (b : E × List Bool × Unit) (h : DtL.szs b ≤ 1048576 ∧ DtL.rngs b) : d_law18_ExprSimplifies (toT b.1) b.2.1 = some true := by
  have h1 : b.1.size + (Dt.siz b.2.1 + 0) ≤ 1048576 := h.1
  exact exprSimplifies_law _ _ (by unfold BIG; omega)
theorem d_law18_ExprSimpleE_ok (a : E) (r : Bool) (h : d_law18_ExprSimple (toT a) = some r) : PCall Tryd.prog GlS 6 [Enc.pv a] (Enc.pv r) := by
  rw [pv_E a]; exact d_law18_ExprSimple_ok _ r h
theorem exprSimple_in (b : E × Unit) (h : DtL.szs b ≤ 1048576 ∧ DtL.rngs b) : d_law18_ExprSimple (toT b.1) = some true := by
  have h1 : b.1.size + 0 ≤ 1048576 := h.1
  exact exprSimple_law _ (by unfold BIG; omega)

end Go.Proofs.YtmbcgmlgbcookaaDoor
