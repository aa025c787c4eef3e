/-
  THE BASE OF THE CARDS: the types of the arguments, and what the rows' list says of the package tables. Printed by tyf.py.
-/
import Derived.Test.YtnnhdhijidpfkaaDoorLnkA
import Derived.Test.YtnnhdhijidpfkaaDoorFrA
import Derived.WalkKit
import Derived.ProofKit
namespace Go.Proofs.YtnnhdhijidpfkaaDoor
open Go.ChangeShapes Go.WideShapes Go.ChangeAt Go.RowKit PM

theorem own : ownKnob Tryd.prog.godebug = none := by kernel_rfl
theorem laidOut : laidOutB Tryd.prog = true := by kernel_rfl
theorem ty3 : TyOK Tryd.prog 3 Int false := ty_int Tryd.underlying3 (by kernel_rfl)
abbrev P_T_api_Linked := Int × Int × Unit
def un_T_api_Linked (x : T_api_Linked) : P_T_api_Linked := (x.Id, x.At, ())
def mk_T_api_Linked (b : P_T_api_Linked) : T_api_Linked := ⟨b.1, b.2.1⟩
instance : Dt T_api_Linked := dtOf un_T_api_Linked
theorem ty40 : TyOK Tryd.prog 40 T_api_Linked false :=
  ty_struct (k := 2) (b := 16) un_T_api_Linked mk_T_api_Linked Tryd.underlying40 (by kernel_rfl) rfl (by decide) (fld_cons ty3 (off' := 1) (by rfl) (fld_cons ty3 (off' := 2) (by rfl) (fld_nil 2))) (fun _ => rfl) (fun _ => rfl) (fun _ => rfl) (fun _ => rfl)
theorem ty33 : TyOK Tryd.prog 33 (List T_api_Linked) true := ty_list ty40 Tryd.underlying33 (by kernel_rfl)
abbrev P_T_api_Estimate := Int × Int × Int × Unit
def un_T_api_Estimate (x : T_api_Estimate) : P_T_api_Estimate := (x.Min, x.Max, x.Speed, ())
def mk_T_api_Estimate (b : P_T_api_Estimate) : T_api_Estimate := ⟨b.1, b.2.1, b.2.2.1⟩
instance : Dt T_api_Estimate := dtOf un_T_api_Estimate
theorem ty38 : TyOK Tryd.prog 38 T_api_Estimate false :=
  ty_struct (k := 3) (b := 24) un_T_api_Estimate mk_T_api_Estimate Tryd.underlying38 (by kernel_rfl) rfl (by decide) (fld_cons ty3 (off' := 1) (by rfl) (fld_cons ty3 (off' := 2) (by rfl) (fld_cons ty3 (off' := 3) (by rfl) (fld_nil 3)))) (fun _ => rfl) (fun _ => rfl) (fun _ => rfl) (fun _ => rfl)
abbrev P_T_rail_passage := Int × Int × Int × Int × Unit
def un_T_rail_passage (x : T_rail_passage) : P_T_rail_passage := (x.kind_, x.in_, x.out_, x.need_, ())
def mk_T_rail_passage (b : P_T_rail_passage) : T_rail_passage := ⟨b.1, b.2.1, b.2.2.1, b.2.2.2.1⟩
instance : Dt T_rail_passage := dtOf un_T_rail_passage
theorem ty101 : TyOK Tryd.prog 101 T_rail_passage false :=
  ty_struct (k := 4) (b := 32) un_T_rail_passage mk_T_rail_passage Tryd.underlying101 (by kernel_rfl) rfl (by decide) (fld_cons ty3 (off' := 1) (by rfl) (fld_cons ty3 (off' := 2) (by rfl) (fld_cons ty3 (off' := 3) (by rfl) (fld_cons ty3 (off' := 4) (by rfl) (fld_nil 4))))) (fun _ => rfl) (fun _ => rfl) (fun _ => rfl) (fun _ => rfl)
def dat_tab_rail_passages : List (DataW Unit) := match (Rows.laid_signalling_rail_passages : DataW Unit) with
  | .agg l => l
  | _ => []
theorem all_tab_rail_passages : All2 Dt.dat tab_rail_passages dat_tab_rail_passages :=
  .cons ⟨_, rfl, _, _, rfl, rfl, _, _, rfl, rfl, _, _, rfl, rfl, _, _, rfl, rfl, rfl⟩ (.cons ⟨_, rfl, _, _, rfl, rfl, _, _, rfl, rfl, _, _, rfl, rfl, _, _, rfl, rfl, rfl⟩ (.cons ⟨_, rfl, _, _, rfl, rfl, _, _, rfl, rfl, _, _, rfl, rfl, _, _, rfl, rfl, rfl⟩ (.cons ⟨_, rfl, _, _, rfl, rfl, _, _, rfl, rfl, _, _, rfl, rfl, _, _, rfl, rfl, rfl⟩ (.cons ⟨_, rfl, _, _, rfl, rfl, _, _, rfl, rfl, _, _, rfl, rfl, _, _, rfl, rfl, rfl⟩ (.cons ⟨_, rfl, _, _, rfl, rfl, _, _, rfl, rfl, _, _, rfl, rfl, _, _, rfl, rfl, rfl⟩ (.cons ⟨_, rfl, _, _, rfl, rfl, _, _, rfl, rfl, _, _, rfl, rfl, _, _, rfl, rfl, rfl⟩ (.cons ⟨_, rfl, _, _, rfl, rfl, _, _, rfl, rfl, _, _, rfl, rfl, _, _, rfl, rfl, rfl⟩ (.cons ⟨_, rfl, _, _, rfl, rfl, _, _, rfl, rfl, _, _, rfl, rfl, _, _, rfl, rfl, rfl⟩ (.cons ⟨_, rfl, _, _, rfl, rfl, _, _, rfl, rfl, _, _, rfl, rfl, _, _, rfl, rfl, rfl⟩ (.nil))))))))))
def laidL : List (String × DataW Unit) := [("signalling/rail.passages", Rows.laid_signalling_rail_passages)]
theorem globs (W : World) (h : laidMetH Tryd.prog laidL W) : ∀ i cs, GlS i = some cs → RelTab (Bk W) W cs i := by
  intro i cs hi
  match i, hi with
  | 0, hi =>
    cases hi
    exact tab_rel (g := 0) ty101 rfl (name := "signalling/rail.passages") (by kernel_rfl) (by kernel_rfl) Tryd.underlying102 (by kernel_rfl) (tab := tab_rail_passages) (dsx := dat_tab_rail_passages) all_tab_rail_passages (by kernel_rfl) (.head _) (by kernel_rfl) h
theorem linkingValid_in (b : List T_api_Linked × Unit) (_ : DtL.szs b ≤ 1048576 ∧ DtL.rngs b) : d_law32_LinkingValid b.1 = some true :=
  linkingValid_law b.1
theorem linkingOverdue_in (b : List T_api_Linked × Int × T_api_Estimate × Unit) (_ : DtL.szs b ≤ 1048576 ∧ DtL.rngs b) : d_law32_LinkingOverdue b.1 b.2.1 b.2.2.1 = some true :=
  linkingOverdue_law b.1 b.2.1 b.2.2.1

end Go.Proofs.YtnnhdhijidpfkaaDoor
