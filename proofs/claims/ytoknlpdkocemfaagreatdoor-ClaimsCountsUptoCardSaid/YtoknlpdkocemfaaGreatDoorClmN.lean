/-
  THE BASE OF THE CARDS: the types of the arguments, and what the rows' list says of the package tables. Printed by tyf.py.
-/
import Derived.Test.YtoknlpdkocemfaaGreatDoorClmB
import Derived.Test.YtoknlpdkocemfaaGreatDoorFrA
import Derived.WalkKit
import Derived.ProofKit
namespace Go.Proofs.YtoknlpdkocemfaaGreatDoor
open Go.ChangeShapes Go.WideShapes Go.ChangeAt Go.RowKit PM

theorem own : ownKnob Tryz.prog.godebug = none := by kernel_rfl
theorem laidOut : laidOutB Tryz.prog = true := by kernel_rfl
theorem ty3 : TyOK Tryz.prog 3 Int false := ty_int Tryz.underlying3 (by kernel_rfl)
abbrev P_T_api_Step := Int × Int × Int × Unit
def un_T_api_Step (x : T_api_Step) : P_T_api_Step := (x.El, x.In, x.Out, ())
def mk_T_api_Step (b : P_T_api_Step) : T_api_Step := ⟨b.1, b.2.1, b.2.2.1⟩
instance : Dt T_api_Step := dtOf un_T_api_Step
theorem ty56 : TyOK Tryz.prog 56 T_api_Step false :=
  ty_struct (k := 3) (b := 24) un_T_api_Step mk_T_api_Step Tryz.underlying56 (by kernel_rfl) rfl (by decide) (fld_cons ty3 (off' := 1) (by rfl) (fld_cons ty3 (off' := 2) (by rfl) (fld_cons ty3 (off' := 3) (by rfl) (fld_nil 3)))) (fun _ => rfl) (fun _ => rfl) (fun _ => rfl) (fun _ => rfl)
theorem ty31 : TyOK Tryz.prog 31 (List T_api_Step) true := ty_list ty56 Tryz.underlying31 (by kernel_rfl)
theorem ty36 : TyOK Tryz.prog 36 (List Int) true := ty_list ty3 Tryz.underlying36 (by kernel_rfl)
abbrev P_T_api_Track := Int × Int × Int × Int × (List T_api_Step) × (List Int) × (List Int) × (List Int) × (List Int) × Int × Int × Int × Int × Int × Unit
def un_T_api_Track (x : T_api_Track) : P_T_api_Track := (x.Id, x.Origin, x.End, x.At, x.Steps, x.Routes, x.Starts, x.Ends, x.Done, x.Min, x.Sent, x.Accepted, x.Cut, x.CutSeq, ())
def mk_T_api_Track (b : P_T_api_Track) : T_api_Track := ⟨b.1, b.2.1, b.2.2.1, b.2.2.2.1, b.2.2.2.2.1, b.2.2.2.2.2.1, b.2.2.2.2.2.2.1, b.2.2.2.2.2.2.2.1, b.2.2.2.2.2.2.2.2.1, b.2.2.2.2.2.2.2.2.2.1, b.2.2.2.2.2.2.2.2.2.2.1, b.2.2.2.2.2.2.2.2.2.2.2.1, b.2.2.2.2.2.2.2.2.2.2.2.2.1, b.2.2.2.2.2.2.2.2.2.2.2.2.2.1⟩
instance : Dt T_api_Track := dtOf un_T_api_Track
theorem ty38 : TyOK Tryz.prog 38 T_api_Track true :=
  ty_struct (k := 14) (b := 192) un_T_api_Track mk_T_api_Track Tryz.underlying38 (by kernel_rfl) rfl (by decide) (fld_cons ty3 (off' := 1) (by rfl) (fld_cons ty3 (off' := 2) (by rfl) (fld_cons ty3 (off' := 3) (by rfl) (fld_cons ty3 (off' := 4) (by rfl) (fld_cons ty31 (off' := 5) (by rfl) (fld_cons ty36 (off' := 6) (by rfl) (fld_cons ty36 (off' := 7) (by rfl) (fld_cons ty36 (off' := 8) (by rfl) (fld_cons ty36 (off' := 9) (by rfl) (fld_cons ty3 (off' := 10) (by rfl) (fld_cons ty3 (off' := 11) (by rfl) (fld_cons ty3 (off' := 12) (by rfl) (fld_cons ty3 (off' := 13) (by rfl) (fld_cons ty3 (off' := 14) (by rfl) (fld_nil 14))))))))))))))) (fun _ => rfl) (fun _ => rfl) (fun _ => rfl) (fun _ => rfl)
theorem ty44 : TyOK Tryz.prog 44 (List T_api_Track) true := ty_list ty38 Tryz.underlying44 (by kernel_rfl)
def dat_tab_rail_sides : List (DataW Unit) := match (Rows.laid_signalling_rail_sides : DataW Unit) with
  | .agg l => l
  | _ => []
theorem all_tab_rail_sides : All2 Dt.dat tab_rail_sides dat_tab_rail_sides :=
  .cons rfl (.cons rfl (.cons rfl (.cons rfl (.nil))))
abbrev P_T_rail_passage := Int × Int × Int × Int × Unit
def un_T_rail_passage (x : T_rail_passage) : P_T_rail_passage := (x.kind_, x.in_, x.out_, x.need_, ())
def mk_T_rail_passage (b : P_T_rail_passage) : T_rail_passage := ⟨b.1, b.2.1, b.2.2.1, b.2.2.2.1⟩
instance : Dt T_rail_passage := dtOf un_T_rail_passage
theorem ty171 : TyOK Tryz.prog 171 T_rail_passage false :=
  ty_struct (k := 4) (b := 32) un_T_rail_passage mk_T_rail_passage Tryz.underlying171 (by kernel_rfl) rfl (by decide) (fld_cons ty3 (off' := 1) (by rfl) (fld_cons ty3 (off' := 2) (by rfl) (fld_cons ty3 (off' := 3) (by rfl) (fld_cons ty3 (off' := 4) (by rfl) (fld_nil 4))))) (fun _ => rfl) (fun _ => rfl) (fun _ => rfl) (fun _ => rfl)
def dat_tab_rail_passages : List (DataW Unit) := match (Rows.laid_signalling_rail_passages : DataW Unit) with
  | .agg l => l
  | _ => []
theorem all_tab_rail_passages : All2 Dt.dat tab_rail_passages dat_tab_rail_passages :=
  .cons ⟨_, rfl, _, _, rfl, rfl, _, _, rfl, rfl, _, _, rfl, rfl, _, _, rfl, rfl, rfl⟩ (.cons ⟨_, rfl, _, _, rfl, rfl, _, _, rfl, rfl, _, _, rfl, rfl, _, _, rfl, rfl, rfl⟩ (.cons ⟨_, rfl, _, _, rfl, rfl, _, _, rfl, rfl, _, _, rfl, rfl, _, _, rfl, rfl, rfl⟩ (.cons ⟨_, rfl, _, _, rfl, rfl, _, _, rfl, rfl, _, _, rfl, rfl, _, _, rfl, rfl, rfl⟩ (.cons ⟨_, rfl, _, _, rfl, rfl, _, _, rfl, rfl, _, _, rfl, rfl, _, _, rfl, rfl, rfl⟩ (.cons ⟨_, rfl, _, _, rfl, rfl, _, _, rfl, rfl, _, _, rfl, rfl, _, _, rfl, rfl, rfl⟩ (.cons ⟨_, rfl, _, _, rfl, rfl, _, _, rfl, rfl, _, _, rfl, rfl, _, _, rfl, rfl, rfl⟩ (.cons ⟨_, rfl, _, _, rfl, rfl, _, _, rfl, rfl, _, _, rfl, rfl, _, _, rfl, rfl, rfl⟩ (.cons ⟨_, rfl, _, _, rfl, rfl, _, _, rfl, rfl, _, _, rfl, rfl, _, _, rfl, rfl, rfl⟩ (.cons ⟨_, rfl, _, _, rfl, rfl, _, _, rfl, rfl, _, _, rfl, rfl, _, _, rfl, rfl, rfl⟩ (.nil))))))))))
def laidL : List (String × DataW Unit) := [("signalling/rail.sides", Rows.laid_signalling_rail_sides), ("signalling/rail.passages", Rows.laid_signalling_rail_passages)]
theorem globs (W : World) (h : laidMetH Tryz.prog laidL W) : ∀ i cs, GlS i = some cs → RelTab (Bk W) W cs i := by
  intro i cs hi
  match i, hi with
  | 0, hi =>
    cases hi
    exact tab_rel (g := 0) ty3 rfl (name := "signalling/rail.sides") (by kernel_rfl) (by kernel_rfl) Tryz.underlying169 (by kernel_rfl) (tab := tab_rail_sides) (dsx := dat_tab_rail_sides) all_tab_rail_sides (by kernel_rfl) (.head _) (by kernel_rfl) h
  | 1, hi =>
    cases hi
    exact tab_rel (g := 1) ty171 rfl (name := "signalling/rail.passages") (by kernel_rfl) (by kernel_rfl) Tryz.underlying172 (by kernel_rfl) (tab := tab_rail_passages) (dsx := dat_tab_rail_passages) all_tab_rail_passages (by kernel_rfl) (.tail _ (.head _)) (by kernel_rfl) h
theorem claimsCounts_in (b : (List T_api_Track) × Int × Unit) (_ : DtL.szs b ≤ 1048576 ∧ DtL.rngs b) : d_law40_ClaimsCounts b.1 b.2.1 = some true := claimsCounts_law _ _

end Go.Proofs.YtoknlpdkocemfaaGreatDoor
