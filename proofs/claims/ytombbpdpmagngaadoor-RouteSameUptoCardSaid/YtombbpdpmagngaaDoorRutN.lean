/-
  THE BASE OF THE CARDS: the types of the arguments, and what the rows' list says of the package tables. Printed by tyf.py.
-/
import Derived.Test.YtombbpdpmagngaaDoorRutS
import Derived.Test.YtombbpdpmagngaaDoorFrA
import Derived.WalkKit
import Derived.ProofKit
namespace Go.Proofs.YtombbpdpmagngaaDoor
open Go.ChangeShapes Go.WideShapes Go.ChangeAt Go.RowKit PM

theorem own : ownKnob Tryd.prog.godebug = none := by kernel_rfl
theorem laidOut : laidOutB Tryd.prog = true := by kernel_rfl
theorem ty9 : TyOK Tryd.prog 9 ByteArray false := ty_str Tryd.underlying9 (by kernel_rfl)
theorem ty3 : TyOK Tryd.prog 3 Int false := ty_int Tryd.underlying3 (by kernel_rfl)
abbrev P_T_api_Step := Int × Int × Int × Unit
def un_T_api_Step (x : T_api_Step) : P_T_api_Step := (x.El, x.In, x.Out, ())
def mk_T_api_Step (b : P_T_api_Step) : T_api_Step := ⟨b.1, b.2.1, b.2.2.1⟩
instance : Dt T_api_Step := dtOf un_T_api_Step
theorem ty45 : TyOK Tryd.prog 45 T_api_Step false :=
  ty_struct (k := 3) (b := 24) un_T_api_Step mk_T_api_Step Tryd.underlying45 (by kernel_rfl) rfl (by decide) (fld_cons ty3 (off' := 1) (by rfl) (fld_cons ty3 (off' := 2) (by rfl) (fld_cons ty3 (off' := 3) (by rfl) (fld_nil 3)))) (fun _ => rfl) (fun _ => rfl) (fun _ => rfl) (fun _ => rfl)
theorem ty22 : TyOK Tryd.prog 22 (List T_api_Step) true := ty_list ty45 Tryd.underlying22 (by kernel_rfl)
abbrev P_T_api_Setting := Int × Int × Unit
def un_T_api_Setting (x : T_api_Setting) : P_T_api_Setting := (x.El, x.Pos, ())
def mk_T_api_Setting (b : P_T_api_Setting) : T_api_Setting := ⟨b.1, b.2.1⟩
instance : Dt T_api_Setting := dtOf un_T_api_Setting
theorem ty49 : TyOK Tryd.prog 49 T_api_Setting false :=
  ty_struct (k := 2) (b := 16) un_T_api_Setting mk_T_api_Setting Tryd.underlying49 (by kernel_rfl) rfl (by decide) (fld_cons ty3 (off' := 1) (by rfl) (fld_cons ty3 (off' := 2) (by rfl) (fld_nil 2))) (fun _ => rfl) (fun _ => rfl) (fun _ => rfl) (fun _ => rfl)
theorem ty23 : TyOK Tryd.prog 23 (List T_api_Setting) true := ty_list ty49 Tryd.underlying23 (by kernel_rfl)
theorem ty24 : TyOK Tryd.prog 24 (List Int) true := ty_list ty3 Tryd.underlying24 (by kernel_rfl)
abbrev P_T_api_End := Int × Int × Unit
def un_T_api_End (x : T_api_End) : P_T_api_End := (x.El, x.Side, ())
def mk_T_api_End (b : P_T_api_End) : T_api_End := ⟨b.1, b.2.1⟩
instance : Dt T_api_End := dtOf un_T_api_End
theorem ty53 : TyOK Tryd.prog 53 T_api_End false :=
  ty_struct (k := 2) (b := 16) un_T_api_End mk_T_api_End Tryd.underlying53 (by kernel_rfl) rfl (by decide) (fld_cons ty3 (off' := 1) (by rfl) (fld_cons ty3 (off' := 2) (by rfl) (fld_nil 2))) (fun _ => rfl) (fun _ => rfl) (fun _ => rfl) (fun _ => rfl)
theorem ty25 : TyOK Tryd.prog 25 (List T_api_End) true := ty_list ty53 Tryd.underlying25 (by kernel_rfl)
abbrev P_T_api_Route := ByteArray × Int × Int × (List T_api_Step) × (List T_api_Setting) × (List Int) × Int × Int × (List T_api_Step) × (List T_api_Setting) × (List Int) × (List T_api_Setting) × (List Int) × (List T_api_End) × Unit
def un_T_api_Route (x : T_api_Route) : P_T_api_Route := (x.Name, x.Entry, x.Exit, x.Path, x.Points, x.Sections, x.Approach, x.Length, x.Over, x.OverPoints, x.OverSections, x.Flank, x.Guards, x.Gaps, ())
def mk_T_api_Route (b : P_T_api_Route) : T_api_Route := ⟨b.1, b.2.1, b.2.2.1, b.2.2.2.1, b.2.2.2.2.1, b.2.2.2.2.2.1, b.2.2.2.2.2.2.1, b.2.2.2.2.2.2.2.1, b.2.2.2.2.2.2.2.2.1, b.2.2.2.2.2.2.2.2.2.1, b.2.2.2.2.2.2.2.2.2.2.1, b.2.2.2.2.2.2.2.2.2.2.2.1, b.2.2.2.2.2.2.2.2.2.2.2.2.1, b.2.2.2.2.2.2.2.2.2.2.2.2.2.1⟩
instance : Dt T_api_Route := dtOf un_T_api_Route
theorem ty27 : TyOK Tryd.prog 27 T_api_Route true :=
  ty_struct (k := 14) (b := 264) un_T_api_Route mk_T_api_Route Tryd.underlying27 (by kernel_rfl) rfl (by decide) (fld_cons ty9 (off' := 1) (by rfl) (fld_cons ty3 (off' := 2) (by rfl) (fld_cons ty3 (off' := 3) (by rfl) (fld_cons ty22 (off' := 4) (by rfl) (fld_cons ty23 (off' := 5) (by rfl) (fld_cons ty24 (off' := 6) (by rfl) (fld_cons ty3 (off' := 7) (by rfl) (fld_cons ty3 (off' := 8) (by rfl) (fld_cons ty22 (off' := 9) (by rfl) (fld_cons ty23 (off' := 10) (by rfl) (fld_cons ty24 (off' := 11) (by rfl) (fld_cons ty23 (off' := 12) (by rfl) (fld_cons ty24 (off' := 13) (by rfl) (fld_cons ty25 (off' := 14) (by rfl) (fld_nil 14))))))))))))))) (fun _ => rfl) (fun _ => rfl) (fun _ => rfl) (fun _ => rfl)
abbrev P_T_rail_passage := Int × Int × Int × Int × Unit
def un_T_rail_passage (x : T_rail_passage) : P_T_rail_passage := (x.kind_, x.in_, x.out_, x.need_, ())
def mk_T_rail_passage (b : P_T_rail_passage) : T_rail_passage := ⟨b.1, b.2.1, b.2.2.1, b.2.2.2.1⟩
instance : Dt T_rail_passage := dtOf un_T_rail_passage
theorem ty106 : TyOK Tryd.prog 106 T_rail_passage false :=
  ty_struct (k := 4) (b := 32) un_T_rail_passage mk_T_rail_passage Tryd.underlying106 (by kernel_rfl) rfl (by decide) (fld_cons ty3 (off' := 1) (by rfl) (fld_cons ty3 (off' := 2) (by rfl) (fld_cons ty3 (off' := 3) (by rfl) (fld_cons ty3 (off' := 4) (by rfl) (fld_nil 4))))) (fun _ => rfl) (fun _ => rfl) (fun _ => rfl) (fun _ => rfl)
def dat_tab_rail_passages : List (DataW Unit) := match (Rows.laid_signalling_rail_passages : DataW Unit) with
  | .agg l => l
  | _ => []
theorem all_tab_rail_passages : All2 Dt.dat tab_rail_passages dat_tab_rail_passages :=
  .cons ⟨_, rfl, _, _, rfl, rfl, _, _, rfl, rfl, _, _, rfl, rfl, _, _, rfl, rfl, rfl⟩ (.cons ⟨_, rfl, _, _, rfl, rfl, _, _, rfl, rfl, _, _, rfl, rfl, _, _, rfl, rfl, rfl⟩ (.cons ⟨_, rfl, _, _, rfl, rfl, _, _, rfl, rfl, _, _, rfl, rfl, _, _, rfl, rfl, rfl⟩ (.cons ⟨_, rfl, _, _, rfl, rfl, _, _, rfl, rfl, _, _, rfl, rfl, _, _, rfl, rfl, rfl⟩ (.cons ⟨_, rfl, _, _, rfl, rfl, _, _, rfl, rfl, _, _, rfl, rfl, _, _, rfl, rfl, rfl⟩ (.cons ⟨_, rfl, _, _, rfl, rfl, _, _, rfl, rfl, _, _, rfl, rfl, _, _, rfl, rfl, rfl⟩ (.cons ⟨_, rfl, _, _, rfl, rfl, _, _, rfl, rfl, _, _, rfl, rfl, _, _, rfl, rfl, rfl⟩ (.cons ⟨_, rfl, _, _, rfl, rfl, _, _, rfl, rfl, _, _, rfl, rfl, _, _, rfl, rfl, rfl⟩ (.cons ⟨_, rfl, _, _, rfl, rfl, _, _, rfl, rfl, _, _, rfl, rfl, _, _, rfl, rfl, rfl⟩ (.cons ⟨_, rfl, _, _, rfl, rfl, _, _, rfl, rfl, _, _, rfl, rfl, _, _, rfl, rfl, rfl⟩ (.nil))))))))))
def dat_tab_rail_sides : List (DataW Unit) := match (Rows.laid_signalling_rail_sides : DataW Unit) with
  | .agg l => l
  | _ => []
theorem all_tab_rail_sides : All2 Dt.dat tab_rail_sides dat_tab_rail_sides :=
  .cons rfl (.cons rfl (.cons rfl (.cons rfl (.nil))))
def laidL : List (String × DataW Unit) := [("math/bits.deBruijn32tab", Rows.laid_math_bits_deBruijn32tab), ("math/bits.deBruijn64tab", Rows.laid_math_bits_deBruijn64tab), ("internal/strconv.uint64pow10", Rows.laid_internal_strconv_uint64pow10), ("signalling/rail.sides", Rows.laid_signalling_rail_sides), ("signalling/rail.passages", Rows.laid_signalling_rail_passages)]
theorem globs (W : World) (h : laidMetH Tryd.prog laidL W) : ∀ i cs, GlS i = some cs → RelTab (Bk W) W cs i := by
  intro i cs hi
  match i, hi with
  | 0, hi =>
    cases hi
    exact tab_rel (g := 0) ty106 rfl (name := "signalling/rail.passages") (by kernel_rfl) (by kernel_rfl) Tryd.underlying107 (by kernel_rfl) (tab := tab_rail_passages) (dsx := dat_tab_rail_passages) all_tab_rail_passages (by kernel_rfl) (.tail _ (.tail _ (.tail _ (.tail _ (.head _))))) (by kernel_rfl) h
  | 2, hi =>
    cases hi
    exact tab_rel (g := 2) ty3 rfl (name := "signalling/rail.sides") (by kernel_rfl) (by kernel_rfl) Tryd.underlying135 (by kernel_rfl) (tab := tab_rail_sides) (dsx := dat_tab_rail_sides) all_tab_rail_sides (by kernel_rfl) (.tail _ (.tail _ (.tail _ (.head _)))) (by kernel_rfl) h
theorem sizL_len {α : Type} [Dt α] (h : ∀ a : α, 1 ≤ Dt.siz a) : ∀ l : List α, l.length ≤ sizL l
  | [] => Nat.le_refl _
  | x :: xs => by have := sizL_len h xs; have := h x; simp only [sizL, List.length_cons]; omega
theorem sizL_mem {α : Type} [Dt α] {x : α} : ∀ {l : List α}, x ∈ l → Dt.siz x ≤ sizL l
  | y :: ys, h => by
    rcases List.mem_cons.1 h with rfl | h
    · simp only [sizL]; omega
    · have := sizL_mem h; simp only [sizL]; omega
theorem siz_route (r : T_api_Route) : Dt.siz r = (r.Name.size + 1) + (1 + (1 + ((sizL r.Path + 1) + ((sizL r.Points + 1) + ((sizL r.Sections + 1) + (1 + (1 + ((sizL r.Over + 1) + ((sizL r.OverPoints + 1) + ((sizL r.OverSections + 1) + ((sizL r.Flank + 1) + ((sizL r.Guards + 1) + ((sizL r.Gaps + 1) + 0))))))))))))) + 1 := rfl
theorem fewS_of {r : T_api_Route} (h : Dt.siz r ≤ 1048576) : FewS r := by
  rw [siz_route] at h
  have s1 : ∀ x : T_api_Step, 1 ≤ Dt.siz x := fun x => by show 1 ≤ _ + 1; omega
  have s2 : ∀ x : T_api_Setting, 1 ≤ Dt.siz x := fun x => by show 1 ≤ _ + 1; omega
  have s3 : ∀ x : Int, 1 ≤ Dt.siz x := fun x => by show 1 ≤ 1; omega
  have s4 : ∀ x : T_api_End, 1 ≤ Dt.siz x := fun x => by show 1 ≤ _ + 1; omega
  have h1 := sizL_len s1 r.Path
  have h2 := sizL_len s2 r.Points
  have h3 := sizL_len s3 r.Sections
  have h4 := sizL_len s1 r.Over
  have h5 := sizL_len s2 r.OverPoints
  have h6 := sizL_len s3 r.OverSections
  have h7 := sizL_len s2 r.Flank
  have h8 := sizL_len s3 r.Guards
  have h9 := sizL_len s4 r.Gaps
  exact ⟨by omega, by omega, by omega, by omega, by omega, by omega, by omega, by omega, by omega⟩
theorem szs_two {α β : Type} [Enc α] [Dt α] [Enc β] [Dt β] (b : α × β × Unit) : DtL.szs b = Dt.siz b.1 + (Dt.siz b.2.1 + 0) := rfl
theorem routeSame_in (b : T_api_Route × T_api_Route × Unit) (h : DtL.szs b ≤ 1048576 ∧ DtL.rngs b) : d_law12_RouteSame b.1 b.2.1 = some true := by
  have h := h.1
  rw [szs_two] at h
  exact routeSame_law (fewS_of (Nat.le_trans (Nat.le_add_right _ _) h))

end Go.Proofs.YtombbpdpmagngaaDoor
