/-
  THE BASE OF THE CARDS: the types of the arguments, and what the rows' list says of the package tables. Printed by tyf.py.
-/
import Derived.Test.YtoknlpdkocemfaaGreatDoorClmB
import Derived.Test.YtoknlpdkocemfaaGreatDoorFrA
import Derived.WalkKit
import Derived.ProofKit
namespace Go.Proofs.YtoknlpdkocemfaaGreatDoor
open Go.ChangeShapes Go.WideShapes Go.ChangeAt Go.RowKit PM

theorem own : ownKnob Tryz.prog.godebug = none := by kernel_rfl
theorem laidOut : laidOutB Tryz.prog = true := by kernel_rfl
theorem ty9 : TyOK Tryz.prog 9 ByteArray false := ty_str Tryz.underlying9 (by kernel_rfl)
theorem ty22 : TyOK Tryz.prog 22 (List ByteArray) true := ty_list ty9 Tryz.underlying22 (by kernel_rfl)
theorem ty3 : TyOK Tryz.prog 3 Int false := ty_int Tryz.underlying3 (by kernel_rfl)
abbrev P_T_api_Element := ByteArray × Int × Int × Int × Int × Int × Int × Unit
def un_T_api_Element (x : T_api_Element) : P_T_api_Element := (x.Name, x.Kind, x.Length, x.Grade, x.Speed, x.Slow, x.Section, ())
def mk_T_api_Element (b : P_T_api_Element) : T_api_Element := ⟨b.1, b.2.1, b.2.2.1, b.2.2.2.1, b.2.2.2.2.1, b.2.2.2.2.2.1, b.2.2.2.2.2.2.1⟩
instance : Dt T_api_Element := dtOf un_T_api_Element
theorem ty72 : TyOK Tryz.prog 72 T_api_Element false :=
  ty_struct (k := 7) (b := 64) un_T_api_Element mk_T_api_Element Tryz.underlying72 (by kernel_rfl) rfl (by decide) (fld_cons ty9 (off' := 1) (by rfl) (fld_cons ty3 (off' := 2) (by rfl) (fld_cons ty3 (off' := 3) (by rfl) (fld_cons ty3 (off' := 4) (by rfl) (fld_cons ty3 (off' := 5) (by rfl) (fld_cons ty3 (off' := 6) (by rfl) (fld_cons ty3 (off' := 7) (by rfl) (fld_nil 7)))))))) (fun _ => rfl) (fun _ => rfl) (fun _ => rfl) (fun _ => rfl)
theorem ty23 : TyOK Tryz.prog 23 (List T_api_Element) true := ty_list ty72 Tryz.underlying23 (by kernel_rfl)
abbrev P_T_api_End := Int × Int × Unit
def un_T_api_End (x : T_api_End) : P_T_api_End := (x.El, x.Side, ())
def mk_T_api_End (b : P_T_api_End) : T_api_End := ⟨b.1, b.2.1⟩
instance : Dt T_api_End := dtOf un_T_api_End
theorem ty67 : TyOK Tryz.prog 67 T_api_End false :=
  ty_struct (k := 2) (b := 16) un_T_api_End mk_T_api_End Tryz.underlying67 (by kernel_rfl) rfl (by decide) (fld_cons ty3 (off' := 1) (by rfl) (fld_cons ty3 (off' := 2) (by rfl) (fld_nil 2))) (fun _ => rfl) (fun _ => rfl) (fun _ => rfl) (fun _ => rfl)
abbrev P_T_api_Joint := T_api_End × T_api_End × Unit
def un_T_api_Joint (x : T_api_Joint) : P_T_api_Joint := (x.A, x.B, ())
def mk_T_api_Joint (b : P_T_api_Joint) : T_api_Joint := ⟨b.1, b.2.1⟩
instance : Dt T_api_Joint := dtOf un_T_api_Joint
theorem ty78 : TyOK Tryz.prog 78 T_api_Joint false :=
  ty_struct (k := 4) (b := 32) un_T_api_Joint mk_T_api_Joint Tryz.underlying78 (by kernel_rfl) rfl (by decide) (fld_cons ty67 (off' := 2) (by rfl) (fld_cons ty67 (off' := 4) (by rfl) (fld_nil 4))) (fun _ => rfl) (fun _ => rfl) (fun _ => rfl) (fun _ => rfl)
theorem ty24 : TyOK Tryz.prog 24 (List T_api_Joint) true := ty_list ty78 Tryz.underlying24 (by kernel_rfl)
abbrev P_T_api_Signal := ByteArray × T_api_End × Int × Unit
def un_T_api_Signal (x : T_api_Signal) : P_T_api_Signal := (x.Name, x.At, x.Overlap, ())
def mk_T_api_Signal (b : P_T_api_Signal) : T_api_Signal := ⟨b.1, b.2.1, b.2.2.1⟩
instance : Dt T_api_Signal := dtOf un_T_api_Signal
theorem ty80 : TyOK Tryz.prog 80 T_api_Signal false :=
  ty_struct (k := 4) (b := 40) un_T_api_Signal mk_T_api_Signal Tryz.underlying80 (by kernel_rfl) rfl (by decide) (fld_cons ty9 (off' := 1) (by rfl) (fld_cons ty67 (off' := 3) (by rfl) (fld_cons ty3 (off' := 4) (by rfl) (fld_nil 4)))) (fun _ => rfl) (fun _ => rfl) (fun _ => rfl) (fun _ => rfl)
theorem ty25 : TyOK Tryz.prog 25 (List T_api_Signal) true := ty_list ty80 Tryz.underlying25 (by kernel_rfl)
abbrev P_T_api_Balise := Int × Int × Int × Unit
def un_T_api_Balise (x : T_api_Balise) : P_T_api_Balise := (x.Id, x.El, x.Offset, ())
def mk_T_api_Balise (b : P_T_api_Balise) : T_api_Balise := ⟨b.1, b.2.1, b.2.2.1⟩
instance : Dt T_api_Balise := dtOf un_T_api_Balise
theorem ty137 : TyOK Tryz.prog 137 T_api_Balise false :=
  ty_struct (k := 3) (b := 24) un_T_api_Balise mk_T_api_Balise Tryz.underlying137 (by kernel_rfl) rfl (by decide) (fld_cons ty3 (off' := 1) (by rfl) (fld_cons ty3 (off' := 2) (by rfl) (fld_cons ty3 (off' := 3) (by rfl) (fld_nil 3)))) (fun _ => rfl) (fun _ => rfl) (fun _ => rfl) (fun _ => rfl)
theorem ty26 : TyOK Tryz.prog 26 (List T_api_Balise) true := ty_list ty137 Tryz.underlying26 (by kernel_rfl)
abbrev P_T_api_Layout := ByteArray × (List ByteArray) × (List T_api_Element) × (List T_api_Joint) × (List T_api_Signal) × (List T_api_Balise) × Unit
def un_T_api_Layout (x : T_api_Layout) : P_T_api_Layout := (x.Name, x.Sections, x.Elements, x.Joints, x.Signals, x.Balises, ())
def mk_T_api_Layout (b : P_T_api_Layout) : T_api_Layout := ⟨b.1, b.2.1, b.2.2.1, b.2.2.2.1, b.2.2.2.2.1, b.2.2.2.2.2.1⟩
instance : Dt T_api_Layout := dtOf un_T_api_Layout
theorem ty28 : TyOK Tryz.prog 28 T_api_Layout true :=
  ty_struct (k := 6) (b := 136) un_T_api_Layout mk_T_api_Layout Tryz.underlying28 (by kernel_rfl) rfl (by decide) (fld_cons ty9 (off' := 1) (by rfl) (fld_cons ty22 (off' := 2) (by rfl) (fld_cons ty23 (off' := 3) (by rfl) (fld_cons ty24 (off' := 4) (by rfl) (fld_cons ty25 (off' := 5) (by rfl) (fld_cons ty26 (off' := 6) (by rfl) (fld_nil 6))))))) (fun _ => rfl) (fun _ => rfl) (fun _ => rfl) (fun _ => rfl)
abbrev P_T_api_Train := Int × ByteArray × Int × Int × Int × Int × Int × Int × Int × Int × Unit
def un_T_api_Train (x : T_api_Train) : P_T_api_Train := (x.Id, x.Name, x.Length, x.Speed, x.Accel, x.Service, x.Emergency, x.Delay, x.Const, x.Rate, ())
def mk_T_api_Train (b : P_T_api_Train) : T_api_Train := ⟨b.1, b.2.1, b.2.2.1, b.2.2.2.1, b.2.2.2.2.1, b.2.2.2.2.2.1, b.2.2.2.2.2.2.1, b.2.2.2.2.2.2.2.1, b.2.2.2.2.2.2.2.2.1, b.2.2.2.2.2.2.2.2.2.1⟩
instance : Dt T_api_Train := dtOf un_T_api_Train
theorem ty30 : TyOK Tryz.prog 30 T_api_Train false :=
  ty_struct (k := 10) (b := 88) un_T_api_Train mk_T_api_Train Tryz.underlying30 (by kernel_rfl) rfl (by decide) (fld_cons ty3 (off' := 1) (by rfl) (fld_cons ty9 (off' := 2) (by rfl) (fld_cons ty3 (off' := 3) (by rfl) (fld_cons ty3 (off' := 4) (by rfl) (fld_cons ty3 (off' := 5) (by rfl) (fld_cons ty3 (off' := 6) (by rfl) (fld_cons ty3 (off' := 7) (by rfl) (fld_cons ty3 (off' := 8) (by rfl) (fld_cons ty3 (off' := 9) (by rfl) (fld_cons ty3 (off' := 10) (by rfl) (fld_nil 10))))))))))) (fun _ => rfl) (fun _ => rfl) (fun _ => rfl) (fun _ => rfl)
abbrev P_T_api_Step := Int × Int × Int × Unit
def un_T_api_Step (x : T_api_Step) : P_T_api_Step := (x.El, x.In, x.Out, ())
def mk_T_api_Step (b : P_T_api_Step) : T_api_Step := ⟨b.1, b.2.1, b.2.2.1⟩
instance : Dt T_api_Step := dtOf un_T_api_Step
theorem ty56 : TyOK Tryz.prog 56 T_api_Step false :=
  ty_struct (k := 3) (b := 24) un_T_api_Step mk_T_api_Step Tryz.underlying56 (by kernel_rfl) rfl (by decide) (fld_cons ty3 (off' := 1) (by rfl) (fld_cons ty3 (off' := 2) (by rfl) (fld_cons ty3 (off' := 3) (by rfl) (fld_nil 3)))) (fun _ => rfl) (fun _ => rfl) (fun _ => rfl) (fun _ => rfl)
theorem ty31 : TyOK Tryz.prog 31 (List T_api_Step) true := ty_list ty56 Tryz.underlying31 (by kernel_rfl)
abbrev P_T_api_Body := (List T_api_Step) × Int × Int × Unit
def un_T_api_Body (x : T_api_Body) : P_T_api_Body := (x.Steps, x.Head, x.Length, ())
def mk_T_api_Body (b : P_T_api_Body) : T_api_Body := ⟨b.1, b.2.1, b.2.2.1⟩
instance : Dt T_api_Body := dtOf un_T_api_Body
theorem ty33 : TyOK Tryz.prog 33 T_api_Body true :=
  ty_struct (k := 3) (b := 40) un_T_api_Body mk_T_api_Body Tryz.underlying33 (by kernel_rfl) rfl (by decide) (fld_cons ty31 (off' := 1) (by rfl) (fld_cons ty3 (off' := 2) (by rfl) (fld_cons ty3 (off' := 3) (by rfl) (fld_nil 3)))) (fun _ => rfl) (fun _ => rfl) (fun _ => rfl) (fun _ => rfl)
def dat_tab_rail_sides : List (DataW Unit) := match (Rows.laid_signalling_rail_sides : DataW Unit) with
  | .agg l => l
  | _ => []
theorem all_tab_rail_sides : All2 Dt.dat tab_rail_sides dat_tab_rail_sides :=
  .cons rfl (.cons rfl (.cons rfl (.cons rfl (.nil))))
abbrev P_T_rail_passage := Int × Int × Int × Int × Unit
def un_T_rail_passage (x : T_rail_passage) : P_T_rail_passage := (x.kind_, x.in_, x.out_, x.need_, ())
def mk_T_rail_passage (b : P_T_rail_passage) : T_rail_passage := ⟨b.1, b.2.1, b.2.2.1, b.2.2.2.1⟩
instance : Dt T_rail_passage := dtOf un_T_rail_passage
theorem ty171 : TyOK Tryz.prog 171 T_rail_passage false :=
  ty_struct (k := 4) (b := 32) un_T_rail_passage mk_T_rail_passage Tryz.underlying171 (by kernel_rfl) rfl (by decide) (fld_cons ty3 (off' := 1) (by rfl) (fld_cons ty3 (off' := 2) (by rfl) (fld_cons ty3 (off' := 3) (by rfl) (fld_cons ty3 (off' := 4) (by rfl) (fld_nil 4))))) (fun _ => rfl) (fun _ => rfl) (fun _ => rfl) (fun _ => rfl)
def dat_tab_rail_passages : List (DataW Unit) := match (Rows.laid_signalling_rail_passages : DataW Unit) with
  | .agg l => l
  | _ => []
theorem all_tab_rail_passages : All2 Dt.dat tab_rail_passages dat_tab_rail_passages :=
  .cons ⟨_, rfl, _, _, rfl, rfl, _, _, rfl, rfl, _, _, rfl, rfl, _, _, rfl, rfl, rfl⟩ (.cons ⟨_, rfl, _, _, rfl, rfl, _, _, rfl, rfl, _, _, rfl, rfl, _, _, rfl, rfl, rfl⟩ (.cons ⟨_, rfl, _, _, rfl, rfl, _, _, rfl, rfl, _, _, rfl, rfl, _, _, rfl, rfl, rfl⟩ (.cons ⟨_, rfl, _, _, rfl, rfl, _, _, rfl, rfl, _, _, rfl, rfl, _, _, rfl, rfl, rfl⟩ (.cons ⟨_, rfl, _, _, rfl, rfl, _, _, rfl, rfl, _, _, rfl, rfl, _, _, rfl, rfl, rfl⟩ (.cons ⟨_, rfl, _, _, rfl, rfl, _, _, rfl, rfl, _, _, rfl, rfl, _, _, rfl, rfl, rfl⟩ (.cons ⟨_, rfl, _, _, rfl, rfl, _, _, rfl, rfl, _, _, rfl, rfl, _, _, rfl, rfl, rfl⟩ (.cons ⟨_, rfl, _, _, rfl, rfl, _, _, rfl, rfl, _, _, rfl, rfl, _, _, rfl, rfl, rfl⟩ (.cons ⟨_, rfl, _, _, rfl, rfl, _, _, rfl, rfl, _, _, rfl, rfl, _, _, rfl, rfl, rfl⟩ (.cons ⟨_, rfl, _, _, rfl, rfl, _, _, rfl, rfl, _, _, rfl, rfl, _, _, rfl, rfl, rfl⟩ (.nil))))))))))
def laidL : List (String × DataW Unit) := [("signalling/rail.sides", Rows.laid_signalling_rail_sides), ("signalling/rail.passages", Rows.laid_signalling_rail_passages)]
theorem globs (W : World) (h : laidMetH Tryz.prog laidL W) : ∀ i cs, GlS i = some cs → RelTab (Bk W) W cs i := by
  intro i cs hi
  match i, hi with
  | 0, hi =>
    cases hi
    exact tab_rel (g := 0) ty3 rfl (name := "signalling/rail.sides") (by kernel_rfl) (by kernel_rfl) Tryz.underlying169 (by kernel_rfl) (tab := tab_rail_sides) (dsx := dat_tab_rail_sides) all_tab_rail_sides (by kernel_rfl) (.head _) (by kernel_rfl) h
  | 1, hi =>
    cases hi
    exact tab_rel (g := 1) ty171 rfl (name := "signalling/rail.passages") (by kernel_rfl) (by kernel_rfl) Tryz.underlying172 (by kernel_rfl) (tab := tab_rail_passages) (dsx := dat_tab_rail_passages) all_tab_rail_passages (by kernel_rfl) (.tail _ (.head _)) (by kernel_rfl) h
theorem sizL_len {α : Type} [Dt α] (h : ∀ a : α, 1 ≤ Dt.siz a) : ∀ l : List α, l.length ≤ sizL l
  | [] => Nat.le_refl _
  | x :: xs => by have := sizL_len h xs; have := h x; simp only [sizL, List.length_cons]; omega
theorem sizL_mem {α : Type} [Dt α] {x : α} : ∀ {l : List α}, x ∈ l → Dt.siz x ≤ sizL l
  | y :: ys, h => by
    rcases List.mem_cons.1 h with rfl | h
    · simp only [sizL]; omega
    · have := sizL_mem h; simp only [sizL]; omega
theorem siz_layout (l : T_api_Layout) : Dt.siz l = (l.Name.size + 1) + ((sizL l.Sections + 1) + ((sizL l.Elements + 1) + ((sizL l.Joints + 1) + ((sizL l.Signals + 1) + ((sizL l.Balises + 1) + 0))))) + 1 := rfl
theorem siz_pos_el (x : T_api_Element) : x.Name.size + 1 ≤ Dt.siz x := by
  show x.Name.size + 1 ≤ (x.Name.size + 1) + _ + 1
  omega
theorem siz_pos_sg (x : T_api_Signal) : x.Name.size + 1 ≤ Dt.siz x := by
  show x.Name.size + 1 ≤ (x.Name.size + 1) + _ + 1
  omega
theorem sm_of {l : T_api_Layout} (h : Dt.siz l ≤ 1048576) : Sm l := by
  rw [siz_layout] at h
  have h1 := sizL_len (α := ByteArray) (fun a => by show 1 ≤ a.size + 1; omega) l.Sections
  have h2 := sizL_len (α := T_api_Element) (fun a => by have := siz_pos_el a; omega) l.Elements
  have h3 := sizL_len (α := T_api_Joint) (fun a => by show 1 ≤ _ + 1; omega) l.Joints
  have h4 := sizL_len (α := T_api_Signal) (fun a => by have := siz_pos_sg a; omega) l.Signals
  have h5 := sizL_len (α := T_api_Balise) (fun a => by show 1 ≤ _ + 1; omega) l.Balises
  refine ⟨by omega, by omega, by omega, by omega, by omega, by omega, fun x hx => ?_, fun x hx => ?_, fun x hx => ?_⟩
  · have := sizL_mem hx
    have e : Dt.siz x = x.size + 1 := rfl
    omega
  · have := sizL_mem hx; have := siz_pos_el x; omega
  · have := sizL_mem hx; have := siz_pos_sg x; omega
theorem siz_train (x : T_api_Train) : x.Name.size + 1 ≤ Dt.siz x := by
  show x.Name.size + 1 ≤ _ + ((x.Name.size + 1) + _) + 1
  omega
theorem claimsBegins_in (b : T_api_Layout × T_api_Train × T_api_Body × Unit) (h : DtL.szs b ≤ 1048576 ∧ DtL.rngs b) : d_law40_ClaimsBegins b.1 b.2.1 b.2.2.1 = some true :=
  claimsBegins_law (sm_of (by have h := h.1; have e : DtL.szs b = Dt.siz b.1 + (Dt.siz b.2.1 + (Dt.siz b.2.2.1 + 0)) := rfl; omega)) (by have h := h.1; have e : DtL.szs b = Dt.siz b.1 + (Dt.siz b.2.1 + (Dt.siz b.2.2.1 + 0)) := rfl; have := siz_train b.2.1; omega) _

end Go.Proofs.YtoknlpdkocemfaaGreatDoor
