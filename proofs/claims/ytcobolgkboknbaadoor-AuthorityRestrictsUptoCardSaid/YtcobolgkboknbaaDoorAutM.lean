/-
  THE BASE OF THE CARDS: the types of the arguments, and what the rows' list says of the package tables. Printed by tyf.py.
-/
import Derived.Test.YtcobolgkboknbaaDoorAutE
import Derived.Test.YtcobolgkboknbaaDoorFrA
import Derived.WalkKit
import Derived.ProofKit
namespace Go.Proofs.YtcobolgkboknbaaDoor
open Go.ChangeShapes Go.WideShapes Go.ChangeAt Go.RowKit PM

theorem own : ownKnob Tryd.prog.godebug = none := by kernel_rfl
theorem laidOut : laidOutB Tryd.prog = true := by kernel_rfl
theorem ty9 : TyOK Tryd.prog 9 ByteArray false := ty_str Tryd.underlying9 (by kernel_rfl)
theorem ty22 : TyOK Tryd.prog 22 (List ByteArray) true := ty_list ty9 Tryd.underlying22 (by kernel_rfl)
theorem ty3 : TyOK Tryd.prog 3 Int false := ty_int Tryd.underlying3 (by kernel_rfl)
abbrev P_T_api_Element := ByteArray × Int × Int × Int × Int × Int × Int × Unit
def un_T_api_Element (x : T_api_Element) : P_T_api_Element := (x.Name, x.Kind, x.Length, x.Grade, x.Speed, x.Slow, x.Section, ())
def mk_T_api_Element (b : P_T_api_Element) : T_api_Element := ⟨b.1, b.2.1, b.2.2.1, b.2.2.2.1, b.2.2.2.2.1, b.2.2.2.2.2.1, b.2.2.2.2.2.2.1⟩
instance : Dt T_api_Element := dtOf un_T_api_Element
theorem ty69 : TyOK Tryd.prog 69 T_api_Element false :=
  ty_struct (k := 7) (b := 64) un_T_api_Element mk_T_api_Element Tryd.underlying69 (by kernel_rfl) rfl (by decide) (fld_cons ty9 (off' := 1) (by rfl) (fld_cons ty3 (off' := 2) (by rfl) (fld_cons ty3 (off' := 3) (by rfl) (fld_cons ty3 (off' := 4) (by rfl) (fld_cons ty3 (off' := 5) (by rfl) (fld_cons ty3 (off' := 6) (by rfl) (fld_cons ty3 (off' := 7) (by rfl) (fld_nil 7)))))))) (fun _ => rfl) (fun _ => rfl) (fun _ => rfl) (fun _ => rfl)
theorem ty23 : TyOK Tryd.prog 23 (List T_api_Element) true := ty_list ty69 Tryd.underlying23 (by kernel_rfl)
abbrev P_T_api_End := Int × Int × Unit
def un_T_api_End (x : T_api_End) : P_T_api_End := (x.El, x.Side, ())
def mk_T_api_End (b : P_T_api_End) : T_api_End := ⟨b.1, b.2.1⟩
instance : Dt T_api_End := dtOf un_T_api_End
theorem ty76 : TyOK Tryd.prog 76 T_api_End false :=
  ty_struct (k := 2) (b := 16) un_T_api_End mk_T_api_End Tryd.underlying76 (by kernel_rfl) rfl (by decide) (fld_cons ty3 (off' := 1) (by rfl) (fld_cons ty3 (off' := 2) (by rfl) (fld_nil 2))) (fun _ => rfl) (fun _ => rfl) (fun _ => rfl) (fun _ => rfl)
abbrev P_T_api_Joint := T_api_End × T_api_End × Unit
def un_T_api_Joint (x : T_api_Joint) : P_T_api_Joint := (x.A, x.B, ())
def mk_T_api_Joint (b : P_T_api_Joint) : T_api_Joint := ⟨b.1, b.2.1⟩
instance : Dt T_api_Joint := dtOf un_T_api_Joint
theorem ty78 : TyOK Tryd.prog 78 T_api_Joint false :=
  ty_struct (k := 4) (b := 32) un_T_api_Joint mk_T_api_Joint Tryd.underlying78 (by kernel_rfl) rfl (by decide) (fld_cons ty76 (off' := 2) (by rfl) (fld_cons ty76 (off' := 4) (by rfl) (fld_nil 4))) (fun _ => rfl) (fun _ => rfl) (fun _ => rfl) (fun _ => rfl)
theorem ty24 : TyOK Tryd.prog 24 (List T_api_Joint) true := ty_list ty78 Tryd.underlying24 (by kernel_rfl)
abbrev P_T_api_Signal := ByteArray × T_api_End × Int × Unit
def un_T_api_Signal (x : T_api_Signal) : P_T_api_Signal := (x.Name, x.At, x.Overlap, ())
def mk_T_api_Signal (b : P_T_api_Signal) : T_api_Signal := ⟨b.1, b.2.1, b.2.2.1⟩
instance : Dt T_api_Signal := dtOf un_T_api_Signal
theorem ty80 : TyOK Tryd.prog 80 T_api_Signal false :=
  ty_struct (k := 4) (b := 40) un_T_api_Signal mk_T_api_Signal Tryd.underlying80 (by kernel_rfl) rfl (by decide) (fld_cons ty9 (off' := 1) (by rfl) (fld_cons ty76 (off' := 3) (by rfl) (fld_cons ty3 (off' := 4) (by rfl) (fld_nil 4)))) (fun _ => rfl) (fun _ => rfl) (fun _ => rfl) (fun _ => rfl)
theorem ty25 : TyOK Tryd.prog 25 (List T_api_Signal) true := ty_list ty80 Tryd.underlying25 (by kernel_rfl)
abbrev P_T_api_Balise := Int × Int × Int × Unit
def un_T_api_Balise (x : T_api_Balise) : P_T_api_Balise := (x.Id, x.El, x.Offset, ())
def mk_T_api_Balise (b : P_T_api_Balise) : T_api_Balise := ⟨b.1, b.2.1, b.2.2.1⟩
instance : Dt T_api_Balise := dtOf un_T_api_Balise
theorem ty93 : TyOK Tryd.prog 93 T_api_Balise false :=
  ty_struct (k := 3) (b := 24) un_T_api_Balise mk_T_api_Balise Tryd.underlying93 (by kernel_rfl) rfl (by decide) (fld_cons ty3 (off' := 1) (by rfl) (fld_cons ty3 (off' := 2) (by rfl) (fld_cons ty3 (off' := 3) (by rfl) (fld_nil 3)))) (fun _ => rfl) (fun _ => rfl) (fun _ => rfl) (fun _ => rfl)
theorem ty26 : TyOK Tryd.prog 26 (List T_api_Balise) true := ty_list ty93 Tryd.underlying26 (by kernel_rfl)
abbrev P_T_api_Layout := ByteArray × (List ByteArray) × (List T_api_Element) × (List T_api_Joint) × (List T_api_Signal) × (List T_api_Balise) × Unit
def un_T_api_Layout (x : T_api_Layout) : P_T_api_Layout := (x.Name, x.Sections, x.Elements, x.Joints, x.Signals, x.Balises, ())
def mk_T_api_Layout (b : P_T_api_Layout) : T_api_Layout := ⟨b.1, b.2.1, b.2.2.1, b.2.2.2.1, b.2.2.2.2.1, b.2.2.2.2.2.1⟩
instance : Dt T_api_Layout := dtOf un_T_api_Layout
theorem ty28 : TyOK Tryd.prog 28 T_api_Layout true :=
  ty_struct (k := 6) (b := 136) un_T_api_Layout mk_T_api_Layout Tryd.underlying28 (by kernel_rfl) rfl (by decide) (fld_cons ty9 (off' := 1) (by rfl) (fld_cons ty22 (off' := 2) (by rfl) (fld_cons ty23 (off' := 3) (by rfl) (fld_cons ty24 (off' := 4) (by rfl) (fld_cons ty25 (off' := 5) (by rfl) (fld_cons ty26 (off' := 6) (by rfl) (fld_nil 6))))))) (fun _ => rfl) (fun _ => rfl) (fun _ => rfl) (fun _ => rfl)
abbrev P_T_api_Step := Int × Int × Int × Unit
def un_T_api_Step (x : T_api_Step) : P_T_api_Step := (x.El, x.In, x.Out, ())
def mk_T_api_Step (b : P_T_api_Step) : T_api_Step := ⟨b.1, b.2.1, b.2.2.1⟩
instance : Dt T_api_Step := dtOf un_T_api_Step
theorem ty58 : TyOK Tryd.prog 58 T_api_Step false :=
  ty_struct (k := 3) (b := 24) un_T_api_Step mk_T_api_Step Tryd.underlying58 (by kernel_rfl) rfl (by decide) (fld_cons ty3 (off' := 1) (by rfl) (fld_cons ty3 (off' := 2) (by rfl) (fld_cons ty3 (off' := 3) (by rfl) (fld_nil 3)))) (fun _ => rfl) (fun _ => rfl) (fun _ => rfl) (fun _ => rfl)
theorem ty29 : TyOK Tryd.prog 29 (List T_api_Step) true := ty_list ty58 Tryd.underlying29 (by kernel_rfl)
theorem ty30 : TyOK Tryd.prog 30 (List Int) true := ty_list ty3 Tryd.underlying30 (by kernel_rfl)
abbrev P_T_api_Track := Int × Int × Int × Int × (List T_api_Step) × (List Int) × (List Int) × (List Int) × (List Int) × Int × Int × Int × Int × Int × Unit
def un_T_api_Track (x : T_api_Track) : P_T_api_Track := (x.Id, x.Origin, x.End, x.At, x.Steps, x.Routes, x.Starts, x.Ends, x.Done, x.Min, x.Sent, x.Accepted, x.Cut, x.CutSeq, ())
def mk_T_api_Track (b : P_T_api_Track) : T_api_Track := ⟨b.1, b.2.1, b.2.2.1, b.2.2.2.1, b.2.2.2.2.1, b.2.2.2.2.2.1, b.2.2.2.2.2.2.1, b.2.2.2.2.2.2.2.1, b.2.2.2.2.2.2.2.2.1, b.2.2.2.2.2.2.2.2.2.1, b.2.2.2.2.2.2.2.2.2.2.1, b.2.2.2.2.2.2.2.2.2.2.2.1, b.2.2.2.2.2.2.2.2.2.2.2.2.1, b.2.2.2.2.2.2.2.2.2.2.2.2.2.1⟩
instance : Dt T_api_Track := dtOf un_T_api_Track
theorem ty32 : TyOK Tryd.prog 32 T_api_Track true :=
  ty_struct (k := 14) (b := 192) un_T_api_Track mk_T_api_Track Tryd.underlying32 (by kernel_rfl) rfl (by decide) (fld_cons ty3 (off' := 1) (by rfl) (fld_cons ty3 (off' := 2) (by rfl) (fld_cons ty3 (off' := 3) (by rfl) (fld_cons ty3 (off' := 4) (by rfl) (fld_cons ty29 (off' := 5) (by rfl) (fld_cons ty30 (off' := 6) (by rfl) (fld_cons ty30 (off' := 7) (by rfl) (fld_cons ty30 (off' := 8) (by rfl) (fld_cons ty30 (off' := 9) (by rfl) (fld_cons ty3 (off' := 10) (by rfl) (fld_cons ty3 (off' := 11) (by rfl) (fld_cons ty3 (off' := 12) (by rfl) (fld_cons ty3 (off' := 13) (by rfl) (fld_cons ty3 (off' := 14) (by rfl) (fld_nil 14))))))))))))))) (fun _ => rfl) (fun _ => rfl) (fun _ => rfl) (fun _ => rfl)
theorem ty4 : TyOK Tryd.prog 4 Bool false := ty_bool Tryd.underlying4 (by kernel_rfl)
abbrev P_T_api_Restriction := Int × Int × Int × Int × Int × Bool × Unit
def un_T_api_Restriction (x : T_api_Restriction) : P_T_api_Restriction := (x.Id, x.El, x.From, x.To, x.Speed, x.Active, ())
def mk_T_api_Restriction (b : P_T_api_Restriction) : T_api_Restriction := ⟨b.1, b.2.1, b.2.2.1, b.2.2.2.1, b.2.2.2.2.1, b.2.2.2.2.2.1⟩
instance : Dt T_api_Restriction := dtOf un_T_api_Restriction
theorem ty53 : TyOK Tryd.prog 53 T_api_Restriction false :=
  ty_struct (k := 6) (b := 48) un_T_api_Restriction mk_T_api_Restriction Tryd.underlying53 (by kernel_rfl) rfl (by decide) (fld_cons ty3 (off' := 1) (by rfl) (fld_cons ty3 (off' := 2) (by rfl) (fld_cons ty3 (off' := 3) (by rfl) (fld_cons ty3 (off' := 4) (by rfl) (fld_cons ty3 (off' := 5) (by rfl) (fld_cons ty4 (off' := 6) (by rfl) (fld_nil 6))))))) (fun _ => rfl) (fun _ => rfl) (fun _ => rfl) (fun _ => rfl)
theorem ty33 : TyOK Tryd.prog 33 (List T_api_Restriction) true := ty_list ty53 Tryd.underlying33 (by kernel_rfl)
abbrev P_T_rail_passage := Int × Int × Int × Int × Unit
def un_T_rail_passage (x : T_rail_passage) : P_T_rail_passage := (x.kind_, x.in_, x.out_, x.need_, ())
def mk_T_rail_passage (b : P_T_rail_passage) : T_rail_passage := ⟨b.1, b.2.1, b.2.2.1, b.2.2.2.1⟩
instance : Dt T_rail_passage := dtOf un_T_rail_passage
theorem ty106 : TyOK Tryd.prog 106 T_rail_passage false :=
  ty_struct (k := 4) (b := 32) un_T_rail_passage mk_T_rail_passage Tryd.underlying106 (by kernel_rfl) rfl (by decide) (fld_cons ty3 (off' := 1) (by rfl) (fld_cons ty3 (off' := 2) (by rfl) (fld_cons ty3 (off' := 3) (by rfl) (fld_cons ty3 (off' := 4) (by rfl) (fld_nil 4))))) (fun _ => rfl) (fun _ => rfl) (fun _ => rfl) (fun _ => rfl)
def dat_tab_rail_passages : List (DataW Unit) := match (Rows.laid_signalling_rail_passages : DataW Unit) with
  | .agg l => l
  | _ => []
theorem all_tab_rail_passages : All2 Dt.dat tab_rail_passages dat_tab_rail_passages :=
  .cons ⟨_, rfl, _, _, rfl, rfl, _, _, rfl, rfl, _, _, rfl, rfl, _, _, rfl, rfl, rfl⟩ (.cons ⟨_, rfl, _, _, rfl, rfl, _, _, rfl, rfl, _, _, rfl, rfl, _, _, rfl, rfl, rfl⟩ (.cons ⟨_, rfl, _, _, rfl, rfl, _, _, rfl, rfl, _, _, rfl, rfl, _, _, rfl, rfl, rfl⟩ (.cons ⟨_, rfl, _, _, rfl, rfl, _, _, rfl, rfl, _, _, rfl, rfl, _, _, rfl, rfl, rfl⟩ (.cons ⟨_, rfl, _, _, rfl, rfl, _, _, rfl, rfl, _, _, rfl, rfl, _, _, rfl, rfl, rfl⟩ (.cons ⟨_, rfl, _, _, rfl, rfl, _, _, rfl, rfl, _, _, rfl, rfl, _, _, rfl, rfl, rfl⟩ (.cons ⟨_, rfl, _, _, rfl, rfl, _, _, rfl, rfl, _, _, rfl, rfl, _, _, rfl, rfl, rfl⟩ (.cons ⟨_, rfl, _, _, rfl, rfl, _, _, rfl, rfl, _, _, rfl, rfl, _, _, rfl, rfl, rfl⟩ (.cons ⟨_, rfl, _, _, rfl, rfl, _, _, rfl, rfl, _, _, rfl, rfl, _, _, rfl, rfl, rfl⟩ (.cons ⟨_, rfl, _, _, rfl, rfl, _, _, rfl, rfl, _, _, rfl, rfl, _, _, rfl, rfl, rfl⟩ (.nil))))))))))
def laidL : List (String × DataW Unit) := [("signalling/rail.passages", Rows.laid_signalling_rail_passages)]
theorem globs (W : World) (h : laidMetH Tryd.prog laidL W) : ∀ i cs, GlS i = some cs → RelTab (Bk W) W cs i := by
  intro i cs hi
  match i, hi with
  | 0, hi =>
    cases hi
    exact tab_rel (g := 0) ty106 rfl (name := "signalling/rail.passages") (by kernel_rfl) (by kernel_rfl) Tryd.underlying107 (by kernel_rfl) (tab := tab_rail_passages) (dsx := dat_tab_rail_passages) all_tab_rail_passages (by kernel_rfl) (.head _) (by kernel_rfl) h
theorem sizL_len {α : Type} [Dt α] (h : ∀ a : α, 1 ≤ Dt.siz a) : ∀ l : List α, l.length ≤ sizL l
  | [] => Nat.le_refl _
  | x :: xs => by have := sizL_len h xs; have := h x; simp only [sizL, List.length_cons]; omega
theorem sizL_mem {α : Type} [Dt α] {x : α} : ∀ {l : List α}, x ∈ l → Dt.siz x ≤ sizL l
  | y :: ys, h => by
    rcases List.mem_cons.1 h with rfl | h
    · simp only [sizL]; omega
    · have := sizL_mem h; simp only [sizL]; omega
theorem siz_layout (l : T_api_Layout) : Dt.siz l = (l.Name.size + 1) + ((sizL l.Sections + 1) + ((sizL l.Elements + 1) + ((sizL l.Joints + 1) + ((sizL l.Signals + 1) + ((sizL l.Balises + 1) + 0))))) + 1 := rfl
theorem siz_pos_el (x : T_api_Element) : x.Name.size + 1 ≤ Dt.siz x := by
  show x.Name.size + 1 ≤ (x.Name.size + 1) + _ + 1
  omega
theorem siz_pos_sg (x : T_api_Signal) : x.Name.size + 1 ≤ Dt.siz x := by
  show x.Name.size + 1 ≤ (x.Name.size + 1) + _ + 1
  omega
theorem sm_of {l : T_api_Layout} (h : Dt.siz l ≤ 1048576) : Sm l := by
  rw [siz_layout] at h
  have h1 := sizL_len (α := ByteArray) (fun a => by show 1 ≤ a.size + 1; omega) l.Sections
  have h2 := sizL_len (α := T_api_Element) (fun a => by have := siz_pos_el a; omega) l.Elements
  have h3 := sizL_len (α := T_api_Joint) (fun a => by show 1 ≤ _ + 1; omega) l.Joints
  have h4 := sizL_len (α := T_api_Signal) (fun a => by have := siz_pos_sg a; omega) l.Signals
  have h5 := sizL_len (α := T_api_Balise) (fun a => by show 1 ≤ _ + 1; omega) l.Balises
  refine ⟨by omega, by omega, by omega, by omega, by omega, by omega, fun x hx => ?_, fun x hx => ?_, fun x hx => ?_⟩
  · have := sizL_mem hx
    have e : Dt.siz x = x.size + 1 := rfl
    omega
  · have := sizL_mem hx; have := siz_pos_el x; omega
  · have := sizL_mem hx; have := siz_pos_sg x; omega
theorem authorityBuilds_in (b : T_api_Layout × T_api_Track × (List T_api_Restriction) × Int × Unit) (h : DtL.szs b ≤ 1048576 ∧ DtL.rngs b) : d_law45_AuthorityBuilds b.1 b.2.1 b.2.2.1 b.2.2.2.1 = some true :=
  authorityBuilds_law (sm_of (by have h := h.1; have e : DtL.szs b = Dt.siz b.1 + (Dt.siz b.2.1 + (Dt.siz b.2.2.1 + (Dt.siz b.2.2.2.1 + 0))) := rfl; omega)) _ _ _
theorem authorityCovers_in (b : T_api_Layout × T_api_Track × (List T_api_Restriction) × Int × Unit) (h : DtL.szs b ≤ 1048576 ∧ DtL.rngs b) : d_law45_AuthorityCovers b.1 b.2.1 b.2.2.1 b.2.2.2.1 = some true :=
  authorityCovers_law (sm_of (by have h := h.1; have e : DtL.szs b = Dt.siz b.1 + (Dt.siz b.2.1 + (Dt.siz b.2.2.1 + (Dt.siz b.2.2.2.1 + 0))) := rfl; omega)) _ _ _
theorem authorityRestricts_in (b : T_api_Layout × T_api_Track × (List T_api_Restriction) × T_api_Restriction × Int × Unit) (h : DtL.szs b ≤ 1048576 ∧ DtL.rngs b) : d_law45_AuthorityRestricts b.1 b.2.1 b.2.2.1 b.2.2.2.1 b.2.2.2.2.1 = some true :=
  authorityRestricts_law (sm_of (by have h := h.1; have e : DtL.szs b = Dt.siz b.1 + (Dt.siz b.2.1 + (Dt.siz b.2.2.1 + (Dt.siz b.2.2.2.1 + (Dt.siz b.2.2.2.2.1 + 0)))) := rfl; omega)) _ _ _ _

end Go.Proofs.YtcobolgkboknbaaDoor
