/-
  Plain functions for the program's functions, and the proofs that the program does them. Printed by den.py.
-/
import Derived.Test.YtpiejhjhalnaaaaDoorPmSg
import Derived.Test.YtpiejhjhalnaaaaDoorPmSi
import Derived.Test.YtpiejhjhalnaaaaDoorPmQt
import Derived.Test.YtpiejhjhalnaaaaDoorPlA
import Derived.Test.YtpiejhjhalnaaaaDoorProg
import Derived.Test.YtpiejhjhalnaaaaDoorLay
import Derived.Test.YtpiejhjhalnaaaaDoorChecked
namespace PM
open Go Go.RowKit
attribute [local irreducible] pops pwp

structure T_rail_passage where
  kind_ : Int
  in_ : Int
  out_ : Int
  need_ : Int
instance : Enc T_rail_passage := ⟨4, 32, fun x => .agg [.int .i64 x.kind_, .int .i64 x.in_, .int .i64 x.out_, .int .i64 x.need_]⟩
instance : Inhabited T_rail_passage := ⟨⟨0, 0, 0, 0⟩⟩
def eq_T_rail_passage (x y : T_rail_passage) : Bool := (decide (x.kind_ = y.kind_) && (decide (x.in_ = y.in_) && (decide (x.out_ = y.out_) && (decide (x.need_ = y.need_) && true))))
structure T_api_Element where
  Name : ByteArray
  Kind : Int
  Length : Int
  Grade : Int
  Speed : Int
  Slow : Int
  Section : Int
instance : Enc T_api_Element := ⟨7, 64, fun x => .agg [.str x.Name, .int .i64 x.Kind, .int .i64 x.Length, .int .i64 x.Grade, .int .i64 x.Speed, .int .i64 x.Slow, .int .i64 x.Section]⟩
instance : Inhabited T_api_Element := ⟨⟨ByteArray.empty, 0, 0, 0, 0, 0, 0⟩⟩
def eq_T_api_Element (x y : T_api_Element) : Bool := (decide (x.Name = y.Name) && (decide (x.Kind = y.Kind) && (decide (x.Length = y.Length) && (decide (x.Grade = y.Grade) && (decide (x.Speed = y.Speed) && (decide (x.Slow = y.Slow) && (decide (x.Section = y.Section) && true)))))))
structure T_api_End where
  El : Int
  Side : Int
instance : Enc T_api_End := ⟨2, 16, fun x => .agg [.int .i64 x.El, .int .i64 x.Side]⟩
instance : Inhabited T_api_End := ⟨⟨0, 0⟩⟩
def eq_T_api_End (x y : T_api_End) : Bool := (decide (x.El = y.El) && (decide (x.Side = y.Side) && true))
structure T_api_Joint where
  A : T_api_End
  B : T_api_End
instance : Enc T_api_Joint := ⟨4, 32, fun x => .agg [.int .i64 x.A.El, .int .i64 x.A.Side, .int .i64 x.B.El, .int .i64 x.B.Side]⟩
instance : Inhabited T_api_Joint := ⟨⟨default, default⟩⟩
def eq_T_api_Joint (x y : T_api_Joint) : Bool := (decide (x.A.El = y.A.El) && (decide (x.A.Side = y.A.Side) && (decide (x.B.El = y.B.El) && (decide (x.B.Side = y.B.Side) && true))))
structure T_api_Signal where
  Name : ByteArray
  At : T_api_End
  Overlap : Int
instance : Enc T_api_Signal := ⟨4, 40, fun x => .agg [.str x.Name, .int .i64 x.At.El, .int .i64 x.At.Side, .int .i64 x.Overlap]⟩
instance : Inhabited T_api_Signal := ⟨⟨ByteArray.empty, default, 0⟩⟩
def eq_T_api_Signal (x y : T_api_Signal) : Bool := (decide (x.Name = y.Name) && (decide (x.At.El = y.At.El) && (decide (x.At.Side = y.At.Side) && (decide (x.Overlap = y.Overlap) && true))))
structure T_api_Balise where
  Id : Int
  El : Int
  Offset : Int
instance : Enc T_api_Balise := ⟨3, 24, fun x => .agg [.int .i64 x.Id, .int .i64 x.El, .int .i64 x.Offset]⟩
instance : Inhabited T_api_Balise := ⟨⟨0, 0, 0⟩⟩
def eq_T_api_Balise (x y : T_api_Balise) : Bool := (decide (x.Id = y.Id) && (decide (x.El = y.El) && (decide (x.Offset = y.Offset) && true)))
structure T_api_Layout where
  Name : ByteArray
  Sections : (List ByteArray)
  Elements : (List T_api_Element)
  Joints : (List T_api_Joint)
  Signals : (List T_api_Signal)
  Balises : (List T_api_Balise)
instance : Enc T_api_Layout := ⟨6, 136, fun x => .agg [.str x.Name, lstOf .frozen x.Sections, lstOf .frozen x.Elements, lstOf .frozen x.Joints, lstOf .frozen x.Signals, lstOf .frozen x.Balises]⟩
instance : Inhabited T_api_Layout := ⟨⟨ByteArray.empty, [], [], [], [], []⟩⟩
structure T_api_Step where
  El : Int
  In : Int
  Out : Int
instance : Enc T_api_Step := ⟨3, 24, fun x => .agg [.int .i64 x.El, .int .i64 x.In, .int .i64 x.Out]⟩
instance : Inhabited T_api_Step := ⟨⟨0, 0, 0⟩⟩
def eq_T_api_Step (x y : T_api_Step) : Bool := (decide (x.El = y.El) && (decide (x.In = y.In) && (decide (x.Out = y.Out) && true)))
structure T_api_Setting where
  El : Int
  Pos : Int
instance : Enc T_api_Setting := ⟨2, 16, fun x => .agg [.int .i64 x.El, .int .i64 x.Pos]⟩
instance : Inhabited T_api_Setting := ⟨⟨0, 0⟩⟩
def eq_T_api_Setting (x y : T_api_Setting) : Bool := (decide (x.El = y.El) && (decide (x.Pos = y.Pos) && true))
structure T_api_Route where
  Name : ByteArray
  Entry : Int
  Exit : Int
  Path : (List T_api_Step)
  Points : (List T_api_Setting)
  Sections : (List Int)
  Approach : Int
  Length : Int
  Over : (List T_api_Step)
  OverPoints : (List T_api_Setting)
  OverSections : (List Int)
  Flank : (List T_api_Setting)
  Guards : (List Int)
  Gaps : (List T_api_End)
instance : Enc T_api_Route := ⟨14, 264, fun x => .agg [.str x.Name, .int .i64 x.Entry, .int .i64 x.Exit, lstOf .frozen x.Path, lstOf .frozen x.Points, lstOf .frozen x.Sections, .int .i64 x.Approach, .int .i64 x.Length, lstOf .frozen x.Over, lstOf .frozen x.OverPoints, lstOf .frozen x.OverSections, lstOf .frozen x.Flank, lstOf .frozen x.Guards, lstOf .frozen x.Gaps]⟩
instance : Inhabited T_api_Route := ⟨⟨ByteArray.empty, 0, 0, [], [], [], 0, 0, [], [], [], [], [], []⟩⟩
structure T_arr3_slice_string where
  x0 : (List ByteArray)
  x1 : (List ByteArray)
  x2 : (List ByteArray)
instance : Enc T_arr3_slice_string := ⟨3, 72, fun x => .agg [lstOf .frozen x.x0, lstOf .frozen x.x1, lstOf .frozen x.x2]⟩
instance : Inhabited T_arr3_slice_string := ⟨⟨[], [], []⟩⟩
structure T_flank_gap where
  end_ : T_api_End
instance : Enc T_flank_gap := ⟨2, 16, fun x => .agg [.int .i64 x.end_.El, .int .i64 x.end_.Side]⟩
instance : Inhabited T_flank_gap := ⟨⟨default⟩⟩
def eq_T_flank_gap (x y : T_flank_gap) : Bool := (decide (x.end_.El = y.end_.El) && (decide (x.end_.Side = y.end_.Side) && true))

def tab_rail_passages : List T_rail_passage := [(T_rail_passage.mk 1 0 1 0), (T_rail_passage.mk 1 1 0 0), (T_rail_passage.mk 2 0 1 1), (T_rail_passage.mk 2 0 2 2), (T_rail_passage.mk 2 1 0 1), (T_rail_passage.mk 2 2 0 2), (T_rail_passage.mk 3 0 1 0), (T_rail_passage.mk 3 1 0 0), (T_rail_passage.mk 3 2 3 0), (T_rail_passage.mk 3 3 2 0)]
def tab_rail_sides : List Int := [0, 2, 3, 4]
def GlS : Nat → Option (List PV)
  | 0 => some (tab_rail_passages.flatMap cellsOf)
  | 1 => some (tab_rail_sides.flatMap cellsOf)
  | _ => none

/-! signallingref07.names -/
noncomputable def d_ref07_names_0 (a0 : T_api_Layout) : (Int × (List ByteArray)) → Option ((Int × (List ByteArray)) ⊕ ((List ByteArray) ⊕ T_arr3_slice_string)) := fun (x7, x8) =>
  bif decide (x7 < ((a0.Elements.length : Nat) : Int)) then (
    (ixO a0.Elements x7).bind fun x12 =>
    (appO x8 [x12.Name]).bind fun x13 =>
    some (.inl (w64 (x7 + 1), x13))
  ) else (
    some (.inr (.inl x8))
  )

noncomputable def d_ref07_names_1 (a0 : T_api_Layout) : (Int × (List ByteArray)) → Option ((Int × (List ByteArray)) ⊕ ((List ByteArray) ⊕ T_arr3_slice_string)) := fun (x19, x20) =>
  bif decide (x19 < ((a0.Signals.length : Nat) : Int)) then (
    (ixO a0.Signals x19).bind fun x24 =>
    (appO x20 [x24.Name]).bind fun x25 =>
    some (.inl (w64 (x19 + 1), x25))
  ) else (
    some (.inr (.inl x20))
  )

noncomputable def d_ref07_names (a0 : T_api_Layout) : Option T_arr3_slice_string :=
  (appO ([] : (List ByteArray)) a0.Sections).bind fun x1 =>
  onInl (α := (List ByteArray)) (β := T_arr3_slice_string) (loopO (d_ref07_names_0 a0) (0, ([] : (List ByteArray)))) fun x11 =>
  onInl (α := (List ByteArray)) (β := T_arr3_slice_string) (loopO (d_ref07_names_1 a0) (0, ([] : (List ByteArray)))) fun x23 =>
  some (T_arr3_slice_string.mk x1 x11 x23)
theorem d_ref07_names_ok (a0 : T_api_Layout) (r : T_arr3_slice_string) (h : d_ref07_names a0 = some r) : PCall Go.Proofs.Tryd.prog GlS 72 [Enc.pv a0] (Enc.pv r) := by
  unfold d_ref07_names at h
  refine pcall_of_pwp Go.Proofs.Tryd.func72 (by rfl) rfl Go.Proofs.Tryd.ntmps72 (by rfl) rfl ?_
  refine pwp_seq ?_
  refine r_reg ?_
  refine e_end (by kernel_rfl) ?_
  refine q_next ?_
  refine pwp_seq ?_
  refine r_reg ?_
  refine e_end (by kernel_rfl) ?_
  refine q_next ?_
  refine pwp_seq ?_
  refine r_reg ?_
  refine p_run 4 (by kernel_rfl) ?_
  obtain ⟨x1, h1, h⟩ := o_bind h
  refine p_appn (tk := 13) h1 (by kernel_rfl) ?_
  refine e_end (by kernel_rfl) ?_
  refine q_next ?_
  refine pwp_seq ?_
  refine pwp_seq ?_
  refine r_reg ?_
  refine p_run 2 (by kernel_rfl) ?_
  refine p_len (L := (a0.Elements : (List T_api_Element))) (by kernel_rfl) ?_
  refine e_end (by kernel_rfl) ?_
  refine q_next ?_
  refine pwp_block ?_
  refine pwp_wkr (wkr_nilH 3 1 200301 1 16 (cs := [lstOf (.own 13) (x1 : (List ByteArray)), .nil, .nil]) (by kernel_rfl) (by kernel_rfl) (by kernel_rfl)) ?_
  obtain ⟨o9, h9, h⟩ := o_inl h
  refine r_loop2 46 0 (fun (x7, x8) => ⟨[(1, .ref 1 0), (2, .ref 2 0), (3, .ref 3 0), (16, lstOf .frozen (a0.Elements : (List T_api_Element))), (17, .int .i64 ((a0.Elements.length : Nat) : Int)), (18, .int .i64 x7)], [(1, .cells (cellsOf a0)), (2, .cells ([.nil, .nil, .nil])), (3, .cells ([lstOf (.own 13) (x1 : (List ByteArray)), lstOf (.own 200301) (x8 : (List ByteArray)), .nil]))], [(13, (((x1).map cellsOf).length, 1)), (200301, (((x8).map cellsOf).length, 1))], []⟩) (fun x11 => ⟨[(1, .ref 1 0), (2, .ref 2 0), (3, .ref 3 0)], [(1, .cells (cellsOf a0)), (2, .cells ([.nil, .nil, .nil])), (3, .cells ([lstOf (.own 13) (x1 : (List ByteArray)), lstOf (.own 200301) (x11 : (List ByteArray)), .nil]))], [(13, (((x1).map cellsOf).length, 1)), (200301, (((x11).map cellsOf).length, 1))], []⟩) h9 (by kernel_rfl) (fun _ => by kernel_rfl) ?_ ?_
  · rintro ⟨x7, x8⟩ oh8 h8
    unfold d_ref07_names_0 at h8
    refine pwp_seq ?_
    refine r_reg ?_
    refine e_end (by kernel_rfl) ?_
    refine q_next ?_
    refine pwp_seq ?_
    rcases o_cond h8 with ⟨hb, h8⟩ | ⟨hb, h8⟩
    · refine r_cond_t hb (by kernel_rfl) ?_
      refine pwp_skip ?_
      refine q_next ?_
      refine pwp_seq ?_
      refine pwp_block ?_
      refine pwp_seq ?_
      refine r_reg ?_
      obtain ⟨x12, h10, h8⟩ := o_bind h8
      refine p_ix h10 (by kernel_rfl) ?_
      refine e_end (by kernel_rfl) ?_
      refine q_next ?_
      refine r_reg ?_
      refine p_run 5 (by kernel_rfl) ?_
      obtain ⟨x13, h11, h8⟩ := o_bind h8
      refine p_app (tk := 200301) h11 (by kernel_rfl) (by kernel_rfl) ?_
      refine e_end (by kernel_rfl) ?_
      refine q_block ?_
      refine q_next ?_
      refine r_reg ?_
      refine e_end (by kernel_rfl) ?_
      cases h8
      exact q_lback (by kernel_rfl)
    · refine r_cond_f hb (by kernel_rfl) ?_
      refine pwp_exit ?_
      refine q_seq_exit ?_
      cases h8
      exact q_lexit (by kernel_rfl) (by kernel_rfl)
  · rintro x11 s' rfl hs
    have h := o_outl h
    refine q_block_hit ?_
    refine q_next (pwp_wkr hs ?_)
    refine pwp_seq ?_
    refine pwp_seq ?_
    refine r_reg ?_
    refine p_run 2 (by kernel_rfl) ?_
    refine p_len (L := (a0.Signals : (List T_api_Signal))) (by kernel_rfl) ?_
    refine e_end (by kernel_rfl) ?_
    refine q_next ?_
    refine pwp_block ?_
    refine pwp_wkr (wkr_nilH 3 2 200302 1 16 (cs := [lstOf (.own 13) (x1 : (List ByteArray)), lstOf (.own 200301) (x11 : (List ByteArray)), .nil]) (by kernel_rfl) (by kernel_rfl) (by kernel_rfl)) ?_
    obtain ⟨o19, h19, h⟩ := o_inl h
    refine r_loop2 46 2 (fun (x19, x20) => ⟨[(2, .ref 2 0), (3, .ref 3 0), (31, lstOf .frozen (a0.Signals : (List T_api_Signal))), (32, .int .i64 ((a0.Signals.length : Nat) : Int)), (33, .int .i64 x19)], [(2, .cells ([.nil, .nil, .nil])), (3, .cells ([lstOf (.own 13) (x1 : (List ByteArray)), lstOf (.own 200301) (x11 : (List ByteArray)), lstOf (.own 200302) (x20 : (List ByteArray))]))], [(13, (((x1).map cellsOf).length, 1)), (200301, (((x11).map cellsOf).length, 1)), (200302, (((x20).map cellsOf).length, 1))], []⟩) (fun x23 => ⟨[(2, .ref 2 0), (3, .ref 3 0)], [(2, .cells ([.nil, .nil, .nil])), (3, .cells ([lstOf (.own 13) (x1 : (List ByteArray)), lstOf (.own 200301) (x11 : (List ByteArray)), lstOf (.own 200302) (x23 : (List ByteArray))]))], [(13, (((x1).map cellsOf).length, 1)), (200301, (((x11).map cellsOf).length, 1)), (200302, (((x23).map cellsOf).length, 1))], []⟩) h19 (by kernel_rfl) (fun _ => by kernel_rfl) ?_ ?_
    · rintro ⟨x19, x20⟩ oh18 h18
      unfold d_ref07_names_1 at h18
      refine pwp_seq ?_
      refine r_reg ?_
      refine e_end (by kernel_rfl) ?_
      refine q_next ?_
      refine pwp_seq ?_
      rcases o_cond h18 with ⟨hb, h18⟩ | ⟨hb, h18⟩
      · refine r_cond_t hb (by kernel_rfl) ?_
        refine pwp_skip ?_
        refine q_next ?_
        refine pwp_seq ?_
        refine pwp_block ?_
        refine pwp_seq ?_
        refine r_reg ?_
        obtain ⟨x24, h20, h18⟩ := o_bind h18
        refine p_ix h20 (by kernel_rfl) ?_
        refine e_end (by kernel_rfl) ?_
        refine q_next ?_
        refine r_reg ?_
        refine p_run 5 (by kernel_rfl) ?_
        obtain ⟨x25, h21, h18⟩ := o_bind h18
        refine p_app (tk := 200302) h21 (by kernel_rfl) (by kernel_rfl) ?_
        refine e_end (by kernel_rfl) ?_
        refine q_block ?_
        refine q_next ?_
        refine r_reg ?_
        refine e_end (by kernel_rfl) ?_
        cases h18
        exact q_lback (by kernel_rfl)
      · refine r_cond_f hb (by kernel_rfl) ?_
        refine pwp_exit ?_
        refine q_seq_exit ?_
        cases h18
        exact q_lexit (by kernel_rfl) (by kernel_rfl)
    · rintro x23 s' rfl hs
      have h := o_outl h
      refine q_block_hit ?_
      refine q_next (pwp_wkr hs ?_)
      refine pwp_seq ?_
      refine r_reg ?_
      refine e_end (by kernel_rfl) ?_
      refine q_next ?_
      refine pwp_ret ?_
      cases h
      exact q_ret (by kernel_rfl) (by kernel_rfl) (by kernel_rfl)

/-! signallingref05.Name -/
noncomputable def d_ref05_Name_0 (a0 : ByteArray) : Int → Option (Int ⊕ (Unit ⊕ Bool)) := fun x9 =>
  bif decide (x9 < ((a0.size : Nat) : Int)) then (
    (sixO a0 x9).bind fun x18 =>
    ((bif decide (97 ≤ x18) then (
      (sixO a0 x9).bind fun x20 =>
      some (decide (x20 ≤ 122))
    ) else some false) : Option Bool).bind fun b19 =>
    (sixO a0 x9).bind fun x21 =>
    ((bif decide (48 ≤ x21) then (
      (sixO a0 x9).bind fun x23 =>
      some (decide (x23 ≤ 57))
    ) else some false) : Option Bool).bind fun b22 =>
    ((bif b22 then some true else (
      (sixO a0 x9).bind fun x25 =>
      some (decide (x25 = 95))
    )) : Option Bool).bind fun b24 =>
    bif ((!b19) && ((!b24) || (decide (x9 = 0)))) then (
      some (.inr (.inr false))
    ) else (
      some (.inl (w64 (x9 + 1)))
    )
  ) else (
    some (.inr (.inl ()))
  )

noncomputable def d_ref05_Name (a0 : ByteArray) : Option Bool :=
  onInl (α := Unit) (β := Bool) (loopO (d_ref05_Name_0 a0) 0) fun _ =>
  some ((decide (1 ≤ ((a0.size : Nat) : Int))) && (decide (((a0.size : Nat) : Int) ≤ 12)))
theorem d_ref05_Name_ok (a0 : ByteArray) (r : Bool) (h : d_ref05_Name a0 = some r) : PCall Go.Proofs.Tryd.prog GlS 73 [Enc.pv a0] (Enc.pv r) := by
  unfold d_ref05_Name at h
  refine pcall_of_pwp Go.Proofs.Tryd.func73 (by rfl) rfl Go.Proofs.Tryd.ntmps73 (by rfl) rfl ?_
  refine pwp_seq ?_
  refine r_reg ?_
  refine e_end (by kernel_rfl) ?_
  refine q_next ?_
  refine pwp_seq ?_
  refine pwp_seq ?_
  refine r_reg ?_
  refine e_end (by kernel_rfl) ?_
  refine q_next ?_
  refine pwp_block ?_
  obtain ⟨o20, h20, h⟩ := o_inl h
  refine r_loop2 56 0 (fun x9 => ⟨[(0, .str a0), (3, .int .i64 x9)], [], [], []⟩) (fun (_ : Unit) => ⟨[(0, .str a0)], [], [], []⟩) h20 (by kernel_rfl) (fun _ => by kernel_rfl) ?_ ?_
  · rintro x9 oh19 h19
    unfold d_ref05_Name_0 at h19
    refine pwp_seq ?_
    refine pwp_seq ?_
    refine r_reg ?_
    refine e_end (by kernel_rfl) ?_
    refine q_next ?_
    rcases o_cond h19 with ⟨hb, h19⟩ | ⟨hb, h19⟩
    · refine r_cond_t hb (by kernel_rfl) ?_
      refine pwp_skip ?_
      refine q_next ?_
      refine pwp_seq ?_
      refine pwp_block ?_
      refine pwp_seq ?_
      refine r_reg ?_
      refine p_run 2 (by kernel_rfl) ?_
      obtain ⟨x18, h21, h19⟩ := o_bind h19
      refine p_six h21 (by kernel_rfl) ?_
      obtain ⟨b19, h22, h19⟩ := o_bind h19
      refine p_run 2 (by kernel_rfl) ?_
      refine e_seg 5 21 (.bool b19) ?_ ?_
      · rcases o_cond h22 with ⟨hb, h22⟩ | ⟨hb, h22⟩
        · refine p_settle 16 hb (by kernel_rfl) (by kernel_rfl) ?_
          refine p_run 2 (by kernel_rfl) ?_
          obtain ⟨x20, h23, h22⟩ := o_bind h22
          refine p_six h23 (by kernel_rfl) ?_
          cases h22
          exact f_end (by kernel_rfl) (by kernel_rfl)
        · refine p_settle 16 hb (by kernel_rfl) (by kernel_rfl) ?_
          cases h22
          exact f_end (by kernel_rfl) (by kernel_rfl)
      · refine e_end (by kernel_rfl) ?_
        refine q_next ?_
        refine pwp_seq ?_
        refine r_reg ?_
        refine p_run 2 (by kernel_rfl) ?_
        obtain ⟨x21, h24, h19⟩ := o_bind h19
        refine p_six h24 (by kernel_rfl) ?_
        obtain ⟨b22, h25, h19⟩ := o_bind h19
        refine p_run 2 (by kernel_rfl) ?_
        refine e_seg 5 31 (.bool b22) ?_ ?_
        · rcases o_cond h25 with ⟨hb, h25⟩ | ⟨hb, h25⟩
          · refine p_settle 26 hb (by kernel_rfl) (by kernel_rfl) ?_
            refine p_run 2 (by kernel_rfl) ?_
            obtain ⟨x23, h26, h25⟩ := o_bind h25
            refine p_six h26 (by kernel_rfl) ?_
            cases h25
            exact f_end (by kernel_rfl) (by kernel_rfl)
          · refine p_settle 26 hb (by kernel_rfl) (by kernel_rfl) ?_
            cases h25
            exact f_end (by kernel_rfl) (by kernel_rfl)
        · obtain ⟨b24, h27, h19⟩ := o_bind h19
          refine p_run 1 (by kernel_rfl) ?_
          refine e_seg 5 37 (.bool b24) ?_ ?_
          · rcases o_cond h27 with ⟨hb, h27⟩ | ⟨hb, h27⟩
            · refine p_settle 32 hb (by kernel_rfl) (by kernel_rfl) ?_
              cases h27
              exact f_end (by kernel_rfl) (by kernel_rfl)
            · refine p_settle 32 hb (by kernel_rfl) (by kernel_rfl) ?_
              refine p_run 2 (by kernel_rfl) ?_
              obtain ⟨x25, h28, h27⟩ := o_bind h27
              refine p_six h28 (by kernel_rfl) ?_
              cases h27
              exact f_end (by kernel_rfl) (by kernel_rfl)
          · refine e_end (by kernel_rfl) ?_
            refine q_next ?_
            refine pwp_seq ?_
            refine r_reg ?_
            refine p_run 3 (by kernel_rfl) ?_
            refine e_segb 7 47 ((!b19) && ((!b24) || (decide (x9 = 0)))) (fun x hx => ?_) ?_
            · rcases b_and hx with ⟨hb, hx⟩ | ⟨hb, hx⟩
              · refine p_settle 40 hb (by kernel_rfl) (by kernel_rfl) ?_
                refine p_run 3 (by kernel_rfl) ?_
                refine f_segb 3 46 ((!b24) || (decide (x9 = 0))) (fun x hx => ?_) ?_
                · rcases b_or hx with ⟨hb, hx⟩ | ⟨hb, hx⟩
                  · refine p_settle 43 hb (by kernel_rfl) (by kernel_rfl) ?_
                    subst hx
                    exact f_end (by kernel_rfl) (by kernel_rfl)
                  · refine p_settle 43 hb (by kernel_rfl) (by kernel_rfl) ?_
                    subst hx
                    exact f_end (by kernel_rfl) (by kernel_rfl)
                · subst hx
                  exact f_end (by kernel_rfl) (by kernel_rfl)
              · refine p_settle 40 hb (by kernel_rfl) (by kernel_rfl) ?_
                subst hx
                exact f_end (by kernel_rfl) (by kernel_rfl)
            · refine e_nil (by kernel_rfl) ?_
              refine q_next ?_
              rcases o_cond h19 with ⟨hb, h19⟩ | ⟨hb, h19⟩
              · refine r_cond_t hb (by kernel_rfl) ?_
                refine pwp_seq ?_
                refine r_reg ?_
                refine e_end (by kernel_rfl) ?_
                refine q_next ?_
                refine pwp_ret ?_
                refine q_block_ret ?_
                refine q_seq_ret ?_
                cases h19
                refine q_lout_ret fun he => ?_
                subst he
                have h29 := o_outr h
                refine q_block_ret ?_
                refine q_seq_ret ?_
                cases h29
                exact q_ret (by kernel_rfl) (by kernel_rfl) (by kernel_rfl)
              · refine r_cond_f hb (by kernel_rfl) ?_
                refine pwp_skip ?_
                refine q_block ?_
                refine q_next ?_
                refine r_reg ?_
                refine e_end (by kernel_rfl) ?_
                cases h19
                exact q_lback (by kernel_rfl)
    · refine r_cond_f hb (by kernel_rfl) ?_
      refine pwp_exit ?_
      refine q_seq_exit ?_
      cases h19
      exact q_lexit (by kernel_rfl) (by kernel_rfl)
  · rintro _ s' rfl hs
    have h := o_outl h
    refine q_block_hit ?_
    refine q_next (pwp_wkr hs ?_)
    refine pwp_seq ?_
    refine r_reg ?_
    refine p_run 4 (by kernel_rfl) ?_
    refine e_segb 4 55 ((decide (1 ≤ ((a0.size : Nat) : Int))) && (decide (((a0.size : Nat) : Int) ≤ 12))) (fun x hx => ?_) ?_
    · rcases b_and hx with ⟨hb, hx⟩ | ⟨hb, hx⟩
      · refine p_settle 51 hb (by kernel_rfl) (by kernel_rfl) ?_
        subst hx
        exact f_end (by kernel_rfl) (by kernel_rfl)
      · refine p_settle 51 hb (by kernel_rfl) (by kernel_rfl) ?_
        subst hx
        exact f_end (by kernel_rfl) (by kernel_rfl)
    · refine e_end (by kernel_rfl) ?_
      refine q_next ?_
      refine pwp_ret ?_
      cases h
      exact q_ret (by kernel_rfl) (by kernel_rfl) (by kernel_rfl)

/-! signallingref07.texts -/
noncomputable def d_ref07_texts_1 (a0 : (List ByteArray)) (x8 : Int) : Int → Option (Int ⊕ (Unit ⊕ (Int ⊕ (Unit ⊕ Bool)))) := fun x18 =>
  bif decide (x18 < x8) then (
    (ixO a0 x8).bind fun x21 =>
    (ixO a0 x18).bind fun x22 =>
    bif decide (x21 = x22) then (
      some (.inr (.inr (.inr (.inr true))))
    ) else (
      some (.inl (w64 (x18 + 1)))
    )
  ) else (
    some (.inr (.inl ()))
  )

noncomputable def d_ref07_texts_0 (a0 : (List ByteArray)) : Int → Option (Int ⊕ (Unit ⊕ Bool)) := fun x8 =>
  bif decide (x8 < ((a0.length : Nat) : Int)) then (
    onInl (α := Unit) (β := (Int ⊕ (Unit ⊕ Bool))) (loopO (d_ref07_texts_1 a0 x8) 0) fun _ =>
    some (.inl (w64 (x8 + 1)))
  ) else (
    some (.inr (.inl ()))
  )

noncomputable def d_ref07_texts (a0 : (List ByteArray)) : Option Bool :=
  onInl (α := Unit) (β := Bool) (loopO (d_ref07_texts_0 a0) 0) fun _ =>
  some false
theorem d_ref07_texts_ok (a0 : (List ByteArray)) (r : Bool) (h : d_ref07_texts a0 = some r) : PCall Go.Proofs.Tryd.prog GlS 74 [Enc.pv a0] (Enc.pv r) := by
  unfold d_ref07_texts at h
  refine pcall_of_pwp Go.Proofs.Tryd.func74 (by rfl) rfl Go.Proofs.Tryd.ntmps74 (by rfl) rfl ?_
  refine pwp_seq ?_
  refine r_reg ?_
  refine e_end (by kernel_rfl) ?_
  refine q_next ?_
  refine pwp_seq ?_
  refine pwp_seq ?_
  refine r_reg ?_
  refine p_run 1 (by kernel_rfl) ?_
  refine p_len (L := (a0 : (List ByteArray))) (by kernel_rfl) ?_
  refine e_end (by kernel_rfl) ?_
  refine q_next ?_
  refine pwp_block ?_
  obtain ⟨o30, h30, h⟩ := o_inl h
  refine r_loop2 25 0 (fun x8 => ⟨[(0, lstOf .frozen (a0 : (List ByteArray))), (6, .int .i64 ((a0.length : Nat) : Int)), (7, .int .i64 x8)], [], [], []⟩) (fun (_ : Unit) => ⟨[], [], [], []⟩) h30 (by kernel_rfl) (fun _ => by kernel_rfl) ?_ ?_
  · rintro x8 oh29 h29
    unfold d_ref07_texts_0 at h29
    refine pwp_seq ?_
    refine r_reg ?_
    refine e_end (by kernel_rfl) ?_
    refine q_next ?_
    refine pwp_seq ?_
    rcases o_cond h29 with ⟨hb, h29⟩ | ⟨hb, h29⟩
    · refine r_cond_t hb (by kernel_rfl) ?_
      refine pwp_skip ?_
      refine q_next ?_
      refine pwp_seq ?_
      refine pwp_block ?_
      refine pwp_seq ?_
      refine r_reg ?_
      refine e_end (by kernel_rfl) ?_
      refine q_next ?_
      refine pwp_seq ?_
      refine r_reg ?_
      refine e_end (by kernel_rfl) ?_
      refine q_next ?_
      refine pwp_block ?_
      obtain ⟨o40, h40, h29⟩ := o_inl h29
      refine r_loop2 25 2 (fun x18 => ⟨[(0, lstOf .frozen (a0 : (List ByteArray))), (3, .int .i64 x8), (6, .int .i64 ((a0.length : Nat) : Int)), (7, .int .i64 x8), (10, .int .i64 x8), (11, .int .i64 x18)], [], [], []⟩) (fun (_ : Unit) => ⟨[(0, lstOf .frozen (a0 : (List ByteArray))), (6, .int .i64 ((a0.length : Nat) : Int)), (7, .int .i64 x8)], [], [], []⟩) h40 (by kernel_rfl) (fun _ => by kernel_rfl) ?_ ?_
      · rintro x18 oh39 h39
        unfold d_ref07_texts_1 at h39
        refine pwp_seq ?_
        refine r_reg ?_
        refine e_end (by kernel_rfl) ?_
        refine q_next ?_
        refine pwp_seq ?_
        rcases o_cond h39 with ⟨hb, h39⟩ | ⟨hb, h39⟩
        · refine r_cond_t hb (by kernel_rfl) ?_
          refine pwp_skip ?_
          refine q_next ?_
          refine pwp_seq ?_
          refine pwp_block ?_
          refine pwp_seq ?_
          refine r_reg ?_
          refine e_end (by kernel_rfl) ?_
          refine q_next ?_
          refine pwp_seq ?_
          refine r_regd (by kernel_rfl) (by kernel_rfl) ?_
          refine p_run 2 (by kernel_rfl) ?_
          obtain ⟨x21, h41, h39⟩ := o_bind h39
          refine p_ix h41 (by kernel_rfl) ?_
          refine p_run 3 (by kernel_rfl) ?_
          obtain ⟨x22, h42, h39⟩ := o_bind h39
          refine p_ix h42 (by kernel_rfl) ?_
          refine e_end (by kernel_rfl) ?_
          refine q_next ?_
          rcases o_cond h39 with ⟨hb, h39⟩ | ⟨hb, h39⟩
          · refine r_cond_t hb (by kernel_rfl) ?_
            refine pwp_seq ?_
            refine r_reg ?_
            refine e_end (by kernel_rfl) ?_
            refine q_next ?_
            refine pwp_ret ?_
            refine q_block_ret ?_
            refine q_seq_ret ?_
            cases h39
            refine q_lout_ret fun he => ?_
            subst he
            have h43 := o_outr h29
            refine q_block_ret ?_
            refine q_block_ret ?_
            refine q_seq_ret ?_
            cases h43
            refine q_lout_ret fun he => ?_
            subst he
            have h44 := o_outr h
            refine q_block_ret ?_
            refine q_seq_ret ?_
            cases h44
            exact q_ret (by kernel_rfl) (by kernel_rfl) (by kernel_rfl)
          · refine r_cond_f hb (by kernel_rfl) ?_
            refine pwp_skip ?_
            refine q_block ?_
            refine q_next ?_
            refine r_reg ?_
            refine e_end (by kernel_rfl) ?_
            cases h39
            exact q_lback (by kernel_rfl)
        · refine r_cond_f hb (by kernel_rfl) ?_
          refine pwp_exit ?_
          refine q_seq_exit ?_
          cases h39
          exact q_lexit (by kernel_rfl) (by kernel_rfl)
      · rintro _ s' rfl hs
        have h29 := o_outl h29
        refine q_block_hit ?_
        refine q_block ?_
        refine q_next (pwp_wkr hs ?_)
        refine r_reg ?_
        refine e_end (by kernel_rfl) ?_
        cases h29
        exact q_lback (by kernel_rfl)
    · refine r_cond_f hb (by kernel_rfl) ?_
      refine pwp_exit ?_
      refine q_seq_exit ?_
      cases h29
      exact q_lexit (by kernel_rfl) (by kernel_rfl)
  · rintro _ s' rfl hs
    have h := o_outl h
    refine q_block_hit ?_
    refine q_next (pwp_wkr hs ?_)
    refine pwp_seq ?_
    refine r_reg ?_
    refine e_end (by kernel_rfl) ?_
    refine q_next ?_
    refine pwp_ret ?_
    cases h
    exact q_ret (by kernel_rfl) (by kernel_rfl) (by kernel_rfl)

/-! signallingref07.named -/
noncomputable def d_ref07_named_0 (x9 : (List ByteArray)) : Int → Option (Int ⊕ (Unit ⊕ Int)) := fun x12 =>
  bif decide (x12 < ((x9.length : Nat) : Int)) then (
    (ixO x9 x12).bind fun x15 =>
    (d_ref05_Name x15).bind fun r16 =>
    bif (!r16) then (
      some (.inr (.inr 3))
    ) else (
      some (.inl (w64 (x12 + 1)))
    )
  ) else (
    some (.inr (.inl ()))
  )

noncomputable def d_ref07_named (a0 : T_api_Layout) : Option Int :=
  ((bif decide (((a0.Elements.length : Nat) : Int) < 1) then some true else (
    some (decide (32 < ((a0.Elements.length : Nat) : Int)))
  )) : Option Bool).bind fun b1 =>
  ((bif b1 then some true else (
    some (decide (((a0.Sections.length : Nat) : Int) < 1))
  )) : Option Bool).bind fun b2 =>
  ((bif b2 then some true else (
    some (decide (24 < ((a0.Sections.length : Nat) : Int)))
  )) : Option Bool).bind fun b3 =>
  ((bif b3 then some true else (
    some (decide (20 < ((a0.Signals.length : Nat) : Int)))
  )) : Option Bool).bind fun b4 =>
  ((bif b4 then some true else (
    some (decide (24 < ((a0.Balises.length : Nat) : Int)))
  )) : Option Bool).bind fun b5 =>
  bif b5 then (
    some 2
  ) else (
    (d_ref07_names a0).bind fun r6 =>
    (appO [a0.Name] r6.x0).bind fun x7 =>
    (appO x7 r6.x1).bind fun x8 =>
    (appO x8 r6.x2).bind fun x9 =>
    onInl (α := Unit) (β := Int) (loopO (d_ref07_named_0 x9) 0) fun _ =>
    (d_ref07_texts r6.x0).bind fun r17 =>
    ((bif r17 then some true else (
      (d_ref07_texts r6.x1).bind fun r19 =>
      some r19
    )) : Option Bool).bind fun b18 =>
    ((bif b18 then some true else (
      (d_ref07_texts r6.x2).bind fun r21 =>
      some r21
    )) : Option Bool).bind fun b20 =>
    bif b20 then (
      some 8
    ) else (
      some 0
    )
  )
theorem d_ref07_named_ok (a0 : T_api_Layout) (r : Int) (h : d_ref07_named a0 = some r) : PCall Go.Proofs.Tryd.prog GlS 50 [Enc.pv a0] (Enc.pv r) := by
  unfold d_ref07_named at h
  refine pcall_of_pwp Go.Proofs.Tryd.func50 (by rfl) rfl Go.Proofs.Tryd.ntmps50 (by rfl) rfl ?_
  refine pwp_seq ?_
  refine r_reg ?_
  refine e_end (by kernel_rfl) ?_
  refine q_next ?_
  refine pwp_seq ?_
  refine pwp_seq ?_
  refine r_reg ?_
  refine p_run 2 (by kernel_rfl) ?_
  refine p_len (L := (a0.Elements : (List T_api_Element))) (by kernel_rfl) ?_
  obtain ⟨b1, h1, h⟩ := o_bind h
  refine p_run 2 (by kernel_rfl) ?_
  refine e_seg 5 15 (.bool b1) ?_ ?_
  · rcases o_cond h1 with ⟨hb, h1⟩ | ⟨hb, h1⟩
    · refine p_settle 10 hb (by kernel_rfl) (by kernel_rfl) ?_
      cases h1
      exact f_end (by kernel_rfl) (by kernel_rfl)
    · refine p_settle 10 hb (by kernel_rfl) (by kernel_rfl) ?_
      refine p_run 2 (by kernel_rfl) ?_
      refine p_len (L := (a0.Elements : (List T_api_Element))) (by kernel_rfl) ?_
      cases h1
      exact f_end (by kernel_rfl) (by kernel_rfl)
  · obtain ⟨b2, h2, h⟩ := o_bind h
    refine p_run 1 (by kernel_rfl) ?_
    refine e_seg 5 21 (.bool b2) ?_ ?_
    · rcases o_cond h2 with ⟨hb, h2⟩ | ⟨hb, h2⟩
      · refine p_settle 16 hb (by kernel_rfl) (by kernel_rfl) ?_
        cases h2
        exact f_end (by kernel_rfl) (by kernel_rfl)
      · refine p_settle 16 hb (by kernel_rfl) (by kernel_rfl) ?_
        refine p_run 2 (by kernel_rfl) ?_
        refine p_len (L := (a0.Sections : (List ByteArray))) (by kernel_rfl) ?_
        cases h2
        exact f_end (by kernel_rfl) (by kernel_rfl)
    · obtain ⟨b3, h3, h⟩ := o_bind h
      refine p_run 1 (by kernel_rfl) ?_
      refine e_seg 5 27 (.bool b3) ?_ ?_
      · rcases o_cond h3 with ⟨hb, h3⟩ | ⟨hb, h3⟩
        · refine p_settle 22 hb (by kernel_rfl) (by kernel_rfl) ?_
          cases h3
          exact f_end (by kernel_rfl) (by kernel_rfl)
        · refine p_settle 22 hb (by kernel_rfl) (by kernel_rfl) ?_
          refine p_run 2 (by kernel_rfl) ?_
          refine p_len (L := (a0.Sections : (List ByteArray))) (by kernel_rfl) ?_
          cases h3
          exact f_end (by kernel_rfl) (by kernel_rfl)
      · obtain ⟨b4, h4, h⟩ := o_bind h
        refine p_run 1 (by kernel_rfl) ?_
        refine e_seg 5 33 (.bool b4) ?_ ?_
        · rcases o_cond h4 with ⟨hb, h4⟩ | ⟨hb, h4⟩
          · refine p_settle 28 hb (by kernel_rfl) (by kernel_rfl) ?_
            cases h4
            exact f_end (by kernel_rfl) (by kernel_rfl)
          · refine p_settle 28 hb (by kernel_rfl) (by kernel_rfl) ?_
            refine p_run 2 (by kernel_rfl) ?_
            refine p_len (L := (a0.Signals : (List T_api_Signal))) (by kernel_rfl) ?_
            cases h4
            exact f_end (by kernel_rfl) (by kernel_rfl)
        · obtain ⟨b5, h5, h⟩ := o_bind h
          refine p_run 1 (by kernel_rfl) ?_
          refine e_seg 5 39 (.bool b5) ?_ ?_
          · rcases o_cond h5 with ⟨hb, h5⟩ | ⟨hb, h5⟩
            · refine p_settle 34 hb (by kernel_rfl) (by kernel_rfl) ?_
              cases h5
              exact f_end (by kernel_rfl) (by kernel_rfl)
            · refine p_settle 34 hb (by kernel_rfl) (by kernel_rfl) ?_
              refine p_run 2 (by kernel_rfl) ?_
              refine p_len (L := (a0.Balises : (List T_api_Balise))) (by kernel_rfl) ?_
              cases h5
              exact f_end (by kernel_rfl) (by kernel_rfl)
          · refine e_nil (by kernel_rfl) ?_
            refine q_next ?_
            rcases o_cond h with ⟨hb, h⟩ | ⟨hb, h⟩
            · refine r_cond_t hb (by kernel_rfl) ?_
              refine pwp_seq ?_
              refine r_reg ?_
              refine e_end (by kernel_rfl) ?_
              refine q_next ?_
              refine pwp_ret ?_
              refine q_seq_ret ?_
              cases h
              exact q_ret (by kernel_rfl) (by kernel_rfl) (by kernel_rfl)
            · refine r_cond_f hb (by kernel_rfl) ?_
              refine pwp_skip ?_
              refine q_next ?_
              refine pwp_seq ?_
              refine r_reg ?_
              refine p_run 1 (by kernel_rfl) ?_
              obtain ⟨r6, h6, h⟩ := o_bind h
              refine p_call (d_ref07_names_ok _ r6 h6) (by kernel_rfl) (by kernel_rfl) ?_
              refine e_end (by kernel_rfl) ?_
              refine q_next ?_
              refine pwp_seq ?_
              refine pwp_seq ?_
              refine r_regd (by kernel_rfl) (by kernel_rfl) ?_
              refine p_run 5 (by kernel_rfl) ?_
              obtain ⟨x7, h7, h⟩ := o_bind h
              refine p_appn (tk := 47) h7 (by kernel_rfl) ?_
              refine p_run 2 (by kernel_rfl) ?_
              obtain ⟨x8, h8, h⟩ := o_bind h
              refine p_app (tk := 47) h8 (by kernel_rfl) (by kernel_rfl) ?_
              refine p_run 2 (by kernel_rfl) ?_
              obtain ⟨x9, h9, h⟩ := o_bind h
              refine p_app (tk := 47) h9 (by kernel_rfl) (by kernel_rfl) ?_
              refine p_len (L := (x9 : (List ByteArray))) (by kernel_rfl) ?_
              refine e_end (by kernel_rfl) ?_
              refine q_next ?_
              refine pwp_block ?_
              obtain ⟨o17, h17, h⟩ := o_inl h
              refine r_loop2 76 0 (fun x12 => ⟨[(3, .ref 3 0), (53, lstOf (.own 47) (x9 : (List ByteArray))), (54, .int .i64 ((x9.length : Nat) : Int)), (55, .int .i64 x12)], [(3, .cells (cellsOf r6))], [(47, (((x9).map cellsOf).length, 1))], []⟩) (fun (_ : Unit) => ⟨[(3, .ref 3 0)], [(3, .cells (cellsOf r6))], [], []⟩) h17 (by kernel_rfl) (fun _ => by kernel_rfl) ?_ ?_
              · rintro x12 oh16 h16
                unfold d_ref07_named_0 at h16
                refine pwp_seq ?_
                refine r_reg ?_
                refine e_end (by kernel_rfl) ?_
                refine q_next ?_
                refine pwp_seq ?_
                rcases o_cond h16 with ⟨hb, h16⟩ | ⟨hb, h16⟩
                · refine r_cond_t hb (by kernel_rfl) ?_
                  refine pwp_skip ?_
                  refine q_next ?_
                  refine pwp_seq ?_
                  refine pwp_block ?_
                  refine pwp_seq ?_
                  refine r_reg ?_
                  obtain ⟨x15, h18, h16⟩ := o_bind h16
                  refine p_ix h18 (by kernel_rfl) ?_
                  refine e_end (by kernel_rfl) ?_
                  refine q_next ?_
                  refine pwp_seq ?_
                  refine r_reg ?_
                  refine p_run 1 (by kernel_rfl) ?_
                  obtain ⟨r16, h19, h16⟩ := o_bind h16
                  refine p_call (d_ref05_Name_ok _ r16 h19) (by kernel_rfl) (by kernel_rfl) ?_
                  refine e_end (by kernel_rfl) ?_
                  refine q_next ?_
                  rcases o_cond h16 with ⟨hb, h16⟩ | ⟨hb, h16⟩
                  · refine r_cond_t hb (by kernel_rfl) ?_
                    refine pwp_seq ?_
                    refine r_reg ?_
                    refine e_end (by kernel_rfl) ?_
                    refine q_next ?_
                    refine pwp_ret ?_
                    refine q_block_ret ?_
                    refine q_seq_ret ?_
                    cases h16
                    refine q_lout_ret fun he => ?_
                    subst he
                    have h20 := o_outr h
                    refine q_block_ret ?_
                    refine q_seq_ret ?_
                    cases h20
                    exact q_ret (by kernel_rfl) (by kernel_rfl) (by kernel_rfl)
                  · refine r_cond_f hb (by kernel_rfl) ?_
                    refine pwp_skip ?_
                    refine q_block ?_
                    refine q_next ?_
                    refine r_reg ?_
                    refine e_end (by kernel_rfl) ?_
                    cases h16
                    exact q_lback (by kernel_rfl)
                · refine r_cond_f hb (by kernel_rfl) ?_
                  refine pwp_exit ?_
                  refine q_seq_exit ?_
                  cases h16
                  exact q_lexit (by kernel_rfl) (by kernel_rfl)
              · rintro _ s' rfl hs
                have h := o_outl h
                refine q_block_hit ?_
                refine q_next (pwp_wkr hs ?_)
                refine pwp_seq ?_
                refine pwp_seq ?_
                refine r_reg ?_
                refine p_run 2 (by kernel_rfl) ?_
                obtain ⟨r17, h21, h⟩ := o_bind h
                refine p_call (d_ref07_texts_ok _ r17 h21) (by kernel_rfl) (by kernel_rfl) ?_
                obtain ⟨b18, h22, h⟩ := o_bind h
                refine p_run 1 (by kernel_rfl) ?_
                refine e_seg 4 70 (.bool b18) ?_ ?_
                · rcases o_cond h22 with ⟨hb, h22⟩ | ⟨hb, h22⟩
                  · refine p_settle 66 hb (by kernel_rfl) (by kernel_rfl) ?_
                    cases h22
                    exact f_end (by kernel_rfl) (by kernel_rfl)
                  · refine p_settle 66 hb (by kernel_rfl) (by kernel_rfl) ?_
                    refine p_run 2 (by kernel_rfl) ?_
                    obtain ⟨r19, h23, h22⟩ := o_bind h22
                    refine p_call (d_ref07_texts_ok _ r19 h23) (by kernel_rfl) (by kernel_rfl) ?_
                    cases h22
                    exact f_end (by kernel_rfl) (by kernel_rfl)
                · obtain ⟨b20, h24, h⟩ := o_bind h
                  refine p_run 1 (by kernel_rfl) ?_
                  refine e_seg 4 75 (.bool b20) ?_ ?_
                  · rcases o_cond h24 with ⟨hb, h24⟩ | ⟨hb, h24⟩
                    · refine p_settle 71 hb (by kernel_rfl) (by kernel_rfl) ?_
                      cases h24
                      exact f_end (by kernel_rfl) (by kernel_rfl)
                    · refine p_settle 71 hb (by kernel_rfl) (by kernel_rfl) ?_
                      refine p_run 2 (by kernel_rfl) ?_
                      obtain ⟨r21, h25, h24⟩ := o_bind h24
                      refine p_call (d_ref07_texts_ok _ r21 h25) (by kernel_rfl) (by kernel_rfl) ?_
                      cases h24
                      exact f_end (by kernel_rfl) (by kernel_rfl)
                  · refine e_nil (by kernel_rfl) ?_
                    refine q_next ?_
                    rcases o_cond h with ⟨hb, h⟩ | ⟨hb, h⟩
                    · refine r_cond_t hb (by kernel_rfl) ?_
                      refine pwp_seq ?_
                      refine r_reg ?_
                      refine e_end (by kernel_rfl) ?_
                      refine q_next ?_
                      refine pwp_ret ?_
                      refine q_seq_ret ?_
                      cases h
                      exact q_ret (by kernel_rfl) (by kernel_rfl) (by kernel_rfl)
                    · refine r_cond_f hb (by kernel_rfl) ?_
                      refine pwp_skip ?_
                      refine q_next ?_
                      refine pwp_seq ?_
                      refine r_reg ?_
                      refine e_end (by kernel_rfl) ?_
                      refine q_next ?_
                      refine pwp_ret ?_
                      cases h
                      exact q_ret (by kernel_rfl) (by kernel_rfl) (by kernel_rfl)

/-! signallingref07.right -/
noncomputable def d_ref07_right (a0 : T_api_Layout) (a1 : T_api_Element) : Option Bool :=
  ((bif (((((((((decide (a1.Kind < 1)) || (decide (3 < a1.Kind))) || (decide (a1.Length < 500))) || (decide (1000000 < a1.Length))) || (decide (a1.Grade < (-50)))) || (decide (50 < a1.Grade))) || (decide (a1.Speed < 100))) || (decide (10000 < a1.Speed))) || (decide (a1.Section < 0))) then some true else (
    some (decide (((a0.Sections.length : Nat) : Int) ≤ a1.Section))
  )) : Option Bool).bind fun b1 =>
  bif b1 then (
    some false
  ) else (
    bif decide (a1.Kind = 2) then (
      some ((decide (100 ≤ a1.Slow)) && (decide (a1.Slow ≤ a1.Speed)))
    ) else (
      some (decide (a1.Slow = 0))
    )
  )
theorem d_ref07_right_ok (a0 : T_api_Layout) (a1 : T_api_Element) (r : Bool) (h : d_ref07_right a0 a1 = some r) : PCall Go.Proofs.Tryd.prog GlS 75 [Enc.pv a0, Enc.pv a1] (Enc.pv r) := by
  unfold d_ref07_right at h
  refine pcall_of_pwp Go.Proofs.Tryd.func75 (by rfl) rfl Go.Proofs.Tryd.ntmps75 (by rfl) rfl ?_
  refine pwp_seq ?_
  refine r_reg ?_
  refine e_end (by kernel_rfl) ?_
  refine q_next ?_
  refine pwp_seq ?_
  refine pwp_seq ?_
  refine r_reg ?_
  refine p_run 4 (by kernel_rfl) ?_
  refine e_segb 4 12 ((decide (a1.Kind < 1)) || (decide (3 < a1.Kind))) (fun x hx => ?_) ?_
  · rcases b_or hx with ⟨hb, hx⟩ | ⟨hb, hx⟩
    · refine p_settle 8 hb (by kernel_rfl) (by kernel_rfl) ?_
      subst hx
      exact f_end (by kernel_rfl) (by kernel_rfl)
    · refine p_settle 8 hb (by kernel_rfl) (by kernel_rfl) ?_
      subst hx
      exact f_end (by kernel_rfl) (by kernel_rfl)
  · refine p_run 1 (by kernel_rfl) ?_
    refine e_segb 4 17 (((decide (a1.Kind < 1)) || (decide (3 < a1.Kind))) || (decide (a1.Length < 500))) (fun x hx => ?_) ?_
    · rcases b_or hx with ⟨hb, hx⟩ | ⟨hb, hx⟩
      · refine p_settle 13 hb (by kernel_rfl) (by kernel_rfl) ?_
        subst hx
        exact f_end (by kernel_rfl) (by kernel_rfl)
      · refine p_settle 13 hb (by kernel_rfl) (by kernel_rfl) ?_
        subst hx
        exact f_end (by kernel_rfl) (by kernel_rfl)
    · refine p_run 1 (by kernel_rfl) ?_
      refine e_segb 4 22 ((((decide (a1.Kind < 1)) || (decide (3 < a1.Kind))) || (decide (a1.Length < 500))) || (decide (1000000 < a1.Length))) (fun x hx => ?_) ?_
      · rcases b_or hx with ⟨hb, hx⟩ | ⟨hb, hx⟩
        · refine p_settle 18 hb (by kernel_rfl) (by kernel_rfl) ?_
          subst hx
          exact f_end (by kernel_rfl) (by kernel_rfl)
        · refine p_settle 18 hb (by kernel_rfl) (by kernel_rfl) ?_
          subst hx
          exact f_end (by kernel_rfl) (by kernel_rfl)
      · refine p_run 1 (by kernel_rfl) ?_
        refine e_segb 4 27 (((((decide (a1.Kind < 1)) || (decide (3 < a1.Kind))) || (decide (a1.Length < 500))) || (decide (1000000 < a1.Length))) || (decide (a1.Grade < (-50)))) (fun x hx => ?_) ?_
        · rcases b_or hx with ⟨hb, hx⟩ | ⟨hb, hx⟩
          · refine p_settle 23 hb (by kernel_rfl) (by kernel_rfl) ?_
            subst hx
            exact f_end (by kernel_rfl) (by kernel_rfl)
          · refine p_settle 23 hb (by kernel_rfl) (by kernel_rfl) ?_
            subst hx
            exact f_end (by kernel_rfl) (by kernel_rfl)
        · refine p_run 1 (by kernel_rfl) ?_
          refine e_segb 4 32 ((((((decide (a1.Kind < 1)) || (decide (3 < a1.Kind))) || (decide (a1.Length < 500))) || (decide (1000000 < a1.Length))) || (decide (a1.Grade < (-50)))) || (decide (50 < a1.Grade))) (fun x hx => ?_) ?_
          · rcases b_or hx with ⟨hb, hx⟩ | ⟨hb, hx⟩
            · refine p_settle 28 hb (by kernel_rfl) (by kernel_rfl) ?_
              subst hx
              exact f_end (by kernel_rfl) (by kernel_rfl)
            · refine p_settle 28 hb (by kernel_rfl) (by kernel_rfl) ?_
              subst hx
              exact f_end (by kernel_rfl) (by kernel_rfl)
          · refine p_run 1 (by kernel_rfl) ?_
            refine e_segb 4 37 (((((((decide (a1.Kind < 1)) || (decide (3 < a1.Kind))) || (decide (a1.Length < 500))) || (decide (1000000 < a1.Length))) || (decide (a1.Grade < (-50)))) || (decide (50 < a1.Grade))) || (decide (a1.Speed < 100))) (fun x hx => ?_) ?_
            · rcases b_or hx with ⟨hb, hx⟩ | ⟨hb, hx⟩
              · refine p_settle 33 hb (by kernel_rfl) (by kernel_rfl) ?_
                subst hx
                exact f_end (by kernel_rfl) (by kernel_rfl)
              · refine p_settle 33 hb (by kernel_rfl) (by kernel_rfl) ?_
                subst hx
                exact f_end (by kernel_rfl) (by kernel_rfl)
            · refine p_run 1 (by kernel_rfl) ?_
              refine e_segb 4 42 ((((((((decide (a1.Kind < 1)) || (decide (3 < a1.Kind))) || (decide (a1.Length < 500))) || (decide (1000000 < a1.Length))) || (decide (a1.Grade < (-50)))) || (decide (50 < a1.Grade))) || (decide (a1.Speed < 100))) || (decide (10000 < a1.Speed))) (fun x hx => ?_) ?_
              · rcases b_or hx with ⟨hb, hx⟩ | ⟨hb, hx⟩
                · refine p_settle 38 hb (by kernel_rfl) (by kernel_rfl) ?_
                  subst hx
                  exact f_end (by kernel_rfl) (by kernel_rfl)
                · refine p_settle 38 hb (by kernel_rfl) (by kernel_rfl) ?_
                  subst hx
                  exact f_end (by kernel_rfl) (by kernel_rfl)
              · refine p_run 1 (by kernel_rfl) ?_
                refine e_segb 4 47 (((((((((decide (a1.Kind < 1)) || (decide (3 < a1.Kind))) || (decide (a1.Length < 500))) || (decide (1000000 < a1.Length))) || (decide (a1.Grade < (-50)))) || (decide (50 < a1.Grade))) || (decide (a1.Speed < 100))) || (decide (10000 < a1.Speed))) || (decide (a1.Section < 0))) (fun x hx => ?_) ?_
                · rcases b_or hx with ⟨hb, hx⟩ | ⟨hb, hx⟩
                  · refine p_settle 43 hb (by kernel_rfl) (by kernel_rfl) ?_
                    subst hx
                    exact f_end (by kernel_rfl) (by kernel_rfl)
                  · refine p_settle 43 hb (by kernel_rfl) (by kernel_rfl) ?_
                    subst hx
                    exact f_end (by kernel_rfl) (by kernel_rfl)
                · obtain ⟨b1, h1, h⟩ := o_bind h
                  refine p_run 1 (by kernel_rfl) ?_
                  refine e_seg 7 55 (.bool b1) ?_ ?_
                  · rcases o_cond h1 with ⟨hb, h1⟩ | ⟨hb, h1⟩
                    · refine p_settle 48 hb (by kernel_rfl) (by kernel_rfl) ?_
                      cases h1
                      exact f_end (by kernel_rfl) (by kernel_rfl)
                    · refine p_settle 48 hb (by kernel_rfl) (by kernel_rfl) ?_
                      refine p_run 4 (by kernel_rfl) ?_
                      refine p_len (L := (a0.Sections : (List ByteArray))) (by kernel_rfl) ?_
                      cases h1
                      exact f_end (by kernel_rfl) (by kernel_rfl)
                  · refine e_nil (by kernel_rfl) ?_
                    refine q_next ?_
                    rcases o_cond h with ⟨hb, h⟩ | ⟨hb, h⟩
                    · refine r_cond_t hb (by kernel_rfl) ?_
                      refine pwp_seq ?_
                      refine r_reg ?_
                      refine e_end (by kernel_rfl) ?_
                      refine q_next ?_
                      refine pwp_ret ?_
                      refine q_seq_ret ?_
                      cases h
                      exact q_ret (by kernel_rfl) (by kernel_rfl) (by kernel_rfl)
                    · refine r_cond_f hb (by kernel_rfl) ?_
                      refine pwp_skip ?_
                      refine q_next ?_
                      refine pwp_seq ?_
                      refine pwp_seq ?_
                      refine r_reg ?_
                      refine e_end (by kernel_rfl) ?_
                      refine q_next ?_
                      rcases o_cond h with ⟨hb, h⟩ | ⟨hb, h⟩
                      · refine r_cond_t hb (by kernel_rfl) ?_
                        refine pwp_seq ?_
                        refine r_reg ?_
                        refine p_run 4 (by kernel_rfl) ?_
                        refine e_segb 6 68 ((decide (100 ≤ a1.Slow)) && (decide (a1.Slow ≤ a1.Speed))) (fun x hx => ?_) ?_
                        · rcases b_and hx with ⟨hb, hx⟩ | ⟨hb, hx⟩
                          · refine p_settle 62 hb (by kernel_rfl) (by kernel_rfl) ?_
                            subst hx
                            exact f_end (by kernel_rfl) (by kernel_rfl)
                          · refine p_settle 62 hb (by kernel_rfl) (by kernel_rfl) ?_
                            subst hx
                            exact f_end (by kernel_rfl) (by kernel_rfl)
                        · refine e_end (by kernel_rfl) ?_
                          refine q_next ?_
                          refine pwp_ret ?_
                          refine q_seq_ret ?_
                          cases h
                          exact q_ret (by kernel_rfl) (by kernel_rfl) (by kernel_rfl)
                      · refine r_cond_f hb (by kernel_rfl) ?_
                        refine pwp_skip ?_
                        refine q_next ?_
                        refine pwp_seq ?_
                        refine r_reg ?_
                        refine e_end (by kernel_rfl) ?_
                        refine q_next ?_
                        refine pwp_ret ?_
                        cases h
                        exact q_ret (by kernel_rfl) (by kernel_rfl) (by kernel_rfl)

/-! signallingref07.Members -/
noncomputable def d_ref07_Members_0 (a0 : T_api_Layout) (a1 : Int) : (Int × (List Int)) → Option ((Int × (List Int)) ⊕ ((List Int) ⊕ (List Int))) := fun (x16, x17) =>
  bif decide (x16 < ((a0.Elements.length : Nat) : Int)) then (
    onInl (α := (List Int)) (β := ((Int × (List Int)) ⊕ ((List Int) ⊕ (List Int)))) (
      (ixO a0.Elements x16).bind fun x30 =>
      ((bif ((decide (x30.Section = a1)) && (decide (0 ≤ a1))) then (
        some (decide (a1 < ((a0.Sections.length : Nat) : Int)))
      ) else some false) : Option Bool).bind fun b31 =>
      bif b31 then (
        (appO x17 [x16]).bind fun x32 =>
        some (.inl x32)
      ) else (
        some (.inl x17)
      )
    ) fun x29 =>
    some (.inl (w64 (x16 + 1), x29))
  ) else (
    some (.inr (.inl x17))
  )

noncomputable def d_ref07_Members (a0 : T_api_Layout) (a1 : Int) : Option (List Int) :=
  onInl (α := (List Int)) (β := (List Int)) (loopO (d_ref07_Members_0 a0 a1) (0, ([] : (List Int)))) fun x25 =>
  some x25
theorem d_ref07_Members_ok (a0 : T_api_Layout) (a1 : Int) (r : (List Int)) (h : d_ref07_Members a0 a1 = some r) : PCall Go.Proofs.Tryd.prog GlS 76 [Enc.pv a0, Enc.pv a1] (lstOf (.own 100005) r) := by
  unfold d_ref07_Members at h
  refine pcall_of_pwp Go.Proofs.Tryd.func76 (by rfl) rfl Go.Proofs.Tryd.ntmps76 (by rfl) rfl ?_
  refine pwp_seq ?_
  refine r_reg ?_
  refine e_end (by kernel_rfl) ?_
  refine q_next ?_
  refine pwp_seq ?_
  refine r_reg ?_
  refine e_end (by kernel_rfl) ?_
  refine q_next ?_
  refine pwp_seq ?_
  refine pwp_seq ?_
  refine r_reg ?_
  refine p_run 2 (by kernel_rfl) ?_
  refine p_len (L := (a0.Elements : (List T_api_Element))) (by kernel_rfl) ?_
  refine e_end (by kernel_rfl) ?_
  refine q_next ?_
  refine pwp_block ?_
  refine g_nil 5 100005 1 8 (by kernel_rfl) (by kernel_rfl) ?_
  obtain ⟨o23, h23, h⟩ := o_inl h
  refine r_loop2 37 0 (fun (x16, x17) => ⟨[(1, .int .i64 a1), (2, .ref 2 0), (5, lstOf (.own 100005) (x17 : (List Int))), (9, lstOf .frozen (a0.Elements : (List T_api_Element))), (10, .int .i64 ((a0.Elements.length : Nat) : Int)), (11, .int .i64 x16)], [(2, .cells (cellsOf a0))], [(100005, (((x17).map cellsOf).length, 1))], []⟩) (fun x25 => ⟨[(5, lstOf (.own 100005) (x25 : (List Int)))], [], [(100005, (((x25).map cellsOf).length, 1))], []⟩) h23 (by kernel_rfl) (fun _ => by kernel_rfl) ?_ ?_
  · rintro ⟨x16, x17⟩ oh22 h22
    unfold d_ref07_Members_0 at h22
    refine pwp_seq ?_
    refine r_reg ?_
    refine e_end (by kernel_rfl) ?_
    refine q_next ?_
    refine pwp_seq ?_
    rcases o_cond h22 with ⟨hb, h22⟩ | ⟨hb, h22⟩
    · refine r_cond_t hb (by kernel_rfl) ?_
      refine pwp_skip ?_
      refine q_next ?_
      obtain ⟨o27, h27, h22⟩ := o_inl h22
      refine r_join (o := o27) 37 (fun x29 => ⟨[(1, .int .i64 a1), (2, .ref 2 0), (5, lstOf (.own 100005) (x29 : (List Int))), (9, lstOf .frozen (a0.Elements : (List T_api_Element))), (10, .int .i64 ((a0.Elements.length : Nat) : Int)), (11, .int .i64 x16)], [(2, .cells (cellsOf a0))], [(100005, (((x29).map cellsOf).length, 1))], []⟩) ?_ ?_
      · refine pwp_block ?_
        refine pwp_seq ?_
        refine r_reg ?_
        refine p_run 1 (by kernel_rfl) ?_
        obtain ⟨x30, h28, h27⟩ := o_bind h27
        refine p_ix h28 (by kernel_rfl) ?_
        refine e_end (by kernel_rfl) ?_
        refine q_next ?_
        refine pwp_seq ?_
        refine r_reg ?_
        refine p_run 5 (by kernel_rfl) ?_
        refine e_segb 3 23 ((decide (x30.Section = a1)) && (decide (0 ≤ a1))) (fun x hx => ?_) ?_
        · rcases b_and hx with ⟨hb, hx⟩ | ⟨hb, hx⟩
          · refine p_settle 20 hb (by kernel_rfl) (by kernel_rfl) ?_
            subst hx
            exact f_end (by kernel_rfl) (by kernel_rfl)
          · refine p_settle 20 hb (by kernel_rfl) (by kernel_rfl) ?_
            subst hx
            exact f_end (by kernel_rfl) (by kernel_rfl)
        · obtain ⟨b31, h29, h27⟩ := o_bind h27
          refine p_run 1 (by kernel_rfl) ?_
          refine e_seg 6 30 (.bool b31) ?_ ?_
          · rcases o_cond h29 with ⟨hb, h29⟩ | ⟨hb, h29⟩
            · refine p_settle 24 hb (by kernel_rfl) (by kernel_rfl) ?_
              refine p_run 3 (by kernel_rfl) ?_
              refine p_len (L := (a0.Sections : (List ByteArray))) (by kernel_rfl) ?_
              cases h29
              exact f_end (by kernel_rfl) (by kernel_rfl)
            · refine p_settle 24 hb (by kernel_rfl) (by kernel_rfl) ?_
              cases h29
              exact f_end (by kernel_rfl) (by kernel_rfl)
          · refine e_nil (by kernel_rfl) ?_
            refine q_next ?_
            rcases o_cond h27 with ⟨hb, h27⟩ | ⟨hb, h27⟩
            · refine r_cond_t hb (by kernel_rfl) ?_
              refine r_reg ?_
              refine p_run 3 (by kernel_rfl) ?_
              obtain ⟨x32, h30, h27⟩ := o_bind h27
              refine p_app (tk := 100005) h30 (by kernel_rfl) (by kernel_rfl) ?_
              refine e_end (by kernel_rfl) ?_
              refine q_block ?_
              cases h27
              exact q_join (by kernel_rfl) (by kernel_rfl)
            · refine r_cond_f hb (by kernel_rfl) ?_
              refine pwp_skip ?_
              refine q_block ?_
              cases h27
              exact q_join (by kernel_rfl) (by kernel_rfl)
      · rintro x29 rfl
        have h22 := o_outl h22
        refine r_reg ?_
        refine e_end (by kernel_rfl) ?_
        cases h22
        exact q_lback (by kernel_rfl)
    · refine r_cond_f hb (by kernel_rfl) ?_
      refine pwp_exit ?_
      refine q_seq_exit ?_
      cases h22
      exact q_lexit (by kernel_rfl) (by kernel_rfl)
  · rintro x25 s' rfl hs
    have h := o_outl h
    refine q_block_hit ?_
    refine q_next (pwp_wkr hs ?_)
    refine pwp_seq ?_
    refine r_reg ?_
    refine e_end (by kernel_rfl) ?_
    refine q_next ?_
    refine pwp_ret ?_
    cases h
    exact q_ret (by kernel_rfl) (by kernel_rfl) (by kernel_rfl)
theorem d_ref07_Members_fz (a0 : T_api_Layout) (a1 : Int) (r : (List Int)) (h : d_ref07_Members a0 a1 = some r) : PCall Go.Proofs.Tryd.prog GlS 76 [Enc.pv a0, Enc.pv a1] (Enc.pv r) :=
  (d_ref07_Members_ok a0 a1 r h).freeze (by kernel_rfl) (by kernel_rfl) (by kernel_rfl)

/-! signallingref06.Sides -/
noncomputable def d_ref06_Sides (a0 : Int) : Option Int :=
  bif decide (a0 = 1) then (
    some 2
  ) else (
    bif decide (a0 = 2) then (
      some 3
    ) else (
      bif decide (a0 = 3) then (
        some 4
      ) else (
        some 0
      )
    )
  )
theorem d_ref06_Sides_ok (a0 : Int) (r : Int) (h : d_ref06_Sides a0 = some r) : PCall Go.Proofs.Tryd.prog GlS 69 [Enc.pv a0] (Enc.pv r) := by
  unfold d_ref06_Sides at h
  refine pcall_of_pwp Go.Proofs.Tryd.func69 (by rfl) rfl Go.Proofs.Tryd.ntmps69 (by rfl) rfl ?_
  refine pwp_seq ?_
  refine r_reg ?_
  refine e_end (by kernel_rfl) ?_
  refine q_next ?_
  refine pwp_seq ?_
  refine pwp_seq ?_
  refine r_reg ?_
  refine e_end (by kernel_rfl) ?_
  refine q_next ?_
  refine pwp_block ?_
  refine pwp_seq ?_
  refine r_reg ?_
  refine e_end (by kernel_rfl) ?_
  refine q_next ?_
  rcases o_cond h with ⟨hb, h⟩ | ⟨hb, h⟩
  · refine r_cond_t hb (by kernel_rfl) ?_
    refine pwp_seq ?_
    refine r_reg ?_
    refine e_end (by kernel_rfl) ?_
    refine q_next ?_
    refine pwp_ret ?_
    refine q_block_ret ?_
    refine q_seq_ret ?_
    cases h
    exact q_ret (by kernel_rfl) (by kernel_rfl) (by kernel_rfl)
  · refine r_cond_f hb (by kernel_rfl) ?_
    refine pwp_seq ?_
    refine r_reg ?_
    refine e_end (by kernel_rfl) ?_
    refine q_next ?_
    rcases o_cond h with ⟨hb, h⟩ | ⟨hb, h⟩
    · refine r_cond_t hb (by kernel_rfl) ?_
      refine pwp_seq ?_
      refine r_reg ?_
      refine e_end (by kernel_rfl) ?_
      refine q_next ?_
      refine pwp_ret ?_
      refine q_block_ret ?_
      refine q_seq_ret ?_
      cases h
      exact q_ret (by kernel_rfl) (by kernel_rfl) (by kernel_rfl)
    · refine r_cond_f hb (by kernel_rfl) ?_
      refine pwp_seq ?_
      refine r_reg ?_
      refine e_end (by kernel_rfl) ?_
      refine q_next ?_
      rcases o_cond h with ⟨hb, h⟩ | ⟨hb, h⟩
      · refine r_cond_t hb (by kernel_rfl) ?_
        refine pwp_seq ?_
        refine r_reg ?_
        refine e_end (by kernel_rfl) ?_
        refine q_next ?_
        refine pwp_ret ?_
        refine q_block_ret ?_
        refine q_seq_ret ?_
        cases h
        exact q_ret (by kernel_rfl) (by kernel_rfl) (by kernel_rfl)
      · refine r_cond_f hb (by kernel_rfl) ?_
        refine pwp_skip ?_
        refine q_block ?_
        refine q_next ?_
        refine pwp_seq ?_
        refine r_reg ?_
        refine e_end (by kernel_rfl) ?_
        refine q_next ?_
        refine pwp_ret ?_
        cases h
        exact q_ret (by kernel_rfl) (by kernel_rfl) (by kernel_rfl)

/-! signallingref07.exists -/
noncomputable def d_ref07_exists (a0 : T_api_Layout) (a1 : T_api_End) : Option Bool :=
  ((bif decide (0 ≤ a1.El) then (
    some (decide (a1.El < ((a0.Elements.length : Nat) : Int)))
  ) else some false) : Option Bool).bind fun b1 =>
  ((bif (b1 && (decide (0 ≤ a1.Side))) then (
    (ixO a0.Elements a1.El).bind fun x3 =>
    (d_ref06_Sides x3.Kind).bind fun r4 =>
    some (decide (a1.Side < r4))
  ) else some false) : Option Bool).bind fun b2 =>
  some b2
theorem d_ref07_exists_ok (a0 : T_api_Layout) (a1 : T_api_End) (r : Bool) (h : d_ref07_exists a0 a1 = some r) : PCall Go.Proofs.Tryd.prog GlS 77 [Enc.pv a0, Enc.pv a1] (Enc.pv r) := by
  unfold d_ref07_exists at h
  refine pcall_of_pwp Go.Proofs.Tryd.func77 (by rfl) rfl Go.Proofs.Tryd.ntmps77 (by rfl) rfl ?_
  refine pwp_seq ?_
  refine r_reg ?_
  refine e_end (by kernel_rfl) ?_
  refine q_next ?_
  refine pwp_seq ?_
  refine r_regd (by kernel_rfl) (by kernel_rfl) ?_
  obtain ⟨b1, h1, h⟩ := o_bind h
  refine p_run 4 (by kernel_rfl) ?_
  refine e_seg 7 15 (.bool b1) ?_ ?_
  · rcases o_cond h1 with ⟨hb, h1⟩ | ⟨hb, h1⟩
    · refine p_settle 8 hb (by kernel_rfl) (by kernel_rfl) ?_
      refine p_run 4 (by kernel_rfl) ?_
      refine p_len (L := (a0.Elements : (List T_api_Element))) (by kernel_rfl) ?_
      cases h1
      exact f_end (by kernel_rfl) (by kernel_rfl)
    · refine p_settle 8 hb (by kernel_rfl) (by kernel_rfl) ?_
      cases h1
      exact f_end (by kernel_rfl) (by kernel_rfl)
  · refine p_run 1 (by kernel_rfl) ?_
    refine e_segb 4 20 (b1 && (decide (0 ≤ a1.Side))) (fun x hx => ?_) ?_
    · rcases b_and hx with ⟨hb, hx⟩ | ⟨hb, hx⟩
      · refine p_settle 16 hb (by kernel_rfl) (by kernel_rfl) ?_
        subst hx
        exact f_end (by kernel_rfl) (by kernel_rfl)
      · refine p_settle 16 hb (by kernel_rfl) (by kernel_rfl) ?_
        subst hx
        exact f_end (by kernel_rfl) (by kernel_rfl)
    · obtain ⟨b2, h2, h⟩ := o_bind h
      refine p_run 1 (by kernel_rfl) ?_
      refine e_seg 12 33 (.bool b2) ?_ ?_
      · rcases o_cond h2 with ⟨hb, h2⟩ | ⟨hb, h2⟩
        · refine p_settle 21 hb (by kernel_rfl) (by kernel_rfl) ?_
          refine p_run 6 (by kernel_rfl) ?_
          obtain ⟨x3, h3, h2⟩ := o_bind h2
          refine p_ix h3 (by kernel_rfl) ?_
          refine p_run 2 (by kernel_rfl) ?_
          obtain ⟨r4, h4, h2⟩ := o_bind h2
          refine p_call (d_ref06_Sides_ok _ r4 h4) (by kernel_rfl) (by kernel_rfl) ?_
          cases h2
          exact f_end (by kernel_rfl) (by kernel_rfl)
        · refine p_settle 21 hb (by kernel_rfl) (by kernel_rfl) ?_
          cases h2
          exact f_end (by kernel_rfl) (by kernel_rfl)
      · refine e_end (by kernel_rfl) ?_
        refine q_next ?_
        refine pwp_ret ?_
        cases h
        exact q_ret (by kernel_rfl) (by kernel_rfl) (by kernel_rfl)

/-! signallingref07.ends -/
noncomputable def d_ref07_ends_1 (a0 : (List T_api_End)) (x8 : Int) : Int → Option (Int ⊕ (Unit ⊕ (Int ⊕ (Unit ⊕ Bool)))) := fun x18 =>
  bif decide (x18 < x8) then (
    (ixO a0 x8).bind fun x21 =>
    (ixO a0 x18).bind fun x22 =>
    bif eq_T_api_End x21 x22 then (
      some (.inr (.inr (.inr (.inr true))))
    ) else (
      some (.inl (w64 (x18 + 1)))
    )
  ) else (
    some (.inr (.inl ()))
  )

noncomputable def d_ref07_ends_0 (a0 : (List T_api_End)) : Int → Option (Int ⊕ (Unit ⊕ Bool)) := fun x8 =>
  bif decide (x8 < ((a0.length : Nat) : Int)) then (
    onInl (α := Unit) (β := (Int ⊕ (Unit ⊕ Bool))) (loopO (d_ref07_ends_1 a0 x8) 0) fun _ =>
    some (.inl (w64 (x8 + 1)))
  ) else (
    some (.inr (.inl ()))
  )

noncomputable def d_ref07_ends (a0 : (List T_api_End)) : Option Bool :=
  onInl (α := Unit) (β := Bool) (loopO (d_ref07_ends_0 a0) 0) fun _ =>
  some false
theorem d_ref07_ends_ok (a0 : (List T_api_End)) (r : Bool) (h : d_ref07_ends a0 = some r) : PCall Go.Proofs.Tryd.prog GlS 78 [Enc.pv a0] (Enc.pv r) := by
  unfold d_ref07_ends at h
  refine pcall_of_pwp Go.Proofs.Tryd.func78 (by rfl) rfl Go.Proofs.Tryd.ntmps78 (by rfl) rfl ?_
  refine pwp_seq ?_
  refine r_reg ?_
  refine e_end (by kernel_rfl) ?_
  refine q_next ?_
  refine pwp_seq ?_
  refine pwp_seq ?_
  refine r_reg ?_
  refine p_run 1 (by kernel_rfl) ?_
  refine p_len (L := (a0 : (List T_api_End))) (by kernel_rfl) ?_
  refine e_end (by kernel_rfl) ?_
  refine q_next ?_
  refine pwp_block ?_
  obtain ⟨o30, h30, h⟩ := o_inl h
  refine r_loop2 25 0 (fun x8 => ⟨[(0, lstOf .frozen (a0 : (List T_api_End))), (6, .int .i64 ((a0.length : Nat) : Int)), (7, .int .i64 x8)], [], [], []⟩) (fun (_ : Unit) => ⟨[], [], [], []⟩) h30 (by kernel_rfl) (fun _ => by kernel_rfl) ?_ ?_
  · rintro x8 oh29 h29
    unfold d_ref07_ends_0 at h29
    refine pwp_seq ?_
    refine r_reg ?_
    refine e_end (by kernel_rfl) ?_
    refine q_next ?_
    refine pwp_seq ?_
    rcases o_cond h29 with ⟨hb, h29⟩ | ⟨hb, h29⟩
    · refine r_cond_t hb (by kernel_rfl) ?_
      refine pwp_skip ?_
      refine q_next ?_
      refine pwp_seq ?_
      refine pwp_block ?_
      refine pwp_seq ?_
      refine r_reg ?_
      refine e_end (by kernel_rfl) ?_
      refine q_next ?_
      refine pwp_seq ?_
      refine r_reg ?_
      refine e_end (by kernel_rfl) ?_
      refine q_next ?_
      refine pwp_block ?_
      obtain ⟨o40, h40, h29⟩ := o_inl h29
      refine r_loop2 25 2 (fun x18 => ⟨[(0, lstOf .frozen (a0 : (List T_api_End))), (3, .int .i64 x8), (6, .int .i64 ((a0.length : Nat) : Int)), (7, .int .i64 x8), (10, .int .i64 x8), (11, .int .i64 x18)], [], [], []⟩) (fun (_ : Unit) => ⟨[(0, lstOf .frozen (a0 : (List T_api_End))), (6, .int .i64 ((a0.length : Nat) : Int)), (7, .int .i64 x8)], [], [], []⟩) h40 (by kernel_rfl) (fun _ => by kernel_rfl) ?_ ?_
      · rintro x18 oh39 h39
        unfold d_ref07_ends_1 at h39
        refine pwp_seq ?_
        refine r_reg ?_
        refine e_end (by kernel_rfl) ?_
        refine q_next ?_
        refine pwp_seq ?_
        rcases o_cond h39 with ⟨hb, h39⟩ | ⟨hb, h39⟩
        · refine r_cond_t hb (by kernel_rfl) ?_
          refine pwp_skip ?_
          refine q_next ?_
          refine pwp_seq ?_
          refine pwp_block ?_
          refine pwp_seq ?_
          refine r_reg ?_
          refine e_end (by kernel_rfl) ?_
          refine q_next ?_
          refine pwp_seq ?_
          refine r_regd (by kernel_rfl) (by kernel_rfl) ?_
          refine p_run 2 (by kernel_rfl) ?_
          obtain ⟨x21, h41, h39⟩ := o_bind h39
          refine p_ix h41 (by kernel_rfl) ?_
          refine p_run 3 (by kernel_rfl) ?_
          obtain ⟨x22, h42, h39⟩ := o_bind h39
          refine p_ix h42 (by kernel_rfl) ?_
          refine e_end (by kernel_rfl) ?_
          refine q_next ?_
          rcases o_cond h39 with ⟨hb, h39⟩ | ⟨hb, h39⟩
          · refine r_cond_t hb (by kernel_rfl) ?_
            refine pwp_seq ?_
            refine r_reg ?_
            refine e_end (by kernel_rfl) ?_
            refine q_next ?_
            refine pwp_ret ?_
            refine q_block_ret ?_
            refine q_seq_ret ?_
            cases h39
            refine q_lout_ret fun he => ?_
            subst he
            have h43 := o_outr h29
            refine q_block_ret ?_
            refine q_block_ret ?_
            refine q_seq_ret ?_
            cases h43
            refine q_lout_ret fun he => ?_
            subst he
            have h44 := o_outr h
            refine q_block_ret ?_
            refine q_seq_ret ?_
            cases h44
            exact q_ret (by kernel_rfl) (by kernel_rfl) (by kernel_rfl)
          · refine r_cond_f hb (by kernel_rfl) ?_
            refine pwp_skip ?_
            refine q_block ?_
            refine q_next ?_
            refine r_reg ?_
            refine e_end (by kernel_rfl) ?_
            cases h39
            exact q_lback (by kernel_rfl)
        · refine r_cond_f hb (by kernel_rfl) ?_
          refine pwp_exit ?_
          refine q_seq_exit ?_
          cases h39
          exact q_lexit (by kernel_rfl) (by kernel_rfl)
      · rintro _ s' rfl hs
        have h29 := o_outl h29
        refine q_block_hit ?_
        refine q_block ?_
        refine q_next (pwp_wkr hs ?_)
        refine r_reg ?_
        refine e_end (by kernel_rfl) ?_
        cases h29
        exact q_lback (by kernel_rfl)
    · refine r_cond_f hb (by kernel_rfl) ?_
      refine pwp_exit ?_
      refine q_seq_exit ?_
      cases h29
      exact q_lexit (by kernel_rfl) (by kernel_rfl)
  · rintro _ s' rfl hs
    have h := o_outl h
    refine q_block_hit ?_
    refine q_next (pwp_wkr hs ?_)
    refine pwp_seq ?_
    refine r_reg ?_
    refine e_end (by kernel_rfl) ?_
    refine q_next ?_
    refine pwp_ret ?_
    cases h
    exact q_ret (by kernel_rfl) (by kernel_rfl) (by kernel_rfl)

/-! signallingref07.elements -/
noncomputable def d_ref07_elements_0 (a0 : T_api_Layout) : Int → Option (Int ⊕ (Unit ⊕ Int)) := fun x3 =>
  bif decide (x3 < ((a0.Elements.length : Nat) : Int)) then (
    (ixO a0.Elements x3).bind fun x6 =>
    (d_ref07_right a0 x6).bind fun r7 =>
    bif (!r7) then (
      some (.inr (.inr 1))
    ) else (
      some (.inl (w64 (x3 + 1)))
    )
  ) else (
    some (.inr (.inl ()))
  )

noncomputable def d_ref07_elements_1 (a0 : T_api_Layout) : Int → Option (Int ⊕ (Unit ⊕ Int)) := fun x9 =>
  bif decide (x9 < ((a0.Sections.length : Nat) : Int)) then (
    (d_ref07_Members a0 x9).bind fun r11 =>
    bif decide (((r11.length : Nat) : Int) = 0) then (
      some (.inr (.inr 1))
    ) else (
      some (.inl (w64 (x9 + 1)))
    )
  ) else (
    some (.inr (.inl ()))
  )

noncomputable def d_ref07_elements_2 (a0 : T_api_Layout) : (Int × (List T_api_End)) → Option ((Int × (List T_api_End)) ⊕ ((List T_api_End) ⊕ Int)) := fun (x23, x24) =>
  bif decide (x23 < ((a0.Joints.length : Nat) : Int)) then (
    (ixO a0.Joints x23).bind fun x31 =>
    (d_ref07_exists a0 x31.A).bind fun r32 =>
    ((bif (!r32) then some true else (
      (d_ref07_exists a0 x31.B).bind fun r34 =>
      some (!r34)
    )) : Option Bool).bind fun b33 =>
    bif (b33 || (eq_T_api_End x31.A x31.B)) then (
      some (.inr (.inr 1))
    ) else (
      (appO x24 [x31.A, x31.B]).bind fun x35 =>
      some (.inl (w64 (x23 + 1), x35))
    )
  ) else (
    some (.inr (.inl x24))
  )

noncomputable def d_ref07_elements (a0 : T_api_Layout) : Option Int :=
  onInl (α := Unit) (β := Int) (loopO (d_ref07_elements_0 a0) 0) fun _ =>
  onInl (α := Unit) (β := Int) (loopO (d_ref07_elements_1 a0) 0) fun _ =>
  onInl (α := (List T_api_End)) (β := Int) (loopO (d_ref07_elements_2 a0) (0, ([] : (List T_api_End)))) fun x30 =>
  (d_ref07_ends x30).bind fun r36 =>
  bif r36 then (
    some 8
  ) else (
    some 0
  )
theorem d_ref07_elements_ok (a0 : T_api_Layout) (r : Int) (h : d_ref07_elements a0 = some r) : PCall Go.Proofs.Tryd.prog GlS 51 [Enc.pv a0] (Enc.pv r) := by
  unfold d_ref07_elements at h
  refine pcall_of_pwp Go.Proofs.Tryd.func51 (by rfl) rfl Go.Proofs.Tryd.ntmps51 (by rfl) rfl ?_
  refine pwp_seq ?_
  refine r_reg ?_
  refine e_end (by kernel_rfl) ?_
  refine q_next ?_
  refine pwp_seq ?_
  refine pwp_seq ?_
  refine r_reg ?_
  refine p_run 2 (by kernel_rfl) ?_
  refine p_len (L := (a0.Elements : (List T_api_Element))) (by kernel_rfl) ?_
  refine e_end (by kernel_rfl) ?_
  refine q_next ?_
  refine pwp_block ?_
  obtain ⟨o8, h8, h⟩ := o_inl h
  refine r_loop2 69 0 (fun x3 => ⟨[(1, .ref 1 0), (10, lstOf .frozen (a0.Elements : (List T_api_Element))), (11, .int .i64 ((a0.Elements.length : Nat) : Int)), (12, .int .i64 x3)], [(1, .cells (cellsOf a0))], [], []⟩) (fun (_ : Unit) => ⟨[(1, .ref 1 0)], [(1, .cells (cellsOf a0))], [], []⟩) h8 (by kernel_rfl) (fun _ => by kernel_rfl) ?_ ?_
  · rintro x3 oh7 h7
    unfold d_ref07_elements_0 at h7
    refine pwp_seq ?_
    refine r_reg ?_
    refine e_end (by kernel_rfl) ?_
    refine q_next ?_
    refine pwp_seq ?_
    rcases o_cond h7 with ⟨hb, h7⟩ | ⟨hb, h7⟩
    · refine r_cond_t hb (by kernel_rfl) ?_
      refine pwp_skip ?_
      refine q_next ?_
      refine pwp_seq ?_
      refine pwp_block ?_
      refine pwp_seq ?_
      refine r_reg ?_
      obtain ⟨x6, h9, h7⟩ := o_bind h7
      refine p_ix h9 (by kernel_rfl) ?_
      refine e_end (by kernel_rfl) ?_
      refine q_next ?_
      refine pwp_seq ?_
      refine r_reg ?_
      refine p_run 2 (by kernel_rfl) ?_
      obtain ⟨r7, h10, h7⟩ := o_bind h7
      refine p_call (d_ref07_right_ok _ _ r7 h10) (by kernel_rfl) (by kernel_rfl) ?_
      refine e_end (by kernel_rfl) ?_
      refine q_next ?_
      rcases o_cond h7 with ⟨hb, h7⟩ | ⟨hb, h7⟩
      · refine r_cond_t hb (by kernel_rfl) ?_
        refine pwp_seq ?_
        refine r_reg ?_
        refine e_end (by kernel_rfl) ?_
        refine q_next ?_
        refine pwp_ret ?_
        refine q_block_ret ?_
        refine q_seq_ret ?_
        cases h7
        refine q_lout_ret fun he => ?_
        subst he
        have h11 := o_outr h
        refine q_block_ret ?_
        refine q_seq_ret ?_
        cases h11
        exact q_ret (by kernel_rfl) (by kernel_rfl) (by kernel_rfl)
      · refine r_cond_f hb (by kernel_rfl) ?_
        refine pwp_skip ?_
        refine q_block ?_
        refine q_next ?_
        refine r_reg ?_
        refine e_end (by kernel_rfl) ?_
        cases h7
        exact q_lback (by kernel_rfl)
    · refine r_cond_f hb (by kernel_rfl) ?_
      refine pwp_exit ?_
      refine q_seq_exit ?_
      cases h7
      exact q_lexit (by kernel_rfl) (by kernel_rfl)
  · rintro _ s' rfl hs
    have h := o_outl h
    refine q_block_hit ?_
    refine q_next (pwp_wkr hs ?_)
    refine pwp_seq ?_
    refine pwp_seq ?_
    refine r_reg ?_
    refine p_run 2 (by kernel_rfl) ?_
    refine p_len (L := (a0.Sections : (List ByteArray))) (by kernel_rfl) ?_
    refine e_end (by kernel_rfl) ?_
    refine q_next ?_
    refine pwp_block ?_
    obtain ⟨o17, h17, h⟩ := o_inl h
    refine r_loop2 69 2 (fun x9 => ⟨[(1, .ref 1 0), (23, .int .i64 ((a0.Sections.length : Nat) : Int)), (24, .int .i64 x9)], [(1, .cells (cellsOf a0))], [], []⟩) (fun (_ : Unit) => ⟨[(1, .ref 1 0)], [(1, .cells (cellsOf a0))], [], []⟩) h17 (by kernel_rfl) (fun _ => by kernel_rfl) ?_ ?_
    · rintro x9 oh16 h16
      unfold d_ref07_elements_1 at h16
      refine pwp_seq ?_
      refine r_reg ?_
      refine e_end (by kernel_rfl) ?_
      refine q_next ?_
      refine pwp_seq ?_
      rcases o_cond h16 with ⟨hb, h16⟩ | ⟨hb, h16⟩
      · refine r_cond_t hb (by kernel_rfl) ?_
        refine pwp_skip ?_
        refine q_next ?_
        refine pwp_seq ?_
        refine pwp_block ?_
        refine pwp_seq ?_
        refine r_reg ?_
        refine e_end (by kernel_rfl) ?_
        refine q_next ?_
        refine pwp_seq ?_
        refine r_reg ?_
        refine p_run 2 (by kernel_rfl) ?_
        obtain ⟨r11, h18, h16⟩ := o_bind h16
        refine p_call (d_ref07_Members_ok _ _ r11 h18) (by kernel_rfl) (by kernel_rfl) ?_
        refine p_len (L := (r11 : (List Int))) (by kernel_rfl) ?_
        refine e_end (by kernel_rfl) ?_
        refine q_next ?_
        rcases o_cond h16 with ⟨hb, h16⟩ | ⟨hb, h16⟩
        · refine r_cond_t hb (by kernel_rfl) ?_
          refine pwp_seq ?_
          refine r_reg ?_
          refine e_end (by kernel_rfl) ?_
          refine q_next ?_
          refine pwp_ret ?_
          refine q_block_ret ?_
          refine q_seq_ret ?_
          cases h16
          refine q_lout_ret fun he => ?_
          subst he
          have h19 := o_outr h
          refine q_block_ret ?_
          refine q_seq_ret ?_
          cases h19
          exact q_ret (by kernel_rfl) (by kernel_rfl) (by kernel_rfl)
        · refine r_cond_f hb (by kernel_rfl) ?_
          refine pwp_skip ?_
          refine q_block ?_
          refine q_next ?_
          refine r_reg ?_
          refine e_end (by kernel_rfl) ?_
          cases h16
          exact q_lback (by kernel_rfl)
      · refine r_cond_f hb (by kernel_rfl) ?_
        refine pwp_exit ?_
        refine q_seq_exit ?_
        cases h16
        exact q_lexit (by kernel_rfl) (by kernel_rfl)
    · rintro _ s' rfl hs
      have h := o_outl h
      refine q_block_hit ?_
      refine q_next (pwp_wkr hs ?_)
      refine pwp_seq ?_
      refine r_reg ?_
      refine e_end (by kernel_rfl) ?_
      refine q_next ?_
      refine pwp_seq ?_
      refine pwp_seq ?_
      refine r_reg ?_
      refine p_run 2 (by kernel_rfl) ?_
      refine p_len (L := (a0.Joints : (List T_api_Joint))) (by kernel_rfl) ?_
      refine e_end (by kernel_rfl) ?_
      refine q_next ?_
      refine pwp_block ?_
      refine g_nil 6 100006 2 16 (by kernel_rfl) (by kernel_rfl) ?_
      obtain ⟨o39, h39, h⟩ := o_inl h
      refine r_loop2 69 4 (fun (x23, x24) => ⟨[(1, .ref 1 0), (6, lstOf (.own 100006) (x24 : (List T_api_End))), (34, lstOf .frozen (a0.Joints : (List T_api_Joint))), (35, .int .i64 ((a0.Joints.length : Nat) : Int)), (36, .int .i64 x23)], [(1, .cells (cellsOf a0))], [(100006, (((x24).map cellsOf).length, 2))], []⟩) (fun x30 => ⟨[(6, lstOf (.own 100006) (x30 : (List T_api_End)))], [], [(100006, (((x30).map cellsOf).length, 2))], []⟩) h39 (by kernel_rfl) (fun _ => by kernel_rfl) ?_ ?_
      · rintro ⟨x23, x24⟩ oh38 h38
        unfold d_ref07_elements_2 at h38
        refine pwp_seq ?_
        refine r_reg ?_
        refine e_end (by kernel_rfl) ?_
        refine q_next ?_
        refine pwp_seq ?_
        rcases o_cond h38 with ⟨hb, h38⟩ | ⟨hb, h38⟩
        · refine r_cond_t hb (by kernel_rfl) ?_
          refine pwp_skip ?_
          refine q_next ?_
          refine pwp_seq ?_
          refine pwp_block ?_
          refine pwp_seq ?_
          refine r_reg ?_
          obtain ⟨x31, h40, h38⟩ := o_bind h38
          refine p_ix h40 (by kernel_rfl) ?_
          refine e_end (by kernel_rfl) ?_
          refine q_next ?_
          refine pwp_seq ?_
          refine pwp_seq ?_
          refine r_reg ?_
          refine p_run 3 (by kernel_rfl) ?_
          obtain ⟨r32, h41, h38⟩ := o_bind h38
          refine p_call (d_ref07_exists_ok _ _ r32 h41) (by kernel_rfl) (by kernel_rfl) ?_
          obtain ⟨b33, h42, h38⟩ := o_bind h38
          refine p_run 2 (by kernel_rfl) ?_
          refine e_seg 6 51 (.bool b33) ?_ ?_
          · rcases o_cond h42 with ⟨hb, h42⟩ | ⟨hb, h42⟩
            · refine p_settle 45 hb (by kernel_rfl) (by kernel_rfl) ?_
              cases h42
              exact f_end (by kernel_rfl) (by kernel_rfl)
            · refine p_settle 45 hb (by kernel_rfl) (by kernel_rfl) ?_
              refine p_run 3 (by kernel_rfl) ?_
              obtain ⟨r34, h43, h42⟩ := o_bind h42
              refine p_call (d_ref07_exists_ok _ _ r34 h43) (by kernel_rfl) (by kernel_rfl) ?_
              cases h42
              exact f_end (by kernel_rfl) (by kernel_rfl)
          · refine p_run 1 (by kernel_rfl) ?_
            refine e_segb 6 58 (b33 || (eq_T_api_End x31.A x31.B)) (fun x hx => ?_) ?_
            · rcases b_or hx with ⟨hb, hx⟩ | ⟨hb, hx⟩
              · refine p_settle 52 hb (by kernel_rfl) (by kernel_rfl) ?_
                subst hx
                exact f_end (by kernel_rfl) (by kernel_rfl)
              · refine p_settle 52 hb (by kernel_rfl) (by kernel_rfl) ?_
                subst hx
                exact f_end (by kernel_rfl) (by kernel_rfl)
            · refine e_nil (by kernel_rfl) ?_
              refine q_next ?_
              rcases o_cond h38 with ⟨hb, h38⟩ | ⟨hb, h38⟩
              · refine r_cond_t hb (by kernel_rfl) ?_
                refine pwp_seq ?_
                refine r_reg ?_
                refine e_end (by kernel_rfl) ?_
                refine q_next ?_
                refine pwp_ret ?_
                refine q_seq_ret ?_
                refine q_block_ret ?_
                refine q_seq_ret ?_
                cases h38
                refine q_lout_ret fun he => ?_
                subst he
                have h44 := o_outr h
                refine q_block_ret ?_
                refine q_seq_ret ?_
                cases h44
                exact q_ret (by kernel_rfl) (by kernel_rfl) (by kernel_rfl)
              · refine r_cond_f hb (by kernel_rfl) ?_
                refine pwp_skip ?_
                refine q_next ?_
                refine r_reg ?_
                refine p_run 6 (by kernel_rfl) ?_
                obtain ⟨x35, h45, h38⟩ := o_bind h38
                refine p_app (tk := 100006) h45 (by kernel_rfl) (by kernel_rfl) ?_
                refine e_end (by kernel_rfl) ?_
                refine q_block ?_
                refine q_next ?_
                refine r_reg ?_
                refine e_end (by kernel_rfl) ?_
                cases h38
                exact q_lback (by kernel_rfl)
        · refine r_cond_f hb (by kernel_rfl) ?_
          refine pwp_exit ?_
          refine q_seq_exit ?_
          cases h38
          exact q_lexit (by kernel_rfl) (by kernel_rfl)
      · rintro x30 s' rfl hs
        have h := o_outl h
        refine q_block_hit ?_
        refine q_next (pwp_wkr hs ?_)
        refine pwp_seq ?_
        refine pwp_seq ?_
        refine r_reg ?_
        refine p_run 1 (by kernel_rfl) ?_
        obtain ⟨r36, h46, h⟩ := o_bind h
        refine p_call (d_ref07_ends_ok _ r36 h46) (by kernel_rfl) (by kernel_rfl) ?_
        refine e_nil (by kernel_rfl) ?_
        refine q_next ?_
        rcases o_cond h with ⟨hb, h⟩ | ⟨hb, h⟩
        · refine r_cond_t hb (by kernel_rfl) ?_
          refine pwp_seq ?_
          refine r_reg ?_
          refine e_end (by kernel_rfl) ?_
          refine q_next ?_
          refine pwp_ret ?_
          refine q_seq_ret ?_
          cases h
          exact q_ret (by kernel_rfl) (by kernel_rfl) (by kernel_rfl)
        · refine r_cond_f hb (by kernel_rfl) ?_
          refine pwp_skip ?_
          refine q_next ?_
          refine pwp_seq ?_
          refine r_reg ?_
          refine e_end (by kernel_rfl) ?_
          refine q_next ?_
          refine pwp_ret ?_
          cases h
          exact q_ret (by kernel_rfl) (by kernel_rfl) (by kernel_rfl)

/-! signallingref07.Joined -/
noncomputable def d_ref07_Joined_0 (a0 : T_api_Layout) (a1 : T_api_End) : Int → Option (Int ⊕ (Unit ⊕ (T_api_End × Bool))) := fun x2 =>
  bif decide (x2 < ((a0.Joints.length : Nat) : Int)) then (
    (ixO a0.Joints x2).bind fun x4 =>
    bif eq_T_api_End x4.A a1 then (
      some (.inr (.inr (x4.B, true)))
    ) else (
      bif eq_T_api_End x4.B a1 then (
        some (.inr (.inr (x4.A, true)))
      ) else (
        some (.inl (w64 (x2 + 1)))
      )
    )
  ) else (
    some (.inr (.inl ()))
  )

noncomputable def d_ref07_Joined (a0 : T_api_Layout) (a1 : T_api_End) : Option (T_api_End × Bool) :=
  onInl (α := Unit) (β := (T_api_End × Bool)) (loopO (d_ref07_Joined_0 a0 a1) 0) fun _ =>
  some ((T_api_End.mk 0 0), false)
theorem d_ref07_Joined_ok (a0 : T_api_Layout) (a1 : T_api_End) (r : (T_api_End × Bool)) (h : d_ref07_Joined a0 a1 = some r) : PCall Go.Proofs.Tryd.prog GlS 26 [Enc.pv a0, Enc.pv a1] (.tup [Enc.pv r.1, Enc.pv r.2]) := by
  unfold d_ref07_Joined at h
  refine pcall_of_pwp Go.Proofs.Tryd.func26 (by rfl) rfl Go.Proofs.Tryd.ntmps26 (by rfl) rfl ?_
  refine pwp_seq ?_
  refine r_reg ?_
  refine e_end (by kernel_rfl) ?_
  refine q_next ?_
  refine pwp_seq ?_
  refine pwp_seq ?_
  refine r_reg ?_
  refine p_run 2 (by kernel_rfl) ?_
  refine p_len (L := (a0.Joints : (List T_api_Joint))) (by kernel_rfl) ?_
  refine e_end (by kernel_rfl) ?_
  refine q_next ?_
  refine pwp_block ?_
  obtain ⟨o8, h8, h⟩ := o_inl h
  refine r_loop2 29 0 (fun x2 => ⟨[(3, .ref 3 0), (4, .ref 4 0), (9, lstOf .frozen (a0.Joints : (List T_api_Joint))), (10, .int .i64 ((a0.Joints.length : Nat) : Int)), (11, .int .i64 x2)], [(3, .cells (cellsOf a1)), (4, .cells ([.int .i64 0, .int .i64 0]))], [], []⟩) (fun (_ : Unit) => ⟨[(4, .ref 4 0)], [(4, .cells ([.int .i64 0, .int .i64 0]))], [], []⟩) h8 (by kernel_rfl) (fun _ => by kernel_rfl) ?_ ?_
  · rintro x2 oh7 h7
    unfold d_ref07_Joined_0 at h7
    refine pwp_seq ?_
    refine r_reg ?_
    refine e_end (by kernel_rfl) ?_
    refine q_next ?_
    refine pwp_seq ?_
    rcases o_cond h7 with ⟨hb, h7⟩ | ⟨hb, h7⟩
    · refine r_cond_t hb (by kernel_rfl) ?_
      refine pwp_skip ?_
      refine q_next ?_
      refine pwp_seq ?_
      refine pwp_block ?_
      refine pwp_seq ?_
      refine r_reg ?_
      obtain ⟨x4, h9, h7⟩ := o_bind h7
      refine p_ix h9 (by kernel_rfl) ?_
      refine e_end (by kernel_rfl) ?_
      refine q_next ?_
      refine pwp_seq ?_
      refine pwp_seq ?_
      refine r_reg ?_
      refine e_end (by kernel_rfl) ?_
      refine q_next ?_
      rcases o_cond h7 with ⟨hb, h7⟩ | ⟨hb, h7⟩
      · refine r_cond_t hb (by kernel_rfl) ?_
        refine pwp_seq ?_
        refine r_reg ?_
        refine e_end (by kernel_rfl) ?_
        refine q_next ?_
        refine pwp_ret ?_
        refine q_seq_ret ?_
        refine q_block_ret ?_
        refine q_seq_ret ?_
        cases h7
        refine q_lout_ret fun he => ?_
        subst he
        have h10 := o_outr h
        refine q_block_ret ?_
        refine q_seq_ret ?_
        cases h10
        exact q_ret (by kernel_rfl) (by kernel_rfl) (by kernel_rfl)
      · refine r_cond_f hb (by kernel_rfl) ?_
        refine pwp_skip ?_
        refine q_next ?_
        refine pwp_seq ?_
        refine r_reg ?_
        refine e_end (by kernel_rfl) ?_
        refine q_next ?_
        rcases o_cond h7 with ⟨hb, h7⟩ | ⟨hb, h7⟩
        · refine r_cond_t hb (by kernel_rfl) ?_
          refine pwp_seq ?_
          refine r_reg ?_
          refine e_end (by kernel_rfl) ?_
          refine q_next ?_
          refine pwp_ret ?_
          refine q_block_ret ?_
          refine q_seq_ret ?_
          cases h7
          refine q_lout_ret fun he => ?_
          subst he
          have h11 := o_outr h
          refine q_block_ret ?_
          refine q_seq_ret ?_
          cases h11
          exact q_ret (by kernel_rfl) (by kernel_rfl) (by kernel_rfl)
        · refine r_cond_f hb (by kernel_rfl) ?_
          refine pwp_skip ?_
          refine q_block ?_
          refine q_next ?_
          refine r_reg ?_
          refine e_end (by kernel_rfl) ?_
          cases h7
          exact q_lback (by kernel_rfl)
    · refine r_cond_f hb (by kernel_rfl) ?_
      refine pwp_exit ?_
      refine q_seq_exit ?_
      cases h7
      exact q_lexit (by kernel_rfl) (by kernel_rfl)
  · rintro _ s' rfl hs
    have h := o_outl h
    refine q_block_hit ?_
    refine q_next (pwp_wkr hs ?_)
    refine pwp_seq ?_
    refine r_reg ?_
    refine e_end (by kernel_rfl) ?_
    refine q_next ?_
    refine pwp_ret ?_
    cases h
    exact q_ret (by kernel_rfl) (by kernel_rfl) (by kernel_rfl)

/-! signallingref07.signals -/
noncomputable def d_ref07_signals_0 (a0 : T_api_Layout) : (Int × (List T_api_End)) → Option ((Int × (List T_api_End)) ⊕ ((List T_api_End) ⊕ Int)) := fun (x8, x9) =>
  bif decide (x8 < ((a0.Signals.length : Nat) : Int)) then (
    (ixO a0.Signals x8).bind fun x14 =>
    (d_ref07_exists a0 x14.At).bind fun r15 =>
    bif (((!r15) || (decide (x14.Overlap < 0))) || (decide (1000000 < x14.Overlap))) then (
      some (.inr (.inr 1))
    ) else (
      (appO x9 [x14.At]).bind fun x16 =>
      some (.inl (w64 (x8 + 1), x16))
    )
  ) else (
    some (.inr (.inl x9))
  )

noncomputable def d_ref07_signals_1 (a0 : T_api_Layout) (x13 : (List T_api_End)) : Int → Option (Int ⊕ (Unit ⊕ Int)) := fun x23 =>
  bif decide (x23 < ((x13.length : Nat) : Int)) then (
    (ixO x13 x23).bind fun x29 =>
    (d_ref07_Joined a0 x29).bind fun r30 =>
    ((bif (!r30.2) then some true else (
      (ixO a0.Elements r30.1.El).bind fun x32 =>
      (ixO a0.Elements x29.El).bind fun x33 =>
      some (decide (x32.Section = x33.Section))
    )) : Option Bool).bind fun b31 =>
    bif b31 then (
      some (.inr (.inr 14))
    ) else (
      some (.inl (w64 (x23 + 1)))
    )
  ) else (
    some (.inr (.inl ()))
  )

noncomputable def d_ref07_signals (a0 : T_api_Layout) : Option Int :=
  onInl (α := (List T_api_End)) (β := Int) (loopO (d_ref07_signals_0 a0) (0, ([] : (List T_api_End)))) fun x13 =>
  (d_ref07_ends x13).bind fun r17 =>
  bif r17 then (
    some 8
  ) else (
    onInl (α := Unit) (β := Int) (loopO (d_ref07_signals_1 a0 x13) 0) fun _ =>
    some 0
  )
theorem d_ref07_signals_ok (a0 : T_api_Layout) (r : Int) (h : d_ref07_signals a0 = some r) : PCall Go.Proofs.Tryd.prog GlS 52 [Enc.pv a0] (Enc.pv r) := by
  unfold d_ref07_signals at h
  refine pcall_of_pwp Go.Proofs.Tryd.func52 (by rfl) rfl Go.Proofs.Tryd.ntmps52 (by rfl) rfl ?_
  refine pwp_seq ?_
  refine r_reg ?_
  refine e_end (by kernel_rfl) ?_
  refine q_next ?_
  refine pwp_seq ?_
  refine r_reg ?_
  refine e_end (by kernel_rfl) ?_
  refine q_next ?_
  refine pwp_seq ?_
  refine pwp_seq ?_
  refine r_reg ?_
  refine p_run 2 (by kernel_rfl) ?_
  refine p_len (L := (a0.Signals : (List T_api_Signal))) (by kernel_rfl) ?_
  refine e_end (by kernel_rfl) ?_
  refine q_next ?_
  refine pwp_block ?_
  refine g_nil 3 100003 2 16 (by kernel_rfl) (by kernel_rfl) ?_
  obtain ⟨o14, h14, h⟩ := o_inl h
  refine r_loop2 72 0 (fun (x8, x9) => ⟨[(1, .ref 1 0), (3, lstOf (.own 100003) (x9 : (List T_api_End))), (11, lstOf .frozen (a0.Signals : (List T_api_Signal))), (12, .int .i64 ((a0.Signals.length : Nat) : Int)), (13, .int .i64 x8)], [(1, .cells (cellsOf a0))], [(100003, (((x9).map cellsOf).length, 2))], []⟩) (fun x13 => ⟨[(1, .ref 1 0), (3, lstOf (.own 100003) (x13 : (List T_api_End)))], [(1, .cells (cellsOf a0))], [(100003, (((x13).map cellsOf).length, 2))], []⟩) h14 (by kernel_rfl) (fun _ => by kernel_rfl) ?_ ?_
  · rintro ⟨x8, x9⟩ oh13 h13
    unfold d_ref07_signals_0 at h13
    refine pwp_seq ?_
    refine r_reg ?_
    refine e_end (by kernel_rfl) ?_
    refine q_next ?_
    refine pwp_seq ?_
    rcases o_cond h13 with ⟨hb, h13⟩ | ⟨hb, h13⟩
    · refine r_cond_t hb (by kernel_rfl) ?_
      refine pwp_skip ?_
      refine q_next ?_
      refine pwp_seq ?_
      refine pwp_block ?_
      refine pwp_seq ?_
      refine r_reg ?_
      obtain ⟨x14, h15, h13⟩ := o_bind h13
      refine p_ix h15 (by kernel_rfl) ?_
      refine e_end (by kernel_rfl) ?_
      refine q_next ?_
      refine pwp_seq ?_
      refine pwp_seq ?_
      refine r_reg ?_
      refine p_run 3 (by kernel_rfl) ?_
      obtain ⟨r15, h16, h13⟩ := o_bind h13
      refine p_call (d_ref07_exists_ok _ _ r15 h16) (by kernel_rfl) (by kernel_rfl) ?_
      refine p_run 2 (by kernel_rfl) ?_
      refine e_segb 4 26 ((!r15) || (decide (x14.Overlap < 0))) (fun x hx => ?_) ?_
      · rcases b_or hx with ⟨hb, hx⟩ | ⟨hb, hx⟩
        · refine p_settle 22 hb (by kernel_rfl) (by kernel_rfl) ?_
          subst hx
          exact f_end (by kernel_rfl) (by kernel_rfl)
        · refine p_settle 22 hb (by kernel_rfl) (by kernel_rfl) ?_
          subst hx
          exact f_end (by kernel_rfl) (by kernel_rfl)
      · refine p_run 1 (by kernel_rfl) ?_
        refine e_segb 4 31 (((!r15) || (decide (x14.Overlap < 0))) || (decide (1000000 < x14.Overlap))) (fun x hx => ?_) ?_
        · rcases b_or hx with ⟨hb, hx⟩ | ⟨hb, hx⟩
          · refine p_settle 27 hb (by kernel_rfl) (by kernel_rfl) ?_
            subst hx
            exact f_end (by kernel_rfl) (by kernel_rfl)
          · refine p_settle 27 hb (by kernel_rfl) (by kernel_rfl) ?_
            subst hx
            exact f_end (by kernel_rfl) (by kernel_rfl)
        · refine e_nil (by kernel_rfl) ?_
          refine q_next ?_
          rcases o_cond h13 with ⟨hb, h13⟩ | ⟨hb, h13⟩
          · refine r_cond_t hb (by kernel_rfl) ?_
            refine pwp_seq ?_
            refine r_reg ?_
            refine e_end (by kernel_rfl) ?_
            refine q_next ?_
            refine pwp_ret ?_
            refine q_seq_ret ?_
            refine q_block_ret ?_
            refine q_seq_ret ?_
            cases h13
            refine q_lout_ret fun he => ?_
            subst he
            have h17 := o_outr h
            refine q_block_ret ?_
            refine q_seq_ret ?_
            cases h17
            exact q_ret (by kernel_rfl) (by kernel_rfl) (by kernel_rfl)
          · refine r_cond_f hb (by kernel_rfl) ?_
            refine pwp_skip ?_
            refine q_next ?_
            refine r_reg ?_
            refine p_run 4 (by kernel_rfl) ?_
            obtain ⟨x16, h18, h13⟩ := o_bind h13
            refine p_app (tk := 100003) h18 (by kernel_rfl) (by kernel_rfl) ?_
            refine e_end (by kernel_rfl) ?_
            refine q_block ?_
            refine q_next ?_
            refine r_reg ?_
            refine e_end (by kernel_rfl) ?_
            cases h13
            exact q_lback (by kernel_rfl)
    · refine r_cond_f hb (by kernel_rfl) ?_
      refine pwp_exit ?_
      refine q_seq_exit ?_
      cases h13
      exact q_lexit (by kernel_rfl) (by kernel_rfl)
  · rintro x13 s' rfl hs
    have h := o_outl h
    refine q_block_hit ?_
    refine q_next (pwp_wkr hs ?_)
    refine pwp_seq ?_
    refine pwp_seq ?_
    refine r_reg ?_
    refine p_run 1 (by kernel_rfl) ?_
    obtain ⟨r17, h19, h⟩ := o_bind h
    refine p_call (d_ref07_ends_ok _ r17 h19) (by kernel_rfl) (by kernel_rfl) ?_
    refine e_nil (by kernel_rfl) ?_
    refine q_next ?_
    rcases o_cond h with ⟨hb, h⟩ | ⟨hb, h⟩
    · refine r_cond_t hb (by kernel_rfl) ?_
      refine pwp_seq ?_
      refine r_reg ?_
      refine e_end (by kernel_rfl) ?_
      refine q_next ?_
      refine pwp_ret ?_
      refine q_seq_ret ?_
      cases h
      exact q_ret (by kernel_rfl) (by kernel_rfl) (by kernel_rfl)
    · refine r_cond_f hb (by kernel_rfl) ?_
      refine pwp_skip ?_
      refine q_next ?_
      refine pwp_seq ?_
      refine pwp_seq ?_
      refine r_reg ?_
      refine p_run 1 (by kernel_rfl) ?_
      refine p_len (L := (x13 : (List T_api_End))) (by kernel_rfl) ?_
      refine e_end (by kernel_rfl) ?_
      refine q_next ?_
      refine pwp_block ?_
      obtain ⟨o33, h33, h⟩ := o_inl h
      refine r_loop2 72 2 (fun x23 => ⟨[(1, .ref 1 0), (40, lstOf (.own 100003) (x13 : (List T_api_End))), (41, .int .i64 ((x13.length : Nat) : Int)), (42, .int .i64 x23)], [(1, .cells (cellsOf a0))], [(100003, (((x13).map cellsOf).length, 2))], []⟩) (fun (_ : Unit) => ⟨[], [], [], []⟩) h33 (by kernel_rfl) (fun _ => by kernel_rfl) ?_ ?_
      · rintro x23 oh32 h32
        unfold d_ref07_signals_1 at h32
        refine pwp_seq ?_
        refine r_reg ?_
        refine e_end (by kernel_rfl) ?_
        refine q_next ?_
        refine pwp_seq ?_
        rcases o_cond h32 with ⟨hb, h32⟩ | ⟨hb, h32⟩
        · refine r_cond_t hb (by kernel_rfl) ?_
          refine pwp_skip ?_
          refine q_next ?_
          refine pwp_seq ?_
          refine pwp_block ?_
          refine pwp_seq ?_
          refine r_reg ?_
          obtain ⟨x29, h34, h32⟩ := o_bind h32
          refine p_ix h34 (by kernel_rfl) ?_
          refine e_end (by kernel_rfl) ?_
          refine q_next ?_
          refine pwp_seq ?_
          refine r_reg ?_
          refine p_run 2 (by kernel_rfl) ?_
          obtain ⟨r30, h35, h32⟩ := o_bind h32
          refine p_call (d_ref07_Joined_ok _ _ r30 h35) (by kernel_rfl) (by kernel_rfl) ?_
          refine e_end (by kernel_rfl) ?_
          refine q_next ?_
          refine pwp_seq ?_
          refine r_regd (by kernel_rfl) (by kernel_rfl) ?_
          obtain ⟨b31, h36, h32⟩ := o_bind h32
          refine p_run 3 (by kernel_rfl) ?_
          refine e_seg 16 70 (.bool b31) ?_ ?_
          · rcases o_cond h36 with ⟨hb, h36⟩ | ⟨hb, h36⟩
            · refine p_settle 54 hb (by kernel_rfl) (by kernel_rfl) ?_
              cases h36
              exact f_end (by kernel_rfl) (by kernel_rfl)
            · refine p_settle 54 hb (by kernel_rfl) (by kernel_rfl) ?_
              refine p_run 4 (by kernel_rfl) ?_
              obtain ⟨x32, h37, h36⟩ := o_bind h36
              refine p_ix h37 (by kernel_rfl) ?_
              refine p_run 6 (by kernel_rfl) ?_
              obtain ⟨x33, h38, h36⟩ := o_bind h36
              refine p_ix h38 (by kernel_rfl) ?_
              cases h36
              exact f_end (by kernel_rfl) (by kernel_rfl)
          · refine e_nil (by kernel_rfl) ?_
            refine q_next ?_
            rcases o_cond h32 with ⟨hb, h32⟩ | ⟨hb, h32⟩
            · refine r_cond_t hb (by kernel_rfl) ?_
              refine pwp_seq ?_
              refine r_reg ?_
              refine e_end (by kernel_rfl) ?_
              refine q_next ?_
              refine pwp_ret ?_
              refine q_block_ret ?_
              refine q_seq_ret ?_
              cases h32
              refine q_lout_ret fun he => ?_
              subst he
              have h39 := o_outr h
              refine q_block_ret ?_
              refine q_seq_ret ?_
              cases h39
              exact q_ret (by kernel_rfl) (by kernel_rfl) (by kernel_rfl)
            · refine r_cond_f hb (by kernel_rfl) ?_
              refine pwp_skip ?_
              refine q_block ?_
              refine q_next ?_
              refine r_reg ?_
              refine e_end (by kernel_rfl) ?_
              cases h32
              exact q_lback (by kernel_rfl)
        · refine r_cond_f hb (by kernel_rfl) ?_
          refine pwp_exit ?_
          refine q_seq_exit ?_
          cases h32
          exact q_lexit (by kernel_rfl) (by kernel_rfl)
      · rintro _ s' rfl hs
        have h := o_outl h
        refine q_block_hit ?_
        refine q_next (pwp_wkr hs ?_)
        refine pwp_seq ?_
        refine r_reg ?_
        refine e_end (by kernel_rfl) ?_
        refine q_next ?_
        refine pwp_ret ?_
        cases h
        exact q_ret (by kernel_rfl) (by kernel_rfl) (by kernel_rfl)

/-! signallingref07.numbers -/
noncomputable def d_ref07_numbers_1 (a0 : (List Int)) (x8 : Int) : Int → Option (Int ⊕ (Unit ⊕ (Int ⊕ (Unit ⊕ Bool)))) := fun x18 =>
  bif decide (x18 < x8) then (
    (ixO a0 x8).bind fun x21 =>
    (ixO a0 x18).bind fun x22 =>
    bif decide (x21 = x22) then (
      some (.inr (.inr (.inr (.inr true))))
    ) else (
      some (.inl (w64 (x18 + 1)))
    )
  ) else (
    some (.inr (.inl ()))
  )

noncomputable def d_ref07_numbers_0 (a0 : (List Int)) : Int → Option (Int ⊕ (Unit ⊕ Bool)) := fun x8 =>
  bif decide (x8 < ((a0.length : Nat) : Int)) then (
    onInl (α := Unit) (β := (Int ⊕ (Unit ⊕ Bool))) (loopO (d_ref07_numbers_1 a0 x8) 0) fun _ =>
    some (.inl (w64 (x8 + 1)))
  ) else (
    some (.inr (.inl ()))
  )

noncomputable def d_ref07_numbers (a0 : (List Int)) : Option Bool :=
  onInl (α := Unit) (β := Bool) (loopO (d_ref07_numbers_0 a0) 0) fun _ =>
  some false
theorem d_ref07_numbers_ok (a0 : (List Int)) (r : Bool) (h : d_ref07_numbers a0 = some r) : PCall Go.Proofs.Tryd.prog GlS 79 [Enc.pv a0] (Enc.pv r) := by
  unfold d_ref07_numbers at h
  refine pcall_of_pwp Go.Proofs.Tryd.func79 (by rfl) rfl Go.Proofs.Tryd.ntmps79 (by rfl) rfl ?_
  refine pwp_seq ?_
  refine r_reg ?_
  refine e_end (by kernel_rfl) ?_
  refine q_next ?_
  refine pwp_seq ?_
  refine pwp_seq ?_
  refine r_reg ?_
  refine p_run 1 (by kernel_rfl) ?_
  refine p_len (L := (a0 : (List Int))) (by kernel_rfl) ?_
  refine e_end (by kernel_rfl) ?_
  refine q_next ?_
  refine pwp_block ?_
  obtain ⟨o30, h30, h⟩ := o_inl h
  refine r_loop2 25 0 (fun x8 => ⟨[(0, lstOf .frozen (a0 : (List Int))), (6, .int .i64 ((a0.length : Nat) : Int)), (7, .int .i64 x8)], [], [], []⟩) (fun (_ : Unit) => ⟨[], [], [], []⟩) h30 (by kernel_rfl) (fun _ => by kernel_rfl) ?_ ?_
  · rintro x8 oh29 h29
    unfold d_ref07_numbers_0 at h29
    refine pwp_seq ?_
    refine r_reg ?_
    refine e_end (by kernel_rfl) ?_
    refine q_next ?_
    refine pwp_seq ?_
    rcases o_cond h29 with ⟨hb, h29⟩ | ⟨hb, h29⟩
    · refine r_cond_t hb (by kernel_rfl) ?_
      refine pwp_skip ?_
      refine q_next ?_
      refine pwp_seq ?_
      refine pwp_block ?_
      refine pwp_seq ?_
      refine r_reg ?_
      refine e_end (by kernel_rfl) ?_
      refine q_next ?_
      refine pwp_seq ?_
      refine r_reg ?_
      refine e_end (by kernel_rfl) ?_
      refine q_next ?_
      refine pwp_block ?_
      obtain ⟨o40, h40, h29⟩ := o_inl h29
      refine r_loop2 25 2 (fun x18 => ⟨[(0, lstOf .frozen (a0 : (List Int))), (3, .int .i64 x8), (6, .int .i64 ((a0.length : Nat) : Int)), (7, .int .i64 x8), (10, .int .i64 x8), (11, .int .i64 x18)], [], [], []⟩) (fun (_ : Unit) => ⟨[(0, lstOf .frozen (a0 : (List Int))), (6, .int .i64 ((a0.length : Nat) : Int)), (7, .int .i64 x8)], [], [], []⟩) h40 (by kernel_rfl) (fun _ => by kernel_rfl) ?_ ?_
      · rintro x18 oh39 h39
        unfold d_ref07_numbers_1 at h39
        refine pwp_seq ?_
        refine r_reg ?_
        refine e_end (by kernel_rfl) ?_
        refine q_next ?_
        refine pwp_seq ?_
        rcases o_cond h39 with ⟨hb, h39⟩ | ⟨hb, h39⟩
        · refine r_cond_t hb (by kernel_rfl) ?_
          refine pwp_skip ?_
          refine q_next ?_
          refine pwp_seq ?_
          refine pwp_block ?_
          refine pwp_seq ?_
          refine r_reg ?_
          refine e_end (by kernel_rfl) ?_
          refine q_next ?_
          refine pwp_seq ?_
          refine r_regd (by kernel_rfl) (by kernel_rfl) ?_
          refine p_run 2 (by kernel_rfl) ?_
          obtain ⟨x21, h41, h39⟩ := o_bind h39
          refine p_ix h41 (by kernel_rfl) ?_
          refine p_run 3 (by kernel_rfl) ?_
          obtain ⟨x22, h42, h39⟩ := o_bind h39
          refine p_ix h42 (by kernel_rfl) ?_
          refine e_end (by kernel_rfl) ?_
          refine q_next ?_
          rcases o_cond h39 with ⟨hb, h39⟩ | ⟨hb, h39⟩
          · refine r_cond_t hb (by kernel_rfl) ?_
            refine pwp_seq ?_
            refine r_reg ?_
            refine e_end (by kernel_rfl) ?_
            refine q_next ?_
            refine pwp_ret ?_
            refine q_block_ret ?_
            refine q_seq_ret ?_
            cases h39
            refine q_lout_ret fun he => ?_
            subst he
            have h43 := o_outr h29
            refine q_block_ret ?_
            refine q_block_ret ?_
            refine q_seq_ret ?_
            cases h43
            refine q_lout_ret fun he => ?_
            subst he
            have h44 := o_outr h
            refine q_block_ret ?_
            refine q_seq_ret ?_
            cases h44
            exact q_ret (by kernel_rfl) (by kernel_rfl) (by kernel_rfl)
          · refine r_cond_f hb (by kernel_rfl) ?_
            refine pwp_skip ?_
            refine q_block ?_
            refine q_next ?_
            refine r_reg ?_
            refine e_end (by kernel_rfl) ?_
            cases h39
            exact q_lback (by kernel_rfl)
        · refine r_cond_f hb (by kernel_rfl) ?_
          refine pwp_exit ?_
          refine q_seq_exit ?_
          cases h39
          exact q_lexit (by kernel_rfl) (by kernel_rfl)
      · rintro _ s' rfl hs
        have h29 := o_outl h29
        refine q_block_hit ?_
        refine q_block ?_
        refine q_next (pwp_wkr hs ?_)
        refine r_reg ?_
        refine e_end (by kernel_rfl) ?_
        cases h29
        exact q_lback (by kernel_rfl)
    · refine r_cond_f hb (by kernel_rfl) ?_
      refine pwp_exit ?_
      refine q_seq_exit ?_
      cases h29
      exact q_lexit (by kernel_rfl) (by kernel_rfl)
  · rintro _ s' rfl hs
    have h := o_outl h
    refine q_block_hit ?_
    refine q_next (pwp_wkr hs ?_)
    refine pwp_seq ?_
    refine r_reg ?_
    refine e_end (by kernel_rfl) ?_
    refine q_next ?_
    refine pwp_ret ?_
    cases h
    exact q_ret (by kernel_rfl) (by kernel_rfl) (by kernel_rfl)

/-! signallingref07.balises -/
noncomputable def d_ref07_balises_0 (a0 : T_api_Layout) : (Int × (List Int)) → Option ((Int × (List Int)) ⊕ ((List Int) ⊕ Int)) := fun (x12, x13) =>
  bif decide (x12 < ((a0.Balises.length : Nat) : Int)) then (
    (ixO a0.Balises x12).bind fun x20 =>
    ((bif (((decide (x20.Id < 1)) || (decide (1073741824 < x20.Id))) || (decide (x20.El < 0))) then some true else (
      some (decide (((a0.Elements.length : Nat) : Int) ≤ x20.El))
    )) : Option Bool).bind fun b21 =>
    ((bif (b21 || (decide (x20.Offset < 0))) then some true else (
      (ixO a0.Elements x20.El).bind fun x23 =>
      some (decide (x23.Length < x20.Offset))
    )) : Option Bool).bind fun b22 =>
    bif b22 then (
      some (.inr (.inr 1))
    ) else (
      (appO x13 [x20.Id]).bind fun x24 =>
      some (.inl (w64 (x12 + 1), x24))
    )
  ) else (
    some (.inr (.inl x13))
  )

noncomputable def d_ref07_balises (a0 : T_api_Layout) : Option Int :=
  onInl (α := (List Int)) (β := Int) (loopO (d_ref07_balises_0 a0) (0, ([] : (List Int)))) fun x19 =>
  (d_ref07_numbers x19).bind fun r25 =>
  bif r25 then (
    some 8
  ) else (
    some 0
  )
theorem d_ref07_balises_ok (a0 : T_api_Layout) (r : Int) (h : d_ref07_balises a0 = some r) : PCall Go.Proofs.Tryd.prog GlS 53 [Enc.pv a0] (Enc.pv r) := by
  unfold d_ref07_balises at h
  refine pcall_of_pwp Go.Proofs.Tryd.func53 (by rfl) rfl Go.Proofs.Tryd.ntmps53 (by rfl) rfl ?_
  refine pwp_seq ?_
  refine r_reg ?_
  refine e_end (by kernel_rfl) ?_
  refine q_next ?_
  refine pwp_seq ?_
  refine r_reg ?_
  refine e_end (by kernel_rfl) ?_
  refine q_next ?_
  refine pwp_seq ?_
  refine pwp_seq ?_
  refine r_reg ?_
  refine p_run 2 (by kernel_rfl) ?_
  refine p_len (L := (a0.Balises : (List T_api_Balise))) (by kernel_rfl) ?_
  refine e_end (by kernel_rfl) ?_
  refine q_next ?_
  refine pwp_block ?_
  refine g_nil 3 100003 1 8 (by kernel_rfl) (by kernel_rfl) ?_
  obtain ⟨o20, h20, h⟩ := o_inl h
  refine r_loop2 59 0 (fun (x12, x13) => ⟨[(1, .ref 1 0), (3, lstOf (.own 100003) (x13 : (List Int))), (7, lstOf .frozen (a0.Balises : (List T_api_Balise))), (8, .int .i64 ((a0.Balises.length : Nat) : Int)), (9, .int .i64 x12)], [(1, .cells (cellsOf a0))], [(100003, (((x13).map cellsOf).length, 1))], []⟩) (fun x19 => ⟨[(3, lstOf (.own 100003) (x19 : (List Int)))], [], [(100003, (((x19).map cellsOf).length, 1))], []⟩) h20 (by kernel_rfl) (fun _ => by kernel_rfl) ?_ ?_
  · rintro ⟨x12, x13⟩ oh19 h19
    unfold d_ref07_balises_0 at h19
    refine pwp_seq ?_
    refine r_reg ?_
    refine e_end (by kernel_rfl) ?_
    refine q_next ?_
    refine pwp_seq ?_
    rcases o_cond h19 with ⟨hb, h19⟩ | ⟨hb, h19⟩
    · refine r_cond_t hb (by kernel_rfl) ?_
      refine pwp_skip ?_
      refine q_next ?_
      refine pwp_seq ?_
      refine pwp_block ?_
      refine pwp_seq ?_
      refine r_reg ?_
      obtain ⟨x20, h21, h19⟩ := o_bind h19
      refine p_ix h21 (by kernel_rfl) ?_
      refine e_end (by kernel_rfl) ?_
      refine q_next ?_
      refine pwp_seq ?_
      refine pwp_seq ?_
      refine r_regd (by kernel_rfl) (by kernel_rfl) ?_
      refine p_run 4 (by kernel_rfl) ?_
      refine e_segb 4 20 ((decide (x20.Id < 1)) || (decide (1073741824 < x20.Id))) (fun x hx => ?_) ?_
      · rcases b_or hx with ⟨hb, hx⟩ | ⟨hb, hx⟩
        · refine p_settle 16 hb (by kernel_rfl) (by kernel_rfl) ?_
          subst hx
          exact f_end (by kernel_rfl) (by kernel_rfl)
        · refine p_settle 16 hb (by kernel_rfl) (by kernel_rfl) ?_
          subst hx
          exact f_end (by kernel_rfl) (by kernel_rfl)
      · refine p_run 1 (by kernel_rfl) ?_
        refine e_segb 4 25 (((decide (x20.Id < 1)) || (decide (1073741824 < x20.Id))) || (decide (x20.El < 0))) (fun x hx => ?_) ?_
        · rcases b_or hx with ⟨hb, hx⟩ | ⟨hb, hx⟩
          · refine p_settle 21 hb (by kernel_rfl) (by kernel_rfl) ?_
            subst hx
            exact f_end (by kernel_rfl) (by kernel_rfl)
          · refine p_settle 21 hb (by kernel_rfl) (by kernel_rfl) ?_
            subst hx
            exact f_end (by kernel_rfl) (by kernel_rfl)
        · obtain ⟨b21, h22, h19⟩ := o_bind h19
          refine p_run 1 (by kernel_rfl) ?_
          refine e_seg 7 33 (.bool b21) ?_ ?_
          · rcases o_cond h22 with ⟨hb, h22⟩ | ⟨hb, h22⟩
            · refine p_settle 26 hb (by kernel_rfl) (by kernel_rfl) ?_
              cases h22
              exact f_end (by kernel_rfl) (by kernel_rfl)
            · refine p_settle 26 hb (by kernel_rfl) (by kernel_rfl) ?_
              refine p_run 4 (by kernel_rfl) ?_
              refine p_len (L := (a0.Elements : (List T_api_Element))) (by kernel_rfl) ?_
              cases h22
              exact f_end (by kernel_rfl) (by kernel_rfl)
          · refine p_run 1 (by kernel_rfl) ?_
            refine e_segb 4 38 (b21 || (decide (x20.Offset < 0))) (fun x hx => ?_) ?_
            · rcases b_or hx with ⟨hb, hx⟩ | ⟨hb, hx⟩
              · refine p_settle 34 hb (by kernel_rfl) (by kernel_rfl) ?_
                subst hx
                exact f_end (by kernel_rfl) (by kernel_rfl)
              · refine p_settle 34 hb (by kernel_rfl) (by kernel_rfl) ?_
                subst hx
                exact f_end (by kernel_rfl) (by kernel_rfl)
            · obtain ⟨b22, h23, h19⟩ := o_bind h19
              refine p_run 1 (by kernel_rfl) ?_
              refine e_seg 11 50 (.bool b22) ?_ ?_
              · rcases o_cond h23 with ⟨hb, h23⟩ | ⟨hb, h23⟩
                · refine p_settle 39 hb (by kernel_rfl) (by kernel_rfl) ?_
                  cases h23
                  exact f_end (by kernel_rfl) (by kernel_rfl)
                · refine p_settle 39 hb (by kernel_rfl) (by kernel_rfl) ?_
                  refine p_run 6 (by kernel_rfl) ?_
                  obtain ⟨x23, h24, h23⟩ := o_bind h23
                  refine p_ix h24 (by kernel_rfl) ?_
                  cases h23
                  exact f_end (by kernel_rfl) (by kernel_rfl)
              · refine e_nil (by kernel_rfl) ?_
                refine q_next ?_
                rcases o_cond h19 with ⟨hb, h19⟩ | ⟨hb, h19⟩
                · refine r_cond_t hb (by kernel_rfl) ?_
                  refine pwp_seq ?_
                  refine r_reg ?_
                  refine e_end (by kernel_rfl) ?_
                  refine q_next ?_
                  refine pwp_ret ?_
                  refine q_seq_ret ?_
                  refine q_block_ret ?_
                  refine q_seq_ret ?_
                  cases h19
                  refine q_lout_ret fun he => ?_
                  subst he
                  have h25 := o_outr h
                  refine q_block_ret ?_
                  refine q_seq_ret ?_
                  cases h25
                  exact q_ret (by kernel_rfl) (by kernel_rfl) (by kernel_rfl)
                · refine r_cond_f hb (by kernel_rfl) ?_
                  refine pwp_skip ?_
                  refine q_next ?_
                  refine r_reg ?_
                  refine p_run 4 (by kernel_rfl) ?_
                  obtain ⟨x24, h26, h19⟩ := o_bind h19
                  refine p_app (tk := 100003) h26 (by kernel_rfl) (by kernel_rfl) ?_
                  refine e_end (by kernel_rfl) ?_
                  refine q_block ?_
                  refine q_next ?_
                  refine r_reg ?_
                  refine e_end (by kernel_rfl) ?_
                  cases h19
                  exact q_lback (by kernel_rfl)
    · refine r_cond_f hb (by kernel_rfl) ?_
      refine pwp_exit ?_
      refine q_seq_exit ?_
      cases h19
      exact q_lexit (by kernel_rfl) (by kernel_rfl)
  · rintro x19 s' rfl hs
    have h := o_outl h
    refine q_block_hit ?_
    refine q_next (pwp_wkr hs ?_)
    refine pwp_seq ?_
    refine pwp_seq ?_
    refine r_reg ?_
    refine p_run 1 (by kernel_rfl) ?_
    obtain ⟨r25, h27, h⟩ := o_bind h
    refine p_call (d_ref07_numbers_ok _ r25 h27) (by kernel_rfl) (by kernel_rfl) ?_
    refine e_nil (by kernel_rfl) ?_
    refine q_next ?_
    rcases o_cond h with ⟨hb, h⟩ | ⟨hb, h⟩
    · refine r_cond_t hb (by kernel_rfl) ?_
      refine pwp_seq ?_
      refine r_reg ?_
      refine e_end (by kernel_rfl) ?_
      refine q_next ?_
      refine pwp_ret ?_
      refine q_seq_ret ?_
      cases h
      exact q_ret (by kernel_rfl) (by kernel_rfl) (by kernel_rfl)
    · refine r_cond_f hb (by kernel_rfl) ?_
      refine pwp_skip ?_
      refine q_next ?_
      refine pwp_seq ?_
      refine r_reg ?_
      refine e_end (by kernel_rfl) ?_
      refine q_next ?_
      refine pwp_ret ?_
      cases h
      exact q_ret (by kernel_rfl) (by kernel_rfl) (by kernel_rfl)

/-! signallingref07.Check -/
noncomputable def d_ref07_Check (a0 : T_api_Layout) : Option Int :=
  (d_ref07_named a0).bind fun r1 =>
  bif (!(decide (r1 = 0))) then (
    some r1
  ) else (
    (d_ref07_elements a0).bind fun r2 =>
    bif (!(decide (r2 = 0))) then (
      some r2
    ) else (
      (d_ref07_signals a0).bind fun r3 =>
      bif (!(decide (r3 = 0))) then (
        some r3
      ) else (
        (d_ref07_balises a0).bind fun r4 =>
        some r4
      )
    )
  )
theorem d_ref07_Check_ok (a0 : T_api_Layout) (r : Int) (h : d_ref07_Check a0 = some r) : PCall Go.Proofs.Tryd.prog GlS 20 [Enc.pv a0] (Enc.pv r) := by
  unfold d_ref07_Check at h
  refine pcall_of_pwp Go.Proofs.Tryd.func20 (by rfl) rfl Go.Proofs.Tryd.ntmps20 (by rfl) rfl ?_
  refine pwp_seq ?_
  refine r_reg ?_
  refine e_end (by kernel_rfl) ?_
  refine q_next ?_
  refine pwp_seq ?_
  refine pwp_seq ?_
  refine r_reg ?_
  refine p_run 1 (by kernel_rfl) ?_
  obtain ⟨r1, h1, h⟩ := o_bind h
  refine p_call (d_ref07_named_ok _ r1 h1) (by kernel_rfl) (by kernel_rfl) ?_
  refine e_end (by kernel_rfl) ?_
  refine q_next ?_
  refine pwp_seq ?_
  refine r_reg ?_
  refine e_end (by kernel_rfl) ?_
  refine q_next ?_
  rcases o_cond h with ⟨hb, h⟩ | ⟨hb, h⟩
  · refine r_cond_t hb (by kernel_rfl) ?_
    refine pwp_seq ?_
    refine r_reg ?_
    refine e_end (by kernel_rfl) ?_
    refine q_next ?_
    refine pwp_ret ?_
    refine q_seq_ret ?_
    cases h
    exact q_ret (by kernel_rfl) (by kernel_rfl) (by kernel_rfl)
  · refine r_cond_f hb (by kernel_rfl) ?_
    refine pwp_skip ?_
    refine q_next ?_
    refine pwp_seq ?_
    refine pwp_seq ?_
    refine r_reg ?_
    refine p_run 1 (by kernel_rfl) ?_
    obtain ⟨r2, h2, h⟩ := o_bind h
    refine p_call (d_ref07_elements_ok _ r2 h2) (by kernel_rfl) (by kernel_rfl) ?_
    refine e_end (by kernel_rfl) ?_
    refine q_next ?_
    refine pwp_seq ?_
    refine r_reg ?_
    refine e_end (by kernel_rfl) ?_
    refine q_next ?_
    rcases o_cond h with ⟨hb, h⟩ | ⟨hb, h⟩
    · refine r_cond_t hb (by kernel_rfl) ?_
      refine pwp_seq ?_
      refine r_reg ?_
      refine e_end (by kernel_rfl) ?_
      refine q_next ?_
      refine pwp_ret ?_
      refine q_seq_ret ?_
      cases h
      exact q_ret (by kernel_rfl) (by kernel_rfl) (by kernel_rfl)
    · refine r_cond_f hb (by kernel_rfl) ?_
      refine pwp_skip ?_
      refine q_next ?_
      refine pwp_seq ?_
      refine pwp_seq ?_
      refine r_reg ?_
      refine p_run 1 (by kernel_rfl) ?_
      obtain ⟨r3, h3, h⟩ := o_bind h
      refine p_call (d_ref07_signals_ok _ r3 h3) (by kernel_rfl) (by kernel_rfl) ?_
      refine e_end (by kernel_rfl) ?_
      refine q_next ?_
      refine pwp_seq ?_
      refine r_reg ?_
      refine e_end (by kernel_rfl) ?_
      refine q_next ?_
      rcases o_cond h with ⟨hb, h⟩ | ⟨hb, h⟩
      · refine r_cond_t hb (by kernel_rfl) ?_
        refine pwp_seq ?_
        refine r_reg ?_
        refine e_end (by kernel_rfl) ?_
        refine q_next ?_
        refine pwp_ret ?_
        refine q_seq_ret ?_
        cases h
        exact q_ret (by kernel_rfl) (by kernel_rfl) (by kernel_rfl)
      · refine r_cond_f hb (by kernel_rfl) ?_
        refine pwp_skip ?_
        refine q_next ?_
        refine pwp_seq ?_
        refine r_reg ?_
        refine p_run 1 (by kernel_rfl) ?_
        obtain ⟨r4, h4, h⟩ := o_bind h
        refine p_call (d_ref07_balises_ok _ r4 h4) (by kernel_rfl) (by kernel_rfl) ?_
        refine e_end (by kernel_rfl) ?_
        refine q_next ?_
        refine pwp_ret ?_
        cases h
        exact q_ret (by kernel_rfl) (by kernel_rfl) (by kernel_rfl)

/-! signallinglaw14.few -/
noncomputable def d_law14_few (a0 : T_api_Layout) (a1 : T_api_Route) : Option Bool :=
  ((bif decide (32 < ((a0.Elements.length : Nat) : Int)) then some true else (
    some (decide (100 < ((a0.Joints.length : Nat) : Int)))
  )) : Option Bool).bind fun b1 =>
  ((bif b1 then some true else (
    some (decide (60 < ((a0.Balises.length : Nat) : Int)))
  )) : Option Bool).bind fun b2 =>
  ((bif b2 then some true else (
    some (decide (60 < ((a0.Signals.length : Nat) : Int)))
  )) : Option Bool).bind fun b3 =>
  ((bif b3 then some true else (
    some (decide (60 < ((a0.Sections.length : Nat) : Int)))
  )) : Option Bool).bind fun b4 =>
  ((bif b4 then some true else (
    (d_ref07_Check a0).bind fun r6 =>
    some (!(decide (r6 = 0)))
  )) : Option Bool).bind fun b5 =>
  bif b5 then (
    some false
  ) else (
    ((bif decide (((a1.Path.length : Nat) : Int) ≤ 40) then (
      some (decide (((a1.Over.length : Nat) : Int) ≤ 40))
    ) else some false) : Option Bool).bind fun b7 =>
    ((bif b7 then (
      some (decide (((a1.Points.length : Nat) : Int) ≤ 40))
    ) else some false) : Option Bool).bind fun b8 =>
    ((bif b8 then (
      some (decide (((a1.OverPoints.length : Nat) : Int) ≤ 40))
    ) else some false) : Option Bool).bind fun b9 =>
    ((bif b9 then (
      some (decide (((a1.Flank.length : Nat) : Int) ≤ 40))
    ) else some false) : Option Bool).bind fun b10 =>
    ((bif b10 then (
      some (decide (((a1.Sections.length : Nat) : Int) ≤ 40))
    ) else some false) : Option Bool).bind fun b11 =>
    ((bif b11 then (
      some (decide (((a1.OverSections.length : Nat) : Int) ≤ 40))
    ) else some false) : Option Bool).bind fun b12 =>
    ((bif b12 then (
      some (decide (((a1.Guards.length : Nat) : Int) ≤ 40))
    ) else some false) : Option Bool).bind fun b13 =>
    ((bif b13 then (
      some (decide (((a1.Gaps.length : Nat) : Int) ≤ 40))
    ) else some false) : Option Bool).bind fun b14 =>
    some (b14 && (decide (((a1.Name.size : Nat) : Int) ≤ 200)))
  )
theorem d_law14_few_ok (a0 : T_api_Layout) (a1 : T_api_Route) (r : Bool) (h : d_law14_few a0 a1 = some r) : PCall Go.Proofs.Tryd.prog GlS 7 [Enc.pv a0, Enc.pv a1] (Enc.pv r) := by
  unfold d_law14_few at h
  refine pcall_of_pwp Go.Proofs.Tryd.func7 (by rfl) rfl Go.Proofs.Tryd.ntmps7 (by rfl) rfl ?_
  refine pwp_seq ?_
  refine r_reg ?_
  refine e_end (by kernel_rfl) ?_
  refine q_next ?_
  refine pwp_seq ?_
  refine pwp_seq ?_
  refine r_reg ?_
  refine p_run 2 (by kernel_rfl) ?_
  refine p_len (L := (a0.Elements : (List T_api_Element))) (by kernel_rfl) ?_
  obtain ⟨b1, h1, h⟩ := o_bind h
  refine p_run 2 (by kernel_rfl) ?_
  refine e_seg 5 14 (.bool b1) ?_ ?_
  · rcases o_cond h1 with ⟨hb, h1⟩ | ⟨hb, h1⟩
    · refine p_settle 9 hb (by kernel_rfl) (by kernel_rfl) ?_
      cases h1
      exact f_end (by kernel_rfl) (by kernel_rfl)
    · refine p_settle 9 hb (by kernel_rfl) (by kernel_rfl) ?_
      refine p_run 2 (by kernel_rfl) ?_
      refine p_len (L := (a0.Joints : (List T_api_Joint))) (by kernel_rfl) ?_
      cases h1
      exact f_end (by kernel_rfl) (by kernel_rfl)
  · obtain ⟨b2, h2, h⟩ := o_bind h
    refine p_run 1 (by kernel_rfl) ?_
    refine e_seg 5 20 (.bool b2) ?_ ?_
    · rcases o_cond h2 with ⟨hb, h2⟩ | ⟨hb, h2⟩
      · refine p_settle 15 hb (by kernel_rfl) (by kernel_rfl) ?_
        cases h2
        exact f_end (by kernel_rfl) (by kernel_rfl)
      · refine p_settle 15 hb (by kernel_rfl) (by kernel_rfl) ?_
        refine p_run 2 (by kernel_rfl) ?_
        refine p_len (L := (a0.Balises : (List T_api_Balise))) (by kernel_rfl) ?_
        cases h2
        exact f_end (by kernel_rfl) (by kernel_rfl)
    · obtain ⟨b3, h3, h⟩ := o_bind h
      refine p_run 1 (by kernel_rfl) ?_
      refine e_seg 5 26 (.bool b3) ?_ ?_
      · rcases o_cond h3 with ⟨hb, h3⟩ | ⟨hb, h3⟩
        · refine p_settle 21 hb (by kernel_rfl) (by kernel_rfl) ?_
          cases h3
          exact f_end (by kernel_rfl) (by kernel_rfl)
        · refine p_settle 21 hb (by kernel_rfl) (by kernel_rfl) ?_
          refine p_run 2 (by kernel_rfl) ?_
          refine p_len (L := (a0.Signals : (List T_api_Signal))) (by kernel_rfl) ?_
          cases h3
          exact f_end (by kernel_rfl) (by kernel_rfl)
      · obtain ⟨b4, h4, h⟩ := o_bind h
        refine p_run 1 (by kernel_rfl) ?_
        refine e_seg 5 32 (.bool b4) ?_ ?_
        · rcases o_cond h4 with ⟨hb, h4⟩ | ⟨hb, h4⟩
          · refine p_settle 27 hb (by kernel_rfl) (by kernel_rfl) ?_
            cases h4
            exact f_end (by kernel_rfl) (by kernel_rfl)
          · refine p_settle 27 hb (by kernel_rfl) (by kernel_rfl) ?_
            refine p_run 2 (by kernel_rfl) ?_
            refine p_len (L := (a0.Sections : (List ByteArray))) (by kernel_rfl) ?_
            cases h4
            exact f_end (by kernel_rfl) (by kernel_rfl)
        · obtain ⟨b5, h5, h⟩ := o_bind h
          refine p_run 1 (by kernel_rfl) ?_
          refine e_seg 4 37 (.bool b5) ?_ ?_
          · rcases o_cond h5 with ⟨hb, h5⟩ | ⟨hb, h5⟩
            · refine p_settle 33 hb (by kernel_rfl) (by kernel_rfl) ?_
              cases h5
              exact f_end (by kernel_rfl) (by kernel_rfl)
            · refine p_settle 33 hb (by kernel_rfl) (by kernel_rfl) ?_
              refine p_run 1 (by kernel_rfl) ?_
              obtain ⟨r6, h6, h5⟩ := o_bind h5
              refine p_call (d_ref07_Check_ok _ r6 h6) (by kernel_rfl) (by kernel_rfl) ?_
              cases h5
              exact f_end (by kernel_rfl) (by kernel_rfl)
          · refine e_nil (by kernel_rfl) ?_
            refine q_next ?_
            rcases o_cond h with ⟨hb, h⟩ | ⟨hb, h⟩
            · refine r_cond_t hb (by kernel_rfl) ?_
              refine pwp_seq ?_
              refine r_reg ?_
              refine e_end (by kernel_rfl) ?_
              refine q_next ?_
              refine pwp_ret ?_
              refine q_seq_ret ?_
              cases h
              exact q_ret (by kernel_rfl) (by kernel_rfl) (by kernel_rfl)
            · refine r_cond_f hb (by kernel_rfl) ?_
              refine pwp_skip ?_
              refine q_next ?_
              refine pwp_seq ?_
              refine r_reg ?_
              refine p_run 2 (by kernel_rfl) ?_
              refine p_len (L := (a1.Path : (List T_api_Step))) (by kernel_rfl) ?_
              obtain ⟨b7, h7, h⟩ := o_bind h
              refine p_run 2 (by kernel_rfl) ?_
              refine e_seg 5 47 (.bool b7) ?_ ?_
              · rcases o_cond h7 with ⟨hb, h7⟩ | ⟨hb, h7⟩
                · refine p_settle 42 hb (by kernel_rfl) (by kernel_rfl) ?_
                  refine p_run 2 (by kernel_rfl) ?_
                  refine p_len (L := (a1.Over : (List T_api_Step))) (by kernel_rfl) ?_
                  cases h7
                  exact f_end (by kernel_rfl) (by kernel_rfl)
                · refine p_settle 42 hb (by kernel_rfl) (by kernel_rfl) ?_
                  cases h7
                  exact f_end (by kernel_rfl) (by kernel_rfl)
              · obtain ⟨b8, h8, h⟩ := o_bind h
                refine p_run 1 (by kernel_rfl) ?_
                refine e_seg 5 53 (.bool b8) ?_ ?_
                · rcases o_cond h8 with ⟨hb, h8⟩ | ⟨hb, h8⟩
                  · refine p_settle 48 hb (by kernel_rfl) (by kernel_rfl) ?_
                    refine p_run 2 (by kernel_rfl) ?_
                    refine p_len (L := (a1.Points : (List T_api_Setting))) (by kernel_rfl) ?_
                    cases h8
                    exact f_end (by kernel_rfl) (by kernel_rfl)
                  · refine p_settle 48 hb (by kernel_rfl) (by kernel_rfl) ?_
                    cases h8
                    exact f_end (by kernel_rfl) (by kernel_rfl)
                · obtain ⟨b9, h9, h⟩ := o_bind h
                  refine p_run 1 (by kernel_rfl) ?_
                  refine e_seg 5 59 (.bool b9) ?_ ?_
                  · rcases o_cond h9 with ⟨hb, h9⟩ | ⟨hb, h9⟩
                    · refine p_settle 54 hb (by kernel_rfl) (by kernel_rfl) ?_
                      refine p_run 2 (by kernel_rfl) ?_
                      refine p_len (L := (a1.OverPoints : (List T_api_Setting))) (by kernel_rfl) ?_
                      cases h9
                      exact f_end (by kernel_rfl) (by kernel_rfl)
                    · refine p_settle 54 hb (by kernel_rfl) (by kernel_rfl) ?_
                      cases h9
                      exact f_end (by kernel_rfl) (by kernel_rfl)
                  · obtain ⟨b10, h10, h⟩ := o_bind h
                    refine p_run 1 (by kernel_rfl) ?_
                    refine e_seg 5 65 (.bool b10) ?_ ?_
                    · rcases o_cond h10 with ⟨hb, h10⟩ | ⟨hb, h10⟩
                      · refine p_settle 60 hb (by kernel_rfl) (by kernel_rfl) ?_
                        refine p_run 2 (by kernel_rfl) ?_
                        refine p_len (L := (a1.Flank : (List T_api_Setting))) (by kernel_rfl) ?_
                        cases h10
                        exact f_end (by kernel_rfl) (by kernel_rfl)
                      · refine p_settle 60 hb (by kernel_rfl) (by kernel_rfl) ?_
                        cases h10
                        exact f_end (by kernel_rfl) (by kernel_rfl)
                    · obtain ⟨b11, h11, h⟩ := o_bind h
                      refine p_run 1 (by kernel_rfl) ?_
                      refine e_seg 5 71 (.bool b11) ?_ ?_
                      · rcases o_cond h11 with ⟨hb, h11⟩ | ⟨hb, h11⟩
                        · refine p_settle 66 hb (by kernel_rfl) (by kernel_rfl) ?_
                          refine p_run 2 (by kernel_rfl) ?_
                          refine p_len (L := (a1.Sections : (List Int))) (by kernel_rfl) ?_
                          cases h11
                          exact f_end (by kernel_rfl) (by kernel_rfl)
                        · refine p_settle 66 hb (by kernel_rfl) (by kernel_rfl) ?_
                          cases h11
                          exact f_end (by kernel_rfl) (by kernel_rfl)
                      · obtain ⟨b12, h12, h⟩ := o_bind h
                        refine p_run 1 (by kernel_rfl) ?_
                        refine e_seg 5 77 (.bool b12) ?_ ?_
                        · rcases o_cond h12 with ⟨hb, h12⟩ | ⟨hb, h12⟩
                          · refine p_settle 72 hb (by kernel_rfl) (by kernel_rfl) ?_
                            refine p_run 2 (by kernel_rfl) ?_
                            refine p_len (L := (a1.OverSections : (List Int))) (by kernel_rfl) ?_
                            cases h12
                            exact f_end (by kernel_rfl) (by kernel_rfl)
                          · refine p_settle 72 hb (by kernel_rfl) (by kernel_rfl) ?_
                            cases h12
                            exact f_end (by kernel_rfl) (by kernel_rfl)
                        · obtain ⟨b13, h13, h⟩ := o_bind h
                          refine p_run 1 (by kernel_rfl) ?_
                          refine e_seg 5 83 (.bool b13) ?_ ?_
                          · rcases o_cond h13 with ⟨hb, h13⟩ | ⟨hb, h13⟩
                            · refine p_settle 78 hb (by kernel_rfl) (by kernel_rfl) ?_
                              refine p_run 2 (by kernel_rfl) ?_
                              refine p_len (L := (a1.Guards : (List Int))) (by kernel_rfl) ?_
                              cases h13
                              exact f_end (by kernel_rfl) (by kernel_rfl)
                            · refine p_settle 78 hb (by kernel_rfl) (by kernel_rfl) ?_
                              cases h13
                              exact f_end (by kernel_rfl) (by kernel_rfl)
                          · obtain ⟨b14, h14, h⟩ := o_bind h
                            refine p_run 1 (by kernel_rfl) ?_
                            refine e_seg 5 89 (.bool b14) ?_ ?_
                            · rcases o_cond h14 with ⟨hb, h14⟩ | ⟨hb, h14⟩
                              · refine p_settle 84 hb (by kernel_rfl) (by kernel_rfl) ?_
                                refine p_run 2 (by kernel_rfl) ?_
                                refine p_len (L := (a1.Gaps : (List T_api_End))) (by kernel_rfl) ?_
                                cases h14
                                exact f_end (by kernel_rfl) (by kernel_rfl)
                              · refine p_settle 84 hb (by kernel_rfl) (by kernel_rfl) ?_
                                cases h14
                                exact f_end (by kernel_rfl) (by kernel_rfl)
                            · refine p_run 1 (by kernel_rfl) ?_
                              refine e_segb 5 95 (b14 && (decide (((a1.Name.size : Nat) : Int) ≤ 200))) (fun x hx => ?_) ?_
                              · rcases b_and hx with ⟨hb, hx⟩ | ⟨hb, hx⟩
                                · refine p_settle 90 hb (by kernel_rfl) (by kernel_rfl) ?_
                                  subst hx
                                  exact f_end (by kernel_rfl) (by kernel_rfl)
                                · refine p_settle 90 hb (by kernel_rfl) (by kernel_rfl) ?_
                                  subst hx
                                  exact f_end (by kernel_rfl) (by kernel_rfl)
                              · refine e_end (by kernel_rfl) ?_
                                refine q_next ?_
                                refine pwp_ret ?_
                                cases h
                                exact q_ret (by kernel_rfl) (by kernel_rfl) (by kernel_rfl)

/-! signallinglaw14.loop -/
noncomputable def d_law14_loop_0 : (Int × (List ByteArray) × (List T_api_Element)) → Option ((Int × (List ByteArray) × (List T_api_Element)) ⊕ (((List ByteArray) × (List T_api_Element)) ⊕ T_api_Layout)) := fun (x12, x13, x14) =>
  bif decide (x12 < 6) then (
    (sslO (ByteArray.mk #[97, 112, 98, 99, 113, 100]) (some x12) (some (w64 (x12 + 1)))).bind fun x22 =>
    onInl (α := (Int × Int)) (β := ((Int × (List ByteArray) × (List T_api_Element)) ⊕ (((List ByteArray) × (List T_api_Element)) ⊕ T_api_Layout))) (
      bif ((decide (x12 = 1)) || (decide (x12 = 4))) then (
        some (.inl (2, 500))
      ) else (
        some (.inl (1, 0))
      )
    ) fun (x23, x24) =>
    (appO x13 [x22]).bind fun x25 =>
    (appO x14 [(T_api_Element.mk x22 x23 1000 0 1000 x24 x12)]).bind fun x26 =>
    some (.inl (w64 (x12 + 1), x25, x26))
  ) else (
    some (.inr (.inl (x13, x14)))
  )

noncomputable def d_law14_loop : Option T_api_Layout :=
  onInl (α := ((List ByteArray) × (List T_api_Element))) (β := T_api_Layout) (loopO (d_law14_loop_0) (0, ([] : (List ByteArray)), ([] : (List T_api_Element)))) fun (x20, x21) =>
  some (T_api_Layout.mk (ByteArray.mk #[108, 111, 111, 112]) x20 x21 [(T_api_Joint.mk (T_api_End.mk 0 1) (T_api_End.mk 1 0)), (T_api_Joint.mk (T_api_End.mk 1 1) (T_api_End.mk 2 0)), (T_api_Joint.mk (T_api_End.mk 1 2) (T_api_End.mk 3 0)), (T_api_Joint.mk (T_api_End.mk 2 1) (T_api_End.mk 4 1)), (T_api_Joint.mk (T_api_End.mk 3 1) (T_api_End.mk 4 2)), (T_api_Joint.mk (T_api_End.mk 4 0) (T_api_End.mk 5 0))] [(T_api_Signal.mk (ByteArray.mk #[115, 48]) (T_api_End.mk 0 1) 0), (T_api_Signal.mk (ByteArray.mk #[115, 49]) (T_api_End.mk 2 1) 0), (T_api_Signal.mk (ByteArray.mk #[115, 50]) (T_api_End.mk 3 1) 0)] [])
theorem d_law14_loop_ok (r : T_api_Layout) (h : d_law14_loop = some r) : PCall Go.Proofs.Tryd.prog GlS 21 [] (Enc.pv r) := by
  unfold d_law14_loop at h
  refine pcall_of_pwp Go.Proofs.Tryd.func21 (by rfl) rfl Go.Proofs.Tryd.ntmps21 (by rfl) rfl ?_
  refine pwp_seq ?_
  refine r_reg ?_
  refine e_end (by kernel_rfl) ?_
  refine q_next ?_
  refine pwp_seq ?_
  refine r_reg ?_
  refine e_end (by kernel_rfl) ?_
  refine q_next ?_
  refine pwp_seq ?_
  refine pwp_seq ?_
  refine r_reg ?_
  refine e_end (by kernel_rfl) ?_
  refine q_next ?_
  refine pwp_block ?_
  refine pwp_wkr (wkr_nilH 1 1 200101 1 16 (cs := [.str (ByteArray.mk #[108, 111, 111, 112]), .nil, .nil, .nil, .nil, .nil]) (by kernel_rfl) (by kernel_rfl) (by kernel_rfl)) ?_
  refine pwp_wkr (wkr_nilH 1 2 200102 7 64 (cs := [.str (ByteArray.mk #[108, 111, 111, 112]), lstOf (.own 200101) (([] : (List ByteArray)) : (List ByteArray)), .nil, .nil, .nil, .nil]) (by kernel_rfl) (by kernel_rfl) (by kernel_rfl)) ?_
  obtain ⟨o14, h14, h⟩ := o_inl h
  refine r_loop2 66 0 (fun (x12, x13, x14) => ⟨[(0, .ref 0 0), (1, .ref 1 0), (2, .int .i64 x12)], [(0, .cells ([.str ByteArray.empty, .nil, .nil, .nil, .nil, .nil])), (1, .cells ([.str (ByteArray.mk #[108, 111, 111, 112]), lstOf (.own 200101) (x13 : (List ByteArray)), lstOf (.own 200102) (x14 : (List T_api_Element)), .nil, .nil, .nil]))], [(200101, (((x13).map cellsOf).length, 1)), (200102, (((x14).map cellsOf).length, 7))], []⟩) (fun (x20, x21) => ⟨[(0, .ref 0 0), (1, .ref 1 0)], [(0, .cells ([.str ByteArray.empty, .nil, .nil, .nil, .nil, .nil])), (1, .cells ([.str (ByteArray.mk #[108, 111, 111, 112]), lstOf (.own 200101) (x20 : (List ByteArray)), lstOf (.own 200102) (x21 : (List T_api_Element)), .nil, .nil, .nil]))], [(200101, (((x20).map cellsOf).length, 1)), (200102, (((x21).map cellsOf).length, 7))], []⟩) h14 (by kernel_rfl) (fun _ => by kernel_rfl) ?_ ?_
  · rintro ⟨x12, x13, x14⟩ oh13 h13
    unfold d_law14_loop_0 at h13
    refine pwp_seq ?_
    refine pwp_seq ?_
    refine r_reg ?_
    refine e_end (by kernel_rfl) ?_
    refine q_next ?_
    rcases o_cond h13 with ⟨hb, h13⟩ | ⟨hb, h13⟩
    · refine r_cond_t hb (by kernel_rfl) ?_
      refine pwp_skip ?_
      refine q_next ?_
      refine pwp_seq ?_
      refine pwp_block ?_
      refine pwp_seq ?_
      refine r_reg ?_
      refine p_run 3 (by kernel_rfl) ?_
      obtain ⟨x22, h15, h13⟩ := o_bind h13
      refine p_ssl h15 (by kernel_rfl) ?_
      refine e_end (by kernel_rfl) ?_
      refine q_next ?_
      refine pwp_seq ?_
      refine r_reg ?_
      refine e_end (by kernel_rfl) ?_
      refine q_next ?_
      obtain ⟨o16, h16, h13⟩ := o_inl h13
      refine r_join (o := o16) 66 (fun (x23, x24) => ⟨[(0, .ref 0 0), (1, .ref 1 0), (2, .int .i64 x12), (3, .str x22), (4, .ref 4 0)], [(0, .cells ([.str ByteArray.empty, .nil, .nil, .nil, .nil, .nil])), (1, .cells ([.str (ByteArray.mk #[108, 111, 111, 112]), lstOf (.own 200101) (x13 : (List ByteArray)), lstOf (.own 200102) (x14 : (List T_api_Element)), .nil, .nil, .nil])), (4, .cells ([.str x22, .int .i64 x23, .int .i64 1000, .int .i64 0, .int .i64 1000, .int .i64 x24, .int .i64 x12]))], [(200101, (((x13).map cellsOf).length, 1)), (200102, (((x14).map cellsOf).length, 7))], []⟩) ?_ ?_
      · refine pwp_seq ?_
        refine r_reg ?_
        refine p_run 3 (by kernel_rfl) ?_
        refine e_segb 3 22 ((decide (x12 = 1)) || (decide (x12 = 4))) (fun x hx => ?_) ?_
        · rcases b_or hx with ⟨hb, hx⟩ | ⟨hb, hx⟩
          · refine p_settle 19 hb (by kernel_rfl) (by kernel_rfl) ?_
            subst hx
            exact f_end (by kernel_rfl) (by kernel_rfl)
          · refine p_settle 19 hb (by kernel_rfl) (by kernel_rfl) ?_
            subst hx
            exact f_end (by kernel_rfl) (by kernel_rfl)
        · refine e_nil (by kernel_rfl) ?_
          refine q_next ?_
          rcases o_cond h16 with ⟨hb, h16⟩ | ⟨hb, h16⟩
          · refine r_cond_t hb (by kernel_rfl) ?_
            refine pwp_seq ?_
            refine r_reg ?_
            refine e_end (by kernel_rfl) ?_
            refine q_next ?_
            refine r_reg ?_
            refine e_end (by kernel_rfl) ?_
            cases h16
            exact q_join (by kernel_rfl) (by kernel_rfl)
          · refine r_cond_f hb (by kernel_rfl) ?_
            refine pwp_skip ?_
            cases h16
            exact q_join (by kernel_rfl) (by kernel_rfl)
      · rintro ⟨x23, x24⟩ rfl
        have h13 := o_outl h13
        refine pwp_seq ?_
        refine r_reg ?_
        refine p_run 4 (by kernel_rfl) ?_
        obtain ⟨x25, h17, h13⟩ := o_bind h13
        refine p_app (tk := 200101) h17 (by kernel_rfl) (by kernel_rfl) ?_
        refine e_end (by kernel_rfl) ?_
        refine q_next ?_
        refine r_reg ?_
        refine p_run 4 (by kernel_rfl) ?_
        obtain ⟨x26, h18, h13⟩ := o_bind h13
        refine p_app (tk := 200102) h18 (by kernel_rfl) (by kernel_rfl) ?_
        refine e_end (by kernel_rfl) ?_
        refine q_block ?_
        refine q_next ?_
        refine r_reg ?_
        refine e_end (by kernel_rfl) ?_
        cases h13
        exact q_lback (by kernel_rfl)
    · refine r_cond_f hb (by kernel_rfl) ?_
      refine pwp_exit ?_
      refine q_seq_exit ?_
      cases h13
      exact q_lexit (by kernel_rfl) (by kernel_rfl)
  · rintro ⟨x20, x21⟩ s' rfl hs
    have h := o_outl h
    refine q_block_hit ?_
    refine q_next (pwp_wkr hs ?_)
    refine pwp_seq ?_
    refine r_reg ?_
    refine e_end (by kernel_rfl) ?_
    refine q_next ?_
    refine pwp_seq ?_
    refine r_reg ?_
    refine e_end (by kernel_rfl) ?_
    refine q_next ?_
    refine pwp_seq ?_
    refine r_reg ?_
    refine e_end (by kernel_rfl) ?_
    refine q_next ?_
    refine pwp_ret ?_
    cases h
    exact q_ret (by kernel_rfl) (by kernel_rfl) (by kernel_rfl)

/-! slices.Clone[[]api.Step,api.Step] -/
noncomputable def d_slices_Clone_api_Step (a0 : (List T_api_Step)) : Option (List T_api_Step) :=
  (appO ([] : (List T_api_Step)) a0).bind fun x1 =>
  some x1
theorem d_slices_Clone_api_Step_ok (a0 : (List T_api_Step)) (r : (List T_api_Step)) (h : d_slices_Clone_api_Step a0 = some r) : PCall Go.Proofs.Tryd.prog GlS 32 [Enc.pv a0] (lstOf (.own 7) r) := by
  unfold d_slices_Clone_api_Step at h
  refine pcall_of_pwp Go.Proofs.Tryd.func32 (by rfl) rfl Go.Proofs.Tryd.ntmps32 (by rfl) rfl ?_
  refine pwp_seq ?_
  refine r_reg ?_
  refine e_end (by kernel_rfl) ?_
  refine q_next ?_
  refine pwp_seq ?_
  refine pwp_seq ?_
  refine r_reg ?_
  refine e_end (by kernel_rfl) ?_
  refine q_next ?_
  refine pwp_condU (e := ((a0 : (List T_api_Step)).map cellsOf).isEmpty) (by kernel_rfl) (fun hub => ?_) ?_
  · have hN := clone_nil (ub_nil hub) h
    refine pwp_seq ?_
    refine r_reg ?_
    refine e_end (by kernel_rfl) ?_
    refine q_next ?_
    refine g_nil 2 7 3 24 (by kernel_rfl) (by kernel_rfl) ?_
    refine pwp_ret ?_
    refine q_seq_ret ?_
    cases hN
    exact q_ret (by kernel_rfl) (by kernel_rfl) (by kernel_rfl)
  · refine pwp_skip ?_
    refine q_next ?_
    refine pwp_seq ?_
    refine r_reg ?_
    refine p_run 2 (by kernel_rfl) ?_
    obtain ⟨x1, h1, h⟩ := o_bind h
    refine p_appn (tk := 7) h1 (by kernel_rfl) ?_
    refine e_end (by kernel_rfl) ?_
    refine q_next ?_
    refine pwp_ret ?_
    cases h
    exact q_ret (by kernel_rfl) (by kernel_rfl) (by kernel_rfl)
theorem d_slices_Clone_api_Step_fz (a0 : (List T_api_Step)) (r : (List T_api_Step)) (h : d_slices_Clone_api_Step a0 = some r) : PCall Go.Proofs.Tryd.prog GlS 32 [Enc.pv a0] (Enc.pv r) :=
  (d_slices_Clone_api_Step_ok a0 r h).freeze (by kernel_rfl) (by kernel_rfl) (by kernel_rfl)

/-! slices.Clone[[]api.Setting,api.Setting] -/
noncomputable def d_slices_Clone_api_Setting (a0 : (List T_api_Setting)) : Option (List T_api_Setting) :=
  (appO ([] : (List T_api_Setting)) a0).bind fun x1 =>
  some x1
theorem d_slices_Clone_api_Setting_ok (a0 : (List T_api_Setting)) (r : (List T_api_Setting)) (h : d_slices_Clone_api_Setting a0 = some r) : PCall Go.Proofs.Tryd.prog GlS 33 [Enc.pv a0] (lstOf (.own 7) r) := by
  unfold d_slices_Clone_api_Setting at h
  refine pcall_of_pwp Go.Proofs.Tryd.func33 (by rfl) rfl Go.Proofs.Tryd.ntmps33 (by rfl) rfl ?_
  refine pwp_seq ?_
  refine r_reg ?_
  refine e_end (by kernel_rfl) ?_
  refine q_next ?_
  refine pwp_seq ?_
  refine pwp_seq ?_
  refine r_reg ?_
  refine e_end (by kernel_rfl) ?_
  refine q_next ?_
  refine pwp_condU (e := ((a0 : (List T_api_Setting)).map cellsOf).isEmpty) (by kernel_rfl) (fun hub => ?_) ?_
  · have hN := clone_nil (ub_nil hub) h
    refine pwp_seq ?_
    refine r_reg ?_
    refine e_end (by kernel_rfl) ?_
    refine q_next ?_
    refine g_nil 2 7 2 16 (by kernel_rfl) (by kernel_rfl) ?_
    refine pwp_ret ?_
    refine q_seq_ret ?_
    cases hN
    exact q_ret (by kernel_rfl) (by kernel_rfl) (by kernel_rfl)
  · refine pwp_skip ?_
    refine q_next ?_
    refine pwp_seq ?_
    refine r_reg ?_
    refine p_run 2 (by kernel_rfl) ?_
    obtain ⟨x1, h1, h⟩ := o_bind h
    refine p_appn (tk := 7) h1 (by kernel_rfl) ?_
    refine e_end (by kernel_rfl) ?_
    refine q_next ?_
    refine pwp_ret ?_
    cases h
    exact q_ret (by kernel_rfl) (by kernel_rfl) (by kernel_rfl)
theorem d_slices_Clone_api_Setting_fz (a0 : (List T_api_Setting)) (r : (List T_api_Setting)) (h : d_slices_Clone_api_Setting a0 = some r) : PCall Go.Proofs.Tryd.prog GlS 33 [Enc.pv a0] (Enc.pv r) :=
  (d_slices_Clone_api_Setting_ok a0 r h).freeze (by kernel_rfl) (by kernel_rfl) (by kernel_rfl)

/-! slices.Clone[[]int,int] -/
noncomputable def d_slices_Clone_int (a0 : (List Int)) : Option (List Int) :=
  (appO ([] : (List Int)) a0).bind fun x1 =>
  some x1
theorem d_slices_Clone_int_ok (a0 : (List Int)) (r : (List Int)) (h : d_slices_Clone_int a0 = some r) : PCall Go.Proofs.Tryd.prog GlS 34 [Enc.pv a0] (lstOf (.own 7) r) := by
  unfold d_slices_Clone_int at h
  refine pcall_of_pwp Go.Proofs.Tryd.func34 (by rfl) rfl Go.Proofs.Tryd.ntmps34 (by rfl) rfl ?_
  refine pwp_seq ?_
  refine r_reg ?_
  refine e_end (by kernel_rfl) ?_
  refine q_next ?_
  refine pwp_seq ?_
  refine pwp_seq ?_
  refine r_reg ?_
  refine e_end (by kernel_rfl) ?_
  refine q_next ?_
  refine pwp_condU (e := ((a0 : (List Int)).map cellsOf).isEmpty) (by kernel_rfl) (fun hub => ?_) ?_
  · have hN := clone_nil (ub_nil hub) h
    refine pwp_seq ?_
    refine r_reg ?_
    refine e_end (by kernel_rfl) ?_
    refine q_next ?_
    refine g_nil 2 7 1 8 (by kernel_rfl) (by kernel_rfl) ?_
    refine pwp_ret ?_
    refine q_seq_ret ?_
    cases hN
    exact q_ret (by kernel_rfl) (by kernel_rfl) (by kernel_rfl)
  · refine pwp_skip ?_
    refine q_next ?_
    refine pwp_seq ?_
    refine r_reg ?_
    refine p_run 2 (by kernel_rfl) ?_
    obtain ⟨x1, h1, h⟩ := o_bind h
    refine p_appn (tk := 7) h1 (by kernel_rfl) ?_
    refine e_end (by kernel_rfl) ?_
    refine q_next ?_
    refine pwp_ret ?_
    cases h
    exact q_ret (by kernel_rfl) (by kernel_rfl) (by kernel_rfl)
theorem d_slices_Clone_int_fz (a0 : (List Int)) (r : (List Int)) (h : d_slices_Clone_int a0 = some r) : PCall Go.Proofs.Tryd.prog GlS 34 [Enc.pv a0] (Enc.pv r) :=
  (d_slices_Clone_int_ok a0 r h).freeze (by kernel_rfl) (by kernel_rfl) (by kernel_rfl)

/-! slices.Grow[[]api.Step,api.Step] at nil -/
noncomputable def d_slices_Grow_api_Step (_ : (List T_api_Step)) (a1 : Int) : Option (List T_api_Step) := if 0 ≤ a1 ∧ a1 ≤ 1048576 then some [] else none
set_option maxRecDepth 20000 in
theorem d_slices_Grow_api_Step_cs (m : Nat) (w : World) (h0 : 0 < m) (h1 : m ≤ 1048576) : Calls Go.Proofs.Tryd.prog 62 #[.slice none 0 0, .int .i64 m] w fun e' w' => ∃ C arr, e' = .returned (.slice (some ⟨w.heap.size, 0, none⟩) 0 C) ∧ w' = (w.alloc (.cells arr 49)).drew ∧ arr.size = C * 3 := by
  have hw : IntKind.i64.wrap (m : Int) = m := by rw [IntKind.wrap_i64]; omega
  have hn : Builtin.nextslicecap m 0 = m := by simp [Builtin.nextslicecap]; omega
  have hb : Go.Proofs.Tryd.t49.bytes = 24 := rfl
  have hf : ¬ (281474976710656 < (m : Int) * ((24 : Nat) : Int)) := by omega
  have hg : ¬ (281474976710656 < m * 24) := by omega
  go_enter Go.Proofs.Tryd.func62, Go.Proofs.Tryd.ntmps62
  go_wp2
  all_goals try (exfalso; simp only [hb, hn] at *; omega)
  refine ⟨rfl, _, results_tmp rfl _ _ _, (Question.appendCap m 0 49).cut (w.tape w.drawn (Question.appendCap m 0 49)), rfl, _, rfl, ?_⟩
  have hge : m ≤ (Question.appendCap m 0 49).cut (w.tape w.drawn (Question.appendCap m 0 49)) := grownCap_ge w m 0 49
  generalize (Question.appendCap m 0 49).cut (w.tape w.drawn (Question.appendCap m 0 49)) = C at hge ⊢
  rw [Array.size_append, size_zeroCells, size_zeroCells]
  simp only [List.size_toArray, List.length_cons, List.length_nil]
  omega
set_option maxRecDepth 20000 in
theorem d_slices_Grow_api_Step_c0 (w : World) : Calls Go.Proofs.Tryd.prog 62 #[.slice none 0 0, .int .i64 0] w fun e' w' => e' = .returned (.slice none 0 0) ∧ w' = w := by
  go_enter Go.Proofs.Tryd.func62, Go.Proofs.Tryd.ntmps62
  go_wp2
  exact ⟨rfl, _, results_tmp rfl _ _ _, rfl, rfl⟩
theorem d_slices_Grow_api_Step_ok (a0 : (List T_api_Step)) (a1 : Int) (r : (List T_api_Step)) (h : d_slices_Grow_api_Step a0 a1 = some r) : PCall Go.Proofs.Tryd.prog GlS 62 [.nil, .int .i64 a1] (lstOf (.own 0) r) := by
  unfold d_slices_Grow_api_Step at h
  split at h
  · next hc =>
    cases h
    exact pcall_grow ⟨_, Go.Proofs.Tryd.func62, rfl, rfl⟩ (by decide) (fun m w h0 h1 => d_slices_Grow_api_Step_cs m w h0 h1) d_slices_Grow_api_Step_c0 a1 hc
  · cases h
theorem d_slices_Grow_api_Step_fz (a0 : (List T_api_Step)) (a1 : Int) (r : (List T_api_Step)) (h : d_slices_Grow_api_Step a0 a1 = some r) : PCall Go.Proofs.Tryd.prog GlS 62 [.nil, .int .i64 a1] (Enc.pv r) :=
  (d_slices_Grow_api_Step_ok a0 a1 r h).freeze (by kernel_rfl) (by kernel_rfl) (by kernel_rfl)

end PM
