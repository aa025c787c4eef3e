/-
  Plain functions for the program's functions, and the proofs that the program does them. Printed by den.py.
-/
import Derived.Test.YtoknlpdkocemfaaGreatDoorPmQt
import Derived.Test.YtoknlpdkocemfaaGreatDoorPmZ
import Derived.Test.YtoknlpdkocemfaaGreatDoorPmSt
import Derived.Test.YtoknlpdkocemfaaGreatDoorPmP
import Derived.Test.YtoknlpdkocemfaaGreatDoorPlA
import Derived.Test.YtoknlpdkocemfaaGreatDoorProg
namespace PM
open Go Go.RowKit
attribute [local irreducible] pops pwp

structure T_rail_passage where
  kind_ : Int
  in_ : Int
  out_ : Int
  need_ : Int
instance : Enc T_rail_passage := ⟨4, 32, fun x => .agg [.int .i64 x.kind_, .int .i64 x.in_, .int .i64 x.out_, .int .i64 x.need_]⟩
instance : Inhabited T_rail_passage := ⟨⟨0, 0, 0, 0⟩⟩
def eq_T_rail_passage (x y : T_rail_passage) : Bool := (decide (x.kind_ = y.kind_) && (decide (x.in_ = y.in_) && (decide (x.out_ = y.out_) && (decide (x.need_ = y.need_) && true))))
structure T_api_Step where
  El : Int
  In : Int
  Out : Int
instance : Enc T_api_Step := ⟨3, 24, fun x => .agg [.int .i64 x.El, .int .i64 x.In, .int .i64 x.Out]⟩
instance : Inhabited T_api_Step := ⟨⟨0, 0, 0⟩⟩
def eq_T_api_Step (x y : T_api_Step) : Bool := (decide (x.El = y.El) && (decide (x.In = y.In) && (decide (x.Out = y.Out) && true)))
structure T_api_Track where
  Id : Int
  Origin : Int
  End : Int
  At : Int
  Steps : (List T_api_Step)
  Routes : (List Int)
  Starts : (List Int)
  Ends : (List Int)
  Done : (List Int)
  Min : Int
  Sent : Int
  Accepted : Int
  Cut : Int
  CutSeq : Int
instance : Enc T_api_Track := ⟨14, 192, fun x => .agg [.int .i64 x.Id, .int .i64 x.Origin, .int .i64 x.End, .int .i64 x.At, lstOf .frozen x.Steps, lstOf .frozen x.Routes, lstOf .frozen x.Starts, lstOf .frozen x.Ends, lstOf .frozen x.Done, .int .i64 x.Min, .int .i64 x.Sent, .int .i64 x.Accepted, .int .i64 x.Cut, .int .i64 x.CutSeq]⟩
instance : Inhabited T_api_Track := ⟨⟨0, 0, 0, 0, [], [], [], [], [], 0, 0, 0, 0, 0⟩⟩
structure T_api_Element where
  Name : ByteArray
  Kind : Int
  Length : Int
  Grade : Int
  Speed : Int
  Slow : Int
  Section : Int
instance : Enc T_api_Element := ⟨7, 64, fun x => .agg [.str x.Name, .int .i64 x.Kind, .int .i64 x.Length, .int .i64 x.Grade, .int .i64 x.Speed, .int .i64 x.Slow, .int .i64 x.Section]⟩
instance : Inhabited T_api_Element := ⟨⟨ByteArray.empty, 0, 0, 0, 0, 0, 0⟩⟩
def eq_T_api_Element (x y : T_api_Element) : Bool := (decide (x.Name = y.Name) && (decide (x.Kind = y.Kind) && (decide (x.Length = y.Length) && (decide (x.Grade = y.Grade) && (decide (x.Speed = y.Speed) && (decide (x.Slow = y.Slow) && (decide (x.Section = y.Section) && true)))))))
structure T_api_End where
  El : Int
  Side : Int
instance : Enc T_api_End := ⟨2, 16, fun x => .agg [.int .i64 x.El, .int .i64 x.Side]⟩
instance : Inhabited T_api_End := ⟨⟨0, 0⟩⟩
def eq_T_api_End (x y : T_api_End) : Bool := (decide (x.El = y.El) && (decide (x.Side = y.Side) && true))
instance : DecidableEq T_api_End := fun x y => decidable_of_iff (eq_T_api_End x y = true) (by cases x; cases y; simp [eq_T_api_End])
instance : Key T_api_End := { (inferInstance : Enc T_api_End) with deq := inferInstance, keq := fun a b => by cases a with | mk x y => cases b with | mk x' y' => (show some (decide (x = x') && decide (y = y')) = _; simp) }
structure T_api_Joint where
  A : T_api_End
  B : T_api_End
instance : Enc T_api_Joint := ⟨4, 32, fun x => .agg [.int .i64 x.A.El, .int .i64 x.A.Side, .int .i64 x.B.El, .int .i64 x.B.Side]⟩
instance : Inhabited T_api_Joint := ⟨⟨default, default⟩⟩
def eq_T_api_Joint (x y : T_api_Joint) : Bool := (decide (x.A.El = y.A.El) && (decide (x.A.Side = y.A.Side) && (decide (x.B.El = y.B.El) && (decide (x.B.Side = y.B.Side) && true))))
structure T_api_Signal where
  Name : ByteArray
  At : T_api_End
  Overlap : Int
instance : Enc T_api_Signal := ⟨4, 40, fun x => .agg [.str x.Name, .int .i64 x.At.El, .int .i64 x.At.Side, .int .i64 x.Overlap]⟩
instance : Inhabited T_api_Signal := ⟨⟨ByteArray.empty, default, 0⟩⟩
def eq_T_api_Signal (x y : T_api_Signal) : Bool := (decide (x.Name = y.Name) && (decide (x.At.El = y.At.El) && (decide (x.At.Side = y.At.Side) && (decide (x.Overlap = y.Overlap) && true))))
structure T_api_Balise where
  Id : Int
  El : Int
  Offset : Int
instance : Enc T_api_Balise := ⟨3, 24, fun x => .agg [.int .i64 x.Id, .int .i64 x.El, .int .i64 x.Offset]⟩
instance : Inhabited T_api_Balise := ⟨⟨0, 0, 0⟩⟩
def eq_T_api_Balise (x y : T_api_Balise) : Bool := (decide (x.Id = y.Id) && (decide (x.El = y.El) && (decide (x.Offset = y.Offset) && true)))
structure T_api_Layout where
  Name : ByteArray
  Sections : (List ByteArray)
  Elements : (List T_api_Element)
  Joints : (List T_api_Joint)
  Signals : (List T_api_Signal)
  Balises : (List T_api_Balise)
instance : Enc T_api_Layout := ⟨6, 136, fun x => .agg [.str x.Name, lstOf .frozen x.Sections, lstOf .frozen x.Elements, lstOf .frozen x.Joints, lstOf .frozen x.Signals, lstOf .frozen x.Balises]⟩
instance : Inhabited T_api_Layout := ⟨⟨ByteArray.empty, [], [], [], [], []⟩⟩
structure T_api_Setting where
  El : Int
  Pos : Int
instance : Enc T_api_Setting := ⟨2, 16, fun x => .agg [.int .i64 x.El, .int .i64 x.Pos]⟩
instance : Inhabited T_api_Setting := ⟨⟨0, 0⟩⟩
def eq_T_api_Setting (x y : T_api_Setting) : Bool := (decide (x.El = y.El) && (decide (x.Pos = y.Pos) && true))
structure T_api_Route where
  Name : ByteArray
  Entry : Int
  Exit : Int
  Path : (List T_api_Step)
  Points : (List T_api_Setting)
  Sections : (List Int)
  Approach : Int
  Length : Int
  Over : (List T_api_Step)
  OverPoints : (List T_api_Setting)
  OverSections : (List Int)
  Flank : (List T_api_Setting)
  Guards : (List Int)
  Gaps : (List T_api_End)
instance : Enc T_api_Route := ⟨14, 264, fun x => .agg [.str x.Name, .int .i64 x.Entry, .int .i64 x.Exit, lstOf .frozen x.Path, lstOf .frozen x.Points, lstOf .frozen x.Sections, .int .i64 x.Approach, .int .i64 x.Length, lstOf .frozen x.Over, lstOf .frozen x.OverPoints, lstOf .frozen x.OverSections, lstOf .frozen x.Flank, lstOf .frozen x.Guards, lstOf .frozen x.Gaps]⟩
instance : Inhabited T_api_Route := ⟨⟨ByteArray.empty, 0, 0, [], [], [], 0, 0, [], [], [], [], [], []⟩⟩
structure T_api_Table where
  Routes : (List T_api_Route)
  Points : (List Int)
  Homes : (List Int)
  Sections : Int
  Signals : Int
instance : Enc T_api_Table := ⟨5, 88, fun x => .agg [lstOf .frozen x.Routes, lstOf .frozen x.Points, lstOf .frozen x.Homes, .int .i64 x.Sections, .int .i64 x.Signals]⟩
instance : Inhabited T_api_Table := ⟨⟨[], [], [], 0, 0⟩⟩
structure T_arr3_slice_string where
  x0 : (List ByteArray)
  x1 : (List ByteArray)
  x2 : (List ByteArray)
instance : Enc T_arr3_slice_string := ⟨3, 72, fun x => .agg [lstOf .frozen x.x0, lstOf .frozen x.x1, lstOf .frozen x.x2]⟩
instance : Inhabited T_arr3_slice_string := ⟨⟨[], [], []⟩⟩
structure T_signallingref12_Paths where
  L : (List (List T_api_Step))
instance : Enc T_signallingref12_Paths := ⟨1, 24, fun x => .agg [lstOf .frozen x.L]⟩
instance : Inhabited T_signallingref12_Paths := ⟨⟨[]⟩⟩
structure T_api_Train where
  Id : Int
  Name : ByteArray
  Length : Int
  Speed : Int
  Accel : Int
  Service : Int
  Emergency : Int
  Delay : Int
  Const : Int
  Rate : Int
instance : Enc T_api_Train := ⟨10, 88, fun x => .agg [.int .i64 x.Id, .str x.Name, .int .i64 x.Length, .int .i64 x.Speed, .int .i64 x.Accel, .int .i64 x.Service, .int .i64 x.Emergency, .int .i64 x.Delay, .int .i64 x.Const, .int .i64 x.Rate]⟩
instance : Inhabited T_api_Train := ⟨⟨0, ByteArray.empty, 0, 0, 0, 0, 0, 0, 0, 0⟩⟩
def eq_T_api_Train (x y : T_api_Train) : Bool := (decide (x.Id = y.Id) && (decide (x.Name = y.Name) && (decide (x.Length = y.Length) && (decide (x.Speed = y.Speed) && (decide (x.Accel = y.Accel) && (decide (x.Service = y.Service) && (decide (x.Emergency = y.Emergency) && (decide (x.Delay = y.Delay) && (decide (x.Const = y.Const) && (decide (x.Rate = y.Rate) && true))))))))))
structure T_api_Body where
  Steps : (List T_api_Step)
  Head : Int
  Length : Int
instance : Enc T_api_Body := ⟨3, 40, fun x => .agg [lstOf .frozen x.Steps, .int .i64 x.Head, .int .i64 x.Length]⟩
instance : Inhabited T_api_Body := ⟨⟨[], 0, 0⟩⟩
structure T_claims_refusal where
  err_ : Int
instance : Enc T_claims_refusal := ⟨1, 8, fun x => .agg [.int .i64 x.err_]⟩
instance : Inhabited T_claims_refusal := ⟨⟨0⟩⟩
def eq_T_claims_refusal (x y : T_claims_refusal) : Bool := (decide (x.err_ = y.err_) && true)
structure T_api_Report where
  Min : Int
  Speed : Int
  Mode : Int
  Accepted : Int
  Whole : Bool
instance : Enc T_api_Report := ⟨5, 40, fun x => .agg [.int .i64 x.Min, .int .i64 x.Speed, .int .i64 x.Mode, .int .i64 x.Accepted, .bool x.Whole]⟩
instance : Inhabited T_api_Report := ⟨⟨0, 0, 0, 0, false⟩⟩
def eq_T_api_Report (x y : T_api_Report) : Bool := (decide (x.Min = y.Min) && (decide (x.Speed = y.Speed) && (decide (x.Mode = y.Mode) && (decide (x.Accepted = y.Accepted) && ((x.Whole == y.Whole) && true)))))

def tab_rail_sides : List Int := [0, 2, 3, 4]
def tab_rail_passages : List T_rail_passage := [(T_rail_passage.mk 1 0 1 0), (T_rail_passage.mk 1 1 0 0), (T_rail_passage.mk 2 0 1 1), (T_rail_passage.mk 2 0 2 2), (T_rail_passage.mk 2 1 0 1), (T_rail_passage.mk 2 2 0 2), (T_rail_passage.mk 3 0 1 0), (T_rail_passage.mk 3 1 0 0), (T_rail_passage.mk 3 2 3 0), (T_rail_passage.mk 3 3 2 0)]
def GlS : Nat → Option (List PV)
  | 0 => some (tab_rail_sides.flatMap cellsOf)
  | 1 => some (tab_rail_passages.flatMap cellsOf)
  | _ => none

/-! signallinglaw07.Line -/
noncomputable def d_law07_Line_0 : (Int × (List T_api_Element)) → Option ((Int × (List T_api_Element)) ⊕ ((List T_api_Element) ⊕ T_api_Layout)) := fun (x6, x7) =>
  bif decide (x6 < (([(ByteArray.mk #[97]), (ByteArray.mk #[98]), (ByteArray.mk #[99])].length : Nat) : Int)) then (
    (ixO [(ByteArray.mk #[97]), (ByteArray.mk #[98]), (ByteArray.mk #[99])] x6).bind fun x11 =>
    (appO x7 [(T_api_Element.mk x11 1 20000 0 3000 0 x6)]).bind fun x12 =>
    some (.inl (w64 (x6 + 1), x12))
  ) else (
    some (.inr (.inl x7))
  )

noncomputable def d_law07_Line : Option T_api_Layout :=
  onInl (α := (List T_api_Element)) (β := T_api_Layout) (loopO (d_law07_Line_0) (0, ([] : (List T_api_Element)))) fun x10 =>
  some (T_api_Layout.mk (ByteArray.mk #[108, 105, 110, 101]) [(ByteArray.mk #[120]), (ByteArray.mk #[121]), (ByteArray.mk #[122])] x10 [(T_api_Joint.mk (T_api_End.mk 0 1) (T_api_End.mk 1 0)), (T_api_Joint.mk (T_api_End.mk 1 1) (T_api_End.mk 2 0))] [(T_api_Signal.mk (ByteArray.mk #[115, 49]) (T_api_End.mk 0 1) 0), (T_api_Signal.mk (ByteArray.mk #[115, 50]) (T_api_End.mk 1 1) 0)] [])
theorem d_law07_Line_ok (r : T_api_Layout) (h : d_law07_Line = some r) : PCall Go.Proofs.Tryz.prog GlS 15 [] (Enc.pv r) := by
  unfold d_law07_Line at h
  refine pcall_of_pwp Go.Proofs.Tryz.func15 (by rfl) rfl Go.Proofs.Tryz.ntmps15 (by rfl) rfl ?_
  refine pwp_seq (r_reg ?_)
  refine zE ?_
  refine q_next (pwp_seq (r_reg ?_))
  refine zE ?_
  refine q_next (pwp_seq (pwp_seq (r_reg ?_)))
  refine zR 1 ?_
  refine p_len (L := ([(ByteArray.mk #[97]), (ByteArray.mk #[98]), (ByteArray.mk #[99])] : (List ByteArray))) (by kernel_rfl) ?_
  refine zE ?_
  refine q_next (pwp_block ?_)
  refine pwp_wkr (wkr_nilH 1 2 200102 7 64 (cs := [.str (ByteArray.mk #[108, 105, 110, 101]), lstOf .full ([(ByteArray.mk #[120]), (ByteArray.mk #[121]), (ByteArray.mk #[122])] : (List ByteArray)), .nil, .nil, .nil, .nil]) (by kernel_rfl) (by kernel_rfl) (by kernel_rfl)) ?_
  obtain ⟨o8, h8, h⟩ := o_inl h
  refine r_loop2 37 0 (fun (x6, x7) => ⟨[(0, .ref 0 0), (1, .ref 1 0), (6, lstOf .full ([(ByteArray.mk #[97]), (ByteArray.mk #[98]), (ByteArray.mk #[99])] : (List ByteArray))), (7, .int .i64 (([(ByteArray.mk #[97]), (ByteArray.mk #[98]), (ByteArray.mk #[99])].length : Nat) : Int)), (8, .int .i64 x6)], [(0, .cells ([.str ByteArray.empty, .nil, .nil, .nil, .nil, .nil])), (1, .cells ([.str (ByteArray.mk #[108, 105, 110, 101]), lstOf .full ([(ByteArray.mk #[120]), (ByteArray.mk #[121]), (ByteArray.mk #[122])] : (List ByteArray)), lstOf (.own 200102) (x7 : (List T_api_Element)), .nil, .nil, .nil]))], [(200102, (((x7).map cellsOf).length, 7))], []⟩) (fun x10 => ⟨[(0, .ref 0 0), (1, .ref 1 0)], [(0, .cells ([.str ByteArray.empty, .nil, .nil, .nil, .nil, .nil])), (1, .cells ([.str (ByteArray.mk #[108, 105, 110, 101]), lstOf .full ([(ByteArray.mk #[120]), (ByteArray.mk #[121]), (ByteArray.mk #[122])] : (List ByteArray)), lstOf (.own 200102) (x10 : (List T_api_Element)), .nil, .nil, .nil]))], [(200102, (((x10).map cellsOf).length, 7))], []⟩) h8 (by kernel_rfl) (fun _ => by kernel_rfl) ?_ ?_
  · rintro ⟨x6, x7⟩ oh7 h7
    unfold d_law07_Line_0 at h7
    refine pwp_seq (r_reg ?_)
    refine zE ?_
    refine q_next (pwp_seq ?_)
    rcases o_cond h7 with ⟨hb, h7⟩ | ⟨hb, h7⟩
    · refine zT hb ?_
      refine pwp_skip (q_next (pwp_seq (pwp_block (pwp_seq (r_reg ?_)))))
      refine zR 1 ?_
      obtain ⟨x11, h9, h7⟩ := o_bind h7
      refine zI h9 ?_
      refine zE ?_
      refine q_next (r_reg ?_)
      refine zR 6 ?_
      obtain ⟨x12, h10, h7⟩ := o_bind h7
      refine p_app (tk := 200102) h10 (by kernel_rfl) (by kernel_rfl) ?_
      refine zE ?_
      refine q_block (q_next (r_reg ?_))
      refine zE ?_
      cases h7
      exact zB
    refine zU hb ?_
    refine pwp_exit (q_seq_exit ?_)
    cases h7
    exact zX
  rintro x10 s' rfl hs
  have h := o_outl h
  refine q_block_hit ?_
  refine q_next (pwp_wkr hs ?_)
  refine pwp_seq (r_reg ?_)
  refine zE ?_
  refine q_next (pwp_seq (r_reg ?_))
  refine zE ?_
  refine q_next (pwp_seq (r_reg ?_))
  refine zE ?_
  refine q_next (pwp_ret ?_)
  cases h
  exact zQ

/-! signallingref07.names -/
noncomputable def d_ref07_names_0 (a0 : T_api_Layout) : (Int × (List ByteArray)) → Option ((Int × (List ByteArray)) ⊕ ((List ByteArray) ⊕ T_arr3_slice_string)) := fun (x7, x8) =>
  bif decide (x7 < ((a0.Elements.length : Nat) : Int)) then (
    (ixO a0.Elements x7).bind fun x12 =>
    (appO x8 [x12.Name]).bind fun x13 =>
    some (.inl (w64 (x7 + 1), x13))
  ) else (
    some (.inr (.inl x8))
  )

noncomputable def d_ref07_names_1 (a0 : T_api_Layout) : (Int × (List ByteArray)) → Option ((Int × (List ByteArray)) ⊕ ((List ByteArray) ⊕ T_arr3_slice_string)) := fun (x19, x20) =>
  bif decide (x19 < ((a0.Signals.length : Nat) : Int)) then (
    (ixO a0.Signals x19).bind fun x24 =>
    (appO x20 [x24.Name]).bind fun x25 =>
    some (.inl (w64 (x19 + 1), x25))
  ) else (
    some (.inr (.inl x20))
  )

noncomputable def d_ref07_names (a0 : T_api_Layout) : Option T_arr3_slice_string :=
  (appO ([] : (List ByteArray)) a0.Sections).bind fun x1 =>
  onInl (α := (List ByteArray)) (β := T_arr3_slice_string) (loopO (d_ref07_names_0 a0) (0, ([] : (List ByteArray)))) fun x11 =>
  onInl (α := (List ByteArray)) (β := T_arr3_slice_string) (loopO (d_ref07_names_1 a0) (0, ([] : (List ByteArray)))) fun x23 =>
  some (T_arr3_slice_string.mk x1 x11 x23)
theorem d_ref07_names_ok (a0 : T_api_Layout) (r : T_arr3_slice_string) (h : d_ref07_names a0 = some r) : PCall Go.Proofs.Tryz.prog GlS 98 [Enc.pv a0] (Enc.pv r) := by
  unfold d_ref07_names at h
  refine pcall_of_pwp Go.Proofs.Tryz.func98 (by rfl) rfl Go.Proofs.Tryz.ntmps98 (by rfl) rfl ?_
  refine pwp_seq (r_reg ?_)
  refine zE ?_
  refine q_next (pwp_seq (r_reg ?_))
  refine zE ?_
  refine q_next (pwp_seq (r_reg ?_))
  refine zR 4 ?_
  obtain ⟨x1, h1, h⟩ := o_bind h
  refine p_appn (tk := 13) h1 (by kernel_rfl) ?_
  refine zE ?_
  refine q_next (pwp_seq (pwp_seq (r_reg ?_)))
  refine zR 2 ?_
  refine p_len (L := (a0.Elements : (List T_api_Element))) (by kernel_rfl) ?_
  refine zE ?_
  refine q_next (pwp_block ?_)
  refine pwp_wkr (wkr_nilH 3 1 200301 1 16 (cs := [lstOf (.own 13) (x1 : (List ByteArray)), .nil, .nil]) (by kernel_rfl) (by kernel_rfl) (by kernel_rfl)) ?_
  obtain ⟨o9, h9, h⟩ := o_inl h
  refine r_loop2 46 0 (fun (x7, x8) => ⟨[(1, .ref 1 0), (2, .ref 2 0), (3, .ref 3 0), (16, lstOf .frozen (a0.Elements : (List T_api_Element))), (17, .int .i64 ((a0.Elements.length : Nat) : Int)), (18, .int .i64 x7)], [(1, .cells (cellsOf a0)), (2, .cells ([.nil, .nil, .nil])), (3, .cells ([lstOf (.own 13) (x1 : (List ByteArray)), lstOf (.own 200301) (x8 : (List ByteArray)), .nil]))], [(13, (((x1).map cellsOf).length, 1)), (200301, (((x8).map cellsOf).length, 1))], []⟩) (fun x11 => ⟨[(1, .ref 1 0), (2, .ref 2 0), (3, .ref 3 0)], [(1, .cells (cellsOf a0)), (2, .cells ([.nil, .nil, .nil])), (3, .cells ([lstOf (.own 13) (x1 : (List ByteArray)), lstOf (.own 200301) (x11 : (List ByteArray)), .nil]))], [(13, (((x1).map cellsOf).length, 1)), (200301, (((x11).map cellsOf).length, 1))], []⟩) h9 (by kernel_rfl) (fun _ => by kernel_rfl) ?_ ?_
  · rintro ⟨x7, x8⟩ oh8 h8
    unfold d_ref07_names_0 at h8
    refine pwp_seq (r_reg ?_)
    refine zE ?_
    refine q_next (pwp_seq ?_)
    rcases o_cond h8 with ⟨hb, h8⟩ | ⟨hb, h8⟩
    · refine zT hb ?_
      refine pwp_skip (q_next (pwp_seq (pwp_block (pwp_seq (r_reg ?_)))))
      obtain ⟨x12, h10, h8⟩ := o_bind h8
      refine zI h10 ?_
      refine zE ?_
      refine q_next (r_reg ?_)
      refine zR 5 ?_
      obtain ⟨x13, h11, h8⟩ := o_bind h8
      refine p_app (tk := 200301) h11 (by kernel_rfl) (by kernel_rfl) ?_
      refine zE ?_
      refine q_block (q_next (r_reg ?_))
      refine zE ?_
      cases h8
      exact zB
    refine zU hb ?_
    refine pwp_exit (q_seq_exit ?_)
    cases h8
    exact zX
  rintro x11 s' rfl hs
  have h := o_outl h
  refine q_block_hit ?_
  refine q_next (pwp_wkr hs ?_)
  refine pwp_seq (pwp_seq (r_reg ?_))
  refine zR 2 ?_
  refine p_len (L := (a0.Signals : (List T_api_Signal))) (by kernel_rfl) ?_
  refine zE ?_
  refine q_next (pwp_block ?_)
  refine pwp_wkr (wkr_nilH 3 2 200302 1 16 (cs := [lstOf (.own 13) (x1 : (List ByteArray)), lstOf (.own 200301) (x11 : (List ByteArray)), .nil]) (by kernel_rfl) (by kernel_rfl) (by kernel_rfl)) ?_
  obtain ⟨o19, h19, h⟩ := o_inl h
  refine r_loop2 46 2 (fun (x19, x20) => ⟨[(2, .ref 2 0), (3, .ref 3 0), (31, lstOf .frozen (a0.Signals : (List T_api_Signal))), (32, .int .i64 ((a0.Signals.length : Nat) : Int)), (33, .int .i64 x19)], [(2, .cells ([.nil, .nil, .nil])), (3, .cells ([lstOf (.own 13) (x1 : (List ByteArray)), lstOf (.own 200301) (x11 : (List ByteArray)), lstOf (.own 200302) (x20 : (List ByteArray))]))], [(13, (((x1).map cellsOf).length, 1)), (200301, (((x11).map cellsOf).length, 1)), (200302, (((x20).map cellsOf).length, 1))], []⟩) (fun x23 => ⟨[(2, .ref 2 0), (3, .ref 3 0)], [(2, .cells ([.nil, .nil, .nil])), (3, .cells ([lstOf (.own 13) (x1 : (List ByteArray)), lstOf (.own 200301) (x11 : (List ByteArray)), lstOf (.own 200302) (x23 : (List ByteArray))]))], [(13, (((x1).map cellsOf).length, 1)), (200301, (((x11).map cellsOf).length, 1)), (200302, (((x23).map cellsOf).length, 1))], []⟩) h19 (by kernel_rfl) (fun _ => by kernel_rfl) ?_ ?_
  · rintro ⟨x19, x20⟩ oh18 h18
    unfold d_ref07_names_1 at h18
    refine pwp_seq (r_reg ?_)
    refine zE ?_
    refine q_next (pwp_seq ?_)
    rcases o_cond h18 with ⟨hb, h18⟩ | ⟨hb, h18⟩
    · refine zT hb ?_
      refine pwp_skip (q_next (pwp_seq (pwp_block (pwp_seq (r_reg ?_)))))
      obtain ⟨x24, h20, h18⟩ := o_bind h18
      refine zI h20 ?_
      refine zE ?_
      refine q_next (r_reg ?_)
      refine zR 5 ?_
      obtain ⟨x25, h21, h18⟩ := o_bind h18
      refine p_app (tk := 200302) h21 (by kernel_rfl) (by kernel_rfl) ?_
      refine zE ?_
      refine q_block (q_next (r_reg ?_))
      refine zE ?_
      cases h18
      exact zB
    refine zU hb ?_
    refine pwp_exit (q_seq_exit ?_)
    cases h18
    exact zX
  rintro x23 s' rfl hs
  have h := o_outl h
  refine q_block_hit ?_
  refine q_next (pwp_wkr hs ?_)
  refine pwp_seq (r_reg ?_)
  refine zE ?_
  refine q_next (pwp_ret ?_)
  cases h
  exact zQ

/-! signallingref05.Name -/
noncomputable def d_ref05_Name_0 (a0 : ByteArray) : Int → Option (Int ⊕ (Unit ⊕ Bool)) := fun x9 =>
  bif decide (x9 < ((a0.size : Nat) : Int)) then (
    (sixO a0 x9).bind fun x18 =>
    ((bif decide (97 ≤ x18) then (
      (sixO a0 x9).bind fun x20 =>
      some (decide (x20 ≤ 122))
    ) else some false) : Option Bool).bind fun b19 =>
    (sixO a0 x9).bind fun x21 =>
    ((bif decide (48 ≤ x21) then (
      (sixO a0 x9).bind fun x23 =>
      some (decide (x23 ≤ 57))
    ) else some false) : Option Bool).bind fun b22 =>
    ((bif b22 then some true else (
      (sixO a0 x9).bind fun x25 =>
      some (decide (x25 = 95))
    )) : Option Bool).bind fun b24 =>
    bif ((!b19) && ((!b24) || (decide (x9 = 0)))) then (
      some (.inr (.inr false))
    ) else (
      some (.inl (w64 (x9 + 1)))
    )
  ) else (
    some (.inr (.inl ()))
  )

noncomputable def d_ref05_Name (a0 : ByteArray) : Option Bool :=
  onInl (α := Unit) (β := Bool) (loopO (d_ref05_Name_0 a0) 0) fun _ =>
  some ((decide (1 ≤ ((a0.size : Nat) : Int))) && (decide (((a0.size : Nat) : Int) ≤ 12)))
theorem d_ref05_Name_ok (a0 : ByteArray) (r : Bool) (h : d_ref05_Name a0 = some r) : PCall Go.Proofs.Tryz.prog GlS 67 [Enc.pv a0] (Enc.pv r) := by
  unfold d_ref05_Name at h
  refine pcall_of_pwp Go.Proofs.Tryz.func67 (by rfl) rfl Go.Proofs.Tryz.ntmps67 (by rfl) rfl ?_
  refine pwp_seq (r_reg ?_)
  refine zE ?_
  refine q_next (pwp_seq (pwp_seq (r_reg ?_)))
  refine zE ?_
  refine q_next (pwp_block ?_)
  obtain ⟨o20, h20, h⟩ := o_inl h
  refine r_loop2 56 0 (fun x9 => ⟨[(0, .str a0), (3, .int .i64 x9)], [], [], []⟩) (fun (_ : Unit) => ⟨[(0, .str a0)], [], [], []⟩) h20 (by kernel_rfl) (fun _ => by kernel_rfl) ?_ ?_
  · rintro x9 oh19 h19
    unfold d_ref05_Name_0 at h19
    refine pwp_seq (pwp_seq (r_reg ?_))
    refine zE ?_
    refine q_next ?_
    rcases o_cond h19 with ⟨hb, h19⟩ | ⟨hb, h19⟩
    · refine zT hb ?_
      refine pwp_skip (q_next (pwp_seq (pwp_block (pwp_seq (r_reg ?_)))))
      refine zR 2 ?_
      obtain ⟨x18, h21, h19⟩ := o_bind h19
      refine p_six h21 (by kernel_rfl) ?_
      obtain ⟨b19, h22, h19⟩ := o_bind h19
      refine zR 2 ?_
      refine e_seg 5 21 (.bool b19) ?_ ?_
      · rcases o_cond h22 with ⟨hb, h22⟩ | ⟨hb, h22⟩
        · refine zS 16 hb ?_
          refine zR 2 ?_
          obtain ⟨x20, h23, h22⟩ := o_bind h22
          refine p_six h23 (by kernel_rfl) ?_
          cases h22
          exact zF
        refine zS 16 hb ?_
        cases h22
        exact zF
      refine zE ?_
      refine q_next (pwp_seq (r_reg ?_))
      refine zR 2 ?_
      obtain ⟨x21, h24, h19⟩ := o_bind h19
      refine p_six h24 (by kernel_rfl) ?_
      obtain ⟨b22, h25, h19⟩ := o_bind h19
      refine zR 2 ?_
      refine e_seg 5 31 (.bool b22) ?_ ?_
      · rcases o_cond h25 with ⟨hb, h25⟩ | ⟨hb, h25⟩
        · refine zS 26 hb ?_
          refine zR 2 ?_
          obtain ⟨x23, h26, h25⟩ := o_bind h25
          refine p_six h26 (by kernel_rfl) ?_
          cases h25
          exact zF
        refine zS 26 hb ?_
        cases h25
        exact zF
      obtain ⟨b24, h27, h19⟩ := o_bind h19
      refine zR 1 ?_
      refine e_seg 5 37 (.bool b24) ?_ ?_
      · rcases o_cond h27 with ⟨hb, h27⟩ | ⟨hb, h27⟩
        · refine zS 32 hb ?_
          cases h27
          exact zF
        refine zS 32 hb ?_
        refine zR 2 ?_
        obtain ⟨x25, h28, h27⟩ := o_bind h27
        refine p_six h28 (by kernel_rfl) ?_
        cases h27
        exact zF
      refine zE ?_
      refine q_next (pwp_seq (r_reg ?_))
      refine zR 3 ?_
      refine e_segb 7 47 ((!b19) && ((!b24) || (decide (x9 = 0)))) (fun x hx => ?_) ?_
      · rcases b_and hx with ⟨hb, hx⟩ | ⟨hb, hx⟩
        · refine zS 40 hb ?_
          refine zR 3 ?_
          refine f_segb 3 46 ((!b24) || (decide (x9 = 0))) (fun x hx => ?_) ?_
          · rcases b_or hx with ⟨hb, hx⟩ | ⟨hb, hx⟩
            · refine zS 43 hb ?_
              subst hx
              exact zF
            refine zS 43 hb ?_
            subst hx
            exact zF
          subst hx
          exact zF
        refine zS 40 hb ?_
        subst hx
        exact zF
      refine zN ?_
      refine q_next ?_
      rcases o_cond h19 with ⟨hb, h19⟩ | ⟨hb, h19⟩
      · refine zT hb ?_
        refine pwp_seq (r_reg ?_)
        refine zE ?_
        refine q_next (pwp_ret (q_block_ret (q_seq_ret ?_)))
        cases h19
        refine q_lout_ret fun he => ?_
        subst he
        have h29 := o_outr h
        refine q_block_ret (q_seq_ret ?_)
        cases h29
        exact zQ
      refine zU hb ?_
      refine pwp_skip (q_block (q_next (r_reg ?_)))
      refine zE ?_
      cases h19
      exact zB
    refine zU hb ?_
    refine pwp_exit (q_seq_exit ?_)
    cases h19
    exact zX
  rintro _ s' rfl hs
  have h := o_outl h
  refine q_block_hit ?_
  refine q_next (pwp_wkr hs ?_)
  refine pwp_seq (r_reg ?_)
  refine zR 4 ?_
  refine e_segb 4 55 ((decide (1 ≤ ((a0.size : Nat) : Int))) && (decide (((a0.size : Nat) : Int) ≤ 12))) (fun x hx => ?_) ?_
  · rcases b_and hx with ⟨hb, hx⟩ | ⟨hb, hx⟩
    · refine zS 51 hb ?_
      subst hx
      exact zF
    refine zS 51 hb ?_
    subst hx
    exact zF
  refine zE ?_
  refine q_next (pwp_ret ?_)
  cases h
  exact zQ

/-! signallingref07.texts -/
noncomputable def d_ref07_texts_1 (a0 : (List ByteArray)) (x8 : Int) : Int → Option (Int ⊕ (Unit ⊕ (Int ⊕ (Unit ⊕ Bool)))) := fun x18 =>
  bif decide (x18 < x8) then (
    (ixO a0 x8).bind fun x21 =>
    (ixO a0 x18).bind fun x22 =>
    bif decide (x21 = x22) then (
      some (.inr (.inr (.inr (.inr true))))
    ) else (
      some (.inl (w64 (x18 + 1)))
    )
  ) else (
    some (.inr (.inl ()))
  )

noncomputable def d_ref07_texts_0 (a0 : (List ByteArray)) : Int → Option (Int ⊕ (Unit ⊕ Bool)) := fun x8 =>
  bif decide (x8 < ((a0.length : Nat) : Int)) then (
    onInl (α := Unit) (β := (Int ⊕ (Unit ⊕ Bool))) (loopO (d_ref07_texts_1 a0 x8) 0) fun _ =>
    some (.inl (w64 (x8 + 1)))
  ) else (
    some (.inr (.inl ()))
  )

noncomputable def d_ref07_texts (a0 : (List ByteArray)) : Option Bool :=
  onInl (α := Unit) (β := Bool) (loopO (d_ref07_texts_0 a0) 0) fun _ =>
  some false
theorem d_ref07_texts_ok (a0 : (List ByteArray)) (r : Bool) (h : d_ref07_texts a0 = some r) : PCall Go.Proofs.Tryz.prog GlS 99 [Enc.pv a0] (Enc.pv r) := by
  unfold d_ref07_texts at h
  refine pcall_of_pwp Go.Proofs.Tryz.func99 (by rfl) rfl Go.Proofs.Tryz.ntmps99 (by rfl) rfl ?_
  refine pwp_seq (r_reg ?_)
  refine zE ?_
  refine q_next (pwp_seq (pwp_seq (r_reg ?_)))
  refine zR 1 ?_
  refine p_len (L := (a0 : (List ByteArray))) (by kernel_rfl) ?_
  refine zE ?_
  refine q_next (pwp_block ?_)
  obtain ⟨o30, h30, h⟩ := o_inl h
  refine r_loop2 25 0 (fun x8 => ⟨[(0, lstOf .frozen (a0 : (List ByteArray))), (6, .int .i64 ((a0.length : Nat) : Int)), (7, .int .i64 x8)], [], [], []⟩) (fun (_ : Unit) => ⟨[], [], [], []⟩) h30 (by kernel_rfl) (fun _ => by kernel_rfl) ?_ ?_
  · rintro x8 oh29 h29
    unfold d_ref07_texts_0 at h29
    refine pwp_seq (r_reg ?_)
    refine zE ?_
    refine q_next (pwp_seq ?_)
    rcases o_cond h29 with ⟨hb, h29⟩ | ⟨hb, h29⟩
    · refine zT hb ?_
      refine pwp_skip (q_next (pwp_seq (pwp_block (pwp_seq (r_reg ?_)))))
      refine zE ?_
      refine q_next (pwp_seq (r_reg ?_))
      refine zE ?_
      refine q_next (pwp_block ?_)
      obtain ⟨o40, h40, h29⟩ := o_inl h29
      refine r_loop2 25 2 (fun x18 => ⟨[(0, lstOf .frozen (a0 : (List ByteArray))), (3, .int .i64 x8), (6, .int .i64 ((a0.length : Nat) : Int)), (7, .int .i64 x8), (10, .int .i64 x8), (11, .int .i64 x18)], [], [], []⟩) (fun (_ : Unit) => ⟨[(0, lstOf .frozen (a0 : (List ByteArray))), (6, .int .i64 ((a0.length : Nat) : Int)), (7, .int .i64 x8)], [], [], []⟩) h40 (by kernel_rfl) (fun _ => by kernel_rfl) ?_ ?_
      · rintro x18 oh39 h39
        unfold d_ref07_texts_1 at h39
        refine pwp_seq (r_reg ?_)
        refine zE ?_
        refine q_next (pwp_seq ?_)
        rcases o_cond h39 with ⟨hb, h39⟩ | ⟨hb, h39⟩
        · refine zT hb ?_
          refine pwp_skip (q_next (pwp_seq (pwp_block (pwp_seq (r_reg ?_)))))
          refine zE ?_
          refine q_next (pwp_seq ?_)
          refine r_regd (by kernel_rfl) (by kernel_rfl) ?_
          refine zR 2 ?_
          obtain ⟨x21, h41, h39⟩ := o_bind h39
          refine zI h41 ?_
          refine zR 3 ?_
          obtain ⟨x22, h42, h39⟩ := o_bind h39
          refine zI h42 ?_
          refine zE ?_
          refine q_next ?_
          rcases o_cond h39 with ⟨hb, h39⟩ | ⟨hb, h39⟩
          · refine zT hb ?_
            refine pwp_seq (r_reg ?_)
            refine zE ?_
            refine q_next (pwp_ret (q_block_ret (q_seq_ret ?_)))
            cases h39
            refine q_lout_ret fun he => ?_
            subst he
            have h43 := o_outr h29
            refine q_block_ret (q_block_ret (q_seq_ret ?_))
            cases h43
            refine q_lout_ret fun he => ?_
            subst he
            have h44 := o_outr h
            refine q_block_ret (q_seq_ret ?_)
            cases h44
            exact zQ
          refine zU hb ?_
          refine pwp_skip (q_block (q_next (r_reg ?_)))
          refine zE ?_
          cases h39
          exact zB
        refine zU hb ?_
        refine pwp_exit (q_seq_exit ?_)
        cases h39
        exact zX
      rintro _ s' rfl hs
      have h29 := o_outl h29
      refine q_block_hit (q_block ?_)
      refine q_next (pwp_wkr hs ?_)
      refine r_reg ?_
      refine zE ?_
      cases h29
      exact zB
    refine zU hb ?_
    refine pwp_exit (q_seq_exit ?_)
    cases h29
    exact zX
  rintro _ s' rfl hs
  have h := o_outl h
  refine q_block_hit ?_
  refine q_next (pwp_wkr hs ?_)
  refine pwp_seq (r_reg ?_)
  refine zE ?_
  refine q_next (pwp_ret ?_)
  cases h
  exact zQ

/-! signallingref07.named -/
noncomputable def d_ref07_named_0 (x9 : (List ByteArray)) : Int → Option (Int ⊕ (Unit ⊕ Int)) := fun x12 =>
  bif decide (x12 < ((x9.length : Nat) : Int)) then (
    (ixO x9 x12).bind fun x15 =>
    (d_ref05_Name x15).bind fun r16 =>
    bif (!r16) then (
      some (.inr (.inr 3))
    ) else (
      some (.inl (w64 (x12 + 1)))
    )
  ) else (
    some (.inr (.inl ()))
  )

noncomputable def d_ref07_named (a0 : T_api_Layout) : Option Int :=
  ((bif decide (((a0.Elements.length : Nat) : Int) < 1) then some true else (
    some (decide (32 < ((a0.Elements.length : Nat) : Int)))
  )) : Option Bool).bind fun b1 =>
  ((bif b1 then some true else (
    some (decide (((a0.Sections.length : Nat) : Int) < 1))
  )) : Option Bool).bind fun b2 =>
  ((bif b2 then some true else (
    some (decide (24 < ((a0.Sections.length : Nat) : Int)))
  )) : Option Bool).bind fun b3 =>
  ((bif b3 then some true else (
    some (decide (20 < ((a0.Signals.length : Nat) : Int)))
  )) : Option Bool).bind fun b4 =>
  ((bif b4 then some true else (
    some (decide (24 < ((a0.Balises.length : Nat) : Int)))
  )) : Option Bool).bind fun b5 =>
  bif b5 then (
    some 2
  ) else (
    (d_ref07_names a0).bind fun r6 =>
    (appO [a0.Name] r6.x0).bind fun x7 =>
    (appO x7 r6.x1).bind fun x8 =>
    (appO x8 r6.x2).bind fun x9 =>
    onInl (α := Unit) (β := Int) (loopO (d_ref07_named_0 x9) 0) fun _ =>
    (d_ref07_texts r6.x0).bind fun r17 =>
    ((bif r17 then some true else (
      (d_ref07_texts r6.x1).bind fun r19 =>
      some r19
    )) : Option Bool).bind fun b18 =>
    ((bif b18 then some true else (
      (d_ref07_texts r6.x2).bind fun r21 =>
      some r21
    )) : Option Bool).bind fun b20 =>
    bif b20 then (
      some 8
    ) else (
      some 0
    )
  )
theorem d_ref07_named_ok (a0 : T_api_Layout) (r : Int) (h : d_ref07_named a0 = some r) : PCall Go.Proofs.Tryz.prog GlS 63 [Enc.pv a0] (Enc.pv r) := by
  unfold d_ref07_named at h
  refine pcall_of_pwp Go.Proofs.Tryz.func63 (by rfl) rfl Go.Proofs.Tryz.ntmps63 (by rfl) rfl ?_
  refine pwp_seq (r_reg ?_)
  refine zE ?_
  refine q_next (pwp_seq (pwp_seq (r_reg ?_)))
  refine zR 2 ?_
  refine p_len (L := (a0.Elements : (List T_api_Element))) (by kernel_rfl) ?_
  obtain ⟨b1, h1, h⟩ := o_bind h
  refine zR 2 ?_
  refine e_seg 5 15 (.bool b1) ?_ ?_
  · rcases o_cond h1 with ⟨hb, h1⟩ | ⟨hb, h1⟩
    · refine zS 10 hb ?_
      cases h1
      exact zF
    refine zS 10 hb ?_
    refine zR 2 ?_
    refine p_len (L := (a0.Elements : (List T_api_Element))) (by kernel_rfl) ?_
    cases h1
    exact zF
  obtain ⟨b2, h2, h⟩ := o_bind h
  refine zR 1 ?_
  refine e_seg 5 21 (.bool b2) ?_ ?_
  · rcases o_cond h2 with ⟨hb, h2⟩ | ⟨hb, h2⟩
    · refine zS 16 hb ?_
      cases h2
      exact zF
    refine zS 16 hb ?_
    refine zR 2 ?_
    refine p_len (L := (a0.Sections : (List ByteArray))) (by kernel_rfl) ?_
    cases h2
    exact zF
  obtain ⟨b3, h3, h⟩ := o_bind h
  refine zR 1 ?_
  refine e_seg 5 27 (.bool b3) ?_ ?_
  · rcases o_cond h3 with ⟨hb, h3⟩ | ⟨hb, h3⟩
    · refine zS 22 hb ?_
      cases h3
      exact zF
    refine zS 22 hb ?_
    refine zR 2 ?_
    refine p_len (L := (a0.Sections : (List ByteArray))) (by kernel_rfl) ?_
    cases h3
    exact zF
  obtain ⟨b4, h4, h⟩ := o_bind h
  refine zR 1 ?_
  refine e_seg 5 33 (.bool b4) ?_ ?_
  · rcases o_cond h4 with ⟨hb, h4⟩ | ⟨hb, h4⟩
    · refine zS 28 hb ?_
      cases h4
      exact zF
    refine zS 28 hb ?_
    refine zR 2 ?_
    refine p_len (L := (a0.Signals : (List T_api_Signal))) (by kernel_rfl) ?_
    cases h4
    exact zF
  obtain ⟨b5, h5, h⟩ := o_bind h
  refine zR 1 ?_
  refine e_seg 5 39 (.bool b5) ?_ ?_
  · rcases o_cond h5 with ⟨hb, h5⟩ | ⟨hb, h5⟩
    · refine zS 34 hb ?_
      cases h5
      exact zF
    refine zS 34 hb ?_
    refine zR 2 ?_
    refine p_len (L := (a0.Balises : (List T_api_Balise))) (by kernel_rfl) ?_
    cases h5
    exact zF
  refine zN ?_
  refine q_next ?_
  rcases o_cond h with ⟨hb, h⟩ | ⟨hb, h⟩
  · refine zT hb ?_
    refine pwp_seq (r_reg ?_)
    refine zE ?_
    refine q_next (pwp_ret (q_seq_ret ?_))
    cases h
    exact zQ
  refine zU hb ?_
  refine pwp_skip (q_next (pwp_seq (r_reg ?_)))
  refine zR 1 ?_
  obtain ⟨r6, h6, h⟩ := o_bind h
  refine p_call (d_ref07_names_ok _ r6 h6) (by kernel_rfl) (by kernel_rfl) ?_
  refine zE ?_
  refine q_next (pwp_seq (pwp_seq ?_))
  refine r_regd (by kernel_rfl) (by kernel_rfl) ?_
  refine zR 5 ?_
  obtain ⟨x7, h7, h⟩ := o_bind h
  refine p_appn (tk := 47) h7 (by kernel_rfl) ?_
  refine zR 2 ?_
  obtain ⟨x8, h8, h⟩ := o_bind h
  refine p_app (tk := 47) h8 (by kernel_rfl) (by kernel_rfl) ?_
  refine zR 2 ?_
  obtain ⟨x9, h9, h⟩ := o_bind h
  refine p_app (tk := 47) h9 (by kernel_rfl) (by kernel_rfl) ?_
  refine p_len (L := (x9 : (List ByteArray))) (by kernel_rfl) ?_
  refine zE ?_
  refine q_next (pwp_block ?_)
  obtain ⟨o17, h17, h⟩ := o_inl h
  refine r_loop2 76 0 (fun x12 => ⟨[(3, .ref 3 0), (53, lstOf (.own 47) (x9 : (List ByteArray))), (54, .int .i64 ((x9.length : Nat) : Int)), (55, .int .i64 x12)], [(3, .cells (cellsOf r6))], [(47, (((x9).map cellsOf).length, 1))], []⟩) (fun (_ : Unit) => ⟨[(3, .ref 3 0)], [(3, .cells (cellsOf r6))], [], []⟩) h17 (by kernel_rfl) (fun _ => by kernel_rfl) ?_ ?_
  · rintro x12 oh16 h16
    unfold d_ref07_named_0 at h16
    refine pwp_seq (r_reg ?_)
    refine zE ?_
    refine q_next (pwp_seq ?_)
    rcases o_cond h16 with ⟨hb, h16⟩ | ⟨hb, h16⟩
    · refine zT hb ?_
      refine pwp_skip (q_next (pwp_seq (pwp_block (pwp_seq (r_reg ?_)))))
      obtain ⟨x15, h18, h16⟩ := o_bind h16
      refine zI h18 ?_
      refine zE ?_
      refine q_next (pwp_seq (r_reg ?_))
      refine zR 1 ?_
      obtain ⟨r16, h19, h16⟩ := o_bind h16
      refine p_call (d_ref05_Name_ok _ r16 h19) (by kernel_rfl) (by kernel_rfl) ?_
      refine zE ?_
      refine q_next ?_
      rcases o_cond h16 with ⟨hb, h16⟩ | ⟨hb, h16⟩
      · refine zT hb ?_
        refine pwp_seq (r_reg ?_)
        refine zE ?_
        refine q_next (pwp_ret (q_block_ret (q_seq_ret ?_)))
        cases h16
        refine q_lout_ret fun he => ?_
        subst he
        have h20 := o_outr h
        refine q_block_ret (q_seq_ret ?_)
        cases h20
        exact zQ
      refine zU hb ?_
      refine pwp_skip (q_block (q_next (r_reg ?_)))
      refine zE ?_
      cases h16
      exact zB
    refine zU hb ?_
    refine pwp_exit (q_seq_exit ?_)
    cases h16
    exact zX
  rintro _ s' rfl hs
  have h := o_outl h
  refine q_block_hit ?_
  refine q_next (pwp_wkr hs ?_)
  refine pwp_seq (pwp_seq (r_reg ?_))
  refine zR 2 ?_
  obtain ⟨r17, h21, h⟩ := o_bind h
  refine p_call (d_ref07_texts_ok _ r17 h21) (by kernel_rfl) (by kernel_rfl) ?_
  obtain ⟨b18, h22, h⟩ := o_bind h
  refine zR 1 ?_
  refine e_seg 4 70 (.bool b18) ?_ ?_
  · rcases o_cond h22 with ⟨hb, h22⟩ | ⟨hb, h22⟩
    · refine zS 66 hb ?_
      cases h22
      exact zF
    refine zS 66 hb ?_
    refine zR 2 ?_
    obtain ⟨r19, h23, h22⟩ := o_bind h22
    refine p_call (d_ref07_texts_ok _ r19 h23) (by kernel_rfl) (by kernel_rfl) ?_
    cases h22
    exact zF
  obtain ⟨b20, h24, h⟩ := o_bind h
  refine zR 1 ?_
  refine e_seg 4 75 (.bool b20) ?_ ?_
  · rcases o_cond h24 with ⟨hb, h24⟩ | ⟨hb, h24⟩
    · refine zS 71 hb ?_
      cases h24
      exact zF
    refine zS 71 hb ?_
    refine zR 2 ?_
    obtain ⟨r21, h25, h24⟩ := o_bind h24
    refine p_call (d_ref07_texts_ok _ r21 h25) (by kernel_rfl) (by kernel_rfl) ?_
    cases h24
    exact zF
  refine zN ?_
  refine q_next ?_
  rcases o_cond h with ⟨hb, h⟩ | ⟨hb, h⟩
  · refine zT hb ?_
    refine pwp_seq (r_reg ?_)
    refine zE ?_
    refine q_next (pwp_ret (q_seq_ret ?_))
    cases h
    exact zQ
  refine zU hb ?_
  refine pwp_skip (q_next (pwp_seq (r_reg ?_)))
  refine zE ?_
  refine q_next (pwp_ret ?_)
  cases h
  exact zQ

/-! signallingref07.right -/
noncomputable def d_ref07_right (a0 : T_api_Layout) (a1 : T_api_Element) : Option Bool :=
  ((bif (((((((((decide (a1.Kind < 1)) || (decide (3 < a1.Kind))) || (decide (a1.Length < 500))) || (decide (1000000 < a1.Length))) || (decide (a1.Grade < (-50)))) || (decide (50 < a1.Grade))) || (decide (a1.Speed < 100))) || (decide (10000 < a1.Speed))) || (decide (a1.Section < 0))) then some true else (
    some (decide (((a0.Sections.length : Nat) : Int) ≤ a1.Section))
  )) : Option Bool).bind fun b1 =>
  bif b1 then (
    some false
  ) else (
    bif decide (a1.Kind = 2) then (
      some ((decide (100 ≤ a1.Slow)) && (decide (a1.Slow ≤ a1.Speed)))
    ) else (
      some (decide (a1.Slow = 0))
    )
  )
theorem d_ref07_right_ok (a0 : T_api_Layout) (a1 : T_api_Element) (r : Bool) (h : d_ref07_right a0 a1 = some r) : PCall Go.Proofs.Tryz.prog GlS 100 [Enc.pv a0, Enc.pv a1] (Enc.pv r) := by
  unfold d_ref07_right at h
  refine pcall_of_pwp Go.Proofs.Tryz.func100 (by rfl) rfl Go.Proofs.Tryz.ntmps100 (by rfl) rfl ?_
  refine pwp_seq (r_reg ?_)
  refine zE ?_
  refine q_next (pwp_seq (pwp_seq (r_reg ?_)))
  refine zR 4 ?_
  refine e_segb 4 12 ((decide (a1.Kind < 1)) || (decide (3 < a1.Kind))) (fun x hx => ?_) ?_
  · rcases b_or hx with ⟨hb, hx⟩ | ⟨hb, hx⟩
    · refine zS 8 hb ?_
      subst hx
      exact zF
    refine zS 8 hb ?_
    subst hx
    exact zF
  refine zR 1 ?_
  refine e_segb 4 17 (((decide (a1.Kind < 1)) || (decide (3 < a1.Kind))) || (decide (a1.Length < 500))) (fun x hx => ?_) ?_
  · rcases b_or hx with ⟨hb, hx⟩ | ⟨hb, hx⟩
    · refine zS 13 hb ?_
      subst hx
      exact zF
    refine zS 13 hb ?_
    subst hx
    exact zF
  refine zR 1 ?_
  refine e_segb 4 22 ((((decide (a1.Kind < 1)) || (decide (3 < a1.Kind))) || (decide (a1.Length < 500))) || (decide (1000000 < a1.Length))) (fun x hx => ?_) ?_
  · rcases b_or hx with ⟨hb, hx⟩ | ⟨hb, hx⟩
    · refine zS 18 hb ?_
      subst hx
      exact zF
    refine zS 18 hb ?_
    subst hx
    exact zF
  refine zR 1 ?_
  refine e_segb 4 27 (((((decide (a1.Kind < 1)) || (decide (3 < a1.Kind))) || (decide (a1.Length < 500))) || (decide (1000000 < a1.Length))) || (decide (a1.Grade < (-50)))) (fun x hx => ?_) ?_
  · rcases b_or hx with ⟨hb, hx⟩ | ⟨hb, hx⟩
    · refine zS 23 hb ?_
      subst hx
      exact zF
    refine zS 23 hb ?_
    subst hx
    exact zF
  refine zR 1 ?_
  refine e_segb 4 32 ((((((decide (a1.Kind < 1)) || (decide (3 < a1.Kind))) || (decide (a1.Length < 500))) || (decide (1000000 < a1.Length))) || (decide (a1.Grade < (-50)))) || (decide (50 < a1.Grade))) (fun x hx => ?_) ?_
  · rcases b_or hx with ⟨hb, hx⟩ | ⟨hb, hx⟩
    · refine zS 28 hb ?_
      subst hx
      exact zF
    refine zS 28 hb ?_
    subst hx
    exact zF
  refine zR 1 ?_
  refine e_segb 4 37 (((((((decide (a1.Kind < 1)) || (decide (3 < a1.Kind))) || (decide (a1.Length < 500))) || (decide (1000000 < a1.Length))) || (decide (a1.Grade < (-50)))) || (decide (50 < a1.Grade))) || (decide (a1.Speed < 100))) (fun x hx => ?_) ?_
  · rcases b_or hx with ⟨hb, hx⟩ | ⟨hb, hx⟩
    · refine zS 33 hb ?_
      subst hx
      exact zF
    refine zS 33 hb ?_
    subst hx
    exact zF
  refine zR 1 ?_
  refine e_segb 4 42 ((((((((decide (a1.Kind < 1)) || (decide (3 < a1.Kind))) || (decide (a1.Length < 500))) || (decide (1000000 < a1.Length))) || (decide (a1.Grade < (-50)))) || (decide (50 < a1.Grade))) || (decide (a1.Speed < 100))) || (decide (10000 < a1.Speed))) (fun x hx => ?_) ?_
  · rcases b_or hx with ⟨hb, hx⟩ | ⟨hb, hx⟩
    · refine zS 38 hb ?_
      subst hx
      exact zF
    refine zS 38 hb ?_
    subst hx
    exact zF
  refine zR 1 ?_
  refine e_segb 4 47 (((((((((decide (a1.Kind < 1)) || (decide (3 < a1.Kind))) || (decide (a1.Length < 500))) || (decide (1000000 < a1.Length))) || (decide (a1.Grade < (-50)))) || (decide (50 < a1.Grade))) || (decide (a1.Speed < 100))) || (decide (10000 < a1.Speed))) || (decide (a1.Section < 0))) (fun x hx => ?_) ?_
  · rcases b_or hx with ⟨hb, hx⟩ | ⟨hb, hx⟩
    · refine zS 43 hb ?_
      subst hx
      exact zF
    refine zS 43 hb ?_
    subst hx
    exact zF
  obtain ⟨b1, h1, h⟩ := o_bind h
  refine zR 1 ?_
  refine e_seg 7 55 (.bool b1) ?_ ?_
  · rcases o_cond h1 with ⟨hb, h1⟩ | ⟨hb, h1⟩
    · refine zS 48 hb ?_
      cases h1
      exact zF
    refine zS 48 hb ?_
    refine zR 4 ?_
    refine p_len (L := (a0.Sections : (List ByteArray))) (by kernel_rfl) ?_
    cases h1
    exact zF
  refine zN ?_
  refine q_next ?_
  rcases o_cond h with ⟨hb, h⟩ | ⟨hb, h⟩
  · refine zT hb ?_
    refine pwp_seq (r_reg ?_)
    refine zE ?_
    refine q_next (pwp_ret (q_seq_ret ?_))
    cases h
    exact zQ
  refine zU hb ?_
  refine pwp_skip (q_next (pwp_seq (pwp_seq (r_reg ?_))))
  refine zE ?_
  refine q_next ?_
  rcases o_cond h with ⟨hb, h⟩ | ⟨hb, h⟩
  · refine zT hb ?_
    refine pwp_seq (r_reg ?_)
    refine zR 4 ?_
    refine e_segb 6 68 ((decide (100 ≤ a1.Slow)) && (decide (a1.Slow ≤ a1.Speed))) (fun x hx => ?_) ?_
    · rcases b_and hx with ⟨hb, hx⟩ | ⟨hb, hx⟩
      · refine zS 62 hb ?_
        subst hx
        exact zF
      refine zS 62 hb ?_
      subst hx
      exact zF
    refine zE ?_
    refine q_next (pwp_ret (q_seq_ret ?_))
    cases h
    exact zQ
  refine zU hb ?_
  refine pwp_skip (q_next (pwp_seq (r_reg ?_)))
  refine zE ?_
  refine q_next (pwp_ret ?_)
  cases h
  exact zQ

/-! signallingref07.Members -/
noncomputable def d_ref07_Members_0 (a0 : T_api_Layout) (a1 : Int) : (Int × (List Int)) → Option ((Int × (List Int)) ⊕ ((List Int) ⊕ (List Int))) := fun (x16, x17) =>
  bif decide (x16 < ((a0.Elements.length : Nat) : Int)) then (
    onInl (α := (List Int)) (β := ((Int × (List Int)) ⊕ ((List Int) ⊕ (List Int)))) (
      (ixO a0.Elements x16).bind fun x30 =>
      ((bif ((decide (x30.Section = a1)) && (decide (0 ≤ a1))) then (
        some (decide (a1 < ((a0.Sections.length : Nat) : Int)))
      ) else some false) : Option Bool).bind fun b31 =>
      bif b31 then (
        (appO x17 [x16]).bind fun x32 =>
        some (.inl x32)
      ) else (
        some (.inl x17)
      )
    ) fun x29 =>
    some (.inl (w64 (x16 + 1), x29))
  ) else (
    some (.inr (.inl x17))
  )

noncomputable def d_ref07_Members (a0 : T_api_Layout) (a1 : Int) : Option (List Int) :=
  onInl (α := (List Int)) (β := (List Int)) (loopO (d_ref07_Members_0 a0 a1) (0, ([] : (List Int)))) fun x25 =>
  some x25
theorem d_ref07_Members_ok (a0 : T_api_Layout) (a1 : Int) (r : (List Int)) (h : d_ref07_Members a0 a1 = some r) : PCall Go.Proofs.Tryz.prog GlS 101 [Enc.pv a0, Enc.pv a1] (lstOf (.own 100005) r) := by
  unfold d_ref07_Members at h
  refine pcall_of_pwp Go.Proofs.Tryz.func101 (by rfl) rfl Go.Proofs.Tryz.ntmps101 (by rfl) rfl ?_
  refine pwp_seq (r_reg ?_)
  refine zE ?_
  refine q_next (pwp_seq (r_reg ?_))
  refine zE ?_
  refine q_next (pwp_seq (pwp_seq (r_reg ?_)))
  refine zR 2 ?_
  refine p_len (L := (a0.Elements : (List T_api_Element))) (by kernel_rfl) ?_
  refine zE ?_
  refine q_next (pwp_block ?_)
  refine g_nil 5 100005 1 8 (by kernel_rfl) (by kernel_rfl) ?_
  obtain ⟨o23, h23, h⟩ := o_inl h
  refine r_loop2 37 0 (fun (x16, x17) => ⟨[(1, .int .i64 a1), (2, .ref 2 0), (5, lstOf (.own 100005) (x17 : (List Int))), (9, lstOf .frozen (a0.Elements : (List T_api_Element))), (10, .int .i64 ((a0.Elements.length : Nat) : Int)), (11, .int .i64 x16)], [(2, .cells (cellsOf a0))], [(100005, (((x17).map cellsOf).length, 1))], []⟩) (fun x25 => ⟨[(5, lstOf (.own 100005) (x25 : (List Int)))], [], [(100005, (((x25).map cellsOf).length, 1))], []⟩) h23 (by kernel_rfl) (fun _ => by kernel_rfl) ?_ ?_
  · rintro ⟨x16, x17⟩ oh22 h22
    unfold d_ref07_Members_0 at h22
    refine pwp_seq (r_reg ?_)
    refine zE ?_
    refine q_next (pwp_seq ?_)
    rcases o_cond h22 with ⟨hb, h22⟩ | ⟨hb, h22⟩
    · refine zT hb ?_
      refine pwp_skip (q_next ?_)
      obtain ⟨o27, h27, h22⟩ := o_inl h22
      refine r_join (o := o27) 37 (fun x29 => ⟨[(1, .int .i64 a1), (2, .ref 2 0), (5, lstOf (.own 100005) (x29 : (List Int))), (9, lstOf .frozen (a0.Elements : (List T_api_Element))), (10, .int .i64 ((a0.Elements.length : Nat) : Int)), (11, .int .i64 x16)], [(2, .cells (cellsOf a0))], [(100005, (((x29).map cellsOf).length, 1))], []⟩) ?_ ?_
      · refine pwp_block (pwp_seq (r_reg ?_))
        refine zR 1 ?_
        obtain ⟨x30, h28, h27⟩ := o_bind h27
        refine zI h28 ?_
        refine zE ?_
        refine q_next (pwp_seq (r_reg ?_))
        refine zR 5 ?_
        refine e_segb 3 23 ((decide (x30.Section = a1)) && (decide (0 ≤ a1))) (fun x hx => ?_) ?_
        · rcases b_and hx with ⟨hb, hx⟩ | ⟨hb, hx⟩
          · refine zS 20 hb ?_
            subst hx
            exact zF
          refine zS 20 hb ?_
          subst hx
          exact zF
        obtain ⟨b31, h29, h27⟩ := o_bind h27
        refine zR 1 ?_
        refine e_seg 6 30 (.bool b31) ?_ ?_
        · rcases o_cond h29 with ⟨hb, h29⟩ | ⟨hb, h29⟩
          · refine zS 24 hb ?_
            refine zR 3 ?_
            refine p_len (L := (a0.Sections : (List ByteArray))) (by kernel_rfl) ?_
            cases h29
            exact zF
          refine zS 24 hb ?_
          cases h29
          exact zF
        refine zN ?_
        refine q_next ?_
        rcases o_cond h27 with ⟨hb, h27⟩ | ⟨hb, h27⟩
        · refine zT hb ?_
          refine r_reg ?_
          refine zR 3 ?_
          obtain ⟨x32, h30, h27⟩ := o_bind h27
          refine p_app (tk := 100005) h30 (by kernel_rfl) (by kernel_rfl) ?_
          refine zE ?_
          refine q_block ?_
          cases h27
          exact zJ
        refine zU hb ?_
        refine pwp_skip (q_block ?_)
        cases h27
        exact zJ
      rintro x29 rfl
      have h22 := o_outl h22
      refine r_reg ?_
      refine zE ?_
      cases h22
      exact zB
    refine zU hb ?_
    refine pwp_exit (q_seq_exit ?_)
    cases h22
    exact zX
  rintro x25 s' rfl hs
  have h := o_outl h
  refine q_block_hit ?_
  refine q_next (pwp_wkr hs ?_)
  refine pwp_seq (r_reg ?_)
  refine zE ?_
  refine q_next (pwp_ret ?_)
  cases h
  exact zQ
theorem d_ref07_Members_fz (a0 : T_api_Layout) (a1 : Int) (r : (List Int)) (h : d_ref07_Members a0 a1 = some r) : PCall Go.Proofs.Tryz.prog GlS 101 [Enc.pv a0, Enc.pv a1] (Enc.pv r) :=
  (d_ref07_Members_ok a0 a1 r h).freeze (by kernel_rfl) (by kernel_rfl) (by kernel_rfl)

/-! signallingref06.Sides -/
noncomputable def d_ref06_Sides (a0 : Int) : Option Int :=
  bif decide (a0 = 1) then (
    some 2
  ) else (
    bif decide (a0 = 2) then (
      some 3
    ) else (
      bif decide (a0 = 3) then (
        some 4
      ) else (
        some 0
      )
    )
  )
theorem d_ref06_Sides_ok (a0 : Int) (r : Int) (h : d_ref06_Sides a0 = some r) : PCall Go.Proofs.Tryz.prog GlS 125 [Enc.pv a0] (Enc.pv r) := by
  unfold d_ref06_Sides at h
  refine pcall_of_pwp Go.Proofs.Tryz.func125 (by rfl) rfl Go.Proofs.Tryz.ntmps125 (by rfl) rfl ?_
  refine pwp_seq (r_reg ?_)
  refine zE ?_
  refine q_next (pwp_seq (pwp_seq (r_reg ?_)))
  refine zE ?_
  refine q_next (pwp_block (pwp_seq (r_reg ?_)))
  refine zE ?_
  refine q_next ?_
  rcases o_cond h with ⟨hb, h⟩ | ⟨hb, h⟩
  · refine zT hb ?_
    refine pwp_seq (r_reg ?_)
    refine zE ?_
    refine q_next (pwp_ret (q_block_ret (q_seq_ret ?_)))
    cases h
    exact zQ
  refine zU hb ?_
  refine pwp_seq (r_reg ?_)
  refine zE ?_
  refine q_next ?_
  rcases o_cond h with ⟨hb, h⟩ | ⟨hb, h⟩
  · refine zT hb ?_
    refine pwp_seq (r_reg ?_)
    refine zE ?_
    refine q_next (pwp_ret (q_block_ret (q_seq_ret ?_)))
    cases h
    exact zQ
  refine zU hb ?_
  refine pwp_seq (r_reg ?_)
  refine zE ?_
  refine q_next ?_
  rcases o_cond h with ⟨hb, h⟩ | ⟨hb, h⟩
  · refine zT hb ?_
    refine pwp_seq (r_reg ?_)
    refine zE ?_
    refine q_next (pwp_ret (q_block_ret (q_seq_ret ?_)))
    cases h
    exact zQ
  refine zU hb ?_
  refine pwp_skip (q_block (q_next (pwp_seq (r_reg ?_))))
  refine zE ?_
  refine q_next (pwp_ret ?_)
  cases h
  exact zQ

/-! signallingref07.exists -/
noncomputable def d_ref07_exists (a0 : T_api_Layout) (a1 : T_api_End) : Option Bool :=
  ((bif decide (0 ≤ a1.El) then (
    some (decide (a1.El < ((a0.Elements.length : Nat) : Int)))
  ) else some false) : Option Bool).bind fun b1 =>
  ((bif (b1 && (decide (0 ≤ a1.Side))) then (
    (ixO a0.Elements a1.El).bind fun x3 =>
    (d_ref06_Sides x3.Kind).bind fun r4 =>
    some (decide (a1.Side < r4))
  ) else some false) : Option Bool).bind fun b2 =>
  some b2
theorem d_ref07_exists_ok (a0 : T_api_Layout) (a1 : T_api_End) (r : Bool) (h : d_ref07_exists a0 a1 = some r) : PCall Go.Proofs.Tryz.prog GlS 102 [Enc.pv a0, Enc.pv a1] (Enc.pv r) := by
  unfold d_ref07_exists at h
  refine pcall_of_pwp Go.Proofs.Tryz.func102 (by rfl) rfl Go.Proofs.Tryz.ntmps102 (by rfl) rfl ?_
  refine pwp_seq (r_reg ?_)
  refine zE ?_
  refine q_next (pwp_seq ?_)
  refine r_regd (by kernel_rfl) (by kernel_rfl) ?_
  obtain ⟨b1, h1, h⟩ := o_bind h
  refine zR 4 ?_
  refine e_seg 7 15 (.bool b1) ?_ ?_
  · rcases o_cond h1 with ⟨hb, h1⟩ | ⟨hb, h1⟩
    · refine zS 8 hb ?_
      refine zR 4 ?_
      refine p_len (L := (a0.Elements : (List T_api_Element))) (by kernel_rfl) ?_
      cases h1
      exact zF
    refine zS 8 hb ?_
    cases h1
    exact zF
  refine zR 1 ?_
  refine e_segb 4 20 (b1 && (decide (0 ≤ a1.Side))) (fun x hx => ?_) ?_
  · rcases b_and hx with ⟨hb, hx⟩ | ⟨hb, hx⟩
    · refine zS 16 hb ?_
      subst hx
      exact zF
    refine zS 16 hb ?_
    subst hx
    exact zF
  obtain ⟨b2, h2, h⟩ := o_bind h
  refine zR 1 ?_
  refine e_seg 12 33 (.bool b2) ?_ ?_
  · rcases o_cond h2 with ⟨hb, h2⟩ | ⟨hb, h2⟩
    · refine zS 21 hb ?_
      refine zR 6 ?_
      obtain ⟨x3, h3, h2⟩ := o_bind h2
      refine zI h3 ?_
      refine zR 2 ?_
      obtain ⟨r4, h4, h2⟩ := o_bind h2
      refine p_call (d_ref06_Sides_ok _ r4 h4) (by kernel_rfl) (by kernel_rfl) ?_
      cases h2
      exact zF
    refine zS 21 hb ?_
    cases h2
    exact zF
  refine zE ?_
  refine q_next (pwp_ret ?_)
  cases h
  exact zQ

/-! signallingref07.ends -/
noncomputable def d_ref07_ends_1 (a0 : (List T_api_End)) (x8 : Int) : Int → Option (Int ⊕ (Unit ⊕ (Int ⊕ (Unit ⊕ Bool)))) := fun x18 =>
  bif decide (x18 < x8) then (
    (ixO a0 x8).bind fun x21 =>
    (ixO a0 x18).bind fun x22 =>
    bif eq_T_api_End x21 x22 then (
      some (.inr (.inr (.inr (.inr true))))
    ) else (
      some (.inl (w64 (x18 + 1)))
    )
  ) else (
    some (.inr (.inl ()))
  )

noncomputable def d_ref07_ends_0 (a0 : (List T_api_End)) : Int → Option (Int ⊕ (Unit ⊕ Bool)) := fun x8 =>
  bif decide (x8 < ((a0.length : Nat) : Int)) then (
    onInl (α := Unit) (β := (Int ⊕ (Unit ⊕ Bool))) (loopO (d_ref07_ends_1 a0 x8) 0) fun _ =>
    some (.inl (w64 (x8 + 1)))
  ) else (
    some (.inr (.inl ()))
  )

noncomputable def d_ref07_ends (a0 : (List T_api_End)) : Option Bool :=
  onInl (α := Unit) (β := Bool) (loopO (d_ref07_ends_0 a0) 0) fun _ =>
  some false
theorem d_ref07_ends_ok (a0 : (List T_api_End)) (r : Bool) (h : d_ref07_ends a0 = some r) : PCall Go.Proofs.Tryz.prog GlS 103 [Enc.pv a0] (Enc.pv r) := by
  unfold d_ref07_ends at h
  refine pcall_of_pwp Go.Proofs.Tryz.func103 (by rfl) rfl Go.Proofs.Tryz.ntmps103 (by rfl) rfl ?_
  refine pwp_seq (r_reg ?_)
  refine zE ?_
  refine q_next (pwp_seq (pwp_seq (r_reg ?_)))
  refine zR 1 ?_
  refine p_len (L := (a0 : (List T_api_End))) (by kernel_rfl) ?_
  refine zE ?_
  refine q_next (pwp_block ?_)
  obtain ⟨o30, h30, h⟩ := o_inl h
  refine r_loop2 25 0 (fun x8 => ⟨[(0, lstOf .frozen (a0 : (List T_api_End))), (6, .int .i64 ((a0.length : Nat) : Int)), (7, .int .i64 x8)], [], [], []⟩) (fun (_ : Unit) => ⟨[], [], [], []⟩) h30 (by kernel_rfl) (fun _ => by kernel_rfl) ?_ ?_
  · rintro x8 oh29 h29
    unfold d_ref07_ends_0 at h29
    refine pwp_seq (r_reg ?_)
    refine zE ?_
    refine q_next (pwp_seq ?_)
    rcases o_cond h29 with ⟨hb, h29⟩ | ⟨hb, h29⟩
    · refine zT hb ?_
      refine pwp_skip (q_next (pwp_seq (pwp_block (pwp_seq (r_reg ?_)))))
      refine zE ?_
      refine q_next (pwp_seq (r_reg ?_))
      refine zE ?_
      refine q_next (pwp_block ?_)
      obtain ⟨o40, h40, h29⟩ := o_inl h29
      refine r_loop2 25 2 (fun x18 => ⟨[(0, lstOf .frozen (a0 : (List T_api_End))), (3, .int .i64 x8), (6, .int .i64 ((a0.length : Nat) : Int)), (7, .int .i64 x8), (10, .int .i64 x8), (11, .int .i64 x18)], [], [], []⟩) (fun (_ : Unit) => ⟨[(0, lstOf .frozen (a0 : (List T_api_End))), (6, .int .i64 ((a0.length : Nat) : Int)), (7, .int .i64 x8)], [], [], []⟩) h40 (by kernel_rfl) (fun _ => by kernel_rfl) ?_ ?_
      · rintro x18 oh39 h39
        unfold d_ref07_ends_1 at h39
        refine pwp_seq (r_reg ?_)
        refine zE ?_
        refine q_next (pwp_seq ?_)
        rcases o_cond h39 with ⟨hb, h39⟩ | ⟨hb, h39⟩
        · refine zT hb ?_
          refine pwp_skip (q_next (pwp_seq (pwp_block (pwp_seq (r_reg ?_)))))
          refine zE ?_
          refine q_next (pwp_seq ?_)
          refine r_regd (by kernel_rfl) (by kernel_rfl) ?_
          refine zR 2 ?_
          obtain ⟨x21, h41, h39⟩ := o_bind h39
          refine zI h41 ?_
          refine zR 3 ?_
          obtain ⟨x22, h42, h39⟩ := o_bind h39
          refine zI h42 ?_
          refine zE ?_
          refine q_next ?_
          rcases o_cond h39 with ⟨hb, h39⟩ | ⟨hb, h39⟩
          · refine zT hb ?_
            refine pwp_seq (r_reg ?_)
            refine zE ?_
            refine q_next (pwp_ret (q_block_ret (q_seq_ret ?_)))
            cases h39
            refine q_lout_ret fun he => ?_
            subst he
            have h43 := o_outr h29
            refine q_block_ret (q_block_ret (q_seq_ret ?_))
            cases h43
            refine q_lout_ret fun he => ?_
            subst he
            have h44 := o_outr h
            refine q_block_ret (q_seq_ret ?_)
            cases h44
            exact zQ
          refine zU hb ?_
          refine pwp_skip (q_block (q_next (r_reg ?_)))
          refine zE ?_
          cases h39
          exact zB
        refine zU hb ?_
        refine pwp_exit (q_seq_exit ?_)
        cases h39
        exact zX
      rintro _ s' rfl hs
      have h29 := o_outl h29
      refine q_block_hit (q_block ?_)
      refine q_next (pwp_wkr hs ?_)
      refine r_reg ?_
      refine zE ?_
      cases h29
      exact zB
    refine zU hb ?_
    refine pwp_exit (q_seq_exit ?_)
    cases h29
    exact zX
  rintro _ s' rfl hs
  have h := o_outl h
  refine q_block_hit ?_
  refine q_next (pwp_wkr hs ?_)
  refine pwp_seq (r_reg ?_)
  refine zE ?_
  refine q_next (pwp_ret ?_)
  cases h
  exact zQ

/-! signallingref07.elements -/
noncomputable def d_ref07_elements_0 (a0 : T_api_Layout) : Int → Option (Int ⊕ (Unit ⊕ Int)) := fun x3 =>
  bif decide (x3 < ((a0.Elements.length : Nat) : Int)) then (
    (ixO a0.Elements x3).bind fun x6 =>
    (d_ref07_right a0 x6).bind fun r7 =>
    bif (!r7) then (
      some (.inr (.inr 1))
    ) else (
      some (.inl (w64 (x3 + 1)))
    )
  ) else (
    some (.inr (.inl ()))
  )

noncomputable def d_ref07_elements_1 (a0 : T_api_Layout) : Int → Option (Int ⊕ (Unit ⊕ Int)) := fun x9 =>
  bif decide (x9 < ((a0.Sections.length : Nat) : Int)) then (
    (d_ref07_Members a0 x9).bind fun r11 =>
    bif decide (((r11.length : Nat) : Int) = 0) then (
      some (.inr (.inr 1))
    ) else (
      some (.inl (w64 (x9 + 1)))
    )
  ) else (
    some (.inr (.inl ()))
  )

noncomputable def d_ref07_elements_2 (a0 : T_api_Layout) : (Int × (List T_api_End)) → Option ((Int × (List T_api_End)) ⊕ ((List T_api_End) ⊕ Int)) := fun (x23, x24) =>
  bif decide (x23 < ((a0.Joints.length : Nat) : Int)) then (
    (ixO a0.Joints x23).bind fun x31 =>
    (d_ref07_exists a0 x31.A).bind fun r32 =>
    ((bif (!r32) then some true else (
      (d_ref07_exists a0 x31.B).bind fun r34 =>
      some (!r34)
    )) : Option Bool).bind fun b33 =>
    bif (b33 || (eq_T_api_End x31.A x31.B)) then (
      some (.inr (.inr 1))
    ) else (
      (appO x24 [x31.A, x31.B]).bind fun x35 =>
      some (.inl (w64 (x23 + 1), x35))
    )
  ) else (
    some (.inr (.inl x24))
  )

noncomputable def d_ref07_elements (a0 : T_api_Layout) : Option Int :=
  onInl (α := Unit) (β := Int) (loopO (d_ref07_elements_0 a0) 0) fun _ =>
  onInl (α := Unit) (β := Int) (loopO (d_ref07_elements_1 a0) 0) fun _ =>
  onInl (α := (List T_api_End)) (β := Int) (loopO (d_ref07_elements_2 a0) (0, ([] : (List T_api_End)))) fun x30 =>
  (d_ref07_ends x30).bind fun r36 =>
  bif r36 then (
    some 8
  ) else (
    some 0
  )
theorem d_ref07_elements_ok (a0 : T_api_Layout) (r : Int) (h : d_ref07_elements a0 = some r) : PCall Go.Proofs.Tryz.prog GlS 64 [Enc.pv a0] (Enc.pv r) := by
  unfold d_ref07_elements at h
  refine pcall_of_pwp Go.Proofs.Tryz.func64 (by rfl) rfl Go.Proofs.Tryz.ntmps64 (by rfl) rfl ?_
  refine pwp_seq (r_reg ?_)
  refine zE ?_
  refine q_next (pwp_seq (pwp_seq (r_reg ?_)))
  refine zR 2 ?_
  refine p_len (L := (a0.Elements : (List T_api_Element))) (by kernel_rfl) ?_
  refine zE ?_
  refine q_next (pwp_block ?_)
  obtain ⟨o8, h8, h⟩ := o_inl h
  refine r_loop2 69 0 (fun x3 => ⟨[(1, .ref 1 0), (10, lstOf .frozen (a0.Elements : (List T_api_Element))), (11, .int .i64 ((a0.Elements.length : Nat) : Int)), (12, .int .i64 x3)], [(1, .cells (cellsOf a0))], [], []⟩) (fun (_ : Unit) => ⟨[(1, .ref 1 0)], [(1, .cells (cellsOf a0))], [], []⟩) h8 (by kernel_rfl) (fun _ => by kernel_rfl) ?_ ?_
  · rintro x3 oh7 h7
    unfold d_ref07_elements_0 at h7
    refine pwp_seq (r_reg ?_)
    refine zE ?_
    refine q_next (pwp_seq ?_)
    rcases o_cond h7 with ⟨hb, h7⟩ | ⟨hb, h7⟩
    · refine zT hb ?_
      refine pwp_skip (q_next (pwp_seq (pwp_block (pwp_seq (r_reg ?_)))))
      obtain ⟨x6, h9, h7⟩ := o_bind h7
      refine zI h9 ?_
      refine zE ?_
      refine q_next (pwp_seq (r_reg ?_))
      refine zR 2 ?_
      obtain ⟨r7, h10, h7⟩ := o_bind h7
      refine p_call (d_ref07_right_ok _ _ r7 h10) (by kernel_rfl) (by kernel_rfl) ?_
      refine zE ?_
      refine q_next ?_
      rcases o_cond h7 with ⟨hb, h7⟩ | ⟨hb, h7⟩
      · refine zT hb ?_
        refine pwp_seq (r_reg ?_)
        refine zE ?_
        refine q_next (pwp_ret (q_block_ret (q_seq_ret ?_)))
        cases h7
        refine q_lout_ret fun he => ?_
        subst he
        have h11 := o_outr h
        refine q_block_ret (q_seq_ret ?_)
        cases h11
        exact zQ
      refine zU hb ?_
      refine pwp_skip (q_block (q_next (r_reg ?_)))
      refine zE ?_
      cases h7
      exact zB
    refine zU hb ?_
    refine pwp_exit (q_seq_exit ?_)
    cases h7
    exact zX
  rintro _ s' rfl hs
  have h := o_outl h
  refine q_block_hit ?_
  refine q_next (pwp_wkr hs ?_)
  refine pwp_seq (pwp_seq (r_reg ?_))
  refine zR 2 ?_
  refine p_len (L := (a0.Sections : (List ByteArray))) (by kernel_rfl) ?_
  refine zE ?_
  refine q_next (pwp_block ?_)
  obtain ⟨o17, h17, h⟩ := o_inl h
  refine r_loop2 69 2 (fun x9 => ⟨[(1, .ref 1 0), (23, .int .i64 ((a0.Sections.length : Nat) : Int)), (24, .int .i64 x9)], [(1, .cells (cellsOf a0))], [], []⟩) (fun (_ : Unit) => ⟨[(1, .ref 1 0)], [(1, .cells (cellsOf a0))], [], []⟩) h17 (by kernel_rfl) (fun _ => by kernel_rfl) ?_ ?_
  · rintro x9 oh16 h16
    unfold d_ref07_elements_1 at h16
    refine pwp_seq (r_reg ?_)
    refine zE ?_
    refine q_next (pwp_seq ?_)
    rcases o_cond h16 with ⟨hb, h16⟩ | ⟨hb, h16⟩
    · refine zT hb ?_
      refine pwp_skip (q_next (pwp_seq (pwp_block (pwp_seq (r_reg ?_)))))
      refine zE ?_
      refine q_next (pwp_seq (r_reg ?_))
      refine zR 2 ?_
      obtain ⟨r11, h18, h16⟩ := o_bind h16
      refine p_call (d_ref07_Members_ok _ _ r11 h18) (by kernel_rfl) (by kernel_rfl) ?_
      refine p_len (L := (r11 : (List Int))) (by kernel_rfl) ?_
      refine zE ?_
      refine q_next ?_
      rcases o_cond h16 with ⟨hb, h16⟩ | ⟨hb, h16⟩
      · refine zT hb ?_
        refine pwp_seq (r_reg ?_)
        refine zE ?_
        refine q_next (pwp_ret (q_block_ret (q_seq_ret ?_)))
        cases h16
        refine q_lout_ret fun he => ?_
        subst he
        have h19 := o_outr h
        refine q_block_ret (q_seq_ret ?_)
        cases h19
        exact zQ
      refine zU hb ?_
      refine pwp_skip (q_block (q_next (r_reg ?_)))
      refine zE ?_
      cases h16
      exact zB
    refine zU hb ?_
    refine pwp_exit (q_seq_exit ?_)
    cases h16
    exact zX
  rintro _ s' rfl hs
  have h := o_outl h
  refine q_block_hit ?_
  refine q_next (pwp_wkr hs ?_)
  refine pwp_seq (r_reg ?_)
  refine zE ?_
  refine q_next (pwp_seq (pwp_seq (r_reg ?_)))
  refine zR 2 ?_
  refine p_len (L := (a0.Joints : (List T_api_Joint))) (by kernel_rfl) ?_
  refine zE ?_
  refine q_next (pwp_block ?_)
  refine g_nil 6 100006 2 16 (by kernel_rfl) (by kernel_rfl) ?_
  obtain ⟨o39, h39, h⟩ := o_inl h
  refine r_loop2 69 4 (fun (x23, x24) => ⟨[(1, .ref 1 0), (6, lstOf (.own 100006) (x24 : (List T_api_End))), (34, lstOf .frozen (a0.Joints : (List T_api_Joint))), (35, .int .i64 ((a0.Joints.length : Nat) : Int)), (36, .int .i64 x23)], [(1, .cells (cellsOf a0))], [(100006, (((x24).map cellsOf).length, 2))], []⟩) (fun x30 => ⟨[(6, lstOf (.own 100006) (x30 : (List T_api_End)))], [], [(100006, (((x30).map cellsOf).length, 2))], []⟩) h39 (by kernel_rfl) (fun _ => by kernel_rfl) ?_ ?_
  · rintro ⟨x23, x24⟩ oh38 h38
    unfold d_ref07_elements_2 at h38
    refine pwp_seq (r_reg ?_)
    refine zE ?_
    refine q_next (pwp_seq ?_)
    rcases o_cond h38 with ⟨hb, h38⟩ | ⟨hb, h38⟩
    · refine zT hb ?_
      refine pwp_skip (q_next (pwp_seq (pwp_block (pwp_seq (r_reg ?_)))))
      obtain ⟨x31, h40, h38⟩ := o_bind h38
      refine zI h40 ?_
      refine zE ?_
      refine q_next (pwp_seq (pwp_seq (r_reg ?_)))
      refine zR 3 ?_
      obtain ⟨r32, h41, h38⟩ := o_bind h38
      refine p_call (d_ref07_exists_ok _ _ r32 h41) (by kernel_rfl) (by kernel_rfl) ?_
      obtain ⟨b33, h42, h38⟩ := o_bind h38
      refine zR 2 ?_
      refine e_seg 6 51 (.bool b33) ?_ ?_
      · rcases o_cond h42 with ⟨hb, h42⟩ | ⟨hb, h42⟩
        · refine zS 45 hb ?_
          cases h42
          exact zF
        refine zS 45 hb ?_
        refine zR 3 ?_
        obtain ⟨r34, h43, h42⟩ := o_bind h42
        refine p_call (d_ref07_exists_ok _ _ r34 h43) (by kernel_rfl) (by kernel_rfl) ?_
        cases h42
        exact zF
      refine zR 1 ?_
      refine e_segb 6 58 (b33 || (eq_T_api_End x31.A x31.B)) (fun x hx => ?_) ?_
      · rcases b_or hx with ⟨hb, hx⟩ | ⟨hb, hx⟩
        · refine zS 52 hb ?_
          subst hx
          exact zF
        refine zS 52 hb ?_
        subst hx
        exact zF
      refine zN ?_
      refine q_next ?_
      rcases o_cond h38 with ⟨hb, h38⟩ | ⟨hb, h38⟩
      · refine zT hb ?_
        refine pwp_seq (r_reg ?_)
        refine zE ?_
        refine q_next (pwp_ret (q_seq_ret (q_block_ret (q_seq_ret ?_))))
        cases h38
        refine q_lout_ret fun he => ?_
        subst he
        have h44 := o_outr h
        refine q_block_ret (q_seq_ret ?_)
        cases h44
        exact zQ
      refine zU hb ?_
      refine pwp_skip (q_next (r_reg ?_))
      refine zR 6 ?_
      obtain ⟨x35, h45, h38⟩ := o_bind h38
      refine p_app (tk := 100006) h45 (by kernel_rfl) (by kernel_rfl) ?_
      refine zE ?_
      refine q_block (q_next (r_reg ?_))
      refine zE ?_
      cases h38
      exact zB
    refine zU hb ?_
    refine pwp_exit (q_seq_exit ?_)
    cases h38
    exact zX
  rintro x30 s' rfl hs
  have h := o_outl h
  refine q_block_hit ?_
  refine q_next (pwp_wkr hs ?_)
  refine pwp_seq (pwp_seq (r_reg ?_))
  refine zR 1 ?_
  obtain ⟨r36, h46, h⟩ := o_bind h
  refine p_call (d_ref07_ends_ok _ r36 h46) (by kernel_rfl) (by kernel_rfl) ?_
  refine zN ?_
  refine q_next ?_
  rcases o_cond h with ⟨hb, h⟩ | ⟨hb, h⟩
  · refine zT hb ?_
    refine pwp_seq (r_reg ?_)
    refine zE ?_
    refine q_next (pwp_ret (q_seq_ret ?_))
    cases h
    exact zQ
  refine zU hb ?_
  refine pwp_skip (q_next (pwp_seq (r_reg ?_)))
  refine zE ?_
  refine q_next (pwp_ret ?_)
  cases h
  exact zQ

/-! signallingref07.Joined -/
noncomputable def d_ref07_Joined_0 (a0 : T_api_Layout) (a1 : T_api_End) : Int → Option (Int ⊕ (Unit ⊕ (T_api_End × Bool))) := fun x2 =>
  bif decide (x2 < ((a0.Joints.length : Nat) : Int)) then (
    (ixO a0.Joints x2).bind fun x4 =>
    bif eq_T_api_End x4.A a1 then (
      some (.inr (.inr (x4.B, true)))
    ) else (
      bif eq_T_api_End x4.B a1 then (
        some (.inr (.inr (x4.A, true)))
      ) else (
        some (.inl (w64 (x2 + 1)))
      )
    )
  ) else (
    some (.inr (.inl ()))
  )

noncomputable def d_ref07_Joined (a0 : T_api_Layout) (a1 : T_api_End) : Option (T_api_End × Bool) :=
  onInl (α := Unit) (β := (T_api_End × Bool)) (loopO (d_ref07_Joined_0 a0 a1) 0) fun _ =>
  some ((T_api_End.mk 0 0), false)
theorem d_ref07_Joined_ok (a0 : T_api_Layout) (a1 : T_api_End) (r : (T_api_End × Bool)) (h : d_ref07_Joined a0 a1 = some r) : PCall Go.Proofs.Tryz.prog GlS 79 [Enc.pv a0, Enc.pv a1] (.tup [Enc.pv r.1, Enc.pv r.2]) := by
  unfold d_ref07_Joined at h
  refine pcall_of_pwp Go.Proofs.Tryz.func79 (by rfl) rfl Go.Proofs.Tryz.ntmps79 (by rfl) rfl ?_
  refine pwp_seq (r_reg ?_)
  refine zE ?_
  refine q_next (pwp_seq (pwp_seq (r_reg ?_)))
  refine zR 2 ?_
  refine p_len (L := (a0.Joints : (List T_api_Joint))) (by kernel_rfl) ?_
  refine zE ?_
  refine q_next (pwp_block ?_)
  obtain ⟨o8, h8, h⟩ := o_inl h
  refine r_loop2 29 0 (fun x2 => ⟨[(3, .ref 3 0), (4, .ref 4 0), (9, lstOf .frozen (a0.Joints : (List T_api_Joint))), (10, .int .i64 ((a0.Joints.length : Nat) : Int)), (11, .int .i64 x2)], [(3, .cells (cellsOf a1)), (4, .cells ([.int .i64 0, .int .i64 0]))], [], []⟩) (fun (_ : Unit) => ⟨[(4, .ref 4 0)], [(4, .cells ([.int .i64 0, .int .i64 0]))], [], []⟩) h8 (by kernel_rfl) (fun _ => by kernel_rfl) ?_ ?_
  · rintro x2 oh7 h7
    unfold d_ref07_Joined_0 at h7
    refine pwp_seq (r_reg ?_)
    refine zE ?_
    refine q_next (pwp_seq ?_)
    rcases o_cond h7 with ⟨hb, h7⟩ | ⟨hb, h7⟩
    · refine zT hb ?_
      refine pwp_skip (q_next (pwp_seq (pwp_block (pwp_seq (r_reg ?_)))))
      obtain ⟨x4, h9, h7⟩ := o_bind h7
      refine zI h9 ?_
      refine zE ?_
      refine q_next (pwp_seq (pwp_seq (r_reg ?_)))
      refine zE ?_
      refine q_next ?_
      rcases o_cond h7 with ⟨hb, h7⟩ | ⟨hb, h7⟩
      · refine zT hb ?_
        refine pwp_seq (r_reg ?_)
        refine zE ?_
        refine q_next (pwp_ret (q_seq_ret (q_block_ret (q_seq_ret ?_))))
        cases h7
        refine q_lout_ret fun he => ?_
        subst he
        have h10 := o_outr h
        refine q_block_ret (q_seq_ret ?_)
        cases h10
        exact zQ
      refine zU hb ?_
      refine pwp_skip (q_next (pwp_seq (r_reg ?_)))
      refine zE ?_
      refine q_next ?_
      rcases o_cond h7 with ⟨hb, h7⟩ | ⟨hb, h7⟩
      · refine zT hb ?_
        refine pwp_seq (r_reg ?_)
        refine zE ?_
        refine q_next (pwp_ret (q_block_ret (q_seq_ret ?_)))
        cases h7
        refine q_lout_ret fun he => ?_
        subst he
        have h11 := o_outr h
        refine q_block_ret (q_seq_ret ?_)
        cases h11
        exact zQ
      refine zU hb ?_
      refine pwp_skip (q_block (q_next (r_reg ?_)))
      refine zE ?_
      cases h7
      exact zB
    refine zU hb ?_
    refine pwp_exit (q_seq_exit ?_)
    cases h7
    exact zX
  rintro _ s' rfl hs
  have h := o_outl h
  refine q_block_hit ?_
  refine q_next (pwp_wkr hs ?_)
  refine pwp_seq (r_reg ?_)
  refine zE ?_
  refine q_next (pwp_ret ?_)
  cases h
  exact zQ

/-! signallingref07.signals -/
noncomputable def d_ref07_signals_0 (a0 : T_api_Layout) : (Int × (List T_api_End)) → Option ((Int × (List T_api_End)) ⊕ ((List T_api_End) ⊕ Int)) := fun (x8, x9) =>
  bif decide (x8 < ((a0.Signals.length : Nat) : Int)) then (
    (ixO a0.Signals x8).bind fun x14 =>
    (d_ref07_exists a0 x14.At).bind fun r15 =>
    bif (((!r15) || (decide (x14.Overlap < 0))) || (decide (1000000 < x14.Overlap))) then (
      some (.inr (.inr 1))
    ) else (
      (appO x9 [x14.At]).bind fun x16 =>
      some (.inl (w64 (x8 + 1), x16))
    )
  ) else (
    some (.inr (.inl x9))
  )

noncomputable def d_ref07_signals_1 (a0 : T_api_Layout) (x13 : (List T_api_End)) : Int → Option (Int ⊕ (Unit ⊕ Int)) := fun x23 =>
  bif decide (x23 < ((x13.length : Nat) : Int)) then (
    (ixO x13 x23).bind fun x29 =>
    (d_ref07_Joined a0 x29).bind fun r30 =>
    ((bif (!r30.2) then some true else (
      (ixO a0.Elements r30.1.El).bind fun x32 =>
      (ixO a0.Elements x29.El).bind fun x33 =>
      some (decide (x32.Section = x33.Section))
    )) : Option Bool).bind fun b31 =>
    bif b31 then (
      some (.inr (.inr 14))
    ) else (
      some (.inl (w64 (x23 + 1)))
    )
  ) else (
    some (.inr (.inl ()))
  )

noncomputable def d_ref07_signals (a0 : T_api_Layout) : Option Int :=
  onInl (α := (List T_api_End)) (β := Int) (loopO (d_ref07_signals_0 a0) (0, ([] : (List T_api_End)))) fun x13 =>
  (d_ref07_ends x13).bind fun r17 =>
  bif r17 then (
    some 8
  ) else (
    onInl (α := Unit) (β := Int) (loopO (d_ref07_signals_1 a0 x13) 0) fun _ =>
    some 0
  )
theorem d_ref07_signals_ok (a0 : T_api_Layout) (r : Int) (h : d_ref07_signals a0 = some r) : PCall Go.Proofs.Tryz.prog GlS 65 [Enc.pv a0] (Enc.pv r) := by
  unfold d_ref07_signals at h
  refine pcall_of_pwp Go.Proofs.Tryz.func65 (by rfl) rfl Go.Proofs.Tryz.ntmps65 (by rfl) rfl ?_
  refine pwp_seq (r_reg ?_)
  refine zE ?_
  refine q_next (pwp_seq (r_reg ?_))
  refine zE ?_
  refine q_next (pwp_seq (pwp_seq (r_reg ?_)))
  refine zR 2 ?_
  refine p_len (L := (a0.Signals : (List T_api_Signal))) (by kernel_rfl) ?_
  refine zE ?_
  refine q_next (pwp_block ?_)
  refine g_nil 3 100003 2 16 (by kernel_rfl) (by kernel_rfl) ?_
  obtain ⟨o14, h14, h⟩ := o_inl h
  refine r_loop2 72 0 (fun (x8, x9) => ⟨[(1, .ref 1 0), (3, lstOf (.own 100003) (x9 : (List T_api_End))), (11, lstOf .frozen (a0.Signals : (List T_api_Signal))), (12, .int .i64 ((a0.Signals.length : Nat) : Int)), (13, .int .i64 x8)], [(1, .cells (cellsOf a0))], [(100003, (((x9).map cellsOf).length, 2))], []⟩) (fun x13 => ⟨[(1, .ref 1 0), (3, lstOf (.own 100003) (x13 : (List T_api_End)))], [(1, .cells (cellsOf a0))], [(100003, (((x13).map cellsOf).length, 2))], []⟩) h14 (by kernel_rfl) (fun _ => by kernel_rfl) ?_ ?_
  · rintro ⟨x8, x9⟩ oh13 h13
    unfold d_ref07_signals_0 at h13
    refine pwp_seq (r_reg ?_)
    refine zE ?_
    refine q_next (pwp_seq ?_)
    rcases o_cond h13 with ⟨hb, h13⟩ | ⟨hb, h13⟩
    · refine zT hb ?_
      refine pwp_skip (q_next (pwp_seq (pwp_block (pwp_seq (r_reg ?_)))))
      obtain ⟨x14, h15, h13⟩ := o_bind h13
      refine zI h15 ?_
      refine zE ?_
      refine q_next (pwp_seq (pwp_seq (r_reg ?_)))
      refine zR 3 ?_
      obtain ⟨r15, h16, h13⟩ := o_bind h13
      refine p_call (d_ref07_exists_ok _ _ r15 h16) (by kernel_rfl) (by kernel_rfl) ?_
      refine zR 2 ?_
      refine e_segb 4 26 ((!r15) || (decide (x14.Overlap < 0))) (fun x hx => ?_) ?_
      · rcases b_or hx with ⟨hb, hx⟩ | ⟨hb, hx⟩
        · refine zS 22 hb ?_
          subst hx
          exact zF
        refine zS 22 hb ?_
        subst hx
        exact zF
      refine zR 1 ?_
      refine e_segb 4 31 (((!r15) || (decide (x14.Overlap < 0))) || (decide (1000000 < x14.Overlap))) (fun x hx => ?_) ?_
      · rcases b_or hx with ⟨hb, hx⟩ | ⟨hb, hx⟩
        · refine zS 27 hb ?_
          subst hx
          exact zF
        refine zS 27 hb ?_
        subst hx
        exact zF
      refine zN ?_
      refine q_next ?_
      rcases o_cond h13 with ⟨hb, h13⟩ | ⟨hb, h13⟩
      · refine zT hb ?_
        refine pwp_seq (r_reg ?_)
        refine zE ?_
        refine q_next (pwp_ret (q_seq_ret (q_block_ret (q_seq_ret ?_))))
        cases h13
        refine q_lout_ret fun he => ?_
        subst he
        have h17 := o_outr h
        refine q_block_ret (q_seq_ret ?_)
        cases h17
        exact zQ
      refine zU hb ?_
      refine pwp_skip (q_next (r_reg ?_))
      refine zR 4 ?_
      obtain ⟨x16, h18, h13⟩ := o_bind h13
      refine p_app (tk := 100003) h18 (by kernel_rfl) (by kernel_rfl) ?_
      refine zE ?_
      refine q_block (q_next (r_reg ?_))
      refine zE ?_
      cases h13
      exact zB
    refine zU hb ?_
    refine pwp_exit (q_seq_exit ?_)
    cases h13
    exact zX
  rintro x13 s' rfl hs
  have h := o_outl h
  refine q_block_hit ?_
  refine q_next (pwp_wkr hs ?_)
  refine pwp_seq (pwp_seq (r_reg ?_))
  refine zR 1 ?_
  obtain ⟨r17, h19, h⟩ := o_bind h
  refine p_call (d_ref07_ends_ok _ r17 h19) (by kernel_rfl) (by kernel_rfl) ?_
  refine zN ?_
  refine q_next ?_
  rcases o_cond h with ⟨hb, h⟩ | ⟨hb, h⟩
  · refine zT hb ?_
    refine pwp_seq (r_reg ?_)
    refine zE ?_
    refine q_next (pwp_ret (q_seq_ret ?_))
    cases h
    exact zQ
  refine zU hb ?_
  refine pwp_skip (q_next (pwp_seq (pwp_seq (r_reg ?_))))
  refine zR 1 ?_
  refine p_len (L := (x13 : (List T_api_End))) (by kernel_rfl) ?_
  refine zE ?_
  refine q_next (pwp_block ?_)
  obtain ⟨o33, h33, h⟩ := o_inl h
  refine r_loop2 72 2 (fun x23 => ⟨[(1, .ref 1 0), (40, lstOf (.own 100003) (x13 : (List T_api_End))), (41, .int .i64 ((x13.length : Nat) : Int)), (42, .int .i64 x23)], [(1, .cells (cellsOf a0))], [(100003, (((x13).map cellsOf).length, 2))], []⟩) (fun (_ : Unit) => ⟨[], [], [], []⟩) h33 (by kernel_rfl) (fun _ => by kernel_rfl) ?_ ?_
  · rintro x23 oh32 h32
    unfold d_ref07_signals_1 at h32
    refine pwp_seq (r_reg ?_)
    refine zE ?_
    refine q_next (pwp_seq ?_)
    rcases o_cond h32 with ⟨hb, h32⟩ | ⟨hb, h32⟩
    · refine zT hb ?_
      refine pwp_skip (q_next (pwp_seq (pwp_block (pwp_seq (r_reg ?_)))))
      obtain ⟨x29, h34, h32⟩ := o_bind h32
      refine zI h34 ?_
      refine zE ?_
      refine q_next (pwp_seq (r_reg ?_))
      refine zR 2 ?_
      obtain ⟨r30, h35, h32⟩ := o_bind h32
      refine p_call (d_ref07_Joined_ok _ _ r30 h35) (by kernel_rfl) (by kernel_rfl) ?_
      refine zE ?_
      refine q_next (pwp_seq ?_)
      refine r_regd (by kernel_rfl) (by kernel_rfl) ?_
      obtain ⟨b31, h36, h32⟩ := o_bind h32
      refine zR 3 ?_
      refine e_seg 16 70 (.bool b31) ?_ ?_
      · rcases o_cond h36 with ⟨hb, h36⟩ | ⟨hb, h36⟩
        · refine zS 54 hb ?_
          cases h36
          exact zF
        refine zS 54 hb ?_
        refine zR 4 ?_
        obtain ⟨x32, h37, h36⟩ := o_bind h36
        refine zI h37 ?_
        refine zR 6 ?_
        obtain ⟨x33, h38, h36⟩ := o_bind h36
        refine zI h38 ?_
        cases h36
        exact zF
      refine zN ?_
      refine q_next ?_
      rcases o_cond h32 with ⟨hb, h32⟩ | ⟨hb, h32⟩
      · refine zT hb ?_
        refine pwp_seq (r_reg ?_)
        refine zE ?_
        refine q_next (pwp_ret (q_block_ret (q_seq_ret ?_)))
        cases h32
        refine q_lout_ret fun he => ?_
        subst he
        have h39 := o_outr h
        refine q_block_ret (q_seq_ret ?_)
        cases h39
        exact zQ
      refine zU hb ?_
      refine pwp_skip (q_block (q_next (r_reg ?_)))
      refine zE ?_
      cases h32
      exact zB
    refine zU hb ?_
    refine pwp_exit (q_seq_exit ?_)
    cases h32
    exact zX
  rintro _ s' rfl hs
  have h := o_outl h
  refine q_block_hit ?_
  refine q_next (pwp_wkr hs ?_)
  refine pwp_seq (r_reg ?_)
  refine zE ?_
  refine q_next (pwp_ret ?_)
  cases h
  exact zQ

/-! signallingref07.numbers -/
noncomputable def d_ref07_numbers_1 (a0 : (List Int)) (x8 : Int) : Int → Option (Int ⊕ (Unit ⊕ (Int ⊕ (Unit ⊕ Bool)))) := fun x18 =>
  bif decide (x18 < x8) then (
    (ixO a0 x8).bind fun x21 =>
    (ixO a0 x18).bind fun x22 =>
    bif decide (x21 = x22) then (
      some (.inr (.inr (.inr (.inr true))))
    ) else (
      some (.inl (w64 (x18 + 1)))
    )
  ) else (
    some (.inr (.inl ()))
  )

noncomputable def d_ref07_numbers_0 (a0 : (List Int)) : Int → Option (Int ⊕ (Unit ⊕ Bool)) := fun x8 =>
  bif decide (x8 < ((a0.length : Nat) : Int)) then (
    onInl (α := Unit) (β := (Int ⊕ (Unit ⊕ Bool))) (loopO (d_ref07_numbers_1 a0 x8) 0) fun _ =>
    some (.inl (w64 (x8 + 1)))
  ) else (
    some (.inr (.inl ()))
  )

noncomputable def d_ref07_numbers (a0 : (List Int)) : Option Bool :=
  onInl (α := Unit) (β := Bool) (loopO (d_ref07_numbers_0 a0) 0) fun _ =>
  some false
theorem d_ref07_numbers_ok (a0 : (List Int)) (r : Bool) (h : d_ref07_numbers a0 = some r) : PCall Go.Proofs.Tryz.prog GlS 104 [Enc.pv a0] (Enc.pv r) := by
  unfold d_ref07_numbers at h
  refine pcall_of_pwp Go.Proofs.Tryz.func104 (by rfl) rfl Go.Proofs.Tryz.ntmps104 (by rfl) rfl ?_
  refine pwp_seq (r_reg ?_)
  refine zE ?_
  refine q_next (pwp_seq (pwp_seq (r_reg ?_)))
  refine zR 1 ?_
  refine p_len (L := (a0 : (List Int))) (by kernel_rfl) ?_
  refine zE ?_
  refine q_next (pwp_block ?_)
  obtain ⟨o30, h30, h⟩ := o_inl h
  refine r_loop2 25 0 (fun x8 => ⟨[(0, lstOf .frozen (a0 : (List Int))), (6, .int .i64 ((a0.length : Nat) : Int)), (7, .int .i64 x8)], [], [], []⟩) (fun (_ : Unit) => ⟨[], [], [], []⟩) h30 (by kernel_rfl) (fun _ => by kernel_rfl) ?_ ?_
  · rintro x8 oh29 h29
    unfold d_ref07_numbers_0 at h29
    refine pwp_seq (r_reg ?_)
    refine zE ?_
    refine q_next (pwp_seq ?_)
    rcases o_cond h29 with ⟨hb, h29⟩ | ⟨hb, h29⟩
    · refine zT hb ?_
      refine pwp_skip (q_next (pwp_seq (pwp_block (pwp_seq (r_reg ?_)))))
      refine zE ?_
      refine q_next (pwp_seq (r_reg ?_))
      refine zE ?_
      refine q_next (pwp_block ?_)
      obtain ⟨o40, h40, h29⟩ := o_inl h29
      refine r_loop2 25 2 (fun x18 => ⟨[(0, lstOf .frozen (a0 : (List Int))), (3, .int .i64 x8), (6, .int .i64 ((a0.length : Nat) : Int)), (7, .int .i64 x8), (10, .int .i64 x8), (11, .int .i64 x18)], [], [], []⟩) (fun (_ : Unit) => ⟨[(0, lstOf .frozen (a0 : (List Int))), (6, .int .i64 ((a0.length : Nat) : Int)), (7, .int .i64 x8)], [], [], []⟩) h40 (by kernel_rfl) (fun _ => by kernel_rfl) ?_ ?_
      · rintro x18 oh39 h39
        unfold d_ref07_numbers_1 at h39
        refine pwp_seq (r_reg ?_)
        refine zE ?_
        refine q_next (pwp_seq ?_)
        rcases o_cond h39 with ⟨hb, h39⟩ | ⟨hb, h39⟩
        · refine zT hb ?_
          refine pwp_skip (q_next (pwp_seq (pwp_block (pwp_seq (r_reg ?_)))))
          refine zE ?_
          refine q_next (pwp_seq ?_)
          refine r_regd (by kernel_rfl) (by kernel_rfl) ?_
          refine zR 2 ?_
          obtain ⟨x21, h41, h39⟩ := o_bind h39
          refine zI h41 ?_
          refine zR 3 ?_
          obtain ⟨x22, h42, h39⟩ := o_bind h39
          refine zI h42 ?_
          refine zE ?_
          refine q_next ?_
          rcases o_cond h39 with ⟨hb, h39⟩ | ⟨hb, h39⟩
          · refine zT hb ?_
            refine pwp_seq (r_reg ?_)
            refine zE ?_
            refine q_next (pwp_ret (q_block_ret (q_seq_ret ?_)))
            cases h39
            refine q_lout_ret fun he => ?_
            subst he
            have h43 := o_outr h29
            refine q_block_ret (q_block_ret (q_seq_ret ?_))
            cases h43
            refine q_lout_ret fun he => ?_
            subst he
            have h44 := o_outr h
            refine q_block_ret (q_seq_ret ?_)
            cases h44
            exact zQ
          refine zU hb ?_
          refine pwp_skip (q_block (q_next (r_reg ?_)))
          refine zE ?_
          cases h39
          exact zB
        refine zU hb ?_
        refine pwp_exit (q_seq_exit ?_)
        cases h39
        exact zX
      rintro _ s' rfl hs
      have h29 := o_outl h29
      refine q_block_hit (q_block ?_)
      refine q_next (pwp_wkr hs ?_)
      refine r_reg ?_
      refine zE ?_
      cases h29
      exact zB
    refine zU hb ?_
    refine pwp_exit (q_seq_exit ?_)
    cases h29
    exact zX
  rintro _ s' rfl hs
  have h := o_outl h
  refine q_block_hit ?_
  refine q_next (pwp_wkr hs ?_)
  refine pwp_seq (r_reg ?_)
  refine zE ?_
  refine q_next (pwp_ret ?_)
  cases h
  exact zQ

/-! signallingref07.balises -/
noncomputable def d_ref07_balises_0 (a0 : T_api_Layout) : (Int × (List Int)) → Option ((Int × (List Int)) ⊕ ((List Int) ⊕ Int)) := fun (x12, x13) =>
  bif decide (x12 < ((a0.Balises.length : Nat) : Int)) then (
    (ixO a0.Balises x12).bind fun x20 =>
    ((bif (((decide (x20.Id < 1)) || (decide (1073741824 < x20.Id))) || (decide (x20.El < 0))) then some true else (
      some (decide (((a0.Elements.length : Nat) : Int) ≤ x20.El))
    )) : Option Bool).bind fun b21 =>
    ((bif (b21 || (decide (x20.Offset < 0))) then some true else (
      (ixO a0.Elements x20.El).bind fun x23 =>
      some (decide (x23.Length < x20.Offset))
    )) : Option Bool).bind fun b22 =>
    bif b22 then (
      some (.inr (.inr 1))
    ) else (
      (appO x13 [x20.Id]).bind fun x24 =>
      some (.inl (w64 (x12 + 1), x24))
    )
  ) else (
    some (.inr (.inl x13))
  )

noncomputable def d_ref07_balises (a0 : T_api_Layout) : Option Int :=
  onInl (α := (List Int)) (β := Int) (loopO (d_ref07_balises_0 a0) (0, ([] : (List Int)))) fun x19 =>
  (d_ref07_numbers x19).bind fun r25 =>
  bif r25 then (
    some 8
  ) else (
    some 0
  )
theorem d_ref07_balises_ok (a0 : T_api_Layout) (r : Int) (h : d_ref07_balises a0 = some r) : PCall Go.Proofs.Tryz.prog GlS 66 [Enc.pv a0] (Enc.pv r) := by
  unfold d_ref07_balises at h
  refine pcall_of_pwp Go.Proofs.Tryz.func66 (by rfl) rfl Go.Proofs.Tryz.ntmps66 (by rfl) rfl ?_
  refine pwp_seq (r_reg ?_)
  refine zE ?_
  refine q_next (pwp_seq (r_reg ?_))
  refine zE ?_
  refine q_next (pwp_seq (pwp_seq (r_reg ?_)))
  refine zR 2 ?_
  refine p_len (L := (a0.Balises : (List T_api_Balise))) (by kernel_rfl) ?_
  refine zE ?_
  refine q_next (pwp_block ?_)
  refine g_nil 3 100003 1 8 (by kernel_rfl) (by kernel_rfl) ?_
  obtain ⟨o20, h20, h⟩ := o_inl h
  refine r_loop2 59 0 (fun (x12, x13) => ⟨[(1, .ref 1 0), (3, lstOf (.own 100003) (x13 : (List Int))), (7, lstOf .frozen (a0.Balises : (List T_api_Balise))), (8, .int .i64 ((a0.Balises.length : Nat) : Int)), (9, .int .i64 x12)], [(1, .cells (cellsOf a0))], [(100003, (((x13).map cellsOf).length, 1))], []⟩) (fun x19 => ⟨[(3, lstOf (.own 100003) (x19 : (List Int)))], [], [(100003, (((x19).map cellsOf).length, 1))], []⟩) h20 (by kernel_rfl) (fun _ => by kernel_rfl) ?_ ?_
  · rintro ⟨x12, x13⟩ oh19 h19
    unfold d_ref07_balises_0 at h19
    refine pwp_seq (r_reg ?_)
    refine zE ?_
    refine q_next (pwp_seq ?_)
    rcases o_cond h19 with ⟨hb, h19⟩ | ⟨hb, h19⟩
    · refine zT hb ?_
      refine pwp_skip (q_next (pwp_seq (pwp_block (pwp_seq (r_reg ?_)))))
      obtain ⟨x20, h21, h19⟩ := o_bind h19
      refine zI h21 ?_
      refine zE ?_
      refine q_next (pwp_seq (pwp_seq ?_))
      refine r_regd (by kernel_rfl) (by kernel_rfl) ?_
      refine zR 4 ?_
      refine e_segb 4 20 ((decide (x20.Id < 1)) || (decide (1073741824 < x20.Id))) (fun x hx => ?_) ?_
      · rcases b_or hx with ⟨hb, hx⟩ | ⟨hb, hx⟩
        · refine zS 16 hb ?_
          subst hx
          exact zF
        refine zS 16 hb ?_
        subst hx
        exact zF
      refine zR 1 ?_
      refine e_segb 4 25 (((decide (x20.Id < 1)) || (decide (1073741824 < x20.Id))) || (decide (x20.El < 0))) (fun x hx => ?_) ?_
      · rcases b_or hx with ⟨hb, hx⟩ | ⟨hb, hx⟩
        · refine zS 21 hb ?_
          subst hx
          exact zF
        refine zS 21 hb ?_
        subst hx
        exact zF
      obtain ⟨b21, h22, h19⟩ := o_bind h19
      refine zR 1 ?_
      refine e_seg 7 33 (.bool b21) ?_ ?_
      · rcases o_cond h22 with ⟨hb, h22⟩ | ⟨hb, h22⟩
        · refine zS 26 hb ?_
          cases h22
          exact zF
        refine zS 26 hb ?_
        refine zR 4 ?_
        refine p_len (L := (a0.Elements : (List T_api_Element))) (by kernel_rfl) ?_
        cases h22
        exact zF
      refine zR 1 ?_
      refine e_segb 4 38 (b21 || (decide (x20.Offset < 0))) (fun x hx => ?_) ?_
      · rcases b_or hx with ⟨hb, hx⟩ | ⟨hb, hx⟩
        · refine zS 34 hb ?_
          subst hx
          exact zF
        refine zS 34 hb ?_
        subst hx
        exact zF
      obtain ⟨b22, h23, h19⟩ := o_bind h19
      refine zR 1 ?_
      refine e_seg 11 50 (.bool b22) ?_ ?_
      · rcases o_cond h23 with ⟨hb, h23⟩ | ⟨hb, h23⟩
        · refine zS 39 hb ?_
          cases h23
          exact zF
        refine zS 39 hb ?_
        refine zR 6 ?_
        obtain ⟨x23, h24, h23⟩ := o_bind h23
        refine zI h24 ?_
        cases h23
        exact zF
      refine zN ?_
      refine q_next ?_
      rcases o_cond h19 with ⟨hb, h19⟩ | ⟨hb, h19⟩
      · refine zT hb ?_
        refine pwp_seq (r_reg ?_)
        refine zE ?_
        refine q_next (pwp_ret (q_seq_ret (q_block_ret (q_seq_ret ?_))))
        cases h19
        refine q_lout_ret fun he => ?_
        subst he
        have h25 := o_outr h
        refine q_block_ret (q_seq_ret ?_)
        cases h25
        exact zQ
      refine zU hb ?_
      refine pwp_skip (q_next (r_reg ?_))
      refine zR 4 ?_
      obtain ⟨x24, h26, h19⟩ := o_bind h19
      refine p_app (tk := 100003) h26 (by kernel_rfl) (by kernel_rfl) ?_
      refine zE ?_
      refine q_block (q_next (r_reg ?_))
      refine zE ?_
      cases h19
      exact zB
    refine zU hb ?_
    refine pwp_exit (q_seq_exit ?_)
    cases h19
    exact zX
  rintro x19 s' rfl hs
  have h := o_outl h
  refine q_block_hit ?_
  refine q_next (pwp_wkr hs ?_)
  refine pwp_seq (pwp_seq (r_reg ?_))
  refine zR 1 ?_
  obtain ⟨r25, h27, h⟩ := o_bind h
  refine p_call (d_ref07_numbers_ok _ r25 h27) (by kernel_rfl) (by kernel_rfl) ?_
  refine zN ?_
  refine q_next ?_
  rcases o_cond h with ⟨hb, h⟩ | ⟨hb, h⟩
  · refine zT hb ?_
    refine pwp_seq (r_reg ?_)
    refine zE ?_
    refine q_next (pwp_ret (q_seq_ret ?_))
    cases h
    exact zQ
  refine zU hb ?_
  refine pwp_skip (q_next (pwp_seq (r_reg ?_)))
  refine zE ?_
  refine q_next (pwp_ret ?_)
  cases h
  exact zQ

/-! signallingref07.Check -/
noncomputable def d_ref07_Check (a0 : T_api_Layout) : Option Int :=
  (d_ref07_named a0).bind fun r1 =>
  bif (!(decide (r1 = 0))) then (
    some r1
  ) else (
    (d_ref07_elements a0).bind fun r2 =>
    bif (!(decide (r2 = 0))) then (
      some r2
    ) else (
      (d_ref07_signals a0).bind fun r3 =>
      bif (!(decide (r3 = 0))) then (
        some r3
      ) else (
        (d_ref07_balises a0).bind fun r4 =>
        some r4
      )
    )
  )
theorem d_ref07_Check_ok (a0 : T_api_Layout) (r : Int) (h : d_ref07_Check a0 = some r) : PCall Go.Proofs.Tryz.prog GlS 27 [Enc.pv a0] (Enc.pv r) := by
  unfold d_ref07_Check at h
  refine pcall_of_pwp Go.Proofs.Tryz.func27 (by rfl) rfl Go.Proofs.Tryz.ntmps27 (by rfl) rfl ?_
  refine pwp_seq (r_reg ?_)
  refine zE ?_
  refine q_next (pwp_seq (pwp_seq (r_reg ?_)))
  refine zR 1 ?_
  obtain ⟨r1, h1, h⟩ := o_bind h
  refine p_call (d_ref07_named_ok _ r1 h1) (by kernel_rfl) (by kernel_rfl) ?_
  refine zE ?_
  refine q_next (pwp_seq (r_reg ?_))
  refine zE ?_
  refine q_next ?_
  rcases o_cond h with ⟨hb, h⟩ | ⟨hb, h⟩
  · refine zT hb ?_
    refine pwp_seq (r_reg ?_)
    refine zE ?_
    refine q_next (pwp_ret (q_seq_ret ?_))
    cases h
    exact zQ
  refine zU hb ?_
  refine pwp_skip (q_next (pwp_seq (pwp_seq (r_reg ?_))))
  refine zR 1 ?_
  obtain ⟨r2, h2, h⟩ := o_bind h
  refine p_call (d_ref07_elements_ok _ r2 h2) (by kernel_rfl) (by kernel_rfl) ?_
  refine zE ?_
  refine q_next (pwp_seq (r_reg ?_))
  refine zE ?_
  refine q_next ?_
  rcases o_cond h with ⟨hb, h⟩ | ⟨hb, h⟩
  · refine zT hb ?_
    refine pwp_seq (r_reg ?_)
    refine zE ?_
    refine q_next (pwp_ret (q_seq_ret ?_))
    cases h
    exact zQ
  refine zU hb ?_
  refine pwp_skip (q_next (pwp_seq (pwp_seq (r_reg ?_))))
  refine zR 1 ?_
  obtain ⟨r3, h3, h⟩ := o_bind h
  refine p_call (d_ref07_signals_ok _ r3 h3) (by kernel_rfl) (by kernel_rfl) ?_
  refine zE ?_
  refine q_next (pwp_seq (r_reg ?_))
  refine zE ?_
  refine q_next ?_
  rcases o_cond h with ⟨hb, h⟩ | ⟨hb, h⟩
  · refine zT hb ?_
    refine pwp_seq (r_reg ?_)
    refine zE ?_
    refine q_next (pwp_ret (q_seq_ret ?_))
    cases h
    exact zQ
  refine zU hb ?_
  refine pwp_skip (q_next (pwp_seq (r_reg ?_)))
  refine zR 1 ?_
  obtain ⟨r4, h4, h⟩ := o_bind h
  refine p_call (d_ref07_balises_ok _ r4 h4) (by kernel_rfl) (by kernel_rfl) ?_
  refine zE ?_
  refine q_next (pwp_ret ?_)
  cases h
  exact zQ

/-! signallingref09.exists -/
noncomputable def d_ref09_exists (a0 : T_api_Layout) (a1 : Int) : Option Bool :=
  ((bif decide (0 ≤ a1) then (
    some (decide (a1 < ((a0.Elements.length : Nat) : Int)))
  ) else some false) : Option Bool).bind fun b1 =>
  some b1
theorem d_ref09_exists_ok (a0 : T_api_Layout) (a1 : Int) (r : Bool) (h : d_ref09_exists a0 a1 = some r) : PCall Go.Proofs.Tryz.prog GlS 72 [Enc.pv a0, Enc.pv a1] (Enc.pv r) := by
  unfold d_ref09_exists at h
  refine pcall_of_pwp Go.Proofs.Tryz.func72 (by rfl) rfl Go.Proofs.Tryz.ntmps72 (by rfl) rfl ?_
  refine pwp_seq (r_reg ?_)
  refine zE ?_
  refine q_next (pwp_seq (r_reg ?_))
  obtain ⟨b1, h1, h⟩ := o_bind h
  refine zR 3 ?_
  refine e_seg 6 13 (.bool b1) ?_ ?_
  · rcases o_cond h1 with ⟨hb, h1⟩ | ⟨hb, h1⟩
    · refine zS 7 hb ?_
      refine zR 3 ?_
      refine p_len (L := (a0.Elements : (List T_api_Element))) (by kernel_rfl) ?_
      cases h1
      exact zF
    refine zS 7 hb ?_
    cases h1
    exact zF
  refine zE ?_
  refine q_next (pwp_ret ?_)
  cases h
  exact zQ

/-! signallingref06.Need -/
noncomputable def d_ref06_Need (a0 : Int) (a1 : Int) (a2 : Int) : Option (Int × Bool) :=
  bif ((decide (a0 = 1)) || (decide (a0 = 3))) then (
    some (0, (((decide ((min a1 a2) = 0)) && (decide ((max a1 a2) = 1))) || (((decide (a0 = 3)) && (decide ((min a1 a2) = 2))) && (decide ((max a1 a2) = 3)))))
  ) else (
    bif (((decide (a0 = 2)) && (decide ((min a1 a2) = 0))) && (decide ((max a1 a2) = 1))) then (
      some (1, true)
    ) else (
      bif (((decide (a0 = 2)) && (decide ((min a1 a2) = 0))) && (decide ((max a1 a2) = 2))) then (
        some (2, true)
      ) else (
        some (0, false)
      )
    )
  )
theorem d_ref06_Need_ok (a0 : Int) (a1 : Int) (a2 : Int) (r : (Int × Bool)) (h : d_ref06_Need a0 a1 a2 = some r) : PCall Go.Proofs.Tryz.prog GlS 126 [Enc.pv a0, Enc.pv a1, Enc.pv a2] (.tup [Enc.pv r.1, Enc.pv r.2]) := by
  unfold d_ref06_Need at h
  refine pcall_of_pwp Go.Proofs.Tryz.func126 (by rfl) rfl Go.Proofs.Tryz.ntmps126 (by rfl) rfl ?_
  refine pwp_seq (r_reg ?_)
  refine zE ?_
  refine q_next (pwp_seq (r_reg ?_))
  refine zE ?_
  refine q_next (pwp_seq (r_reg ?_))
  refine zE ?_
  refine q_next (pwp_seq (pwp_seq (r_reg ?_)))
  refine zR 3 ?_
  refine e_segb 3 21 ((decide (a0 = 1)) || (decide (a0 = 3))) (fun x hx => ?_) ?_
  · rcases b_or hx with ⟨hb, hx⟩ | ⟨hb, hx⟩
    · refine zS 18 hb ?_
      subst hx
      exact zF
    refine zS 18 hb ?_
    subst hx
    exact zF
  refine zN ?_
  refine q_next ?_
  rcases o_cond h with ⟨hb, h⟩ | ⟨hb, h⟩
  · refine zT hb ?_
    refine pwp_seq (r_reg ?_)
    refine zR 3 ?_
    refine e_segb 3 27 ((decide ((min a1 a2) = 0)) && (decide ((max a1 a2) = 1))) (fun x hx => ?_) ?_
    · rcases b_and hx with ⟨hb, hx⟩ | ⟨hb, hx⟩
      · refine zS 24 hb ?_
        subst hx
        exact zF
      refine zS 24 hb ?_
      subst hx
      exact zF
    refine zR 1 ?_
    refine e_segb 11 39 (((decide ((min a1 a2) = 0)) && (decide ((max a1 a2) = 1))) || (((decide (a0 = 3)) && (decide ((min a1 a2) = 2))) && (decide ((max a1 a2) = 3)))) (fun x hx => ?_) ?_
    · rcases b_or hx with ⟨hb, hx⟩ | ⟨hb, hx⟩
      · refine zS 28 hb ?_
        subst hx
        exact zF
      refine zS 28 hb ?_
      refine zR 3 ?_
      refine f_segb 3 34 ((decide (a0 = 3)) && (decide ((min a1 a2) = 2))) (fun x hx => ?_) ?_
      · rcases b_and hx with ⟨hb, hx⟩ | ⟨hb, hx⟩
        · refine zS 31 hb ?_
          subst hx
          exact zF
        refine zS 31 hb ?_
        subst hx
        exact zF
      refine zR 1 ?_
      refine f_segb 3 38 (((decide (a0 = 3)) && (decide ((min a1 a2) = 2))) && (decide ((max a1 a2) = 3))) (fun x hx => ?_) ?_
      · rcases b_and hx with ⟨hb, hx⟩ | ⟨hb, hx⟩
        · refine zS 35 hb ?_
          subst hx
          exact zF
        refine zS 35 hb ?_
        subst hx
        exact zF
      subst hx
      exact zF
    refine zE ?_
    refine q_next (pwp_ret (q_seq_ret ?_))
    cases h
    exact zQ
  refine zU hb ?_
  refine pwp_skip (q_next (pwp_seq (pwp_seq (r_reg ?_))))
  refine zR 3 ?_
  refine e_segb 3 45 ((decide (a0 = 2)) && (decide ((min a1 a2) = 0))) (fun x hx => ?_) ?_
  · rcases b_and hx with ⟨hb, hx⟩ | ⟨hb, hx⟩
    · refine zS 42 hb ?_
      subst hx
      exact zF
    refine zS 42 hb ?_
    subst hx
    exact zF
  refine zR 1 ?_
  refine e_segb 3 49 (((decide (a0 = 2)) && (decide ((min a1 a2) = 0))) && (decide ((max a1 a2) = 1))) (fun x hx => ?_) ?_
  · rcases b_and hx with ⟨hb, hx⟩ | ⟨hb, hx⟩
    · refine zS 46 hb ?_
      subst hx
      exact zF
    refine zS 46 hb ?_
    subst hx
    exact zF
  refine zN ?_
  refine q_next ?_
  rcases o_cond h with ⟨hb, h⟩ | ⟨hb, h⟩
  · refine zT hb ?_
    refine pwp_seq (r_reg ?_)
    refine zE ?_
    refine q_next (pwp_ret (q_seq_ret ?_))
    cases h
    exact zQ
  refine zU hb ?_
  refine pwp_skip (q_next (pwp_seq (pwp_seq (r_reg ?_))))
  refine zR 3 ?_
  refine e_segb 3 55 ((decide (a0 = 2)) && (decide ((min a1 a2) = 0))) (fun x hx => ?_) ?_
  · rcases b_and hx with ⟨hb, hx⟩ | ⟨hb, hx⟩
    · refine zS 52 hb ?_
      subst hx
      exact zF
    refine zS 52 hb ?_
    subst hx
    exact zF
  refine zR 1 ?_
  refine e_segb 3 59 (((decide (a0 = 2)) && (decide ((min a1 a2) = 0))) && (decide ((max a1 a2) = 2))) (fun x hx => ?_) ?_
  · rcases b_and hx with ⟨hb, hx⟩ | ⟨hb, hx⟩
    · refine zS 56 hb ?_
      subst hx
      exact zF
    refine zS 56 hb ?_
    subst hx
    exact zF
  refine zN ?_
  refine q_next ?_
  rcases o_cond h with ⟨hb, h⟩ | ⟨hb, h⟩
  · refine zT hb ?_
    refine pwp_seq (r_reg ?_)
    refine zE ?_
    refine q_next (pwp_ret (q_seq_ret ?_))
    cases h
    exact zQ
  refine zU hb ?_
  refine pwp_skip (q_next (pwp_seq (r_reg ?_)))
  refine zE ?_
  refine q_next (pwp_ret ?_)
  cases h
  exact zQ

/-! signallingref06.Legs -/
noncomputable def d_ref06_Legs_0 (a0 : Int) (a1 : Int) : (Int × (List Int)) → Option ((Int × (List Int)) ⊕ ((List Int) ⊕ (List Int))) := fun (x12, x13) =>
  bif decide (x12 < 4) then (
    onInl (α := (List Int)) (β := ((Int × (List Int)) ⊕ ((List Int) ⊕ (List Int)))) (
      (d_ref06_Need a0 a1 x12).bind fun r23 =>
      bif r23.2 then (
        (appO x13 [x12]).bind fun x24 =>
        some (.inl x24)
      ) else (
        some (.inl x13)
      )
    ) fun x22 =>
    some (.inl (w64 (x12 + 1), x22))
  ) else (
    some (.inr (.inl x13))
  )

noncomputable def d_ref06_Legs (a0 : Int) (a1 : Int) : Option (List Int) :=
  onInl (α := (List Int)) (β := (List Int)) (loopO (d_ref06_Legs_0 a0 a1) (0, ([] : (List Int)))) fun x19 =>
  some x19
theorem d_ref06_Legs_ok (a0 : Int) (a1 : Int) (r : (List Int)) (h : d_ref06_Legs a0 a1 = some r) : PCall Go.Proofs.Tryz.prog GlS 117 [Enc.pv a0, Enc.pv a1] (lstOf (.own 100005) r) := by
  unfold d_ref06_Legs at h
  refine pcall_of_pwp Go.Proofs.Tryz.func117 (by rfl) rfl Go.Proofs.Tryz.ntmps117 (by rfl) rfl ?_
  refine pwp_seq (r_reg ?_)
  refine zE ?_
  refine q_next (pwp_seq (r_reg ?_))
  refine zE ?_
  refine q_next (pwp_seq (pwp_seq (r_reg ?_)))
  refine zE ?_
  refine q_next (pwp_block ?_)
  refine g_nil 5 100005 1 8 (by kernel_rfl) (by kernel_rfl) ?_
  obtain ⟨o17, h17, h⟩ := o_inl h
  refine r_loop2 26 0 (fun (x12, x13) => ⟨[(0, .int .i64 a0), (1, .int .i64 a1), (5, lstOf (.own 100005) (x13 : (List Int))), (6, .int .i64 x12)], [], [(100005, (((x13).map cellsOf).length, 1))], []⟩) (fun x19 => ⟨[(5, lstOf (.own 100005) (x19 : (List Int)))], [], [(100005, (((x19).map cellsOf).length, 1))], []⟩) h17 (by kernel_rfl) (fun _ => by kernel_rfl) ?_ ?_
  · rintro ⟨x12, x13⟩ oh16 h16
    unfold d_ref06_Legs_0 at h16
    refine pwp_seq (pwp_seq (r_reg ?_))
    refine zE ?_
    refine q_next ?_
    rcases o_cond h16 with ⟨hb, h16⟩ | ⟨hb, h16⟩
    · refine zT hb ?_
      refine pwp_skip (q_next ?_)
      obtain ⟨o20, h20, h16⟩ := o_inl h16
      refine r_join (o := o20) 26 (fun x22 => ⟨[(0, .int .i64 a0), (1, .int .i64 a1), (5, lstOf (.own 100005) (x22 : (List Int))), (6, .int .i64 x12)], [], [(100005, (((x22).map cellsOf).length, 1))], []⟩) ?_ ?_
      · refine pwp_block (pwp_seq (r_reg ?_))
        refine zR 3 ?_
        obtain ⟨r23, h21, h20⟩ := o_bind h20
        refine p_call (d_ref06_Need_ok _ _ _ r23 h21) (by kernel_rfl) (by kernel_rfl) ?_
        refine zE ?_
        refine q_next (pwp_seq (r_reg ?_))
        refine zE ?_
        refine q_next ?_
        rcases o_cond h20 with ⟨hb, h20⟩ | ⟨hb, h20⟩
        · refine zT hb ?_
          refine r_reg ?_
          refine zR 3 ?_
          obtain ⟨x24, h22, h20⟩ := o_bind h20
          refine p_app (tk := 100005) h22 (by kernel_rfl) (by kernel_rfl) ?_
          refine zE ?_
          refine q_block ?_
          cases h20
          exact zJ
        refine zU hb ?_
        refine pwp_skip (q_block ?_)
        cases h20
        exact zJ
      rintro x22 rfl
      have h16 := o_outl h16
      refine r_reg ?_
      refine zE ?_
      cases h16
      exact zB
    refine zU hb ?_
    refine pwp_exit (q_seq_exit ?_)
    cases h16
    exact zX
  rintro x19 s' rfl hs
  have h := o_outl h
  refine q_block_hit ?_
  refine q_next (pwp_wkr hs ?_)
  refine pwp_seq (r_reg ?_)
  refine zE ?_
  refine q_next (pwp_ret ?_)
  cases h
  exact zQ
theorem d_ref06_Legs_fz (a0 : Int) (a1 : Int) (r : (List Int)) (h : d_ref06_Legs a0 a1 = some r) : PCall Go.Proofs.Tryz.prog GlS 117 [Enc.pv a0, Enc.pv a1] (Enc.pv r) :=
  (d_ref06_Legs_ok a0 a1 r h).freeze (by kernel_rfl) (by kernel_rfl) (by kernel_rfl)

/-! signallingref09.Branches -/
noncomputable def d_ref09_Branches_0 (a1 : T_api_End) (r3 : (List Int)) : (Int × (List T_api_Step)) → Option ((Int × (List T_api_Step)) ⊕ ((List T_api_Step) ⊕ (List T_api_Step))) := fun (x9, x10) =>
  bif decide (x9 < ((r3.length : Nat) : Int)) then (
    (ixO r3 x9).bind fun x14 =>
    (appO x10 [(T_api_Step.mk a1.El a1.Side x14)]).bind fun x15 =>
    some (.inl (w64 (x9 + 1), x15))
  ) else (
    some (.inr (.inl x10))
  )

noncomputable def d_ref09_Branches (a0 : T_api_Layout) (a1 : T_api_End) : Option (List T_api_Step) :=
  (d_ref09_exists a0 a1.El).bind fun r1 =>
  bif (!r1) then (
    some ([] : (List T_api_Step))
  ) else (
    (ixO a0.Elements a1.El).bind fun x2 =>
    (d_ref06_Legs x2.Kind a1.Side).bind fun r3 =>
    onInl (α := (List T_api_Step)) (β := (List T_api_Step)) (loopO (d_ref09_Branches_0 a1 r3) (0, ([] : (List T_api_Step)))) fun x13 =>
    some x13
  )
theorem d_ref09_Branches_ok (a0 : T_api_Layout) (a1 : T_api_End) (r : (List T_api_Step)) (h : d_ref09_Branches a0 a1 = some r) : PCall Go.Proofs.Tryz.prog GlS 81 [Enc.pv a0, Enc.pv a1] (lstOf (.own 100006) r) := by
  unfold d_ref09_Branches at h
  refine pcall_of_pwp Go.Proofs.Tryz.func81 (by rfl) rfl Go.Proofs.Tryz.ntmps81 (by rfl) rfl ?_
  refine pwp_seq (r_reg ?_)
  refine zE ?_
  refine q_next (pwp_seq (pwp_seq (r_reg ?_)))
  refine zR 3 ?_
  obtain ⟨r1, h1, h⟩ := o_bind h
  refine p_call (d_ref09_exists_ok _ _ r1 h1) (by kernel_rfl) (by kernel_rfl) ?_
  refine zE ?_
  refine q_next ?_
  rcases o_cond h with ⟨hb, h⟩ | ⟨hb, h⟩
  · refine zT hb ?_
    refine pwp_seq (r_reg ?_)
    refine zE ?_
    refine q_next ?_
    refine g_nil 4 100006 3 24 (by kernel_rfl) (by kernel_rfl) ?_
    refine pwp_ret (q_seq_ret ?_)
    cases h
    exact zQ
  refine zU hb ?_
  refine pwp_skip (q_next (pwp_seq ?_))
  refine r_regd (by kernel_rfl) (by kernel_rfl) ?_
  refine zR 4 ?_
  obtain ⟨x2, h2, h⟩ := o_bind h
  refine zI h2 ?_
  refine zR 4 ?_
  obtain ⟨r3, h3, h⟩ := o_bind h
  refine p_call (d_ref06_Legs_fz _ _ r3 h3) (by kernel_rfl) (by kernel_rfl) ?_
  refine zE ?_
  refine q_next (pwp_seq (r_reg ?_))
  refine zE ?_
  refine q_next (pwp_seq (pwp_seq (r_reg ?_)))
  refine zE ?_
  refine q_next (pwp_block ?_)
  refine g_nil 6 100006 3 24 (by kernel_rfl) (by kernel_rfl) ?_
  obtain ⟨o11, h11, h⟩ := o_inl h
  refine r_loop2 42 0 (fun (x9, x10) => ⟨[(3, .ref 3 0), (5, lstOf .frozen (r3 : (List Int))), (6, lstOf (.own 100006) (x10 : (List T_api_Step))), (7, .int .i64 x9)], [(3, .cells (cellsOf a1))], [(100006, (((x10).map cellsOf).length, 3))], []⟩) (fun x13 => ⟨[(6, lstOf (.own 100006) (x13 : (List T_api_Step)))], [], [(100006, (((x13).map cellsOf).length, 3))], []⟩) h11 (by kernel_rfl) (fun _ => by kernel_rfl) ?_ ?_
  · rintro ⟨x9, x10⟩ oh10 h10
    unfold d_ref09_Branches_0 at h10
    refine pwp_seq (pwp_seq (r_reg ?_))
    refine zR 2 ?_
    refine p_len (L := (r3 : (List Int))) (by kernel_rfl) ?_
    refine zE ?_
    refine q_next ?_
    rcases o_cond h10 with ⟨hb, h10⟩ | ⟨hb, h10⟩
    · refine zT hb ?_
      refine pwp_skip (q_next (pwp_seq (pwp_block ?_)))
      refine r_regd (by kernel_rfl) (by kernel_rfl) ?_
      refine zR 7 ?_
      obtain ⟨x14, h12, h10⟩ := o_bind h10
      refine zI h12 ?_
      refine zR 3 ?_
      obtain ⟨x15, h13, h10⟩ := o_bind h10
      refine p_app (tk := 100006) h13 (by kernel_rfl) (by kernel_rfl) ?_
      refine zE ?_
      refine q_block (q_next (r_reg ?_))
      refine zE ?_
      cases h10
      exact zB
    refine zU hb ?_
    refine pwp_exit (q_seq_exit ?_)
    cases h10
    exact zX
  rintro x13 s' rfl hs
  have h := o_outl h
  refine q_block_hit ?_
  refine q_next (pwp_wkr hs ?_)
  refine pwp_seq (r_reg ?_)
  refine zE ?_
  refine q_next (pwp_ret ?_)
  cases h
  exact zQ
theorem d_ref09_Branches_fz (a0 : T_api_Layout) (a1 : T_api_End) (r : (List T_api_Step)) (h : d_ref09_Branches a0 a1 = some r) : PCall Go.Proofs.Tryz.prog GlS 81 [Enc.pv a0, Enc.pv a1] (Enc.pv r) :=
  (d_ref09_Branches_ok a0 a1 r h).freeze (by kernel_rfl) (by kernel_rfl) (by kernel_rfl)

/-! signallingref09.need -/
noncomputable def d_ref09_need (a0 : T_api_Layout) (a1 : T_api_Step) : Option (Int × Bool) :=
  (d_ref09_exists a0 a1.El).bind fun r1 =>
  bif (!r1) then (
    some (0, false)
  ) else (
    (ixO a0.Elements a1.El).bind fun x2 =>
    (d_ref06_Need x2.Kind a1.In a1.Out).bind fun r3 =>
    some (r3.1, r3.2)
  )
theorem d_ref09_need_ok (a0 : T_api_Layout) (a1 : T_api_Step) (r : (Int × Bool)) (h : d_ref09_need a0 a1 = some r) : PCall Go.Proofs.Tryz.prog GlS 105 [Enc.pv a0, Enc.pv a1] (.tup [Enc.pv r.1, Enc.pv r.2]) := by
  unfold d_ref09_need at h
  refine pcall_of_pwp Go.Proofs.Tryz.func105 (by rfl) rfl Go.Proofs.Tryz.ntmps105 (by rfl) rfl ?_
  refine pwp_seq (r_reg ?_)
  refine zE ?_
  refine q_next (pwp_seq (pwp_seq (r_reg ?_)))
  refine zR 3 ?_
  obtain ⟨r1, h1, h⟩ := o_bind h
  refine p_call (d_ref09_exists_ok _ _ r1 h1) (by kernel_rfl) (by kernel_rfl) ?_
  refine zE ?_
  refine q_next ?_
  rcases o_cond h with ⟨hb, h⟩ | ⟨hb, h⟩
  · refine zT hb ?_
    refine pwp_seq (r_reg ?_)
    refine zE ?_
    refine q_next (pwp_ret (q_seq_ret ?_))
    cases h
    exact zQ
  refine zU hb ?_
  refine pwp_skip (q_next (pwp_seq ?_))
  refine r_regd (by kernel_rfl) (by kernel_rfl) ?_
  refine zR 4 ?_
  obtain ⟨x2, h2, h⟩ := o_bind h
  refine zI h2 ?_
  refine zR 6 ?_
  obtain ⟨r3, h3, h⟩ := o_bind h
  refine p_call (d_ref06_Need_ok _ _ _ r3 h3) (by kernel_rfl) (by kernel_rfl) ?_
  refine zE ?_
  refine q_next (pwp_ret ?_)
  cases h
  exact zQ

/-! signallingref09.Next -/
noncomputable def d_ref09_Next (a0 : T_api_Layout) (a1 : T_api_Step) : Option (T_api_End × Bool) :=
  (d_ref07_Joined a0 (T_api_End.mk a1.El a1.Out)).bind fun r1 =>
  some (r1.1, r1.2)
theorem d_ref09_Next_ok (a0 : T_api_Layout) (a1 : T_api_Step) (r : (T_api_End × Bool)) (h : d_ref09_Next a0 a1 = some r) : PCall Go.Proofs.Tryz.prog GlS 82 [Enc.pv a0, Enc.pv a1] (.tup [Enc.pv r.1, Enc.pv r.2]) := by
  unfold d_ref09_Next at h
  refine pcall_of_pwp Go.Proofs.Tryz.func82 (by rfl) rfl Go.Proofs.Tryz.ntmps82 (by rfl) rfl ?_
  refine pwp_seq (r_reg ?_)
  refine zE ?_
  refine q_next (pwp_seq (r_reg ?_))
  refine zR 6 ?_
  obtain ⟨r1, h1, h⟩ := o_bind h
  refine p_call (d_ref07_Joined_ok _ _ r1 h1) (by kernel_rfl) (by kernel_rfl) ?_
  refine zE ?_
  refine q_next (pwp_ret ?_)
  cases h
  exact zQ

/-! signallingref09.Valid -/
noncomputable def d_ref09_Valid_1 (a1 : (List T_api_Step)) (x23 : Int) : Int → Option (Int ⊕ (Unit ⊕ (Int ⊕ (Unit ⊕ Bool)))) := fun x61 =>
  bif decide (x61 < x23) then (
    (ixO a1 x61).bind fun x64 =>
    (ixO a1 x23).bind fun x65 =>
    bif decide (x64.El = x65.El) then (
      some (.inr (.inr (.inr (.inr false))))
    ) else (
      some (.inl (w64 (x61 + 1)))
    )
  ) else (
    some (.inr (.inl ()))
  )

noncomputable def d_ref09_Valid_0 (a0 : T_api_Layout) (a1 : (List T_api_Step)) : Int → Option (Int ⊕ (Unit ⊕ Bool)) := fun x23 =>
  bif decide (x23 < ((a1.length : Nat) : Int)) then (
    (ixO a1 x23).bind fun x45 =>
    (d_ref09_need a0 x45).bind fun r46 =>
    bif (!r46.2) then (
      some (.inr (.inr false))
    ) else (
      onInl (α := Unit) (β := (Int ⊕ (Unit ⊕ Bool))) (
        bif decide (0 < x23) then (
          (ixO a1 (w64 (x23 - 1))).bind fun x53 =>
          (d_ref09_Next a0 x53).bind fun r54 =>
          ((bif (!r54.2) then some true else (
            (ixO a1 x23).bind fun x56 =>
            some (!(decide (r54.1.El = x56.El)))
          )) : Option Bool).bind fun b55 =>
          ((bif b55 then some true else (
            (ixO a1 x23).bind fun x58 =>
            some (!(decide (r54.1.Side = x58.In)))
          )) : Option Bool).bind fun b57 =>
          bif b57 then (
            some (.inr (.inr (.inr false)))
          ) else (
            some (.inl ())
          )
        ) else (
          some (.inl ())
        )
      ) fun _ =>
      onInl (α := Unit) (β := (Int ⊕ (Unit ⊕ Bool))) (loopO (d_ref09_Valid_1 a1 x23) 0) fun _ =>
      some (.inl (w64 (x23 + 1)))
    )
  ) else (
    some (.inr (.inl ()))
  )

noncomputable def d_ref09_Valid (a0 : T_api_Layout) (a1 : (List T_api_Step)) : Option Bool :=
  ((bif decide (((a1.length : Nat) : Int) = 0) then some true else (
    some (decide (64 < ((a1.length : Nat) : Int)))
  )) : Option Bool).bind fun b1 =>
  bif b1 then (
    some false
  ) else (
    onInl (α := Unit) (β := Bool) (loopO (d_ref09_Valid_0 a0 a1) 0) fun _ =>
    some true
  )
theorem d_ref09_Valid_ok (a0 : T_api_Layout) (a1 : (List T_api_Step)) (r : Bool) (h : d_ref09_Valid a0 a1 = some r) : PCall Go.Proofs.Tryz.prog GlS 69 [Enc.pv a0, Enc.pv a1] (Enc.pv r) := by
  unfold d_ref09_Valid at h
  refine pcall_of_pwp Go.Proofs.Tryz.func69 (by rfl) rfl Go.Proofs.Tryz.ntmps69 (by rfl) rfl ?_
  refine pwp_seq (r_reg ?_)
  refine zE ?_
  refine q_next (pwp_seq (pwp_seq (r_reg ?_)))
  refine zR 1 ?_
  refine p_len (L := (a1 : (List T_api_Step))) (by kernel_rfl) ?_
  obtain ⟨b1, h1, h⟩ := o_bind h
  refine zR 2 ?_
  refine e_seg 4 18 (.bool b1) ?_ ?_
  · rcases o_cond h1 with ⟨hb, h1⟩ | ⟨hb, h1⟩
    · refine zS 14 hb ?_
      cases h1
      exact zF
    refine zS 14 hb ?_
    refine zR 1 ?_
    refine p_len (L := (a1 : (List T_api_Step))) (by kernel_rfl) ?_
    cases h1
    exact zF
  refine zN ?_
  refine q_next ?_
  rcases o_cond h with ⟨hb, h⟩ | ⟨hb, h⟩
  · refine zT hb ?_
    refine pwp_seq (r_reg ?_)
    refine zE ?_
    refine q_next (pwp_ret (q_seq_ret ?_))
    cases h
    exact zQ
  refine zU hb ?_
  refine pwp_skip (q_next (pwp_seq (pwp_seq (r_reg ?_))))
  refine zE ?_
  refine q_next (pwp_block ?_)
  obtain ⟨o71, h71, h⟩ := o_inl h
  refine r_loop2 86 0 (fun x23 => ⟨[(1, lstOf .frozen (a1 : (List T_api_Step))), (2, .ref 2 0), (5, .int .i64 x23)], [(2, .cells (cellsOf a0))], [], []⟩) (fun (_ : Unit) => ⟨[], [], [], []⟩) h71 (by kernel_rfl) (fun _ => by kernel_rfl) ?_ ?_
  · rintro x23 oh70 h70
    unfold d_ref09_Valid_0 at h70
    refine pwp_seq (pwp_seq (r_reg ?_))
    refine zR 2 ?_
    refine p_len (L := (a1 : (List T_api_Step))) (by kernel_rfl) ?_
    refine zE ?_
    refine q_next ?_
    rcases o_cond h70 with ⟨hb, h70⟩ | ⟨hb, h70⟩
    · refine zT hb ?_
      refine pwp_skip (q_next (pwp_seq (pwp_block (pwp_seq ?_))))
      refine r_regd (by kernel_rfl) (by kernel_rfl) ?_
      refine zR 3 ?_
      obtain ⟨x45, h72, h70⟩ := o_bind h70
      refine zI h72 ?_
      refine zR 1 ?_
      obtain ⟨r46, h73, h70⟩ := o_bind h70
      refine p_call (d_ref09_need_ok _ _ r46 h73) (by kernel_rfl) (by kernel_rfl) ?_
      refine zE ?_
      refine q_next (pwp_seq (pwp_seq (r_reg ?_)))
      refine zE ?_
      refine q_next ?_
      rcases o_cond h70 with ⟨hb, h70⟩ | ⟨hb, h70⟩
      · refine zT hb ?_
        refine pwp_seq (r_reg ?_)
        refine zE ?_
        refine q_next (pwp_ret (q_seq_ret (q_block_ret (q_seq_ret ?_))))
        cases h70
        refine q_lout_ret fun he => ?_
        subst he
        have h74 := o_outr h
        refine q_block_ret (q_seq_ret ?_)
        cases h74
        exact zQ
      refine zU hb ?_
      refine pwp_skip (q_next ?_)
      obtain ⟨o83, h83, h70⟩ := o_inl h70
      refine r_join (o := o83) 86 (fun (_ : Unit) => ⟨[(1, lstOf .frozen (a1 : (List T_api_Step))), (2, .ref 2 0), (5, .int .i64 x23)], [(2, .cells (cellsOf a0))], [], []⟩) ?_ ?_
      · refine pwp_seq (r_reg ?_)
        refine zE ?_
        refine q_next ?_
        rcases o_cond h83 with ⟨hb, h83⟩ | ⟨hb, h83⟩
        · refine zT hb ?_
          refine pwp_seq ?_
          refine r_regd (by kernel_rfl) (by kernel_rfl) ?_
          refine zR 4 ?_
          obtain ⟨x53, h84, h83⟩ := o_bind h83
          refine zI h84 ?_
          refine zR 1 ?_
          obtain ⟨r54, h85, h83⟩ := o_bind h83
          refine p_call (d_ref09_Next_ok _ _ r54 h85) (by kernel_rfl) (by kernel_rfl) ?_
          refine zE ?_
          refine q_next (pwp_seq ?_)
          refine r_regd (by kernel_rfl) (by kernel_rfl) ?_
          obtain ⟨b55, h86, h83⟩ := o_bind h83
          refine zR 3 ?_
          refine e_seg 9 59 (.bool b55) ?_ ?_
          · rcases o_cond h86 with ⟨hb, h86⟩ | ⟨hb, h86⟩
            · refine zS 50 hb ?_
              cases h86
              exact zF
            refine zS 50 hb ?_
            refine zR 4 ?_
            obtain ⟨x56, h87, h86⟩ := o_bind h86
            refine zI h87 ?_
            cases h86
            exact zF
          obtain ⟨b57, h88, h83⟩ := o_bind h83
          refine zR 1 ?_
          refine e_seg 9 69 (.bool b57) ?_ ?_
          · rcases o_cond h88 with ⟨hb, h88⟩ | ⟨hb, h88⟩
            · refine zS 60 hb ?_
              cases h88
              exact zF
            refine zS 60 hb ?_
            refine zR 4 ?_
            obtain ⟨x58, h89, h88⟩ := o_bind h88
            refine zI h89 ?_
            cases h88
            exact zF
          refine zN ?_
          refine q_next ?_
          rcases o_cond h83 with ⟨hb, h83⟩ | ⟨hb, h83⟩
          · refine zT hb ?_
            refine pwp_seq (r_reg ?_)
            refine zE ?_
            refine q_next (pwp_ret ?_)
            cases h83
            refine q_jout_ret ?_
            have h90 := o_outr h70
            refine q_block_ret (q_seq_ret ?_)
            cases h90
            refine q_lout_ret fun he => ?_
            subst he
            have h91 := o_outr h
            refine q_block_ret (q_seq_ret ?_)
            cases h91
            exact zQ
          refine zU hb ?_
          refine pwp_skip ?_
          cases h83
          exact zJ
        refine zU hb ?_
        refine pwp_skip ?_
        cases h83
        exact zJ
      rintro _ rfl
      have h70 := o_outl h70
      refine pwp_seq (r_reg ?_)
      refine zE ?_
      refine q_next (pwp_block ?_)
      obtain ⟨o101, h101, h70⟩ := o_inl h70
      refine r_loop2 86 2 (fun x61 => ⟨[(1, lstOf .frozen (a1 : (List T_api_Step))), (2, .ref 2 0), (5, .int .i64 x23), (10, .int .i64 x61)], [(2, .cells (cellsOf a0))], [], []⟩) (fun (_ : Unit) => ⟨[(1, lstOf .frozen (a1 : (List T_api_Step))), (2, .ref 2 0), (5, .int .i64 x23)], [(2, .cells (cellsOf a0))], [], []⟩) h101 (by kernel_rfl) (fun _ => by kernel_rfl) ?_ ?_
      · rintro x61 oh100 h100
        unfold d_ref09_Valid_1 at h100
        refine pwp_seq (pwp_seq (r_reg ?_))
        refine zE ?_
        refine q_next ?_
        rcases o_cond h100 with ⟨hb, h100⟩ | ⟨hb, h100⟩
        · refine zT hb ?_
          refine pwp_skip (q_next (pwp_seq (pwp_block (pwp_seq ?_))))
          refine r_regd (by kernel_rfl) (by kernel_rfl) ?_
          refine zR 2 ?_
          obtain ⟨x64, h102, h100⟩ := o_bind h100
          refine zI h102 ?_
          refine zR 4 ?_
          obtain ⟨x65, h103, h100⟩ := o_bind h100
          refine zI h103 ?_
          refine zE ?_
          refine q_next ?_
          rcases o_cond h100 with ⟨hb, h100⟩ | ⟨hb, h100⟩
          · refine zT hb ?_
            refine pwp_seq (r_reg ?_)
            refine zE ?_
            refine q_next (pwp_ret (q_block_ret (q_seq_ret ?_)))
            cases h100
            refine q_lout_ret fun he => ?_
            subst he
            have h104 := o_outr h70
            refine q_block_ret (q_block_ret (q_seq_ret ?_))
            cases h104
            refine q_lout_ret fun he => ?_
            subst he
            have h105 := o_outr h
            refine q_block_ret (q_seq_ret ?_)
            cases h105
            exact zQ
          refine zU hb ?_
          refine pwp_skip (q_block (q_next (r_reg ?_)))
          refine zE ?_
          cases h100
          exact zB
        refine zU hb ?_
        refine pwp_exit (q_seq_exit ?_)
        cases h100
        exact zX
      rintro _ s' rfl hs
      have h70 := o_outl h70
      refine q_block_hit (q_block ?_)
      refine q_next (pwp_wkr hs ?_)
      refine r_reg ?_
      refine zE ?_
      cases h70
      exact zB
    refine zU hb ?_
    refine pwp_exit (q_seq_exit ?_)
    cases h70
    exact zX
  rintro _ s' rfl hs
  have h := o_outl h
  refine q_block_hit ?_
  refine q_next (pwp_wkr hs ?_)
  refine pwp_seq (r_reg ?_)
  refine zE ?_
  refine q_next (pwp_ret ?_)
  cases h
  exact zQ

/-! signallingref07.Section -/
noncomputable def d_ref07_Section (a0 : T_api_Layout) (a1 : Int) : Option Int :=
  ((bif decide (a1 < 0) then some true else (
    some (decide (((a0.Elements.length : Nat) : Int) ≤ a1))
  )) : Option Bool).bind fun b1 =>
  bif b1 then (
    some (-1)
  ) else (
    (ixO a0.Elements a1).bind fun x2 =>
    some x2.Section
  )
theorem d_ref07_Section_ok (a0 : T_api_Layout) (a1 : Int) (r : Int) (h : d_ref07_Section a0 a1 = some r) : PCall Go.Proofs.Tryz.prog GlS 41 [Enc.pv a0, Enc.pv a1] (Enc.pv r) := by
  unfold d_ref07_Section at h
  refine pcall_of_pwp Go.Proofs.Tryz.func41 (by rfl) rfl Go.Proofs.Tryz.ntmps41 (by rfl) rfl ?_
  refine pwp_seq (r_reg ?_)
  refine zE ?_
  refine q_next (pwp_seq (pwp_seq (r_reg ?_)))
  obtain ⟨b1, h1, h⟩ := o_bind h
  refine zR 3 ?_
  refine e_seg 6 13 (.bool b1) ?_ ?_
  · rcases o_cond h1 with ⟨hb, h1⟩ | ⟨hb, h1⟩
    · refine zS 7 hb ?_
      cases h1
      exact zF
    refine zS 7 hb ?_
    refine zR 3 ?_
    refine p_len (L := (a0.Elements : (List T_api_Element))) (by kernel_rfl) ?_
    cases h1
    exact zF
  refine zN ?_
  refine q_next ?_
  rcases o_cond h with ⟨hb, h⟩ | ⟨hb, h⟩
  · refine zT hb ?_
    refine pwp_seq (r_reg ?_)
    refine zE ?_
    refine q_next (pwp_ret (q_seq_ret ?_))
    cases h
    exact zQ
  refine zU hb ?_
  refine pwp_skip (q_next (pwp_seq (r_reg ?_)))
  refine zR 3 ?_
  obtain ⟨x2, h2, h⟩ := o_bind h
  refine zI h2 ?_
  refine zE ?_
  refine q_next (pwp_ret ?_)
  cases h
  exact zQ

/-! signallingref09.has -/
noncomputable def d_ref09_has_0 (a0 : (List Int)) (a1 : Int) : Int → Option (Int ⊕ (Unit ⊕ Bool)) := fun x2 =>
  bif decide (x2 < ((a0.length : Nat) : Int)) then (
    (ixO a0 x2).bind fun x4 =>
    bif decide (x4 = a1) then (
      some (.inr (.inr true))
    ) else (
      some (.inl (w64 (x2 + 1)))
    )
  ) else (
    some (.inr (.inl ()))
  )

noncomputable def d_ref09_has (a0 : (List Int)) (a1 : Int) : Option Bool :=
  onInl (α := Unit) (β := Bool) (loopO (d_ref09_has_0 a0 a1) 0) fun _ =>
  some false
theorem d_ref09_has_ok (a0 : (List Int)) (a1 : Int) (r : Bool) (h : d_ref09_has a0 a1 = some r) : PCall Go.Proofs.Tryz.prog GlS 119 [Enc.pv a0, Enc.pv a1] (Enc.pv r) := by
  unfold d_ref09_has at h
  refine pcall_of_pwp Go.Proofs.Tryz.func119 (by rfl) rfl Go.Proofs.Tryz.ntmps119 (by rfl) rfl ?_
  refine pwp_seq (r_reg ?_)
  refine zE ?_
  refine q_next (pwp_seq (pwp_seq (r_reg ?_)))
  refine zE ?_
  refine q_next (pwp_block ?_)
  obtain ⟨o6, h6, h⟩ := o_inl h
  refine r_loop2 18 0 (fun x2 => ⟨[(0, lstOf .frozen (a0 : (List Int))), (1, .int .i64 a1), (5, .int .i64 x2)], [], [], []⟩) (fun (_ : Unit) => ⟨[], [], [], []⟩) h6 (by kernel_rfl) (fun _ => by kernel_rfl) ?_ ?_
  · rintro x2 oh5 h5
    unfold d_ref09_has_0 at h5
    refine pwp_seq (pwp_seq (r_reg ?_))
    refine zR 2 ?_
    refine p_len (L := (a0 : (List Int))) (by kernel_rfl) ?_
    refine zE ?_
    refine q_next ?_
    rcases o_cond h5 with ⟨hb, h5⟩ | ⟨hb, h5⟩
    · refine zT hb ?_
      refine pwp_skip (q_next (pwp_seq (pwp_block (pwp_seq (r_reg ?_)))))
      refine zR 2 ?_
      obtain ⟨x4, h7, h5⟩ := o_bind h5
      refine zI h7 ?_
      refine zE ?_
      refine q_next ?_
      rcases o_cond h5 with ⟨hb, h5⟩ | ⟨hb, h5⟩
      · refine zT hb ?_
        refine pwp_seq (r_reg ?_)
        refine zE ?_
        refine q_next (pwp_ret (q_block_ret (q_seq_ret ?_)))
        cases h5
        refine q_lout_ret fun he => ?_
        subst he
        have h8 := o_outr h
        refine q_block_ret (q_seq_ret ?_)
        cases h8
        exact zQ
      refine zU hb ?_
      refine pwp_skip (q_block (q_next (r_reg ?_)))
      refine zE ?_
      cases h5
      exact zB
    refine zU hb ?_
    refine pwp_exit (q_seq_exit ?_)
    cases h5
    exact zX
  rintro _ s' rfl hs
  have h := o_outl h
  refine q_block_hit ?_
  refine q_next (pwp_wkr hs ?_)
  refine pwp_seq (r_reg ?_)
  refine zE ?_
  refine q_next (pwp_ret ?_)
  cases h
  exact zQ

end PM
