/-
  Plain functions for the program's functions, and the proofs that the program does them. Printed by den.py.
-/
import Derived.Test.YtombbpdpmagngaaDoorPmSo
import Derived.Test.YtombbpdpmagngaaDoorPmQt
import Derived.Test.YtombbpdpmagngaaDoorPmSt
import Derived.Test.YtombbpdpmagngaaDoorPmR
import Derived.Test.YtombbpdpmagngaaDoorPlA
import Derived.Test.YtombbpdpmagngaaDoorProg
import Derived.Test.YtombbpdpmagngaaDoorLay
import Derived.Test.YtombbpdpmagngaaDoorChecked
namespace PM
open Go Go.RowKit
attribute [local irreducible] pops pwp

structure T_rail_passage where
  kind_ : Int
  in_ : Int
  out_ : Int
  need_ : Int
instance : Enc T_rail_passage := ⟨4, 32, fun x => .agg [.int .i64 x.kind_, .int .i64 x.in_, .int .i64 x.out_, .int .i64 x.need_]⟩
instance : Inhabited T_rail_passage := ⟨⟨0, 0, 0, 0⟩⟩
def eq_T_rail_passage (x y : T_rail_passage) : Bool := (decide (x.kind_ = y.kind_) && (decide (x.in_ = y.in_) && (decide (x.out_ = y.out_) && (decide (x.need_ = y.need_) && true))))
structure T_api_Step where
  El : Int
  In : Int
  Out : Int
instance : Enc T_api_Step := ⟨3, 24, fun x => .agg [.int .i64 x.El, .int .i64 x.In, .int .i64 x.Out]⟩
instance : Inhabited T_api_Step := ⟨⟨0, 0, 0⟩⟩
def eq_T_api_Step (x y : T_api_Step) : Bool := (decide (x.El = y.El) && (decide (x.In = y.In) && (decide (x.Out = y.Out) && true)))
structure T_api_Setting where
  El : Int
  Pos : Int
instance : Enc T_api_Setting := ⟨2, 16, fun x => .agg [.int .i64 x.El, .int .i64 x.Pos]⟩
instance : Inhabited T_api_Setting := ⟨⟨0, 0⟩⟩
def eq_T_api_Setting (x y : T_api_Setting) : Bool := (decide (x.El = y.El) && (decide (x.Pos = y.Pos) && true))
structure T_api_End where
  El : Int
  Side : Int
instance : Enc T_api_End := ⟨2, 16, fun x => .agg [.int .i64 x.El, .int .i64 x.Side]⟩
instance : Inhabited T_api_End := ⟨⟨0, 0⟩⟩
def eq_T_api_End (x y : T_api_End) : Bool := (decide (x.El = y.El) && (decide (x.Side = y.Side) && true))
instance : DecidableEq T_api_End := fun x y => decidable_of_iff (eq_T_api_End x y = true) (by cases x; cases y; simp [eq_T_api_End])
instance : Key T_api_End := { (inferInstance : Enc T_api_End) with deq := inferInstance, keq := fun a b => by cases a with | mk x y => cases b with | mk x' y' => (show some (decide (x = x') && decide (y = y')) = _; simp) }
structure T_api_Route where
  Name : ByteArray
  Entry : Int
  Exit : Int
  Path : (List T_api_Step)
  Points : (List T_api_Setting)
  Sections : (List Int)
  Approach : Int
  Length : Int
  Over : (List T_api_Step)
  OverPoints : (List T_api_Setting)
  OverSections : (List Int)
  Flank : (List T_api_Setting)
  Guards : (List Int)
  Gaps : (List T_api_End)
instance : Enc T_api_Route := ⟨14, 264, fun x => .agg [.str x.Name, .int .i64 x.Entry, .int .i64 x.Exit, lstOf .frozen x.Path, lstOf .frozen x.Points, lstOf .frozen x.Sections, .int .i64 x.Approach, .int .i64 x.Length, lstOf .frozen x.Over, lstOf .frozen x.OverPoints, lstOf .frozen x.OverSections, lstOf .frozen x.Flank, lstOf .frozen x.Guards, lstOf .frozen x.Gaps]⟩
instance : Inhabited T_api_Route := ⟨⟨ByteArray.empty, 0, 0, [], [], [], 0, 0, [], [], [], [], [], []⟩⟩
structure T_api_Element where
  Name : ByteArray
  Kind : Int
  Length : Int
  Grade : Int
  Speed : Int
  Slow : Int
  Section : Int
instance : Enc T_api_Element := ⟨7, 64, fun x => .agg [.str x.Name, .int .i64 x.Kind, .int .i64 x.Length, .int .i64 x.Grade, .int .i64 x.Speed, .int .i64 x.Slow, .int .i64 x.Section]⟩
instance : Inhabited T_api_Element := ⟨⟨ByteArray.empty, 0, 0, 0, 0, 0, 0⟩⟩
def eq_T_api_Element (x y : T_api_Element) : Bool := (decide (x.Name = y.Name) && (decide (x.Kind = y.Kind) && (decide (x.Length = y.Length) && (decide (x.Grade = y.Grade) && (decide (x.Speed = y.Speed) && (decide (x.Slow = y.Slow) && (decide (x.Section = y.Section) && true)))))))
structure T_api_Joint where
  A : T_api_End
  B : T_api_End
instance : Enc T_api_Joint := ⟨4, 32, fun x => .agg [.int .i64 x.A.El, .int .i64 x.A.Side, .int .i64 x.B.El, .int .i64 x.B.Side]⟩
instance : Inhabited T_api_Joint := ⟨⟨default, default⟩⟩
def eq_T_api_Joint (x y : T_api_Joint) : Bool := (decide (x.A.El = y.A.El) && (decide (x.A.Side = y.A.Side) && (decide (x.B.El = y.B.El) && (decide (x.B.Side = y.B.Side) && true))))
structure T_api_Signal where
  Name : ByteArray
  At : T_api_End
  Overlap : Int
instance : Enc T_api_Signal := ⟨4, 40, fun x => .agg [.str x.Name, .int .i64 x.At.El, .int .i64 x.At.Side, .int .i64 x.Overlap]⟩
instance : Inhabited T_api_Signal := ⟨⟨ByteArray.empty, default, 0⟩⟩
def eq_T_api_Signal (x y : T_api_Signal) : Bool := (decide (x.Name = y.Name) && (decide (x.At.El = y.At.El) && (decide (x.At.Side = y.At.Side) && (decide (x.Overlap = y.Overlap) && true))))
structure T_api_Balise where
  Id : Int
  El : Int
  Offset : Int
instance : Enc T_api_Balise := ⟨3, 24, fun x => .agg [.int .i64 x.Id, .int .i64 x.El, .int .i64 x.Offset]⟩
instance : Inhabited T_api_Balise := ⟨⟨0, 0, 0⟩⟩
def eq_T_api_Balise (x y : T_api_Balise) : Bool := (decide (x.Id = y.Id) && (decide (x.El = y.El) && (decide (x.Offset = y.Offset) && true)))
structure T_api_Layout where
  Name : ByteArray
  Sections : (List ByteArray)
  Elements : (List T_api_Element)
  Joints : (List T_api_Joint)
  Signals : (List T_api_Signal)
  Balises : (List T_api_Balise)
instance : Enc T_api_Layout := ⟨6, 136, fun x => .agg [.str x.Name, lstOf .frozen x.Sections, lstOf .frozen x.Elements, lstOf .frozen x.Joints, lstOf .frozen x.Signals, lstOf .frozen x.Balises]⟩
instance : Inhabited T_api_Layout := ⟨⟨ByteArray.empty, [], [], [], [], []⟩⟩
structure T_route_finder where
  l_ : T_api_Layout
  paths_ : (List (List T_api_Step))
instance : Enc T_route_finder := ⟨7, 160, fun x => .agg [.str x.l_.Name, lstOf .frozen x.l_.Sections, lstOf .frozen x.l_.Elements, lstOf .frozen x.l_.Joints, lstOf .frozen x.l_.Signals, lstOf .frozen x.l_.Balises, lstOf .frozen x.paths_]⟩
instance : Inhabited T_route_finder := ⟨⟨default, []⟩⟩

def tab_rail_passages : List T_rail_passage := [(T_rail_passage.mk 1 0 1 0), (T_rail_passage.mk 1 1 0 0), (T_rail_passage.mk 2 0 1 1), (T_rail_passage.mk 2 0 2 2), (T_rail_passage.mk 2 1 0 1), (T_rail_passage.mk 2 2 0 2), (T_rail_passage.mk 3 0 1 0), (T_rail_passage.mk 3 1 0 0), (T_rail_passage.mk 3 2 3 0), (T_rail_passage.mk 3 3 2 0)]
def tab_rail_sides : List Int := [0, 2, 3, 4]
def GlS : Nat → Option (List PV)
  | 0 => some (tab_rail_passages.flatMap cellsOf)
  | 2 => some (tab_rail_sides.flatMap cellsOf)
  | _ => none

/-! signallinglaw12.small -/
noncomputable def d_law12_small (a0 : T_api_Route) : Option Bool :=
  some (decide ((w64 ((w64 ((w64 ((w64 ((w64 ((w64 ((w64 ((w64 (((a0.Path.length : Nat) : Int) + ((a0.Points.length : Nat) : Int))) + ((a0.Sections.length : Nat) : Int))) + ((a0.Over.length : Nat) : Int))) + ((a0.OverPoints.length : Nat) : Int))) + ((a0.OverSections.length : Nat) : Int))) + ((a0.Flank.length : Nat) : Int))) + ((a0.Guards.length : Nat) : Int))) + ((a0.Gaps.length : Nat) : Int))) ≤ 100))
theorem d_law12_small_ok (a0 : T_api_Route) (r : Bool) (h : d_law12_small a0 = some r) : PCall Go.Proofs.Tryd.prog GlS 4 [Enc.pv a0] (Enc.pv r) := by
  unfold d_law12_small at h
  refine pcall_of_pwp Go.Proofs.Tryd.func4 (by rfl) rfl Go.Proofs.Tryd.ntmps4 (by rfl) rfl ?_
  refine pwp_seq (r_reg ?_)
  refine e_end (by kernel_rfl) ?_
  refine q_next (pwp_seq (r_reg ?_))
  refine p_run 2 (by kernel_rfl) ?_
  refine p_len (L := (a0.Path : (List T_api_Step))) (by kernel_rfl) ?_
  refine p_run 2 (by kernel_rfl) ?_
  refine p_len (L := (a0.Points : (List T_api_Setting))) (by kernel_rfl) ?_
  refine p_run 3 (by kernel_rfl) ?_
  refine p_len (L := (a0.Sections : (List Int))) (by kernel_rfl) ?_
  refine p_run 3 (by kernel_rfl) ?_
  refine p_len (L := (a0.Over : (List T_api_Step))) (by kernel_rfl) ?_
  refine p_run 3 (by kernel_rfl) ?_
  refine p_len (L := (a0.OverPoints : (List T_api_Setting))) (by kernel_rfl) ?_
  refine p_run 3 (by kernel_rfl) ?_
  refine p_len (L := (a0.OverSections : (List Int))) (by kernel_rfl) ?_
  refine p_run 3 (by kernel_rfl) ?_
  refine p_len (L := (a0.Flank : (List T_api_Setting))) (by kernel_rfl) ?_
  refine p_run 3 (by kernel_rfl) ?_
  refine p_len (L := (a0.Guards : (List Int))) (by kernel_rfl) ?_
  refine p_run 3 (by kernel_rfl) ?_
  refine p_len (L := (a0.Gaps : (List T_api_End))) (by kernel_rfl) ?_
  refine e_end (by kernel_rfl) ?_
  refine q_next (pwp_ret ?_)
  cases h
  exact q_ret (by kernel_rfl) (by kernel_rfl) (by kernel_rfl)

/-! signallinglaw12.line -/
noncomputable def d_law12_line_0 : (Int × (List T_api_Element) × (List T_api_Joint) × (List T_api_Signal)) → Option ((Int × (List T_api_Element) × (List T_api_Joint) × (List T_api_Signal)) ⊕ (((List T_api_Element) × (List T_api_Joint) × (List T_api_Signal)) ⊕ T_api_Layout)) := fun (x28, x29, x30, x31) =>
  bif decide (x28 < (([(ByteArray.mk #[97]), (ByteArray.mk #[98]), (ByteArray.mk #[99])].length : Nat) : Int)) then (
    onInl (α := ((List T_api_Element) × (List T_api_Joint) × (List T_api_Signal))) (β := ((Int × (List T_api_Element) × (List T_api_Joint) × (List T_api_Signal)) ⊕ (((List T_api_Element) × (List T_api_Joint) × (List T_api_Signal)) ⊕ T_api_Layout))) (
      (ixO [(ByteArray.mk #[97]), (ByteArray.mk #[98]), (ByteArray.mk #[99])] x28).bind fun x56 =>
      (appO x29 [(T_api_Element.mk x56 1 20000 0 3000 0 x28)]).bind fun x57 =>
      bif decide (0 < x28) then (
        (appO x30 [(T_api_Joint.mk (T_api_End.mk (w64 (x28 - 1)) 1) (T_api_End.mk x28 0))]).bind fun x58 =>
        (ixO [(ByteArray.mk #[115, 49]), (ByteArray.mk #[115, 50])] (w64 (x28 - 1))).bind fun x59 =>
        (appO x31 [(T_api_Signal.mk x59 (T_api_End.mk (w64 (x28 - 1)) 1) 0)]).bind fun x60 =>
        some (.inl (x57, x58, x60))
      ) else (
        some (.inl (x57, x30, x31))
      )
    ) fun (x53, x54, x55) =>
    some (.inl (w64 (x28 + 1), x53, x54, x55))
  ) else (
    some (.inr (.inl (x29, x30, x31)))
  )

noncomputable def d_law12_line : Option T_api_Layout :=
  onInl (α := ((List T_api_Element) × (List T_api_Joint) × (List T_api_Signal))) (β := T_api_Layout) (loopO (d_law12_line_0) (0, ([] : (List T_api_Element)), ([] : (List T_api_Joint)), ([] : (List T_api_Signal)))) fun (x45, x46, x47) =>
  some (T_api_Layout.mk (ByteArray.mk #[108, 105, 110, 101]) [(ByteArray.mk #[116, 97]), (ByteArray.mk #[116, 98]), (ByteArray.mk #[116, 99])] x45 x46 x47 [])
theorem d_law12_line_ok (r : T_api_Layout) (h : d_law12_line = some r) : PCall Go.Proofs.Tryd.prog GlS 8 [] (Enc.pv r) := by
  unfold d_law12_line at h
  refine pcall_of_pwp Go.Proofs.Tryd.func8 (by rfl) rfl Go.Proofs.Tryd.ntmps8 (by rfl) rfl ?_
  refine pwp_seq (r_reg ?_)
  refine e_end (by kernel_rfl) ?_
  refine q_next (pwp_seq (r_reg ?_))
  refine e_end (by kernel_rfl) ?_
  refine q_next (pwp_seq (pwp_seq (r_reg ?_)))
  refine p_run 1 (by kernel_rfl) ?_
  refine p_len (L := ([(ByteArray.mk #[97]), (ByteArray.mk #[98]), (ByteArray.mk #[99])] : (List ByteArray))) (by kernel_rfl) ?_
  refine e_end (by kernel_rfl) ?_
  refine q_next (pwp_block ?_)
  refine pwp_wkr (wkr_nilH 1 2 200102 7 64 (cs := [.str (ByteArray.mk #[108, 105, 110, 101]), lstOf .full ([(ByteArray.mk #[116, 97]), (ByteArray.mk #[116, 98]), (ByteArray.mk #[116, 99])] : (List ByteArray)), .nil, .nil, .nil, .nil]) (by kernel_rfl) (by kernel_rfl) (by kernel_rfl)) ?_
  refine pwp_wkr (wkr_nilH 1 3 200103 4 32 (cs := [.str (ByteArray.mk #[108, 105, 110, 101]), lstOf .full ([(ByteArray.mk #[116, 97]), (ByteArray.mk #[116, 98]), (ByteArray.mk #[116, 99])] : (List ByteArray)), lstOf (.own 200102) (([] : (List T_api_Element)) : (List T_api_Element)), .nil, .nil, .nil]) (by kernel_rfl) (by kernel_rfl) (by kernel_rfl)) ?_
  refine pwp_wkr (wkr_nilH 1 4 200104 4 40 (cs := [.str (ByteArray.mk #[108, 105, 110, 101]), lstOf .full ([(ByteArray.mk #[116, 97]), (ByteArray.mk #[116, 98]), (ByteArray.mk #[116, 99])] : (List ByteArray)), lstOf (.own 200102) (([] : (List T_api_Element)) : (List T_api_Element)), lstOf (.own 200103) (([] : (List T_api_Joint)) : (List T_api_Joint)), .nil, .nil]) (by kernel_rfl) (by kernel_rfl) (by kernel_rfl)) ?_
  obtain ⟨o35, h35, h⟩ := o_inl h
  refine r_loop2 50 0 (fun (x28, x29, x30, x31) => ⟨[(0, .ref 0 0), (1, .ref 1 0), (6, lstOf .full ([(ByteArray.mk #[97]), (ByteArray.mk #[98]), (ByteArray.mk #[99])] : (List ByteArray))), (7, .int .i64 (([(ByteArray.mk #[97]), (ByteArray.mk #[98]), (ByteArray.mk #[99])].length : Nat) : Int)), (8, .int .i64 x28)], [(0, .cells ([.str ByteArray.empty, .nil, .nil, .nil, .nil, .nil])), (1, .cells ([.str (ByteArray.mk #[108, 105, 110, 101]), lstOf .full ([(ByteArray.mk #[116, 97]), (ByteArray.mk #[116, 98]), (ByteArray.mk #[116, 99])] : (List ByteArray)), lstOf (.own 200102) (x29 : (List T_api_Element)), lstOf (.own 200103) (x30 : (List T_api_Joint)), lstOf (.own 200104) (x31 : (List T_api_Signal)), .nil]))], [(200102, (((x29).map cellsOf).length, 7)), (200103, (((x30).map cellsOf).length, 4)), (200104, (((x31).map cellsOf).length, 4))], []⟩) (fun (x45, x46, x47) => ⟨[(0, .ref 0 0), (1, .ref 1 0)], [(0, .cells ([.str ByteArray.empty, .nil, .nil, .nil, .nil, .nil])), (1, .cells ([.str (ByteArray.mk #[108, 105, 110, 101]), lstOf .full ([(ByteArray.mk #[116, 97]), (ByteArray.mk #[116, 98]), (ByteArray.mk #[116, 99])] : (List ByteArray)), lstOf (.own 200102) (x45 : (List T_api_Element)), lstOf (.own 200103) (x46 : (List T_api_Joint)), lstOf (.own 200104) (x47 : (List T_api_Signal)), .nil]))], [(200102, (((x45).map cellsOf).length, 7)), (200103, (((x46).map cellsOf).length, 4)), (200104, (((x47).map cellsOf).length, 4))], []⟩) h35 (by kernel_rfl) (fun _ => by kernel_rfl) ?_ ?_
  · rintro ⟨x28, x29, x30, x31⟩ oh34 h34
    unfold d_law12_line_0 at h34
    refine pwp_seq (r_reg ?_)
    refine e_end (by kernel_rfl) ?_
    refine q_next (pwp_seq ?_)
    rcases o_cond h34 with ⟨hb, h34⟩ | ⟨hb, h34⟩
    · refine r_cond_t hb (by kernel_rfl) ?_
      refine pwp_skip (q_next ?_)
      obtain ⟨o41, h41, h34⟩ := o_inl h34
      refine r_join (o := o41) 50 (fun (x53, x54, x55) => ⟨[(0, .ref 0 0), (1, .ref 1 0), (6, lstOf .full ([(ByteArray.mk #[97]), (ByteArray.mk #[98]), (ByteArray.mk #[99])] : (List ByteArray))), (7, .int .i64 (([(ByteArray.mk #[97]), (ByteArray.mk #[98]), (ByteArray.mk #[99])].length : Nat) : Int)), (8, .int .i64 x28)], [(0, .cells ([.str ByteArray.empty, .nil, .nil, .nil, .nil, .nil])), (1, .cells ([.str (ByteArray.mk #[108, 105, 110, 101]), lstOf .full ([(ByteArray.mk #[116, 97]), (ByteArray.mk #[116, 98]), (ByteArray.mk #[116, 99])] : (List ByteArray)), lstOf (.own 200102) (x53 : (List T_api_Element)), lstOf (.own 200103) (x54 : (List T_api_Joint)), lstOf (.own 200104) (x55 : (List T_api_Signal)), .nil]))], [(200102, (((x53).map cellsOf).length, 7)), (200103, (((x54).map cellsOf).length, 4)), (200104, (((x55).map cellsOf).length, 4))], []⟩) ?_ ?_
      · refine pwp_block (pwp_seq (r_reg ?_))
        refine p_run 1 (by kernel_rfl) ?_
        obtain ⟨x56, h42, h41⟩ := o_bind h41
        refine p_ix h42 (by kernel_rfl) ?_
        refine e_end (by kernel_rfl) ?_
        refine q_next (pwp_seq (r_reg ?_))
        refine p_run 6 (by kernel_rfl) ?_
        obtain ⟨x57, h43, h41⟩ := o_bind h41
        refine p_app (tk := 200102) h43 (by kernel_rfl) (by kernel_rfl) ?_
        refine e_end (by kernel_rfl) ?_
        refine q_next (pwp_seq (r_reg ?_))
        refine e_end (by kernel_rfl) ?_
        refine q_next ?_
        rcases o_cond h41 with ⟨hb, h41⟩ | ⟨hb, h41⟩
        · refine r_cond_t hb (by kernel_rfl) ?_
          refine pwp_seq (r_reg ?_)
          refine p_run 9 (by kernel_rfl) ?_
          obtain ⟨x58, h44, h41⟩ := o_bind h41
          refine p_app (tk := 200103) h44 (by kernel_rfl) (by kernel_rfl) ?_
          refine e_end (by kernel_rfl) ?_
          refine q_next ?_
          refine r_regd (by kernel_rfl) (by kernel_rfl) ?_
          refine p_run 5 (by kernel_rfl) ?_
          obtain ⟨x59, h45, h41⟩ := o_bind h41
          refine p_ix h45 (by kernel_rfl) ?_
          refine p_run 6 (by kernel_rfl) ?_
          obtain ⟨x60, h46, h41⟩ := o_bind h41
          refine p_app (tk := 200104) h46 (by kernel_rfl) (by kernel_rfl) ?_
          refine e_end (by kernel_rfl) ?_
          refine q_block ?_
          cases h41
          exact q_join (by kernel_rfl) (by kernel_rfl)
        refine r_cond_f hb (by kernel_rfl) ?_
        refine pwp_skip (q_block ?_)
        cases h41
        exact q_join (by kernel_rfl) (by kernel_rfl)
      rintro ⟨x53, x54, x55⟩ rfl
      have h34 := o_outl h34
      refine r_reg ?_
      refine e_end (by kernel_rfl) ?_
      cases h34
      exact q_lback (by kernel_rfl)
    refine r_cond_f hb (by kernel_rfl) ?_
    refine pwp_exit (q_seq_exit ?_)
    cases h34
    exact q_lexit (by kernel_rfl) (by kernel_rfl)
  rintro ⟨x45, x46, x47⟩ s' rfl hs
  have h := o_outl h
  refine q_block_hit ?_
  refine q_next (pwp_wkr hs ?_)
  refine pwp_seq (r_reg ?_)
  refine e_end (by kernel_rfl) ?_
  refine q_next (pwp_ret ?_)
  cases h
  exact q_ret (by kernel_rfl) (by kernel_rfl) (by kernel_rfl)

/-! layout.Joined -/
noncomputable def d_layout_Joined_0 (a0 : T_api_Layout) (a1 : T_api_End) : Int → Option (Int ⊕ (Unit ⊕ (T_api_End × Bool))) := fun x2 =>
  bif decide (x2 < ((a0.Joints.length : Nat) : Int)) then (
    (ixO a0.Joints x2).bind fun x4 =>
    bif eq_T_api_End x4.A a1 then (
      some (.inr (.inr (x4.B, true)))
    ) else (
      bif eq_T_api_End x4.B a1 then (
        some (.inr (.inr (x4.A, true)))
      ) else (
        some (.inl (w64 (x2 + 1)))
      )
    )
  ) else (
    some (.inr (.inl ()))
  )

noncomputable def d_layout_Joined (a0 : T_api_Layout) (a1 : T_api_End) : Option (T_api_End × Bool) :=
  onInl (α := Unit) (β := (T_api_End × Bool)) (loopO (d_layout_Joined_0 a0 a1) 0) fun _ =>
  some ((T_api_End.mk 0 0), false)
theorem d_layout_Joined_ok (a0 : T_api_Layout) (a1 : T_api_End) (r : (T_api_End × Bool)) (h : d_layout_Joined a0 a1 = some r) : PCall Go.Proofs.Tryd.prog GlS 19 [Enc.pv a0, Enc.pv a1] (.tup [Enc.pv r.1, Enc.pv r.2]) := by
  unfold d_layout_Joined at h
  refine pcall_of_pwp Go.Proofs.Tryd.func19 (by rfl) rfl Go.Proofs.Tryd.ntmps19 (by rfl) rfl ?_
  refine pwp_seq (r_reg ?_)
  refine e_end (by kernel_rfl) ?_
  refine q_next (pwp_seq (pwp_seq (r_reg ?_)))
  refine p_run 2 (by kernel_rfl) ?_
  refine p_len (L := (a0.Joints : (List T_api_Joint))) (by kernel_rfl) ?_
  refine e_end (by kernel_rfl) ?_
  refine q_next (pwp_block ?_)
  obtain ⟨o8, h8, h⟩ := o_inl h
  refine r_loop2 29 0 (fun x2 => ⟨[(3, .ref 3 0), (4, .ref 4 0), (9, lstOf .frozen (a0.Joints : (List T_api_Joint))), (10, .int .i64 ((a0.Joints.length : Nat) : Int)), (11, .int .i64 x2)], [(3, .cells (cellsOf a1)), (4, .cells ([.int .i64 0, .int .i64 0]))], [], []⟩) (fun (_ : Unit) => ⟨[(4, .ref 4 0)], [(4, .cells ([.int .i64 0, .int .i64 0]))], [], []⟩) h8 (by kernel_rfl) (fun _ => by kernel_rfl) ?_ ?_
  · rintro x2 oh7 h7
    unfold d_layout_Joined_0 at h7
    refine pwp_seq (r_reg ?_)
    refine e_end (by kernel_rfl) ?_
    refine q_next (pwp_seq ?_)
    rcases o_cond h7 with ⟨hb, h7⟩ | ⟨hb, h7⟩
    · refine r_cond_t hb (by kernel_rfl) ?_
      refine pwp_skip (q_next (pwp_seq (pwp_block (pwp_seq (r_reg ?_)))))
      obtain ⟨x4, h9, h7⟩ := o_bind h7
      refine p_ix h9 (by kernel_rfl) ?_
      refine e_end (by kernel_rfl) ?_
      refine q_next (pwp_seq (pwp_seq (r_reg ?_)))
      refine e_end (by kernel_rfl) ?_
      refine q_next ?_
      rcases o_cond h7 with ⟨hb, h7⟩ | ⟨hb, h7⟩
      · refine r_cond_t hb (by kernel_rfl) ?_
        refine pwp_seq (r_reg ?_)
        refine e_end (by kernel_rfl) ?_
        refine q_next (pwp_ret (q_seq_ret (q_block_ret (q_seq_ret ?_))))
        cases h7
        refine q_lout_ret fun he => ?_
        subst he
        have h10 := o_outr h
        refine q_block_ret (q_seq_ret ?_)
        cases h10
        exact q_ret (by kernel_rfl) (by kernel_rfl) (by kernel_rfl)
      refine r_cond_f hb (by kernel_rfl) ?_
      refine pwp_skip (q_next (pwp_seq (r_reg ?_)))
      refine e_end (by kernel_rfl) ?_
      refine q_next ?_
      rcases o_cond h7 with ⟨hb, h7⟩ | ⟨hb, h7⟩
      · refine r_cond_t hb (by kernel_rfl) ?_
        refine pwp_seq (r_reg ?_)
        refine e_end (by kernel_rfl) ?_
        refine q_next (pwp_ret (q_block_ret (q_seq_ret ?_)))
        cases h7
        refine q_lout_ret fun he => ?_
        subst he
        have h11 := o_outr h
        refine q_block_ret (q_seq_ret ?_)
        cases h11
        exact q_ret (by kernel_rfl) (by kernel_rfl) (by kernel_rfl)
      refine r_cond_f hb (by kernel_rfl) ?_
      refine pwp_skip (q_block (q_next (r_reg ?_)))
      refine e_end (by kernel_rfl) ?_
      cases h7
      exact q_lback (by kernel_rfl)
    refine r_cond_f hb (by kernel_rfl) ?_
    refine pwp_exit (q_seq_exit ?_)
    cases h7
    exact q_lexit (by kernel_rfl) (by kernel_rfl)
  rintro _ s' rfl hs
  have h := o_outl h
  refine q_block_hit ?_
  refine q_next (pwp_wkr hs ?_)
  refine pwp_seq (r_reg ?_)
  refine e_end (by kernel_rfl) ?_
  refine q_next (pwp_ret ?_)
  cases h
  exact q_ret (by kernel_rfl) (by kernel_rfl) (by kernel_rfl)

/-! layout.Section -/
noncomputable def d_layout_Section (a0 : T_api_Layout) (a1 : Int) : Option Int :=
  ((bif decide (a1 < 0) then some true else (
    some (decide (((a0.Elements.length : Nat) : Int) ≤ a1))
  )) : Option Bool).bind fun b1 =>
  bif b1 then (
    some (-1)
  ) else (
    (ixO a0.Elements a1).bind fun x2 =>
    some x2.Section
  )
theorem d_layout_Section_ok (a0 : T_api_Layout) (a1 : Int) (r : Int) (h : d_layout_Section a0 a1 = some r) : PCall Go.Proofs.Tryd.prog GlS 35 [Enc.pv a0, Enc.pv a1] (Enc.pv r) := by
  unfold d_layout_Section at h
  refine pcall_of_pwp Go.Proofs.Tryd.func35 (by rfl) rfl Go.Proofs.Tryd.ntmps35 (by rfl) rfl ?_
  refine pwp_seq (r_reg ?_)
  refine e_end (by kernel_rfl) ?_
  refine q_next (pwp_seq (pwp_seq (r_reg ?_)))
  obtain ⟨b1, h1, h⟩ := o_bind h
  refine p_run 3 (by kernel_rfl) ?_
  refine e_seg 6 13 (.bool b1) ?_ ?_
  · rcases o_cond h1 with ⟨hb, h1⟩ | ⟨hb, h1⟩
    · refine p_settle 7 hb (by kernel_rfl) (by kernel_rfl) ?_
      cases h1
      exact f_end (by kernel_rfl) (by kernel_rfl)
    refine p_settle 7 hb (by kernel_rfl) (by kernel_rfl) ?_
    refine p_run 3 (by kernel_rfl) ?_
    refine p_len (L := (a0.Elements : (List T_api_Element))) (by kernel_rfl) ?_
    cases h1
    exact f_end (by kernel_rfl) (by kernel_rfl)
  refine e_nil (by kernel_rfl) ?_
  refine q_next ?_
  rcases o_cond h with ⟨hb, h⟩ | ⟨hb, h⟩
  · refine r_cond_t hb (by kernel_rfl) ?_
    refine pwp_seq (r_reg ?_)
    refine e_end (by kernel_rfl) ?_
    refine q_next (pwp_ret (q_seq_ret ?_))
    cases h
    exact q_ret (by kernel_rfl) (by kernel_rfl) (by kernel_rfl)
  refine r_cond_f hb (by kernel_rfl) ?_
  refine pwp_skip (q_next (pwp_seq (r_reg ?_)))
  refine p_run 3 (by kernel_rfl) ?_
  obtain ⟨x2, h2, h⟩ := o_bind h
  refine p_ix h2 (by kernel_rfl) ?_
  refine e_end (by kernel_rfl) ?_
  refine q_next (pwp_ret ?_)
  cases h
  exact q_ret (by kernel_rfl) (by kernel_rfl) (by kernel_rfl)

/-! (*route.finder).open -/
noncomputable def d_route_finder_open_0 (a0 : T_route_finder) (a1 : (List T_api_Step)) (a2 : Int) (r1 : Int) : Int → Option (Int ⊕ (Unit ⊕ Bool)) := fun x8 =>
  bif decide (x8 < ((a1.length : Nat) : Int)) then (
    (ixO a1 x8).bind fun x15 =>
    bif decide (x15.El = a2) then (
      some (.inr (.inr false))
    ) else (
      ((bif decide (0 < x8) then (
        (ixO a1 (w64 (x8 - 1))).bind fun x17 =>
        (d_layout_Section a0.l_ x17.El).bind fun r18 =>
        some (decide (r18 = r1))
      ) else some false) : Option Bool).bind fun b16 =>
      ((bif b16 then (
        (d_layout_Section a0.l_ x15.El).bind fun r20 =>
        some (!(decide (r20 = r1)))
      ) else some false) : Option Bool).bind fun b19 =>
      bif b19 then (
        some (.inr (.inr false))
      ) else (
        some (.inl (w64 (x8 + 1)))
      )
    )
  ) else (
    some (.inr (.inl ()))
  )

noncomputable def d_route_finder_open (a0 : T_route_finder) (a1 : (List T_api_Step)) (a2 : Int) : Option Bool :=
  (d_layout_Section a0.l_ a2).bind fun r1 =>
  onInl (α := Unit) (β := Bool) (loopO (d_route_finder_open_0 a0 a1 a2 r1) 0) fun _ =>
  some true
theorem d_route_finder_open_ok (a0 : T_route_finder) (a1 : (List T_api_Step)) (a2 : Int) (r : Bool) (h : d_route_finder_open a0 a1 a2 = some r) : PCall Go.Proofs.Tryd.prog GlS 27 [.cptr (cellsOf a0), Enc.pv a1, Enc.pv a2] (Enc.pv r) := by
  unfold d_route_finder_open at h
  refine pcall_of_pwp Go.Proofs.Tryd.func27 (by rfl) rfl Go.Proofs.Tryd.ntmps27 (by rfl) rfl ?_
  refine pwp_seq (r_reg ?_)
  refine e_end (by kernel_rfl) ?_
  refine q_next (pwp_seq (r_reg ?_))
  refine p_run 5 (by kernel_rfl) ?_
  obtain ⟨r1, h1, h⟩ := o_bind h
  refine p_call (d_layout_Section_ok _ _ r1 h1) (by kernel_rfl) (by kernel_rfl) ?_
  refine e_end (by kernel_rfl) ?_
  refine q_next (pwp_seq (pwp_seq (r_reg ?_)))
  refine p_run 1 (by kernel_rfl) ?_
  refine p_len (L := (a1 : (List T_api_Step))) (by kernel_rfl) ?_
  refine e_end (by kernel_rfl) ?_
  refine q_next (pwp_block ?_)
  obtain ⟨o19, h19, h⟩ := o_inl h
  refine r_loop2 56 0 (fun x8 => ⟨[(0, .cptr (cellsOf a0)), (1, lstOf .frozen (a1 : (List T_api_Step))), (2, .int .i64 a2), (7, .int .i64 r1), (16, lstOf .frozen (a1 : (List T_api_Step))), (17, .int .i64 ((a1.length : Nat) : Int)), (18, .int .i64 x8)], [], [], []⟩) (fun (_ : Unit) => ⟨[], [], [], []⟩) h19 (by kernel_rfl) (fun _ => by kernel_rfl) ?_ ?_
  · rintro x8 oh18 h18
    unfold d_route_finder_open_0 at h18
    refine pwp_seq (r_reg ?_)
    refine e_end (by kernel_rfl) ?_
    refine q_next (pwp_seq ?_)
    rcases o_cond h18 with ⟨hb, h18⟩ | ⟨hb, h18⟩
    · refine r_cond_t hb (by kernel_rfl) ?_
      refine pwp_skip (q_next (pwp_seq (pwp_block (pwp_seq (r_reg ?_)))))
      refine p_run 1 (by kernel_rfl) ?_
      obtain ⟨x15, h20, h18⟩ := o_bind h18
      refine p_ix h20 (by kernel_rfl) ?_
      refine e_end (by kernel_rfl) ?_
      refine q_next (pwp_seq (pwp_seq (r_reg ?_)))
      refine e_end (by kernel_rfl) ?_
      refine q_next ?_
      rcases o_cond h18 with ⟨hb, h18⟩ | ⟨hb, h18⟩
      · refine r_cond_t hb (by kernel_rfl) ?_
        refine pwp_seq (r_reg ?_)
        refine e_end (by kernel_rfl) ?_
        refine q_next (pwp_ret (q_seq_ret (q_block_ret (q_seq_ret ?_))))
        cases h18
        refine q_lout_ret fun he => ?_
        subst he
        have h21 := o_outr h
        refine q_block_ret (q_seq_ret ?_)
        cases h21
        exact q_ret (by kernel_rfl) (by kernel_rfl) (by kernel_rfl)
      refine r_cond_f hb (by kernel_rfl) ?_
      refine pwp_skip (q_next (pwp_seq ?_))
      refine r_regd (by kernel_rfl) (by kernel_rfl) ?_
      obtain ⟨b16, h22, h18⟩ := o_bind h18
      refine p_run 3 (by kernel_rfl) ?_
      refine e_seg 14 43 (.bool b16) ?_ ?_
      · rcases o_cond h22 with ⟨hb, h22⟩ | ⟨hb, h22⟩
        · refine p_settle 29 hb (by kernel_rfl) (by kernel_rfl) ?_
          refine p_run 7 (by kernel_rfl) ?_
          obtain ⟨x17, h23, h22⟩ := o_bind h22
          refine p_ix h23 (by kernel_rfl) ?_
          refine p_run 2 (by kernel_rfl) ?_
          obtain ⟨r18, h24, h22⟩ := o_bind h22
          refine p_call (d_layout_Section_ok _ _ r18 h24) (by kernel_rfl) (by kernel_rfl) ?_
          cases h22
          exact f_end (by kernel_rfl) (by kernel_rfl)
        refine p_settle 29 hb (by kernel_rfl) (by kernel_rfl) ?_
        cases h22
        exact f_end (by kernel_rfl) (by kernel_rfl)
      obtain ⟨b19, h25, h18⟩ := o_bind h18
      refine p_run 1 (by kernel_rfl) ?_
      refine e_seg 10 54 (.bool b19) ?_ ?_
      · rcases o_cond h25 with ⟨hb, h25⟩ | ⟨hb, h25⟩
        · refine p_settle 44 hb (by kernel_rfl) (by kernel_rfl) ?_
          refine p_run 6 (by kernel_rfl) ?_
          obtain ⟨r20, h26, h25⟩ := o_bind h25
          refine p_call (d_layout_Section_ok _ _ r20 h26) (by kernel_rfl) (by kernel_rfl) ?_
          cases h25
          exact f_end (by kernel_rfl) (by kernel_rfl)
        refine p_settle 44 hb (by kernel_rfl) (by kernel_rfl) ?_
        cases h25
        exact f_end (by kernel_rfl) (by kernel_rfl)
      refine e_nil (by kernel_rfl) ?_
      refine q_next ?_
      rcases o_cond h18 with ⟨hb, h18⟩ | ⟨hb, h18⟩
      · refine r_cond_t hb (by kernel_rfl) ?_
        refine pwp_seq (r_reg ?_)
        refine e_end (by kernel_rfl) ?_
        refine q_next (pwp_ret (q_block_ret (q_seq_ret ?_)))
        cases h18
        refine q_lout_ret fun he => ?_
        subst he
        have h27 := o_outr h
        refine q_block_ret (q_seq_ret ?_)
        cases h27
        exact q_ret (by kernel_rfl) (by kernel_rfl) (by kernel_rfl)
      refine r_cond_f hb (by kernel_rfl) ?_
      refine pwp_skip (q_block (q_next (r_reg ?_)))
      refine e_end (by kernel_rfl) ?_
      cases h18
      exact q_lback (by kernel_rfl)
    refine r_cond_f hb (by kernel_rfl) ?_
    refine pwp_exit (q_seq_exit ?_)
    cases h18
    exact q_lexit (by kernel_rfl) (by kernel_rfl)
  rintro _ s' rfl hs
  have h := o_outl h
  refine q_block_hit ?_
  refine q_next (pwp_wkr hs ?_)
  refine pwp_seq (r_reg ?_)
  refine e_end (by kernel_rfl) ?_
  refine q_next (pwp_ret ?_)
  cases h
  exact q_ret (by kernel_rfl) (by kernel_rfl) (by kernel_rfl)

/-! walk.exists -/
noncomputable def d_walk_exists (a0 : T_api_Layout) (a1 : Int) : Option Bool :=
  ((bif decide (0 ≤ a1) then (
    some (decide (a1 < ((a0.Elements.length : Nat) : Int)))
  ) else some false) : Option Bool).bind fun b1 =>
  some b1
theorem d_walk_exists_ok (a0 : T_api_Layout) (a1 : Int) (r : Bool) (h : d_walk_exists a0 a1 = some r) : PCall Go.Proofs.Tryd.prog GlS 45 [Enc.pv a0, Enc.pv a1] (Enc.pv r) := by
  unfold d_walk_exists at h
  refine pcall_of_pwp Go.Proofs.Tryd.func45 (by rfl) rfl Go.Proofs.Tryd.ntmps45 (by rfl) rfl ?_
  refine pwp_seq (r_reg ?_)
  refine e_end (by kernel_rfl) ?_
  refine q_next (pwp_seq (r_reg ?_))
  obtain ⟨b1, h1, h⟩ := o_bind h
  refine p_run 3 (by kernel_rfl) ?_
  refine e_seg 6 13 (.bool b1) ?_ ?_
  · rcases o_cond h1 with ⟨hb, h1⟩ | ⟨hb, h1⟩
    · refine p_settle 7 hb (by kernel_rfl) (by kernel_rfl) ?_
      refine p_run 3 (by kernel_rfl) ?_
      refine p_len (L := (a0.Elements : (List T_api_Element))) (by kernel_rfl) ?_
      cases h1
      exact f_end (by kernel_rfl) (by kernel_rfl)
    refine p_settle 7 hb (by kernel_rfl) (by kernel_rfl) ?_
    cases h1
    exact f_end (by kernel_rfl) (by kernel_rfl)
  refine e_end (by kernel_rfl) ?_
  refine q_next (pwp_ret ?_)
  cases h
  exact q_ret (by kernel_rfl) (by kernel_rfl) (by kernel_rfl)

/-! rail.Legs -/
noncomputable def d_rail_Legs_0 (a0 : Int) (a1 : Int) : (Int × (List Int)) → Option ((Int × (List Int)) ⊕ ((List Int) ⊕ (List Int))) := fun (x12, x13) =>
  bif decide (x12 < 10) then (
    onInl (α := (List Int)) (β := ((Int × (List Int)) ⊕ ((List Int) ⊕ (List Int)))) (
      (ixO tab_rail_passages x12).bind fun x23 =>
      bif ((decide (x23.kind_ = a0)) && (decide (x23.in_ = a1))) then (
        (appO x13 [x23.out_]).bind fun x24 =>
        some (.inl x24)
      ) else (
        some (.inl x13)
      )
    ) fun x22 =>
    some (.inl (w64 (x12 + 1), x22))
  ) else (
    some (.inr (.inl x13))
  )

noncomputable def d_rail_Legs (a0 : Int) (a1 : Int) : Option (List Int) :=
  onInl (α := (List Int)) (β := (List Int)) (loopO (d_rail_Legs_0 a0 a1) (0, ([] : (List Int)))) fun x19 =>
  some x19
theorem d_rail_Legs_ok (a0 : Int) (a1 : Int) (r : (List Int)) (h : d_rail_Legs a0 a1 = some r) : PCall Go.Proofs.Tryd.prog GlS 46 [Enc.pv a0, Enc.pv a1] (lstOf (.own 100005) r) := by
  unfold d_rail_Legs at h
  refine pcall_of_pwp Go.Proofs.Tryd.func46 (by rfl) rfl Go.Proofs.Tryd.ntmps46 (by rfl) rfl ?_
  refine pwp_seq (r_reg ?_)
  refine e_end (by kernel_rfl) ?_
  refine q_next (pwp_seq (r_reg ?_))
  refine e_end (by kernel_rfl) ?_
  refine q_next (pwp_seq (pwp_seq (r_reg ?_)))
  refine e_end (by kernel_rfl) ?_
  refine q_next (pwp_block ?_)
  refine g_nil 5 100005 1 8 (by kernel_rfl) (by kernel_rfl) ?_
  obtain ⟨o17, h17, h⟩ := o_inl h
  refine r_loop2 29 0 (fun (x12, x13) => ⟨[(0, .int .i64 a0), (1, .int .i64 a1), (5, lstOf (.own 100005) (x13 : (List Int))), (8, .agg (tab_rail_passages.flatMap cellsOf)), (9, .int .i64 x12)], [], [(100005, (((x13).map cellsOf).length, 1))], []⟩) (fun x19 => ⟨[(5, lstOf (.own 100005) (x19 : (List Int)))], [], [(100005, (((x19).map cellsOf).length, 1))], []⟩) h17 (by kernel_rfl) (fun _ => by kernel_rfl) ?_ ?_
  · rintro ⟨x12, x13⟩ oh16 h16
    unfold d_rail_Legs_0 at h16
    refine pwp_seq (r_reg ?_)
    refine e_end (by kernel_rfl) ?_
    refine q_next (pwp_seq ?_)
    rcases o_cond h16 with ⟨hb, h16⟩ | ⟨hb, h16⟩
    · refine r_cond_t hb (by kernel_rfl) ?_
      refine pwp_skip (q_next ?_)
      obtain ⟨o20, h20, h16⟩ := o_inl h16
      refine r_join (o := o20) 29 (fun x22 => ⟨[(0, .int .i64 a0), (1, .int .i64 a1), (5, lstOf (.own 100005) (x22 : (List Int))), (8, .agg (tab_rail_passages.flatMap cellsOf)), (9, .int .i64 x12)], [], [(100005, (((x22).map cellsOf).length, 1))], []⟩) ?_ ?_
      · refine pwp_block (pwp_seq (r_reg ?_))
        obtain ⟨x23, h21, h20⟩ := o_bind h20
        refine p_tix (tab := tab_rail_passages) h21 true 10 4 (by kernel_rfl) (by kernel_rfl) (by kernel_rfl) (by kernel_rfl) ?_
        refine e_end (by kernel_rfl) ?_
        refine q_next (pwp_seq (r_reg ?_))
        refine p_run 5 (by kernel_rfl) ?_
        refine e_segb 5 21 ((decide (x23.kind_ = a0)) && (decide (x23.in_ = a1))) (fun x hx => ?_) ?_
        · rcases b_and hx with ⟨hb, hx⟩ | ⟨hb, hx⟩
          · refine p_settle 16 hb (by kernel_rfl) (by kernel_rfl) ?_
            subst hx
            exact f_end (by kernel_rfl) (by kernel_rfl)
          refine p_settle 16 hb (by kernel_rfl) (by kernel_rfl) ?_
          subst hx
          exact f_end (by kernel_rfl) (by kernel_rfl)
        refine e_nil (by kernel_rfl) ?_
        refine q_next ?_
        rcases o_cond h20 with ⟨hb, h20⟩ | ⟨hb, h20⟩
        · refine r_cond_t hb (by kernel_rfl) ?_
          refine r_reg ?_
          refine p_run 4 (by kernel_rfl) ?_
          obtain ⟨x24, h22, h20⟩ := o_bind h20
          refine p_app (tk := 100005) h22 (by kernel_rfl) (by kernel_rfl) ?_
          refine e_end (by kernel_rfl) ?_
          refine q_block ?_
          cases h20
          exact q_join (by kernel_rfl) (by kernel_rfl)
        refine r_cond_f hb (by kernel_rfl) ?_
        refine pwp_skip (q_block ?_)
        cases h20
        exact q_join (by kernel_rfl) (by kernel_rfl)
      rintro x22 rfl
      have h16 := o_outl h16
      refine r_reg ?_
      refine e_end (by kernel_rfl) ?_
      cases h16
      exact q_lback (by kernel_rfl)
    refine r_cond_f hb (by kernel_rfl) ?_
    refine pwp_exit (q_seq_exit ?_)
    cases h16
    exact q_lexit (by kernel_rfl) (by kernel_rfl)
  rintro x19 s' rfl hs
  have h := o_outl h
  refine q_block_hit ?_
  refine q_next (pwp_wkr hs ?_)
  refine pwp_seq (r_reg ?_)
  refine e_end (by kernel_rfl) ?_
  refine q_next (pwp_ret ?_)
  cases h
  exact q_ret (by kernel_rfl) (by kernel_rfl) (by kernel_rfl)
theorem d_rail_Legs_fz (a0 : Int) (a1 : Int) (r : (List Int)) (h : d_rail_Legs a0 a1 = some r) : PCall Go.Proofs.Tryd.prog GlS 46 [Enc.pv a0, Enc.pv a1] (Enc.pv r) :=
  (d_rail_Legs_ok a0 a1 r h).freeze (by kernel_rfl) (by kernel_rfl) (by kernel_rfl)

/-! walk.Branches -/
noncomputable def d_walk_Branches_0 (a1 : T_api_End) (r3 : (List Int)) : (Int × (List T_api_Step)) → Option ((Int × (List T_api_Step)) ⊕ ((List T_api_Step) ⊕ (List T_api_Step))) := fun (x9, x10) =>
  bif decide (x9 < ((r3.length : Nat) : Int)) then (
    (ixO r3 x9).bind fun x14 =>
    (appO x10 [(T_api_Step.mk a1.El a1.Side x14)]).bind fun x15 =>
    some (.inl (w64 (x9 + 1), x15))
  ) else (
    some (.inr (.inl x10))
  )

noncomputable def d_walk_Branches (a0 : T_api_Layout) (a1 : T_api_End) : Option (List T_api_Step) :=
  (d_walk_exists a0 a1.El).bind fun r1 =>
  bif (!r1) then (
    some ([] : (List T_api_Step))
  ) else (
    (ixO a0.Elements a1.El).bind fun x2 =>
    (d_rail_Legs x2.Kind a1.Side).bind fun r3 =>
    onInl (α := (List T_api_Step)) (β := (List T_api_Step)) (loopO (d_walk_Branches_0 a1 r3) (0, ([] : (List T_api_Step)))) fun x13 =>
    some x13
  )
theorem d_walk_Branches_ok (a0 : T_api_Layout) (a1 : T_api_End) (r : (List T_api_Step)) (h : d_walk_Branches a0 a1 = some r) : PCall Go.Proofs.Tryd.prog GlS 28 [Enc.pv a0, Enc.pv a1] (lstOf (.own 100005) r) := by
  unfold d_walk_Branches at h
  refine pcall_of_pwp Go.Proofs.Tryd.func28 (by rfl) rfl Go.Proofs.Tryd.ntmps28 (by rfl) rfl ?_
  refine pwp_seq (r_reg ?_)
  refine e_end (by kernel_rfl) ?_
  refine q_next (pwp_seq (pwp_seq (r_reg ?_)))
  refine p_run 3 (by kernel_rfl) ?_
  obtain ⟨r1, h1, h⟩ := o_bind h
  refine p_call (d_walk_exists_ok _ _ r1 h1) (by kernel_rfl) (by kernel_rfl) ?_
  refine e_end (by kernel_rfl) ?_
  refine q_next ?_
  rcases o_cond h with ⟨hb, h⟩ | ⟨hb, h⟩
  · refine r_cond_t hb (by kernel_rfl) ?_
    refine pwp_seq (r_reg ?_)
    refine e_end (by kernel_rfl) ?_
    refine q_next ?_
    refine g_nil 4 100005 3 24 (by kernel_rfl) (by kernel_rfl) ?_
    refine pwp_ret (q_seq_ret ?_)
    cases h
    exact q_ret (by kernel_rfl) (by kernel_rfl) (by kernel_rfl)
  refine r_cond_f hb (by kernel_rfl) ?_
  refine pwp_skip (q_next (pwp_seq (r_reg ?_)))
  refine e_end (by kernel_rfl) ?_
  refine q_next (pwp_seq (pwp_seq ?_))
  refine r_regd (by kernel_rfl) (by kernel_rfl) ?_
  refine p_run 4 (by kernel_rfl) ?_
  obtain ⟨x2, h2, h⟩ := o_bind h
  refine p_ix h2 (by kernel_rfl) ?_
  refine p_run 4 (by kernel_rfl) ?_
  obtain ⟨r3, h3, h⟩ := o_bind h
  refine p_call (d_rail_Legs_fz _ _ r3 h3) (by kernel_rfl) (by kernel_rfl) ?_
  refine p_len (L := (r3 : (List Int))) (by kernel_rfl) ?_
  refine e_end (by kernel_rfl) ?_
  refine q_next (pwp_block ?_)
  refine g_nil 5 100005 3 24 (by kernel_rfl) (by kernel_rfl) ?_
  obtain ⟨o11, h11, h⟩ := o_inl h
  refine r_loop2 39 0 (fun (x9, x10) => ⟨[(3, .ref 3 0), (5, lstOf (.own 100005) (x10 : (List T_api_Step))), (22, lstOf .frozen (r3 : (List Int))), (23, .int .i64 ((r3.length : Nat) : Int)), (24, .int .i64 x9)], [(3, .cells (cellsOf a1))], [(100005, (((x10).map cellsOf).length, 3))], []⟩) (fun x13 => ⟨[(5, lstOf (.own 100005) (x13 : (List T_api_Step)))], [], [(100005, (((x13).map cellsOf).length, 3))], []⟩) h11 (by kernel_rfl) (fun _ => by kernel_rfl) ?_ ?_
  · rintro ⟨x9, x10⟩ oh10 h10
    unfold d_walk_Branches_0 at h10
    refine pwp_seq (r_reg ?_)
    refine e_end (by kernel_rfl) ?_
    refine q_next (pwp_seq ?_)
    rcases o_cond h10 with ⟨hb, h10⟩ | ⟨hb, h10⟩
    · refine r_cond_t hb (by kernel_rfl) ?_
      refine pwp_skip (q_next (pwp_seq (pwp_block (pwp_seq (r_reg ?_)))))
      obtain ⟨x14, h12, h10⟩ := o_bind h10
      refine p_ix h12 (by kernel_rfl) ?_
      refine e_end (by kernel_rfl) ?_
      refine q_next (r_reg ?_)
      refine p_run 8 (by kernel_rfl) ?_
      obtain ⟨x15, h13, h10⟩ := o_bind h10
      refine p_app (tk := 100005) h13 (by kernel_rfl) (by kernel_rfl) ?_
      refine e_end (by kernel_rfl) ?_
      refine q_block (q_next (r_reg ?_))
      refine e_end (by kernel_rfl) ?_
      cases h10
      exact q_lback (by kernel_rfl)
    refine r_cond_f hb (by kernel_rfl) ?_
    refine pwp_exit (q_seq_exit ?_)
    cases h10
    exact q_lexit (by kernel_rfl) (by kernel_rfl)
  rintro x13 s' rfl hs
  have h := o_outl h
  refine q_block_hit ?_
  refine q_next (pwp_wkr hs ?_)
  refine pwp_seq (r_reg ?_)
  refine e_end (by kernel_rfl) ?_
  refine q_next (pwp_ret ?_)
  cases h
  exact q_ret (by kernel_rfl) (by kernel_rfl) (by kernel_rfl)
theorem d_walk_Branches_fz (a0 : T_api_Layout) (a1 : T_api_End) (r : (List T_api_Step)) (h : d_walk_Branches a0 a1 = some r) : PCall Go.Proofs.Tryd.prog GlS 28 [Enc.pv a0, Enc.pv a1] (Enc.pv r) :=
  (d_walk_Branches_ok a0 a1 r h).freeze (by kernel_rfl) (by kernel_rfl) (by kernel_rfl)

/-! route.left -/
noncomputable def d_route_left (a0 : (List T_api_Step)) : Option T_api_End :=
  (ixO a0 (w64 (((a0.length : Nat) : Int) - 1))).bind fun x1 =>
  some (T_api_End.mk x1.El x1.Out)
theorem d_route_left_ok (a0 : (List T_api_Step)) (r : T_api_End) (h : d_route_left a0 = some r) : PCall Go.Proofs.Tryd.prog GlS 32 [Enc.pv a0] (Enc.pv r) := by
  unfold d_route_left at h
  refine pcall_of_pwp Go.Proofs.Tryd.func32 (by rfl) rfl Go.Proofs.Tryd.ntmps32 (by rfl) rfl ?_
  refine pwp_seq (r_reg ?_)
  refine e_end (by kernel_rfl) ?_
  refine q_next (pwp_seq (r_reg ?_))
  refine p_run 2 (by kernel_rfl) ?_
  refine p_len (L := (a0 : (List T_api_Step))) (by kernel_rfl) ?_
  refine p_run 1 (by kernel_rfl) ?_
  obtain ⟨x1, h1, h⟩ := o_bind h
  refine p_ix h1 (by kernel_rfl) ?_
  refine e_end (by kernel_rfl) ?_
  refine q_next (pwp_seq (r_reg ?_))
  refine e_end (by kernel_rfl) ?_
  refine q_next (pwp_ret ?_)
  cases h
  exact q_ret (by kernel_rfl) (by kernel_rfl) (by kernel_rfl)

/-! layout.Signal -/
noncomputable def d_layout_Signal_0 (a0 : T_api_Layout) (a1 : T_api_End) : Int → Option (Int ⊕ (Unit ⊕ Int)) := fun x2 =>
  bif decide (x2 < ((a0.Signals.length : Nat) : Int)) then (
    (ixO a0.Signals x2).bind fun x4 =>
    bif eq_T_api_End x4.At a1 then (
      some (.inr (.inr x2))
    ) else (
      some (.inl (w64 (x2 + 1)))
    )
  ) else (
    some (.inr (.inl ()))
  )

noncomputable def d_layout_Signal (a0 : T_api_Layout) (a1 : T_api_End) : Option Int :=
  onInl (α := Unit) (β := Int) (loopO (d_layout_Signal_0 a0 a1) 0) fun _ =>
  some (-1)
theorem d_layout_Signal_ok (a0 : T_api_Layout) (a1 : T_api_End) (r : Int) (h : d_layout_Signal a0 a1 = some r) : PCall Go.Proofs.Tryd.prog GlS 31 [Enc.pv a0, Enc.pv a1] (Enc.pv r) := by
  unfold d_layout_Signal at h
  refine pcall_of_pwp Go.Proofs.Tryd.func31 (by rfl) rfl Go.Proofs.Tryd.ntmps31 (by rfl) rfl ?_
  refine pwp_seq (r_reg ?_)
  refine e_end (by kernel_rfl) ?_
  refine q_next (pwp_seq (pwp_seq (r_reg ?_)))
  refine p_run 2 (by kernel_rfl) ?_
  refine p_len (L := (a0.Signals : (List T_api_Signal))) (by kernel_rfl) ?_
  refine e_end (by kernel_rfl) ?_
  refine q_next (pwp_block ?_)
  obtain ⟨o6, h6, h⟩ := o_inl h
  refine r_loop2 21 0 (fun x2 => ⟨[(3, .ref 3 0), (8, lstOf .frozen (a0.Signals : (List T_api_Signal))), (9, .int .i64 ((a0.Signals.length : Nat) : Int)), (10, .int .i64 x2)], [(3, .cells (cellsOf a1))], [], []⟩) (fun (_ : Unit) => ⟨[], [], [], []⟩) h6 (by kernel_rfl) (fun _ => by kernel_rfl) ?_ ?_
  · rintro x2 oh5 h5
    unfold d_layout_Signal_0 at h5
    refine pwp_seq (r_reg ?_)
    refine e_end (by kernel_rfl) ?_
    refine q_next (pwp_seq ?_)
    rcases o_cond h5 with ⟨hb, h5⟩ | ⟨hb, h5⟩
    · refine r_cond_t hb (by kernel_rfl) ?_
      refine pwp_skip (q_next (pwp_seq (pwp_block (pwp_seq (r_reg ?_)))))
      refine p_run 1 (by kernel_rfl) ?_
      obtain ⟨x4, h7, h5⟩ := o_bind h5
      refine p_ix h7 (by kernel_rfl) ?_
      refine e_end (by kernel_rfl) ?_
      refine q_next (pwp_seq (r_reg ?_))
      refine e_end (by kernel_rfl) ?_
      refine q_next ?_
      rcases o_cond h5 with ⟨hb, h5⟩ | ⟨hb, h5⟩
      · refine r_cond_t hb (by kernel_rfl) ?_
        refine pwp_seq (r_reg ?_)
        refine e_end (by kernel_rfl) ?_
        refine q_next (pwp_ret (q_block_ret (q_seq_ret ?_)))
        cases h5
        refine q_lout_ret fun he => ?_
        subst he
        have h8 := o_outr h
        refine q_block_ret (q_seq_ret ?_)
        cases h8
        exact q_ret (by kernel_rfl) (by kernel_rfl) (by kernel_rfl)
      refine r_cond_f hb (by kernel_rfl) ?_
      refine pwp_skip (q_block (q_next (r_reg ?_)))
      refine e_end (by kernel_rfl) ?_
      cases h5
      exact q_lback (by kernel_rfl)
    refine r_cond_f hb (by kernel_rfl) ?_
    refine pwp_exit (q_seq_exit ?_)
    cases h5
    exact q_lexit (by kernel_rfl) (by kernel_rfl)
  rintro _ s' rfl hs
  have h := o_outl h
  refine q_block_hit ?_
  refine q_next (pwp_wkr hs ?_)
  refine pwp_seq (r_reg ?_)
  refine e_end (by kernel_rfl) ?_
  refine q_next (pwp_ret ?_)
  cases h
  exact q_ret (by kernel_rfl) (by kernel_rfl) (by kernel_rfl)

/-! walk.passage -/
noncomputable def d_walk_passage (a0 : T_api_Layout) : Option T_api_Layout :=
  some a0
theorem d_walk_passage_ok (a0 : T_api_Layout) (r : T_api_Layout) (h : d_walk_passage a0 = some r) : PCall Go.Proofs.Tryd.prog GlS 59 [Enc.pv a0] (.fn 69 [.cptr (cellsOf r)]) := by
  unfold d_walk_passage at h
  refine pcall_of_pwp Go.Proofs.Tryd.func59 (by rfl) rfl Go.Proofs.Tryd.ntmps59 (by rfl) rfl ?_
  refine pwp_seq (r_reg ?_)
  refine e_end (by kernel_rfl) ?_
  refine q_next (pwp_seq (r_reg ?_))
  refine e_end (by kernel_rfl) ?_
  refine q_next ?_
  refine g_frz 1 [] (cs := cellsOf a0) (cs' := cellsOf a0) (by kernel_rfl) (by kernel_rfl) (by kernel_rfl) (by kernel_rfl) ?_
  refine pwp_ret ?_
  cases h
  exact q_ret (by kernel_rfl) (by kernel_rfl) (by kernel_rfl)

/-! walk.passage$1 -/
noncomputable def d_walk_passage_1 (a0 : T_api_Step) (c0 : T_api_Layout) : Option (T_api_End × Bool) :=
  (d_layout_Joined c0 (T_api_End.mk a0.El a0.Out)).bind fun r1 =>
  some (r1.1, r1.2)
theorem d_walk_passage_1_ok (a0 : T_api_Step) (c0 : T_api_Layout) (r : (T_api_End × Bool)) (h : d_walk_passage_1 a0 c0 = some r) : PCall Go.Proofs.Tryd.prog GlS 69 [Enc.pv a0, .cptr (cellsOf c0)] (.tup [Enc.pv r.1, Enc.pv r.2]) := by
  unfold d_walk_passage_1 at h
  refine pcall_of_pwp Go.Proofs.Tryd.func69 (by rfl) rfl Go.Proofs.Tryd.ntmps69 (by rfl) rfl ?_
  refine pwp_seq (r_reg ?_)
  refine e_end (by kernel_rfl) ?_
  refine q_next (pwp_seq (r_reg ?_))
  refine p_run 6 (by kernel_rfl) ?_
  obtain ⟨r1, h1, h⟩ := o_bind h
  refine p_call (d_layout_Joined_ok _ _ r1 h1) (by kernel_rfl) (by kernel_rfl) ?_
  refine e_end (by kernel_rfl) ?_
  refine q_next (pwp_ret ?_)
  cases h
  exact q_ret (by kernel_rfl) (by kernel_rfl) (by kernel_rfl)

/-! walk.Next -/
noncomputable def d_walk_Next (a0 : T_api_Layout) (a1 : T_api_Step) : Option (T_api_End × Bool) :=
  (d_walk_passage a0).bind fun r1 =>
  (d_walk_passage_1 a1 r1).bind fun r2 =>
  some (r2.1, r2.2)
theorem d_walk_Next_ok (a0 : T_api_Layout) (a1 : T_api_Step) (r : (T_api_End × Bool)) (h : d_walk_Next a0 a1 = some r) : PCall Go.Proofs.Tryd.prog GlS 47 [Enc.pv a0, Enc.pv a1] (.tup [Enc.pv r.1, Enc.pv r.2]) := by
  unfold d_walk_Next at h
  refine pcall_of_pwp Go.Proofs.Tryd.func47 (by rfl) rfl Go.Proofs.Tryd.ntmps47 (by rfl) rfl ?_
  refine pwp_seq (r_reg ?_)
  refine e_end (by kernel_rfl) ?_
  refine q_next (pwp_seq ?_)
  refine r_regd (by kernel_rfl) (by kernel_rfl) ?_
  refine p_run 1 (by kernel_rfl) ?_
  obtain ⟨r1, h1, h⟩ := o_bind h
  refine p_call (d_walk_passage_ok _ r1 h1) (by kernel_rfl) (by kernel_rfl) ?_
  refine p_run 1 (by kernel_rfl) ?_
  obtain ⟨r2, h2, h⟩ := o_bind h
  refine p_call (d_walk_passage_1_ok _ _ r2 h2) (by kernel_rfl) (by kernel_rfl) ?_
  refine e_end (by kernel_rfl) ?_
  refine q_next (pwp_ret ?_)
  cases h
  exact q_ret (by kernel_rfl) (by kernel_rfl) (by kernel_rfl)

/-! slices.Clone[[]api.Step,api.Step] -/
noncomputable def d_slices_Clone_api_Step_X (a0 : (List T_api_Step)) : Option (List T_api_Step) :=
  (appO ([] : (List T_api_Step)) a0).bind fun x1 =>
  some x1
theorem d_slices_Clone_api_Step_X_x (a0 : (List T_api_Step)) (r : (List T_api_Step)) (h : d_slices_Clone_api_Step_X a0 = some r) : PCallX Go.Proofs.Tryd.prog GlS 30 [Enc.pv a0] 3 24 (r.map cellsOf) := by
  unfold d_slices_Clone_api_Step_X at h
  refine pcallx_of_pwp Go.Proofs.Tryd.func30 (by rfl) rfl Go.Proofs.Tryd.ntmps30 (by rfl) rfl ?_
  refine pwp_seq (r_reg ?_)
  refine e_end (by kernel_rfl) ?_
  refine q_next (pwp_seq (pwp_seq (r_reg ?_)))
  refine e_end (by kernel_rfl) ?_
  refine q_next ?_
  refine pwp_condU (e := ((a0 : (List T_api_Step)).map cellsOf).isEmpty) (by kernel_rfl) (fun hub => ?_) ?_
  · have hN := clone_nil (ub_nil hub) h
    refine pwp_seq (r_reg ?_)
    refine e_end (by kernel_rfl) ?_
    refine q_next ?_
    refine pwp_wkr (wkr_nilX 2 100002 3 24 (by kernel_rfl) (by kernel_rfl)) ?_
    refine pwp_ret (q_seq_ret ?_)
    have hq := Option.some.inj hN
    subst hq
    exact q_xres 100002 (((([] : (List T_api_Step)) : (List T_api_Step)).map cellsOf).length) (by kernel_rfl)
  refine pwp_skip (q_next (pwp_seq (r_reg ?_)))
  refine p_run 2 (by kernel_rfl) ?_
  obtain ⟨x1, h1, h⟩ := o_bind h
  refine p_xappB (tk := 7) (x := .lst .full 3 24 []) h1 (.inr ⟨_, _, rfl⟩) (by kernel_rfl) (by kernel_rfl) ?_
  refine e_end (by kernel_rfl) ?_
  refine q_next (pwp_ret ?_)
  have hq := Option.some.inj h
  subst hq
  exact q_xres 7 (((x1 : (List T_api_Step)).map cellsOf).length) (by kernel_rfl)

/-! (*route.finder).pass -/
noncomputable def d_route_finder_pass (a0 : T_route_finder) (a1 : (List T_api_Step)) : Option (T_route_finder × T_api_End) :=
  onInl (α := Unit) (β := (T_route_finder × T_api_End)) (
    (d_route_left a1).bind fun r6 =>
    (d_layout_Signal a0.l_ r6).bind fun r7 =>
    bif decide (r7 < 0) then (
      (xixO 0 (((a1 : (List T_api_Step)).map cellsOf).length) (w64 (((((a1 : (List T_api_Step)).map cellsOf).length : Nat) : Int) - 1))).bind fun j8 =>
      (xldO a1 (((a1 : (List T_api_Step)).map cellsOf).length) j8).bind fun x9 =>
      (d_walk_Next a0.l_ x9).bind fun r10 =>
      bif r10.2 then (
        some (.inr (a0, r10.1))
      ) else (
        some (.inl ())
      )
    ) else (
      some (.inl ())
    )
  ) fun _ =>
  (d_slices_Clone_api_Step_X a1).bind fun r11 =>
  (appO a0.paths_ [r11]).bind fun x12 =>
  some ((T_route_finder.mk a0.l_ x12), (T_api_End.mk (-1) 0))
theorem d_route_finder_pass_oc (a0 : T_route_finder) (a1 : (List T_api_Step)) (r : (T_route_finder × T_api_End)) (h : d_route_finder_pass a0 a1 = some r) : OCall Go.Proofs.Tryd.prog GlS 29 (some (.cells [.str a0.l_.Name, lstOf .frozen a0.l_.Sections, lstOf .frozen a0.l_.Elements, lstOf .frozen a0.l_.Joints, lstOf .frozen a0.l_.Signals, lstOf .frozen a0.l_.Balises, .ex 1000000000 1 24 (((a0.paths_ : (List (List T_api_Step))).map cellsOf).length) 0 (((a0.paths_ : (List (List T_api_Step))).map cellsOf).length)])) [(1, 24, (a0.paths_ : (List (List T_api_Step))).map cellsOf), (3, 24, (a1 : (List T_api_Step)).map cellsOf)] [.ref 1000000 0, .ex 1000000001 3 24 (((a1 : (List T_api_Step)).map cellsOf).length) 0 (((a1 : (List T_api_Step)).map cellsOf).length)] (Enc.pv r.2) (some (.cells [.str r.1.l_.Name, lstOf .frozen r.1.l_.Sections, lstOf .frozen r.1.l_.Elements, lstOf .frozen r.1.l_.Joints, lstOf .frozen r.1.l_.Signals, lstOf .frozen r.1.l_.Balises, .ex 1000000000 1 24 (((r.1.paths_ : (List (List T_api_Step))).map cellsOf).length) 0 (((r.1.paths_ : (List (List T_api_Step))).map cellsOf).length)])) [(1, 24, (r.1.paths_ : (List (List T_api_Step))).map cellsOf), (3, 24, (a1 : (List T_api_Step)).map cellsOf)] := by
  unfold d_route_finder_pass at h
  refine ocall_of_pwp Go.Proofs.Tryd.func29 (by rfl) rfl Go.Proofs.Tryd.ntmps29 (by rfl) rfl rfl (of_decide_eq_true rfl) (by kernel_rfl) ?_
  refine pwp_seq (r_reg ?_)
  refine e_end (by kernel_rfl) ?_
  refine q_next ?_
  obtain ⟨o7, h7, h⟩ := o_inl h
  refine r_join (o := o7) 43 (fun (_ : Unit) => ⟨[(0, .ref 1000000 0), (1, .ex 1000000001 3 24 (((a1 : (List T_api_Step)).map cellsOf).length) 0 (((a1 : (List T_api_Step)).map cellsOf).length)), (4, .ref 4 0)], [(4, .cells ([.int .i64 0, .int .i64 0])), (1000000, .cells ([.str a0.l_.Name, lstOf .frozen a0.l_.Sections, lstOf .frozen a0.l_.Elements, lstOf .frozen a0.l_.Joints, lstOf .frozen a0.l_.Signals, lstOf .frozen a0.l_.Balises, .ex 1000000000 1 24 (((a0.paths_ : (List (List T_api_Step))).map cellsOf).length) 0 (((a0.paths_ : (List (List T_api_Step))).map cellsOf).length)]))], [(1000000000, (((a0.paths_ : (List (List T_api_Step))).map cellsOf).length, 0)), (1000000001, (((a1 : (List T_api_Step)).map cellsOf).length, 0))], [(1000000000, (1, (24, (a0.paths_ : (List (List T_api_Step))).map cellsOf))), (1000000001, (3, (24, (a1 : (List T_api_Step)).map cellsOf)))]⟩) ?_ ?_
  · refine pwp_seq ?_
    obtain ⟨r6, h8, h7⟩ := o_bind h7
    obtain ⟨r7, h9, h7⟩ := o_bind h7
    refine r_all 43 ⟨[(0, .ref 1000000 0), (1, .ex 1000000001 3 24 (((a1 : (List T_api_Step)).map cellsOf).length) 0 (((a1 : (List T_api_Step)).map cellsOf).length)), (4, .ref 4 0), (14, .bool (decide (r7 < 0)))], [(4, .cells ([.int .i64 0, .int .i64 0])), (1000000, .cells ([.str a0.l_.Name, lstOf .frozen a0.l_.Sections, lstOf .frozen a0.l_.Elements, lstOf .frozen a0.l_.Joints, lstOf .frozen a0.l_.Signals, lstOf .frozen a0.l_.Balises, .ex 1000000000 1 24 (((a0.paths_ : (List (List T_api_Step))).map cellsOf).length) 0 (((a0.paths_ : (List (List T_api_Step))).map cellsOf).length)]))], [(1000000000, (((a0.paths_ : (List (List T_api_Step))).map cellsOf).length, 0)), (1000000001, (((a1 : (List T_api_Step)).map cellsOf).length, 0))], [(1000000000, (1, (24, (a0.paths_ : (List (List T_api_Step))).map cellsOf))), (1000000001, (3, (24, (a1 : (List T_api_Step)).map cellsOf)))]⟩ (by kernel_rfl) ?_ ?_
    · refine pS_takes [0, 1, 2, 4] 4 (by kernel_rfl) ?_
      refine pS_node (n := 3) [3, 5] (by kernel_rfl) ⟨?_, ?_, trivial⟩
      · refine ⟨_, rfl, ?_⟩
        refine p_run 1 (by kernel_rfl) ?_
        refine p_nilK (by kernel_rfl) ?_
        refine pS_node (n := 2) [5] (by kernel_rfl) ⟨?_, trivial⟩
        refine ⟨_, rfl, ?_⟩
        refine p_callB [1000000001] (d_route_left_ok _ r6 h8) (by kernel_rfl) (by kernel_rfl) (by kernel_rfl) ?_
        refine p_nilK (by kernel_rfl) ?_
        refine pS_node (n := 1) [6] (by kernel_rfl) ⟨?_, trivial⟩
        refine ⟨_, rfl, ?_⟩
        refine p_call (d_layout_Signal_ok _ _ r7 h9) (by kernel_rfl) (by kernel_rfl) ?_
        refine p_nilK (by kernel_rfl) ?_
        refine pS_node (n := 0) [7] (by kernel_rfl) ⟨?_, trivial⟩
        refine ⟨_, rfl, ?_⟩
        refine p_run 1 (by kernel_rfl) ?_
        refine p_nilK (by kernel_rfl) ?_
        exact pS_leaf (by kernel_rfl) (.of (by kernel_rfl) (by kernel_rfl))
      refine ⟨_, rfl, ?_⟩
      refine p_callB [1000000001] (d_route_left_ok _ r6 h8) (by kernel_rfl) (by kernel_rfl) (by kernel_rfl) ?_
      refine p_nilK (by kernel_rfl) ?_
      refine pS_node (n := 2) [3] (by kernel_rfl) ⟨?_, trivial⟩
      refine ⟨_, rfl, ?_⟩
      refine p_run 1 (by kernel_rfl) ?_
      refine p_nilK (by kernel_rfl) ?_
      refine pS_node (n := 1) [6] (by kernel_rfl) ⟨?_, trivial⟩
      refine ⟨_, rfl, ?_⟩
      refine p_call (d_layout_Signal_ok _ _ r7 h9) (by kernel_rfl) (by kernel_rfl) ?_
      refine p_nilK (by kernel_rfl) ?_
      refine pS_node (n := 0) [7] (by kernel_rfl) ⟨?_, trivial⟩
      refine ⟨_, rfl, ?_⟩
      refine p_run 1 (by kernel_rfl) ?_
      refine p_nilK (by kernel_rfl) ?_
      exact pS_leaf (by kernel_rfl) (.of (by kernel_rfl) (by kernel_rfl))
    refine q_next ?_
    rcases o_cond h7 with ⟨hb, h7⟩ | ⟨hb, h7⟩
    · refine r_cond_t hb (by kernel_rfl) ?_
      refine pwp_seq ?_
      refine r_regd (by kernel_rfl) (by kernel_rfl) ?_
      refine p_run 8 (by kernel_rfl) ?_
      obtain ⟨j8, h10, h7⟩ := o_bind h7
      refine p_xix (tk := 1000000001) (k := 3) (N := ((a1 : (List T_api_Step)).map cellsOf).length) h10 (by kernel_rfl) ?_
      obtain ⟨x9, h11, h7⟩ := o_bind h7
      refine p_xld (L := (a1 : (List T_api_Step))) (N := ((a1 : (List T_api_Step)).map cellsOf).length) (j := j8) (y := x9) (v := Enc.pv x9) h11 true 3 0 (by kernel_rfl) (by kernel_rfl) ?_
      obtain ⟨r10, h12, h7⟩ := o_bind h7
      refine p_call (d_walk_Next_ok _ _ r10 h12) (by kernel_rfl) (by kernel_rfl) ?_
      refine e_end (by kernel_rfl) ?_
      refine q_next (pwp_seq (r_reg ?_))
      refine e_end (by kernel_rfl) ?_
      refine q_next ?_
      rcases o_cond h7 with ⟨hb, h7⟩ | ⟨hb, h7⟩
      · refine r_cond_t hb (by kernel_rfl) ?_
        refine pwp_seq (r_reg ?_)
        refine e_end (by kernel_rfl) ?_
        refine q_next (pwp_ret ?_)
        cases h7
        refine q_jout_ret ?_
        have h13 := o_outr h
        cases h13
        exact q_oret (by kernel_rfl) (by kernel_rfl) (by kernel_rfl)
      refine r_cond_f hb (by kernel_rfl) ?_
      refine pwp_skip ?_
      cases h7
      exact q_join (by kernel_rfl) (by kernel_rfl)
    refine r_cond_f hb (by kernel_rfl) ?_
    refine pwp_skip ?_
    cases h7
    exact q_join (by kernel_rfl) (by kernel_rfl)
  rintro _ rfl
  have h := o_outl h
  refine pwp_seq ?_
  obtain ⟨r11, h14, h⟩ := o_bind h
  obtain ⟨x12, h15, h⟩ := o_bind h
  refine r_all 43 ⟨[(4, .ref 4 0)], [(4, .cells ([.int .i64 0, .int .i64 0])), (1000000, .cells ([.str a0.l_.Name, lstOf .frozen a0.l_.Sections, lstOf .frozen a0.l_.Elements, lstOf .frozen a0.l_.Joints, lstOf .frozen a0.l_.Signals, lstOf .frozen a0.l_.Balises, .ex 1000000000 1 24 (((x12 : (List (List T_api_Step))).map cellsOf).length) 0 (((x12 : (List (List T_api_Step))).map cellsOf).length)]))], [(1000000000, (((x12 : (List (List T_api_Step))).map cellsOf).length, 0)), (1000000001, (((a1 : (List T_api_Step)).map cellsOf).length, 0))], [(1000000000, (1, (24, (x12 : (List (List T_api_Step))).map cellsOf))), (1000000001, (3, (24, (a1 : (List T_api_Step)).map cellsOf)))]⟩ (by kernel_rfl) ?_ ?_
  · refine pS_takes [0, 1, 2, 3, 5] 7 (by kernel_rfl) ?_
    refine pS_node (n := 6) [4, 6] (by kernel_rfl) ⟨?_, ?_, trivial⟩
    · refine ⟨_, rfl, ?_⟩
      refine p_run 1 (by kernel_rfl) ?_
      refine p_nilK (by kernel_rfl) ?_
      refine pS_node (n := 5) [6] (by kernel_rfl) ⟨?_, trivial⟩
      refine ⟨_, rfl, ?_⟩
      refine p_callF (α := T_api_Step) [1000000001] (d_slices_Clone_api_Step_X_x _ r11 h14) (fun _ => by kernel_rfl) (by kernel_rfl) (by kernel_rfl) ?_
      refine p_nilK (by kernel_rfl) ?_
      refine pS_node (n := 4) [7] (by kernel_rfl) ⟨?_, trivial⟩
      refine ⟨_, rfl, ?_⟩
      refine p_run 1 (by kernel_rfl) ?_
      refine p_nilK (by kernel_rfl) ?_
      refine pS_node (n := 3) [8] (by kernel_rfl) ⟨?_, trivial⟩
      refine ⟨_, rfl, ?_⟩
      refine p_xapp (tk := 1000000000) (N := ((a0.paths_ : (List (List T_api_Step))).map cellsOf).length) h15 (by kernel_rfl) (by kernel_rfl) (by kernel_rfl) ?_
      refine p_nilK (by kernel_rfl) ?_
      refine pS_takes [9, 10] 1 (by kernel_rfl) ?_
      refine pS_node (n := 0) [11] (by kernel_rfl) ⟨?_, trivial⟩
      refine ⟨_, rfl, ?_⟩
      refine p_run 1 (by kernel_rfl) ?_
      refine p_nilK (by kernel_rfl) ?_
      exact pS_leaf (by kernel_rfl) (.of (by kernel_rfl) (by kernel_rfl))
    refine ⟨_, rfl, ?_⟩
    refine p_callF (α := T_api_Step) [1000000001] (d_slices_Clone_api_Step_X_x _ r11 h14) (fun _ => by kernel_rfl) (by kernel_rfl) (by kernel_rfl) ?_
    refine p_nilK (by kernel_rfl) ?_
    refine pS_node (n := 5) [4, 7] (by kernel_rfl) ⟨?_, ?_, trivial⟩
    · refine ⟨_, rfl, ?_⟩
      refine p_run 1 (by kernel_rfl) ?_
      refine p_nilK (by kernel_rfl) ?_
      refine pS_node (n := 4) [7] (by kernel_rfl) ⟨?_, trivial⟩
      refine ⟨_, rfl, ?_⟩
      refine p_run 1 (by kernel_rfl) ?_
      refine p_nilK (by kernel_rfl) ?_
      refine pS_node (n := 3) [8] (by kernel_rfl) ⟨?_, trivial⟩
      refine ⟨_, rfl, ?_⟩
      refine p_xapp (tk := 1000000000) (N := ((a0.paths_ : (List (List T_api_Step))).map cellsOf).length) h15 (by kernel_rfl) (by kernel_rfl) (by kernel_rfl) ?_
      refine p_nilK (by kernel_rfl) ?_
      refine pS_takes [9, 10] 1 (by kernel_rfl) ?_
      refine pS_node (n := 0) [11] (by kernel_rfl) ⟨?_, trivial⟩
      refine ⟨_, rfl, ?_⟩
      refine p_run 1 (by kernel_rfl) ?_
      refine p_nilK (by kernel_rfl) ?_
      exact pS_leaf (by kernel_rfl) (.of (by kernel_rfl) (by kernel_rfl))
    refine ⟨_, rfl, ?_⟩
    refine p_run 1 (by kernel_rfl) ?_
    refine p_nilK (by kernel_rfl) ?_
    refine pS_node (n := 4) [4] (by kernel_rfl) ⟨?_, trivial⟩
    refine ⟨_, rfl, ?_⟩
    refine p_run 1 (by kernel_rfl) ?_
    refine p_nilK (by kernel_rfl) ?_
    refine pS_node (n := 3) [8] (by kernel_rfl) ⟨?_, trivial⟩
    refine ⟨_, rfl, ?_⟩
    refine p_xapp (tk := 1000000000) (N := ((a0.paths_ : (List (List T_api_Step))).map cellsOf).length) h15 (by kernel_rfl) (by kernel_rfl) (by kernel_rfl) ?_
    refine p_nilK (by kernel_rfl) ?_
    refine pS_takes [9, 10] 1 (by kernel_rfl) ?_
    refine pS_node (n := 0) [11] (by kernel_rfl) ⟨?_, trivial⟩
    refine ⟨_, rfl, ?_⟩
    refine p_run 1 (by kernel_rfl) ?_
    refine p_nilK (by kernel_rfl) ?_
    exact pS_leaf (by kernel_rfl) (.of (by kernel_rfl) (by kernel_rfl))
  refine q_next (pwp_seq (r_reg ?_))
  refine e_end (by kernel_rfl) ?_
  refine q_next (pwp_ret ?_)
  cases h
  exact q_oret (by kernel_rfl) (by kernel_rfl) (by kernel_rfl)

/-! (*route.finder).follow -/
noncomputable def d_route_finder_follow_1 (rc_d_route_finder_follow : T_route_finder → (List T_api_Step) → T_api_End → Option T_route_finder) (x80 : (List T_api_Step)) (r163 : (List T_api_Step)) : (Int × ByteArray × (List ByteArray) × (List T_api_Element) × (List T_api_Joint) × (List T_api_Signal) × (List T_api_Balise) × (List (List T_api_Step))) → Option ((Int × ByteArray × (List ByteArray) × (List T_api_Element) × (List T_api_Joint) × (List T_api_Signal) × (List T_api_Balise) × (List (List T_api_Step))) ⊕ (((List (List T_api_Step)) × ByteArray × (List ByteArray) × (List T_api_Element) × (List T_api_Joint) × (List T_api_Signal) × (List T_api_Balise)) ⊕ ((ByteArray × (List ByteArray) × (List T_api_Element) × (List T_api_Joint) × (List T_api_Signal) × (List T_api_Balise) × T_api_End × (List T_api_Step) × (List (List T_api_Step))) ⊕ (((List (List T_api_Step)) × ByteArray × (List ByteArray) × (List T_api_Element) × (List T_api_Joint) × (List T_api_Signal) × (List T_api_Balise)) ⊕ T_route_finder)))) := fun (x184, x185, x186, x187, x188, x189, x190, x191) =>
  bif decide (x184 < ((r163.length : Nat) : Int)) then (
    onInl (α := ((List (List T_api_Step)) × ByteArray × (List ByteArray) × (List T_api_Element) × (List T_api_Joint) × (List T_api_Signal) × (List T_api_Balise))) (β := ((Int × ByteArray × (List ByteArray) × (List T_api_Element) × (List T_api_Joint) × (List T_api_Signal) × (List T_api_Balise) × (List (List T_api_Step))) ⊕ (((List (List T_api_Step)) × ByteArray × (List ByteArray) × (List T_api_Element) × (List T_api_Joint) × (List T_api_Signal) × (List T_api_Balise)) ⊕ ((ByteArray × (List ByteArray) × (List T_api_Element) × (List T_api_Joint) × (List T_api_Signal) × (List T_api_Balise) × T_api_End × (List T_api_Step) × (List (List T_api_Step))) ⊕ (((List (List T_api_Step)) × ByteArray × (List ByteArray) × (List T_api_Element) × (List T_api_Joint) × (List T_api_Signal) × (List T_api_Balise)) ⊕ T_route_finder))))) (
      (ixO r163 x184).bind fun x228 =>
      (d_slices_Clone_api_Step_X x80).bind fun r229 =>
      (appO r229 [x228]).bind fun x230 =>
      (d_route_finder_pass (T_route_finder.mk (T_api_Layout.mk x185 x186 x187 x188 x189 x190) x191) x230).bind fun r231 =>
      bif decide (0 ≤ r231.2.El) then (
        (rc_d_route_finder_follow r231.1 x230 r231.2).bind fun r232 =>
        some (.inl (r232.paths_, r232.l_.Name, r232.l_.Sections, r232.l_.Elements, r232.l_.Joints, r232.l_.Signals, r232.l_.Balises))
      ) else (
        some (.inl (r231.1.paths_, r231.1.l_.Name, r231.1.l_.Sections, r231.1.l_.Elements, r231.1.l_.Joints, r231.1.l_.Signals, r231.1.l_.Balises))
      )
    ) fun (x221, x222, x223, x224, x225, x226, x227) =>
    some (.inl (w64 (x184 + 1), x222, x223, x224, x225, x226, x227, x221))
  ) else (
    some (.inr (.inl (x191, x185, x186, x187, x188, x189, x190)))
  )

noncomputable def d_route_finder_follow_0 (rc_d_route_finder_follow : T_route_finder → (List T_api_Step) → T_api_End → Option T_route_finder) : (ByteArray × (List ByteArray) × (List T_api_Element) × (List T_api_Joint) × (List T_api_Signal) × (List T_api_Balise) × T_api_End × (List T_api_Step) × (List (List T_api_Step))) → Option ((ByteArray × (List ByteArray) × (List T_api_Element) × (List T_api_Joint) × (List T_api_Signal) × (List T_api_Balise) × T_api_End × (List T_api_Step) × (List (List T_api_Step))) ⊕ (((List (List T_api_Step)) × ByteArray × (List ByteArray) × (List T_api_Element) × (List T_api_Joint) × (List T_api_Signal) × (List T_api_Balise)) ⊕ T_route_finder)) := fun (x73, x74, x75, x76, x77, x78, x79, x80, x81) =>
  ((bif decide (((((x80 : (List T_api_Step)).map cellsOf).length : Nat) : Int) = 12) then some true else (
    (d_route_finder_open (T_route_finder.mk (T_api_Layout.mk x73 x74 x75 x76 x77 x78) x81) x80 x79.El).bind fun r162 =>
    some (!r162)
  )) : Option Bool).bind fun b161 =>
  bif b161 then (
    some (.inr (.inr (T_route_finder.mk (T_api_Layout.mk x73 x74 x75 x76 x77 x78) x81)))
  ) else (
    (d_walk_Branches (T_api_Layout.mk x73 x74 x75 x76 x77 x78) x79).bind fun r163 =>
    bif decide (((r163.length : Nat) : Int) = 1) then (
      (ixO r163 0).bind fun x164 =>
      (appO x80 [x164]).bind fun x165 =>
      (d_route_finder_pass (T_route_finder.mk (T_api_Layout.mk x73 x74 x75 x76 x77 x78) x81) x165).bind fun r166 =>
      bif decide (0 ≤ r166.2.El) then (
        some (.inl (r166.1.l_.Name, r166.1.l_.Sections, r166.1.l_.Elements, r166.1.l_.Joints, r166.1.l_.Signals, r166.1.l_.Balises, r166.2, x165, r166.1.paths_))
      ) else (
        some (.inr (.inr r166.1))
      )
    ) else (
      onInl (α := ((List (List T_api_Step)) × ByteArray × (List ByteArray) × (List T_api_Element) × (List T_api_Joint) × (List T_api_Signal) × (List T_api_Balise))) (β := ((ByteArray × (List ByteArray) × (List T_api_Element) × (List T_api_Joint) × (List T_api_Signal) × (List T_api_Balise) × T_api_End × (List T_api_Step) × (List (List T_api_Step))) ⊕ (((List (List T_api_Step)) × ByteArray × (List ByteArray) × (List T_api_Element) × (List T_api_Joint) × (List T_api_Signal) × (List T_api_Balise)) ⊕ T_route_finder))) (loopO (d_route_finder_follow_1 rc_d_route_finder_follow x80 r163) (0, x73, x74, x75, x76, x77, x78, x81)) fun (x209, x210, x211, x212, x213, x214, x215) =>
      some (.inr (.inl (x209, x210, x211, x212, x213, x214, x215)))
    )
  )

noncomputable def d_route_finder_follow_F (rc_d_route_finder_follow : T_route_finder → (List T_api_Step) → T_api_End → Option T_route_finder) (a0 : T_route_finder) (a1 : (List T_api_Step)) (a2 : T_api_End) : Option T_route_finder :=
  onInl (α := ((List (List T_api_Step)) × ByteArray × (List ByteArray) × (List T_api_Element) × (List T_api_Joint) × (List T_api_Signal) × (List T_api_Balise))) (β := T_route_finder) (loopO (d_route_finder_follow_0 rc_d_route_finder_follow) (a0.l_.Name, a0.l_.Sections, a0.l_.Elements, a0.l_.Joints, a0.l_.Signals, a0.l_.Balises, a2, a1, a0.paths_)) fun (x154, x155, x156, x157, x158, x159, x160) =>
  some (T_route_finder.mk (T_api_Layout.mk x155 x156 x157 x158 x159 x160) x154)
theorem d_route_finder_follow_F_oc (rc_d_route_finder_follow : T_route_finder → (List T_api_Step) → T_api_End → Option T_route_finder) (hrc_d_route_finder_follow : ∀ (a0 : T_route_finder) (a1 : (List T_api_Step)) (a2 : T_api_End) (r : T_route_finder), rc_d_route_finder_follow a0 a1 a2 = some r → OCall Go.Proofs.Tryd.prog GlS 20 (some (.cells [.str a0.l_.Name, lstOf .frozen a0.l_.Sections, lstOf .frozen a0.l_.Elements, lstOf .frozen a0.l_.Joints, lstOf .frozen a0.l_.Signals, lstOf .frozen a0.l_.Balises, .ex 1000000000 1 24 (((a0.paths_ : (List (List T_api_Step))).map cellsOf).length) 0 (((a0.paths_ : (List (List T_api_Step))).map cellsOf).length)])) [(1, 24, (a0.paths_ : (List (List T_api_Step))).map cellsOf), (3, 24, (a1 : (List T_api_Step)).map cellsOf)] [.ref 1000000 0, .ex 1000000001 3 24 (((a1 : (List T_api_Step)).map cellsOf).length) 0 (((a1 : (List T_api_Step)).map cellsOf).length), Enc.pv a2] (.tup []) (some (.cells [.str r.l_.Name, lstOf .frozen r.l_.Sections, lstOf .frozen r.l_.Elements, lstOf .frozen r.l_.Joints, lstOf .frozen r.l_.Signals, lstOf .frozen r.l_.Balises, .ex 1000000000 1 24 (((r.paths_ : (List (List T_api_Step))).map cellsOf).length) 0 (((r.paths_ : (List (List T_api_Step))).map cellsOf).length)])) [(1, 24, (r.paths_ : (List (List T_api_Step))).map cellsOf)]) (a0 : T_route_finder) (a1 : (List T_api_Step)) (a2 : T_api_End) (r : T_route_finder) (h : d_route_finder_follow_F rc_d_route_finder_follow a0 a1 a2 = some r) : OCall Go.Proofs.Tryd.prog GlS 20 (some (.cells [.str a0.l_.Name, lstOf .frozen a0.l_.Sections, lstOf .frozen a0.l_.Elements, lstOf .frozen a0.l_.Joints, lstOf .frozen a0.l_.Signals, lstOf .frozen a0.l_.Balises, .ex 1000000000 1 24 (((a0.paths_ : (List (List T_api_Step))).map cellsOf).length) 0 (((a0.paths_ : (List (List T_api_Step))).map cellsOf).length)])) [(1, 24, (a0.paths_ : (List (List T_api_Step))).map cellsOf), (3, 24, (a1 : (List T_api_Step)).map cellsOf)] [.ref 1000000 0, .ex 1000000001 3 24 (((a1 : (List T_api_Step)).map cellsOf).length) 0 (((a1 : (List T_api_Step)).map cellsOf).length), Enc.pv a2] (.tup []) (some (.cells [.str r.l_.Name, lstOf .frozen r.l_.Sections, lstOf .frozen r.l_.Elements, lstOf .frozen r.l_.Joints, lstOf .frozen r.l_.Signals, lstOf .frozen r.l_.Balises, .ex 1000000000 1 24 (((r.paths_ : (List (List T_api_Step))).map cellsOf).length) 0 (((r.paths_ : (List (List T_api_Step))).map cellsOf).length)])) [(1, 24, (r.paths_ : (List (List T_api_Step))).map cellsOf)] := by
  unfold d_route_finder_follow_F at h
  refine ocall_of_pwp Go.Proofs.Tryd.func20 (by rfl) rfl Go.Proofs.Tryd.ntmps20 (by rfl) rfl rfl (of_decide_eq_true rfl) (by kernel_rfl) ?_
  refine pwp_seq (r_reg ?_)
  refine e_end (by kernel_rfl) ?_
  refine q_next ?_
  obtain ⟨o88, h88, h⟩ := o_inl h
  refine r_scope 65 0 (fun (x73, x74, x75, x76, x77, x78, x79, x80, x81) => ⟨[(0, .ref 1000000 0), (1, .ex 1000000001 3 24 (((x80 : (List T_api_Step)).map cellsOf).length) 0 (((x80 : (List T_api_Step)).map cellsOf).length)), (5, .ref 5 0)], [(5, .cells (cellsOf x79)), (1000000, .cells ([.str x73, lstOf .frozen (x74 : (List ByteArray)), lstOf .frozen (x75 : (List T_api_Element)), lstOf .frozen (x76 : (List T_api_Joint)), lstOf .frozen (x77 : (List T_api_Signal)), lstOf .frozen (x78 : (List T_api_Balise)), .ex 1000000000 1 24 (((x81 : (List (List T_api_Step))).map cellsOf).length) 0 (((x81 : (List (List T_api_Step))).map cellsOf).length)]))], [(1000000000, (((x81 : (List (List T_api_Step))).map cellsOf).length, 0)), (1000000001, (((x80 : (List T_api_Step)).map cellsOf).length, 0))], [(1000000000, (1, (24, (x81 : (List (List T_api_Step))).map cellsOf))), (1000000001, (3, (24, (x80 : (List T_api_Step)).map cellsOf)))]⟩) (fun (x154, x155, x156, x157, x158, x159, x160) => ⟨[], [(1000000, .cells ([.str x155, lstOf .frozen (x156 : (List ByteArray)), lstOf .frozen (x157 : (List T_api_Element)), lstOf .frozen (x158 : (List T_api_Joint)), lstOf .frozen (x159 : (List T_api_Signal)), lstOf .frozen (x160 : (List T_api_Balise)), .ex 1000000000 1 24 (((x154 : (List (List T_api_Step))).map cellsOf).length) 0 (((x154 : (List (List T_api_Step))).map cellsOf).length)]))], [(1000000000, (((x154 : (List (List T_api_Step))).map cellsOf).length, 0))], [(1000000000, (1, (24, (x154 : (List (List T_api_Step))).map cellsOf)))]⟩) h88 (by kernel_rfl) (fun _ => by kernel_rfl) ?_ ?_
  · rintro ⟨x73, x74, x75, x76, x77, x78, x79, x80, x81⟩ oh87 h87
    unfold d_route_finder_follow_0 at h87
    refine pwp_seq (pwp_seq (r_reg ?_))
    obtain ⟨b161, h89, h87⟩ := o_bind h87
    refine p_run 4 (by kernel_rfl) ?_
    refine e_seg 7 21 (.bool b161) ?_ ?_
    · rcases o_cond h89 with ⟨hb, h89⟩ | ⟨hb, h89⟩
      · refine p_settle 14 hb (by kernel_rfl) (by kernel_rfl) ?_
        cases h89
        exact f_end (by kernel_rfl) (by kernel_rfl)
      refine p_settle 14 hb (by kernel_rfl) (by kernel_rfl) ?_
      refine p_run 4 (by kernel_rfl) ?_
      obtain ⟨r162, h90, h89⟩ := o_bind h89
      refine p_callR [1000000000, 1000000001] (d_route_finder_open_ok _ _ _ r162 h90) (by kernel_rfl) (by kernel_rfl) (by kernel_rfl) ?_
      cases h89
      exact f_end (by kernel_rfl) (by kernel_rfl)
    refine e_nil (by kernel_rfl) ?_
    refine q_next ?_
    rcases o_cond h87 with ⟨hb, h87⟩ | ⟨hb, h87⟩
    · refine r_cond_t hb (by kernel_rfl) ?_
      refine pwp_ret (q_seq_ret ?_)
      cases h87
      refine q_sout_ret fun he => ?_
      subst he
      have h91 := o_outr h
      cases h91
      exact q_oret (by kernel_rfl) (by kernel_rfl) (by kernel_rfl)
    refine r_cond_f hb (by kernel_rfl) ?_
    refine pwp_skip (q_next (pwp_seq ?_))
    refine r_regd (by kernel_rfl) (by kernel_rfl) ?_
    refine p_run 5 (by kernel_rfl) ?_
    obtain ⟨r163, h92, h87⟩ := o_bind h87
    refine p_call (d_walk_Branches_fz _ _ r163 h92) (by kernel_rfl) (by kernel_rfl) ?_
    refine e_end (by kernel_rfl) ?_
    refine q_next (pwp_seq (pwp_seq (r_reg ?_)))
    refine p_run 1 (by kernel_rfl) ?_
    refine p_len (L := (r163 : (List T_api_Step))) (by kernel_rfl) ?_
    refine e_end (by kernel_rfl) ?_
    refine q_next ?_
    rcases o_cond h87 with ⟨hb, h87⟩ | ⟨hb, h87⟩
    · refine r_cond_t hb (by kernel_rfl) ?_
      refine pwp_seq (r_reg ?_)
      refine p_run 2 (by kernel_rfl) ?_
      obtain ⟨x164, h93, h87⟩ := o_bind h87
      refine p_ix h93 (by kernel_rfl) ?_
      refine p_run 2 (by kernel_rfl) ?_
      obtain ⟨x165, h94, h87⟩ := o_bind h87
      refine p_xapp (tk := 1000000001) (N := ((x80 : (List T_api_Step)).map cellsOf).length) h94 (by kernel_rfl) (by kernel_rfl) (by kernel_rfl) ?_
      refine e_end (by kernel_rfl) ?_
      refine q_next (pwp_seq (pwp_seq (r_reg ?_)))
      refine p_run 2 (by kernel_rfl) ?_
      obtain ⟨r166, h95, h87⟩ := o_bind h87
      refine p_ocall (some 1000000) [1000000000, 1000000001] [] none (d_route_finder_pass_oc _ _ r166 h95) (by kernel_rfl) (by kernel_rfl) (by kernel_rfl) (by kernel_rfl) (by kernel_rfl) ?_
      refine e_end (by kernel_rfl) ?_
      refine q_next (pwp_seq (r_reg ?_))
      refine e_end (by kernel_rfl) ?_
      refine q_next ?_
      rcases o_cond h87 with ⟨hb, h87⟩ | ⟨hb, h87⟩
      · refine r_cond_t hb (by kernel_rfl) ?_
        refine pwp_goto (q_seq_goto (q_seq_goto ?_))
        cases h87
        exact q_sback (by kernel_rfl)
      refine r_cond_f hb (by kernel_rfl) ?_
      refine pwp_skip (q_next (pwp_ret (q_seq_ret ?_)))
      cases h87
      refine q_sout_ret fun he => ?_
      subst he
      have h96 := o_outr h
      cases h96
      exact q_oret (by kernel_rfl) (by kernel_rfl) (by kernel_rfl)
    refine r_cond_f hb (by kernel_rfl) ?_
    refine pwp_skip (q_next (pwp_seq (r_reg ?_)))
    refine p_run 1 (by kernel_rfl) ?_
    refine p_len (L := (r163 : (List T_api_Step))) (by kernel_rfl) ?_
    refine e_end (by kernel_rfl) ?_
    refine q_next (pwp_block ?_)
    obtain ⟨o120, h120, h87⟩ := o_inl h87
    refine r_loop2 65 0 (fun (x184, x185, x186, x187, x188, x189, x190, x191) => ⟨[(0, .ref 1000000 0), (1, .ex 1000000001 3 24 (((x80 : (List T_api_Step)).map cellsOf).length) 0 (((x80 : (List T_api_Step)).map cellsOf).length)), (43, lstOf .frozen (r163 : (List T_api_Step))), (44, .int .i64 ((r163.length : Nat) : Int)), (45, .int .i64 x184)], [(1000000, .cells ([.str x185, lstOf .frozen (x186 : (List ByteArray)), lstOf .frozen (x187 : (List T_api_Element)), lstOf .frozen (x188 : (List T_api_Joint)), lstOf .frozen (x189 : (List T_api_Signal)), lstOf .frozen (x190 : (List T_api_Balise)), .ex 1000000000 1 24 (((x191 : (List (List T_api_Step))).map cellsOf).length) 0 (((x191 : (List (List T_api_Step))).map cellsOf).length)]))], [(1000000000, (((x191 : (List (List T_api_Step))).map cellsOf).length, 0)), (1000000001, (((x80 : (List T_api_Step)).map cellsOf).length, 0))], [(1000000000, (1, (24, (x191 : (List (List T_api_Step))).map cellsOf))), (1000000001, (3, (24, (x80 : (List T_api_Step)).map cellsOf)))]⟩) (fun (x209, x210, x211, x212, x213, x214, x215) => ⟨[], [(1000000, .cells ([.str x210, lstOf .frozen (x211 : (List ByteArray)), lstOf .frozen (x212 : (List T_api_Element)), lstOf .frozen (x213 : (List T_api_Joint)), lstOf .frozen (x214 : (List T_api_Signal)), lstOf .frozen (x215 : (List T_api_Balise)), .ex 1000000000 1 24 (((x209 : (List (List T_api_Step))).map cellsOf).length) 0 (((x209 : (List (List T_api_Step))).map cellsOf).length)]))], [(1000000000, (((x209 : (List (List T_api_Step))).map cellsOf).length, 0))], [(1000000000, (1, (24, (x209 : (List (List T_api_Step))).map cellsOf)))]⟩) h120 (by kernel_rfl) (fun _ => by kernel_rfl) ?_ ?_
    · rintro ⟨x184, x185, x186, x187, x188, x189, x190, x191⟩ oh119 h119
      unfold d_route_finder_follow_1 at h119
      refine pwp_seq (r_reg ?_)
      refine e_end (by kernel_rfl) ?_
      refine q_next (pwp_seq ?_)
      rcases o_cond h119 with ⟨hb, h119⟩ | ⟨hb, h119⟩
      · refine r_cond_t hb (by kernel_rfl) ?_
        refine pwp_skip (q_next ?_)
        obtain ⟨o126, h126, h119⟩ := o_inl h119
        refine r_join (o := o126) 65 (fun (x221, x222, x223, x224, x225, x226, x227) => ⟨[(0, .ref 1000000 0), (1, .ex 1000000001 3 24 (((x80 : (List T_api_Step)).map cellsOf).length) 0 (((x80 : (List T_api_Step)).map cellsOf).length)), (43, lstOf .frozen (r163 : (List T_api_Step))), (44, .int .i64 ((r163.length : Nat) : Int)), (45, .int .i64 x184)], [(1000000, .cells ([.str x222, lstOf .frozen (x223 : (List ByteArray)), lstOf .frozen (x224 : (List T_api_Element)), lstOf .frozen (x225 : (List T_api_Joint)), lstOf .frozen (x226 : (List T_api_Signal)), lstOf .frozen (x227 : (List T_api_Balise)), .ex 1000000000 1 24 (((x221 : (List (List T_api_Step))).map cellsOf).length) 0 (((x221 : (List (List T_api_Step))).map cellsOf).length)]))], [(1000000000, (((x221 : (List (List T_api_Step))).map cellsOf).length, 0)), (1000000001, (((x80 : (List T_api_Step)).map cellsOf).length, 0))], [(1000000000, (1, (24, (x221 : (List (List T_api_Step))).map cellsOf))), (1000000001, (3, (24, (x80 : (List T_api_Step)).map cellsOf)))]⟩) ?_ ?_
        · refine pwp_block (pwp_seq (r_reg ?_))
          obtain ⟨x228, h127, h126⟩ := o_bind h126
          refine p_ix h127 (by kernel_rfl) ?_
          refine e_end (by kernel_rfl) ?_
          refine q_next (pwp_seq ?_)
          obtain ⟨r229, h128, h126⟩ := o_bind h126
          obtain ⟨x230, h129, h126⟩ := o_bind h126
          refine r_all 65 ⟨[(0, .ref 1000000 0), (1, .ex 1000000001 3 24 (((x80 : (List T_api_Step)).map cellsOf).length) 0 (((x80 : (List T_api_Step)).map cellsOf).length)), (9, .ex 50 3 24 (((x230 : (List T_api_Step)).map cellsOf).length) 0 (((x230 : (List T_api_Step)).map cellsOf).length)), (43, lstOf .frozen (r163 : (List T_api_Step))), (44, .int .i64 ((r163.length : Nat) : Int)), (45, .int .i64 x184)], [(1000000, .cells ([.str x185, lstOf .frozen (x186 : (List ByteArray)), lstOf .frozen (x187 : (List T_api_Element)), lstOf .frozen (x188 : (List T_api_Joint)), lstOf .frozen (x189 : (List T_api_Signal)), lstOf .frozen (x190 : (List T_api_Balise)), .ex 1000000000 1 24 (((x191 : (List (List T_api_Step))).map cellsOf).length) 0 (((x191 : (List (List T_api_Step))).map cellsOf).length)]))], [(50, (((x230 : (List T_api_Step)).map cellsOf).length, 0)), (1000000000, (((x191 : (List (List T_api_Step))).map cellsOf).length, 0)), (1000000001, (((x80 : (List T_api_Step)).map cellsOf).length, 0))], [(50, (3, (24, (x230 : (List T_api_Step)).map cellsOf))), (1000000000, (1, (24, (x191 : (List (List T_api_Step))).map cellsOf))), (1000000001, (3, (24, (x80 : (List T_api_Step)).map cellsOf)))]⟩ (by kernel_rfl) ?_ ?_
          · refine pS_takes [0] 5 (by kernel_rfl) ?_
            refine pS_node (n := 4) [1, 2] (by kernel_rfl) ⟨?_, ?_, trivial⟩
            · refine ⟨_, rfl, ?_⟩
              refine p_callRX (α := T_api_Step) [1000000001] 50 (d_slices_Clone_api_Step_X_x _ r229 h128) (fun _ => by kernel_rfl) (by kernel_rfl) (by kernel_rfl) (by kernel_rfl) ?_
              refine p_nilK (by kernel_rfl) ?_
              refine pS_node (n := 3) [2] (by kernel_rfl) ⟨?_, trivial⟩
              refine ⟨_, rfl, ?_⟩
              refine p_run 1 (by kernel_rfl) ?_
              refine p_nilK (by kernel_rfl) ?_
              refine pS_node (n := 2) [3] (by kernel_rfl) ⟨?_, trivial⟩
              refine ⟨_, rfl, ?_⟩
              refine p_run 1 (by kernel_rfl) ?_
              refine p_nilK (by kernel_rfl) ?_
              refine pS_node (n := 1) [4] (by kernel_rfl) ⟨?_, trivial⟩
              refine ⟨_, rfl, ?_⟩
              refine p_xapp (tk := 50) (N := ((r229 : (List T_api_Step)).map cellsOf).length) h129 (by kernel_rfl) (by kernel_rfl) (by kernel_rfl) ?_
              refine p_nilK (by kernel_rfl) ?_
              refine pS_takes [5] 0 (by kernel_rfl) ?_
              exact pS_leaf (by kernel_rfl) (.of (by kernel_rfl) (by kernel_rfl))
            refine ⟨_, rfl, ?_⟩
            refine p_run 1 (by kernel_rfl) ?_
            refine p_nilK (by kernel_rfl) ?_
            refine pS_node (n := 3) [1, 3] (by kernel_rfl) ⟨?_, ?_, trivial⟩
            · refine ⟨_, rfl, ?_⟩
              refine p_callRX (α := T_api_Step) [1000000001] 50 (d_slices_Clone_api_Step_X_x _ r229 h128) (fun _ => by kernel_rfl) (by kernel_rfl) (by kernel_rfl) (by kernel_rfl) ?_
              refine p_nilK (by kernel_rfl) ?_
              refine pS_node (n := 2) [3] (by kernel_rfl) ⟨?_, trivial⟩
              refine ⟨_, rfl, ?_⟩
              refine p_run 1 (by kernel_rfl) ?_
              refine p_nilK (by kernel_rfl) ?_
              refine pS_node (n := 1) [4] (by kernel_rfl) ⟨?_, trivial⟩
              refine ⟨_, rfl, ?_⟩
              refine p_xapp (tk := 50) (N := ((r229 : (List T_api_Step)).map cellsOf).length) h129 (by kernel_rfl) (by kernel_rfl) (by kernel_rfl) ?_
              refine p_nilK (by kernel_rfl) ?_
              refine pS_takes [5] 0 (by kernel_rfl) ?_
              exact pS_leaf (by kernel_rfl) (.of (by kernel_rfl) (by kernel_rfl))
            refine ⟨_, rfl, ?_⟩
            refine p_run 1 (by kernel_rfl) ?_
            refine p_nilK (by kernel_rfl) ?_
            refine pS_node (n := 2) [1] (by kernel_rfl) ⟨?_, trivial⟩
            refine ⟨_, rfl, ?_⟩
            refine p_callRX (α := T_api_Step) [1000000001] 50 (d_slices_Clone_api_Step_X_x _ r229 h128) (fun _ => by kernel_rfl) (by kernel_rfl) (by kernel_rfl) (by kernel_rfl) ?_
            refine p_nilK (by kernel_rfl) ?_
            refine pS_node (n := 1) [4] (by kernel_rfl) ⟨?_, trivial⟩
            refine ⟨_, rfl, ?_⟩
            refine p_xapp (tk := 50) (N := ((r229 : (List T_api_Step)).map cellsOf).length) h129 (by kernel_rfl) (by kernel_rfl) (by kernel_rfl) ?_
            refine p_nilK (by kernel_rfl) ?_
            refine pS_takes [5] 0 (by kernel_rfl) ?_
            exact pS_leaf (by kernel_rfl) (.of (by kernel_rfl) (by kernel_rfl))
          refine q_next (pwp_seq (r_reg ?_))
          refine p_run 2 (by kernel_rfl) ?_
          obtain ⟨r231, h130, h126⟩ := o_bind h126
          refine p_ocall (some 1000000) [1000000000, 50] [] none (d_route_finder_pass_oc _ _ r231 h130) (by kernel_rfl) (by kernel_rfl) (by kernel_rfl) (by kernel_rfl) (by kernel_rfl) ?_
          refine e_end (by kernel_rfl) ?_
          refine q_next (pwp_seq (r_reg ?_))
          refine e_end (by kernel_rfl) ?_
          refine q_next ?_
          rcases o_cond h126 with ⟨hb, h126⟩ | ⟨hb, h126⟩
          · refine r_cond_t hb (by kernel_rfl) ?_
            refine r_reg ?_
            refine p_run 3 (by kernel_rfl) ?_
            obtain ⟨r232, h131, h126⟩ := o_bind h126
            refine p_ocall (some 1000000) [1000000000, 50] [] none (hrc_d_route_finder_follow _ _ _ r232 h131) (by kernel_rfl) (by kernel_rfl) (by kernel_rfl) (by kernel_rfl) (by kernel_rfl) ?_
            refine e_nil (by kernel_rfl) ?_
            refine q_block ?_
            cases h126
            exact q_join (by kernel_rfl) (by kernel_rfl)
          refine r_cond_f hb (by kernel_rfl) ?_
          refine pwp_skip (q_block ?_)
          cases h126
          exact q_join (by kernel_rfl) (by kernel_rfl)
        rintro ⟨x221, x222, x223, x224, x225, x226, x227⟩ rfl
        have h119 := o_outl h119
        refine r_reg ?_
        refine e_end (by kernel_rfl) ?_
        cases h119
        exact q_lback (by kernel_rfl)
      refine r_cond_f hb (by kernel_rfl) ?_
      refine pwp_exit (q_seq_exit ?_)
      cases h119
      exact q_lexit (by kernel_rfl) (by kernel_rfl)
    rintro ⟨x209, x210, x211, x212, x213, x214, x215⟩ s' rfl hs
    have h87 := o_outl h87
    refine q_block_hit ?_
    cases h87
    exact q_sexit_w hs (by kernel_rfl) (by kernel_rfl)
  rintro ⟨x154, x155, x156, x157, x158, x159, x160⟩ s' rfl hs
  have h := o_outl h
  cases h
  exact q_oret_w hs (by kernel_rfl) (by kernel_rfl) (by kernel_rfl)
noncomputable def d_route_finder_follow_N (n : Nat) : T_route_finder → (List T_api_Step) → T_api_End → Option T_route_finder := Nat.rec (fun _ _ _ => none) (fun _ ih => d_route_finder_follow_F ih) n
theorem d_route_finder_follow_N_oc : ∀ (n : Nat) (a0 : T_route_finder) (a1 : (List T_api_Step)) (a2 : T_api_End) (r : T_route_finder), d_route_finder_follow_N n a0 a1 a2 = some r → OCall Go.Proofs.Tryd.prog GlS 20 (some (.cells [.str a0.l_.Name, lstOf .frozen a0.l_.Sections, lstOf .frozen a0.l_.Elements, lstOf .frozen a0.l_.Joints, lstOf .frozen a0.l_.Signals, lstOf .frozen a0.l_.Balises, .ex 1000000000 1 24 (((a0.paths_ : (List (List T_api_Step))).map cellsOf).length) 0 (((a0.paths_ : (List (List T_api_Step))).map cellsOf).length)])) [(1, 24, (a0.paths_ : (List (List T_api_Step))).map cellsOf), (3, 24, (a1 : (List T_api_Step)).map cellsOf)] [.ref 1000000 0, .ex 1000000001 3 24 (((a1 : (List T_api_Step)).map cellsOf).length) 0 (((a1 : (List T_api_Step)).map cellsOf).length), Enc.pv a2] (.tup []) (some (.cells [.str r.l_.Name, lstOf .frozen r.l_.Sections, lstOf .frozen r.l_.Elements, lstOf .frozen r.l_.Joints, lstOf .frozen r.l_.Signals, lstOf .frozen r.l_.Balises, .ex 1000000000 1 24 (((r.paths_ : (List (List T_api_Step))).map cellsOf).length) 0 (((r.paths_ : (List (List T_api_Step))).map cellsOf).length)])) [(1, 24, (r.paths_ : (List (List T_api_Step))).map cellsOf)]
  | 0, _, _, _, _, h => by cases h
  | n + 1, a0, a1, a2, r, h => d_route_finder_follow_F_oc (d_route_finder_follow_N n) (d_route_finder_follow_N_oc n) a0 a1 a2 r h
noncomputable def d_route_finder_follow (a0 : T_route_finder) (a1 : (List T_api_Step)) (a2 : T_api_End) : Option T_route_finder := d_route_finder_follow_F (d_route_finder_follow_N recFuel) a0 a1 a2
theorem d_route_finder_follow_oc (a0 : T_route_finder) (a1 : (List T_api_Step)) (a2 : T_api_End) (r : T_route_finder) (h : d_route_finder_follow a0 a1 a2 = some r) : OCall Go.Proofs.Tryd.prog GlS 20 (some (.cells [.str a0.l_.Name, lstOf .frozen a0.l_.Sections, lstOf .frozen a0.l_.Elements, lstOf .frozen a0.l_.Joints, lstOf .frozen a0.l_.Signals, lstOf .frozen a0.l_.Balises, .ex 1000000000 1 24 (((a0.paths_ : (List (List T_api_Step))).map cellsOf).length) 0 (((a0.paths_ : (List (List T_api_Step))).map cellsOf).length)])) [(1, 24, (a0.paths_ : (List (List T_api_Step))).map cellsOf), (3, 24, (a1 : (List T_api_Step)).map cellsOf)] [.ref 1000000 0, .ex 1000000001 3 24 (((a1 : (List T_api_Step)).map cellsOf).length) 0 (((a1 : (List T_api_Step)).map cellsOf).length), Enc.pv a2] (.tup []) (some (.cells [.str r.l_.Name, lstOf .frozen r.l_.Sections, lstOf .frozen r.l_.Elements, lstOf .frozen r.l_.Joints, lstOf .frozen r.l_.Signals, lstOf .frozen r.l_.Balises, .ex 1000000000 1 24 (((r.paths_ : (List (List T_api_Step))).map cellsOf).length) 0 (((r.paths_ : (List (List T_api_Step))).map cellsOf).length)])) [(1, 24, (r.paths_ : (List (List T_api_Step))).map cellsOf)] := d_route_finder_follow_F_oc (d_route_finder_follow_N recFuel) (d_route_finder_follow_N_oc recFuel) a0 a1 a2 r h

/-! rail.Need -/
noncomputable def d_rail_Need_0 (a0 : Int) (a1 : Int) (a2 : Int) : Int → Option (Int ⊕ (Unit ⊕ (Int × Bool))) := fun x2 =>
  bif decide (x2 < 10) then (
    (ixO tab_rail_passages x2).bind fun x4 =>
    bif (((decide (x4.kind_ = a0)) && (decide (x4.in_ = a1))) && (decide (x4.out_ = a2))) then (
      some (.inr (.inr (x4.need_, true)))
    ) else (
      some (.inl (w64 (x2 + 1)))
    )
  ) else (
    some (.inr (.inl ()))
  )

noncomputable def d_rail_Need (a0 : Int) (a1 : Int) (a2 : Int) : Option (Int × Bool) :=
  onInl (α := Unit) (β := (Int × Bool)) (loopO (d_rail_Need_0 a0 a1 a2) 0) fun _ =>
  some (0, false)
theorem d_rail_Need_ok (a0 : Int) (a1 : Int) (a2 : Int) (r : (Int × Bool)) (h : d_rail_Need a0 a1 a2 = some r) : PCall Go.Proofs.Tryd.prog GlS 60 [Enc.pv a0, Enc.pv a1, Enc.pv a2] (.tup [Enc.pv r.1, Enc.pv r.2]) := by
  unfold d_rail_Need at h
  refine pcall_of_pwp Go.Proofs.Tryd.func60 (by rfl) rfl Go.Proofs.Tryd.ntmps60 (by rfl) rfl ?_
  refine pwp_seq (r_reg ?_)
  refine e_end (by kernel_rfl) ?_
  refine q_next (pwp_seq (pwp_seq (r_reg ?_)))
  refine e_end (by kernel_rfl) ?_
  refine q_next (pwp_block ?_)
  obtain ⟨o6, h6, h⟩ := o_inl h
  refine r_loop2 33 0 (fun x2 => ⟨[(0, .int .i64 a0), (1, .int .i64 a1), (2, .int .i64 a2), (10, .agg (tab_rail_passages.flatMap cellsOf)), (11, .int .i64 x2)], [], [], []⟩) (fun (_ : Unit) => ⟨[], [], [], []⟩) h6 (by kernel_rfl) (fun _ => by kernel_rfl) ?_ ?_
  · rintro x2 oh5 h5
    unfold d_rail_Need_0 at h5
    refine pwp_seq (r_reg ?_)
    refine e_end (by kernel_rfl) ?_
    refine q_next (pwp_seq ?_)
    rcases o_cond h5 with ⟨hb, h5⟩ | ⟨hb, h5⟩
    · refine r_cond_t hb (by kernel_rfl) ?_
      refine pwp_skip (q_next (pwp_seq (pwp_block (pwp_seq (r_reg ?_)))))
      obtain ⟨x4, h7, h5⟩ := o_bind h5
      refine p_tix (tab := tab_rail_passages) h7 true 10 4 (by kernel_rfl) (by kernel_rfl) (by kernel_rfl) (by kernel_rfl) ?_
      refine e_end (by kernel_rfl) ?_
      refine q_next (pwp_seq (r_reg ?_))
      refine p_run 5 (by kernel_rfl) ?_
      refine e_segb 5 23 ((decide (x4.kind_ = a0)) && (decide (x4.in_ = a1))) (fun x hx => ?_) ?_
      · rcases b_and hx with ⟨hb, hx⟩ | ⟨hb, hx⟩
        · refine p_settle 18 hb (by kernel_rfl) (by kernel_rfl) ?_
          subst hx
          exact f_end (by kernel_rfl) (by kernel_rfl)
        refine p_settle 18 hb (by kernel_rfl) (by kernel_rfl) ?_
        subst hx
        exact f_end (by kernel_rfl) (by kernel_rfl)
      refine p_run 1 (by kernel_rfl) ?_
      refine e_segb 5 29 (((decide (x4.kind_ = a0)) && (decide (x4.in_ = a1))) && (decide (x4.out_ = a2))) (fun x hx => ?_) ?_
      · rcases b_and hx with ⟨hb, hx⟩ | ⟨hb, hx⟩
        · refine p_settle 24 hb (by kernel_rfl) (by kernel_rfl) ?_
          subst hx
          exact f_end (by kernel_rfl) (by kernel_rfl)
        refine p_settle 24 hb (by kernel_rfl) (by kernel_rfl) ?_
        subst hx
        exact f_end (by kernel_rfl) (by kernel_rfl)
      refine e_nil (by kernel_rfl) ?_
      refine q_next ?_
      rcases o_cond h5 with ⟨hb, h5⟩ | ⟨hb, h5⟩
      · refine r_cond_t hb (by kernel_rfl) ?_
        refine pwp_seq (r_reg ?_)
        refine e_end (by kernel_rfl) ?_
        refine q_next (pwp_ret (q_block_ret (q_seq_ret ?_)))
        cases h5
        refine q_lout_ret fun he => ?_
        subst he
        have h8 := o_outr h
        refine q_block_ret (q_seq_ret ?_)
        cases h8
        exact q_ret (by kernel_rfl) (by kernel_rfl) (by kernel_rfl)
      refine r_cond_f hb (by kernel_rfl) ?_
      refine pwp_skip (q_block (q_next (r_reg ?_)))
      refine e_end (by kernel_rfl) ?_
      cases h5
      exact q_lback (by kernel_rfl)
    refine r_cond_f hb (by kernel_rfl) ?_
    refine pwp_exit (q_seq_exit ?_)
    cases h5
    exact q_lexit (by kernel_rfl) (by kernel_rfl)
  rintro _ s' rfl hs
  have h := o_outl h
  refine q_block_hit ?_
  refine q_next (pwp_wkr hs ?_)
  refine pwp_seq (r_reg ?_)
  refine e_end (by kernel_rfl) ?_
  refine q_next (pwp_ret ?_)
  cases h
  exact q_ret (by kernel_rfl) (by kernel_rfl) (by kernel_rfl)

/-! walk.possible -/
noncomputable def d_walk_possible (a0 : T_api_Layout) (a1 : T_api_Step) : Option (Int × Bool) :=
  (d_walk_exists a0 a1.El).bind fun r1 =>
  bif (!r1) then (
    some (0, false)
  ) else (
    (ixO a0.Elements a1.El).bind fun x2 =>
    (d_rail_Need x2.Kind a1.In a1.Out).bind fun r3 =>
    some (r3.1, r3.2)
  )
theorem d_walk_possible_ok (a0 : T_api_Layout) (a1 : T_api_Step) (r : (Int × Bool)) (h : d_walk_possible a0 a1 = some r) : PCall Go.Proofs.Tryd.prog GlS 48 [Enc.pv a0, Enc.pv a1] (.tup [Enc.pv r.1, Enc.pv r.2]) := by
  unfold d_walk_possible at h
  refine pcall_of_pwp Go.Proofs.Tryd.func48 (by rfl) rfl Go.Proofs.Tryd.ntmps48 (by rfl) rfl ?_
  refine pwp_seq (r_reg ?_)
  refine e_end (by kernel_rfl) ?_
  refine q_next (pwp_seq (pwp_seq (r_reg ?_)))
  refine p_run 3 (by kernel_rfl) ?_
  obtain ⟨r1, h1, h⟩ := o_bind h
  refine p_call (d_walk_exists_ok _ _ r1 h1) (by kernel_rfl) (by kernel_rfl) ?_
  refine e_end (by kernel_rfl) ?_
  refine q_next ?_
  rcases o_cond h with ⟨hb, h⟩ | ⟨hb, h⟩
  · refine r_cond_t hb (by kernel_rfl) ?_
    refine pwp_seq (r_reg ?_)
    refine e_end (by kernel_rfl) ?_
    refine q_next (pwp_ret (q_seq_ret ?_))
    cases h
    exact q_ret (by kernel_rfl) (by kernel_rfl) (by kernel_rfl)
  refine r_cond_f hb (by kernel_rfl) ?_
  refine pwp_skip (q_next (pwp_seq ?_))
  refine r_regd (by kernel_rfl) (by kernel_rfl) ?_
  refine p_run 4 (by kernel_rfl) ?_
  obtain ⟨x2, h2, h⟩ := o_bind h
  refine p_ix h2 (by kernel_rfl) ?_
  refine p_run 6 (by kernel_rfl) ?_
  obtain ⟨r3, h3, h⟩ := o_bind h
  refine p_call (d_rail_Need_ok _ _ _ r3 h3) (by kernel_rfl) (by kernel_rfl) ?_
  refine e_end (by kernel_rfl) ?_
  refine q_next (pwp_ret ?_)
  cases h
  exact q_ret (by kernel_rfl) (by kernel_rfl) (by kernel_rfl)

/-! cmp.isNaN[int] -/
noncomputable def d_cmp_isNaN_int (a0 : Int) : Option Bool :=
  some (!(decide (a0 = a0)))
theorem d_cmp_isNaN_int_ok (a0 : Int) (r : Bool) (h : d_cmp_isNaN_int a0 = some r) : PCall Go.Proofs.Tryd.prog GlS 63 [Enc.pv a0] (Enc.pv r) := by
  unfold d_cmp_isNaN_int at h
  refine pcall_of_pwp Go.Proofs.Tryd.func63 (by rfl) rfl Go.Proofs.Tryd.ntmps63 (by rfl) rfl ?_
  refine pwp_seq (r_reg ?_)
  refine e_end (by kernel_rfl) ?_
  refine q_next (pwp_seq (r_reg ?_))
  refine e_end (by kernel_rfl) ?_
  refine q_next (pwp_ret ?_)
  cases h
  exact q_ret (by kernel_rfl) (by kernel_rfl) (by kernel_rfl)

/-! cmp.Compare[int] -/
noncomputable def d_cmp_Compare_int (a0 : Int) (a1 : Int) : Option Int :=
  (d_cmp_isNaN_int a0).bind fun r1 =>
  (d_cmp_isNaN_int a1).bind fun r2 =>
  bif r1 then (
    bif r2 then (
      some 0
    ) else (
      some (-1)
    )
  ) else (
    bif r2 then (
      some 1
    ) else (
      bif decide (a0 < a1) then (
        some (-1)
      ) else (
        bif decide (a1 < a0) then (
          some 1
        ) else (
          some 0
        )
      )
    )
  )
theorem d_cmp_Compare_int_ok (a0 : Int) (a1 : Int) (r : Int) (h : d_cmp_Compare_int a0 a1 = some r) : PCall Go.Proofs.Tryd.prog GlS 52 [Enc.pv a0, Enc.pv a1] (Enc.pv r) := by
  unfold d_cmp_Compare_int at h
  refine pcall_of_pwp Go.Proofs.Tryd.func52 (by rfl) rfl Go.Proofs.Tryd.ntmps52 (by rfl) rfl ?_
  refine pwp_seq (r_reg ?_)
  refine e_end (by kernel_rfl) ?_
  refine q_next (pwp_seq (r_reg ?_))
  refine p_run 1 (by kernel_rfl) ?_
  obtain ⟨r1, h1, h⟩ := o_bind h
  refine p_call (d_cmp_isNaN_int_ok _ r1 h1) (by kernel_rfl) (by kernel_rfl) ?_
  refine e_end (by kernel_rfl) ?_
  refine q_next (pwp_seq (r_reg ?_))
  refine p_run 1 (by kernel_rfl) ?_
  obtain ⟨r2, h2, h⟩ := o_bind h
  refine p_call (d_cmp_isNaN_int_ok _ r2 h2) (by kernel_rfl) (by kernel_rfl) ?_
  refine e_end (by kernel_rfl) ?_
  refine q_next (pwp_seq (pwp_seq (r_reg ?_)))
  refine e_end (by kernel_rfl) ?_
  refine q_next ?_
  rcases o_cond h with ⟨hb, h⟩ | ⟨hb, h⟩
  · refine r_cond_t hb (by kernel_rfl) ?_
    refine pwp_seq (pwp_seq (r_reg ?_))
    refine e_end (by kernel_rfl) ?_
    refine q_next ?_
    rcases o_cond h with ⟨hb, h⟩ | ⟨hb, h⟩
    · refine r_cond_t hb (by kernel_rfl) ?_
      refine pwp_seq (r_reg ?_)
      refine e_end (by kernel_rfl) ?_
      refine q_next (pwp_ret (q_seq_ret (q_seq_ret ?_)))
      cases h
      exact q_ret (by kernel_rfl) (by kernel_rfl) (by kernel_rfl)
    refine r_cond_f hb (by kernel_rfl) ?_
    refine pwp_skip (q_next (pwp_seq (r_reg ?_)))
    refine e_end (by kernel_rfl) ?_
    refine q_next (pwp_ret (q_seq_ret ?_))
    cases h
    exact q_ret (by kernel_rfl) (by kernel_rfl) (by kernel_rfl)
  refine r_cond_f hb (by kernel_rfl) ?_
  refine pwp_skip (q_next (pwp_seq (pwp_seq (r_reg ?_))))
  refine e_end (by kernel_rfl) ?_
  refine q_next ?_
  rcases o_cond h with ⟨hb, h⟩ | ⟨hb, h⟩
  · refine r_cond_t hb (by kernel_rfl) ?_
    refine pwp_seq (r_reg ?_)
    refine e_end (by kernel_rfl) ?_
    refine q_next (pwp_ret (q_seq_ret ?_))
    cases h
    exact q_ret (by kernel_rfl) (by kernel_rfl) (by kernel_rfl)
  refine r_cond_f hb (by kernel_rfl) ?_
  refine pwp_skip (q_next (pwp_seq (pwp_seq (r_reg ?_))))
  refine e_end (by kernel_rfl) ?_
  refine q_next ?_
  rcases o_cond h with ⟨hb, h⟩ | ⟨hb, h⟩
  · refine r_cond_t hb (by kernel_rfl) ?_
    refine pwp_seq (r_reg ?_)
    refine e_end (by kernel_rfl) ?_
    refine q_next (pwp_ret (q_seq_ret ?_))
    cases h
    exact q_ret (by kernel_rfl) (by kernel_rfl) (by kernel_rfl)
  refine r_cond_f hb (by kernel_rfl) ?_
  refine pwp_skip (q_next (pwp_seq (pwp_seq (r_reg ?_))))
  refine e_end (by kernel_rfl) ?_
  refine q_next ?_
  rcases o_cond h with ⟨hb, h⟩ | ⟨hb, h⟩
  · refine r_cond_t hb (by kernel_rfl) ?_
    refine pwp_seq (r_reg ?_)
    refine e_end (by kernel_rfl) ?_
    refine q_next (pwp_ret (q_seq_ret ?_))
    cases h
    exact q_ret (by kernel_rfl) (by kernel_rfl) (by kernel_rfl)
  refine r_cond_f hb (by kernel_rfl) ?_
  refine pwp_skip (q_next (pwp_seq (r_reg ?_)))
  refine e_end (by kernel_rfl) ?_
  refine q_next (pwp_ret ?_)
  cases h
  exact q_ret (by kernel_rfl) (by kernel_rfl) (by kernel_rfl)

theorem d_cmp_Compare_int_eq (a b : Int) : d_cmp_Compare_int a b = some (if a < b then -1 else if b < a then 1 else 0) := by
  unfold d_cmp_Compare_int d_cmp_isNaN_int
  by_cases h1 : a < b
  · simp [h1]
  · by_cases h2 : b < a <;> simp [h1, h2]

/-! cmp.Or[int] -/
noncomputable def d_cmp_Or_int_0 (a0 : (List Int)) : Int → Option (Int ⊕ (Unit ⊕ Int)) := fun x2 =>
  bif decide (x2 < ((a0.length : Nat) : Int)) then (
    (ixO a0 x2).bind fun x4 =>
    bif (!(decide (x4 = 0))) then (
      some (.inr (.inr x4))
    ) else (
      some (.inl (w64 (x2 + 1)))
    )
  ) else (
    some (.inr (.inl ()))
  )

noncomputable def d_cmp_Or_int (a0 : (List Int)) : Option Int :=
  onInl (α := Unit) (β := Int) (loopO (d_cmp_Or_int_0 a0) 0) fun _ =>
  some 0
theorem d_cmp_Or_int_ok (a0 : (List Int)) (r : Int) (h : d_cmp_Or_int a0 = some r) : PCall Go.Proofs.Tryd.prog GlS 51 [Enc.pv a0] (Enc.pv r) := by
  unfold d_cmp_Or_int at h
  refine pcall_of_pwp Go.Proofs.Tryd.func51 (by rfl) rfl Go.Proofs.Tryd.ntmps51 (by rfl) rfl ?_
  refine pwp_seq (r_reg ?_)
  refine e_end (by kernel_rfl) ?_
  refine q_next (pwp_seq (r_reg ?_))
  refine e_end (by kernel_rfl) ?_
  refine q_next (pwp_seq (pwp_seq (r_reg ?_)))
  refine p_run 1 (by kernel_rfl) ?_
  refine p_len (L := (a0 : (List Int))) (by kernel_rfl) ?_
  refine e_end (by kernel_rfl) ?_
  refine q_next (pwp_block ?_)
  obtain ⟨o6, h6, h⟩ := o_inl h
  refine r_loop2 18 0 (fun x2 => ⟨[(3, .int .i64 0), (6, lstOf .frozen (a0 : (List Int))), (7, .int .i64 ((a0.length : Nat) : Int)), (8, .int .i64 x2)], [], [], []⟩) (fun (_ : Unit) => ⟨[(3, .int .i64 0)], [], [], []⟩) h6 (by kernel_rfl) (fun _ => by kernel_rfl) ?_ ?_
  · rintro x2 oh5 h5
    unfold d_cmp_Or_int_0 at h5
    refine pwp_seq (r_reg ?_)
    refine e_end (by kernel_rfl) ?_
    refine q_next (pwp_seq ?_)
    rcases o_cond h5 with ⟨hb, h5⟩ | ⟨hb, h5⟩
    · refine r_cond_t hb (by kernel_rfl) ?_
      refine pwp_skip (q_next (pwp_seq (pwp_block (pwp_seq (r_reg ?_)))))
      obtain ⟨x4, h7, h5⟩ := o_bind h5
      refine p_ix h7 (by kernel_rfl) ?_
      refine e_end (by kernel_rfl) ?_
      refine q_next (pwp_seq (r_reg ?_))
      refine e_end (by kernel_rfl) ?_
      refine q_next ?_
      rcases o_cond h5 with ⟨hb, h5⟩ | ⟨hb, h5⟩
      · refine r_cond_t hb (by kernel_rfl) ?_
        refine pwp_seq (r_reg ?_)
        refine e_end (by kernel_rfl) ?_
        refine q_next (pwp_ret (q_block_ret (q_seq_ret ?_)))
        cases h5
        refine q_lout_ret fun he => ?_
        subst he
        have h8 := o_outr h
        refine q_block_ret (q_seq_ret ?_)
        cases h8
        exact q_ret (by kernel_rfl) (by kernel_rfl) (by kernel_rfl)
      refine r_cond_f hb (by kernel_rfl) ?_
      refine pwp_skip (q_block (q_next (r_reg ?_)))
      refine e_end (by kernel_rfl) ?_
      cases h5
      exact q_lback (by kernel_rfl)
    refine r_cond_f hb (by kernel_rfl) ?_
    refine pwp_exit (q_seq_exit ?_)
    cases h5
    exact q_lexit (by kernel_rfl) (by kernel_rfl)
  rintro _ s' rfl hs
  have h := o_outl h
  refine q_block_hit ?_
  refine q_next (pwp_wkr hs ?_)
  refine pwp_seq (r_reg ?_)
  refine e_end (by kernel_rfl) ?_
  refine q_next (pwp_ret ?_)
  cases h
  exact q_ret (by kernel_rfl) (by kernel_rfl) (by kernel_rfl)

theorem d_cmp_Or_int_two (a b : Int) : d_cmp_Or_int [a, b] = some (if a = 0 then b else a) := by
  unfold d_cmp_Or_int
  by_cases h1 : a = 0
  · subst h1
    have e0 : d_cmp_Or_int_0 [0, b] 0 = some (.inl 1) := by simp [d_cmp_Or_int_0, ixO, w64, IntKind.wrap, IntKind.bits, IntKind.signed]
    rw [loop_more e0]
    by_cases h2 : b = 0
    · have e1 : d_cmp_Or_int_0 [0, b] 1 = some (.inl 2) := by simp [d_cmp_Or_int_0, ixO, w64, IntKind.wrap, IntKind.bits, IntKind.signed, h2]
      have e2 : d_cmp_Or_int_0 [0, b] 2 = some (.inr (.inl ())) := by simp [d_cmp_Or_int_0]
      rw [loop_more e1, loop_done e2]
      simp [onInl, onOut, h2]
    · have e1 : d_cmp_Or_int_0 [0, b] 1 = some (.inr (.inr b)) := by simp [d_cmp_Or_int_0, ixO, h2]
      rw [loop_done e1]
      simp [onInl, onOut]
  · have e0 : d_cmp_Or_int_0 [a, b] 0 = some (.inr (.inr a)) := by simp [d_cmp_Or_int_0, ixO, h1]
    rw [loop_done e0]
    simp [onInl, onOut, h1]

/-! walk.Settings$1 -/
noncomputable def d_walk_Settings_1 (a0 : T_api_Setting) (a1 : T_api_Setting) : Option Int :=
  (d_cmp_Compare_int a0.El a1.El).bind fun r1 =>
  (d_cmp_Compare_int a0.Pos a1.Pos).bind fun r2 =>
  (d_cmp_Or_int [r1, r2]).bind fun r3 =>
  some r3
theorem d_walk_Settings_1_ok (a0 : T_api_Setting) (a1 : T_api_Setting) (r : Int) (h : d_walk_Settings_1 a0 a1 = some r) : PCall Go.Proofs.Tryd.prog GlS 50 [Enc.pv a0, Enc.pv a1] (Enc.pv r) := by
  unfold d_walk_Settings_1 at h
  refine pcall_of_pwp Go.Proofs.Tryd.func50 (by rfl) rfl Go.Proofs.Tryd.ntmps50 (by rfl) rfl ?_
  refine pwp_seq (r_reg ?_)
  refine e_end (by kernel_rfl) ?_
  refine q_next (pwp_seq ?_)
  refine r_regd (by kernel_rfl) (by kernel_rfl) ?_
  refine p_run 4 (by kernel_rfl) ?_
  obtain ⟨r1, h1, h⟩ := o_bind h
  refine p_call (d_cmp_Compare_int_ok _ _ r1 h1) (by kernel_rfl) (by kernel_rfl) ?_
  refine p_run 4 (by kernel_rfl) ?_
  obtain ⟨r2, h2, h⟩ := o_bind h
  refine p_call (d_cmp_Compare_int_ok _ _ r2 h2) (by kernel_rfl) (by kernel_rfl) ?_
  refine p_run 1 (by kernel_rfl) ?_
  obtain ⟨r3, h3, h⟩ := o_bind h
  refine p_call (d_cmp_Or_int_ok _ r3 h3) (by kernel_rfl) (by kernel_rfl) ?_
  refine e_end (by kernel_rfl) ?_
  refine q_next (pwp_ret ?_)
  cases h
  exact q_ret (by kernel_rfl) (by kernel_rfl) (by kernel_rfl)

def cf_d_walk_Settings_1 (x y : T_api_Setting) : Int := if x.El < y.El then -1 else if y.El < x.El then 1 else if x.Pos < y.Pos then -1 else if y.Pos < x.Pos then 1 else 0
theorem lt_d_walk_Settings_1 (x y : T_api_Setting) : Go.Proofs.ltOf cf_d_walk_Settings_1 x y = decide (x.El < y.El ∨ (x.El = y.El ∧ x.Pos < y.Pos)) := by
  unfold Go.Proofs.ltOf cf_d_walk_Settings_1
  by_cases h1 : x.El < y.El
  · simp [h1]
  · by_cases h2 : y.El < x.El
    · have : x.El ≠ y.El := by omega
      simp [h1, h2, this]
    · have e : x.El = y.El := by omega
      by_cases h3 : x.Pos < y.Pos
      · simp [e, h3]
      · by_cases h4 : y.Pos < x.Pos <;> simp [e, h3, h4]
theorem swo_d_walk_Settings_1 : Go.Sort.SWO (Go.Proofs.ltOf cf_d_walk_Settings_1) where
  irrefl x := by rw [lt_d_walk_Settings_1]; simp
  trans x y z h1 h2 := by rw [lt_d_walk_Settings_1] at *; simp only [decide_eq_true_eq] at *; omega
  ntrans x y z h1 h2 := by rw [lt_d_walk_Settings_1] at *; simp only [decide_eq_false_iff_not] at *; omega
theorem tot_d_walk_Settings_1 (x y : T_api_Setting) (h1 : Go.Proofs.ltOf cf_d_walk_Settings_1 x y = false) (h2 : Go.Proofs.ltOf cf_d_walk_Settings_1 y x = false) : x = y := by
  rw [lt_d_walk_Settings_1] at h1 h2
  simp only [decide_eq_false_iff_not] at h1 h2
  obtain ⟨a, b⟩ := x
  obtain ⟨c, d⟩ := y
  simp only at h1 h2
  have e1 : a = c := by omega
  have e2 : b = d := by omega
  rw [e1, e2]
theorem cf_d_walk_Settings_1_eq (x y : T_api_Setting) : d_walk_Settings_1 x y = some (cf_d_walk_Settings_1 x y) := by
  unfold d_walk_Settings_1
  rw [d_cmp_Compare_int_eq, d_cmp_Compare_int_eq]
  simp only [Option.bind_some, d_cmp_Or_int_two]
  unfold cf_d_walk_Settings_1
  by_cases h1 : x.El < y.El
  · simp [h1]
  · by_cases h2 : y.El < x.El
    · simp [h1, h2]
    · simp [h1, h2]

/-! slices.SortFunc[[]api.Setting,api.Setting] (the shelf's contract) -/
noncomputable def d_slices_SortFunc_api_Setting__walk_Settings_1 (a0 : (List T_api_Setting)) : Option (List T_api_Setting) := some (a0.mergeSort fun x y => !(Go.Proofs.ltOf cf_d_walk_Settings_1 y x))
theorem d_slices_SortFunc_api_Setting__walk_Settings_1_xc (a0 : (List T_api_Setting)) (r : (List T_api_Setting)) (h : d_slices_SortFunc_api_Setting__walk_Settings_1 a0 = some r) : XCall Go.Proofs.Tryd.prog GlS 49 2 16 (a0.map cellsOf) [.fn 50 []] none (r.map cellsOf) := by
  cases h
  exact xcall_sort (α := T_api_Setting) Go.Proofs.Tryd.sort49 Go.Proofs.Tryd.isAgg49 Go.Proofs.Tryd.sizeOf49 (fun _ => rfl) (fun _ => rfl) (fun _ => rfl) (by decide) cf_d_walk_Settings_1 swo_d_walk_Settings_1 tot_d_walk_Settings_1 50 (fun x y => d_walk_Settings_1_ok x y _ (cf_d_walk_Settings_1_eq x y)) ⟨_, Go.Proofs.Tryd.func49, rfl, rfl⟩ a0

/-! slices.Compact[[]api.Setting,api.Setting] -/
noncomputable def d_slices_Compact_api_Setting_1 (a0 : (List T_api_Setting)) (p140 : Nat × Nat) : (Int × Int × (List T_api_Setting)) → Option ((Int × Int × (List T_api_Setting)) ⊕ (((List T_api_Setting) × Int) ⊕ (Int ⊕ (Unit ⊕ ((List T_api_Setting) × Nat))))) := fun (x159, x160, x161) =>
  bif decide (x160 < (((p140.2 - p140.1) : Nat) : Int)) then (
    onInl (α := ((List T_api_Setting) × Int)) (β := ((Int × Int × (List T_api_Setting)) ⊕ (((List T_api_Setting) × Int) ⊕ (Int ⊕ (Unit ⊕ ((List T_api_Setting) × Nat)))))) (
      (xixO (0 + p140.1) (p140.2 - p140.1) x160).bind fun j192 =>
      (xldO x161 (((a0 : (List T_api_Setting)).map cellsOf).length) j192).bind fun x193 =>
      (xixO (0 + p140.1) (p140.2 - p140.1) (w64 (x160 - 1))).bind fun j194 =>
      (xldO x161 (((a0 : (List T_api_Setting)).map cellsOf).length) j194).bind fun x195 =>
      bif (!(eq_T_api_Setting x193 x195)) then (
        (xixO (0 + p140.1) (p140.2 - p140.1) x160).bind fun j196 =>
        (xldO x161 (((a0 : (List T_api_Setting)).map cellsOf).length) j196).bind fun x197 =>
        (xixO 0 (((a0 : (List T_api_Setting)).map cellsOf).length) x159).bind fun j198 =>
        (xldO x161 (((a0 : (List T_api_Setting)).map cellsOf).length) j198).bind fun x199 =>
        some (.inl ((x161.set j198 x197), w64 (x159 + 1)))
      ) else (
        some (.inl (x161, x159))
      )
    ) fun (x190, x191) =>
    some (.inl (x191, w64 (x160 + 1), x190))
  ) else (
    some (.inr (.inl (x161, x159)))
  )

noncomputable def d_slices_Compact_api_Setting_0 (a0 : (List T_api_Setting)) : Int → Option (Int ⊕ (Unit ⊕ ((List T_api_Setting) × Nat))) := fun x68 =>
  bif decide (x68 < ((((a0 : (List T_api_Setting)).map cellsOf).length : Nat) : Int)) then (
    (xixO 0 (((a0 : (List T_api_Setting)).map cellsOf).length) x68).bind fun j136 =>
    (xldO a0 (((a0 : (List T_api_Setting)).map cellsOf).length) j136).bind fun x137 =>
    (xixO 0 (((a0 : (List T_api_Setting)).map cellsOf).length) (w64 (x68 - 1))).bind fun j138 =>
    (xldO a0 (((a0 : (List T_api_Setting)).map cellsOf).length) j138).bind fun x139 =>
    bif eq_T_api_Setting x137 x139 then (
      (xslO (((a0 : (List T_api_Setting)).map cellsOf).length) (some x68) none).bind fun p140 =>
      onInl (α := ((List T_api_Setting) × Int)) (β := (Int ⊕ (Unit ⊕ ((List T_api_Setting) × Nat)))) (loopO (d_slices_Compact_api_Setting_1 a0 p140) (x68, 1, a0)) fun (x180, x181) =>
      (xslO (((a0 : (List T_api_Setting)).map cellsOf).length) (some x181) none).bind fun p200 =>
      (xclrO x180 (((a0 : (List T_api_Setting)).map cellsOf).length) (0 + p200.1) (p200.2 - p200.1) ((T_api_Setting.mk 0 0) : T_api_Setting)).bind fun x201 =>
      (xslhO (((a0 : (List T_api_Setting)).map cellsOf).length) x181).bind fun m202 =>
      some (.inr (.inr (x201, m202)))
    ) else (
      some (.inl (w64 (x68 + 1)))
    )
  ) else (
    some (.inr (.inl ()))
  )

noncomputable def d_slices_Compact_api_Setting (a0 : (List T_api_Setting)) : Option ((List T_api_Setting) × Nat) :=
  bif decide (((((a0 : (List T_api_Setting)).map cellsOf).length : Nat) : Int) < 2) then (
    some (a0, ((a0 : (List T_api_Setting)).map cellsOf).length)
  ) else (
    onInl (α := Unit) (β := ((List T_api_Setting) × Nat)) (loopO (d_slices_Compact_api_Setting_0 a0) 1) fun _ =>
    some (a0, ((a0 : (List T_api_Setting)).map cellsOf).length)
  )
theorem d_slices_Compact_api_Setting_xc (a0 : (List T_api_Setting)) (r : ((List T_api_Setting) × Nat)) (h : d_slices_Compact_api_Setting a0 = some r) : XCall Go.Proofs.Tryd.prog GlS 53 2 16 (a0.map cellsOf) [] (some r.2) (r.1.map cellsOf) := by
  unfold d_slices_Compact_api_Setting at h
  refine xcall_of_pwpW Go.Proofs.Tryd.func53 (by rfl) rfl Go.Proofs.Tryd.ntmps53 (by rfl) rfl ?_
  refine pwp_seq (r_reg ?_)
  refine e_end (by kernel_rfl) ?_
  refine q_next (pwp_seq (pwp_seq (r_reg ?_)))
  refine e_end (by kernel_rfl) ?_
  refine q_next ?_
  rcases o_cond h with ⟨hb, h⟩ | ⟨hb, h⟩
  · refine r_cond_t hb (by kernel_rfl) ?_
    refine pwp_seq (r_reg ?_)
    refine e_end (by kernel_rfl) ?_
    refine q_next (pwp_ret (q_seq_ret ?_))
    cases h
    exact q_xretW (by kernel_rfl)
  refine r_cond_f hb (by kernel_rfl) ?_
  refine pwp_skip (q_next (pwp_seq (pwp_seq (r_reg ?_))))
  refine e_end (by kernel_rfl) ?_
  refine q_next (pwp_block ?_)
  obtain ⟨o126, h126, h⟩ := o_inl h
  refine r_loop2 61 0 (fun x68 => ⟨[(0, .ex 1000000000 2 16 (((a0 : (List T_api_Setting)).map cellsOf).length) 0 (((a0 : (List T_api_Setting)).map cellsOf).length)), (3, .int .i64 x68)], [], [(1000000000, (((a0 : (List T_api_Setting)).map cellsOf).length, 0))], [(1000000000, (2, (16, (a0 : (List T_api_Setting)).map cellsOf)))]⟩) (fun (_ : Unit) => ⟨[(0, .ex 1000000000 2 16 (((a0 : (List T_api_Setting)).map cellsOf).length) 0 (((a0 : (List T_api_Setting)).map cellsOf).length))], [], [(1000000000, (((a0 : (List T_api_Setting)).map cellsOf).length, 0))], [(1000000000, (2, (16, (a0 : (List T_api_Setting)).map cellsOf)))]⟩) h126 (by kernel_rfl) (fun _ => by kernel_rfl) ?_ ?_
  · rintro x68 oh125 h125
    unfold d_slices_Compact_api_Setting_0 at h125
    refine pwp_seq (pwp_seq (r_reg ?_))
    refine e_end (by kernel_rfl) ?_
    refine q_next ?_
    rcases o_cond h125 with ⟨hb, h125⟩ | ⟨hb, h125⟩
    · refine r_cond_t hb (by kernel_rfl) ?_
      refine pwp_skip (q_next (pwp_seq (pwp_block (pwp_seq ?_))))
      refine r_regd (by kernel_rfl) (by kernel_rfl) ?_
      refine p_run 2 (by kernel_rfl) ?_
      obtain ⟨j136, h127, h125⟩ := o_bind h125
      refine p_xix (tk := 1000000000) (k := 2) (N := ((a0 : (List T_api_Setting)).map cellsOf).length) h127 (by kernel_rfl) ?_
      obtain ⟨x137, h128, h125⟩ := o_bind h125
      refine p_xld (L := (a0 : (List T_api_Setting))) (N := ((a0 : (List T_api_Setting)).map cellsOf).length) (j := j136) (y := x137) (v := Enc.pv x137) h128 true 2 0 (by kernel_rfl) (by kernel_rfl) ?_
      refine p_run 3 (by kernel_rfl) ?_
      obtain ⟨j138, h129, h125⟩ := o_bind h125
      refine p_xix (tk := 1000000000) (k := 2) (N := ((a0 : (List T_api_Setting)).map cellsOf).length) h129 (by kernel_rfl) ?_
      obtain ⟨x139, h130, h125⟩ := o_bind h125
      refine p_xld (L := (a0 : (List T_api_Setting))) (N := ((a0 : (List T_api_Setting)).map cellsOf).length) (j := j138) (y := x139) (v := Enc.pv x139) h130 true 2 0 (by kernel_rfl) (by kernel_rfl) ?_
      refine e_end (by kernel_rfl) ?_
      refine q_next ?_
      rcases o_cond h125 with ⟨hb, h125⟩ | ⟨hb, h125⟩
      · refine r_cond_t hb (by kernel_rfl) ?_
        refine pwp_seq (r_reg ?_)
        refine p_run 2 (by kernel_rfl) ?_
        obtain ⟨p140, h131, h125⟩ := o_bind h125
        refine p_xsl (tk := 1000000000) (k := 2) (b := 16) (N := ((a0 : (List T_api_Setting)).map cellsOf).length) (o := 0) (lo := (some x68)) (hi := none) h131 (by kernel_rfl) ?_
        refine e_end (by kernel_rfl) ?_
        refine q_next (pwp_seq (pwp_seq (r_reg ?_)))
        refine e_end (by kernel_rfl) ?_
        refine q_next (pwp_block ?_)
        obtain ⟨o167, h167, h125⟩ := o_inl h125
        refine r_loop2 61 2 (fun (x159, x160, x161) => ⟨[(0, .ex 1000000000 2 16 (((a0 : (List T_api_Setting)).map cellsOf).length) 0 (((a0 : (List T_api_Setting)).map cellsOf).length)), (3, .int .i64 x159), (4, .ex 1000000000 2 16 (((a0 : (List T_api_Setting)).map cellsOf).length) (0 + p140.1) (p140.2 - p140.1)), (5, .int .i64 x160)], [], [(1000000000, (((a0 : (List T_api_Setting)).map cellsOf).length, 0))], [(1000000000, (2, (16, (x161 : (List T_api_Setting)).map cellsOf)))]⟩) (fun (x180, x181) => ⟨[(0, .ex 1000000000 2 16 (((a0 : (List T_api_Setting)).map cellsOf).length) 0 (((a0 : (List T_api_Setting)).map cellsOf).length)), (3, .int .i64 x181)], [], [(1000000000, (((a0 : (List T_api_Setting)).map cellsOf).length, 0))], [(1000000000, (2, (16, (x180 : (List T_api_Setting)).map cellsOf)))]⟩) h167 (by kernel_rfl) (fun _ => by kernel_rfl) ?_ ?_
        · rintro ⟨x159, x160, x161⟩ oh166 h166
          unfold d_slices_Compact_api_Setting_1 at h166
          refine pwp_seq (pwp_seq (r_reg ?_))
          refine e_end (by kernel_rfl) ?_
          refine q_next ?_
          rcases o_cond h166 with ⟨hb, h166⟩ | ⟨hb, h166⟩
          · refine r_cond_t hb (by kernel_rfl) ?_
            refine pwp_skip (q_next ?_)
            obtain ⟨o176, h176, h166⟩ := o_inl h166
            refine r_join (o := o176) 61 (fun (x190, x191) => ⟨[(0, .ex 1000000000 2 16 (((a0 : (List T_api_Setting)).map cellsOf).length) 0 (((a0 : (List T_api_Setting)).map cellsOf).length)), (3, .int .i64 x191), (4, .ex 1000000000 2 16 (((a0 : (List T_api_Setting)).map cellsOf).length) (0 + p140.1) (p140.2 - p140.1)), (5, .int .i64 x160)], [], [(1000000000, (((a0 : (List T_api_Setting)).map cellsOf).length, 0))], [(1000000000, (2, (16, (x190 : (List T_api_Setting)).map cellsOf)))]⟩) ?_ ?_
            · refine pwp_block (pwp_seq ?_)
              refine r_regd (by kernel_rfl) (by kernel_rfl) ?_
              refine p_run 2 (by kernel_rfl) ?_
              obtain ⟨j192, h177, h176⟩ := o_bind h176
              refine p_xix (tk := 1000000000) (k := 2) (N := ((a0 : (List T_api_Setting)).map cellsOf).length) h177 (by kernel_rfl) ?_
              obtain ⟨x193, h178, h176⟩ := o_bind h176
              refine p_xld (L := (x161 : (List T_api_Setting))) (N := ((a0 : (List T_api_Setting)).map cellsOf).length) (j := j192) (y := x193) (v := Enc.pv x193) h178 true 2 0 (by kernel_rfl) (by kernel_rfl) ?_
              refine p_run 3 (by kernel_rfl) ?_
              obtain ⟨j194, h179, h176⟩ := o_bind h176
              refine p_xix (tk := 1000000000) (k := 2) (N := ((a0 : (List T_api_Setting)).map cellsOf).length) h179 (by kernel_rfl) ?_
              obtain ⟨x195, h180, h176⟩ := o_bind h176
              refine p_xld (L := (x161 : (List T_api_Setting))) (N := ((a0 : (List T_api_Setting)).map cellsOf).length) (j := j194) (y := x195) (v := Enc.pv x195) h180 true 2 0 (by kernel_rfl) (by kernel_rfl) ?_
              refine e_end (by kernel_rfl) ?_
              refine q_next ?_
              rcases o_cond h176 with ⟨hb, h176⟩ | ⟨hb, h176⟩
              · refine r_cond_t hb (by kernel_rfl) ?_
                refine pwp_seq (r_reg ?_)
                refine p_run 4 (by kernel_rfl) ?_
                obtain ⟨j196, h181, h176⟩ := o_bind h176
                refine p_xix (tk := 1000000000) (k := 2) (N := ((a0 : (List T_api_Setting)).map cellsOf).length) h181 (by kernel_rfl) ?_
                obtain ⟨x197, h182, h176⟩ := o_bind h176
                refine p_xld (L := (x161 : (List T_api_Setting))) (N := ((a0 : (List T_api_Setting)).map cellsOf).length) (j := j196) (y := x197) (v := Enc.pv x197) h182 true 2 0 (by kernel_rfl) (by kernel_rfl) ?_
                obtain ⟨j198, h183, h176⟩ := o_bind h176
                refine p_xix (tk := 1000000000) (k := 2) (N := ((a0 : (List T_api_Setting)).map cellsOf).length) h183 (by kernel_rfl) ?_
                obtain ⟨x199, h184, h176⟩ := o_bind h176
                refine p_xst (L := (x161 : (List T_api_Setting))) (tk := 1000000000) (N := ((a0 : (List T_api_Setting)).map cellsOf).length) (j := j198) (y := x199) (y' := x197) h184 0 2 [.int .i64 x197.El, .int .i64 x197.Pos] (by kernel_rfl) (by kernel_rfl) ?_
                refine e_nil (by kernel_rfl) ?_
                refine q_next (r_reg ?_)
                refine e_end (by kernel_rfl) ?_
                refine q_block ?_
                cases h176
                exact q_join (by kernel_rfl) (by kernel_rfl)
              refine r_cond_f hb (by kernel_rfl) ?_
              refine pwp_skip (q_block ?_)
              cases h176
              exact q_join (by kernel_rfl) (by kernel_rfl)
            rintro ⟨x190, x191⟩ rfl
            have h166 := o_outl h166
            refine r_reg ?_
            refine e_end (by kernel_rfl) ?_
            cases h166
            exact q_lback (by kernel_rfl)
          refine r_cond_f hb (by kernel_rfl) ?_
          refine pwp_exit (q_seq_exit ?_)
          cases h166
          exact q_lexit (by kernel_rfl) (by kernel_rfl)
        rintro ⟨x180, x181⟩ s' rfl hs
        have h125 := o_outl h125
        refine q_block_hit ?_
        refine q_next (pwp_wkr hs ?_)
        refine pwp_seq (r_reg ?_)
        refine p_run 2 (by kernel_rfl) ?_
        obtain ⟨p200, h185, h125⟩ := o_bind h125
        refine p_xsl (tk := 1000000000) (k := 2) (b := 16) (N := ((a0 : (List T_api_Setting)).map cellsOf).length) (o := 0) (lo := (some x181)) (hi := none) h185 (by kernel_rfl) ?_
        obtain ⟨x201, h186, h125⟩ := o_bind h125
        refine p_xclr (L := (x180 : (List T_api_Setting))) (tk := 1000000000) (N := ((a0 : (List T_api_Setting)).map cellsOf).length) (z := ((T_api_Setting.mk 0 0) : T_api_Setting)) h186 (by kernel_rfl) (by kernel_rfl) (by kernel_rfl) rfl ?_
        refine e_nil (by kernel_rfl) ?_
        refine q_next (pwp_seq (r_reg ?_))
        refine p_run 2 (by kernel_rfl) ?_
        obtain ⟨m202, h187, h125⟩ := o_bind h125
        refine p_xslh (tk := 1000000000) (k := 2) (b := 16) (N := ((a0 : (List T_api_Setting)).map cellsOf).length) (o := 0) h187 (by kernel_rfl) ?_
        refine e_end (by kernel_rfl) ?_
        refine q_next (pwp_ret (q_block_ret (q_seq_ret ?_)))
        cases h125
        refine q_lout_ret fun he => ?_
        subst he
        have h188 := o_outr h
        refine q_block_ret (q_seq_ret ?_)
        cases h188
        exact q_xretW (by kernel_rfl)
      refine r_cond_f hb (by kernel_rfl) ?_
      refine pwp_skip (q_block (q_next (r_reg ?_)))
      refine e_end (by kernel_rfl) ?_
      cases h125
      exact q_lback (by kernel_rfl)
    refine r_cond_f hb (by kernel_rfl) ?_
    refine pwp_exit (q_seq_exit ?_)
    cases h125
    exact q_lexit (by kernel_rfl) (by kernel_rfl)
  rintro _ s' rfl hs
  have h := o_outl h
  refine q_block_hit ?_
  refine q_next (pwp_wkr hs ?_)
  refine pwp_seq (r_reg ?_)
  refine e_end (by kernel_rfl) ?_
  refine q_next (pwp_ret ?_)
  cases h
  exact q_xretW (by kernel_rfl)

/-! walk.Settings -/
noncomputable def d_walk_Settings_0 (a0 : T_api_Layout) (a1 : (List T_api_Step)) : (Int × (List T_api_Setting)) → Option ((Int × (List T_api_Setting)) ⊕ ((List T_api_Setting) ⊕ (List T_api_Setting))) := fun (x24, x25) =>
  bif decide (x24 < ((a1.length : Nat) : Int)) then (
    onInl (α := (List T_api_Setting)) (β := ((Int × (List T_api_Setting)) ⊕ ((List T_api_Setting) ⊕ (List T_api_Setting)))) (
      (ixO a1 x24).bind fun x44 =>
      (d_walk_possible a0 x44).bind fun r45 =>
      ((bif r45.2 then (
        (ixO a0.Elements x44.El).bind fun x47 =>
        some (decide (x47.Kind = 2))
      ) else some false) : Option Bool).bind fun b46 =>
      bif b46 then (
        (appO x25 [(T_api_Setting.mk x44.El r45.1)]).bind fun x48 =>
        some (.inl x48)
      ) else (
        some (.inl x25)
      )
    ) fun x43 =>
    some (.inl (w64 (x24 + 1), x43))
  ) else (
    some (.inr (.inl x25))
  )

noncomputable def d_walk_Settings (a0 : T_api_Layout) (a1 : (List T_api_Step)) : Option (List T_api_Setting) :=
  onInl (α := (List T_api_Setting)) (β := (List T_api_Setting)) (loopO (d_walk_Settings_0 a0 a1) (0, ([] : (List T_api_Setting)))) fun x37 =>
  (d_slices_SortFunc_api_Setting__walk_Settings_1 x37).bind fun r49 =>
  (d_slices_Compact_api_Setting r49).bind fun r50 =>
  some (r50.1.take r50.2)
theorem d_walk_Settings_ok (a0 : T_api_Layout) (a1 : (List T_api_Step)) (r : (List T_api_Setting)) (h : d_walk_Settings a0 a1 = some r) : PCall Go.Proofs.Tryd.prog GlS 33 [Enc.pv a0, Enc.pv a1] (Enc.pv r) := by
  unfold d_walk_Settings at h
  refine pcall_of_pwp Go.Proofs.Tryd.func33 (by rfl) rfl Go.Proofs.Tryd.ntmps33 (by rfl) rfl ?_
  refine pwp_seq (r_reg ?_)
  refine e_end (by kernel_rfl) ?_
  refine q_next (pwp_seq (r_reg ?_))
  refine e_end (by kernel_rfl) ?_
  refine q_next (pwp_seq (pwp_seq (r_reg ?_)))
  refine p_run 1 (by kernel_rfl) ?_
  refine p_len (L := (a1 : (List T_api_Step))) (by kernel_rfl) ?_
  refine e_end (by kernel_rfl) ?_
  refine q_next (pwp_block ?_)
  refine pwp_wkr (wkr_nilX 5 100005 2 16 (by kernel_rfl) (by kernel_rfl)) ?_
  obtain ⟨o35, h35, h⟩ := o_inl h
  refine r_loop2 45 0 (fun (x24, x25) => ⟨[(2, .ref 2 0), (5, .ex 100005 2 16 (((x25 : (List T_api_Setting)).map cellsOf).length) 0 (((x25 : (List T_api_Setting)).map cellsOf).length)), (10, lstOf .frozen (a1 : (List T_api_Step))), (11, .int .i64 ((a1.length : Nat) : Int)), (12, .int .i64 x24)], [(2, .cells (cellsOf a0))], [(100005, (((x25 : (List T_api_Setting)).map cellsOf).length, 0))], [(100005, (2, (16, (x25 : (List T_api_Setting)).map cellsOf)))]⟩) (fun x37 => ⟨[(5, .ex 100005 2 16 (((x37 : (List T_api_Setting)).map cellsOf).length) 0 (((x37 : (List T_api_Setting)).map cellsOf).length))], [], [(100005, (((x37 : (List T_api_Setting)).map cellsOf).length, 0))], [(100005, (2, (16, (x37 : (List T_api_Setting)).map cellsOf)))]⟩) h35 (by kernel_rfl) (fun _ => by kernel_rfl) ?_ ?_
  · rintro ⟨x24, x25⟩ oh34 h34
    unfold d_walk_Settings_0 at h34
    refine pwp_seq (r_reg ?_)
    refine e_end (by kernel_rfl) ?_
    refine q_next (pwp_seq ?_)
    rcases o_cond h34 with ⟨hb, h34⟩ | ⟨hb, h34⟩
    · refine r_cond_t hb (by kernel_rfl) ?_
      refine pwp_skip (q_next ?_)
      obtain ⟨o41, h41, h34⟩ := o_inl h34
      refine r_join (o := o41) 45 (fun x43 => ⟨[(2, .ref 2 0), (5, .ex 100005 2 16 (((x43 : (List T_api_Setting)).map cellsOf).length) 0 (((x43 : (List T_api_Setting)).map cellsOf).length)), (10, lstOf .frozen (a1 : (List T_api_Step))), (11, .int .i64 ((a1.length : Nat) : Int)), (12, .int .i64 x24)], [(2, .cells (cellsOf a0))], [(100005, (((x43 : (List T_api_Setting)).map cellsOf).length, 0))], [(100005, (2, (16, (x43 : (List T_api_Setting)).map cellsOf)))]⟩) ?_ ?_
      · refine pwp_block (pwp_seq (r_reg ?_))
        obtain ⟨x44, h42, h41⟩ := o_bind h41
        refine p_ix h42 (by kernel_rfl) ?_
        refine e_end (by kernel_rfl) ?_
        refine q_next (pwp_seq (r_reg ?_))
        refine p_run 2 (by kernel_rfl) ?_
        obtain ⟨r45, h43, h41⟩ := o_bind h41
        refine p_call (d_walk_possible_ok _ _ r45 h43) (by kernel_rfl) (by kernel_rfl) ?_
        refine e_end (by kernel_rfl) ?_
        refine q_next (pwp_seq (r_reg ?_))
        obtain ⟨b46, h44, h41⟩ := o_bind h41
        refine p_run 2 (by kernel_rfl) ?_
        refine e_seg 9 32 (.bool b46) ?_ ?_
        · rcases o_cond h44 with ⟨hb, h44⟩ | ⟨hb, h44⟩
          · refine p_settle 23 hb (by kernel_rfl) (by kernel_rfl) ?_
            refine p_run 4 (by kernel_rfl) ?_
            obtain ⟨x47, h45, h44⟩ := o_bind h44
            refine p_ix h45 (by kernel_rfl) ?_
            cases h44
            exact f_end (by kernel_rfl) (by kernel_rfl)
          refine p_settle 23 hb (by kernel_rfl) (by kernel_rfl) ?_
          cases h44
          exact f_end (by kernel_rfl) (by kernel_rfl)
        refine e_nil (by kernel_rfl) ?_
        refine q_next ?_
        rcases o_cond h41 with ⟨hb, h41⟩ | ⟨hb, h41⟩
        · refine r_cond_t hb (by kernel_rfl) ?_
          refine r_reg ?_
          refine p_run 6 (by kernel_rfl) ?_
          obtain ⟨x48, h46, h41⟩ := o_bind h41
          refine p_xapp (tk := 100005) (N := ((x25 : (List T_api_Setting)).map cellsOf).length) h46 (by kernel_rfl) (by kernel_rfl) (by kernel_rfl) ?_
          refine e_end (by kernel_rfl) ?_
          refine q_block ?_
          cases h41
          exact q_join (by kernel_rfl) (by kernel_rfl)
        refine r_cond_f hb (by kernel_rfl) ?_
        refine pwp_skip (q_block ?_)
        cases h41
        exact q_join (by kernel_rfl) (by kernel_rfl)
      rintro x43 rfl
      have h34 := o_outl h34
      refine r_reg ?_
      refine e_end (by kernel_rfl) ?_
      cases h34
      exact q_lback (by kernel_rfl)
    refine r_cond_f hb (by kernel_rfl) ?_
    refine pwp_exit (q_seq_exit ?_)
    cases h34
    exact q_lexit (by kernel_rfl) (by kernel_rfl)
  rintro x37 s' rfl hs
  have h := o_outl h
  refine q_block_hit ?_
  refine q_next (pwp_wkr hs ?_)
  refine pwp_seq (r_reg ?_)
  refine p_run 1 (by kernel_rfl) ?_
  obtain ⟨r49, h47, h⟩ := o_bind h
  refine p_xcall (t := 100005) (L := (x37 : (List T_api_Setting))) (L' := (r49 : (List T_api_Setting))) (N := ((x37 : (List T_api_Setting)).map cellsOf).length) (by kernel_rfl) (by kernel_rfl) (by kernel_rfl) (d_slices_SortFunc_api_Setting__walk_Settings_1_xc _ r49 h47) ?_
  refine e_nil (by kernel_rfl) ?_
  refine q_next (pwp_seq (r_reg ?_))
  refine p_run 1 (by kernel_rfl) ?_
  obtain ⟨r50, h48, h⟩ := o_bind h
  refine p_xcallS (t := 100005) (L := (r49 : (List T_api_Setting))) (L' := (r50.1 : (List T_api_Setting))) (m := r50.2) (N := ((x37 : (List T_api_Setting)).map cellsOf).length) (by kernel_rfl) (by kernel_rfl) (by kernel_rfl) (d_slices_Compact_api_Setting_xc _ r50 h48) ?_
  refine e_end (by kernel_rfl) ?_
  refine q_next (pwp_ret ?_)
  cases h
  exact q_ret (by kernel_rfl) (by kernel_rfl) (by kernel_rfl)

/-! walk.Sections -/
noncomputable def d_walk_Sections_0 (a0 : T_api_Layout) (a1 : (List T_api_Step)) : (Int × (List (Int × Bool)) × (List Int)) → Option ((Int × (List (Int × Bool)) × (List Int)) ⊕ ((List Int) ⊕ (List Int))) := fun (x23, x24, x25) =>
  bif decide (x23 < ((a1.length : Nat) : Int)) then (
    onInl (α := ((List Int) × (List (Int × Bool)))) (β := ((Int × (List (Int × Bool)) × (List Int)) ⊕ ((List Int) ⊕ (List Int)))) (
      (ixO a1 x23).bind fun x43 =>
      (d_walk_exists a0 x43.El).bind fun r44 =>
      bif (!r44) then (
        some (.inl (x25, x24))
      ) else (
        (ixO a0.Elements x43.El).bind fun x45 =>
        bif (!((mget (x24 : (List (Int × Bool))) x45.Section).getD false)) then (
          (appO x25 [x45.Section]).bind fun x46 =>
          some (.inl (x46, (mset x45.Section true x24)))
        ) else (
          some (.inl (x25, x24))
        )
      )
    ) fun (x41, x42) =>
    some (.inl (w64 (x23 + 1), x42, x41))
  ) else (
    some (.inr (.inl x25))
  )

noncomputable def d_walk_Sections (a0 : T_api_Layout) (a1 : (List T_api_Step)) : Option (List Int) :=
  onInl (α := (List Int)) (β := (List Int)) (loopO (d_walk_Sections_0 a0 a1) (0, ([] : (List (Int × Bool))), ([] : (List Int)))) fun x36 =>
  some x36
theorem d_walk_Sections_ok (a0 : T_api_Layout) (a1 : (List T_api_Step)) (r : (List Int)) (h : d_walk_Sections a0 a1 = some r) : PCall Go.Proofs.Tryd.prog GlS 34 [Enc.pv a0, Enc.pv a1] (lstOf (.own 100005) r) := by
  unfold d_walk_Sections at h
  refine pcall_of_pwp Go.Proofs.Tryd.func34 (by rfl) rfl Go.Proofs.Tryd.ntmps34 (by rfl) rfl ?_
  refine pwp_seq (r_reg ?_)
  refine e_end (by kernel_rfl) ?_
  refine q_next (pwp_seq (r_reg ?_))
  refine e_end (by kernel_rfl) ?_
  refine q_next (pwp_seq (r_reg ?_))
  refine e_end (by kernel_rfl) ?_
  refine q_next (pwp_seq (pwp_seq (r_reg ?_)))
  refine p_run 1 (by kernel_rfl) ?_
  refine p_len (L := (a1 : (List T_api_Step))) (by kernel_rfl) ?_
  refine e_end (by kernel_rfl) ?_
  refine q_next (pwp_block ?_)
  refine g_nil 5 100005 1 8 (by kernel_rfl) (by kernel_rfl) ?_
  obtain ⟨o29, h29, h⟩ := o_inl h
  refine r_loop2 41 0 (fun (x23, x24, x25) => ⟨[(2, .ref 2 0), (5, lstOf (.own 100005) (x25 : (List Int))), (6, .mp 10), (11, lstOf .frozen (a1 : (List T_api_Step))), (12, .int .i64 ((a1.length : Nat) : Int)), (13, .int .i64 x23)], [(2, .cells (cellsOf a0)), (10, .map (mpOf (x24 : (List (Int × Bool)))))], [(100005, (((x25).map cellsOf).length, 1))], []⟩) (fun x36 => ⟨[(5, lstOf (.own 100005) (x36 : (List Int)))], [], [(100005, (((x36).map cellsOf).length, 1))], []⟩) h29 (by kernel_rfl) (fun _ => by kernel_rfl) ?_ ?_
  · rintro ⟨x23, x24, x25⟩ oh28 h28
    unfold d_walk_Sections_0 at h28
    refine pwp_seq (r_reg ?_)
    refine e_end (by kernel_rfl) ?_
    refine q_next (pwp_seq ?_)
    rcases o_cond h28 with ⟨hb, h28⟩ | ⟨hb, h28⟩
    · refine r_cond_t hb (by kernel_rfl) ?_
      refine pwp_skip (q_next ?_)
      obtain ⟨o34, h34, h28⟩ := o_inl h28
      refine r_join (o := o34) 41 (fun (x41, x42) => ⟨[(2, .ref 2 0), (5, lstOf (.own 100005) (x41 : (List Int))), (6, .mp 10), (11, lstOf .frozen (a1 : (List T_api_Step))), (12, .int .i64 ((a1.length : Nat) : Int)), (13, .int .i64 x23)], [(2, .cells (cellsOf a0)), (10, .map (mpOf (x42 : (List (Int × Bool)))))], [(100005, (((x41).map cellsOf).length, 1))], []⟩) ?_ ?_
      · refine pwp_block (pwp_seq (r_reg ?_))
        obtain ⟨x43, h35, h34⟩ := o_bind h34
        refine p_ix h35 (by kernel_rfl) ?_
        refine e_end (by kernel_rfl) ?_
        refine q_next (pwp_seq (pwp_seq (r_reg ?_)))
        refine p_run 3 (by kernel_rfl) ?_
        obtain ⟨r44, h36, h34⟩ := o_bind h34
        refine p_call (d_walk_exists_ok _ _ r44 h36) (by kernel_rfl) (by kernel_rfl) ?_
        refine e_end (by kernel_rfl) ?_
        refine q_next ?_
        rcases o_cond h34 with ⟨hb, h34⟩ | ⟨hb, h34⟩
        · refine r_cond_t hb (by kernel_rfl) ?_
          refine pwp_exit (q_seq_exit (q_block_hit ?_))
          cases h34
          exact q_join (by kernel_rfl) (by kernel_rfl)
        refine r_cond_f hb (by kernel_rfl) ?_
        refine pwp_skip (q_next (pwp_seq (r_reg ?_)))
        refine p_run 4 (by kernel_rfl) ?_
        obtain ⟨x45, h37, h34⟩ := o_bind h34
        refine p_ix h37 (by kernel_rfl) ?_
        refine e_end (by kernel_rfl) ?_
        refine q_next (pwp_seq (r_reg ?_))
        refine p_run 2 (by kernel_rfl) ?_
        refine p_lookup (m := (x24 : (List (Int × Bool)))) (k := x45.Section) false 10 (by kernel_rfl) (by kernel_rfl) ?_
        refine e_end (by kernel_rfl) ?_
        refine q_next ?_
        rcases o_cond h34 with ⟨hb, h34⟩ | ⟨hb, h34⟩
        · refine r_cond_t hb (by kernel_rfl) ?_
          refine pwp_seq (r_reg ?_)
          refine p_run 2 (by kernel_rfl) ?_
          refine p_mset (m := (x24 : (List (Int × Bool)))) (k := x45.Section) (v := true) 10 (by kernel_rfl) (by kernel_rfl) (by kernel_rfl) ?_
          refine e_nil (by kernel_rfl) ?_
          refine q_next (r_reg ?_)
          refine p_run 3 (by kernel_rfl) ?_
          obtain ⟨x46, h38, h34⟩ := o_bind h34
          refine p_app (tk := 100005) h38 (by kernel_rfl) (by kernel_rfl) ?_
          refine e_end (by kernel_rfl) ?_
          refine q_block ?_
          cases h34
          exact q_join (by kernel_rfl) (by kernel_rfl)
        refine r_cond_f hb (by kernel_rfl) ?_
        refine pwp_skip (q_block ?_)
        cases h34
        exact q_join (by kernel_rfl) (by kernel_rfl)
      rintro ⟨x41, x42⟩ rfl
      have h28 := o_outl h28
      refine r_reg ?_
      refine e_end (by kernel_rfl) ?_
      cases h28
      exact q_lback (by kernel_rfl)
    refine r_cond_f hb (by kernel_rfl) ?_
    refine pwp_exit (q_seq_exit ?_)
    cases h28
    exact q_lexit (by kernel_rfl) (by kernel_rfl)
  rintro x36 s' rfl hs
  have h := o_outl h
  refine q_block_hit ?_
  refine q_next (pwp_wkr hs ?_)
  refine pwp_seq (r_reg ?_)
  refine e_end (by kernel_rfl) ?_
  refine q_next (pwp_ret ?_)
  cases h
  exact q_ret (by kernel_rfl) (by kernel_rfl) (by kernel_rfl)
theorem d_walk_Sections_fz (a0 : T_api_Layout) (a1 : (List T_api_Step)) (r : (List Int)) (h : d_walk_Sections a0 a1 = some r) : PCall Go.Proofs.Tryd.prog GlS 34 [Enc.pv a0, Enc.pv a1] (Enc.pv r) :=
  (d_walk_Sections_ok a0 a1 r h).freeze (by kernel_rfl) (by kernel_rfl) (by kernel_rfl)

/-! walk.Length -/
noncomputable def d_walk_Length_0 (a0 : T_api_Layout) (a1 : (List T_api_Step)) : (Int × Int) → Option ((Int × Int) ⊕ (Int ⊕ Int)) := fun (x8, x9) =>
  bif decide (x9 < ((a1.length : Nat) : Int)) then (
    onInl (α := Int) (β := ((Int × Int) ⊕ (Int ⊕ Int))) (
      (ixO a1 x9).bind fun x22 =>
      (d_walk_exists a0 x22.El).bind fun r23 =>
      bif r23 then (
        (ixO a0.Elements x22.El).bind fun x24 =>
        some (.inl (w64 (x8 + x24.Length)))
      ) else (
        some (.inl x8)
      )
    ) fun x21 =>
    some (.inl (x21, w64 (x9 + 1)))
  ) else (
    some (.inr (.inl x8))
  )

noncomputable def d_walk_Length (a0 : T_api_Layout) (a1 : (List T_api_Step)) : Option Int :=
  onInl (α := Int) (β := Int) (loopO (d_walk_Length_0 a0 a1) (0, 0)) fun x17 =>
  some x17
theorem d_walk_Length_ok (a0 : T_api_Layout) (a1 : (List T_api_Step)) (r : Int) (h : d_walk_Length a0 a1 = some r) : PCall Go.Proofs.Tryd.prog GlS 36 [Enc.pv a0, Enc.pv a1] (Enc.pv r) := by
  unfold d_walk_Length at h
  refine pcall_of_pwp Go.Proofs.Tryd.func36 (by rfl) rfl Go.Proofs.Tryd.ntmps36 (by rfl) rfl ?_
  refine pwp_seq (r_reg ?_)
  refine e_end (by kernel_rfl) ?_
  refine q_next (pwp_seq (r_reg ?_))
  refine e_end (by kernel_rfl) ?_
  refine q_next (pwp_seq (pwp_seq (r_reg ?_)))
  refine p_run 1 (by kernel_rfl) ?_
  refine p_len (L := (a1 : (List T_api_Step))) (by kernel_rfl) ?_
  refine e_end (by kernel_rfl) ?_
  refine q_next (pwp_block ?_)
  obtain ⟨o16, h16, h⟩ := o_inl h
  refine r_loop2 29 0 (fun (x8, x9) => ⟨[(2, .ref 2 0), (5, .int .i64 x8), (8, lstOf .frozen (a1 : (List T_api_Step))), (9, .int .i64 ((a1.length : Nat) : Int)), (10, .int .i64 x9)], [(2, .cells (cellsOf a0))], [], []⟩) (fun x17 => ⟨[(5, .int .i64 x17)], [], [], []⟩) h16 (by kernel_rfl) (fun _ => by kernel_rfl) ?_ ?_
  · rintro ⟨x8, x9⟩ oh15 h15
    unfold d_walk_Length_0 at h15
    refine pwp_seq (r_reg ?_)
    refine e_end (by kernel_rfl) ?_
    refine q_next (pwp_seq ?_)
    rcases o_cond h15 with ⟨hb, h15⟩ | ⟨hb, h15⟩
    · refine r_cond_t hb (by kernel_rfl) ?_
      refine pwp_skip (q_next ?_)
      obtain ⟨o20, h20, h15⟩ := o_inl h15
      refine r_join (o := o20) 29 (fun x21 => ⟨[(2, .ref 2 0), (5, .int .i64 x21), (8, lstOf .frozen (a1 : (List T_api_Step))), (9, .int .i64 ((a1.length : Nat) : Int)), (10, .int .i64 x9)], [(2, .cells (cellsOf a0))], [], []⟩) ?_ ?_
      · refine pwp_block (pwp_seq (r_reg ?_))
        obtain ⟨x22, h21, h20⟩ := o_bind h20
        refine p_ix h21 (by kernel_rfl) ?_
        refine e_end (by kernel_rfl) ?_
        refine q_next (pwp_seq (r_reg ?_))
        refine p_run 3 (by kernel_rfl) ?_
        obtain ⟨r23, h22, h20⟩ := o_bind h20
        refine p_call (d_walk_exists_ok _ _ r23 h22) (by kernel_rfl) (by kernel_rfl) ?_
        refine e_nil (by kernel_rfl) ?_
        refine q_next ?_
        rcases o_cond h20 with ⟨hb, h20⟩ | ⟨hb, h20⟩
        · refine r_cond_t hb (by kernel_rfl) ?_
          refine r_reg ?_
          refine p_run 5 (by kernel_rfl) ?_
          obtain ⟨x24, h23, h20⟩ := o_bind h20
          refine p_ix h23 (by kernel_rfl) ?_
          refine e_end (by kernel_rfl) ?_
          refine q_block ?_
          cases h20
          exact q_join (by kernel_rfl) (by kernel_rfl)
        refine r_cond_f hb (by kernel_rfl) ?_
        refine pwp_skip (q_block ?_)
        cases h20
        exact q_join (by kernel_rfl) (by kernel_rfl)
      rintro x21 rfl
      have h15 := o_outl h15
      refine r_reg ?_
      refine e_end (by kernel_rfl) ?_
      cases h15
      exact q_lback (by kernel_rfl)
    refine r_cond_f hb (by kernel_rfl) ?_
    refine pwp_exit (q_seq_exit ?_)
    cases h15
    exact q_lexit (by kernel_rfl) (by kernel_rfl)
  rintro x17 s' rfl hs
  have h := o_outl h
  refine q_block_hit ?_
  refine q_next (pwp_wkr hs ?_)
  refine pwp_seq (r_reg ?_)
  refine e_end (by kernel_rfl) ?_
  refine q_next (pwp_ret ?_)
  cases h
  exact q_ret (by kernel_rfl) (by kernel_rfl) (by kernel_rfl)

/-! route.build -/
noncomputable def d_route_build (a0 : T_api_Layout) (a1 : Int) (a2 : (List T_api_Step)) : Option T_api_Route :=
  (ixO a0.Signals a1).bind fun x1 =>
  (d_route_left a2).bind fun r2 =>
  (d_layout_Signal a0 r2).bind fun r3 =>
  onInl (α := ByteArray) (β := T_api_Route) (
    bif decide (0 ≤ r3) then (
      (ixO a0.Signals r3).bind fun x6 =>
      some (.inl x6.Name)
    ) else (
      some (.inl (ByteArray.mk #[101, 110, 100]))
    )
  ) fun x5 =>
  (saddO x1.Name (ByteArray.mk #[45])).bind fun x7 =>
  (saddO x7 x5).bind fun x8 =>
  (d_walk_Settings a0 a2).bind fun r9 =>
  (d_walk_Sections a0 a2).bind fun r10 =>
  (d_layout_Section a0 x1.At.El).bind fun r11 =>
  (d_walk_Length a0 a2).bind fun r12 =>
  some (T_api_Route.mk x8 a1 r3 a2 r9 r10 r11 r12 [] [] [] [] [] [])
theorem d_route_build_ok (a0 : T_api_Layout) (a1 : Int) (a2 : (List T_api_Step)) (r : T_api_Route) (h : d_route_build a0 a1 a2 = some r) : PCall Go.Proofs.Tryd.prog GlS 21 [Enc.pv a0, Enc.pv a1, Enc.pv a2] (Enc.pv r) := by
  unfold d_route_build at h
  refine pcall_of_pwp Go.Proofs.Tryd.func21 (by rfl) rfl Go.Proofs.Tryd.ntmps21 (by rfl) rfl ?_
  refine pwp_seq (r_reg ?_)
  refine e_end (by kernel_rfl) ?_
  refine q_next (pwp_seq (r_reg ?_))
  refine p_run 3 (by kernel_rfl) ?_
  obtain ⟨x1, h1, h⟩ := o_bind h
  refine p_ix h1 (by kernel_rfl) ?_
  refine e_end (by kernel_rfl) ?_
  refine q_next (pwp_seq ?_)
  refine r_regd (by kernel_rfl) (by kernel_rfl) ?_
  refine p_run 2 (by kernel_rfl) ?_
  obtain ⟨r2, h2, h⟩ := o_bind h
  refine p_call (d_route_left_ok _ r2 h2) (by kernel_rfl) (by kernel_rfl) ?_
  obtain ⟨r3, h3, h⟩ := o_bind h
  refine p_call (d_layout_Signal_ok _ _ r3 h3) (by kernel_rfl) (by kernel_rfl) ?_
  refine e_end (by kernel_rfl) ?_
  refine q_next ?_
  obtain ⟨o5, h5, h⟩ := o_inl h
  refine r_join (o := o5) 50 (fun x5 => ⟨[(1, .int .i64 a1), (2, lstOf .frozen (a2 : (List T_api_Step))), (3, .ref 3 0), (6, .ref 6 0), (7, .ref 7 0), (8, .str x5), (9, .int .i64 r3)], [(3, .cells (cellsOf a0)), (6, .cells ([.str ByteArray.empty, .int .i64 0, .int .i64 0, .nil, .nil, .nil, .int .i64 0, .int .i64 0, .nil, .nil, .nil, .nil, .nil, .nil])), (7, .cells (cellsOf x1))], [], []⟩) ?_ ?_
  · refine pwp_seq (r_reg ?_)
    refine e_end (by kernel_rfl) ?_
    refine q_next ?_
    rcases o_cond h5 with ⟨hb, h5⟩ | ⟨hb, h5⟩
    · refine r_cond_t hb (by kernel_rfl) ?_
      refine r_reg ?_
      refine p_run 3 (by kernel_rfl) ?_
      obtain ⟨x6, h6, h5⟩ := o_bind h5
      refine p_ix h6 (by kernel_rfl) ?_
      refine e_end (by kernel_rfl) ?_
      cases h5
      exact q_join (by kernel_rfl) (by kernel_rfl)
    refine r_cond_f hb (by kernel_rfl) ?_
    refine pwp_skip ?_
    cases h5
    exact q_join (by kernel_rfl) (by kernel_rfl)
  rintro x5 rfl
  have h := o_outl h
  refine pwp_seq ?_
  refine r_regd (by kernel_rfl) (by kernel_rfl) ?_
  refine p_run 2 (by kernel_rfl) ?_
  obtain ⟨x7, h7, h⟩ := o_bind h
  refine p_sadd h7 (by kernel_rfl) ?_
  refine p_run 1 (by kernel_rfl) ?_
  obtain ⟨x8, h8, h⟩ := o_bind h
  refine p_sadd h8 (by kernel_rfl) ?_
  refine p_run 5 (by kernel_rfl) ?_
  obtain ⟨r9, h9, h⟩ := o_bind h
  refine p_call (d_walk_Settings_ok _ _ r9 h9) (by kernel_rfl) (by kernel_rfl) ?_
  refine p_run 2 (by kernel_rfl) ?_
  obtain ⟨r10, h10, h⟩ := o_bind h
  refine p_call (d_walk_Sections_fz _ _ r10 h10) (by kernel_rfl) (by kernel_rfl) ?_
  refine p_run 4 (by kernel_rfl) ?_
  obtain ⟨r11, h11, h⟩ := o_bind h
  refine p_call (d_layout_Section_ok _ _ r11 h11) (by kernel_rfl) (by kernel_rfl) ?_
  refine p_run 2 (by kernel_rfl) ?_
  obtain ⟨r12, h12, h⟩ := o_bind h
  refine p_call (d_walk_Length_ok _ _ r12 h12) (by kernel_rfl) (by kernel_rfl) ?_
  refine e_end (by kernel_rfl) ?_
  refine q_next (pwp_ret ?_)
  cases h
  exact q_ret (by kernel_rfl) (by kernel_rfl) (by kernel_rfl)

/-! strconv.Itoa -/
noncomputable def d_strconv_Itoa (a0 : Int) : Option ByteArray :=
  none
theorem d_strconv_Itoa_ok (a0 : Int) (r : ByteArray) (h : d_strconv_Itoa a0 = some r) : PCall Go.Proofs.Tryd.prog GlS 22 [Enc.pv a0] (Enc.pv r) := by
  unfold d_strconv_Itoa at h
  refine pcall_of_pwp Go.Proofs.Tryd.func22 (by rfl) rfl Go.Proofs.Tryd.ntmps22 (by rfl) rfl ?_
  cases h

end PM
