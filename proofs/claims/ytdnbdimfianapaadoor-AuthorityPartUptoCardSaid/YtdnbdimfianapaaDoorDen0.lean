/-
  Plain functions for the program's functions, and the proofs that the program does them. Printed by den.py.
-/
import Derived.Test.YtdnbdimfianapaaDoorPmQt
import Derived.Test.YtdnbdimfianapaaDoorPlA
import Derived.Test.YtdnbdimfianapaaDoorProg
namespace PM
open Go Go.RowKit
attribute [local irreducible] pops pwp

structure T_rail_passage where
  kind_ : Int
  in_ : Int
  out_ : Int
  need_ : Int
instance : Enc T_rail_passage := ⟨4, 32, fun x => .agg [.int .i64 x.kind_, .int .i64 x.in_, .int .i64 x.out_, .int .i64 x.need_]⟩
instance : Inhabited T_rail_passage := ⟨⟨0, 0, 0, 0⟩⟩
def eq_T_rail_passage (x y : T_rail_passage) : Bool := (decide (x.kind_ = y.kind_) && (decide (x.in_ = y.in_) && (decide (x.out_ = y.out_) && (decide (x.need_ = y.need_) && true))))
structure T_api_Segment where
  From : Int
  To : Int
  Grade : Int
  Speed : Int
instance : Enc T_api_Segment := ⟨4, 32, fun x => .agg [.int .i64 x.From, .int .i64 x.To, .int .i64 x.Grade, .int .i64 x.Speed]⟩
instance : Inhabited T_api_Segment := ⟨⟨0, 0, 0, 0⟩⟩
def eq_T_api_Segment (x y : T_api_Segment) : Bool := (decide (x.From = y.From) && (decide (x.To = y.To) && (decide (x.Grade = y.Grade) && (decide (x.Speed = y.Speed) && true))))
structure T_api_Linked where
  Id : Int
  At : Int
instance : Enc T_api_Linked := ⟨2, 16, fun x => .agg [.int .i64 x.Id, .int .i64 x.At]⟩
instance : Inhabited T_api_Linked := ⟨⟨0, 0⟩⟩
def eq_T_api_Linked (x y : T_api_Linked) : Bool := (decide (x.Id = y.Id) && (decide (x.At = y.At) && true))
structure T_api_Authority where
  Seq : Int
  End : Int
  Profile : (List T_api_Segment)
  Links : (List T_api_Linked)
instance : Enc T_api_Authority := ⟨4, 64, fun x => .agg [.int .i64 x.Seq, .int .i64 x.End, lstOf .frozen x.Profile, lstOf .frozen x.Links]⟩
instance : Inhabited T_api_Authority := ⟨⟨0, 0, [], []⟩⟩
structure T_api_Step where
  El : Int
  In : Int
  Out : Int
instance : Enc T_api_Step := ⟨3, 24, fun x => .agg [.int .i64 x.El, .int .i64 x.In, .int .i64 x.Out]⟩
instance : Inhabited T_api_Step := ⟨⟨0, 0, 0⟩⟩
def eq_T_api_Step (x y : T_api_Step) : Bool := (decide (x.El = y.El) && (decide (x.In = y.In) && (decide (x.Out = y.Out) && true)))
structure T_api_Track where
  Id : Int
  Origin : Int
  End : Int
  At : Int
  Steps : (List T_api_Step)
  Routes : (List Int)
  Starts : (List Int)
  Ends : (List Int)
  Done : (List Int)
  Min : Int
  Sent : Int
  Accepted : Int
  Cut : Int
  CutSeq : Int
instance : Enc T_api_Track := ⟨14, 192, fun x => .agg [.int .i64 x.Id, .int .i64 x.Origin, .int .i64 x.End, .int .i64 x.At, lstOf .frozen x.Steps, lstOf .frozen x.Routes, lstOf .frozen x.Starts, lstOf .frozen x.Ends, lstOf .frozen x.Done, .int .i64 x.Min, .int .i64 x.Sent, .int .i64 x.Accepted, .int .i64 x.Cut, .int .i64 x.CutSeq]⟩
instance : Inhabited T_api_Track := ⟨⟨0, 0, 0, 0, [], [], [], [], [], 0, 0, 0, 0, 0⟩⟩
structure T_api_Element where
  Name : ByteArray
  Kind : Int
  Length : Int
  Grade : Int
  Speed : Int
  Slow : Int
  Section : Int
instance : Enc T_api_Element := ⟨7, 64, fun x => .agg [.str x.Name, .int .i64 x.Kind, .int .i64 x.Length, .int .i64 x.Grade, .int .i64 x.Speed, .int .i64 x.Slow, .int .i64 x.Section]⟩
instance : Inhabited T_api_Element := ⟨⟨ByteArray.empty, 0, 0, 0, 0, 0, 0⟩⟩
def eq_T_api_Element (x y : T_api_Element) : Bool := (decide (x.Name = y.Name) && (decide (x.Kind = y.Kind) && (decide (x.Length = y.Length) && (decide (x.Grade = y.Grade) && (decide (x.Speed = y.Speed) && (decide (x.Slow = y.Slow) && (decide (x.Section = y.Section) && true)))))))
structure T_api_End where
  El : Int
  Side : Int
instance : Enc T_api_End := ⟨2, 16, fun x => .agg [.int .i64 x.El, .int .i64 x.Side]⟩
instance : Inhabited T_api_End := ⟨⟨0, 0⟩⟩
def eq_T_api_End (x y : T_api_End) : Bool := (decide (x.El = y.El) && (decide (x.Side = y.Side) && true))
structure T_api_Joint where
  A : T_api_End
  B : T_api_End
instance : Enc T_api_Joint := ⟨4, 32, fun x => .agg [.int .i64 x.A.El, .int .i64 x.A.Side, .int .i64 x.B.El, .int .i64 x.B.Side]⟩
instance : Inhabited T_api_Joint := ⟨⟨default, default⟩⟩
def eq_T_api_Joint (x y : T_api_Joint) : Bool := (decide (x.A.El = y.A.El) && (decide (x.A.Side = y.A.Side) && (decide (x.B.El = y.B.El) && (decide (x.B.Side = y.B.Side) && true))))
structure T_api_Signal where
  Name : ByteArray
  At : T_api_End
  Overlap : Int
instance : Enc T_api_Signal := ⟨4, 40, fun x => .agg [.str x.Name, .int .i64 x.At.El, .int .i64 x.At.Side, .int .i64 x.Overlap]⟩
instance : Inhabited T_api_Signal := ⟨⟨ByteArray.empty, default, 0⟩⟩
def eq_T_api_Signal (x y : T_api_Signal) : Bool := (decide (x.Name = y.Name) && (decide (x.At.El = y.At.El) && (decide (x.At.Side = y.At.Side) && (decide (x.Overlap = y.Overlap) && true))))
structure T_api_Balise where
  Id : Int
  El : Int
  Offset : Int
instance : Enc T_api_Balise := ⟨3, 24, fun x => .agg [.int .i64 x.Id, .int .i64 x.El, .int .i64 x.Offset]⟩
instance : Inhabited T_api_Balise := ⟨⟨0, 0, 0⟩⟩
def eq_T_api_Balise (x y : T_api_Balise) : Bool := (decide (x.Id = y.Id) && (decide (x.El = y.El) && (decide (x.Offset = y.Offset) && true)))
structure T_api_Layout where
  Name : ByteArray
  Sections : (List ByteArray)
  Elements : (List T_api_Element)
  Joints : (List T_api_Joint)
  Signals : (List T_api_Signal)
  Balises : (List T_api_Balise)
instance : Enc T_api_Layout := ⟨6, 136, fun x => .agg [.str x.Name, lstOf .frozen x.Sections, lstOf .frozen x.Elements, lstOf .frozen x.Joints, lstOf .frozen x.Signals, lstOf .frozen x.Balises]⟩
instance : Inhabited T_api_Layout := ⟨⟨ByteArray.empty, [], [], [], [], []⟩⟩
structure T_api_Restriction where
  Id : Int
  El : Int
  From : Int
  To : Int
  Speed : Int
  Active : Bool
instance : Enc T_api_Restriction := ⟨6, 48, fun x => .agg [.int .i64 x.Id, .int .i64 x.El, .int .i64 x.From, .int .i64 x.To, .int .i64 x.Speed, .bool x.Active]⟩
instance : Inhabited T_api_Restriction := ⟨⟨0, 0, 0, 0, 0, false⟩⟩
def eq_T_api_Restriction (x y : T_api_Restriction) : Bool := (decide (x.Id = y.Id) && (decide (x.El = y.El) && (decide (x.From = y.From) && (decide (x.To = y.To) && (decide (x.Speed = y.Speed) && ((x.Active == y.Active) && true))))))
structure T_profile_span where
  from_ : Int
  to_ : Int
instance : Enc T_profile_span := ⟨2, 16, fun x => .agg [.int .i64 x.from_, .int .i64 x.to_]⟩
instance : Inhabited T_profile_span := ⟨⟨0, 0⟩⟩
def eq_T_profile_span (x y : T_profile_span) : Bool := (decide (x.from_ = y.from_) && (decide (x.to_ = y.to_) && true))
structure T_restriction_noRoom where
instance : Enc T_restriction_noRoom := ⟨0, 0, fun x => .agg []⟩
instance : Inhabited T_restriction_noRoom := ⟨⟨⟩⟩
def eq_T_restriction_noRoom (x y : T_restriction_noRoom) : Bool := true

def tab_rail_passages : List T_rail_passage := [(T_rail_passage.mk 1 0 1 0), (T_rail_passage.mk 1 1 0 0), (T_rail_passage.mk 2 0 1 1), (T_rail_passage.mk 2 0 2 2), (T_rail_passage.mk 2 1 0 1), (T_rail_passage.mk 2 2 0 2), (T_rail_passage.mk 3 0 1 0), (T_rail_passage.mk 3 1 0 0), (T_rail_passage.mk 3 2 3 0), (T_rail_passage.mk 3 3 2 0)]
def GlS : Nat → Option (List PV)
  | 0 => some (tab_rail_passages.flatMap cellsOf)
  | _ => none

/-! signallinglaw45.short -/
noncomputable def d_law45_short (a0 : T_api_Authority) : Option Bool :=
  ((bif decide (((a0.Profile.length : Nat) : Int) ≤ 300) then (
    some (decide (((a0.Links.length : Nat) : Int) ≤ 300))
  ) else some false) : Option Bool).bind fun b1 =>
  some b1
theorem d_law45_short_ok (a0 : T_api_Authority) (r : Bool) (h : d_law45_short a0 = some r) : PCall Go.Proofs.Tryd.prog GlS 5 [Enc.pv a0] (Enc.pv r) := by
  unfold d_law45_short at h
  refine pcall_of_pwp Go.Proofs.Tryd.func5 (by rfl) rfl Go.Proofs.Tryd.ntmps5 (by rfl) rfl ?_
  refine pwp_seq (r_reg ?_)
  refine e_end (by kernel_rfl) ?_
  refine q_next (pwp_seq (r_reg ?_))
  refine p_run 2 (by kernel_rfl) ?_
  refine p_len (L := (a0.Profile : (List T_api_Segment))) (by kernel_rfl) ?_
  obtain ⟨b1, h1, h⟩ := o_bind h
  refine p_run 2 (by kernel_rfl) ?_
  refine e_seg 5 12 (.bool b1) ?_ ?_
  · rcases o_cond h1 with ⟨hb, h1⟩ | ⟨hb, h1⟩
    · refine p_settle 7 hb (by kernel_rfl) (by kernel_rfl) ?_
      refine p_run 2 (by kernel_rfl) ?_
      refine p_len (L := (a0.Links : (List T_api_Linked))) (by kernel_rfl) ?_
      cases h1
      exact f_end (by kernel_rfl) (by kernel_rfl)
    refine p_settle 7 hb (by kernel_rfl) (by kernel_rfl) ?_
    cases h1
    exact f_end (by kernel_rfl) (by kernel_rfl)
  refine e_end (by kernel_rfl) ?_
  refine q_next (pwp_ret ?_)
  cases h
  exact q_ret (by kernel_rfl) (by kernel_rfl) (by kernel_rfl)

/-! signallinglaw45.line -/
noncomputable def d_law45_line_0 : (Int × (List T_api_Element) × (List T_api_Joint) × (List T_api_Signal)) → Option ((Int × (List T_api_Element) × (List T_api_Joint) × (List T_api_Signal)) ⊕ (((List T_api_Element) × (List T_api_Joint) × (List T_api_Signal)) ⊕ T_api_Layout)) := fun (x28, x29, x30, x31) =>
  bif decide (x28 < (([(ByteArray.mk #[97]), (ByteArray.mk #[98]), (ByteArray.mk #[99])].length : Nat) : Int)) then (
    onInl (α := ((List T_api_Element) × (List T_api_Joint) × (List T_api_Signal))) (β := ((Int × (List T_api_Element) × (List T_api_Joint) × (List T_api_Signal)) ⊕ (((List T_api_Element) × (List T_api_Joint) × (List T_api_Signal)) ⊕ T_api_Layout))) (
      (ixO [(ByteArray.mk #[97]), (ByteArray.mk #[98]), (ByteArray.mk #[99])] x28).bind fun x56 =>
      (appO x29 [(T_api_Element.mk x56 1 20000 0 3000 0 x28)]).bind fun x57 =>
      bif decide (0 < x28) then (
        (appO x30 [(T_api_Joint.mk (T_api_End.mk (w64 (x28 - 1)) 1) (T_api_End.mk x28 0))]).bind fun x58 =>
        (ixO [(ByteArray.mk #[115, 49]), (ByteArray.mk #[115, 50])] (w64 (x28 - 1))).bind fun x59 =>
        (appO x31 [(T_api_Signal.mk x59 (T_api_End.mk (w64 (x28 - 1)) 1) 0)]).bind fun x60 =>
        some (.inl (x57, x58, x60))
      ) else (
        some (.inl (x57, x30, x31))
      )
    ) fun (x53, x54, x55) =>
    some (.inl (w64 (x28 + 1), x53, x54, x55))
  ) else (
    some (.inr (.inl (x29, x30, x31)))
  )

noncomputable def d_law45_line : Option T_api_Layout :=
  onInl (α := ((List T_api_Element) × (List T_api_Joint) × (List T_api_Signal))) (β := T_api_Layout) (loopO (d_law45_line_0) (0, ([] : (List T_api_Element)), ([] : (List T_api_Joint)), ([] : (List T_api_Signal)))) fun (x45, x46, x47) =>
  some (T_api_Layout.mk (ByteArray.mk #[108, 105, 110, 101]) [(ByteArray.mk #[116, 97]), (ByteArray.mk #[116, 98]), (ByteArray.mk #[116, 99])] x45 x46 x47 [])
theorem d_law45_line_ok (r : T_api_Layout) (h : d_law45_line = some r) : PCall Go.Proofs.Tryd.prog GlS 16 [] (Enc.pv r) := by
  unfold d_law45_line at h
  refine pcall_of_pwp Go.Proofs.Tryd.func16 (by rfl) rfl Go.Proofs.Tryd.ntmps16 (by rfl) rfl ?_
  refine pwp_seq (r_reg ?_)
  refine e_end (by kernel_rfl) ?_
  refine q_next (pwp_seq (r_reg ?_))
  refine e_end (by kernel_rfl) ?_
  refine q_next (pwp_seq (pwp_seq (r_reg ?_)))
  refine p_run 1 (by kernel_rfl) ?_
  refine p_len (L := ([(ByteArray.mk #[97]), (ByteArray.mk #[98]), (ByteArray.mk #[99])] : (List ByteArray))) (by kernel_rfl) ?_
  refine e_end (by kernel_rfl) ?_
  refine q_next (pwp_block ?_)
  refine pwp_wkr (wkr_nilH 1 2 200102 7 64 (cs := [.str (ByteArray.mk #[108, 105, 110, 101]), lstOf .full ([(ByteArray.mk #[116, 97]), (ByteArray.mk #[116, 98]), (ByteArray.mk #[116, 99])] : (List ByteArray)), .nil, .nil, .nil, .nil]) (by kernel_rfl) (by kernel_rfl) (by kernel_rfl)) ?_
  refine pwp_wkr (wkr_nilH 1 3 200103 4 32 (cs := [.str (ByteArray.mk #[108, 105, 110, 101]), lstOf .full ([(ByteArray.mk #[116, 97]), (ByteArray.mk #[116, 98]), (ByteArray.mk #[116, 99])] : (List ByteArray)), lstOf (.own 200102) (([] : (List T_api_Element)) : (List T_api_Element)), .nil, .nil, .nil]) (by kernel_rfl) (by kernel_rfl) (by kernel_rfl)) ?_
  refine pwp_wkr (wkr_nilH 1 4 200104 4 40 (cs := [.str (ByteArray.mk #[108, 105, 110, 101]), lstOf .full ([(ByteArray.mk #[116, 97]), (ByteArray.mk #[116, 98]), (ByteArray.mk #[116, 99])] : (List ByteArray)), lstOf (.own 200102) (([] : (List T_api_Element)) : (List T_api_Element)), lstOf (.own 200103) (([] : (List T_api_Joint)) : (List T_api_Joint)), .nil, .nil]) (by kernel_rfl) (by kernel_rfl) (by kernel_rfl)) ?_
  obtain ⟨o35, h35, h⟩ := o_inl h
  refine r_loop2 50 0 (fun (x28, x29, x30, x31) => ⟨[(0, .ref 0 0), (1, .ref 1 0), (6, lstOf .full ([(ByteArray.mk #[97]), (ByteArray.mk #[98]), (ByteArray.mk #[99])] : (List ByteArray))), (7, .int .i64 (([(ByteArray.mk #[97]), (ByteArray.mk #[98]), (ByteArray.mk #[99])].length : Nat) : Int)), (8, .int .i64 x28)], [(0, .cells ([.str ByteArray.empty, .nil, .nil, .nil, .nil, .nil])), (1, .cells ([.str (ByteArray.mk #[108, 105, 110, 101]), lstOf .full ([(ByteArray.mk #[116, 97]), (ByteArray.mk #[116, 98]), (ByteArray.mk #[116, 99])] : (List ByteArray)), lstOf (.own 200102) (x29 : (List T_api_Element)), lstOf (.own 200103) (x30 : (List T_api_Joint)), lstOf (.own 200104) (x31 : (List T_api_Signal)), .nil]))], [(200102, (((x29).map cellsOf).length, 7)), (200103, (((x30).map cellsOf).length, 4)), (200104, (((x31).map cellsOf).length, 4))], []⟩) (fun (x45, x46, x47) => ⟨[(0, .ref 0 0), (1, .ref 1 0)], [(0, .cells ([.str ByteArray.empty, .nil, .nil, .nil, .nil, .nil])), (1, .cells ([.str (ByteArray.mk #[108, 105, 110, 101]), lstOf .full ([(ByteArray.mk #[116, 97]), (ByteArray.mk #[116, 98]), (ByteArray.mk #[116, 99])] : (List ByteArray)), lstOf (.own 200102) (x45 : (List T_api_Element)), lstOf (.own 200103) (x46 : (List T_api_Joint)), lstOf (.own 200104) (x47 : (List T_api_Signal)), .nil]))], [(200102, (((x45).map cellsOf).length, 7)), (200103, (((x46).map cellsOf).length, 4)), (200104, (((x47).map cellsOf).length, 4))], []⟩) h35 (by kernel_rfl) (fun _ => by kernel_rfl) ?_ ?_
  · rintro ⟨x28, x29, x30, x31⟩ oh34 h34
    unfold d_law45_line_0 at h34
    refine pwp_seq (r_reg ?_)
    refine e_end (by kernel_rfl) ?_
    refine q_next (pwp_seq ?_)
    rcases o_cond h34 with ⟨hb, h34⟩ | ⟨hb, h34⟩
    · refine r_cond_t hb (by kernel_rfl) ?_
      refine pwp_skip (q_next ?_)
      obtain ⟨o41, h41, h34⟩ := o_inl h34
      refine r_join (o := o41) 50 (fun (x53, x54, x55) => ⟨[(0, .ref 0 0), (1, .ref 1 0), (6, lstOf .full ([(ByteArray.mk #[97]), (ByteArray.mk #[98]), (ByteArray.mk #[99])] : (List ByteArray))), (7, .int .i64 (([(ByteArray.mk #[97]), (ByteArray.mk #[98]), (ByteArray.mk #[99])].length : Nat) : Int)), (8, .int .i64 x28)], [(0, .cells ([.str ByteArray.empty, .nil, .nil, .nil, .nil, .nil])), (1, .cells ([.str (ByteArray.mk #[108, 105, 110, 101]), lstOf .full ([(ByteArray.mk #[116, 97]), (ByteArray.mk #[116, 98]), (ByteArray.mk #[116, 99])] : (List ByteArray)), lstOf (.own 200102) (x53 : (List T_api_Element)), lstOf (.own 200103) (x54 : (List T_api_Joint)), lstOf (.own 200104) (x55 : (List T_api_Signal)), .nil]))], [(200102, (((x53).map cellsOf).length, 7)), (200103, (((x54).map cellsOf).length, 4)), (200104, (((x55).map cellsOf).length, 4))], []⟩) ?_ ?_
      · refine pwp_block (pwp_seq (r_reg ?_))
        refine p_run 1 (by kernel_rfl) ?_
        obtain ⟨x56, h42, h41⟩ := o_bind h41
        refine p_ix h42 (by kernel_rfl) ?_
        refine e_end (by kernel_rfl) ?_
        refine q_next (pwp_seq (r_reg ?_))
        refine p_run 6 (by kernel_rfl) ?_
        obtain ⟨x57, h43, h41⟩ := o_bind h41
        refine p_app (tk := 200102) h43 (by kernel_rfl) (by kernel_rfl) ?_
        refine e_end (by kernel_rfl) ?_
        refine q_next (pwp_seq (r_reg ?_))
        refine e_end (by kernel_rfl) ?_
        refine q_next ?_
        rcases o_cond h41 with ⟨hb, h41⟩ | ⟨hb, h41⟩
        · refine r_cond_t hb (by kernel_rfl) ?_
          refine pwp_seq (r_reg ?_)
          refine p_run 9 (by kernel_rfl) ?_
          obtain ⟨x58, h44, h41⟩ := o_bind h41
          refine p_app (tk := 200103) h44 (by kernel_rfl) (by kernel_rfl) ?_
          refine e_end (by kernel_rfl) ?_
          refine q_next ?_
          refine r_regd (by kernel_rfl) (by kernel_rfl) ?_
          refine p_run 5 (by kernel_rfl) ?_
          obtain ⟨x59, h45, h41⟩ := o_bind h41
          refine p_ix h45 (by kernel_rfl) ?_
          refine p_run 6 (by kernel_rfl) ?_
          obtain ⟨x60, h46, h41⟩ := o_bind h41
          refine p_app (tk := 200104) h46 (by kernel_rfl) (by kernel_rfl) ?_
          refine e_end (by kernel_rfl) ?_
          refine q_block ?_
          cases h41
          exact q_join (by kernel_rfl) (by kernel_rfl)
        refine r_cond_f hb (by kernel_rfl) ?_
        refine pwp_skip (q_block ?_)
        cases h41
        exact q_join (by kernel_rfl) (by kernel_rfl)
      rintro ⟨x53, x54, x55⟩ rfl
      have h34 := o_outl h34
      refine r_reg ?_
      refine e_end (by kernel_rfl) ?_
      cases h34
      exact q_lback (by kernel_rfl)
    refine r_cond_f hb (by kernel_rfl) ?_
    refine pwp_exit (q_seq_exit ?_)
    cases h34
    exact q_lexit (by kernel_rfl) (by kernel_rfl)
  rintro ⟨x45, x46, x47⟩ s' rfl hs
  have h := o_outl h
  refine q_block_hit ?_
  refine q_next (pwp_wkr hs ?_)
  refine pwp_seq (r_reg ?_)
  refine e_end (by kernel_rfl) ?_
  refine q_next (pwp_ret ?_)
  cases h
  exact q_ret (by kernel_rfl) (by kernel_rfl) (by kernel_rfl)

/-! walk.passage -/
noncomputable def d_walk_passage (a0 : T_api_Layout) : Option T_api_Layout :=
  some a0
theorem d_walk_passage_ok (a0 : T_api_Layout) (r : T_api_Layout) (h : d_walk_passage a0 = some r) : PCall Go.Proofs.Tryd.prog GlS 35 [Enc.pv a0] (.fn 49 [.cptr (cellsOf r)]) := by
  unfold d_walk_passage at h
  refine pcall_of_pwp Go.Proofs.Tryd.func35 (by rfl) rfl Go.Proofs.Tryd.ntmps35 (by rfl) rfl ?_
  refine pwp_seq (r_reg ?_)
  refine e_end (by kernel_rfl) ?_
  refine q_next (pwp_seq (r_reg ?_))
  refine e_end (by kernel_rfl) ?_
  refine q_next ?_
  refine g_frz 1 [] (cs := cellsOf a0) (cs' := cellsOf a0) (by kernel_rfl) (by kernel_rfl) (by kernel_rfl) (by kernel_rfl) ?_
  refine pwp_ret ?_
  cases h
  exact q_ret (by kernel_rfl) (by kernel_rfl) (by kernel_rfl)

/-! walk.exists -/
noncomputable def d_walk_exists (a0 : T_api_Layout) (a1 : Int) : Option Bool :=
  ((bif decide (0 ≤ a1) then (
    some (decide (a1 < ((a0.Elements.length : Nat) : Int)))
  ) else some false) : Option Bool).bind fun b1 =>
  some b1
theorem d_walk_exists_ok (a0 : T_api_Layout) (a1 : Int) (r : Bool) (h : d_walk_exists a0 a1 = some r) : PCall Go.Proofs.Tryd.prog GlS 51 [Enc.pv a0, Enc.pv a1] (Enc.pv r) := by
  unfold d_walk_exists at h
  refine pcall_of_pwp Go.Proofs.Tryd.func51 (by rfl) rfl Go.Proofs.Tryd.ntmps51 (by rfl) rfl ?_
  refine pwp_seq (r_reg ?_)
  refine e_end (by kernel_rfl) ?_
  refine q_next (pwp_seq (r_reg ?_))
  obtain ⟨b1, h1, h⟩ := o_bind h
  refine p_run 3 (by kernel_rfl) ?_
  refine e_seg 6 13 (.bool b1) ?_ ?_
  · rcases o_cond h1 with ⟨hb, h1⟩ | ⟨hb, h1⟩
    · refine p_settle 7 hb (by kernel_rfl) (by kernel_rfl) ?_
      refine p_run 3 (by kernel_rfl) ?_
      refine p_len (L := (a0.Elements : (List T_api_Element))) (by kernel_rfl) ?_
      cases h1
      exact f_end (by kernel_rfl) (by kernel_rfl)
    refine p_settle 7 hb (by kernel_rfl) (by kernel_rfl) ?_
    cases h1
    exact f_end (by kernel_rfl) (by kernel_rfl)
  refine e_end (by kernel_rfl) ?_
  refine q_next (pwp_ret ?_)
  cases h
  exact q_ret (by kernel_rfl) (by kernel_rfl) (by kernel_rfl)

/-! rail.Need -/
noncomputable def d_rail_Need_0 (a0 : Int) (a1 : Int) (a2 : Int) : Int → Option (Int ⊕ (Unit ⊕ (Int × Bool))) := fun x2 =>
  bif decide (x2 < 10) then (
    (ixO tab_rail_passages x2).bind fun x4 =>
    bif (((decide (x4.kind_ = a0)) && (decide (x4.in_ = a1))) && (decide (x4.out_ = a2))) then (
      some (.inr (.inr (x4.need_, true)))
    ) else (
      some (.inl (w64 (x2 + 1)))
    )
  ) else (
    some (.inr (.inl ()))
  )

noncomputable def d_rail_Need (a0 : Int) (a1 : Int) (a2 : Int) : Option (Int × Bool) :=
  onInl (α := Unit) (β := (Int × Bool)) (loopO (d_rail_Need_0 a0 a1 a2) 0) fun _ =>
  some (0, false)
theorem d_rail_Need_ok (a0 : Int) (a1 : Int) (a2 : Int) (r : (Int × Bool)) (h : d_rail_Need a0 a1 a2 = some r) : PCall Go.Proofs.Tryd.prog GlS 41 [Enc.pv a0, Enc.pv a1, Enc.pv a2] (.tup [Enc.pv r.1, Enc.pv r.2]) := by
  unfold d_rail_Need at h
  refine pcall_of_pwp Go.Proofs.Tryd.func41 (by rfl) rfl Go.Proofs.Tryd.ntmps41 (by rfl) rfl ?_
  refine pwp_seq (r_reg ?_)
  refine e_end (by kernel_rfl) ?_
  refine q_next (pwp_seq (pwp_seq (r_reg ?_)))
  refine e_end (by kernel_rfl) ?_
  refine q_next (pwp_block ?_)
  obtain ⟨o6, h6, h⟩ := o_inl h
  refine r_loop2 33 0 (fun x2 => ⟨[(0, .int .i64 a0), (1, .int .i64 a1), (2, .int .i64 a2), (10, .agg (tab_rail_passages.flatMap cellsOf)), (11, .int .i64 x2)], [], [], []⟩) (fun (_ : Unit) => ⟨[], [], [], []⟩) h6 (by kernel_rfl) (fun _ => by kernel_rfl) ?_ ?_
  · rintro x2 oh5 h5
    unfold d_rail_Need_0 at h5
    refine pwp_seq (r_reg ?_)
    refine e_end (by kernel_rfl) ?_
    refine q_next (pwp_seq ?_)
    rcases o_cond h5 with ⟨hb, h5⟩ | ⟨hb, h5⟩
    · refine r_cond_t hb (by kernel_rfl) ?_
      refine pwp_skip (q_next (pwp_seq (pwp_block (pwp_seq (r_reg ?_)))))
      obtain ⟨x4, h7, h5⟩ := o_bind h5
      refine p_tix (tab := tab_rail_passages) h7 true 10 4 (by kernel_rfl) (by kernel_rfl) (by kernel_rfl) (by kernel_rfl) ?_
      refine e_end (by kernel_rfl) ?_
      refine q_next (pwp_seq (r_reg ?_))
      refine p_run 5 (by kernel_rfl) ?_
      refine e_segb 5 23 ((decide (x4.kind_ = a0)) && (decide (x4.in_ = a1))) (fun x hx => ?_) ?_
      · rcases b_and hx with ⟨hb, hx⟩ | ⟨hb, hx⟩
        · refine p_settle 18 hb (by kernel_rfl) (by kernel_rfl) ?_
          subst hx
          exact f_end (by kernel_rfl) (by kernel_rfl)
        refine p_settle 18 hb (by kernel_rfl) (by kernel_rfl) ?_
        subst hx
        exact f_end (by kernel_rfl) (by kernel_rfl)
      refine p_run 1 (by kernel_rfl) ?_
      refine e_segb 5 29 (((decide (x4.kind_ = a0)) && (decide (x4.in_ = a1))) && (decide (x4.out_ = a2))) (fun x hx => ?_) ?_
      · rcases b_and hx with ⟨hb, hx⟩ | ⟨hb, hx⟩
        · refine p_settle 24 hb (by kernel_rfl) (by kernel_rfl) ?_
          subst hx
          exact f_end (by kernel_rfl) (by kernel_rfl)
        refine p_settle 24 hb (by kernel_rfl) (by kernel_rfl) ?_
        subst hx
        exact f_end (by kernel_rfl) (by kernel_rfl)
      refine e_nil (by kernel_rfl) ?_
      refine q_next ?_
      rcases o_cond h5 with ⟨hb, h5⟩ | ⟨hb, h5⟩
      · refine r_cond_t hb (by kernel_rfl) ?_
        refine pwp_seq (r_reg ?_)
        refine e_end (by kernel_rfl) ?_
        refine q_next (pwp_ret (q_block_ret (q_seq_ret ?_)))
        cases h5
        refine q_lout_ret fun he => ?_
        subst he
        have h8 := o_outr h
        refine q_block_ret (q_seq_ret ?_)
        cases h8
        exact q_ret (by kernel_rfl) (by kernel_rfl) (by kernel_rfl)
      refine r_cond_f hb (by kernel_rfl) ?_
      refine pwp_skip (q_block (q_next (r_reg ?_)))
      refine e_end (by kernel_rfl) ?_
      cases h5
      exact q_lback (by kernel_rfl)
    refine r_cond_f hb (by kernel_rfl) ?_
    refine pwp_exit (q_seq_exit ?_)
    cases h5
    exact q_lexit (by kernel_rfl) (by kernel_rfl)
  rintro _ s' rfl hs
  have h := o_outl h
  refine q_block_hit ?_
  refine q_next (pwp_wkr hs ?_)
  refine pwp_seq (r_reg ?_)
  refine e_end (by kernel_rfl) ?_
  refine q_next (pwp_ret ?_)
  cases h
  exact q_ret (by kernel_rfl) (by kernel_rfl) (by kernel_rfl)

/-! walk.possible -/
noncomputable def d_walk_possible (a0 : T_api_Layout) (a1 : T_api_Step) : Option (Int × Bool) :=
  (d_walk_exists a0 a1.El).bind fun r1 =>
  bif (!r1) then (
    some (0, false)
  ) else (
    (ixO a0.Elements a1.El).bind fun x2 =>
    (d_rail_Need x2.Kind a1.In a1.Out).bind fun r3 =>
    some (r3.1, r3.2)
  )
theorem d_walk_possible_ok (a0 : T_api_Layout) (a1 : T_api_Step) (r : (Int × Bool)) (h : d_walk_possible a0 a1 = some r) : PCall Go.Proofs.Tryd.prog GlS 36 [Enc.pv a0, Enc.pv a1] (.tup [Enc.pv r.1, Enc.pv r.2]) := by
  unfold d_walk_possible at h
  refine pcall_of_pwp Go.Proofs.Tryd.func36 (by rfl) rfl Go.Proofs.Tryd.ntmps36 (by rfl) rfl ?_
  refine pwp_seq (r_reg ?_)
  refine e_end (by kernel_rfl) ?_
  refine q_next (pwp_seq (pwp_seq (r_reg ?_)))
  refine p_run 3 (by kernel_rfl) ?_
  obtain ⟨r1, h1, h⟩ := o_bind h
  refine p_call (d_walk_exists_ok _ _ r1 h1) (by kernel_rfl) (by kernel_rfl) ?_
  refine e_end (by kernel_rfl) ?_
  refine q_next ?_
  rcases o_cond h with ⟨hb, h⟩ | ⟨hb, h⟩
  · refine r_cond_t hb (by kernel_rfl) ?_
    refine pwp_seq (r_reg ?_)
    refine e_end (by kernel_rfl) ?_
    refine q_next (pwp_ret (q_seq_ret ?_))
    cases h
    exact q_ret (by kernel_rfl) (by kernel_rfl) (by kernel_rfl)
  refine r_cond_f hb (by kernel_rfl) ?_
  refine pwp_skip (q_next (pwp_seq ?_))
  refine r_regd (by kernel_rfl) (by kernel_rfl) ?_
  refine p_run 4 (by kernel_rfl) ?_
  obtain ⟨x2, h2, h⟩ := o_bind h
  refine p_ix h2 (by kernel_rfl) ?_
  refine p_run 6 (by kernel_rfl) ?_
  obtain ⟨r3, h3, h⟩ := o_bind h
  refine p_call (d_rail_Need_ok _ _ _ r3 h3) (by kernel_rfl) (by kernel_rfl) ?_
  refine e_end (by kernel_rfl) ?_
  refine q_next (pwp_ret ?_)
  cases h
  exact q_ret (by kernel_rfl) (by kernel_rfl) (by kernel_rfl)

/-! layout.Joined -/
noncomputable def d_layout_Joined_0 (a0 : T_api_Layout) (a1 : T_api_End) : Int → Option (Int ⊕ (Unit ⊕ (T_api_End × Bool))) := fun x2 =>
  bif decide (x2 < ((a0.Joints.length : Nat) : Int)) then (
    (ixO a0.Joints x2).bind fun x4 =>
    bif eq_T_api_End x4.A a1 then (
      some (.inr (.inr (x4.B, true)))
    ) else (
      bif eq_T_api_End x4.B a1 then (
        some (.inr (.inr (x4.A, true)))
      ) else (
        some (.inl (w64 (x2 + 1)))
      )
    )
  ) else (
    some (.inr (.inl ()))
  )

noncomputable def d_layout_Joined (a0 : T_api_Layout) (a1 : T_api_End) : Option (T_api_End × Bool) :=
  onInl (α := Unit) (β := (T_api_End × Bool)) (loopO (d_layout_Joined_0 a0 a1) 0) fun _ =>
  some ((T_api_End.mk 0 0), false)
theorem d_layout_Joined_ok (a0 : T_api_Layout) (a1 : T_api_End) (r : (T_api_End × Bool)) (h : d_layout_Joined a0 a1 = some r) : PCall Go.Proofs.Tryd.prog GlS 50 [Enc.pv a0, Enc.pv a1] (.tup [Enc.pv r.1, Enc.pv r.2]) := by
  unfold d_layout_Joined at h
  refine pcall_of_pwp Go.Proofs.Tryd.func50 (by rfl) rfl Go.Proofs.Tryd.ntmps50 (by rfl) rfl ?_
  refine pwp_seq (r_reg ?_)
  refine e_end (by kernel_rfl) ?_
  refine q_next (pwp_seq (pwp_seq (r_reg ?_)))
  refine p_run 2 (by kernel_rfl) ?_
  refine p_len (L := (a0.Joints : (List T_api_Joint))) (by kernel_rfl) ?_
  refine e_end (by kernel_rfl) ?_
  refine q_next (pwp_block ?_)
  obtain ⟨o8, h8, h⟩ := o_inl h
  refine r_loop2 29 0 (fun x2 => ⟨[(3, .ref 3 0), (4, .ref 4 0), (9, lstOf .frozen (a0.Joints : (List T_api_Joint))), (10, .int .i64 ((a0.Joints.length : Nat) : Int)), (11, .int .i64 x2)], [(3, .cells (cellsOf a1)), (4, .cells ([.int .i64 0, .int .i64 0]))], [], []⟩) (fun (_ : Unit) => ⟨[(4, .ref 4 0)], [(4, .cells ([.int .i64 0, .int .i64 0]))], [], []⟩) h8 (by kernel_rfl) (fun _ => by kernel_rfl) ?_ ?_
  · rintro x2 oh7 h7
    unfold d_layout_Joined_0 at h7
    refine pwp_seq (r_reg ?_)
    refine e_end (by kernel_rfl) ?_
    refine q_next (pwp_seq ?_)
    rcases o_cond h7 with ⟨hb, h7⟩ | ⟨hb, h7⟩
    · refine r_cond_t hb (by kernel_rfl) ?_
      refine pwp_skip (q_next (pwp_seq (pwp_block (pwp_seq (r_reg ?_)))))
      obtain ⟨x4, h9, h7⟩ := o_bind h7
      refine p_ix h9 (by kernel_rfl) ?_
      refine e_end (by kernel_rfl) ?_
      refine q_next (pwp_seq (pwp_seq (r_reg ?_)))
      refine e_end (by kernel_rfl) ?_
      refine q_next ?_
      rcases o_cond h7 with ⟨hb, h7⟩ | ⟨hb, h7⟩
      · refine r_cond_t hb (by kernel_rfl) ?_
        refine pwp_seq (r_reg ?_)
        refine e_end (by kernel_rfl) ?_
        refine q_next (pwp_ret (q_seq_ret (q_block_ret (q_seq_ret ?_))))
        cases h7
        refine q_lout_ret fun he => ?_
        subst he
        have h10 := o_outr h
        refine q_block_ret (q_seq_ret ?_)
        cases h10
        exact q_ret (by kernel_rfl) (by kernel_rfl) (by kernel_rfl)
      refine r_cond_f hb (by kernel_rfl) ?_
      refine pwp_skip (q_next (pwp_seq (r_reg ?_)))
      refine e_end (by kernel_rfl) ?_
      refine q_next ?_
      rcases o_cond h7 with ⟨hb, h7⟩ | ⟨hb, h7⟩
      · refine r_cond_t hb (by kernel_rfl) ?_
        refine pwp_seq (r_reg ?_)
        refine e_end (by kernel_rfl) ?_
        refine q_next (pwp_ret (q_block_ret (q_seq_ret ?_)))
        cases h7
        refine q_lout_ret fun he => ?_
        subst he
        have h11 := o_outr h
        refine q_block_ret (q_seq_ret ?_)
        cases h11
        exact q_ret (by kernel_rfl) (by kernel_rfl) (by kernel_rfl)
      refine r_cond_f hb (by kernel_rfl) ?_
      refine pwp_skip (q_block (q_next (r_reg ?_)))
      refine e_end (by kernel_rfl) ?_
      cases h7
      exact q_lback (by kernel_rfl)
    refine r_cond_f hb (by kernel_rfl) ?_
    refine pwp_exit (q_seq_exit ?_)
    cases h7
    exact q_lexit (by kernel_rfl) (by kernel_rfl)
  rintro _ s' rfl hs
  have h := o_outl h
  refine q_block_hit ?_
  refine q_next (pwp_wkr hs ?_)
  refine pwp_seq (r_reg ?_)
  refine e_end (by kernel_rfl) ?_
  refine q_next (pwp_ret ?_)
  cases h
  exact q_ret (by kernel_rfl) (by kernel_rfl) (by kernel_rfl)

/-! walk.passage$1 -/
noncomputable def d_walk_passage_1 (a0 : T_api_Step) (c0 : T_api_Layout) : Option (T_api_End × Bool) :=
  (d_layout_Joined c0 (T_api_End.mk a0.El a0.Out)).bind fun r1 =>
  some (r1.1, r1.2)
theorem d_walk_passage_1_ok (a0 : T_api_Step) (c0 : T_api_Layout) (r : (T_api_End × Bool)) (h : d_walk_passage_1 a0 c0 = some r) : PCall Go.Proofs.Tryd.prog GlS 49 [Enc.pv a0, .cptr (cellsOf c0)] (.tup [Enc.pv r.1, Enc.pv r.2]) := by
  unfold d_walk_passage_1 at h
  refine pcall_of_pwp Go.Proofs.Tryd.func49 (by rfl) rfl Go.Proofs.Tryd.ntmps49 (by rfl) rfl ?_
  refine pwp_seq (r_reg ?_)
  refine e_end (by kernel_rfl) ?_
  refine q_next (pwp_seq (r_reg ?_))
  refine p_run 6 (by kernel_rfl) ?_
  obtain ⟨r1, h1, h⟩ := o_bind h
  refine p_call (d_layout_Joined_ok _ _ r1 h1) (by kernel_rfl) (by kernel_rfl) ?_
  refine e_end (by kernel_rfl) ?_
  refine q_next (pwp_ret ?_)
  cases h
  exact q_ret (by kernel_rfl) (by kernel_rfl) (by kernel_rfl)

/-! walk.Valid -/
noncomputable def d_walk_Valid_1 (x49 : T_api_Step) (x51 : (List T_api_Step)) : Int → Option (Int ⊕ (Unit ⊕ (Unit ⊕ (Int ⊕ (Unit ⊕ Bool))))) := fun x53 =>
  bif decide (x53 < ((x51.length : Nat) : Int)) then (
    (ixO x51 x53).bind fun x55 =>
    bif decide (x55.El = x49.El) then (
      some (.inr (.inr (.inr (.inr (.inr false)))))
    ) else (
      some (.inl (w64 (x53 + 1)))
    )
  ) else (
    some (.inr (.inl ()))
  )

noncomputable def d_walk_Valid_0 (a0 : T_api_Layout) (a1 : (List T_api_Step)) (r2 : T_api_Layout) : Int → Option (Int ⊕ (Unit ⊕ Bool)) := fun x21 =>
  bif decide (x21 < ((a1.length : Nat) : Int)) then (
    onInl (α := Unit) (β := (Int ⊕ (Unit ⊕ Bool))) (
      (ixO a1 x21).bind fun x49 =>
      (d_walk_possible a0 x49).bind fun r50 =>
      bif (!r50.2) then (
        some (.inr (.inr (.inr false)))
      ) else (
        (slO a1 none (some x21) none).bind fun x51 =>
        onInl (α := Unit) (β := (Unit ⊕ (Int ⊕ (Unit ⊕ Bool)))) (loopO (d_walk_Valid_1 x49 x51) 0) fun _ =>
        bif decide (x21 = 0) then (
          some (.inl ())
        ) else (
          (ixO a1 (w64 (x21 - 1))).bind fun x56 =>
          (d_walk_passage_1 x56 r2).bind fun r57 =>
          bif (((!r57.2) || (!(decide (r57.1.El = x49.El)))) || (!(decide (r57.1.Side = x49.In)))) then (
            some (.inr (.inr (.inr false)))
          ) else (
            some (.inl ())
          )
        )
      )
    ) fun _ =>
    some (.inl (w64 (x21 + 1)))
  ) else (
    some (.inr (.inl ()))
  )

noncomputable def d_walk_Valid (a0 : T_api_Layout) (a1 : (List T_api_Step)) : Option Bool :=
  ((bif decide (((a1.length : Nat) : Int) = 0) then some true else (
    some (decide (64 < ((a1.length : Nat) : Int)))
  )) : Option Bool).bind fun b1 =>
  bif b1 then (
    some false
  ) else (
    (d_walk_passage a0).bind fun r2 =>
    onInl (α := Unit) (β := Bool) (loopO (d_walk_Valid_0 a0 a1 r2) 0) fun _ =>
    some true
  )
theorem d_walk_Valid_ok (a0 : T_api_Layout) (a1 : (List T_api_Step)) (r : Bool) (h : d_walk_Valid a0 a1 = some r) : PCall Go.Proofs.Tryd.prog GlS 28 [Enc.pv a0, Enc.pv a1] (Enc.pv r) := by
  unfold d_walk_Valid at h
  refine pcall_of_pwp Go.Proofs.Tryd.func28 (by rfl) rfl Go.Proofs.Tryd.ntmps28 (by rfl) rfl ?_
  refine pwp_seq (r_reg ?_)
  refine e_end (by kernel_rfl) ?_
  refine q_next (pwp_seq (pwp_seq (r_reg ?_)))
  refine p_run 1 (by kernel_rfl) ?_
  refine p_len (L := (a1 : (List T_api_Step))) (by kernel_rfl) ?_
  obtain ⟨b1, h1, h⟩ := o_bind h
  refine p_run 2 (by kernel_rfl) ?_
  refine e_seg 4 21 (.bool b1) ?_ ?_
  · rcases o_cond h1 with ⟨hb, h1⟩ | ⟨hb, h1⟩
    · refine p_settle 17 hb (by kernel_rfl) (by kernel_rfl) ?_
      cases h1
      exact f_end (by kernel_rfl) (by kernel_rfl)
    refine p_settle 17 hb (by kernel_rfl) (by kernel_rfl) ?_
    refine p_run 1 (by kernel_rfl) ?_
    refine p_len (L := (a1 : (List T_api_Step))) (by kernel_rfl) ?_
    cases h1
    exact f_end (by kernel_rfl) (by kernel_rfl)
  refine e_nil (by kernel_rfl) ?_
  refine q_next ?_
  rcases o_cond h with ⟨hb, h⟩ | ⟨hb, h⟩
  · refine r_cond_t hb (by kernel_rfl) ?_
    refine pwp_seq (r_reg ?_)
    refine e_end (by kernel_rfl) ?_
    refine q_next (pwp_ret (q_seq_ret ?_))
    cases h
    exact q_ret (by kernel_rfl) (by kernel_rfl) (by kernel_rfl)
  refine r_cond_f hb (by kernel_rfl) ?_
  refine pwp_skip (q_next (pwp_seq (r_reg ?_)))
  refine p_run 1 (by kernel_rfl) ?_
  obtain ⟨r2, h2, h⟩ := o_bind h
  refine p_call (d_walk_passage_ok _ r2 h2) (by kernel_rfl) (by kernel_rfl) ?_
  refine e_end (by kernel_rfl) ?_
  refine q_next (pwp_seq (pwp_seq (r_reg ?_)))
  refine p_run 1 (by kernel_rfl) ?_
  refine p_len (L := (a1 : (List T_api_Step))) (by kernel_rfl) ?_
  refine e_end (by kernel_rfl) ?_
  refine q_next (pwp_block ?_)
  obtain ⟨o98, h98, h⟩ := o_inl h
  refine r_loop2 82 0 (fun x21 => ⟨[(1, lstOf .frozen (a1 : (List T_api_Step))), (2, .ref 2 0), (5, .fn 49 [.cptr (cellsOf r2)]), (24, lstOf .frozen (a1 : (List T_api_Step))), (25, .int .i64 ((a1.length : Nat) : Int)), (26, .int .i64 x21)], [(2, .cells (cellsOf a0))], [], []⟩) (fun (_ : Unit) => ⟨[], [], [], []⟩) h98 (by kernel_rfl) (fun _ => by kernel_rfl) ?_ ?_
  · rintro x21 oh97 h97
    unfold d_walk_Valid_0 at h97
    refine pwp_seq (r_reg ?_)
    refine e_end (by kernel_rfl) ?_
    refine q_next (pwp_seq ?_)
    rcases o_cond h97 with ⟨hb, h97⟩ | ⟨hb, h97⟩
    · refine r_cond_t hb (by kernel_rfl) ?_
      refine pwp_skip (q_next ?_)
      obtain ⟨o122, h122, h97⟩ := o_inl h97
      refine r_join (o := o122) 82 (fun (_ : Unit) => ⟨[(1, lstOf .frozen (a1 : (List T_api_Step))), (2, .ref 2 0), (5, .fn 49 [.cptr (cellsOf r2)]), (24, lstOf .frozen (a1 : (List T_api_Step))), (25, .int .i64 ((a1.length : Nat) : Int)), (26, .int .i64 x21)], [(2, .cells (cellsOf a0))], [], []⟩) ?_ ?_
      · refine pwp_block (pwp_seq (r_reg ?_))
        refine p_run 1 (by kernel_rfl) ?_
        obtain ⟨x49, h123, h122⟩ := o_bind h122
        refine p_ix h123 (by kernel_rfl) ?_
        refine e_end (by kernel_rfl) ?_
        refine q_next (pwp_seq (pwp_seq (r_reg ?_)))
        refine p_run 2 (by kernel_rfl) ?_
        obtain ⟨r50, h124, h122⟩ := o_bind h122
        refine p_call (d_walk_possible_ok _ _ r50 h124) (by kernel_rfl) (by kernel_rfl) ?_
        refine e_end (by kernel_rfl) ?_
        refine q_next (pwp_seq (r_reg ?_))
        refine e_end (by kernel_rfl) ?_
        refine q_next ?_
        rcases o_cond h122 with ⟨hb, h122⟩ | ⟨hb, h122⟩
        · refine r_cond_t hb (by kernel_rfl) ?_
          refine pwp_seq (r_reg ?_)
          refine e_end (by kernel_rfl) ?_
          refine q_next (pwp_ret (q_seq_ret (q_block_ret ?_)))
          cases h122
          refine q_jout_ret ?_
          have h125 := o_outr h97
          cases h125
          refine q_lout_ret fun he => ?_
          subst he
          have h126 := o_outr h
          refine q_block_ret (q_seq_ret ?_)
          cases h126
          exact q_ret (by kernel_rfl) (by kernel_rfl) (by kernel_rfl)
        refine r_cond_f hb (by kernel_rfl) ?_
        refine pwp_skip (q_next (pwp_seq (pwp_seq (r_reg ?_))))
        refine p_run 2 (by kernel_rfl) ?_
        obtain ⟨x51, h127, h122⟩ := o_bind h122
        refine p_sl h127 .frozen (by kernel_rfl) (by kernel_rfl) (by kernel_rfl) ?_
        refine p_len (L := (x51 : (List T_api_Step))) (by kernel_rfl) ?_
        refine e_end (by kernel_rfl) ?_
        refine q_next (pwp_block ?_)
        obtain ⟨o137, h137, h122⟩ := o_inl h122
        refine r_loop2 82 2 (fun x53 => ⟨[(1, lstOf .frozen (a1 : (List T_api_Step))), (2, .ref 2 0), (5, .fn 49 [.cptr (cellsOf r2)]), (6, .int .i64 x21), (7, .ref 7 0), (24, lstOf .frozen (a1 : (List T_api_Step))), (25, .int .i64 ((a1.length : Nat) : Int)), (26, .int .i64 x21), (41, lstOf .frozen (x51 : (List T_api_Step))), (42, .int .i64 ((x51.length : Nat) : Int)), (43, .int .i64 x53)], [(2, .cells (cellsOf a0)), (7, .cells (cellsOf x49))], [], []⟩) (fun (_ : Unit) => ⟨[(1, lstOf .frozen (a1 : (List T_api_Step))), (2, .ref 2 0), (5, .fn 49 [.cptr (cellsOf r2)]), (6, .int .i64 x21), (7, .ref 7 0), (24, lstOf .frozen (a1 : (List T_api_Step))), (25, .int .i64 ((a1.length : Nat) : Int)), (26, .int .i64 x21)], [(2, .cells (cellsOf a0)), (7, .cells (cellsOf x49))], [], []⟩) h137 (by kernel_rfl) (fun _ => by kernel_rfl) ?_ ?_
        · rintro x53 oh136 h136
          unfold d_walk_Valid_1 at h136
          refine pwp_seq (r_reg ?_)
          refine e_end (by kernel_rfl) ?_
          refine q_next (pwp_seq ?_)
          rcases o_cond h136 with ⟨hb, h136⟩ | ⟨hb, h136⟩
          · refine r_cond_t hb (by kernel_rfl) ?_
            refine pwp_skip (q_next (pwp_seq (pwp_block (pwp_seq (r_reg ?_)))))
            obtain ⟨x55, h138, h136⟩ := o_bind h136
            refine p_ix h138 (by kernel_rfl) ?_
            refine e_end (by kernel_rfl) ?_
            refine q_next (pwp_seq (r_reg ?_))
            refine e_end (by kernel_rfl) ?_
            refine q_next ?_
            rcases o_cond h136 with ⟨hb, h136⟩ | ⟨hb, h136⟩
            · refine r_cond_t hb (by kernel_rfl) ?_
              refine pwp_seq (r_reg ?_)
              refine e_end (by kernel_rfl) ?_
              refine q_next (pwp_ret (q_block_ret (q_seq_ret ?_)))
              cases h136
              refine q_lout_ret fun he => ?_
              subst he
              have h139 := o_outr h122
              refine q_block_ret (q_seq_ret (q_block_ret ?_))
              cases h139
              refine q_jout_ret ?_
              have h140 := o_outr h97
              cases h140
              refine q_lout_ret fun he => ?_
              subst he
              have h141 := o_outr h
              refine q_block_ret (q_seq_ret ?_)
              cases h141
              exact q_ret (by kernel_rfl) (by kernel_rfl) (by kernel_rfl)
            refine r_cond_f hb (by kernel_rfl) ?_
            refine pwp_skip (q_block (q_next (r_reg ?_)))
            refine e_end (by kernel_rfl) ?_
            cases h136
            exact q_lback (by kernel_rfl)
          refine r_cond_f hb (by kernel_rfl) ?_
          refine pwp_exit (q_seq_exit ?_)
          cases h136
          exact q_lexit (by kernel_rfl) (by kernel_rfl)
        rintro _ s' rfl hs
        have h122 := o_outl h122
        refine q_block_hit ?_
        refine q_next (pwp_wkr hs ?_)
        refine pwp_seq (pwp_seq (r_reg ?_))
        refine e_end (by kernel_rfl) ?_
        refine q_next ?_
        rcases o_cond h122 with ⟨hb, h122⟩ | ⟨hb, h122⟩
        · refine r_cond_t hb (by kernel_rfl) ?_
          refine pwp_exit (q_seq_exit (q_block_hit ?_))
          cases h122
          exact q_join (by kernel_rfl) (by kernel_rfl)
        refine r_cond_f hb (by kernel_rfl) ?_
        refine pwp_skip (q_next (pwp_seq (r_reg ?_)))
        refine p_run 4 (by kernel_rfl) ?_
        obtain ⟨x56, h142, h122⟩ := o_bind h122
        refine p_ix h142 (by kernel_rfl) ?_
        refine p_run 1 (by kernel_rfl) ?_
        obtain ⟨r57, h143, h122⟩ := o_bind h122
        refine p_call (d_walk_passage_1_ok _ _ r57 h143) (by kernel_rfl) (by kernel_rfl) ?_
        refine e_end (by kernel_rfl) ?_
        refine q_next (pwp_seq (r_reg ?_))
        refine p_run 3 (by kernel_rfl) ?_
        refine e_segb 6 73 ((!r57.2) || (!(decide (r57.1.El = x49.El)))) (fun x hx => ?_) ?_
        · rcases b_or hx with ⟨hb, hx⟩ | ⟨hb, hx⟩
          · refine p_settle 67 hb (by kernel_rfl) (by kernel_rfl) ?_
            subst hx
            exact f_end (by kernel_rfl) (by kernel_rfl)
          refine p_settle 67 hb (by kernel_rfl) (by kernel_rfl) ?_
          subst hx
          exact f_end (by kernel_rfl) (by kernel_rfl)
        refine p_run 1 (by kernel_rfl) ?_
        refine e_segb 6 80 (((!r57.2) || (!(decide (r57.1.El = x49.El)))) || (!(decide (r57.1.Side = x49.In)))) (fun x hx => ?_) ?_
        · rcases b_or hx with ⟨hb, hx⟩ | ⟨hb, hx⟩
          · refine p_settle 74 hb (by kernel_rfl) (by kernel_rfl) ?_
            subst hx
            exact f_end (by kernel_rfl) (by kernel_rfl)
          refine p_settle 74 hb (by kernel_rfl) (by kernel_rfl) ?_
          subst hx
          exact f_end (by kernel_rfl) (by kernel_rfl)
        refine e_nil (by kernel_rfl) ?_
        refine q_next ?_
        rcases o_cond h122 with ⟨hb, h122⟩ | ⟨hb, h122⟩
        · refine r_cond_t hb (by kernel_rfl) ?_
          refine pwp_seq (r_reg ?_)
          refine e_end (by kernel_rfl) ?_
          refine q_next (pwp_ret (q_block_ret ?_))
          cases h122
          refine q_jout_ret ?_
          have h144 := o_outr h97
          cases h144
          refine q_lout_ret fun he => ?_
          subst he
          have h145 := o_outr h
          refine q_block_ret (q_seq_ret ?_)
          cases h145
          exact q_ret (by kernel_rfl) (by kernel_rfl) (by kernel_rfl)
        refine r_cond_f hb (by kernel_rfl) ?_
        refine pwp_skip (q_block ?_)
        cases h122
        exact q_join (by kernel_rfl) (by kernel_rfl)
      rintro _ rfl
      have h97 := o_outl h97
      refine r_reg ?_
      refine e_end (by kernel_rfl) ?_
      cases h97
      exact q_lback (by kernel_rfl)
    refine r_cond_f hb (by kernel_rfl) ?_
    refine pwp_exit (q_seq_exit ?_)
    cases h97
    exact q_lexit (by kernel_rfl) (by kernel_rfl)
  rintro _ s' rfl hs
  have h := o_outl h
  refine q_block_hit ?_
  refine q_next (pwp_wkr hs ?_)
  refine pwp_seq (r_reg ?_)
  refine e_end (by kernel_rfl) ?_
  refine q_next (pwp_ret ?_)
  cases h
  exact q_ret (by kernel_rfl) (by kernel_rfl) (by kernel_rfl)

/-! profile.coordinate -/
noncomputable def d_profile_coordinate (a0 : Int) : Option Bool :=
  some ((decide ((-1073741824) ≤ a0)) && (decide (a0 ≤ 1073741824)))
theorem d_profile_coordinate_ok (a0 : Int) (r : Bool) (h : d_profile_coordinate a0 = some r) : PCall Go.Proofs.Tryd.prog GlS 33 [Enc.pv a0] (Enc.pv r) := by
  unfold d_profile_coordinate at h
  refine pcall_of_pwp Go.Proofs.Tryd.func33 (by rfl) rfl Go.Proofs.Tryd.ntmps33 (by rfl) rfl ?_
  refine pwp_seq (r_reg ?_)
  refine e_end (by kernel_rfl) ?_
  refine q_next (pwp_seq (r_reg ?_))
  refine p_run 3 (by kernel_rfl) ?_
  refine e_segb 3 8 ((decide ((-1073741824) ≤ a0)) && (decide (a0 ≤ 1073741824))) (fun x hx => ?_) ?_
  · rcases b_and hx with ⟨hb, hx⟩ | ⟨hb, hx⟩
    · refine p_settle 5 hb (by kernel_rfl) (by kernel_rfl) ?_
      subst hx
      exact f_end (by kernel_rfl) (by kernel_rfl)
    refine p_settle 5 hb (by kernel_rfl) (by kernel_rfl) ?_
    subst hx
    exact f_end (by kernel_rfl) (by kernel_rfl)
  refine e_end (by kernel_rfl) ?_
  refine q_next (pwp_ret ?_)
  cases h
  exact q_ret (by kernel_rfl) (by kernel_rfl) (by kernel_rfl)

/-! profile.gradient -/
noncomputable def d_profile_gradient (a0 : T_api_Element) (a1 : T_api_Step) : Option Int :=
  bif ((decide (a1.In = 0)) || ((decide (a1.In = 2)) && (decide (a0.Kind = 3)))) then (
    some a0.Grade
  ) else (
    some (w64 (0 - a0.Grade))
  )
theorem d_profile_gradient_ok (a0 : T_api_Element) (a1 : T_api_Step) (r : Int) (h : d_profile_gradient a0 a1 = some r) : PCall Go.Proofs.Tryd.prog GlS 42 [Enc.pv a0, Enc.pv a1] (Enc.pv r) := by
  unfold d_profile_gradient at h
  refine pcall_of_pwp Go.Proofs.Tryd.func42 (by rfl) rfl Go.Proofs.Tryd.ntmps42 (by rfl) rfl ?_
  refine pwp_seq (r_reg ?_)
  refine e_end (by kernel_rfl) ?_
  refine q_next (pwp_seq (pwp_seq (r_reg ?_)))
  refine p_run 4 (by kernel_rfl) ?_
  refine e_segb 9 17 ((decide (a1.In = 0)) || ((decide (a1.In = 2)) && (decide (a0.Kind = 3)))) (fun x hx => ?_) ?_
  · rcases b_or hx with ⟨hb, hx⟩ | ⟨hb, hx⟩
    · refine p_settle 8 hb (by kernel_rfl) (by kernel_rfl) ?_
      subst hx
      exact f_end (by kernel_rfl) (by kernel_rfl)
    refine p_settle 8 hb (by kernel_rfl) (by kernel_rfl) ?_
    refine p_run 4 (by kernel_rfl) ?_
    refine f_segb 4 16 ((decide (a1.In = 2)) && (decide (a0.Kind = 3))) (fun x hx => ?_) ?_
    · rcases b_and hx with ⟨hb, hx⟩ | ⟨hb, hx⟩
      · refine p_settle 12 hb (by kernel_rfl) (by kernel_rfl) ?_
        subst hx
        exact f_end (by kernel_rfl) (by kernel_rfl)
      refine p_settle 12 hb (by kernel_rfl) (by kernel_rfl) ?_
      subst hx
      exact f_end (by kernel_rfl) (by kernel_rfl)
    subst hx
    exact f_end (by kernel_rfl) (by kernel_rfl)
  refine e_nil (by kernel_rfl) ?_
  refine q_next ?_
  rcases o_cond h with ⟨hb, h⟩ | ⟨hb, h⟩
  · refine r_cond_t hb (by kernel_rfl) ?_
    refine pwp_seq (r_reg ?_)
    refine e_end (by kernel_rfl) ?_
    refine q_next (pwp_ret (q_seq_ret ?_))
    cases h
    exact q_ret (by kernel_rfl) (by kernel_rfl) (by kernel_rfl)
  refine r_cond_f hb (by kernel_rfl) ?_
  refine pwp_skip (q_next (pwp_seq (r_reg ?_)))
  refine e_end (by kernel_rfl) ?_
  refine q_next (pwp_ret ?_)
  cases h
  exact q_ret (by kernel_rfl) (by kernel_rfl) (by kernel_rfl)

/-! profile.speed -/
noncomputable def d_profile_speed (a0 : T_api_Element) (a1 : T_api_Step) : Option Int :=
  bif ((decide (a0.Kind = 2)) && ((decide (a1.In = 2)) || (decide (a1.Out = 2)))) then (
    some a0.Slow
  ) else (
    some a0.Speed
  )
theorem d_profile_speed_ok (a0 : T_api_Element) (a1 : T_api_Step) (r : Int) (h : d_profile_speed a0 a1 = some r) : PCall Go.Proofs.Tryd.prog GlS 43 [Enc.pv a0, Enc.pv a1] (Enc.pv r) := by
  unfold d_profile_speed at h
  refine pcall_of_pwp Go.Proofs.Tryd.func43 (by rfl) rfl Go.Proofs.Tryd.ntmps43 (by rfl) rfl ?_
  refine pwp_seq (r_reg ?_)
  refine e_end (by kernel_rfl) ?_
  refine q_next (pwp_seq (pwp_seq (r_reg ?_)))
  refine p_run 4 (by kernel_rfl) ?_
  refine e_segb 9 17 ((decide (a0.Kind = 2)) && ((decide (a1.In = 2)) || (decide (a1.Out = 2)))) (fun x hx => ?_) ?_
  · rcases b_and hx with ⟨hb, hx⟩ | ⟨hb, hx⟩
    · refine p_settle 8 hb (by kernel_rfl) (by kernel_rfl) ?_
      refine p_run 4 (by kernel_rfl) ?_
      refine f_segb 4 16 ((decide (a1.In = 2)) || (decide (a1.Out = 2))) (fun x hx => ?_) ?_
      · rcases b_or hx with ⟨hb, hx⟩ | ⟨hb, hx⟩
        · refine p_settle 12 hb (by kernel_rfl) (by kernel_rfl) ?_
          subst hx
          exact f_end (by kernel_rfl) (by kernel_rfl)
        refine p_settle 12 hb (by kernel_rfl) (by kernel_rfl) ?_
        subst hx
        exact f_end (by kernel_rfl) (by kernel_rfl)
      subst hx
      exact f_end (by kernel_rfl) (by kernel_rfl)
    refine p_settle 8 hb (by kernel_rfl) (by kernel_rfl) ?_
    subst hx
    exact f_end (by kernel_rfl) (by kernel_rfl)
  refine e_nil (by kernel_rfl) ?_
  refine q_next ?_
  rcases o_cond h with ⟨hb, h⟩ | ⟨hb, h⟩
  · refine r_cond_t hb (by kernel_rfl) ?_
    refine pwp_seq (r_reg ?_)
    refine e_end (by kernel_rfl) ?_
    refine q_next (pwp_ret (q_seq_ret ?_))
    cases h
    exact q_ret (by kernel_rfl) (by kernel_rfl) (by kernel_rfl)
  refine r_cond_f hb (by kernel_rfl) ?_
  refine pwp_skip (q_next (pwp_seq (r_reg ?_)))
  refine e_end (by kernel_rfl) ?_
  refine q_next (pwp_ret ?_)
  cases h
  exact q_ret (by kernel_rfl) (by kernel_rfl) (by kernel_rfl)

/-! profile.Valid -/
noncomputable def d_profile_Valid_0 (a0 : (List T_api_Segment)) : Int → Option (Int ⊕ (Unit ⊕ Bool)) := fun x7 =>
  bif decide (x7 < ((a0.length : Nat) : Int)) then (
    (ixO a0 x7).bind fun x14 =>
    (d_profile_coordinate x14.From).bind fun r15 =>
    ((bif (!r15) then some true else (
      (d_profile_coordinate x14.To).bind fun r17 =>
      some (!r17)
    )) : Option Bool).bind fun b16 =>
    bif (((((b16 || (decide (x14.To ≤ x14.From))) || (decide (x14.Grade < (-50)))) || (decide (50 < x14.Grade))) || (decide (x14.Speed < 1))) || (decide (10000 < x14.Speed))) then (
      some (.inr (.inr false))
    ) else (
      ((bif decide (0 < x7) then (
        (ixO a0 (w64 (x7 - 1))).bind fun x19 =>
        some (!(decide (x14.From = x19.To)))
      ) else some false) : Option Bool).bind fun b18 =>
      bif b18 then (
        some (.inr (.inr false))
      ) else (
        some (.inl (w64 (x7 + 1)))
      )
    )
  ) else (
    some (.inr (.inl ()))
  )

noncomputable def d_profile_Valid (a0 : (List T_api_Segment)) : Option Bool :=
  bif decide (128 < ((a0.length : Nat) : Int)) then (
    some false
  ) else (
    onInl (α := Unit) (β := Bool) (loopO (d_profile_Valid_0 a0) 0) fun _ =>
    some true
  )
theorem d_profile_Valid_ok (a0 : (List T_api_Segment)) (r : Bool) (h : d_profile_Valid a0 = some r) : PCall Go.Proofs.Tryd.prog GlS 17 [Enc.pv a0] (Enc.pv r) := by
  unfold d_profile_Valid at h
  refine pcall_of_pwp Go.Proofs.Tryd.func17 (by rfl) rfl Go.Proofs.Tryd.ntmps17 (by rfl) rfl ?_
  refine pwp_seq (r_reg ?_)
  refine e_end (by kernel_rfl) ?_
  refine q_next (pwp_seq (pwp_seq (r_reg ?_)))
  refine p_run 1 (by kernel_rfl) ?_
  refine p_len (L := (a0 : (List T_api_Segment))) (by kernel_rfl) ?_
  refine e_end (by kernel_rfl) ?_
  refine q_next ?_
  rcases o_cond h with ⟨hb, h⟩ | ⟨hb, h⟩
  · refine r_cond_t hb (by kernel_rfl) ?_
    refine pwp_seq (r_reg ?_)
    refine e_end (by kernel_rfl) ?_
    refine q_next (pwp_ret (q_seq_ret ?_))
    cases h
    exact q_ret (by kernel_rfl) (by kernel_rfl) (by kernel_rfl)
  refine r_cond_f hb (by kernel_rfl) ?_
  refine pwp_skip (q_next (pwp_seq (pwp_seq (r_reg ?_))))
  refine p_run 1 (by kernel_rfl) ?_
  refine p_len (L := (a0 : (List T_api_Segment))) (by kernel_rfl) ?_
  refine e_end (by kernel_rfl) ?_
  refine q_next (pwp_block ?_)
  obtain ⟨o18, h18, h⟩ := o_inl h
  refine r_loop2 66 0 (fun x7 => ⟨[(0, lstOf .frozen (a0 : (List T_api_Segment))), (8, lstOf .frozen (a0 : (List T_api_Segment))), (9, .int .i64 ((a0.length : Nat) : Int)), (10, .int .i64 x7)], [], [], []⟩) (fun (_ : Unit) => ⟨[], [], [], []⟩) h18 (by kernel_rfl) (fun _ => by kernel_rfl) ?_ ?_
  · rintro x7 oh17 h17
    unfold d_profile_Valid_0 at h17
    refine pwp_seq (r_reg ?_)
    refine e_end (by kernel_rfl) ?_
    refine q_next (pwp_seq ?_)
    rcases o_cond h17 with ⟨hb, h17⟩ | ⟨hb, h17⟩
    · refine r_cond_t hb (by kernel_rfl) ?_
      refine pwp_skip (q_next (pwp_seq (pwp_block (pwp_seq (r_reg ?_)))))
      refine p_run 1 (by kernel_rfl) ?_
      obtain ⟨x14, h19, h17⟩ := o_bind h17
      refine p_ix h19 (by kernel_rfl) ?_
      refine e_end (by kernel_rfl) ?_
      refine q_next (pwp_seq (pwp_seq (r_reg ?_)))
      refine p_run 2 (by kernel_rfl) ?_
      obtain ⟨r15, h20, h17⟩ := o_bind h17
      refine p_call (d_profile_coordinate_ok _ r15 h20) (by kernel_rfl) (by kernel_rfl) ?_
      obtain ⟨b16, h21, h17⟩ := o_bind h17
      refine p_run 2 (by kernel_rfl) ?_
      refine e_seg 5 24 (.bool b16) ?_ ?_
      · rcases o_cond h21 with ⟨hb, h21⟩ | ⟨hb, h21⟩
        · refine p_settle 19 hb (by kernel_rfl) (by kernel_rfl) ?_
          cases h21
          exact f_end (by kernel_rfl) (by kernel_rfl)
        refine p_settle 19 hb (by kernel_rfl) (by kernel_rfl) ?_
        refine p_run 2 (by kernel_rfl) ?_
        obtain ⟨r17, h22, h21⟩ := o_bind h21
        refine p_call (d_profile_coordinate_ok _ r17 h22) (by kernel_rfl) (by kernel_rfl) ?_
        cases h21
        exact f_end (by kernel_rfl) (by kernel_rfl)
      refine p_run 1 (by kernel_rfl) ?_
      refine e_segb 6 31 (b16 || (decide (x14.To ≤ x14.From))) (fun x hx => ?_) ?_
      · rcases b_or hx with ⟨hb, hx⟩ | ⟨hb, hx⟩
        · refine p_settle 25 hb (by kernel_rfl) (by kernel_rfl) ?_
          subst hx
          exact f_end (by kernel_rfl) (by kernel_rfl)
        refine p_settle 25 hb (by kernel_rfl) (by kernel_rfl) ?_
        subst hx
        exact f_end (by kernel_rfl) (by kernel_rfl)
      refine p_run 1 (by kernel_rfl) ?_
      refine e_segb 4 36 ((b16 || (decide (x14.To ≤ x14.From))) || (decide (x14.Grade < (-50)))) (fun x hx => ?_) ?_
      · rcases b_or hx with ⟨hb, hx⟩ | ⟨hb, hx⟩
        · refine p_settle 32 hb (by kernel_rfl) (by kernel_rfl) ?_
          subst hx
          exact f_end (by kernel_rfl) (by kernel_rfl)
        refine p_settle 32 hb (by kernel_rfl) (by kernel_rfl) ?_
        subst hx
        exact f_end (by kernel_rfl) (by kernel_rfl)
      refine p_run 1 (by kernel_rfl) ?_
      refine e_segb 4 41 (((b16 || (decide (x14.To ≤ x14.From))) || (decide (x14.Grade < (-50)))) || (decide (50 < x14.Grade))) (fun x hx => ?_) ?_
      · rcases b_or hx with ⟨hb, hx⟩ | ⟨hb, hx⟩
        · refine p_settle 37 hb (by kernel_rfl) (by kernel_rfl) ?_
          subst hx
          exact f_end (by kernel_rfl) (by kernel_rfl)
        refine p_settle 37 hb (by kernel_rfl) (by kernel_rfl) ?_
        subst hx
        exact f_end (by kernel_rfl) (by kernel_rfl)
      refine p_run 1 (by kernel_rfl) ?_
      refine e_segb 4 46 ((((b16 || (decide (x14.To ≤ x14.From))) || (decide (x14.Grade < (-50)))) || (decide (50 < x14.Grade))) || (decide (x14.Speed < 1))) (fun x hx => ?_) ?_
      · rcases b_or hx with ⟨hb, hx⟩ | ⟨hb, hx⟩
        · refine p_settle 42 hb (by kernel_rfl) (by kernel_rfl) ?_
          subst hx
          exact f_end (by kernel_rfl) (by kernel_rfl)
        refine p_settle 42 hb (by kernel_rfl) (by kernel_rfl) ?_
        subst hx
        exact f_end (by kernel_rfl) (by kernel_rfl)
      refine p_run 1 (by kernel_rfl) ?_
      refine e_segb 4 51 (((((b16 || (decide (x14.To ≤ x14.From))) || (decide (x14.Grade < (-50)))) || (decide (50 < x14.Grade))) || (decide (x14.Speed < 1))) || (decide (10000 < x14.Speed))) (fun x hx => ?_) ?_
      · rcases b_or hx with ⟨hb, hx⟩ | ⟨hb, hx⟩
        · refine p_settle 47 hb (by kernel_rfl) (by kernel_rfl) ?_
          subst hx
          exact f_end (by kernel_rfl) (by kernel_rfl)
        refine p_settle 47 hb (by kernel_rfl) (by kernel_rfl) ?_
        subst hx
        exact f_end (by kernel_rfl) (by kernel_rfl)
      refine e_nil (by kernel_rfl) ?_
      refine q_next ?_
      rcases o_cond h17 with ⟨hb, h17⟩ | ⟨hb, h17⟩
      · refine r_cond_t hb (by kernel_rfl) ?_
        refine pwp_seq (r_reg ?_)
        refine e_end (by kernel_rfl) ?_
        refine q_next (pwp_ret (q_seq_ret (q_block_ret (q_seq_ret ?_))))
        cases h17
        refine q_lout_ret fun he => ?_
        subst he
        have h23 := o_outr h
        refine q_block_ret (q_seq_ret ?_)
        cases h23
        exact q_ret (by kernel_rfl) (by kernel_rfl) (by kernel_rfl)
      refine r_cond_f hb (by kernel_rfl) ?_
      refine pwp_skip (q_next (pwp_seq ?_))
      refine r_regd (by kernel_rfl) (by kernel_rfl) ?_
      obtain ⟨b18, h24, h17⟩ := o_bind h17
      refine p_run 3 (by kernel_rfl) ?_
      refine e_seg 10 64 (.bool b18) ?_ ?_
      · rcases o_cond h24 with ⟨hb, h24⟩ | ⟨hb, h24⟩
        · refine p_settle 54 hb (by kernel_rfl) (by kernel_rfl) ?_
          refine p_run 5 (by kernel_rfl) ?_
          obtain ⟨x19, h25, h24⟩ := o_bind h24
          refine p_ix h25 (by kernel_rfl) ?_
          cases h24
          exact f_end (by kernel_rfl) (by kernel_rfl)
        refine p_settle 54 hb (by kernel_rfl) (by kernel_rfl) ?_
        cases h24
        exact f_end (by kernel_rfl) (by kernel_rfl)
      refine e_nil (by kernel_rfl) ?_
      refine q_next ?_
      rcases o_cond h17 with ⟨hb, h17⟩ | ⟨hb, h17⟩
      · refine r_cond_t hb (by kernel_rfl) ?_
        refine pwp_seq (r_reg ?_)
        refine e_end (by kernel_rfl) ?_
        refine q_next (pwp_ret (q_block_ret (q_seq_ret ?_)))
        cases h17
        refine q_lout_ret fun he => ?_
        subst he
        have h26 := o_outr h
        refine q_block_ret (q_seq_ret ?_)
        cases h26
        exact q_ret (by kernel_rfl) (by kernel_rfl) (by kernel_rfl)
      refine r_cond_f hb (by kernel_rfl) ?_
      refine pwp_skip (q_block (q_next (r_reg ?_)))
      refine e_end (by kernel_rfl) ?_
      cases h17
      exact q_lback (by kernel_rfl)
    refine r_cond_f hb (by kernel_rfl) ?_
    refine pwp_exit (q_seq_exit ?_)
    cases h17
    exact q_lexit (by kernel_rfl) (by kernel_rfl)
  rintro _ s' rfl hs
  have h := o_outl h
  refine q_block_hit ?_
  refine q_next (pwp_wkr hs ?_)
  refine pwp_seq (r_reg ?_)
  refine e_end (by kernel_rfl) ?_
  refine q_next (pwp_ret ?_)
  cases h
  exact q_ret (by kernel_rfl) (by kernel_rfl) (by kernel_rfl)

/-! profile.Of -/
noncomputable def d_profile_Of_0 (a0 : T_api_Layout) (a1 : (List T_api_Step)) : (Int × Int × (List T_api_Segment)) → Option ((Int × Int × (List T_api_Segment)) ⊕ ((List T_api_Segment) ⊕ (List T_api_Segment))) := fun (x21, x22, x23) =>
  bif decide (x22 < ((a1.length : Nat) : Int)) then (
    (ixO a1 x22).bind fun x34 =>
    ((bif decide (x34.El < 0) then some true else (
      some (decide (((a0.Elements.length : Nat) : Int) ≤ x34.El))
    )) : Option Bool).bind fun b35 =>
    bif b35 then (
      some (.inr (.inr ([] : (List T_api_Segment))))
    ) else (
      (ixO a0.Elements x34.El).bind fun x36 =>
      (d_rail_Need x36.Kind x34.In x34.Out).bind fun r37 =>
      ((bif (!r37.2) then some true else (
        (d_profile_coordinate x21).bind fun r39 =>
        some (!r39)
      )) : Option Bool).bind fun b38 =>
      bif b38 then (
        some (.inr (.inr ([] : (List T_api_Segment))))
      ) else (
        (d_profile_gradient x36 x34).bind fun r40 =>
        (d_profile_speed x36 x34).bind fun r41 =>
        (appO x23 [(T_api_Segment.mk x21 (w64 (x21 + x36.Length)) r40 r41)]).bind fun x42 =>
        some (.inl (w64 (x21 + x36.Length), w64 (x22 + 1), x42))
      )
    )
  ) else (
    some (.inr (.inl x23))
  )

noncomputable def d_profile_Of (a0 : T_api_Layout) (a1 : (List T_api_Step)) (a2 : Int) : Option (List T_api_Segment) :=
  bif decide (128 < ((a1.length : Nat) : Int)) then (
    some ([] : (List T_api_Segment))
  ) else (
    onInl (α := (List T_api_Segment)) (β := (List T_api_Segment)) (loopO (d_profile_Of_0 a0 a1) (a2, 0, ([] : (List T_api_Segment)))) fun x33 =>
    (d_profile_Valid x33).bind fun r43 =>
    bif (!r43) then (
      some ([] : (List T_api_Segment))
    ) else (
      some x33
    )
  )
theorem d_profile_Of_ok (a0 : T_api_Layout) (a1 : (List T_api_Step)) (a2 : Int) (r : (List T_api_Segment)) (h : d_profile_Of a0 a1 a2 = some r) : PCall Go.Proofs.Tryd.prog GlS 31 [Enc.pv a0, Enc.pv a1, Enc.pv a2] (Enc.pv r) := by
  unfold d_profile_Of at h
  refine pcall_of_pwp Go.Proofs.Tryd.func31 (by rfl) rfl Go.Proofs.Tryd.ntmps31 (by rfl) rfl ?_
  refine pwp_seq (r_reg ?_)
  refine e_end (by kernel_rfl) ?_
  refine q_next (pwp_seq (pwp_seq (r_reg ?_)))
  refine p_run 1 (by kernel_rfl) ?_
  refine p_len (L := (a1 : (List T_api_Step))) (by kernel_rfl) ?_
  refine e_end (by kernel_rfl) ?_
  refine q_next ?_
  rcases o_cond h with ⟨hb, h⟩ | ⟨hb, h⟩
  · refine r_cond_t hb (by kernel_rfl) ?_
    refine pwp_seq (r_reg ?_)
    refine e_end (by kernel_rfl) ?_
    refine q_next (pwp_ret (q_seq_ret ?_))
    cases h
    exact q_ret (by kernel_rfl) (by kernel_rfl) (by kernel_rfl)
  refine r_cond_f hb (by kernel_rfl) ?_
  refine pwp_skip (q_next (pwp_seq (r_reg ?_)))
  refine e_end (by kernel_rfl) ?_
  refine q_next (pwp_seq (r_reg ?_))
  refine e_end (by kernel_rfl) ?_
  refine q_next (pwp_seq (pwp_seq (r_reg ?_)))
  refine p_run 1 (by kernel_rfl) ?_
  refine p_len (L := (a1 : (List T_api_Step))) (by kernel_rfl) ?_
  refine e_end (by kernel_rfl) ?_
  refine q_next (pwp_block ?_)
  refine g_nil 7 100007 4 32 (by kernel_rfl) (by kernel_rfl) ?_
  obtain ⟨o35, h35, h⟩ := o_inl h
  refine r_loop2 81 0 (fun (x21, x22, x23) => ⟨[(3, .ref 3 0), (7, lstOf (.own 100007) (x23 : (List T_api_Segment))), (8, .int .i64 x21), (19, lstOf .frozen (a1 : (List T_api_Step))), (20, .int .i64 ((a1.length : Nat) : Int)), (21, .int .i64 x22)], [(3, .cells (cellsOf a0))], [(100007, (((x23).map cellsOf).length, 4))], []⟩) (fun x33 => ⟨[(7, lstOf (.own 100007) (x33 : (List T_api_Segment)))], [], [(100007, (((x33).map cellsOf).length, 4))], []⟩) h35 (by kernel_rfl) (fun _ => by kernel_rfl) ?_ ?_
  · rintro ⟨x21, x22, x23⟩ oh34 h34
    unfold d_profile_Of_0 at h34
    refine pwp_seq (r_reg ?_)
    refine e_end (by kernel_rfl) ?_
    refine q_next (pwp_seq ?_)
    rcases o_cond h34 with ⟨hb, h34⟩ | ⟨hb, h34⟩
    · refine r_cond_t hb (by kernel_rfl) ?_
      refine pwp_skip (q_next (pwp_seq (pwp_block (pwp_seq (r_reg ?_)))))
      obtain ⟨x34, h36, h34⟩ := o_bind h34
      refine p_ix h36 (by kernel_rfl) ?_
      refine e_end (by kernel_rfl) ?_
      refine q_next (pwp_seq (pwp_seq (r_reg ?_)))
      obtain ⟨b35, h37, h34⟩ := o_bind h34
      refine p_run 4 (by kernel_rfl) ?_
      refine e_seg 7 35 (.bool b35) ?_ ?_
      · rcases o_cond h37 with ⟨hb, h37⟩ | ⟨hb, h37⟩
        · refine p_settle 28 hb (by kernel_rfl) (by kernel_rfl) ?_
          cases h37
          exact f_end (by kernel_rfl) (by kernel_rfl)
        refine p_settle 28 hb (by kernel_rfl) (by kernel_rfl) ?_
        refine p_run 4 (by kernel_rfl) ?_
        refine p_len (L := (a0.Elements : (List T_api_Element))) (by kernel_rfl) ?_
        cases h37
        exact f_end (by kernel_rfl) (by kernel_rfl)
      refine e_nil (by kernel_rfl) ?_
      refine q_next ?_
      rcases o_cond h34 with ⟨hb, h34⟩ | ⟨hb, h34⟩
      · refine r_cond_t hb (by kernel_rfl) ?_
        refine pwp_seq (r_reg ?_)
        refine e_end (by kernel_rfl) ?_
        refine q_next (pwp_ret (q_seq_ret (q_block_ret (q_seq_ret ?_))))
        cases h34
        refine q_lout_ret fun he => ?_
        subst he
        have h38 := o_outr h
        refine q_block_ret (q_seq_ret ?_)
        cases h38
        exact q_ret (by kernel_rfl) (by kernel_rfl) (by kernel_rfl)
      refine r_cond_f hb (by kernel_rfl) ?_
      refine pwp_skip (q_next (pwp_seq (r_reg ?_)))
      refine p_run 4 (by kernel_rfl) ?_
      obtain ⟨x36, h39, h34⟩ := o_bind h34
      refine p_ix h39 (by kernel_rfl) ?_
      refine e_end (by kernel_rfl) ?_
      refine q_next (pwp_seq (pwp_seq (r_reg ?_)))
      refine p_run 6 (by kernel_rfl) ?_
      obtain ⟨r37, h40, h34⟩ := o_bind h34
      refine p_call (d_rail_Need_ok _ _ _ r37 h40) (by kernel_rfl) (by kernel_rfl) ?_
      refine e_end (by kernel_rfl) ?_
      refine q_next (pwp_seq (r_reg ?_))
      obtain ⟨b38, h41, h34⟩ := o_bind h34
      refine p_run 3 (by kernel_rfl) ?_
      refine e_seg 4 58 (.bool b38) ?_ ?_
      · rcases o_cond h41 with ⟨hb, h41⟩ | ⟨hb, h41⟩
        · refine p_settle 54 hb (by kernel_rfl) (by kernel_rfl) ?_
          cases h41
          exact f_end (by kernel_rfl) (by kernel_rfl)
        refine p_settle 54 hb (by kernel_rfl) (by kernel_rfl) ?_
        refine p_run 1 (by kernel_rfl) ?_
        obtain ⟨r39, h42, h41⟩ := o_bind h41
        refine p_call (d_profile_coordinate_ok _ r39 h42) (by kernel_rfl) (by kernel_rfl) ?_
        cases h41
        exact f_end (by kernel_rfl) (by kernel_rfl)
      refine e_nil (by kernel_rfl) ?_
      refine q_next ?_
      rcases o_cond h34 with ⟨hb, h34⟩ | ⟨hb, h34⟩
      · refine r_cond_t hb (by kernel_rfl) ?_
        refine pwp_seq (r_reg ?_)
        refine e_end (by kernel_rfl) ?_
        refine q_next (pwp_ret (q_seq_ret (q_block_ret (q_seq_ret ?_))))
        cases h34
        refine q_lout_ret fun he => ?_
        subst he
        have h43 := o_outr h
        refine q_block_ret (q_seq_ret ?_)
        cases h43
        exact q_ret (by kernel_rfl) (by kernel_rfl) (by kernel_rfl)
      refine r_cond_f hb (by kernel_rfl) ?_
      refine pwp_skip (q_next (pwp_seq (r_reg ?_)))
      refine e_end (by kernel_rfl) ?_
      refine q_next (pwp_seq ?_)
      refine r_regd (by kernel_rfl) (by kernel_rfl) ?_
      refine p_run 5 (by kernel_rfl) ?_
      obtain ⟨r40, h44, h34⟩ := o_bind h34
      refine p_call (d_profile_gradient_ok _ _ r40 h44) (by kernel_rfl) (by kernel_rfl) ?_
      refine p_run 2 (by kernel_rfl) ?_
      obtain ⟨r41, h45, h34⟩ := o_bind h34
      refine p_call (d_profile_speed_ok _ _ r41 h45) (by kernel_rfl) (by kernel_rfl) ?_
      refine p_run 2 (by kernel_rfl) ?_
      obtain ⟨x42, h46, h34⟩ := o_bind h34
      refine p_app (tk := 100007) h46 (by kernel_rfl) (by kernel_rfl) ?_
      refine e_end (by kernel_rfl) ?_
      refine q_next (r_reg ?_)
      refine e_end (by kernel_rfl) ?_
      refine q_block (q_next (r_reg ?_))
      refine e_end (by kernel_rfl) ?_
      cases h34
      exact q_lback (by kernel_rfl)
    refine r_cond_f hb (by kernel_rfl) ?_
    refine pwp_exit (q_seq_exit ?_)
    cases h34
    exact q_lexit (by kernel_rfl) (by kernel_rfl)
  rintro x33 s' rfl hs
  have h := o_outl h
  refine q_block_hit ?_
  refine q_next (pwp_wkr hs ?_)
  refine pwp_seq (pwp_seq (r_reg ?_))
  refine p_run 1 (by kernel_rfl) ?_
  obtain ⟨r43, h47, h⟩ := o_bind h
  refine p_call (d_profile_Valid_ok _ r43 h47) (by kernel_rfl) (by kernel_rfl) ?_
  refine e_end (by kernel_rfl) ?_
  refine q_next ?_
  rcases o_cond h with ⟨hb, h⟩ | ⟨hb, h⟩
  · refine r_cond_t hb (by kernel_rfl) ?_
    refine pwp_seq (r_reg ?_)
    refine e_end (by kernel_rfl) ?_
    refine q_next (pwp_ret (q_seq_ret ?_))
    cases h
    exact q_ret (by kernel_rfl) (by kernel_rfl) (by kernel_rfl)
  refine r_cond_f hb (by kernel_rfl) ?_
  refine pwp_skip (q_next (pwp_seq (r_reg ?_)))
  refine e_end (by kernel_rfl) ?_
  refine q_next (pwp_ret ?_)
  cases h
  exact q_ret (by kernel_rfl) (by kernel_rfl) (by kernel_rfl)

/-! slices.Clone[[]api.Segment,api.Segment] -/
noncomputable def d_slices_Clone_api_Segment (a0 : (List T_api_Segment)) : Option (List T_api_Segment) :=
  (appO ([] : (List T_api_Segment)) a0).bind fun x1 =>
  some x1
theorem d_slices_Clone_api_Segment_ok (a0 : (List T_api_Segment)) (r : (List T_api_Segment)) (h : d_slices_Clone_api_Segment a0 = some r) : PCall Go.Proofs.Tryd.prog GlS 38 [Enc.pv a0] (lstOf (.own 7) r) := by
  unfold d_slices_Clone_api_Segment at h
  refine pcall_of_pwp Go.Proofs.Tryd.func38 (by rfl) rfl Go.Proofs.Tryd.ntmps38 (by rfl) rfl ?_
  refine pwp_seq (r_reg ?_)
  refine e_end (by kernel_rfl) ?_
  refine q_next (pwp_seq (pwp_seq (r_reg ?_)))
  refine e_end (by kernel_rfl) ?_
  refine q_next ?_
  refine pwp_condU (e := ((a0 : (List T_api_Segment)).map cellsOf).isEmpty) (by kernel_rfl) (fun hub => ?_) ?_
  · have hN := clone_nil (ub_nil hub) h
    refine pwp_seq (r_reg ?_)
    refine e_end (by kernel_rfl) ?_
    refine q_next ?_
    refine g_nil 2 7 4 32 (by kernel_rfl) (by kernel_rfl) ?_
    refine pwp_ret (q_seq_ret ?_)
    cases hN
    exact q_ret (by kernel_rfl) (by kernel_rfl) (by kernel_rfl)
  refine pwp_skip (q_next (pwp_seq (r_reg ?_)))
  refine p_run 2 (by kernel_rfl) ?_
  obtain ⟨x1, h1, h⟩ := o_bind h
  refine p_appn (tk := 7) h1 (by kernel_rfl) ?_
  refine e_end (by kernel_rfl) ?_
  refine q_next (pwp_ret ?_)
  cases h
  exact q_ret (by kernel_rfl) (by kernel_rfl) (by kernel_rfl)
theorem d_slices_Clone_api_Segment_fz (a0 : (List T_api_Segment)) (r : (List T_api_Segment)) (h : d_slices_Clone_api_Segment a0 = some r) : PCall Go.Proofs.Tryd.prog GlS 38 [Enc.pv a0] (Enc.pv r) :=
  (d_slices_Clone_api_Segment_ok a0 r h).freeze (by kernel_rfl) (by kernel_rfl) (by kernel_rfl)

/-! restriction.Check -/
noncomputable def d_restriction_Check (a0 : T_api_Layout) (a1 : T_api_Restriction) : Option Int :=
  ((bif (((decide (a1.Id < 1)) || (decide (1073741824 < a1.Id))) || (decide (a1.El < 0))) then some true else (
    some (decide (((a0.Elements.length : Nat) : Int) ≤ a1.El))
  )) : Option Bool).bind fun b1 =>
  bif b1 then (
    some 1
  ) else (
    ((bif ((decide (a1.From < 0)) || (decide (a1.To ≤ a1.From))) then some true else (
      (ixO a0.Elements a1.El).bind fun x3 =>
      some (decide (x3.Length < a1.To))
    )) : Option Bool).bind fun b2 =>
    bif ((b2 || (decide (a1.Speed < 100))) || (decide (10000 < a1.Speed))) then (
      some 1
    ) else (
      some 0
    )
  )
theorem d_restriction_Check_ok (a0 : T_api_Layout) (a1 : T_api_Restriction) (r : Int) (h : d_restriction_Check a0 a1 = some r) : PCall Go.Proofs.Tryd.prog GlS 39 [Enc.pv a0, Enc.pv a1] (Enc.pv r) := by
  unfold d_restriction_Check at h
  refine pcall_of_pwp Go.Proofs.Tryd.func39 (by rfl) rfl Go.Proofs.Tryd.ntmps39 (by rfl) rfl ?_
  refine pwp_seq (r_reg ?_)
  refine e_end (by kernel_rfl) ?_
  refine q_next (pwp_seq (pwp_seq (r_reg ?_)))
  refine p_run 4 (by kernel_rfl) ?_
  refine e_segb 4 12 ((decide (a1.Id < 1)) || (decide (1073741824 < a1.Id))) (fun x hx => ?_) ?_
  · rcases b_or hx with ⟨hb, hx⟩ | ⟨hb, hx⟩
    · refine p_settle 8 hb (by kernel_rfl) (by kernel_rfl) ?_
      subst hx
      exact f_end (by kernel_rfl) (by kernel_rfl)
    refine p_settle 8 hb (by kernel_rfl) (by kernel_rfl) ?_
    subst hx
    exact f_end (by kernel_rfl) (by kernel_rfl)
  refine p_run 1 (by kernel_rfl) ?_
  refine e_segb 4 17 (((decide (a1.Id < 1)) || (decide (1073741824 < a1.Id))) || (decide (a1.El < 0))) (fun x hx => ?_) ?_
  · rcases b_or hx with ⟨hb, hx⟩ | ⟨hb, hx⟩
    · refine p_settle 13 hb (by kernel_rfl) (by kernel_rfl) ?_
      subst hx
      exact f_end (by kernel_rfl) (by kernel_rfl)
    refine p_settle 13 hb (by kernel_rfl) (by kernel_rfl) ?_
    subst hx
    exact f_end (by kernel_rfl) (by kernel_rfl)
  obtain ⟨b1, h1, h⟩ := o_bind h
  refine p_run 1 (by kernel_rfl) ?_
  refine e_seg 7 25 (.bool b1) ?_ ?_
  · rcases o_cond h1 with ⟨hb, h1⟩ | ⟨hb, h1⟩
    · refine p_settle 18 hb (by kernel_rfl) (by kernel_rfl) ?_
      cases h1
      exact f_end (by kernel_rfl) (by kernel_rfl)
    refine p_settle 18 hb (by kernel_rfl) (by kernel_rfl) ?_
    refine p_run 4 (by kernel_rfl) ?_
    refine p_len (L := (a0.Elements : (List T_api_Element))) (by kernel_rfl) ?_
    cases h1
    exact f_end (by kernel_rfl) (by kernel_rfl)
  refine e_nil (by kernel_rfl) ?_
  refine q_next ?_
  rcases o_cond h with ⟨hb, h⟩ | ⟨hb, h⟩
  · refine r_cond_t hb (by kernel_rfl) ?_
    refine pwp_seq (r_reg ?_)
    refine e_end (by kernel_rfl) ?_
    refine q_next (pwp_ret (q_seq_ret ?_))
    cases h
    exact q_ret (by kernel_rfl) (by kernel_rfl) (by kernel_rfl)
  refine r_cond_f hb (by kernel_rfl) ?_
  refine pwp_skip (q_next (pwp_seq (pwp_seq ?_)))
  refine r_regd (by kernel_rfl) (by kernel_rfl) ?_
  refine p_run 4 (by kernel_rfl) ?_
  refine e_segb 6 35 ((decide (a1.From < 0)) || (decide (a1.To ≤ a1.From))) (fun x hx => ?_) ?_
  · rcases b_or hx with ⟨hb, hx⟩ | ⟨hb, hx⟩
    · refine p_settle 29 hb (by kernel_rfl) (by kernel_rfl) ?_
      subst hx
      exact f_end (by kernel_rfl) (by kernel_rfl)
    refine p_settle 29 hb (by kernel_rfl) (by kernel_rfl) ?_
    subst hx
    exact f_end (by kernel_rfl) (by kernel_rfl)
  obtain ⟨b2, h2, h⟩ := o_bind h
  refine p_run 1 (by kernel_rfl) ?_
  refine e_seg 11 47 (.bool b2) ?_ ?_
  · rcases o_cond h2 with ⟨hb, h2⟩ | ⟨hb, h2⟩
    · refine p_settle 36 hb (by kernel_rfl) (by kernel_rfl) ?_
      cases h2
      exact f_end (by kernel_rfl) (by kernel_rfl)
    refine p_settle 36 hb (by kernel_rfl) (by kernel_rfl) ?_
    refine p_run 6 (by kernel_rfl) ?_
    obtain ⟨x3, h3, h2⟩ := o_bind h2
    refine p_ix h3 (by kernel_rfl) ?_
    cases h2
    exact f_end (by kernel_rfl) (by kernel_rfl)
  refine p_run 1 (by kernel_rfl) ?_
  refine e_segb 4 52 (b2 || (decide (a1.Speed < 100))) (fun x hx => ?_) ?_
  · rcases b_or hx with ⟨hb, hx⟩ | ⟨hb, hx⟩
    · refine p_settle 48 hb (by kernel_rfl) (by kernel_rfl) ?_
      subst hx
      exact f_end (by kernel_rfl) (by kernel_rfl)
    refine p_settle 48 hb (by kernel_rfl) (by kernel_rfl) ?_
    subst hx
    exact f_end (by kernel_rfl) (by kernel_rfl)
  refine p_run 1 (by kernel_rfl) ?_
  refine e_segb 4 57 ((b2 || (decide (a1.Speed < 100))) || (decide (10000 < a1.Speed))) (fun x hx => ?_) ?_
  · rcases b_or hx with ⟨hb, hx⟩ | ⟨hb, hx⟩
    · refine p_settle 53 hb (by kernel_rfl) (by kernel_rfl) ?_
      subst hx
      exact f_end (by kernel_rfl) (by kernel_rfl)
    refine p_settle 53 hb (by kernel_rfl) (by kernel_rfl) ?_
    subst hx
    exact f_end (by kernel_rfl) (by kernel_rfl)
  refine e_nil (by kernel_rfl) ?_
  refine q_next ?_
  rcases o_cond h with ⟨hb, h⟩ | ⟨hb, h⟩
  · refine r_cond_t hb (by kernel_rfl) ?_
    refine pwp_seq (r_reg ?_)
    refine e_end (by kernel_rfl) ?_
    refine q_next (pwp_ret (q_seq_ret ?_))
    cases h
    exact q_ret (by kernel_rfl) (by kernel_rfl) (by kernel_rfl)
  refine r_cond_f hb (by kernel_rfl) ?_
  refine pwp_skip (q_next (pwp_seq (r_reg ?_)))
  refine e_end (by kernel_rfl) ?_
  refine q_next (pwp_ret ?_)
  cases h
  exact q_ret (by kernel_rfl) (by kernel_rfl) (by kernel_rfl)

/-! (profile.span).part -/
noncomputable def d_profile_span_part (a0 : T_profile_span) (a1 : T_api_Segment) : Option (T_api_Segment × Bool) :=
  some ((T_api_Segment.mk (max a1.From a0.from_) (min a1.To a0.to_) a1.Grade a1.Speed), decide ((max a1.From a0.from_) < (min a1.To a0.to_)))
theorem d_profile_span_part_ok (a0 : T_profile_span) (a1 : T_api_Segment) (r : (T_api_Segment × Bool)) (h : d_profile_span_part a0 a1 = some r) : PCall Go.Proofs.Tryd.prog GlS 27 [Enc.pv a0, Enc.pv a1] (.tup [Enc.pv r.1, Enc.pv r.2]) := by
  unfold d_profile_span_part at h
  refine pcall_of_pwp Go.Proofs.Tryd.func27 (by rfl) rfl Go.Proofs.Tryd.ntmps27 (by rfl) rfl ?_
  refine pwp_seq (r_reg ?_)
  refine e_end (by kernel_rfl) ?_
  refine q_next (pwp_seq ?_)
  refine r_anyI 24 ⟨[(3, .ref 3 0), (4, .ref 4 0)], [(3, .cells ([.int .i64 (max a1.From a0.from_), .int .i64 (min a1.To a0.to_), .int .i64 a1.Grade, .int .i64 a1.Speed])), (4, .cells ([.int .i64 0, .int .i64 0, .int .i64 0, .int .i64 0]))], [], []⟩ (by kernel_rfl) ?_ ?_
  · refine pI_run [0, 1, 2, 3, 4, 5, 6, 7, 10] 5 (by kernel_rfl) ?_
    refine p_run 9 (by kernel_rfl) ?_
    refine p_nilK (by kernel_rfl) ?_
    refine pI_node (n := 4) [8, 11] (by kernel_rfl) ⟨?_, ?_, trivial⟩
    · refine ⟨_, rfl, ?_⟩
      refine p_run 1 (by kernel_rfl) ?_
      refine p_nilK (by kernel_rfl) ?_
      refine pI_run [9, 11, 12, 13] 0 (by kernel_rfl) ?_
      refine p_run 4 (by kernel_rfl) ?_
      refine p_nilK (by kernel_rfl) ?_
      exact pI_leaf (by kernel_rfl) (.of (by kernel_rfl) (by kernel_rfl))
    refine ⟨_, rfl, ?_⟩
    refine p_run 1 (by kernel_rfl) ?_
    refine p_nilK (by kernel_rfl) ?_
    refine pI_run [8, 9, 12, 13] 0 (by kernel_rfl) ?_
    refine p_run 4 (by kernel_rfl) ?_
    refine p_nilK (by kernel_rfl) ?_
    exact pI_leaf (by kernel_rfl) (.of (by kernel_rfl) (by kernel_rfl))
  refine q_next (pwp_seq ?_)
  refine r_anyI 24 ⟨[(4, .ref 4 0), (5, .bool (decide ((max a1.From a0.from_) < (min a1.To a0.to_))))], [(4, .cells ([.int .i64 (max a1.From a0.from_), .int .i64 (min a1.To a0.to_), .int .i64 a1.Grade, .int .i64 a1.Speed]))], [], []⟩ (by kernel_rfl) ?_ ?_
  · refine pI_run [0, 1, 3] 5 (by kernel_rfl) ?_
    refine p_run 3 (by kernel_rfl) ?_
    refine p_nilK (by kernel_rfl) ?_
    refine pI_node (n := 4) [2, 4, 6] (by kernel_rfl) ⟨?_, ?_, ?_, trivial⟩
    · refine ⟨_, rfl, ?_⟩
      refine p_run 1 (by kernel_rfl) ?_
      refine p_nilK (by kernel_rfl) ?_
      refine pI_node (n := 3) [4, 6] (by kernel_rfl) ⟨?_, ?_, trivial⟩
      · refine ⟨_, rfl, ?_⟩
        refine p_run 1 (by kernel_rfl) ?_
        refine p_nilK (by kernel_rfl) ?_
        refine pI_run [5, 6, 7] 0 (by kernel_rfl) ?_
        refine p_run 3 (by kernel_rfl) ?_
        refine p_nilK (by kernel_rfl) ?_
        exact pI_leaf (by kernel_rfl) (.of (by kernel_rfl) (by kernel_rfl))
      refine ⟨_, rfl, ?_⟩
      refine p_run 1 (by kernel_rfl) ?_
      refine p_nilK (by kernel_rfl) ?_
      refine pI_run [4, 5, 7] 0 (by kernel_rfl) ?_
      refine p_run 3 (by kernel_rfl) ?_
      refine p_nilK (by kernel_rfl) ?_
      exact pI_leaf (by kernel_rfl) (.of (by kernel_rfl) (by kernel_rfl))
    · refine ⟨_, rfl, ?_⟩
      refine p_run 1 (by kernel_rfl) ?_
      refine p_nilK (by kernel_rfl) ?_
      refine pI_node (n := 3) [2, 6] (by kernel_rfl) ⟨?_, ?_, trivial⟩
      · refine ⟨_, rfl, ?_⟩
        refine p_run 1 (by kernel_rfl) ?_
        refine p_nilK (by kernel_rfl) ?_
        refine pI_run [5, 6, 7] 0 (by kernel_rfl) ?_
        refine p_run 3 (by kernel_rfl) ?_
        refine p_nilK (by kernel_rfl) ?_
        exact pI_leaf (by kernel_rfl) (.of (by kernel_rfl) (by kernel_rfl))
      refine ⟨_, rfl, ?_⟩
      refine p_run 1 (by kernel_rfl) ?_
      refine p_nilK (by kernel_rfl) ?_
      refine pI_run [2, 5, 7] 0 (by kernel_rfl) ?_
      refine p_run 3 (by kernel_rfl) ?_
      refine p_nilK (by kernel_rfl) ?_
      exact pI_leaf (by kernel_rfl) (.of (by kernel_rfl) (by kernel_rfl))
    refine ⟨_, rfl, ?_⟩
    refine p_run 1 (by kernel_rfl) ?_
    refine p_nilK (by kernel_rfl) ?_
    refine pI_run [2, 4, 5, 7] 0 (by kernel_rfl) ?_
    refine p_run 4 (by kernel_rfl) ?_
    refine p_nilK (by kernel_rfl) ?_
    exact pI_leaf (by kernel_rfl) (.of (by kernel_rfl) (by kernel_rfl))
  refine q_next (pwp_ret ?_)
  cases h
  exact q_ret (by kernel_rfl) (by kernel_rfl) (by kernel_rfl)

/-! profile.Limit -/
noncomputable def d_profile_Limit_1 (a3 : Int) (x169 : T_api_Segment) (r170 : (T_api_Segment × Bool)) : ((List T_api_Segment) × Int) → Option (((List T_api_Segment) × Int) ⊕ ((List T_api_Segment) ⊕ ((List T_api_Segment) ⊕ ((Int × (List T_api_Segment)) ⊕ ((List T_api_Segment) ⊕ (List T_api_Segment)))))) := fun (x177, x178) =>
  bif decide (x178 < (([(T_api_Segment.mk x169.From r170.1.From x169.Grade x169.Speed), (T_api_Segment.mk r170.1.From r170.1.To r170.1.Grade (min r170.1.Speed a3)), (T_api_Segment.mk r170.1.To x169.To x169.Grade x169.Speed)].length : Nat) : Int)) then (
    onInl (α := (List T_api_Segment)) (β := (((List T_api_Segment) × Int) ⊕ ((List T_api_Segment) ⊕ ((List T_api_Segment) ⊕ ((Int × (List T_api_Segment)) ⊕ ((List T_api_Segment) ⊕ (List T_api_Segment))))))) (
      (ixO [(T_api_Segment.mk x169.From r170.1.From x169.Grade x169.Speed), (T_api_Segment.mk r170.1.From r170.1.To r170.1.Grade (min r170.1.Speed a3)), (T_api_Segment.mk r170.1.To x169.To x169.Grade x169.Speed)] x178).bind fun x188 =>
      bif decide (x188.From < x188.To) then (
        (appO x177 [x188]).bind fun x189 =>
        some (.inl x189)
      ) else (
        some (.inl x177)
      )
    ) fun x187 =>
    some (.inl (x187, w64 (x178 + 1)))
  ) else (
    some (.inr (.inl x177))
  )

noncomputable def d_profile_Limit_0 (a0 : (List T_api_Segment)) (a1 : Int) (a2 : Int) (a3 : Int) : (Int × (List T_api_Segment)) → Option ((Int × (List T_api_Segment)) ⊕ ((List T_api_Segment) ⊕ (List T_api_Segment))) := fun (x101, x102) =>
  bif decide (x101 < ((a0.length : Nat) : Int)) then (
    onInl (α := (List T_api_Segment)) (β := ((Int × (List T_api_Segment)) ⊕ ((List T_api_Segment) ⊕ (List T_api_Segment)))) (
      (ixO a0 x101).bind fun x169 =>
      (d_profile_span_part (T_profile_span.mk a1 a2) x169).bind fun r170 =>
      bif (!r170.2) then (
        (appO x102 [x169]).bind fun x171 =>
        some (.inl x171)
      ) else (
        onInl (α := (List T_api_Segment)) (β := ((List T_api_Segment) ⊕ ((Int × (List T_api_Segment)) ⊕ ((List T_api_Segment) ⊕ (List T_api_Segment))))) (loopO (d_profile_Limit_1 a3 x169 r170) (x102, 0)) fun x184 =>
        some (.inl x184)
      )
    ) fun x168 =>
    some (.inl (w64 (x101 + 1), x168))
  ) else (
    some (.inr (.inl x102))
  )

noncomputable def d_profile_Limit (a0 : (List T_api_Segment)) (a1 : Int) (a2 : Int) (a3 : Int) : Option (List T_api_Segment) :=
  (d_profile_Valid a0).bind fun r1 =>
  bif ((!r1) || (decide (a3 < 1))) then (
    some ([] : (List T_api_Segment))
  ) else (
    onInl (α := (List T_api_Segment)) (β := (List T_api_Segment)) (loopO (d_profile_Limit_0 a0 a1 a2 a3) (0, ([] : (List T_api_Segment)))) fun x146 =>
    bif decide (128 < ((x146.length : Nat) : Int)) then (
      some ([] : (List T_api_Segment))
    ) else (
      some x146
    )
  )
theorem d_profile_Limit_ok (a0 : (List T_api_Segment)) (a1 : Int) (a2 : Int) (a3 : Int) (r : (List T_api_Segment)) (h : d_profile_Limit a0 a1 a2 a3 = some r) : PCall Go.Proofs.Tryd.prog GlS 52 [Enc.pv a0, Enc.pv a1, Enc.pv a2, Enc.pv a3] (Enc.pv r) := by
  unfold d_profile_Limit at h
  refine pcall_of_pwp Go.Proofs.Tryd.func52 (by rfl) rfl Go.Proofs.Tryd.ntmps52 (by rfl) rfl ?_
  refine pwp_seq (r_reg ?_)
  refine e_end (by kernel_rfl) ?_
  refine q_next (pwp_seq (pwp_seq (r_reg ?_)))
  refine p_run 1 (by kernel_rfl) ?_
  obtain ⟨r1, h1, h⟩ := o_bind h
  refine p_call (d_profile_Valid_ok _ r1 h1) (by kernel_rfl) (by kernel_rfl) ?_
  refine p_run 2 (by kernel_rfl) ?_
  refine e_segb 3 24 ((!r1) || (decide (a3 < 1))) (fun x hx => ?_) ?_
  · rcases b_or hx with ⟨hb, hx⟩ | ⟨hb, hx⟩
    · refine p_settle 21 hb (by kernel_rfl) (by kernel_rfl) ?_
      subst hx
      exact f_end (by kernel_rfl) (by kernel_rfl)
    refine p_settle 21 hb (by kernel_rfl) (by kernel_rfl) ?_
    subst hx
    exact f_end (by kernel_rfl) (by kernel_rfl)
  refine e_nil (by kernel_rfl) ?_
  refine q_next ?_
  rcases o_cond h with ⟨hb, h⟩ | ⟨hb, h⟩
  · refine r_cond_t hb (by kernel_rfl) ?_
    refine pwp_seq (r_reg ?_)
    refine e_end (by kernel_rfl) ?_
    refine q_next (pwp_ret (q_seq_ret ?_))
    cases h
    exact q_ret (by kernel_rfl) (by kernel_rfl) (by kernel_rfl)
  refine r_cond_f hb (by kernel_rfl) ?_
  refine pwp_skip (q_next (pwp_seq (r_reg ?_)))
  refine e_end (by kernel_rfl) ?_
  refine q_next (pwp_seq (pwp_seq (r_reg ?_)))
  refine p_run 1 (by kernel_rfl) ?_
  refine p_len (L := (a0 : (List T_api_Segment))) (by kernel_rfl) ?_
  refine e_end (by kernel_rfl) ?_
  refine q_next (pwp_block ?_)
  refine g_nil 9 100009 4 32 (by kernel_rfl) (by kernel_rfl) ?_
  obtain ⟨o136, h136, h⟩ := o_inl h
  refine r_loop2 82 0 (fun (x101, x102) => ⟨[(1, .int .i64 a1), (2, .int .i64 a2), (3, .int .i64 a3), (9, lstOf (.own 100009) (x102 : (List T_api_Segment))), (25, lstOf .frozen (a0 : (List T_api_Segment))), (26, .int .i64 ((a0.length : Nat) : Int)), (27, .int .i64 x101)], [], [(100009, (((x102).map cellsOf).length, 4))], []⟩) (fun x146 => ⟨[(9, lstOf (.own 100009) (x146 : (List T_api_Segment)))], [], [(100009, (((x146).map cellsOf).length, 4))], []⟩) h136 (by kernel_rfl) (fun _ => by kernel_rfl) ?_ ?_
  · rintro ⟨x101, x102⟩ oh135 h135
    unfold d_profile_Limit_0 at h135
    refine pwp_seq (r_reg ?_)
    refine e_end (by kernel_rfl) ?_
    refine q_next (pwp_seq ?_)
    rcases o_cond h135 with ⟨hb, h135⟩ | ⟨hb, h135⟩
    · refine r_cond_t hb (by kernel_rfl) ?_
      refine pwp_skip (q_next ?_)
      obtain ⟨o157, h157, h135⟩ := o_inl h135
      refine r_join (o := o157) 82 (fun x168 => ⟨[(1, .int .i64 a1), (2, .int .i64 a2), (3, .int .i64 a3), (9, lstOf (.own 100009) (x168 : (List T_api_Segment))), (25, lstOf .frozen (a0 : (List T_api_Segment))), (26, .int .i64 ((a0.length : Nat) : Int)), (27, .int .i64 x101)], [], [(100009, (((x168).map cellsOf).length, 4))], []⟩) ?_ ?_
      · refine pwp_block (pwp_seq (r_reg ?_))
        obtain ⟨x169, h158, h157⟩ := o_bind h157
        refine p_ix h158 (by kernel_rfl) ?_
        refine e_end (by kernel_rfl) ?_
        refine q_next (pwp_seq (r_reg ?_))
        refine p_run 4 (by kernel_rfl) ?_
        obtain ⟨r170, h159, h157⟩ := o_bind h157
        refine p_call (d_profile_span_part_ok _ _ r170 h159) (by kernel_rfl) (by kernel_rfl) ?_
        refine e_end (by kernel_rfl) ?_
        refine q_next (pwp_seq (pwp_seq (r_reg ?_)))
        refine e_end (by kernel_rfl) ?_
        refine q_next ?_
        rcases o_cond h157 with ⟨hb, h157⟩ | ⟨hb, h157⟩
        · refine r_cond_t hb (by kernel_rfl) ?_
          refine pwp_seq (r_reg ?_)
          refine p_run 3 (by kernel_rfl) ?_
          obtain ⟨x171, h160, h157⟩ := o_bind h157
          refine p_app (tk := 100009) h160 (by kernel_rfl) (by kernel_rfl) ?_
          refine e_end (by kernel_rfl) ?_
          refine q_next (pwp_exit (q_seq_exit (q_block_hit ?_)))
          cases h157
          exact q_join (by kernel_rfl) (by kernel_rfl)
        refine r_cond_f hb (by kernel_rfl) ?_
        refine pwp_skip (q_next (pwp_seq ?_))
        refine r_anyI 82 ⟨[(1, .int .i64 a1), (2, .int .i64 a2), (3, .int .i64 a3), (9, lstOf (.own 100009) (x102 : (List T_api_Segment))), (12, .ref 12 0), (14, .ref 14 0), (15, .ref 15 0), (25, lstOf .frozen (a0 : (List T_api_Segment))), (26, .int .i64 ((a0.length : Nat) : Int)), (27, .int .i64 x101)], [(12, .cells (cellsOf r170.1)), (14, .cells (cellsOf x169)), (15, .cells (cellsOf x169))], [(100009, (((x102).map cellsOf).length, 4))], []⟩ (by kernel_rfl) ?_ ?_
        · refine pI_run [0] 5 (by kernel_rfl) ?_
          refine p_run 1 (by kernel_rfl) ?_
          refine p_nilK (by kernel_rfl) ?_
          refine pI_node (n := 4) [1, 2, 3] (by kernel_rfl) ⟨?_, ?_, ?_, trivial⟩
          · refine ⟨_, rfl, ?_⟩
            refine p_run 1 (by kernel_rfl) ?_
            refine p_nilK (by kernel_rfl) ?_
            refine pI_run [2, 3, 4, 5] 0 (by kernel_rfl) ?_
            refine p_run 4 (by kernel_rfl) ?_
            refine p_nilK (by kernel_rfl) ?_
            exact pI_leaf (by kernel_rfl) (.of (by kernel_rfl) (by kernel_rfl))
          · refine ⟨_, rfl, ?_⟩
            refine p_run 1 (by kernel_rfl) ?_
            refine p_nilK (by kernel_rfl) ?_
            refine pI_node (n := 3) [1, 3] (by kernel_rfl) ⟨?_, ?_, trivial⟩
            · refine ⟨_, rfl, ?_⟩
              refine p_run 1 (by kernel_rfl) ?_
              refine p_nilK (by kernel_rfl) ?_
              refine pI_run [3, 4, 5] 0 (by kernel_rfl) ?_
              refine p_run 3 (by kernel_rfl) ?_
              refine p_nilK (by kernel_rfl) ?_
              exact pI_leaf (by kernel_rfl) (.of (by kernel_rfl) (by kernel_rfl))
            refine ⟨_, rfl, ?_⟩
            refine p_run 1 (by kernel_rfl) ?_
            refine p_nilK (by kernel_rfl) ?_
            refine pI_node (n := 2) [1, 4] (by kernel_rfl) ⟨?_, ?_, trivial⟩
            · refine ⟨_, rfl, ?_⟩
              refine p_run 1 (by kernel_rfl) ?_
              refine p_nilK (by kernel_rfl) ?_
              refine pI_run [4, 5] 0 (by kernel_rfl) ?_
              refine p_run 2 (by kernel_rfl) ?_
              refine p_nilK (by kernel_rfl) ?_
              exact pI_leaf (by kernel_rfl) (.of (by kernel_rfl) (by kernel_rfl))
            refine ⟨_, rfl, ?_⟩
            refine p_run 1 (by kernel_rfl) ?_
            refine p_nilK (by kernel_rfl) ?_
            refine pI_run [1, 5] 0 (by kernel_rfl) ?_
            refine p_run 2 (by kernel_rfl) ?_
            refine p_nilK (by kernel_rfl) ?_
            exact pI_leaf (by kernel_rfl) (.of (by kernel_rfl) (by kernel_rfl))
          refine ⟨_, rfl, ?_⟩
          refine p_run 1 (by kernel_rfl) ?_
          refine p_nilK (by kernel_rfl) ?_
          refine pI_node (n := 3) [1, 2] (by kernel_rfl) ⟨?_, ?_, trivial⟩
          · refine ⟨_, rfl, ?_⟩
            refine p_run 1 (by kernel_rfl) ?_
            refine p_nilK (by kernel_rfl) ?_
            refine pI_run [2, 4, 5] 0 (by kernel_rfl) ?_
            refine p_run 3 (by kernel_rfl) ?_
            refine p_nilK (by kernel_rfl) ?_
            exact pI_leaf (by kernel_rfl) (.of (by kernel_rfl) (by kernel_rfl))
          refine ⟨_, rfl, ?_⟩
          refine p_run 1 (by kernel_rfl) ?_
          refine p_nilK (by kernel_rfl) ?_
          refine pI_node (n := 2) [1, 4] (by kernel_rfl) ⟨?_, ?_, trivial⟩
          · refine ⟨_, rfl, ?_⟩
            refine p_run 1 (by kernel_rfl) ?_
            refine p_nilK (by kernel_rfl) ?_
            refine pI_run [4, 5] 0 (by kernel_rfl) ?_
            refine p_run 2 (by kernel_rfl) ?_
            refine p_nilK (by kernel_rfl) ?_
            exact pI_leaf (by kernel_rfl) (.of (by kernel_rfl) (by kernel_rfl))
          refine ⟨_, rfl, ?_⟩
          refine p_run 1 (by kernel_rfl) ?_
          refine p_nilK (by kernel_rfl) ?_
          refine pI_run [1, 5] 0 (by kernel_rfl) ?_
          refine p_run 2 (by kernel_rfl) ?_
          refine p_nilK (by kernel_rfl) ?_
          exact pI_leaf (by kernel_rfl) (.of (by kernel_rfl) (by kernel_rfl))
        refine q_next (pwp_seq ?_)
        refine r_anyI 82 ⟨[(1, .int .i64 a1), (2, .int .i64 a2), (3, .int .i64 a3), (9, lstOf (.own 100009) (x102 : (List T_api_Segment))), (12, .ref 12 0), (14, .ref 14 0), (15, .ref 15 0), (25, lstOf .frozen (a0 : (List T_api_Segment))), (26, .int .i64 ((a0.length : Nat) : Int)), (27, .int .i64 x101)], [(12, .cells (cellsOf r170.1)), (14, .cells ([.int .i64 x169.From, .int .i64 r170.1.From, .int .i64 x169.Grade, .int .i64 x169.Speed])), (15, .cells ([.int .i64 r170.1.To, .int .i64 x169.To, .int .i64 x169.Grade, .int .i64 x169.Speed]))], [(100009, (((x102).map cellsOf).length, 4))], []⟩ (by kernel_rfl) ?_ ?_
        · refine pI_run [0, 1, 2, 4] 4 (by kernel_rfl) ?_
          refine p_run 4 (by kernel_rfl) ?_
          refine p_nilK (by kernel_rfl) ?_
          refine pI_node (n := 3) [3, 5] (by kernel_rfl) ⟨?_, ?_, trivial⟩
          · refine ⟨_, rfl, ?_⟩
            refine p_run 1 (by kernel_rfl) ?_
            refine p_nilK (by kernel_rfl) ?_
            refine pI_run [5, 6, 7] 0 (by kernel_rfl) ?_
            refine p_run 3 (by kernel_rfl) ?_
            refine p_nilK (by kernel_rfl) ?_
            exact pI_leaf (by kernel_rfl) (.of (by kernel_rfl) (by kernel_rfl))
          refine ⟨_, rfl, ?_⟩
          refine p_run 1 (by kernel_rfl) ?_
          refine p_nilK (by kernel_rfl) ?_
          refine pI_run [3, 6, 7] 0 (by kernel_rfl) ?_
          refine p_run 3 (by kernel_rfl) ?_
          refine p_nilK (by kernel_rfl) ?_
          exact pI_leaf (by kernel_rfl) (.of (by kernel_rfl) (by kernel_rfl))
        refine q_next (pwp_seq (r_reg ?_))
        refine e_end (by kernel_rfl) ?_
        refine q_next (pwp_seq (r_reg ?_))
        refine p_run 4 (by kernel_rfl) ?_
        refine p_len (L := ([(T_api_Segment.mk x169.From r170.1.From x169.Grade x169.Speed), (T_api_Segment.mk r170.1.From r170.1.To r170.1.Grade (min r170.1.Speed a3)), (T_api_Segment.mk r170.1.To x169.To x169.Grade x169.Speed)] : (List T_api_Segment))) (by kernel_rfl) ?_
        refine e_end (by kernel_rfl) ?_
        refine q_next (pwp_block ?_)
        obtain ⟨o172, h172, h157⟩ := o_inl h157
        refine r_loop2 82 2 (fun (x177, x178) => ⟨[(1, .int .i64 a1), (2, .int .i64 a2), (3, .int .i64 a3), (9, lstOf (.own 100009) (x177 : (List T_api_Segment))), (25, lstOf .frozen (a0 : (List T_api_Segment))), (26, .int .i64 ((a0.length : Nat) : Int)), (27, .int .i64 x101), (61, lstOf .full ([(T_api_Segment.mk x169.From r170.1.From x169.Grade x169.Speed), (T_api_Segment.mk r170.1.From r170.1.To r170.1.Grade (min r170.1.Speed a3)), (T_api_Segment.mk r170.1.To x169.To x169.Grade x169.Speed)] : (List T_api_Segment))), (62, .int .i64 (([(T_api_Segment.mk x169.From r170.1.From x169.Grade x169.Speed), (T_api_Segment.mk r170.1.From r170.1.To r170.1.Grade (min r170.1.Speed a3)), (T_api_Segment.mk r170.1.To x169.To x169.Grade x169.Speed)].length : Nat) : Int)), (63, .int .i64 x178)], [], [(100009, (((x177).map cellsOf).length, 4))], []⟩) (fun x184 => ⟨[(1, .int .i64 a1), (2, .int .i64 a2), (3, .int .i64 a3), (9, lstOf (.own 100009) (x184 : (List T_api_Segment))), (25, lstOf .frozen (a0 : (List T_api_Segment))), (26, .int .i64 ((a0.length : Nat) : Int)), (27, .int .i64 x101)], [], [(100009, (((x184).map cellsOf).length, 4))], []⟩) h172 (by kernel_rfl) (fun _ => by kernel_rfl) ?_ ?_
        · rintro ⟨x177, x178⟩ oh171 h171
          unfold d_profile_Limit_1 at h171
          refine pwp_seq (r_reg ?_)
          refine e_end (by kernel_rfl) ?_
          refine q_next (pwp_seq ?_)
          rcases o_cond h171 with ⟨hb, h171⟩ | ⟨hb, h171⟩
          · refine r_cond_t hb (by kernel_rfl) ?_
            refine pwp_skip (q_next ?_)
            obtain ⟨o175, h175, h171⟩ := o_inl h171
            refine r_join (o := o175) 82 (fun x187 => ⟨[(1, .int .i64 a1), (2, .int .i64 a2), (3, .int .i64 a3), (9, lstOf (.own 100009) (x187 : (List T_api_Segment))), (25, lstOf .frozen (a0 : (List T_api_Segment))), (26, .int .i64 ((a0.length : Nat) : Int)), (27, .int .i64 x101), (61, lstOf .full ([(T_api_Segment.mk x169.From r170.1.From x169.Grade x169.Speed), (T_api_Segment.mk r170.1.From r170.1.To r170.1.Grade (min r170.1.Speed a3)), (T_api_Segment.mk r170.1.To x169.To x169.Grade x169.Speed)] : (List T_api_Segment))), (62, .int .i64 (([(T_api_Segment.mk x169.From r170.1.From x169.Grade x169.Speed), (T_api_Segment.mk r170.1.From r170.1.To r170.1.Grade (min r170.1.Speed a3)), (T_api_Segment.mk r170.1.To x169.To x169.Grade x169.Speed)].length : Nat) : Int)), (63, .int .i64 x178)], [], [(100009, (((x187).map cellsOf).length, 4))], []⟩) ?_ ?_
            · refine pwp_block (pwp_seq (r_reg ?_))
              obtain ⟨x188, h176, h175⟩ := o_bind h175
              refine p_ix h176 (by kernel_rfl) ?_
              refine e_end (by kernel_rfl) ?_
              refine q_next (pwp_seq (r_reg ?_))
              refine e_end (by kernel_rfl) ?_
              refine q_next ?_
              rcases o_cond h175 with ⟨hb, h175⟩ | ⟨hb, h175⟩
              · refine r_cond_t hb (by kernel_rfl) ?_
                refine r_reg ?_
                refine p_run 3 (by kernel_rfl) ?_
                obtain ⟨x189, h177, h175⟩ := o_bind h175
                refine p_app (tk := 100009) h177 (by kernel_rfl) (by kernel_rfl) ?_
                refine e_end (by kernel_rfl) ?_
                refine q_block ?_
                cases h175
                exact q_join (by kernel_rfl) (by kernel_rfl)
              refine r_cond_f hb (by kernel_rfl) ?_
              refine pwp_skip (q_block ?_)
              cases h175
              exact q_join (by kernel_rfl) (by kernel_rfl)
            rintro x187 rfl
            have h171 := o_outl h171
            refine r_reg ?_
            refine e_end (by kernel_rfl) ?_
            cases h171
            exact q_lback (by kernel_rfl)
          refine r_cond_f hb (by kernel_rfl) ?_
          refine pwp_exit (q_seq_exit ?_)
          cases h171
          exact q_lexit (by kernel_rfl) (by kernel_rfl)
        rintro x184 s' rfl hs
        have h157 := o_outl h157
        refine q_block_hit (q_block ?_)
        cases h157
        exact q_join_w hs (by kernel_rfl) (by kernel_rfl)
      rintro x168 rfl
      have h135 := o_outl h135
      refine r_reg ?_
      refine e_end (by kernel_rfl) ?_
      cases h135
      exact q_lback (by kernel_rfl)
    refine r_cond_f hb (by kernel_rfl) ?_
    refine pwp_exit (q_seq_exit ?_)
    cases h135
    exact q_lexit (by kernel_rfl) (by kernel_rfl)
  rintro x146 s' rfl hs
  have h := o_outl h
  refine q_block_hit ?_
  refine q_next (pwp_wkr hs ?_)
  refine pwp_seq (pwp_seq (r_reg ?_))
  refine p_run 1 (by kernel_rfl) ?_
  refine p_len (L := (x146 : (List T_api_Segment))) (by kernel_rfl) ?_
  refine e_end (by kernel_rfl) ?_
  refine q_next ?_
  rcases o_cond h with ⟨hb, h⟩ | ⟨hb, h⟩
  · refine r_cond_t hb (by kernel_rfl) ?_
    refine pwp_seq (r_reg ?_)
    refine e_end (by kernel_rfl) ?_
    refine q_next (pwp_ret (q_seq_ret ?_))
    cases h
    exact q_ret (by kernel_rfl) (by kernel_rfl) (by kernel_rfl)
  refine r_cond_f hb (by kernel_rfl) ?_
  refine pwp_skip (q_next (pwp_seq (r_reg ?_)))
  refine e_end (by kernel_rfl) ?_
  refine q_next (pwp_ret ?_)
  cases h
  exact q_ret (by kernel_rfl) (by kernel_rfl) (by kernel_rfl)

/-! restriction.lowered -/
noncomputable def d_restriction_lowered_0 (a0 : T_api_Layout) (a1 : (List T_api_Step)) (a4 : T_api_Restriction) : ((List T_api_Segment) × Int × Int) → Option (((List T_api_Segment) × Int × Int) ⊕ ((List T_api_Segment) ⊕ (Option (List T_api_Segment)))) := fun (x31, x32, x33) =>
  bif decide (x33 < ((a1.length : Nat) : Int)) then (
    onInl (α := ((List T_api_Segment) × Int)) (β := (((List T_api_Segment) × Int × Int) ⊕ ((List T_api_Segment) ⊕ (Option (List T_api_Segment))))) (
      (ixO a1 x33).bind fun x81 =>
      ((bif decide (x81.El < 0) then some true else (
        some (decide (((a0.Elements.length : Nat) : Int) ≤ x81.El))
      )) : Option Bool).bind fun b82 =>
      bif b82 then (
        some (.inl (x31, x32))
      ) else (
        (ixO a0.Elements x81.El).bind fun x83 =>
        onInl (α := (List T_api_Segment)) (β := (((List T_api_Segment) × Int) ⊕ (((List T_api_Segment) × Int × Int) ⊕ ((List T_api_Segment) ⊕ (Option (List T_api_Segment)))))) (
          bif decide (x81.El = a4.El) then (
            onInl (α := (Int × Int)) (β := ((List T_api_Segment) ⊕ (((List T_api_Segment) × Int) ⊕ (((List T_api_Segment) × Int × Int) ⊕ ((List T_api_Segment) ⊕ (Option (List T_api_Segment))))))) (
              bif ((decide (x81.In = 0)) || ((decide (x81.In = 2)) && (decide (x83.Kind = 3)))) then (
                some (.inl (w64 (x32 + a4.From), w64 (x32 + a4.To)))
              ) else (
                some (.inl (w64 ((w64 (x32 + x83.Length)) - a4.To), w64 ((w64 (x32 + x83.Length)) - a4.From)))
              )
            ) fun (x90, x91) =>
            (d_profile_Limit x31 x90 x91 a4.Speed).bind fun r92 =>
            onInl (α := Unit) (β := ((List T_api_Segment) ⊕ (((List T_api_Segment) × Int) ⊕ (((List T_api_Segment) × Int × Int) ⊕ ((List T_api_Segment) ⊕ (Option (List T_api_Segment))))))) (
              ((bif decide (((r92.length : Nat) : Int) = 0) then (
                some (decide (0 < ((x31.length : Nat) : Int)))
              ) else some false) : Option Bool).bind fun b94 =>
              bif b94 then (
                some (.inr (.inr (.inr (.inr (.inr none)))))
              ) else (
                some (.inl ())
              )
            ) fun _ =>
            some (.inl r92)
          ) else (
            some (.inl x31)
          )
        ) fun x89 =>
        some (.inl (x89, w64 (x32 + x83.Length)))
      )
    ) fun (x79, x80) =>
    some (.inl (x79, x80, w64 (x33 + 1)))
  ) else (
    some (.inr (.inl x31))
  )

noncomputable def d_restriction_lowered (a0 : T_api_Layout) (a1 : (List T_api_Step)) (a2 : Int) (a3 : (List T_api_Segment)) (a4 : T_api_Restriction) : Option (Option (List T_api_Segment)) :=
  onInl (α := (List T_api_Segment)) (β := (Option (List T_api_Segment))) (loopO (d_restriction_lowered_0 a0 a1 a4) (a3, a2, 0)) fun x64 =>
  some (some x64)
theorem d_restriction_lowered_ok (a0 : T_api_Layout) (a1 : (List T_api_Step)) (a2 : Int) (a3 : (List T_api_Segment)) (a4 : T_api_Restriction) (r : (Option (List T_api_Segment))) (h : d_restriction_lowered a0 a1 a2 a3 a4 = some r) : PCallP Go.Proofs.Tryd.prog GlS 40 [Enc.pv a0, Enc.pv a1, Enc.pv a2, Enc.pv a3, Enc.pv a4] (r.map fun r => Enc.pv r) := by
  unfold d_restriction_lowered at h
  refine pcallp_of_pwp Go.Proofs.Tryd.func40 (by rfl) rfl Go.Proofs.Tryd.ntmps40 (by rfl) rfl ?_
  refine pwp_seq (r_reg ?_)
  refine e_end (by kernel_rfl) ?_
  refine q_next (pwp_seq (r_reg ?_))
  refine e_end (by kernel_rfl) ?_
  refine q_next (pwp_seq (pwp_seq (r_reg ?_)))
  refine p_run 1 (by kernel_rfl) ?_
  refine p_len (L := (a1 : (List T_api_Step))) (by kernel_rfl) ?_
  refine e_end (by kernel_rfl) ?_
  refine q_next (pwp_block ?_)
  obtain ⟨o124, h124, h⟩ := o_inl h
  refine r_loop2 101 0 (fun (x31, x32, x33) => ⟨[(3, lstOf .frozen (x31 : (List T_api_Segment))), (5, .ref 5 0), (9, .ref 9 0), (11, .int .i64 x32), (20, lstOf .frozen (a1 : (List T_api_Step))), (21, .int .i64 ((a1.length : Nat) : Int)), (22, .int .i64 x33)], [(5, .cells (cellsOf a0)), (9, .cells (cellsOf a4))], [], []⟩) (fun x64 => ⟨[(3, lstOf .frozen (x64 : (List T_api_Segment)))], [], [], []⟩) h124 (by kernel_rfl) (fun _ => by kernel_rfl) ?_ ?_
  · rintro ⟨x31, x32, x33⟩ oh123 h123
    unfold d_restriction_lowered_0 at h123
    refine pwp_seq (r_reg ?_)
    refine e_end (by kernel_rfl) ?_
    refine q_next (pwp_seq ?_)
    rcases o_cond h123 with ⟨hb, h123⟩ | ⟨hb, h123⟩
    · refine r_cond_t hb (by kernel_rfl) ?_
      refine pwp_skip (q_next ?_)
      obtain ⟨o155, h155, h123⟩ := o_inl h123
      refine r_join (o := o155) 101 (fun (x79, x80) => ⟨[(3, lstOf .frozen (x79 : (List T_api_Segment))), (5, .ref 5 0), (9, .ref 9 0), (11, .int .i64 x80), (20, lstOf .frozen (a1 : (List T_api_Step))), (21, .int .i64 ((a1.length : Nat) : Int)), (22, .int .i64 x33)], [(5, .cells (cellsOf a0)), (9, .cells (cellsOf a4))], [], []⟩) ?_ ?_
      · refine pwp_block (pwp_seq (r_reg ?_))
        obtain ⟨x81, h156, h155⟩ := o_bind h155
        refine p_ix h156 (by kernel_rfl) ?_
        refine e_end (by kernel_rfl) ?_
        refine q_next (pwp_seq (pwp_seq (r_reg ?_)))
        obtain ⟨b82, h157, h155⟩ := o_bind h155
        refine p_run 4 (by kernel_rfl) ?_
        refine e_seg 7 36 (.bool b82) ?_ ?_
        · rcases o_cond h157 with ⟨hb, h157⟩ | ⟨hb, h157⟩
          · refine p_settle 29 hb (by kernel_rfl) (by kernel_rfl) ?_
            cases h157
            exact f_end (by kernel_rfl) (by kernel_rfl)
          refine p_settle 29 hb (by kernel_rfl) (by kernel_rfl) ?_
          refine p_run 4 (by kernel_rfl) ?_
          refine p_len (L := (a0.Elements : (List T_api_Element))) (by kernel_rfl) ?_
          cases h157
          exact f_end (by kernel_rfl) (by kernel_rfl)
        refine e_nil (by kernel_rfl) ?_
        refine q_next ?_
        rcases o_cond h155 with ⟨hb, h155⟩ | ⟨hb, h155⟩
        · refine r_cond_t hb (by kernel_rfl) ?_
          refine pwp_exit (q_seq_exit (q_block_hit ?_))
          cases h155
          exact q_join (by kernel_rfl) (by kernel_rfl)
        refine r_cond_f hb (by kernel_rfl) ?_
        refine pwp_skip (q_next (pwp_seq (r_reg ?_)))
        refine p_run 4 (by kernel_rfl) ?_
        obtain ⟨x83, h158, h155⟩ := o_bind h155
        refine p_ix h158 (by kernel_rfl) ?_
        refine e_end (by kernel_rfl) ?_
        refine q_next (pwp_seq (r_reg ?_))
        refine e_end (by kernel_rfl) ?_
        refine q_next ?_
        obtain ⟨o172, h172, h155⟩ := o_inl h155
        refine r_join (o := o172) 101 (fun x89 => ⟨[(3, lstOf .frozen (x89 : (List T_api_Segment))), (5, .ref 5 0), (9, .ref 9 0), (15, .int .i64 (w64 (x32 + x83.Length))), (20, lstOf .frozen (a1 : (List T_api_Step))), (21, .int .i64 ((a1.length : Nat) : Int)), (22, .int .i64 x33)], [(5, .cells (cellsOf a0)), (9, .cells (cellsOf a4))], [], []⟩) ?_ ?_
        · refine pwp_seq (r_reg ?_)
          refine e_end (by kernel_rfl) ?_
          refine q_next ?_
          rcases o_cond h172 with ⟨hb, h172⟩ | ⟨hb, h172⟩
          · refine r_cond_t hb (by kernel_rfl) ?_
            refine pwp_seq ?_
            refine r_regd (by kernel_rfl) (by kernel_rfl) ?_
            refine e_end (by kernel_rfl) ?_
            refine q_next ?_
            obtain ⟨o173, h173, h172⟩ := o_inl h172
            refine r_join (o := o173) 101 (fun (x90, x91) => ⟨[(3, lstOf .frozen (x31 : (List T_api_Segment))), (5, .ref 5 0), (9, .ref 9 0), (15, .int .i64 (w64 (x32 + x83.Length))), (16, .int .i64 x90), (17, .int .i64 x91), (20, lstOf .frozen (a1 : (List T_api_Step))), (21, .int .i64 ((a1.length : Nat) : Int)), (22, .int .i64 x33)], [(5, .cells (cellsOf a0)), (9, .cells (cellsOf a4))], [], []⟩) ?_ ?_
            · refine pwp_seq (r_reg ?_)
              refine p_run 4 (by kernel_rfl) ?_
              refine e_segb 9 72 ((decide (x81.In = 0)) || ((decide (x81.In = 2)) && (decide (x83.Kind = 3)))) (fun x hx => ?_) ?_
              · rcases b_or hx with ⟨hb, hx⟩ | ⟨hb, hx⟩
                · refine p_settle 63 hb (by kernel_rfl) (by kernel_rfl) ?_
                  subst hx
                  exact f_end (by kernel_rfl) (by kernel_rfl)
                refine p_settle 63 hb (by kernel_rfl) (by kernel_rfl) ?_
                refine p_run 4 (by kernel_rfl) ?_
                refine f_segb 4 71 ((decide (x81.In = 2)) && (decide (x83.Kind = 3))) (fun x hx => ?_) ?_
                · rcases b_and hx with ⟨hb, hx⟩ | ⟨hb, hx⟩
                  · refine p_settle 67 hb (by kernel_rfl) (by kernel_rfl) ?_
                    subst hx
                    exact f_end (by kernel_rfl) (by kernel_rfl)
                  refine p_settle 67 hb (by kernel_rfl) (by kernel_rfl) ?_
                  subst hx
                  exact f_end (by kernel_rfl) (by kernel_rfl)
                subst hx
                exact f_end (by kernel_rfl) (by kernel_rfl)
              refine e_nil (by kernel_rfl) ?_
              refine q_next ?_
              rcases o_cond h173 with ⟨hb, h173⟩ | ⟨hb, h173⟩
              · refine r_cond_t hb (by kernel_rfl) ?_
                refine r_regd (by kernel_rfl) (by kernel_rfl) ?_
                refine e_end (by kernel_rfl) ?_
                cases h173
                exact q_join (by kernel_rfl) (by kernel_rfl)
              refine r_cond_f hb (by kernel_rfl) ?_
              refine pwp_skip ?_
              cases h173
              exact q_join (by kernel_rfl) (by kernel_rfl)
            rintro ⟨x90, x91⟩ rfl
            have h172 := o_outl h172
            refine pwp_seq (r_reg ?_)
            refine p_run 5 (by kernel_rfl) ?_
            obtain ⟨r92, h174, h172⟩ := o_bind h172
            refine p_call (d_profile_Limit_ok _ _ _ _ r92 h174) (by kernel_rfl) (by kernel_rfl) ?_
            refine e_end (by kernel_rfl) ?_
            refine q_next ?_
            obtain ⟨o180, h180, h172⟩ := o_inl h172
            refine r_join (o := o180) 101 (fun (_ : Unit) => ⟨[(5, .ref 5 0), (9, .ref 9 0), (15, .int .i64 (w64 (x32 + x83.Length))), (18, lstOf .frozen (r92 : (List T_api_Segment))), (20, lstOf .frozen (a1 : (List T_api_Step))), (21, .int .i64 ((a1.length : Nat) : Int)), (22, .int .i64 x33)], [(5, .cells (cellsOf a0)), (9, .cells (cellsOf a4))], [], []⟩) ?_ ?_
            · refine pwp_seq (r_reg ?_)
              refine p_run 1 (by kernel_rfl) ?_
              refine p_len (L := (r92 : (List T_api_Segment))) (by kernel_rfl) ?_
              obtain ⟨b94, h181, h180⟩ := o_bind h180
              refine p_run 2 (by kernel_rfl) ?_
              refine e_seg 4 94 (.bool b94) ?_ ?_
              · rcases o_cond h181 with ⟨hb, h181⟩ | ⟨hb, h181⟩
                · refine p_settle 90 hb (by kernel_rfl) (by kernel_rfl) ?_
                  refine p_run 1 (by kernel_rfl) ?_
                  refine p_len (L := (x31 : (List T_api_Segment))) (by kernel_rfl) ?_
                  cases h181
                  exact f_end (by kernel_rfl) (by kernel_rfl)
                refine p_settle 90 hb (by kernel_rfl) (by kernel_rfl) ?_
                cases h181
                exact f_end (by kernel_rfl) (by kernel_rfl)
              refine e_nil (by kernel_rfl) ?_
              refine q_next ?_
              rcases o_cond h180 with ⟨hb, h180⟩ | ⟨hb, h180⟩
              · refine r_cond_t hb (by kernel_rfl) ?_
                refine r_regE ?_
                refine wlE_run 0 1 ?_
                refine e_end (by kernel_rfl) ?_
                refine p_pan2 (d := 96) (by kernel_rfl) fun ch hpan => ?_
                cases h180
                refine q_jout_pan ?_
                have h182 := o_outr h172
                cases h182
                refine q_jout_pan ?_
                have h183 := o_outr h155
                refine q_block_pan ?_
                cases h183
                refine q_jout_pan ?_
                have h184 := o_outr h123
                cases h184
                refine q_lout_pan fun he => ?_
                subst he
                have h185 := o_outr h
                refine q_block_pan (q_seq_pan ?_)
                cases h185
                exact qp_pan hpan
              refine r_cond_f hb (by kernel_rfl) ?_
              refine pwp_skip ?_
              cases h180
              exact q_join (by kernel_rfl) (by kernel_rfl)
            rintro _ rfl
            have h172 := o_outl h172
            refine r_reg ?_
            refine e_end (by kernel_rfl) ?_
            cases h172
            exact q_join (by kernel_rfl) (by kernel_rfl)
          refine r_cond_f hb (by kernel_rfl) ?_
          refine pwp_skip ?_
          cases h172
          exact q_join (by kernel_rfl) (by kernel_rfl)
        rintro x89 rfl
        have h155 := o_outl h155
        refine r_reg ?_
        refine e_end (by kernel_rfl) ?_
        refine q_block ?_
        cases h155
        exact q_join (by kernel_rfl) (by kernel_rfl)
      rintro ⟨x79, x80⟩ rfl
      have h123 := o_outl h123
      refine r_reg ?_
      refine e_end (by kernel_rfl) ?_
      cases h123
      exact q_lback (by kernel_rfl)
    refine r_cond_f hb (by kernel_rfl) ?_
    refine pwp_exit (q_seq_exit ?_)
    cases h123
    exact q_lexit (by kernel_rfl) (by kernel_rfl)
  rintro x64 s' rfl hs
  have h := o_outl h
  refine q_block_hit ?_
  refine q_next (pwp_wkr hs ?_)
  refine pwp_seq (r_reg ?_)
  refine e_end (by kernel_rfl) ?_
  refine q_next (pwp_ret ?_)
  cases h
  exact ⟨_, rfl, q_ret (by kernel_rfl) (by kernel_rfl) (by kernel_rfl)⟩

/-! restriction.Apply -/
noncomputable def d_restriction_Apply_0 (a0 : (List T_api_Restriction)) (a1 : (List T_api_Step)) (a2 : Int) (a3 : T_api_Layout) : (Int × (List T_api_Segment)) → Option ((Int × (List T_api_Segment)) ⊕ ((List T_api_Segment) ⊕ (List T_api_Segment))) := fun (x24, x25) =>
  bif decide (x24 < ((a0.length : Nat) : Int)) then (
    onInl (α := (List T_api_Segment)) (β := ((Int × (List T_api_Segment)) ⊕ ((List T_api_Segment) ⊕ (List T_api_Segment)))) (
      (ixO a0 x24).bind fun x41 =>
      ((bif x41.Active then (
        (d_restriction_Check a3 x41).bind fun r43 =>
        some (decide (r43 = 0))
      ) else some false) : Option Bool).bind fun b42 =>
      bif b42 then (
        panB (d_restriction_lowered a3 a1 a2 x25 x41) (
          some (.inr (.inr (.inr ([] : (List T_api_Segment)))))
        ) fun r44 =>
        some (.inl r44)
      ) else (
        some (.inl x25)
      )
    ) fun x40 =>
    some (.inl (w64 (x24 + 1), x40))
  ) else (
    some (.inr (.inl x25))
  )

noncomputable def d_restriction_Apply (a0 : (List T_api_Restriction)) (a1 : (List T_api_Step)) (a2 : Int) (a3 : T_api_Layout) (a4 : (List T_api_Segment)) : Option (List T_api_Segment) :=
  (d_slices_Clone_api_Segment a4).bind fun r1 =>
  (d_profile_Valid a4).bind fun r2 =>
  ((bif (!r2) then some true else (
    (d_walk_Valid a3 a1).bind fun r4 =>
    some (!r4)
  )) : Option Bool).bind fun b3 =>
  bif ((b3 || (decide (a2 < (-1073741824)))) || (decide (1073741824 < a2))) then (
    some r1
  ) else (
    onInl (α := (List T_api_Segment)) (β := (List T_api_Segment)) (loopO (d_restriction_Apply_0 a0 a1 a2 a3) (0, r1)) fun x35 =>
    some x35
  )
set_option maxRecDepth 100000 in
theorem d_restriction_Apply_ok (a0 : (List T_api_Restriction)) (a1 : (List T_api_Step)) (a2 : Int) (a3 : T_api_Layout) (a4 : (List T_api_Segment)) (r : (List T_api_Segment)) (h : d_restriction_Apply a0 a1 a2 a3 a4 = some r) : PCall Go.Proofs.Tryd.prog GlS 30 [Enc.pv a0, Enc.pv a1, Enc.pv a2, Enc.pv a3, Enc.pv a4] (Enc.pv r) := by
  unfold d_restriction_Apply at h
  refine pcall_of_pwpR Go.Proofs.Tryd.func30 (by rfl) rfl Go.Proofs.Tryd.ntmps30 (by rfl) rfl ?_
  refine pwpD_seq (r_reg ?_)
  refine e_end (by kernel_rfl) ?_
  refine qd_next ?_
  refine pwpD_defer 1 37 [.ref 10 0] (by rfl) ?_
  refine e_end (by kernel_rfl) ?_
  refine ⟨by kernel_rfl, by kernel_rfl, by kernel_rfl, ?_⟩
  refine pwp_seq (r_reg ?_)
  refine p_run 1 (by kernel_rfl) ?_
  obtain ⟨r1, h1, h⟩ := o_bind h
  refine p_call (d_slices_Clone_api_Segment_ok _ r1 h1) (by kernel_rfl) (by kernel_rfl) ?_
  refine e_end (by kernel_rfl) ?_
  refine q_next (pwp_seq (pwp_seq (r_reg ?_)))
  refine p_run 1 (by kernel_rfl) ?_
  obtain ⟨r2, h2, h⟩ := o_bind h
  refine p_call (d_profile_Valid_ok _ r2 h2) (by kernel_rfl) (by kernel_rfl) ?_
  obtain ⟨b3, h3, h⟩ := o_bind h
  refine p_run 2 (by kernel_rfl) ?_
  refine e_seg 5 24 (.bool b3) ?_ ?_
  · rcases o_cond h3 with ⟨hb, h3⟩ | ⟨hb, h3⟩
    · refine p_settle 19 hb (by kernel_rfl) (by kernel_rfl) ?_
      cases h3
      exact f_end (by kernel_rfl) (by kernel_rfl)
    refine p_settle 19 hb (by kernel_rfl) (by kernel_rfl) ?_
    refine p_run 2 (by kernel_rfl) ?_
    obtain ⟨r4, h4, h3⟩ := o_bind h3
    refine p_call (d_walk_Valid_ok _ _ r4 h4) (by kernel_rfl) (by kernel_rfl) ?_
    cases h3
    exact f_end (by kernel_rfl) (by kernel_rfl)
  refine p_run 1 (by kernel_rfl) ?_
  refine e_segb 3 28 (b3 || (decide (a2 < (-1073741824)))) (fun x hx => ?_) ?_
  · rcases b_or hx with ⟨hb, hx⟩ | ⟨hb, hx⟩
    · refine p_settle 25 hb (by kernel_rfl) (by kernel_rfl) ?_
      subst hx
      exact f_end (by kernel_rfl) (by kernel_rfl)
    refine p_settle 25 hb (by kernel_rfl) (by kernel_rfl) ?_
    subst hx
    exact f_end (by kernel_rfl) (by kernel_rfl)
  refine p_run 1 (by kernel_rfl) ?_
  refine e_segb 3 32 ((b3 || (decide (a2 < (-1073741824)))) || (decide (1073741824 < a2))) (fun x hx => ?_) ?_
  · rcases b_or hx with ⟨hb, hx⟩ | ⟨hb, hx⟩
    · refine p_settle 29 hb (by kernel_rfl) (by kernel_rfl) ?_
      subst hx
      exact f_end (by kernel_rfl) (by kernel_rfl)
    refine p_settle 29 hb (by kernel_rfl) (by kernel_rfl) ?_
    subst hx
    exact f_end (by kernel_rfl) (by kernel_rfl)
  refine e_nil (by kernel_rfl) ?_
  refine q_next ?_
  rcases o_cond h with ⟨hb, h⟩ | ⟨hb, h⟩
  · refine r_cond_t hb (by kernel_rfl) ?_
    refine pwp_seq (r_reg ?_)
    refine e_end (by kernel_rfl) ?_
    refine q_next (pwp_ret (q_seq_ret ?_))
    refine qr_ret (q_dendR (pan := false) (caps := [.ref 10 0]) (by kernel_rfl) Go.Proofs.Tryd.func37 (by rfl) rfl Go.Proofs.Tryd.ntmps37 (by rfl) ?_)
    refine pwpR_wkr ((wkr_ren 1 (by kernel_rfl)).trans (.of (j := ⟨[(0, .ref 1010 0), (13, .ref 1010 0), (59, .fn 37 [.ref 1010 0])], [(1010, .cells ([lstOf (.own 1015007) (r1 : (List T_api_Segment))]))], [(1015007, (((r1).map cellsOf).length, 4))], []⟩) (n := 5700060) (by kernel_rfl) (by kernel_rfl))) ?_
    refine r_recover ⟨rfl, rfl, rfl, rfl, fun _ _ => rfl, (fun a _ _ _ h => by simp [Act.eval] at h; simp [go_sem, h]), (fun a _ h => by simp [Act.eval] at h; simp [go_sem, h])⟩ (by kernel_rfl) ?_
    refine r_cond_f (b := false) rfl (by kernel_rfl) ?_
    refine pwp_skip ?_
    cases h
    exact q_dfin (by kernel_rfl) (by kernel_rfl) (by kernel_rfl)
  refine r_cond_f hb (by kernel_rfl) ?_
  refine pwp_skip (q_next (pwp_seq (pwp_seq (r_reg ?_))))
  refine p_run 1 (by kernel_rfl) ?_
  refine p_len (L := (a0 : (List T_api_Restriction))) (by kernel_rfl) ?_
  refine e_end (by kernel_rfl) ?_
  refine q_next (pwp_block ?_)
  obtain ⟨o45, h45, h⟩ := o_inl h
  refine r_loop2 100057 0 (fun (x24, x25) => ⟨[(1, lstOf .frozen (a1 : (List T_api_Step))), (2, .int .i64 a2), (8, .ref 8 0), (10, .ref 10 0), (34, lstOf .frozen (a0 : (List T_api_Restriction))), (35, .int .i64 ((a0.length : Nat) : Int)), (36, .int .i64 x24), (56, .fn 37 [.ref 10 0])], [(8, .cells (cellsOf a3)), (10, .cells ([lstOf .frozen (x25 : (List T_api_Segment))]))], [], []⟩) (fun x35 => ⟨[(10, .ref 10 0), (56, .fn 37 [.ref 10 0])], [(10, .cells ([lstOf .frozen (x35 : (List T_api_Segment))]))], [], []⟩) h45 (by kernel_rfl) (fun _ => by kernel_rfl) ?_ ?_
  · rintro ⟨x24, x25⟩ oh44 h44
    unfold d_restriction_Apply_0 at h44
    refine pwp_seq (r_reg ?_)
    refine e_end (by kernel_rfl) ?_
    refine q_next (pwp_seq ?_)
    rcases o_cond h44 with ⟨hb, h44⟩ | ⟨hb, h44⟩
    · refine r_cond_t hb (by kernel_rfl) ?_
      refine pwp_skip (q_next ?_)
      obtain ⟨o52, h52, h44⟩ := o_inl h44
      refine r_join (o := o52) 100057 (fun x40 => ⟨[(1, lstOf .frozen (a1 : (List T_api_Step))), (2, .int .i64 a2), (8, .ref 8 0), (10, .ref 10 0), (34, lstOf .frozen (a0 : (List T_api_Restriction))), (35, .int .i64 ((a0.length : Nat) : Int)), (36, .int .i64 x24), (56, .fn 37 [.ref 10 0])], [(8, .cells (cellsOf a3)), (10, .cells ([lstOf .frozen (x40 : (List T_api_Segment))]))], [], []⟩) ?_ ?_
      · refine pwp_block (pwp_seq (r_reg ?_))
        obtain ⟨x41, h53, h52⟩ := o_bind h52
        refine p_ix h53 (by kernel_rfl) ?_
        refine e_end (by kernel_rfl) ?_
        refine q_next (pwp_seq (r_reg ?_))
        obtain ⟨b42, h54, h52⟩ := o_bind h52
        refine p_run 3 (by kernel_rfl) ?_
        refine e_seg 5 47 (.bool b42) ?_ ?_
        · rcases o_cond h54 with ⟨hb, h54⟩ | ⟨hb, h54⟩
          · refine p_settle 42 hb (by kernel_rfl) (by kernel_rfl) ?_
            refine p_run 2 (by kernel_rfl) ?_
            obtain ⟨r43, h55, h54⟩ := o_bind h54
            refine p_call (d_restriction_Check_ok _ _ r43 h55) (by kernel_rfl) (by kernel_rfl) ?_
            cases h54
            exact f_end (by kernel_rfl) (by kernel_rfl)
          refine p_settle 42 hb (by kernel_rfl) (by kernel_rfl) ?_
          cases h54
          exact f_end (by kernel_rfl) (by kernel_rfl)
        refine e_nil (by kernel_rfl) ?_
        refine q_next ?_
        rcases o_cond h52 with ⟨hb, h52⟩ | ⟨hb, h52⟩
        · refine r_cond_t hb (by kernel_rfl) ?_
          refine r_regE ?_
          refine wlE_run 0 5 ?_
          refine e_end (by kernel_rfl) ?_
          rcases o_pan h52 with ⟨h56, h52⟩ | ⟨r44, h56, h52⟩
          · refine p_callN (d_restriction_lowered_ok _ _ _ _ _ none h56) (by kernel_rfl) fun ch hpan => ?_
            refine q_block_pan ?_
            cases h52
            refine q_jout_pan ?_
            have h57 := o_outr h44
            cases h57
            refine q_lout_pan fun he => ?_
            subst he
            have h58 := o_outr h
            refine q_block_pan (q_seq_pan ?_)
            refine qr_pan hpan (q_dendR (pan := true) (caps := [.ref 10 0]) (by kernel_rfl) Go.Proofs.Tryd.func37 (by rfl) rfl Go.Proofs.Tryd.ntmps37 (by rfl) ?_)
            refine pwpR_wkr ((wkr_ren 17 (by kernel_rfl)).trans (.of (j := ⟨[(0, .ref 17010 0), (13, .ref 17010 0), (59, .fn 37 [.ref 17010 0])], [(17010, .cells ([lstOf .frozen (x25 : (List T_api_Segment))]))], [], []⟩) (n := 5700060) (by kernel_rfl) (by kernel_rfl))) ?_
            refine r_recover ⟨rfl, rfl, rfl, rfl, fun _ _ => rfl, (fun a _ _ _ h => by simp [Act.eval] at h; simp [go_sem, h]), (fun a _ h => by simp [Act.eval] at h; simp [go_sem, h])⟩ (by kernel_rfl) ?_
            refine r_cond_t (b := true) rfl (by kernel_rfl) ?_
            refine r_reg ?_
            refine e_end (by kernel_rfl) ?_
            cases h58
            exact q_dfin (by kernel_rfl) (by kernel_rfl) (by kernel_rfl)
          refine p_callS (d_restriction_lowered_ok _ _ _ _ _ (some r44) h56) (by kernel_rfl) (by kernel_rfl) ?_
          refine wlE_run 6 1 ?_
          refine e_end (by kernel_rfl) ?_
          refine wlE_end (q_block ?_)
          cases h52
          exact q_join (by kernel_rfl) (by kernel_rfl)
        refine r_cond_f hb (by kernel_rfl) ?_
        refine pwp_skip (q_block ?_)
        cases h52
        exact q_join (by kernel_rfl) (by kernel_rfl)
      rintro x40 rfl
      have h44 := o_outl h44
      refine r_reg ?_
      refine e_end (by kernel_rfl) ?_
      cases h44
      exact q_lback (by kernel_rfl)
    refine r_cond_f hb (by kernel_rfl) ?_
    refine pwp_exit (q_seq_exit ?_)
    cases h44
    exact q_lexit (by kernel_rfl) (by kernel_rfl)
  rintro x35 s' rfl hs
  have h := o_outl h
  refine q_block_hit ?_
  refine q_next (pwp_wkr hs ?_)
  refine pwp_seq (r_reg ?_)
  refine e_end (by kernel_rfl) ?_
  refine q_next (pwp_ret ?_)
  refine qr_ret (q_dendR (pan := false) (caps := [.ref 10 0]) (by kernel_rfl) Go.Proofs.Tryd.func37 (by rfl) rfl Go.Proofs.Tryd.ntmps37 (by rfl) ?_)
  refine pwpR_wkr ((wkr_ren 19 (by kernel_rfl)).trans (.of (j := ⟨[(0, .ref 19010 0), (13, .ref 19010 0), (59, .fn 37 [.ref 19010 0])], [(19010, .cells ([lstOf .frozen (x35 : (List T_api_Segment))]))], [], []⟩) (n := 5700060) (by kernel_rfl) (by kernel_rfl))) ?_
  refine r_recover ⟨rfl, rfl, rfl, rfl, fun _ _ => rfl, (fun a _ _ _ h => by simp [Act.eval] at h; simp [go_sem, h]), (fun a _ h => by simp [Act.eval] at h; simp [go_sem, h])⟩ (by kernel_rfl) ?_
  refine r_cond_f (b := false) rfl (by kernel_rfl) ?_
  refine pwp_skip ?_
  cases h
  exact q_dfin (by kernel_rfl) (by kernel_rfl) (by kernel_rfl)

/-! profile.Cut -/
noncomputable def d_profile_Cut_0 (a0 : (List T_api_Segment)) (a1 : Int) (a2 : Int) : (Int × (List T_api_Segment)) → Option ((Int × (List T_api_Segment)) ⊕ ((List T_api_Segment) ⊕ (List T_api_Segment))) := fun (x17, x18) =>
  bif decide (x17 < ((a0.length : Nat) : Int)) then (
    onInl (α := (List T_api_Segment)) (β := ((Int × (List T_api_Segment)) ⊕ ((List T_api_Segment) ⊕ (List T_api_Segment)))) (
      (ixO a0 x17).bind fun x31 =>
      (d_profile_span_part (T_profile_span.mk a1 a2) x31).bind fun r32 =>
      bif r32.2 then (
        (appO x18 [r32.1]).bind fun x33 =>
        some (.inl x33)
      ) else (
        some (.inl x18)
      )
    ) fun x30 =>
    some (.inl (w64 (x17 + 1), x30))
  ) else (
    some (.inr (.inl x18))
  )

noncomputable def d_profile_Cut (a0 : (List T_api_Segment)) (a1 : Int) (a2 : Int) : Option (List T_api_Segment) :=
  (d_profile_Valid a0).bind fun r1 =>
  bif (!r1) then (
    some ([] : (List T_api_Segment))
  ) else (
    onInl (α := (List T_api_Segment)) (β := (List T_api_Segment)) (loopO (d_profile_Cut_0 a0 a1 a2) (0, ([] : (List T_api_Segment)))) fun x26 =>
    some x26
  )
theorem d_profile_Cut_ok (a0 : (List T_api_Segment)) (a1 : Int) (a2 : Int) (r : (List T_api_Segment)) (h : d_profile_Cut a0 a1 a2 = some r) : PCall Go.Proofs.Tryd.prog GlS 13 [Enc.pv a0, Enc.pv a1, Enc.pv a2] (lstOf (.own 100007) r) := by
  unfold d_profile_Cut at h
  refine pcall_of_pwp Go.Proofs.Tryd.func13 (by rfl) rfl Go.Proofs.Tryd.ntmps13 (by rfl) rfl ?_
  refine pwp_seq (r_reg ?_)
  refine e_end (by kernel_rfl) ?_
  refine q_next (pwp_seq (pwp_seq (r_reg ?_)))
  refine p_run 1 (by kernel_rfl) ?_
  obtain ⟨r1, h1, h⟩ := o_bind h
  refine p_call (d_profile_Valid_ok _ r1 h1) (by kernel_rfl) (by kernel_rfl) ?_
  refine e_end (by kernel_rfl) ?_
  refine q_next ?_
  rcases o_cond h with ⟨hb, h⟩ | ⟨hb, h⟩
  · refine r_cond_t hb (by kernel_rfl) ?_
    refine pwp_seq (r_reg ?_)
    refine e_end (by kernel_rfl) ?_
    refine q_next ?_
    refine g_nil 6 100007 4 32 (by kernel_rfl) (by kernel_rfl) ?_
    refine pwp_ret (q_seq_ret ?_)
    cases h
    exact q_ret (by kernel_rfl) (by kernel_rfl) (by kernel_rfl)
  refine r_cond_f hb (by kernel_rfl) ?_
  refine pwp_skip (q_next (pwp_seq (r_reg ?_)))
  refine e_end (by kernel_rfl) ?_
  refine q_next (pwp_seq (pwp_seq (r_reg ?_)))
  refine p_run 1 (by kernel_rfl) ?_
  refine p_len (L := (a0 : (List T_api_Segment))) (by kernel_rfl) ?_
  refine e_end (by kernel_rfl) ?_
  refine q_next (pwp_block ?_)
  refine g_nil 7 100007 4 32 (by kernel_rfl) (by kernel_rfl) ?_
  obtain ⟨o24, h24, h⟩ := o_inl h
  refine r_loop2 36 0 (fun (x17, x18) => ⟨[(1, .int .i64 a1), (2, .int .i64 a2), (7, lstOf (.own 100007) (x18 : (List T_api_Segment))), (15, lstOf .frozen (a0 : (List T_api_Segment))), (16, .int .i64 ((a0.length : Nat) : Int)), (17, .int .i64 x17)], [], [(100007, (((x18).map cellsOf).length, 4))], []⟩) (fun x26 => ⟨[(7, lstOf (.own 100007) (x26 : (List T_api_Segment)))], [], [(100007, (((x26).map cellsOf).length, 4))], []⟩) h24 (by kernel_rfl) (fun _ => by kernel_rfl) ?_ ?_
  · rintro ⟨x17, x18⟩ oh23 h23
    unfold d_profile_Cut_0 at h23
    refine pwp_seq (r_reg ?_)
    refine e_end (by kernel_rfl) ?_
    refine q_next (pwp_seq ?_)
    rcases o_cond h23 with ⟨hb, h23⟩ | ⟨hb, h23⟩
    · refine r_cond_t hb (by kernel_rfl) ?_
      refine pwp_skip (q_next ?_)
      obtain ⟨o28, h28, h23⟩ := o_inl h23
      refine r_join (o := o28) 36 (fun x30 => ⟨[(1, .int .i64 a1), (2, .int .i64 a2), (7, lstOf (.own 100007) (x30 : (List T_api_Segment))), (15, lstOf .frozen (a0 : (List T_api_Segment))), (16, .int .i64 ((a0.length : Nat) : Int)), (17, .int .i64 x17)], [], [(100007, (((x30).map cellsOf).length, 4))], []⟩) ?_ ?_
      · refine pwp_block (pwp_seq (r_reg ?_))
        obtain ⟨x31, h29, h28⟩ := o_bind h28
        refine p_ix h29 (by kernel_rfl) ?_
        refine e_end (by kernel_rfl) ?_
        refine q_next (pwp_seq (r_reg ?_))
        refine p_run 4 (by kernel_rfl) ?_
        obtain ⟨r32, h30, h28⟩ := o_bind h28
        refine p_call (d_profile_span_part_ok _ _ r32 h30) (by kernel_rfl) (by kernel_rfl) ?_
        refine e_end (by kernel_rfl) ?_
        refine q_next (pwp_seq (r_reg ?_))
        refine e_end (by kernel_rfl) ?_
        refine q_next ?_
        rcases o_cond h28 with ⟨hb, h28⟩ | ⟨hb, h28⟩
        · refine r_cond_t hb (by kernel_rfl) ?_
          refine r_reg ?_
          refine p_run 3 (by kernel_rfl) ?_
          obtain ⟨x33, h31, h28⟩ := o_bind h28
          refine p_app (tk := 100007) h31 (by kernel_rfl) (by kernel_rfl) ?_
          refine e_end (by kernel_rfl) ?_
          refine q_block ?_
          cases h28
          exact q_join (by kernel_rfl) (by kernel_rfl)
        refine r_cond_f hb (by kernel_rfl) ?_
        refine pwp_skip (q_block ?_)
        cases h28
        exact q_join (by kernel_rfl) (by kernel_rfl)
      rintro x30 rfl
      have h23 := o_outl h23
      refine r_reg ?_
      refine e_end (by kernel_rfl) ?_
      cases h23
      exact q_lback (by kernel_rfl)
    refine r_cond_f hb (by kernel_rfl) ?_
    refine pwp_exit (q_seq_exit ?_)
    cases h23
    exact q_lexit (by kernel_rfl) (by kernel_rfl)
  rintro x26 s' rfl hs
  have h := o_outl h
  refine q_block_hit ?_
  refine q_next (pwp_wkr hs ?_)
  refine pwp_seq (r_reg ?_)
  refine e_end (by kernel_rfl) ?_
  refine q_next (pwp_ret ?_)
  cases h
  exact q_ret (by kernel_rfl) (by kernel_rfl) (by kernel_rfl)
theorem d_profile_Cut_fz (a0 : (List T_api_Segment)) (a1 : Int) (a2 : Int) (r : (List T_api_Segment)) (h : d_profile_Cut a0 a1 a2 = some r) : PCall Go.Proofs.Tryd.prog GlS 13 [Enc.pv a0, Enc.pv a1, Enc.pv a2] (Enc.pv r) :=
  (d_profile_Cut_ok a0 a1 a2 r h).freeze (by kernel_rfl) (by kernel_rfl) (by kernel_rfl)

/-! linking.passed -/
noncomputable def d_linking_passed (a0 : Int) (a1 : T_api_Step) : Option Bool :=
  bif decide (a0 = 1) then (
    some true
  ) else (
    onInl (α := Bool) (β := Bool) (
      bif decide (a0 = 2) then (
        some (.inl (decide (a0 = 2)))
      ) else (
        some (.inl (decide (a0 = 3)))
      )
    ) fun x1 =>
    bif x1 then (
      some (((decide (a1.In = 0)) && (decide (a1.Out = 1))) || ((decide (a1.In = 1)) && (decide (a1.Out = 0))))
    ) else (
      some false
    )
  )
theorem d_linking_passed_ok (a0 : Int) (a1 : T_api_Step) (r : Bool) (h : d_linking_passed a0 a1 = some r) : PCall Go.Proofs.Tryd.prog GlS 44 [Enc.pv a0, Enc.pv a1] (Enc.pv r) := by
  unfold d_linking_passed at h
  refine pcall_of_pwp Go.Proofs.Tryd.func44 (by rfl) rfl Go.Proofs.Tryd.ntmps44 (by rfl) rfl ?_
  refine pwp_seq (r_reg ?_)
  refine e_end (by kernel_rfl) ?_
  refine q_next (pwp_seq (pwp_seq (r_reg ?_)))
  refine e_end (by kernel_rfl) ?_
  refine q_next (pwp_block (pwp_seq (r_reg ?_)))
  refine e_end (by kernel_rfl) ?_
  refine q_next ?_
  rcases o_cond h with ⟨hb, h⟩ | ⟨hb, h⟩
  · refine r_cond_t hb (by kernel_rfl) ?_
    refine pwp_seq (r_reg ?_)
    refine e_end (by kernel_rfl) ?_
    refine q_next (pwp_ret (q_block_ret (q_seq_ret ?_)))
    cases h
    exact q_ret (by kernel_rfl) (by kernel_rfl) (by kernel_rfl)
  refine r_cond_f hb (by kernel_rfl) ?_
  obtain ⟨o1, h1, h⟩ := o_inl h
  refine r_join (o := o1) 29 (fun x1 => ⟨[(3, .ref 3 0), (8, .bool x1)], [(3, .cells (cellsOf a1))], [], []⟩) ?_ ?_
  · refine pwp_seq (r_reg ?_)
    refine e_end (by kernel_rfl) ?_
    refine q_next ?_
    rcases o_cond h1 with ⟨hb, h1⟩ | ⟨hb, h1⟩
    · refine r_cond_t hb (by kernel_rfl) ?_
      refine pwp_skip ?_
      cases h1
      exact q_join (by kernel_rfl) (by kernel_rfl)
    refine r_cond_f hb (by kernel_rfl) ?_
    refine r_reg ?_
    refine e_end (by kernel_rfl) ?_
    cases h1
    exact q_join (by kernel_rfl) (by kernel_rfl)
  rintro x1 rfl
  have h := o_outl h
  rcases o_cond h with ⟨hb, h⟩ | ⟨hb, h⟩
  · refine r_cond_t hb (by kernel_rfl) ?_
    refine pwp_seq (r_reg ?_)
    refine p_run 4 (by kernel_rfl) ?_
    refine e_segb 4 18 ((decide (a1.In = 0)) && (decide (a1.Out = 1))) (fun x hx => ?_) ?_
    · rcases b_and hx with ⟨hb, hx⟩ | ⟨hb, hx⟩
      · refine p_settle 14 hb (by kernel_rfl) (by kernel_rfl) ?_
        subst hx
        exact f_end (by kernel_rfl) (by kernel_rfl)
      refine p_settle 14 hb (by kernel_rfl) (by kernel_rfl) ?_
      subst hx
      exact f_end (by kernel_rfl) (by kernel_rfl)
    refine p_run 1 (by kernel_rfl) ?_
    refine e_segb 9 28 (((decide (a1.In = 0)) && (decide (a1.Out = 1))) || ((decide (a1.In = 1)) && (decide (a1.Out = 0)))) (fun x hx => ?_) ?_
    · rcases b_or hx with ⟨hb, hx⟩ | ⟨hb, hx⟩
      · refine p_settle 19 hb (by kernel_rfl) (by kernel_rfl) ?_
        subst hx
        exact f_end (by kernel_rfl) (by kernel_rfl)
      refine p_settle 19 hb (by kernel_rfl) (by kernel_rfl) ?_
      refine p_run 4 (by kernel_rfl) ?_
      refine f_segb 4 27 ((decide (a1.In = 1)) && (decide (a1.Out = 0))) (fun x hx => ?_) ?_
      · rcases b_and hx with ⟨hb, hx⟩ | ⟨hb, hx⟩
        · refine p_settle 23 hb (by kernel_rfl) (by kernel_rfl) ?_
          subst hx
          exact f_end (by kernel_rfl) (by kernel_rfl)
        refine p_settle 23 hb (by kernel_rfl) (by kernel_rfl) ?_
        subst hx
        exact f_end (by kernel_rfl) (by kernel_rfl)
      subst hx
      exact f_end (by kernel_rfl) (by kernel_rfl)
    refine e_end (by kernel_rfl) ?_
    refine q_next (pwp_ret (q_block_ret (q_seq_ret ?_)))
    cases h
    exact q_ret (by kernel_rfl) (by kernel_rfl) (by kernel_rfl)
  refine r_cond_f hb (by kernel_rfl) ?_
  refine pwp_skip (q_block (q_next (pwp_seq (r_reg ?_))))
  refine e_end (by kernel_rfl) ?_
  refine q_next (pwp_ret ?_)
  cases h
  exact q_ret (by kernel_rfl) (by kernel_rfl) (by kernel_rfl)

/-! cmp.isNaN[int] -/
noncomputable def d_cmp_isNaN_int (a0 : Int) : Option Bool :=
  some (!(decide (a0 = a0)))
theorem d_cmp_isNaN_int_ok (a0 : Int) (r : Bool) (h : d_cmp_isNaN_int a0 = some r) : PCall Go.Proofs.Tryd.prog GlS 54 [Enc.pv a0] (Enc.pv r) := by
  unfold d_cmp_isNaN_int at h
  refine pcall_of_pwp Go.Proofs.Tryd.func54 (by rfl) rfl Go.Proofs.Tryd.ntmps54 (by rfl) rfl ?_
  refine pwp_seq (r_reg ?_)
  refine e_end (by kernel_rfl) ?_
  refine q_next (pwp_seq (r_reg ?_))
  refine e_end (by kernel_rfl) ?_
  refine q_next (pwp_ret ?_)
  cases h
  exact q_ret (by kernel_rfl) (by kernel_rfl) (by kernel_rfl)

/-! cmp.Compare[int] -/
noncomputable def d_cmp_Compare_int (a0 : Int) (a1 : Int) : Option Int :=
  (d_cmp_isNaN_int a0).bind fun r1 =>
  (d_cmp_isNaN_int a1).bind fun r2 =>
  bif r1 then (
    bif r2 then (
      some 0
    ) else (
      some (-1)
    )
  ) else (
    bif r2 then (
      some 1
    ) else (
      bif decide (a0 < a1) then (
        some (-1)
      ) else (
        bif decide (a1 < a0) then (
          some 1
        ) else (
          some 0
        )
      )
    )
  )
theorem d_cmp_Compare_int_ok (a0 : Int) (a1 : Int) (r : Int) (h : d_cmp_Compare_int a0 a1 = some r) : PCall Go.Proofs.Tryd.prog GlS 48 [Enc.pv a0, Enc.pv a1] (Enc.pv r) := by
  unfold d_cmp_Compare_int at h
  refine pcall_of_pwp Go.Proofs.Tryd.func48 (by rfl) rfl Go.Proofs.Tryd.ntmps48 (by rfl) rfl ?_
  refine pwp_seq (r_reg ?_)
  refine e_end (by kernel_rfl) ?_
  refine q_next (pwp_seq (r_reg ?_))
  refine p_run 1 (by kernel_rfl) ?_
  obtain ⟨r1, h1, h⟩ := o_bind h
  refine p_call (d_cmp_isNaN_int_ok _ r1 h1) (by kernel_rfl) (by kernel_rfl) ?_
  refine e_end (by kernel_rfl) ?_
  refine q_next (pwp_seq (r_reg ?_))
  refine p_run 1 (by kernel_rfl) ?_
  obtain ⟨r2, h2, h⟩ := o_bind h
  refine p_call (d_cmp_isNaN_int_ok _ r2 h2) (by kernel_rfl) (by kernel_rfl) ?_
  refine e_end (by kernel_rfl) ?_
  refine q_next (pwp_seq (pwp_seq (r_reg ?_)))
  refine e_end (by kernel_rfl) ?_
  refine q_next ?_
  rcases o_cond h with ⟨hb, h⟩ | ⟨hb, h⟩
  · refine r_cond_t hb (by kernel_rfl) ?_
    refine pwp_seq (pwp_seq (r_reg ?_))
    refine e_end (by kernel_rfl) ?_
    refine q_next ?_
    rcases o_cond h with ⟨hb, h⟩ | ⟨hb, h⟩
    · refine r_cond_t hb (by kernel_rfl) ?_
      refine pwp_seq (r_reg ?_)
      refine e_end (by kernel_rfl) ?_
      refine q_next (pwp_ret (q_seq_ret (q_seq_ret ?_)))
      cases h
      exact q_ret (by kernel_rfl) (by kernel_rfl) (by kernel_rfl)
    refine r_cond_f hb (by kernel_rfl) ?_
    refine pwp_skip (q_next (pwp_seq (r_reg ?_)))
    refine e_end (by kernel_rfl) ?_
    refine q_next (pwp_ret (q_seq_ret ?_))
    cases h
    exact q_ret (by kernel_rfl) (by kernel_rfl) (by kernel_rfl)
  refine r_cond_f hb (by kernel_rfl) ?_
  refine pwp_skip (q_next (pwp_seq (pwp_seq (r_reg ?_))))
  refine e_end (by kernel_rfl) ?_
  refine q_next ?_
  rcases o_cond h with ⟨hb, h⟩ | ⟨hb, h⟩
  · refine r_cond_t hb (by kernel_rfl) ?_
    refine pwp_seq (r_reg ?_)
    refine e_end (by kernel_rfl) ?_
    refine q_next (pwp_ret (q_seq_ret ?_))
    cases h
    exact q_ret (by kernel_rfl) (by kernel_rfl) (by kernel_rfl)
  refine r_cond_f hb (by kernel_rfl) ?_
  refine pwp_skip (q_next (pwp_seq (pwp_seq (r_reg ?_))))
  refine e_end (by kernel_rfl) ?_
  refine q_next ?_
  rcases o_cond h with ⟨hb, h⟩ | ⟨hb, h⟩
  · refine r_cond_t hb (by kernel_rfl) ?_
    refine pwp_seq (r_reg ?_)
    refine e_end (by kernel_rfl) ?_
    refine q_next (pwp_ret (q_seq_ret ?_))
    cases h
    exact q_ret (by kernel_rfl) (by kernel_rfl) (by kernel_rfl)
  refine r_cond_f hb (by kernel_rfl) ?_
  refine pwp_skip (q_next (pwp_seq (pwp_seq (r_reg ?_))))
  refine e_end (by kernel_rfl) ?_
  refine q_next ?_
  rcases o_cond h with ⟨hb, h⟩ | ⟨hb, h⟩
  · refine r_cond_t hb (by kernel_rfl) ?_
    refine pwp_seq (r_reg ?_)
    refine e_end (by kernel_rfl) ?_
    refine q_next (pwp_ret (q_seq_ret ?_))
    cases h
    exact q_ret (by kernel_rfl) (by kernel_rfl) (by kernel_rfl)
  refine r_cond_f hb (by kernel_rfl) ?_
  refine pwp_skip (q_next (pwp_seq (r_reg ?_)))
  refine e_end (by kernel_rfl) ?_
  refine q_next (pwp_ret ?_)
  cases h
  exact q_ret (by kernel_rfl) (by kernel_rfl) (by kernel_rfl)

theorem d_cmp_Compare_int_eq (a b : Int) : d_cmp_Compare_int a b = some (if a < b then -1 else if b < a then 1 else 0) := by
  unfold d_cmp_Compare_int d_cmp_isNaN_int
  by_cases h1 : a < b
  · simp [h1]
  · by_cases h2 : b < a <;> simp [h1, h2]

/-! cmp.Or[int] -/
noncomputable def d_cmp_Or_int_0 (a0 : (List Int)) : Int → Option (Int ⊕ (Unit ⊕ Int)) := fun x2 =>
  bif decide (x2 < ((a0.length : Nat) : Int)) then (
    (ixO a0 x2).bind fun x4 =>
    bif (!(decide (x4 = 0))) then (
      some (.inr (.inr x4))
    ) else (
      some (.inl (w64 (x2 + 1)))
    )
  ) else (
    some (.inr (.inl ()))
  )

noncomputable def d_cmp_Or_int (a0 : (List Int)) : Option Int :=
  onInl (α := Unit) (β := Int) (loopO (d_cmp_Or_int_0 a0) 0) fun _ =>
  some 0
theorem d_cmp_Or_int_ok (a0 : (List Int)) (r : Int) (h : d_cmp_Or_int a0 = some r) : PCall Go.Proofs.Tryd.prog GlS 47 [Enc.pv a0] (Enc.pv r) := by
  unfold d_cmp_Or_int at h
  refine pcall_of_pwp Go.Proofs.Tryd.func47 (by rfl) rfl Go.Proofs.Tryd.ntmps47 (by rfl) rfl ?_
  refine pwp_seq (r_reg ?_)
  refine e_end (by kernel_rfl) ?_
  refine q_next (pwp_seq (r_reg ?_))
  refine e_end (by kernel_rfl) ?_
  refine q_next (pwp_seq (pwp_seq (r_reg ?_)))
  refine p_run 1 (by kernel_rfl) ?_
  refine p_len (L := (a0 : (List Int))) (by kernel_rfl) ?_
  refine e_end (by kernel_rfl) ?_
  refine q_next (pwp_block ?_)
  obtain ⟨o6, h6, h⟩ := o_inl h
  refine r_loop2 18 0 (fun x2 => ⟨[(3, .int .i64 0), (6, lstOf .frozen (a0 : (List Int))), (7, .int .i64 ((a0.length : Nat) : Int)), (8, .int .i64 x2)], [], [], []⟩) (fun (_ : Unit) => ⟨[(3, .int .i64 0)], [], [], []⟩) h6 (by kernel_rfl) (fun _ => by kernel_rfl) ?_ ?_
  · rintro x2 oh5 h5
    unfold d_cmp_Or_int_0 at h5
    refine pwp_seq (r_reg ?_)
    refine e_end (by kernel_rfl) ?_
    refine q_next (pwp_seq ?_)
    rcases o_cond h5 with ⟨hb, h5⟩ | ⟨hb, h5⟩
    · refine r_cond_t hb (by kernel_rfl) ?_
      refine pwp_skip (q_next (pwp_seq (pwp_block (pwp_seq (r_reg ?_)))))
      obtain ⟨x4, h7, h5⟩ := o_bind h5
      refine p_ix h7 (by kernel_rfl) ?_
      refine e_end (by kernel_rfl) ?_
      refine q_next (pwp_seq (r_reg ?_))
      refine e_end (by kernel_rfl) ?_
      refine q_next ?_
      rcases o_cond h5 with ⟨hb, h5⟩ | ⟨hb, h5⟩
      · refine r_cond_t hb (by kernel_rfl) ?_
        refine pwp_seq (r_reg ?_)
        refine e_end (by kernel_rfl) ?_
        refine q_next (pwp_ret (q_block_ret (q_seq_ret ?_)))
        cases h5
        refine q_lout_ret fun he => ?_
        subst he
        have h8 := o_outr h
        refine q_block_ret (q_seq_ret ?_)
        cases h8
        exact q_ret (by kernel_rfl) (by kernel_rfl) (by kernel_rfl)
      refine r_cond_f hb (by kernel_rfl) ?_
      refine pwp_skip (q_block (q_next (r_reg ?_)))
      refine e_end (by kernel_rfl) ?_
      cases h5
      exact q_lback (by kernel_rfl)
    refine r_cond_f hb (by kernel_rfl) ?_
    refine pwp_exit (q_seq_exit ?_)
    cases h5
    exact q_lexit (by kernel_rfl) (by kernel_rfl)
  rintro _ s' rfl hs
  have h := o_outl h
  refine q_block_hit ?_
  refine q_next (pwp_wkr hs ?_)
  refine pwp_seq (r_reg ?_)
  refine e_end (by kernel_rfl) ?_
  refine q_next (pwp_ret ?_)
  cases h
  exact q_ret (by kernel_rfl) (by kernel_rfl) (by kernel_rfl)

theorem d_cmp_Or_int_two (a b : Int) : d_cmp_Or_int [a, b] = some (if a = 0 then b else a) := by
  unfold d_cmp_Or_int
  by_cases h1 : a = 0
  · subst h1
    have e0 : d_cmp_Or_int_0 [0, b] 0 = some (.inl 1) := by simp [d_cmp_Or_int_0, ixO, w64, IntKind.wrap, IntKind.bits, IntKind.signed]
    rw [loop_more e0]
    by_cases h2 : b = 0
    · have e1 : d_cmp_Or_int_0 [0, b] 1 = some (.inl 2) := by simp [d_cmp_Or_int_0, ixO, w64, IntKind.wrap, IntKind.bits, IntKind.signed, h2]
      have e2 : d_cmp_Or_int_0 [0, b] 2 = some (.inr (.inl ())) := by simp [d_cmp_Or_int_0]
      rw [loop_more e1, loop_done e2]
      simp [onInl, onOut, h2]
    · have e1 : d_cmp_Or_int_0 [0, b] 1 = some (.inr (.inr b)) := by simp [d_cmp_Or_int_0, ixO, h2]
      rw [loop_done e1]
      simp [onInl, onOut]
  · have e0 : d_cmp_Or_int_0 [a, b] 0 = some (.inr (.inr a)) := by simp [d_cmp_Or_int_0, ixO, h1]
    rw [loop_done e0]
    simp [onInl, onOut, h1]

/-! linking.Of$1 -/
noncomputable def d_linking_Of_c1 (a0 : T_api_Linked) (a1 : T_api_Linked) : Option Int :=
  (d_cmp_Compare_int a0.At a1.At).bind fun r1 =>
  (d_cmp_Compare_int a0.Id a1.Id).bind fun r2 =>
  (d_cmp_Or_int [r1, r2]).bind fun r3 =>
  some r3
theorem d_linking_Of_c1_ok (a0 : T_api_Linked) (a1 : T_api_Linked) (r : Int) (h : d_linking_Of_c1 a0 a1 = some r) : PCall Go.Proofs.Tryd.prog GlS 46 [Enc.pv a0, Enc.pv a1] (Enc.pv r) := by
  unfold d_linking_Of_c1 at h
  refine pcall_of_pwp Go.Proofs.Tryd.func46 (by rfl) rfl Go.Proofs.Tryd.ntmps46 (by rfl) rfl ?_
  refine pwp_seq (r_reg ?_)
  refine e_end (by kernel_rfl) ?_
  refine q_next (pwp_seq ?_)
  refine r_regd (by kernel_rfl) (by kernel_rfl) ?_
  refine p_run 4 (by kernel_rfl) ?_
  obtain ⟨r1, h1, h⟩ := o_bind h
  refine p_call (d_cmp_Compare_int_ok _ _ r1 h1) (by kernel_rfl) (by kernel_rfl) ?_
  refine p_run 4 (by kernel_rfl) ?_
  obtain ⟨r2, h2, h⟩ := o_bind h
  refine p_call (d_cmp_Compare_int_ok _ _ r2 h2) (by kernel_rfl) (by kernel_rfl) ?_
  refine p_run 1 (by kernel_rfl) ?_
  obtain ⟨r3, h3, h⟩ := o_bind h
  refine p_call (d_cmp_Or_int_ok _ r3 h3) (by kernel_rfl) (by kernel_rfl) ?_
  refine e_end (by kernel_rfl) ?_
  refine q_next (pwp_ret ?_)
  cases h
  exact q_ret (by kernel_rfl) (by kernel_rfl) (by kernel_rfl)

end PM
