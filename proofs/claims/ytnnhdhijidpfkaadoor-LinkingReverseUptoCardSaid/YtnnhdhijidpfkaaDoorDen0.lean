/-
  Plain functions for the program's functions, and the proofs that the program does them. Printed by den.py.
-/
import Derived.Test.YtnnhdhijidpfkaaDoorPmM
import Derived.Test.YtnnhdhijidpfkaaDoorPlA
import Derived.Test.YtnnhdhijidpfkaaDoorProg
namespace PM
open Go Go.RowKit
attribute [local irreducible] pops pwp

structure T_rail_passage where
  kind_ : Int
  in_ : Int
  out_ : Int
  need_ : Int
instance : Enc T_rail_passage := ⟨4, 32, fun x => .agg [.int .i64 x.kind_, .int .i64 x.in_, .int .i64 x.out_, .int .i64 x.need_]⟩
instance : Inhabited T_rail_passage := ⟨⟨0, 0, 0, 0⟩⟩
def eq_T_rail_passage (x y : T_rail_passage) : Bool := (decide (x.kind_ = y.kind_) && (decide (x.in_ = y.in_) && (decide (x.out_ = y.out_) && (decide (x.need_ = y.need_) && true))))
structure T_api_Element where
  Name : ByteArray
  Kind : Int
  Length : Int
  Grade : Int
  Speed : Int
  Slow : Int
  Section : Int
instance : Enc T_api_Element := ⟨7, 64, fun x => .agg [.str x.Name, .int .i64 x.Kind, .int .i64 x.Length, .int .i64 x.Grade, .int .i64 x.Speed, .int .i64 x.Slow, .int .i64 x.Section]⟩
instance : Inhabited T_api_Element := ⟨⟨ByteArray.empty, 0, 0, 0, 0, 0, 0⟩⟩
def eq_T_api_Element (x y : T_api_Element) : Bool := (decide (x.Name = y.Name) && (decide (x.Kind = y.Kind) && (decide (x.Length = y.Length) && (decide (x.Grade = y.Grade) && (decide (x.Speed = y.Speed) && (decide (x.Slow = y.Slow) && (decide (x.Section = y.Section) && true)))))))
structure T_api_End where
  El : Int
  Side : Int
instance : Enc T_api_End := ⟨2, 16, fun x => .agg [.int .i64 x.El, .int .i64 x.Side]⟩
instance : Inhabited T_api_End := ⟨⟨0, 0⟩⟩
def eq_T_api_End (x y : T_api_End) : Bool := (decide (x.El = y.El) && (decide (x.Side = y.Side) && true))
structure T_api_Joint where
  A : T_api_End
  B : T_api_End
instance : Enc T_api_Joint := ⟨4, 32, fun x => .agg [.int .i64 x.A.El, .int .i64 x.A.Side, .int .i64 x.B.El, .int .i64 x.B.Side]⟩
instance : Inhabited T_api_Joint := ⟨⟨default, default⟩⟩
def eq_T_api_Joint (x y : T_api_Joint) : Bool := (decide (x.A.El = y.A.El) && (decide (x.A.Side = y.A.Side) && (decide (x.B.El = y.B.El) && (decide (x.B.Side = y.B.Side) && true))))
structure T_api_Signal where
  Name : ByteArray
  At : T_api_End
  Overlap : Int
instance : Enc T_api_Signal := ⟨4, 40, fun x => .agg [.str x.Name, .int .i64 x.At.El, .int .i64 x.At.Side, .int .i64 x.Overlap]⟩
instance : Inhabited T_api_Signal := ⟨⟨ByteArray.empty, default, 0⟩⟩
def eq_T_api_Signal (x y : T_api_Signal) : Bool := (decide (x.Name = y.Name) && (decide (x.At.El = y.At.El) && (decide (x.At.Side = y.At.Side) && (decide (x.Overlap = y.Overlap) && true))))
structure T_api_Balise where
  Id : Int
  El : Int
  Offset : Int
instance : Enc T_api_Balise := ⟨3, 24, fun x => .agg [.int .i64 x.Id, .int .i64 x.El, .int .i64 x.Offset]⟩
instance : Inhabited T_api_Balise := ⟨⟨0, 0, 0⟩⟩
def eq_T_api_Balise (x y : T_api_Balise) : Bool := (decide (x.Id = y.Id) && (decide (x.El = y.El) && (decide (x.Offset = y.Offset) && true)))
structure T_api_Layout where
  Name : ByteArray
  Sections : (List ByteArray)
  Elements : (List T_api_Element)
  Joints : (List T_api_Joint)
  Signals : (List T_api_Signal)
  Balises : (List T_api_Balise)
instance : Enc T_api_Layout := ⟨6, 136, fun x => .agg [.str x.Name, lstOf .frozen x.Sections, lstOf .frozen x.Elements, lstOf .frozen x.Joints, lstOf .frozen x.Signals, lstOf .frozen x.Balises]⟩
instance : Inhabited T_api_Layout := ⟨⟨ByteArray.empty, [], [], [], [], []⟩⟩
structure T_api_Step where
  El : Int
  In : Int
  Out : Int
instance : Enc T_api_Step := ⟨3, 24, fun x => .agg [.int .i64 x.El, .int .i64 x.In, .int .i64 x.Out]⟩
instance : Inhabited T_api_Step := ⟨⟨0, 0, 0⟩⟩
def eq_T_api_Step (x y : T_api_Step) : Bool := (decide (x.El = y.El) && (decide (x.In = y.In) && (decide (x.Out = y.Out) && true)))
structure T_arr3_slice_string where
  x0 : (List ByteArray)
  x1 : (List ByteArray)
  x2 : (List ByteArray)
instance : Enc T_arr3_slice_string := ⟨3, 72, fun x => .agg [lstOf .frozen x.x0, lstOf .frozen x.x1, lstOf .frozen x.x2]⟩
instance : Inhabited T_arr3_slice_string := ⟨⟨[], [], []⟩⟩
structure T_api_Linked where
  Id : Int
  At : Int
instance : Enc T_api_Linked := ⟨2, 16, fun x => .agg [.int .i64 x.Id, .int .i64 x.At]⟩
instance : Inhabited T_api_Linked := ⟨⟨0, 0⟩⟩
def eq_T_api_Linked (x y : T_api_Linked) : Bool := (decide (x.Id = y.Id) && (decide (x.At = y.At) && true))
structure T_api_Estimate where
  Min : Int
  Max : Int
  Speed : Int
instance : Enc T_api_Estimate := ⟨3, 24, fun x => .agg [.int .i64 x.Min, .int .i64 x.Max, .int .i64 x.Speed]⟩
instance : Inhabited T_api_Estimate := ⟨⟨0, 0, 0⟩⟩
def eq_T_api_Estimate (x y : T_api_Estimate) : Bool := (decide (x.Min = y.Min) && (decide (x.Max = y.Max) && (decide (x.Speed = y.Speed) && true)))

def tab_rail_passages : List T_rail_passage := [(T_rail_passage.mk 1 0 1 0), (T_rail_passage.mk 1 1 0 0), (T_rail_passage.mk 2 0 1 1), (T_rail_passage.mk 2 0 2 2), (T_rail_passage.mk 2 1 0 1), (T_rail_passage.mk 2 2 0 2), (T_rail_passage.mk 3 0 1 0), (T_rail_passage.mk 3 1 0 0), (T_rail_passage.mk 3 2 3 0), (T_rail_passage.mk 3 3 2 0)]
def GlS : Nat → Option (List PV)
  | 0 => some (tab_rail_passages.flatMap cellsOf)
  | _ => none

/-! signallingref07.names -/
noncomputable def d_ref07_names_0 (a0 : T_api_Layout) : (Int × (List ByteArray)) → Option ((Int × (List ByteArray)) ⊕ ((List ByteArray) ⊕ T_arr3_slice_string)) := fun (x7, x8) =>
  bif decide (x7 < ((a0.Elements.length : Nat) : Int)) then (
    (ixO a0.Elements x7).bind fun x12 =>
    (appO x8 [x12.Name]).bind fun x13 =>
    some (.inl (w64 (x7 + 1), x13))
  ) else (
    some (.inr (.inl x8))
  )

noncomputable def d_ref07_names_1 (a0 : T_api_Layout) : (Int × (List ByteArray)) → Option ((Int × (List ByteArray)) ⊕ ((List ByteArray) ⊕ T_arr3_slice_string)) := fun (x19, x20) =>
  bif decide (x19 < ((a0.Signals.length : Nat) : Int)) then (
    (ixO a0.Signals x19).bind fun x24 =>
    (appO x20 [x24.Name]).bind fun x25 =>
    some (.inl (w64 (x19 + 1), x25))
  ) else (
    some (.inr (.inl x20))
  )

noncomputable def d_ref07_names (a0 : T_api_Layout) : Option T_arr3_slice_string :=
  (appO ([] : (List ByteArray)) a0.Sections).bind fun x1 =>
  onInl (α := (List ByteArray)) (β := T_arr3_slice_string) (loopO (d_ref07_names_0 a0) (0, ([] : (List ByteArray)))) fun x11 =>
  onInl (α := (List ByteArray)) (β := T_arr3_slice_string) (loopO (d_ref07_names_1 a0) (0, ([] : (List ByteArray)))) fun x23 =>
  some (T_arr3_slice_string.mk x1 x11 x23)
theorem d_ref07_names_ok (a0 : T_api_Layout) (r : T_arr3_slice_string) (h : d_ref07_names a0 = some r) : PCall Go.Proofs.Tryd.prog GlS 49 [Enc.pv a0] (Enc.pv r) := by
  unfold d_ref07_names at h
  refine pcall_of_pwp Go.Proofs.Tryd.func49 (by rfl) rfl Go.Proofs.Tryd.ntmps49 (by rfl) rfl ?_
  refine pwp_seq (r_reg ?_)
  refine e_end (by kernel_rfl) ?_
  refine q_next (pwp_seq (r_reg ?_))
  refine e_end (by kernel_rfl) ?_
  refine q_next (pwp_seq (r_reg ?_))
  refine p_run 4 (by kernel_rfl) ?_
  obtain ⟨x1, h1, h⟩ := o_bind h
  refine p_appn (tk := 13) h1 (by kernel_rfl) ?_
  refine e_end (by kernel_rfl) ?_
  refine q_next (pwp_seq (pwp_seq (r_reg ?_)))
  refine p_run 2 (by kernel_rfl) ?_
  refine p_len (L := (a0.Elements : (List T_api_Element))) (by kernel_rfl) ?_
  refine e_end (by kernel_rfl) ?_
  refine q_next (pwp_block ?_)
  refine pwp_wkr (wkr_nilH 3 1 200301 1 16 (cs := [lstOf (.own 13) (x1 : (List ByteArray)), .nil, .nil]) (by kernel_rfl) (by kernel_rfl) (by kernel_rfl)) ?_
  obtain ⟨o9, h9, h⟩ := o_inl h
  refine r_loop2 46 0 (fun (x7, x8) => ⟨[(1, .ref 1 0), (2, .ref 2 0), (3, .ref 3 0), (16, lstOf .frozen (a0.Elements : (List T_api_Element))), (17, .int .i64 ((a0.Elements.length : Nat) : Int)), (18, .int .i64 x7)], [(1, .cells (cellsOf a0)), (2, .cells ([.nil, .nil, .nil])), (3, .cells ([lstOf (.own 13) (x1 : (List ByteArray)), lstOf (.own 200301) (x8 : (List ByteArray)), .nil]))], [(13, (((x1).map cellsOf).length, 1)), (200301, (((x8).map cellsOf).length, 1))], []⟩) (fun x11 => ⟨[(1, .ref 1 0), (2, .ref 2 0), (3, .ref 3 0)], [(1, .cells (cellsOf a0)), (2, .cells ([.nil, .nil, .nil])), (3, .cells ([lstOf (.own 13) (x1 : (List ByteArray)), lstOf (.own 200301) (x11 : (List ByteArray)), .nil]))], [(13, (((x1).map cellsOf).length, 1)), (200301, (((x11).map cellsOf).length, 1))], []⟩) h9 (by kernel_rfl) (fun _ => by kernel_rfl) ?_ ?_
  · rintro ⟨x7, x8⟩ oh8 h8
    unfold d_ref07_names_0 at h8
    refine pwp_seq (r_reg ?_)
    refine e_end (by kernel_rfl) ?_
    refine q_next (pwp_seq ?_)
    rcases o_cond h8 with ⟨hb, h8⟩ | ⟨hb, h8⟩
    · refine r_cond_t hb (by kernel_rfl) ?_
      refine pwp_skip (q_next (pwp_seq (pwp_block (pwp_seq (r_reg ?_)))))
      obtain ⟨x12, h10, h8⟩ := o_bind h8
      refine p_ix h10 (by kernel_rfl) ?_
      refine e_end (by kernel_rfl) ?_
      refine q_next (r_reg ?_)
      refine p_run 5 (by kernel_rfl) ?_
      obtain ⟨x13, h11, h8⟩ := o_bind h8
      refine p_app (tk := 200301) h11 (by kernel_rfl) (by kernel_rfl) ?_
      refine e_end (by kernel_rfl) ?_
      refine q_block (q_next (r_reg ?_))
      refine e_end (by kernel_rfl) ?_
      cases h8
      exact q_lback (by kernel_rfl)
    refine r_cond_f hb (by kernel_rfl) ?_
    refine pwp_exit (q_seq_exit ?_)
    cases h8
    exact q_lexit (by kernel_rfl) (by kernel_rfl)
  rintro x11 s' rfl hs
  have h := o_outl h
  refine q_block_hit ?_
  refine q_next (pwp_wkr hs ?_)
  refine pwp_seq (pwp_seq (r_reg ?_))
  refine p_run 2 (by kernel_rfl) ?_
  refine p_len (L := (a0.Signals : (List T_api_Signal))) (by kernel_rfl) ?_
  refine e_end (by kernel_rfl) ?_
  refine q_next (pwp_block ?_)
  refine pwp_wkr (wkr_nilH 3 2 200302 1 16 (cs := [lstOf (.own 13) (x1 : (List ByteArray)), lstOf (.own 200301) (x11 : (List ByteArray)), .nil]) (by kernel_rfl) (by kernel_rfl) (by kernel_rfl)) ?_
  obtain ⟨o19, h19, h⟩ := o_inl h
  refine r_loop2 46 2 (fun (x19, x20) => ⟨[(2, .ref 2 0), (3, .ref 3 0), (31, lstOf .frozen (a0.Signals : (List T_api_Signal))), (32, .int .i64 ((a0.Signals.length : Nat) : Int)), (33, .int .i64 x19)], [(2, .cells ([.nil, .nil, .nil])), (3, .cells ([lstOf (.own 13) (x1 : (List ByteArray)), lstOf (.own 200301) (x11 : (List ByteArray)), lstOf (.own 200302) (x20 : (List ByteArray))]))], [(13, (((x1).map cellsOf).length, 1)), (200301, (((x11).map cellsOf).length, 1)), (200302, (((x20).map cellsOf).length, 1))], []⟩) (fun x23 => ⟨[(2, .ref 2 0), (3, .ref 3 0)], [(2, .cells ([.nil, .nil, .nil])), (3, .cells ([lstOf (.own 13) (x1 : (List ByteArray)), lstOf (.own 200301) (x11 : (List ByteArray)), lstOf (.own 200302) (x23 : (List ByteArray))]))], [(13, (((x1).map cellsOf).length, 1)), (200301, (((x11).map cellsOf).length, 1)), (200302, (((x23).map cellsOf).length, 1))], []⟩) h19 (by kernel_rfl) (fun _ => by kernel_rfl) ?_ ?_
  · rintro ⟨x19, x20⟩ oh18 h18
    unfold d_ref07_names_1 at h18
    refine pwp_seq (r_reg ?_)
    refine e_end (by kernel_rfl) ?_
    refine q_next (pwp_seq ?_)
    rcases o_cond h18 with ⟨hb, h18⟩ | ⟨hb, h18⟩
    · refine r_cond_t hb (by kernel_rfl) ?_
      refine pwp_skip (q_next (pwp_seq (pwp_block (pwp_seq (r_reg ?_)))))
      obtain ⟨x24, h20, h18⟩ := o_bind h18
      refine p_ix h20 (by kernel_rfl) ?_
      refine e_end (by kernel_rfl) ?_
      refine q_next (r_reg ?_)
      refine p_run 5 (by kernel_rfl) ?_
      obtain ⟨x25, h21, h18⟩ := o_bind h18
      refine p_app (tk := 200302) h21 (by kernel_rfl) (by kernel_rfl) ?_
      refine e_end (by kernel_rfl) ?_
      refine q_block (q_next (r_reg ?_))
      refine e_end (by kernel_rfl) ?_
      cases h18
      exact q_lback (by kernel_rfl)
    refine r_cond_f hb (by kernel_rfl) ?_
    refine pwp_exit (q_seq_exit ?_)
    cases h18
    exact q_lexit (by kernel_rfl) (by kernel_rfl)
  rintro x23 s' rfl hs
  have h := o_outl h
  refine q_block_hit ?_
  refine q_next (pwp_wkr hs ?_)
  refine pwp_seq (r_reg ?_)
  refine e_end (by kernel_rfl) ?_
  refine q_next (pwp_ret ?_)
  cases h
  exact q_ret (by kernel_rfl) (by kernel_rfl) (by kernel_rfl)

/-! signallingref05.Name -/
noncomputable def d_ref05_Name_0 (a0 : ByteArray) : Int → Option (Int ⊕ (Unit ⊕ Bool)) := fun x9 =>
  bif decide (x9 < ((a0.size : Nat) : Int)) then (
    (sixO a0 x9).bind fun x18 =>
    ((bif decide (97 ≤ x18) then (
      (sixO a0 x9).bind fun x20 =>
      some (decide (x20 ≤ 122))
    ) else some false) : Option Bool).bind fun b19 =>
    (sixO a0 x9).bind fun x21 =>
    ((bif decide (48 ≤ x21) then (
      (sixO a0 x9).bind fun x23 =>
      some (decide (x23 ≤ 57))
    ) else some false) : Option Bool).bind fun b22 =>
    ((bif b22 then some true else (
      (sixO a0 x9).bind fun x25 =>
      some (decide (x25 = 95))
    )) : Option Bool).bind fun b24 =>
    bif ((!b19) && ((!b24) || (decide (x9 = 0)))) then (
      some (.inr (.inr false))
    ) else (
      some (.inl (w64 (x9 + 1)))
    )
  ) else (
    some (.inr (.inl ()))
  )

noncomputable def d_ref05_Name (a0 : ByteArray) : Option Bool :=
  onInl (α := Unit) (β := Bool) (loopO (d_ref05_Name_0 a0) 0) fun _ =>
  some ((decide (1 ≤ ((a0.size : Nat) : Int))) && (decide (((a0.size : Nat) : Int) ≤ 12)))
theorem d_ref05_Name_ok (a0 : ByteArray) (r : Bool) (h : d_ref05_Name a0 = some r) : PCall Go.Proofs.Tryd.prog GlS 50 [Enc.pv a0] (Enc.pv r) := by
  unfold d_ref05_Name at h
  refine pcall_of_pwp Go.Proofs.Tryd.func50 (by rfl) rfl Go.Proofs.Tryd.ntmps50 (by rfl) rfl ?_
  refine pwp_seq (r_reg ?_)
  refine e_end (by kernel_rfl) ?_
  refine q_next (pwp_seq (pwp_seq (r_reg ?_)))
  refine e_end (by kernel_rfl) ?_
  refine q_next (pwp_block ?_)
  obtain ⟨o20, h20, h⟩ := o_inl h
  refine r_loop2 56 0 (fun x9 => ⟨[(0, .str a0), (3, .int .i64 x9)], [], [], []⟩) (fun (_ : Unit) => ⟨[(0, .str a0)], [], [], []⟩) h20 (by kernel_rfl) (fun _ => by kernel_rfl) ?_ ?_
  · rintro x9 oh19 h19
    unfold d_ref05_Name_0 at h19
    refine pwp_seq (pwp_seq (r_reg ?_))
    refine e_end (by kernel_rfl) ?_
    refine q_next ?_
    rcases o_cond h19 with ⟨hb, h19⟩ | ⟨hb, h19⟩
    · refine r_cond_t hb (by kernel_rfl) ?_
      refine pwp_skip (q_next (pwp_seq (pwp_block (pwp_seq (r_reg ?_)))))
      refine p_run 2 (by kernel_rfl) ?_
      obtain ⟨x18, h21, h19⟩ := o_bind h19
      refine p_six h21 (by kernel_rfl) ?_
      obtain ⟨b19, h22, h19⟩ := o_bind h19
      refine p_run 2 (by kernel_rfl) ?_
      refine e_seg 5 21 (.bool b19) ?_ ?_
      · rcases o_cond h22 with ⟨hb, h22⟩ | ⟨hb, h22⟩
        · refine p_settle 16 hb (by kernel_rfl) (by kernel_rfl) ?_
          refine p_run 2 (by kernel_rfl) ?_
          obtain ⟨x20, h23, h22⟩ := o_bind h22
          refine p_six h23 (by kernel_rfl) ?_
          cases h22
          exact f_end (by kernel_rfl) (by kernel_rfl)
        refine p_settle 16 hb (by kernel_rfl) (by kernel_rfl) ?_
        cases h22
        exact f_end (by kernel_rfl) (by kernel_rfl)
      refine e_end (by kernel_rfl) ?_
      refine q_next (pwp_seq (r_reg ?_))
      refine p_run 2 (by kernel_rfl) ?_
      obtain ⟨x21, h24, h19⟩ := o_bind h19
      refine p_six h24 (by kernel_rfl) ?_
      obtain ⟨b22, h25, h19⟩ := o_bind h19
      refine p_run 2 (by kernel_rfl) ?_
      refine e_seg 5 31 (.bool b22) ?_ ?_
      · rcases o_cond h25 with ⟨hb, h25⟩ | ⟨hb, h25⟩
        · refine p_settle 26 hb (by kernel_rfl) (by kernel_rfl) ?_
          refine p_run 2 (by kernel_rfl) ?_
          obtain ⟨x23, h26, h25⟩ := o_bind h25
          refine p_six h26 (by kernel_rfl) ?_
          cases h25
          exact f_end (by kernel_rfl) (by kernel_rfl)
        refine p_settle 26 hb (by kernel_rfl) (by kernel_rfl) ?_
        cases h25
        exact f_end (by kernel_rfl) (by kernel_rfl)
      obtain ⟨b24, h27, h19⟩ := o_bind h19
      refine p_run 1 (by kernel_rfl) ?_
      refine e_seg 5 37 (.bool b24) ?_ ?_
      · rcases o_cond h27 with ⟨hb, h27⟩ | ⟨hb, h27⟩
        · refine p_settle 32 hb (by kernel_rfl) (by kernel_rfl) ?_
          cases h27
          exact f_end (by kernel_rfl) (by kernel_rfl)
        refine p_settle 32 hb (by kernel_rfl) (by kernel_rfl) ?_
        refine p_run 2 (by kernel_rfl) ?_
        obtain ⟨x25, h28, h27⟩ := o_bind h27
        refine p_six h28 (by kernel_rfl) ?_
        cases h27
        exact f_end (by kernel_rfl) (by kernel_rfl)
      refine e_end (by kernel_rfl) ?_
      refine q_next (pwp_seq (r_reg ?_))
      refine p_run 3 (by kernel_rfl) ?_
      refine e_segb 7 47 ((!b19) && ((!b24) || (decide (x9 = 0)))) (fun x hx => ?_) ?_
      · rcases b_and hx with ⟨hb, hx⟩ | ⟨hb, hx⟩
        · refine p_settle 40 hb (by kernel_rfl) (by kernel_rfl) ?_
          refine p_run 3 (by kernel_rfl) ?_
          refine f_segb 3 46 ((!b24) || (decide (x9 = 0))) (fun x hx => ?_) ?_
          · rcases b_or hx with ⟨hb, hx⟩ | ⟨hb, hx⟩
            · refine p_settle 43 hb (by kernel_rfl) (by kernel_rfl) ?_
              subst hx
              exact f_end (by kernel_rfl) (by kernel_rfl)
            refine p_settle 43 hb (by kernel_rfl) (by kernel_rfl) ?_
            subst hx
            exact f_end (by kernel_rfl) (by kernel_rfl)
          subst hx
          exact f_end (by kernel_rfl) (by kernel_rfl)
        refine p_settle 40 hb (by kernel_rfl) (by kernel_rfl) ?_
        subst hx
        exact f_end (by kernel_rfl) (by kernel_rfl)
      refine e_nil (by kernel_rfl) ?_
      refine q_next ?_
      rcases o_cond h19 with ⟨hb, h19⟩ | ⟨hb, h19⟩
      · refine r_cond_t hb (by kernel_rfl) ?_
        refine pwp_seq (r_reg ?_)
        refine e_end (by kernel_rfl) ?_
        refine q_next (pwp_ret (q_block_ret (q_seq_ret ?_)))
        cases h19
        refine q_lout_ret fun he => ?_
        subst he
        have h29 := o_outr h
        refine q_block_ret (q_seq_ret ?_)
        cases h29
        exact q_ret (by kernel_rfl) (by kernel_rfl) (by kernel_rfl)
      refine r_cond_f hb (by kernel_rfl) ?_
      refine pwp_skip (q_block (q_next (r_reg ?_)))
      refine e_end (by kernel_rfl) ?_
      cases h19
      exact q_lback (by kernel_rfl)
    refine r_cond_f hb (by kernel_rfl) ?_
    refine pwp_exit (q_seq_exit ?_)
    cases h19
    exact q_lexit (by kernel_rfl) (by kernel_rfl)
  rintro _ s' rfl hs
  have h := o_outl h
  refine q_block_hit ?_
  refine q_next (pwp_wkr hs ?_)
  refine pwp_seq (r_reg ?_)
  refine p_run 4 (by kernel_rfl) ?_
  refine e_segb 4 55 ((decide (1 ≤ ((a0.size : Nat) : Int))) && (decide (((a0.size : Nat) : Int) ≤ 12))) (fun x hx => ?_) ?_
  · rcases b_and hx with ⟨hb, hx⟩ | ⟨hb, hx⟩
    · refine p_settle 51 hb (by kernel_rfl) (by kernel_rfl) ?_
      subst hx
      exact f_end (by kernel_rfl) (by kernel_rfl)
    refine p_settle 51 hb (by kernel_rfl) (by kernel_rfl) ?_
    subst hx
    exact f_end (by kernel_rfl) (by kernel_rfl)
  refine e_end (by kernel_rfl) ?_
  refine q_next (pwp_ret ?_)
  cases h
  exact q_ret (by kernel_rfl) (by kernel_rfl) (by kernel_rfl)

/-! signallingref07.texts -/
noncomputable def d_ref07_texts_1 (a0 : (List ByteArray)) (x8 : Int) : Int → Option (Int ⊕ (Unit ⊕ (Int ⊕ (Unit ⊕ Bool)))) := fun x18 =>
  bif decide (x18 < x8) then (
    (ixO a0 x8).bind fun x21 =>
    (ixO a0 x18).bind fun x22 =>
    bif decide (x21 = x22) then (
      some (.inr (.inr (.inr (.inr true))))
    ) else (
      some (.inl (w64 (x18 + 1)))
    )
  ) else (
    some (.inr (.inl ()))
  )

noncomputable def d_ref07_texts_0 (a0 : (List ByteArray)) : Int → Option (Int ⊕ (Unit ⊕ Bool)) := fun x8 =>
  bif decide (x8 < ((a0.length : Nat) : Int)) then (
    onInl (α := Unit) (β := (Int ⊕ (Unit ⊕ Bool))) (loopO (d_ref07_texts_1 a0 x8) 0) fun _ =>
    some (.inl (w64 (x8 + 1)))
  ) else (
    some (.inr (.inl ()))
  )

noncomputable def d_ref07_texts (a0 : (List ByteArray)) : Option Bool :=
  onInl (α := Unit) (β := Bool) (loopO (d_ref07_texts_0 a0) 0) fun _ =>
  some false
theorem d_ref07_texts_ok (a0 : (List ByteArray)) (r : Bool) (h : d_ref07_texts a0 = some r) : PCall Go.Proofs.Tryd.prog GlS 51 [Enc.pv a0] (Enc.pv r) := by
  unfold d_ref07_texts at h
  refine pcall_of_pwp Go.Proofs.Tryd.func51 (by rfl) rfl Go.Proofs.Tryd.ntmps51 (by rfl) rfl ?_
  refine pwp_seq (r_reg ?_)
  refine e_end (by kernel_rfl) ?_
  refine q_next (pwp_seq (pwp_seq (r_reg ?_)))
  refine p_run 1 (by kernel_rfl) ?_
  refine p_len (L := (a0 : (List ByteArray))) (by kernel_rfl) ?_
  refine e_end (by kernel_rfl) ?_
  refine q_next (pwp_block ?_)
  obtain ⟨o30, h30, h⟩ := o_inl h
  refine r_loop2 25 0 (fun x8 => ⟨[(0, lstOf .frozen (a0 : (List ByteArray))), (6, .int .i64 ((a0.length : Nat) : Int)), (7, .int .i64 x8)], [], [], []⟩) (fun (_ : Unit) => ⟨[], [], [], []⟩) h30 (by kernel_rfl) (fun _ => by kernel_rfl) ?_ ?_
  · rintro x8 oh29 h29
    unfold d_ref07_texts_0 at h29
    refine pwp_seq (r_reg ?_)
    refine e_end (by kernel_rfl) ?_
    refine q_next (pwp_seq ?_)
    rcases o_cond h29 with ⟨hb, h29⟩ | ⟨hb, h29⟩
    · refine r_cond_t hb (by kernel_rfl) ?_
      refine pwp_skip (q_next (pwp_seq (pwp_block (pwp_seq (r_reg ?_)))))
      refine e_end (by kernel_rfl) ?_
      refine q_next (pwp_seq (r_reg ?_))
      refine e_end (by kernel_rfl) ?_
      refine q_next (pwp_block ?_)
      obtain ⟨o40, h40, h29⟩ := o_inl h29
      refine r_loop2 25 2 (fun x18 => ⟨[(0, lstOf .frozen (a0 : (List ByteArray))), (3, .int .i64 x8), (6, .int .i64 ((a0.length : Nat) : Int)), (7, .int .i64 x8), (10, .int .i64 x8), (11, .int .i64 x18)], [], [], []⟩) (fun (_ : Unit) => ⟨[(0, lstOf .frozen (a0 : (List ByteArray))), (6, .int .i64 ((a0.length : Nat) : Int)), (7, .int .i64 x8)], [], [], []⟩) h40 (by kernel_rfl) (fun _ => by kernel_rfl) ?_ ?_
      · rintro x18 oh39 h39
        unfold d_ref07_texts_1 at h39
        refine pwp_seq (r_reg ?_)
        refine e_end (by kernel_rfl) ?_
        refine q_next (pwp_seq ?_)
        rcases o_cond h39 with ⟨hb, h39⟩ | ⟨hb, h39⟩
        · refine r_cond_t hb (by kernel_rfl) ?_
          refine pwp_skip (q_next (pwp_seq (pwp_block (pwp_seq (r_reg ?_)))))
          refine e_end (by kernel_rfl) ?_
          refine q_next (pwp_seq ?_)
          refine r_regd (by kernel_rfl) (by kernel_rfl) ?_
          refine p_run 2 (by kernel_rfl) ?_
          obtain ⟨x21, h41, h39⟩ := o_bind h39
          refine p_ix h41 (by kernel_rfl) ?_
          refine p_run 3 (by kernel_rfl) ?_
          obtain ⟨x22, h42, h39⟩ := o_bind h39
          refine p_ix h42 (by kernel_rfl) ?_
          refine e_end (by kernel_rfl) ?_
          refine q_next ?_
          rcases o_cond h39 with ⟨hb, h39⟩ | ⟨hb, h39⟩
          · refine r_cond_t hb (by kernel_rfl) ?_
            refine pwp_seq (r_reg ?_)
            refine e_end (by kernel_rfl) ?_
            refine q_next (pwp_ret (q_block_ret (q_seq_ret ?_)))
            cases h39
            refine q_lout_ret fun he => ?_
            subst he
            have h43 := o_outr h29
            refine q_block_ret (q_block_ret (q_seq_ret ?_))
            cases h43
            refine q_lout_ret fun he => ?_
            subst he
            have h44 := o_outr h
            refine q_block_ret (q_seq_ret ?_)
            cases h44
            exact q_ret (by kernel_rfl) (by kernel_rfl) (by kernel_rfl)
          refine r_cond_f hb (by kernel_rfl) ?_
          refine pwp_skip (q_block (q_next (r_reg ?_)))
          refine e_end (by kernel_rfl) ?_
          cases h39
          exact q_lback (by kernel_rfl)
        refine r_cond_f hb (by kernel_rfl) ?_
        refine pwp_exit (q_seq_exit ?_)
        cases h39
        exact q_lexit (by kernel_rfl) (by kernel_rfl)
      rintro _ s' rfl hs
      have h29 := o_outl h29
      refine q_block_hit (q_block ?_)
      refine q_next (pwp_wkr hs ?_)
      refine r_reg ?_
      refine e_end (by kernel_rfl) ?_
      cases h29
      exact q_lback (by kernel_rfl)
    refine r_cond_f hb (by kernel_rfl) ?_
    refine pwp_exit (q_seq_exit ?_)
    cases h29
    exact q_lexit (by kernel_rfl) (by kernel_rfl)
  rintro _ s' rfl hs
  have h := o_outl h
  refine q_block_hit ?_
  refine q_next (pwp_wkr hs ?_)
  refine pwp_seq (r_reg ?_)
  refine e_end (by kernel_rfl) ?_
  refine q_next (pwp_ret ?_)
  cases h
  exact q_ret (by kernel_rfl) (by kernel_rfl) (by kernel_rfl)

/-! signallingref07.named -/
noncomputable def d_ref07_named_0 (x9 : (List ByteArray)) : Int → Option (Int ⊕ (Unit ⊕ Int)) := fun x12 =>
  bif decide (x12 < ((x9.length : Nat) : Int)) then (
    (ixO x9 x12).bind fun x15 =>
    (d_ref05_Name x15).bind fun r16 =>
    bif (!r16) then (
      some (.inr (.inr 3))
    ) else (
      some (.inl (w64 (x12 + 1)))
    )
  ) else (
    some (.inr (.inl ()))
  )

noncomputable def d_ref07_named (a0 : T_api_Layout) : Option Int :=
  ((bif decide (((a0.Elements.length : Nat) : Int) < 1) then some true else (
    some (decide (32 < ((a0.Elements.length : Nat) : Int)))
  )) : Option Bool).bind fun b1 =>
  ((bif b1 then some true else (
    some (decide (((a0.Sections.length : Nat) : Int) < 1))
  )) : Option Bool).bind fun b2 =>
  ((bif b2 then some true else (
    some (decide (24 < ((a0.Sections.length : Nat) : Int)))
  )) : Option Bool).bind fun b3 =>
  ((bif b3 then some true else (
    some (decide (20 < ((a0.Signals.length : Nat) : Int)))
  )) : Option Bool).bind fun b4 =>
  ((bif b4 then some true else (
    some (decide (24 < ((a0.Balises.length : Nat) : Int)))
  )) : Option Bool).bind fun b5 =>
  bif b5 then (
    some 2
  ) else (
    (d_ref07_names a0).bind fun r6 =>
    (appO [a0.Name] r6.x0).bind fun x7 =>
    (appO x7 r6.x1).bind fun x8 =>
    (appO x8 r6.x2).bind fun x9 =>
    onInl (α := Unit) (β := Int) (loopO (d_ref07_named_0 x9) 0) fun _ =>
    (d_ref07_texts r6.x0).bind fun r17 =>
    ((bif r17 then some true else (
      (d_ref07_texts r6.x1).bind fun r19 =>
      some r19
    )) : Option Bool).bind fun b18 =>
    ((bif b18 then some true else (
      (d_ref07_texts r6.x2).bind fun r21 =>
      some r21
    )) : Option Bool).bind fun b20 =>
    bif b20 then (
      some 8
    ) else (
      some 0
    )
  )
theorem d_ref07_named_ok (a0 : T_api_Layout) (r : Int) (h : d_ref07_named a0 = some r) : PCall Go.Proofs.Tryd.prog GlS 38 [Enc.pv a0] (Enc.pv r) := by
  unfold d_ref07_named at h
  refine pcall_of_pwp Go.Proofs.Tryd.func38 (by rfl) rfl Go.Proofs.Tryd.ntmps38 (by rfl) rfl ?_
  refine pwp_seq (r_reg ?_)
  refine e_end (by kernel_rfl) ?_
  refine q_next (pwp_seq (pwp_seq (r_reg ?_)))
  refine p_run 2 (by kernel_rfl) ?_
  refine p_len (L := (a0.Elements : (List T_api_Element))) (by kernel_rfl) ?_
  obtain ⟨b1, h1, h⟩ := o_bind h
  refine p_run 2 (by kernel_rfl) ?_
  refine e_seg 5 15 (.bool b1) ?_ ?_
  · rcases o_cond h1 with ⟨hb, h1⟩ | ⟨hb, h1⟩
    · refine p_settle 10 hb (by kernel_rfl) (by kernel_rfl) ?_
      cases h1
      exact f_end (by kernel_rfl) (by kernel_rfl)
    refine p_settle 10 hb (by kernel_rfl) (by kernel_rfl) ?_
    refine p_run 2 (by kernel_rfl) ?_
    refine p_len (L := (a0.Elements : (List T_api_Element))) (by kernel_rfl) ?_
    cases h1
    exact f_end (by kernel_rfl) (by kernel_rfl)
  obtain ⟨b2, h2, h⟩ := o_bind h
  refine p_run 1 (by kernel_rfl) ?_
  refine e_seg 5 21 (.bool b2) ?_ ?_
  · rcases o_cond h2 with ⟨hb, h2⟩ | ⟨hb, h2⟩
    · refine p_settle 16 hb (by kernel_rfl) (by kernel_rfl) ?_
      cases h2
      exact f_end (by kernel_rfl) (by kernel_rfl)
    refine p_settle 16 hb (by kernel_rfl) (by kernel_rfl) ?_
    refine p_run 2 (by kernel_rfl) ?_
    refine p_len (L := (a0.Sections : (List ByteArray))) (by kernel_rfl) ?_
    cases h2
    exact f_end (by kernel_rfl) (by kernel_rfl)
  obtain ⟨b3, h3, h⟩ := o_bind h
  refine p_run 1 (by kernel_rfl) ?_
  refine e_seg 5 27 (.bool b3) ?_ ?_
  · rcases o_cond h3 with ⟨hb, h3⟩ | ⟨hb, h3⟩
    · refine p_settle 22 hb (by kernel_rfl) (by kernel_rfl) ?_
      cases h3
      exact f_end (by kernel_rfl) (by kernel_rfl)
    refine p_settle 22 hb (by kernel_rfl) (by kernel_rfl) ?_
    refine p_run 2 (by kernel_rfl) ?_
    refine p_len (L := (a0.Sections : (List ByteArray))) (by kernel_rfl) ?_
    cases h3
    exact f_end (by kernel_rfl) (by kernel_rfl)
  obtain ⟨b4, h4, h⟩ := o_bind h
  refine p_run 1 (by kernel_rfl) ?_
  refine e_seg 5 33 (.bool b4) ?_ ?_
  · rcases o_cond h4 with ⟨hb, h4⟩ | ⟨hb, h4⟩
    · refine p_settle 28 hb (by kernel_rfl) (by kernel_rfl) ?_
      cases h4
      exact f_end (by kernel_rfl) (by kernel_rfl)
    refine p_settle 28 hb (by kernel_rfl) (by kernel_rfl) ?_
    refine p_run 2 (by kernel_rfl) ?_
    refine p_len (L := (a0.Signals : (List T_api_Signal))) (by kernel_rfl) ?_
    cases h4
    exact f_end (by kernel_rfl) (by kernel_rfl)
  obtain ⟨b5, h5, h⟩ := o_bind h
  refine p_run 1 (by kernel_rfl) ?_
  refine e_seg 5 39 (.bool b5) ?_ ?_
  · rcases o_cond h5 with ⟨hb, h5⟩ | ⟨hb, h5⟩
    · refine p_settle 34 hb (by kernel_rfl) (by kernel_rfl) ?_
      cases h5
      exact f_end (by kernel_rfl) (by kernel_rfl)
    refine p_settle 34 hb (by kernel_rfl) (by kernel_rfl) ?_
    refine p_run 2 (by kernel_rfl) ?_
    refine p_len (L := (a0.Balises : (List T_api_Balise))) (by kernel_rfl) ?_
    cases h5
    exact f_end (by kernel_rfl) (by kernel_rfl)
  refine e_nil (by kernel_rfl) ?_
  refine q_next ?_
  rcases o_cond h with ⟨hb, h⟩ | ⟨hb, h⟩
  · refine r_cond_t hb (by kernel_rfl) ?_
    refine pwp_seq (r_reg ?_)
    refine e_end (by kernel_rfl) ?_
    refine q_next (pwp_ret (q_seq_ret ?_))
    cases h
    exact q_ret (by kernel_rfl) (by kernel_rfl) (by kernel_rfl)
  refine r_cond_f hb (by kernel_rfl) ?_
  refine pwp_skip (q_next (pwp_seq (r_reg ?_)))
  refine p_run 1 (by kernel_rfl) ?_
  obtain ⟨r6, h6, h⟩ := o_bind h
  refine p_call (d_ref07_names_ok _ r6 h6) (by kernel_rfl) (by kernel_rfl) ?_
  refine e_end (by kernel_rfl) ?_
  refine q_next (pwp_seq (pwp_seq ?_))
  refine r_regd (by kernel_rfl) (by kernel_rfl) ?_
  refine p_run 5 (by kernel_rfl) ?_
  obtain ⟨x7, h7, h⟩ := o_bind h
  refine p_appn (tk := 47) h7 (by kernel_rfl) ?_
  refine p_run 2 (by kernel_rfl) ?_
  obtain ⟨x8, h8, h⟩ := o_bind h
  refine p_app (tk := 47) h8 (by kernel_rfl) (by kernel_rfl) ?_
  refine p_run 2 (by kernel_rfl) ?_
  obtain ⟨x9, h9, h⟩ := o_bind h
  refine p_app (tk := 47) h9 (by kernel_rfl) (by kernel_rfl) ?_
  refine p_len (L := (x9 : (List ByteArray))) (by kernel_rfl) ?_
  refine e_end (by kernel_rfl) ?_
  refine q_next (pwp_block ?_)
  obtain ⟨o17, h17, h⟩ := o_inl h
  refine r_loop2 76 0 (fun x12 => ⟨[(3, .ref 3 0), (53, lstOf (.own 47) (x9 : (List ByteArray))), (54, .int .i64 ((x9.length : Nat) : Int)), (55, .int .i64 x12)], [(3, .cells (cellsOf r6))], [(47, (((x9).map cellsOf).length, 1))], []⟩) (fun (_ : Unit) => ⟨[(3, .ref 3 0)], [(3, .cells (cellsOf r6))], [], []⟩) h17 (by kernel_rfl) (fun _ => by kernel_rfl) ?_ ?_
  · rintro x12 oh16 h16
    unfold d_ref07_named_0 at h16
    refine pwp_seq (r_reg ?_)
    refine e_end (by kernel_rfl) ?_
    refine q_next (pwp_seq ?_)
    rcases o_cond h16 with ⟨hb, h16⟩ | ⟨hb, h16⟩
    · refine r_cond_t hb (by kernel_rfl) ?_
      refine pwp_skip (q_next (pwp_seq (pwp_block (pwp_seq (r_reg ?_)))))
      obtain ⟨x15, h18, h16⟩ := o_bind h16
      refine p_ix h18 (by kernel_rfl) ?_
      refine e_end (by kernel_rfl) ?_
      refine q_next (pwp_seq (r_reg ?_))
      refine p_run 1 (by kernel_rfl) ?_
      obtain ⟨r16, h19, h16⟩ := o_bind h16
      refine p_call (d_ref05_Name_ok _ r16 h19) (by kernel_rfl) (by kernel_rfl) ?_
      refine e_end (by kernel_rfl) ?_
      refine q_next ?_
      rcases o_cond h16 with ⟨hb, h16⟩ | ⟨hb, h16⟩
      · refine r_cond_t hb (by kernel_rfl) ?_
        refine pwp_seq (r_reg ?_)
        refine e_end (by kernel_rfl) ?_
        refine q_next (pwp_ret (q_block_ret (q_seq_ret ?_)))
        cases h16
        refine q_lout_ret fun he => ?_
        subst he
        have h20 := o_outr h
        refine q_block_ret (q_seq_ret ?_)
        cases h20
        exact q_ret (by kernel_rfl) (by kernel_rfl) (by kernel_rfl)
      refine r_cond_f hb (by kernel_rfl) ?_
      refine pwp_skip (q_block (q_next (r_reg ?_)))
      refine e_end (by kernel_rfl) ?_
      cases h16
      exact q_lback (by kernel_rfl)
    refine r_cond_f hb (by kernel_rfl) ?_
    refine pwp_exit (q_seq_exit ?_)
    cases h16
    exact q_lexit (by kernel_rfl) (by kernel_rfl)
  rintro _ s' rfl hs
  have h := o_outl h
  refine q_block_hit ?_
  refine q_next (pwp_wkr hs ?_)
  refine pwp_seq (pwp_seq (r_reg ?_))
  refine p_run 2 (by kernel_rfl) ?_
  obtain ⟨r17, h21, h⟩ := o_bind h
  refine p_call (d_ref07_texts_ok _ r17 h21) (by kernel_rfl) (by kernel_rfl) ?_
  obtain ⟨b18, h22, h⟩ := o_bind h
  refine p_run 1 (by kernel_rfl) ?_
  refine e_seg 4 70 (.bool b18) ?_ ?_
  · rcases o_cond h22 with ⟨hb, h22⟩ | ⟨hb, h22⟩
    · refine p_settle 66 hb (by kernel_rfl) (by kernel_rfl) ?_
      cases h22
      exact f_end (by kernel_rfl) (by kernel_rfl)
    refine p_settle 66 hb (by kernel_rfl) (by kernel_rfl) ?_
    refine p_run 2 (by kernel_rfl) ?_
    obtain ⟨r19, h23, h22⟩ := o_bind h22
    refine p_call (d_ref07_texts_ok _ r19 h23) (by kernel_rfl) (by kernel_rfl) ?_
    cases h22
    exact f_end (by kernel_rfl) (by kernel_rfl)
  obtain ⟨b20, h24, h⟩ := o_bind h
  refine p_run 1 (by kernel_rfl) ?_
  refine e_seg 4 75 (.bool b20) ?_ ?_
  · rcases o_cond h24 with ⟨hb, h24⟩ | ⟨hb, h24⟩
    · refine p_settle 71 hb (by kernel_rfl) (by kernel_rfl) ?_
      cases h24
      exact f_end (by kernel_rfl) (by kernel_rfl)
    refine p_settle 71 hb (by kernel_rfl) (by kernel_rfl) ?_
    refine p_run 2 (by kernel_rfl) ?_
    obtain ⟨r21, h25, h24⟩ := o_bind h24
    refine p_call (d_ref07_texts_ok _ r21 h25) (by kernel_rfl) (by kernel_rfl) ?_
    cases h24
    exact f_end (by kernel_rfl) (by kernel_rfl)
  refine e_nil (by kernel_rfl) ?_
  refine q_next ?_
  rcases o_cond h with ⟨hb, h⟩ | ⟨hb, h⟩
  · refine r_cond_t hb (by kernel_rfl) ?_
    refine pwp_seq (r_reg ?_)
    refine e_end (by kernel_rfl) ?_
    refine q_next (pwp_ret (q_seq_ret ?_))
    cases h
    exact q_ret (by kernel_rfl) (by kernel_rfl) (by kernel_rfl)
  refine r_cond_f hb (by kernel_rfl) ?_
  refine pwp_skip (q_next (pwp_seq (r_reg ?_)))
  refine e_end (by kernel_rfl) ?_
  refine q_next (pwp_ret ?_)
  cases h
  exact q_ret (by kernel_rfl) (by kernel_rfl) (by kernel_rfl)

/-! signallingref07.right -/
noncomputable def d_ref07_right (a0 : T_api_Layout) (a1 : T_api_Element) : Option Bool :=
  ((bif (((((((((decide (a1.Kind < 1)) || (decide (3 < a1.Kind))) || (decide (a1.Length < 500))) || (decide (1000000 < a1.Length))) || (decide (a1.Grade < (-50)))) || (decide (50 < a1.Grade))) || (decide (a1.Speed < 100))) || (decide (10000 < a1.Speed))) || (decide (a1.Section < 0))) then some true else (
    some (decide (((a0.Sections.length : Nat) : Int) ≤ a1.Section))
  )) : Option Bool).bind fun b1 =>
  bif b1 then (
    some false
  ) else (
    bif decide (a1.Kind = 2) then (
      some ((decide (100 ≤ a1.Slow)) && (decide (a1.Slow ≤ a1.Speed)))
    ) else (
      some (decide (a1.Slow = 0))
    )
  )
theorem d_ref07_right_ok (a0 : T_api_Layout) (a1 : T_api_Element) (r : Bool) (h : d_ref07_right a0 a1 = some r) : PCall Go.Proofs.Tryd.prog GlS 52 [Enc.pv a0, Enc.pv a1] (Enc.pv r) := by
  unfold d_ref07_right at h
  refine pcall_of_pwp Go.Proofs.Tryd.func52 (by rfl) rfl Go.Proofs.Tryd.ntmps52 (by rfl) rfl ?_
  refine pwp_seq (r_reg ?_)
  refine e_end (by kernel_rfl) ?_
  refine q_next (pwp_seq (pwp_seq (r_reg ?_)))
  refine p_run 4 (by kernel_rfl) ?_
  refine e_segb 4 12 ((decide (a1.Kind < 1)) || (decide (3 < a1.Kind))) (fun x hx => ?_) ?_
  · rcases b_or hx with ⟨hb, hx⟩ | ⟨hb, hx⟩
    · refine p_settle 8 hb (by kernel_rfl) (by kernel_rfl) ?_
      subst hx
      exact f_end (by kernel_rfl) (by kernel_rfl)
    refine p_settle 8 hb (by kernel_rfl) (by kernel_rfl) ?_
    subst hx
    exact f_end (by kernel_rfl) (by kernel_rfl)
  refine p_run 1 (by kernel_rfl) ?_
  refine e_segb 4 17 (((decide (a1.Kind < 1)) || (decide (3 < a1.Kind))) || (decide (a1.Length < 500))) (fun x hx => ?_) ?_
  · rcases b_or hx with ⟨hb, hx⟩ | ⟨hb, hx⟩
    · refine p_settle 13 hb (by kernel_rfl) (by kernel_rfl) ?_
      subst hx
      exact f_end (by kernel_rfl) (by kernel_rfl)
    refine p_settle 13 hb (by kernel_rfl) (by kernel_rfl) ?_
    subst hx
    exact f_end (by kernel_rfl) (by kernel_rfl)
  refine p_run 1 (by kernel_rfl) ?_
  refine e_segb 4 22 ((((decide (a1.Kind < 1)) || (decide (3 < a1.Kind))) || (decide (a1.Length < 500))) || (decide (1000000 < a1.Length))) (fun x hx => ?_) ?_
  · rcases b_or hx with ⟨hb, hx⟩ | ⟨hb, hx⟩
    · refine p_settle 18 hb (by kernel_rfl) (by kernel_rfl) ?_
      subst hx
      exact f_end (by kernel_rfl) (by kernel_rfl)
    refine p_settle 18 hb (by kernel_rfl) (by kernel_rfl) ?_
    subst hx
    exact f_end (by kernel_rfl) (by kernel_rfl)
  refine p_run 1 (by kernel_rfl) ?_
  refine e_segb 4 27 (((((decide (a1.Kind < 1)) || (decide (3 < a1.Kind))) || (decide (a1.Length < 500))) || (decide (1000000 < a1.Length))) || (decide (a1.Grade < (-50)))) (fun x hx => ?_) ?_
  · rcases b_or hx with ⟨hb, hx⟩ | ⟨hb, hx⟩
    · refine p_settle 23 hb (by kernel_rfl) (by kernel_rfl) ?_
      subst hx
      exact f_end (by kernel_rfl) (by kernel_rfl)
    refine p_settle 23 hb (by kernel_rfl) (by kernel_rfl) ?_
    subst hx
    exact f_end (by kernel_rfl) (by kernel_rfl)
  refine p_run 1 (by kernel_rfl) ?_
  refine e_segb 4 32 ((((((decide (a1.Kind < 1)) || (decide (3 < a1.Kind))) || (decide (a1.Length < 500))) || (decide (1000000 < a1.Length))) || (decide (a1.Grade < (-50)))) || (decide (50 < a1.Grade))) (fun x hx => ?_) ?_
  · rcases b_or hx with ⟨hb, hx⟩ | ⟨hb, hx⟩
    · refine p_settle 28 hb (by kernel_rfl) (by kernel_rfl) ?_
      subst hx
      exact f_end (by kernel_rfl) (by kernel_rfl)
    refine p_settle 28 hb (by kernel_rfl) (by kernel_rfl) ?_
    subst hx
    exact f_end (by kernel_rfl) (by kernel_rfl)
  refine p_run 1 (by kernel_rfl) ?_
  refine e_segb 4 37 (((((((decide (a1.Kind < 1)) || (decide (3 < a1.Kind))) || (decide (a1.Length < 500))) || (decide (1000000 < a1.Length))) || (decide (a1.Grade < (-50)))) || (decide (50 < a1.Grade))) || (decide (a1.Speed < 100))) (fun x hx => ?_) ?_
  · rcases b_or hx with ⟨hb, hx⟩ | ⟨hb, hx⟩
    · refine p_settle 33 hb (by kernel_rfl) (by kernel_rfl) ?_
      subst hx
      exact f_end (by kernel_rfl) (by kernel_rfl)
    refine p_settle 33 hb (by kernel_rfl) (by kernel_rfl) ?_
    subst hx
    exact f_end (by kernel_rfl) (by kernel_rfl)
  refine p_run 1 (by kernel_rfl) ?_
  refine e_segb 4 42 ((((((((decide (a1.Kind < 1)) || (decide (3 < a1.Kind))) || (decide (a1.Length < 500))) || (decide (1000000 < a1.Length))) || (decide (a1.Grade < (-50)))) || (decide (50 < a1.Grade))) || (decide (a1.Speed < 100))) || (decide (10000 < a1.Speed))) (fun x hx => ?_) ?_
  · rcases b_or hx with ⟨hb, hx⟩ | ⟨hb, hx⟩
    · refine p_settle 38 hb (by kernel_rfl) (by kernel_rfl) ?_
      subst hx
      exact f_end (by kernel_rfl) (by kernel_rfl)
    refine p_settle 38 hb (by kernel_rfl) (by kernel_rfl) ?_
    subst hx
    exact f_end (by kernel_rfl) (by kernel_rfl)
  refine p_run 1 (by kernel_rfl) ?_
  refine e_segb 4 47 (((((((((decide (a1.Kind < 1)) || (decide (3 < a1.Kind))) || (decide (a1.Length < 500))) || (decide (1000000 < a1.Length))) || (decide (a1.Grade < (-50)))) || (decide (50 < a1.Grade))) || (decide (a1.Speed < 100))) || (decide (10000 < a1.Speed))) || (decide (a1.Section < 0))) (fun x hx => ?_) ?_
  · rcases b_or hx with ⟨hb, hx⟩ | ⟨hb, hx⟩
    · refine p_settle 43 hb (by kernel_rfl) (by kernel_rfl) ?_
      subst hx
      exact f_end (by kernel_rfl) (by kernel_rfl)
    refine p_settle 43 hb (by kernel_rfl) (by kernel_rfl) ?_
    subst hx
    exact f_end (by kernel_rfl) (by kernel_rfl)
  obtain ⟨b1, h1, h⟩ := o_bind h
  refine p_run 1 (by kernel_rfl) ?_
  refine e_seg 7 55 (.bool b1) ?_ ?_
  · rcases o_cond h1 with ⟨hb, h1⟩ | ⟨hb, h1⟩
    · refine p_settle 48 hb (by kernel_rfl) (by kernel_rfl) ?_
      cases h1
      exact f_end (by kernel_rfl) (by kernel_rfl)
    refine p_settle 48 hb (by kernel_rfl) (by kernel_rfl) ?_
    refine p_run 4 (by kernel_rfl) ?_
    refine p_len (L := (a0.Sections : (List ByteArray))) (by kernel_rfl) ?_
    cases h1
    exact f_end (by kernel_rfl) (by kernel_rfl)
  refine e_nil (by kernel_rfl) ?_
  refine q_next ?_
  rcases o_cond h with ⟨hb, h⟩ | ⟨hb, h⟩
  · refine r_cond_t hb (by kernel_rfl) ?_
    refine pwp_seq (r_reg ?_)
    refine e_end (by kernel_rfl) ?_
    refine q_next (pwp_ret (q_seq_ret ?_))
    cases h
    exact q_ret (by kernel_rfl) (by kernel_rfl) (by kernel_rfl)
  refine r_cond_f hb (by kernel_rfl) ?_
  refine pwp_skip (q_next (pwp_seq (pwp_seq (r_reg ?_))))
  refine e_end (by kernel_rfl) ?_
  refine q_next ?_
  rcases o_cond h with ⟨hb, h⟩ | ⟨hb, h⟩
  · refine r_cond_t hb (by kernel_rfl) ?_
    refine pwp_seq (r_reg ?_)
    refine p_run 4 (by kernel_rfl) ?_
    refine e_segb 6 68 ((decide (100 ≤ a1.Slow)) && (decide (a1.Slow ≤ a1.Speed))) (fun x hx => ?_) ?_
    · rcases b_and hx with ⟨hb, hx⟩ | ⟨hb, hx⟩
      · refine p_settle 62 hb (by kernel_rfl) (by kernel_rfl) ?_
        subst hx
        exact f_end (by kernel_rfl) (by kernel_rfl)
      refine p_settle 62 hb (by kernel_rfl) (by kernel_rfl) ?_
      subst hx
      exact f_end (by kernel_rfl) (by kernel_rfl)
    refine e_end (by kernel_rfl) ?_
    refine q_next (pwp_ret (q_seq_ret ?_))
    cases h
    exact q_ret (by kernel_rfl) (by kernel_rfl) (by kernel_rfl)
  refine r_cond_f hb (by kernel_rfl) ?_
  refine pwp_skip (q_next (pwp_seq (r_reg ?_)))
  refine e_end (by kernel_rfl) ?_
  refine q_next (pwp_ret ?_)
  cases h
  exact q_ret (by kernel_rfl) (by kernel_rfl) (by kernel_rfl)

/-! signallingref07.Members -/
noncomputable def d_ref07_Members_0 (a0 : T_api_Layout) (a1 : Int) : (Int × (List Int)) → Option ((Int × (List Int)) ⊕ ((List Int) ⊕ (List Int))) := fun (x16, x17) =>
  bif decide (x16 < ((a0.Elements.length : Nat) : Int)) then (
    onInl (α := (List Int)) (β := ((Int × (List Int)) ⊕ ((List Int) ⊕ (List Int)))) (
      (ixO a0.Elements x16).bind fun x30 =>
      ((bif ((decide (x30.Section = a1)) && (decide (0 ≤ a1))) then (
        some (decide (a1 < ((a0.Sections.length : Nat) : Int)))
      ) else some false) : Option Bool).bind fun b31 =>
      bif b31 then (
        (appO x17 [x16]).bind fun x32 =>
        some (.inl x32)
      ) else (
        some (.inl x17)
      )
    ) fun x29 =>
    some (.inl (w64 (x16 + 1), x29))
  ) else (
    some (.inr (.inl x17))
  )

noncomputable def d_ref07_Members (a0 : T_api_Layout) (a1 : Int) : Option (List Int) :=
  onInl (α := (List Int)) (β := (List Int)) (loopO (d_ref07_Members_0 a0 a1) (0, ([] : (List Int)))) fun x25 =>
  some x25
theorem d_ref07_Members_ok (a0 : T_api_Layout) (a1 : Int) (r : (List Int)) (h : d_ref07_Members a0 a1 = some r) : PCall Go.Proofs.Tryd.prog GlS 53 [Enc.pv a0, Enc.pv a1] (lstOf (.own 100005) r) := by
  unfold d_ref07_Members at h
  refine pcall_of_pwp Go.Proofs.Tryd.func53 (by rfl) rfl Go.Proofs.Tryd.ntmps53 (by rfl) rfl ?_
  refine pwp_seq (r_reg ?_)
  refine e_end (by kernel_rfl) ?_
  refine q_next (pwp_seq (r_reg ?_))
  refine e_end (by kernel_rfl) ?_
  refine q_next (pwp_seq (pwp_seq (r_reg ?_)))
  refine p_run 2 (by kernel_rfl) ?_
  refine p_len (L := (a0.Elements : (List T_api_Element))) (by kernel_rfl) ?_
  refine e_end (by kernel_rfl) ?_
  refine q_next (pwp_block ?_)
  refine g_nil 5 100005 1 8 (by kernel_rfl) (by kernel_rfl) ?_
  obtain ⟨o23, h23, h⟩ := o_inl h
  refine r_loop2 37 0 (fun (x16, x17) => ⟨[(1, .int .i64 a1), (2, .ref 2 0), (5, lstOf (.own 100005) (x17 : (List Int))), (9, lstOf .frozen (a0.Elements : (List T_api_Element))), (10, .int .i64 ((a0.Elements.length : Nat) : Int)), (11, .int .i64 x16)], [(2, .cells (cellsOf a0))], [(100005, (((x17).map cellsOf).length, 1))], []⟩) (fun x25 => ⟨[(5, lstOf (.own 100005) (x25 : (List Int)))], [], [(100005, (((x25).map cellsOf).length, 1))], []⟩) h23 (by kernel_rfl) (fun _ => by kernel_rfl) ?_ ?_
  · rintro ⟨x16, x17⟩ oh22 h22
    unfold d_ref07_Members_0 at h22
    refine pwp_seq (r_reg ?_)
    refine e_end (by kernel_rfl) ?_
    refine q_next (pwp_seq ?_)
    rcases o_cond h22 with ⟨hb, h22⟩ | ⟨hb, h22⟩
    · refine r_cond_t hb (by kernel_rfl) ?_
      refine pwp_skip (q_next ?_)
      obtain ⟨o27, h27, h22⟩ := o_inl h22
      refine r_join (o := o27) 37 (fun x29 => ⟨[(1, .int .i64 a1), (2, .ref 2 0), (5, lstOf (.own 100005) (x29 : (List Int))), (9, lstOf .frozen (a0.Elements : (List T_api_Element))), (10, .int .i64 ((a0.Elements.length : Nat) : Int)), (11, .int .i64 x16)], [(2, .cells (cellsOf a0))], [(100005, (((x29).map cellsOf).length, 1))], []⟩) ?_ ?_
      · refine pwp_block (pwp_seq (r_reg ?_))
        refine p_run 1 (by kernel_rfl) ?_
        obtain ⟨x30, h28, h27⟩ := o_bind h27
        refine p_ix h28 (by kernel_rfl) ?_
        refine e_end (by kernel_rfl) ?_
        refine q_next (pwp_seq (r_reg ?_))
        refine p_run 5 (by kernel_rfl) ?_
        refine e_segb 3 23 ((decide (x30.Section = a1)) && (decide (0 ≤ a1))) (fun x hx => ?_) ?_
        · rcases b_and hx with ⟨hb, hx⟩ | ⟨hb, hx⟩
          · refine p_settle 20 hb (by kernel_rfl) (by kernel_rfl) ?_
            subst hx
            exact f_end (by kernel_rfl) (by kernel_rfl)
          refine p_settle 20 hb (by kernel_rfl) (by kernel_rfl) ?_
          subst hx
          exact f_end (by kernel_rfl) (by kernel_rfl)
        obtain ⟨b31, h29, h27⟩ := o_bind h27
        refine p_run 1 (by kernel_rfl) ?_
        refine e_seg 6 30 (.bool b31) ?_ ?_
        · rcases o_cond h29 with ⟨hb, h29⟩ | ⟨hb, h29⟩
          · refine p_settle 24 hb (by kernel_rfl) (by kernel_rfl) ?_
            refine p_run 3 (by kernel_rfl) ?_
            refine p_len (L := (a0.Sections : (List ByteArray))) (by kernel_rfl) ?_
            cases h29
            exact f_end (by kernel_rfl) (by kernel_rfl)
          refine p_settle 24 hb (by kernel_rfl) (by kernel_rfl) ?_
          cases h29
          exact f_end (by kernel_rfl) (by kernel_rfl)
        refine e_nil (by kernel_rfl) ?_
        refine q_next ?_
        rcases o_cond h27 with ⟨hb, h27⟩ | ⟨hb, h27⟩
        · refine r_cond_t hb (by kernel_rfl) ?_
          refine r_reg ?_
          refine p_run 3 (by kernel_rfl) ?_
          obtain ⟨x32, h30, h27⟩ := o_bind h27
          refine p_app (tk := 100005) h30 (by kernel_rfl) (by kernel_rfl) ?_
          refine e_end (by kernel_rfl) ?_
          refine q_block ?_
          cases h27
          exact q_join (by kernel_rfl) (by kernel_rfl)
        refine r_cond_f hb (by kernel_rfl) ?_
        refine pwp_skip (q_block ?_)
        cases h27
        exact q_join (by kernel_rfl) (by kernel_rfl)
      rintro x29 rfl
      have h22 := o_outl h22
      refine r_reg ?_
      refine e_end (by kernel_rfl) ?_
      cases h22
      exact q_lback (by kernel_rfl)
    refine r_cond_f hb (by kernel_rfl) ?_
    refine pwp_exit (q_seq_exit ?_)
    cases h22
    exact q_lexit (by kernel_rfl) (by kernel_rfl)
  rintro x25 s' rfl hs
  have h := o_outl h
  refine q_block_hit ?_
  refine q_next (pwp_wkr hs ?_)
  refine pwp_seq (r_reg ?_)
  refine e_end (by kernel_rfl) ?_
  refine q_next (pwp_ret ?_)
  cases h
  exact q_ret (by kernel_rfl) (by kernel_rfl) (by kernel_rfl)
theorem d_ref07_Members_fz (a0 : T_api_Layout) (a1 : Int) (r : (List Int)) (h : d_ref07_Members a0 a1 = some r) : PCall Go.Proofs.Tryd.prog GlS 53 [Enc.pv a0, Enc.pv a1] (Enc.pv r) :=
  (d_ref07_Members_ok a0 a1 r h).freeze (by kernel_rfl) (by kernel_rfl) (by kernel_rfl)

/-! signallingref06.Sides -/
noncomputable def d_ref06_Sides (a0 : Int) : Option Int :=
  bif decide (a0 = 1) then (
    some 2
  ) else (
    bif decide (a0 = 2) then (
      some 3
    ) else (
      bif decide (a0 = 3) then (
        some 4
      ) else (
        some 0
      )
    )
  )
theorem d_ref06_Sides_ok (a0 : Int) (r : Int) (h : d_ref06_Sides a0 = some r) : PCall Go.Proofs.Tryd.prog GlS 63 [Enc.pv a0] (Enc.pv r) := by
  unfold d_ref06_Sides at h
  refine pcall_of_pwp Go.Proofs.Tryd.func63 (by rfl) rfl Go.Proofs.Tryd.ntmps63 (by rfl) rfl ?_
  refine pwp_seq (r_reg ?_)
  refine e_end (by kernel_rfl) ?_
  refine q_next (pwp_seq (pwp_seq (r_reg ?_)))
  refine e_end (by kernel_rfl) ?_
  refine q_next (pwp_block (pwp_seq (r_reg ?_)))
  refine e_end (by kernel_rfl) ?_
  refine q_next ?_
  rcases o_cond h with ⟨hb, h⟩ | ⟨hb, h⟩
  · refine r_cond_t hb (by kernel_rfl) ?_
    refine pwp_seq (r_reg ?_)
    refine e_end (by kernel_rfl) ?_
    refine q_next (pwp_ret (q_block_ret (q_seq_ret ?_)))
    cases h
    exact q_ret (by kernel_rfl) (by kernel_rfl) (by kernel_rfl)
  refine r_cond_f hb (by kernel_rfl) ?_
  refine pwp_seq (r_reg ?_)
  refine e_end (by kernel_rfl) ?_
  refine q_next ?_
  rcases o_cond h with ⟨hb, h⟩ | ⟨hb, h⟩
  · refine r_cond_t hb (by kernel_rfl) ?_
    refine pwp_seq (r_reg ?_)
    refine e_end (by kernel_rfl) ?_
    refine q_next (pwp_ret (q_block_ret (q_seq_ret ?_)))
    cases h
    exact q_ret (by kernel_rfl) (by kernel_rfl) (by kernel_rfl)
  refine r_cond_f hb (by kernel_rfl) ?_
  refine pwp_seq (r_reg ?_)
  refine e_end (by kernel_rfl) ?_
  refine q_next ?_
  rcases o_cond h with ⟨hb, h⟩ | ⟨hb, h⟩
  · refine r_cond_t hb (by kernel_rfl) ?_
    refine pwp_seq (r_reg ?_)
    refine e_end (by kernel_rfl) ?_
    refine q_next (pwp_ret (q_block_ret (q_seq_ret ?_)))
    cases h
    exact q_ret (by kernel_rfl) (by kernel_rfl) (by kernel_rfl)
  refine r_cond_f hb (by kernel_rfl) ?_
  refine pwp_skip (q_block (q_next (pwp_seq (r_reg ?_))))
  refine e_end (by kernel_rfl) ?_
  refine q_next (pwp_ret ?_)
  cases h
  exact q_ret (by kernel_rfl) (by kernel_rfl) (by kernel_rfl)

/-! signallingref07.exists -/
noncomputable def d_ref07_exists (a0 : T_api_Layout) (a1 : T_api_End) : Option Bool :=
  ((bif decide (0 ≤ a1.El) then (
    some (decide (a1.El < ((a0.Elements.length : Nat) : Int)))
  ) else some false) : Option Bool).bind fun b1 =>
  ((bif (b1 && (decide (0 ≤ a1.Side))) then (
    (ixO a0.Elements a1.El).bind fun x3 =>
    (d_ref06_Sides x3.Kind).bind fun r4 =>
    some (decide (a1.Side < r4))
  ) else some false) : Option Bool).bind fun b2 =>
  some b2
theorem d_ref07_exists_ok (a0 : T_api_Layout) (a1 : T_api_End) (r : Bool) (h : d_ref07_exists a0 a1 = some r) : PCall Go.Proofs.Tryd.prog GlS 54 [Enc.pv a0, Enc.pv a1] (Enc.pv r) := by
  unfold d_ref07_exists at h
  refine pcall_of_pwp Go.Proofs.Tryd.func54 (by rfl) rfl Go.Proofs.Tryd.ntmps54 (by rfl) rfl ?_
  refine pwp_seq (r_reg ?_)
  refine e_end (by kernel_rfl) ?_
  refine q_next (pwp_seq ?_)
  refine r_regd (by kernel_rfl) (by kernel_rfl) ?_
  obtain ⟨b1, h1, h⟩ := o_bind h
  refine p_run 4 (by kernel_rfl) ?_
  refine e_seg 7 15 (.bool b1) ?_ ?_
  · rcases o_cond h1 with ⟨hb, h1⟩ | ⟨hb, h1⟩
    · refine p_settle 8 hb (by kernel_rfl) (by kernel_rfl) ?_
      refine p_run 4 (by kernel_rfl) ?_
      refine p_len (L := (a0.Elements : (List T_api_Element))) (by kernel_rfl) ?_
      cases h1
      exact f_end (by kernel_rfl) (by kernel_rfl)
    refine p_settle 8 hb (by kernel_rfl) (by kernel_rfl) ?_
    cases h1
    exact f_end (by kernel_rfl) (by kernel_rfl)
  refine p_run 1 (by kernel_rfl) ?_
  refine e_segb 4 20 (b1 && (decide (0 ≤ a1.Side))) (fun x hx => ?_) ?_
  · rcases b_and hx with ⟨hb, hx⟩ | ⟨hb, hx⟩
    · refine p_settle 16 hb (by kernel_rfl) (by kernel_rfl) ?_
      subst hx
      exact f_end (by kernel_rfl) (by kernel_rfl)
    refine p_settle 16 hb (by kernel_rfl) (by kernel_rfl) ?_
    subst hx
    exact f_end (by kernel_rfl) (by kernel_rfl)
  obtain ⟨b2, h2, h⟩ := o_bind h
  refine p_run 1 (by kernel_rfl) ?_
  refine e_seg 12 33 (.bool b2) ?_ ?_
  · rcases o_cond h2 with ⟨hb, h2⟩ | ⟨hb, h2⟩
    · refine p_settle 21 hb (by kernel_rfl) (by kernel_rfl) ?_
      refine p_run 6 (by kernel_rfl) ?_
      obtain ⟨x3, h3, h2⟩ := o_bind h2
      refine p_ix h3 (by kernel_rfl) ?_
      refine p_run 2 (by kernel_rfl) ?_
      obtain ⟨r4, h4, h2⟩ := o_bind h2
      refine p_call (d_ref06_Sides_ok _ r4 h4) (by kernel_rfl) (by kernel_rfl) ?_
      cases h2
      exact f_end (by kernel_rfl) (by kernel_rfl)
    refine p_settle 21 hb (by kernel_rfl) (by kernel_rfl) ?_
    cases h2
    exact f_end (by kernel_rfl) (by kernel_rfl)
  refine e_end (by kernel_rfl) ?_
  refine q_next (pwp_ret ?_)
  cases h
  exact q_ret (by kernel_rfl) (by kernel_rfl) (by kernel_rfl)

/-! signallingref07.ends -/
noncomputable def d_ref07_ends_1 (a0 : (List T_api_End)) (x8 : Int) : Int → Option (Int ⊕ (Unit ⊕ (Int ⊕ (Unit ⊕ Bool)))) := fun x18 =>
  bif decide (x18 < x8) then (
    (ixO a0 x8).bind fun x21 =>
    (ixO a0 x18).bind fun x22 =>
    bif eq_T_api_End x21 x22 then (
      some (.inr (.inr (.inr (.inr true))))
    ) else (
      some (.inl (w64 (x18 + 1)))
    )
  ) else (
    some (.inr (.inl ()))
  )

noncomputable def d_ref07_ends_0 (a0 : (List T_api_End)) : Int → Option (Int ⊕ (Unit ⊕ Bool)) := fun x8 =>
  bif decide (x8 < ((a0.length : Nat) : Int)) then (
    onInl (α := Unit) (β := (Int ⊕ (Unit ⊕ Bool))) (loopO (d_ref07_ends_1 a0 x8) 0) fun _ =>
    some (.inl (w64 (x8 + 1)))
  ) else (
    some (.inr (.inl ()))
  )

noncomputable def d_ref07_ends (a0 : (List T_api_End)) : Option Bool :=
  onInl (α := Unit) (β := Bool) (loopO (d_ref07_ends_0 a0) 0) fun _ =>
  some false
theorem d_ref07_ends_ok (a0 : (List T_api_End)) (r : Bool) (h : d_ref07_ends a0 = some r) : PCall Go.Proofs.Tryd.prog GlS 55 [Enc.pv a0] (Enc.pv r) := by
  unfold d_ref07_ends at h
  refine pcall_of_pwp Go.Proofs.Tryd.func55 (by rfl) rfl Go.Proofs.Tryd.ntmps55 (by rfl) rfl ?_
  refine pwp_seq (r_reg ?_)
  refine e_end (by kernel_rfl) ?_
  refine q_next (pwp_seq (pwp_seq (r_reg ?_)))
  refine p_run 1 (by kernel_rfl) ?_
  refine p_len (L := (a0 : (List T_api_End))) (by kernel_rfl) ?_
  refine e_end (by kernel_rfl) ?_
  refine q_next (pwp_block ?_)
  obtain ⟨o30, h30, h⟩ := o_inl h
  refine r_loop2 25 0 (fun x8 => ⟨[(0, lstOf .frozen (a0 : (List T_api_End))), (6, .int .i64 ((a0.length : Nat) : Int)), (7, .int .i64 x8)], [], [], []⟩) (fun (_ : Unit) => ⟨[], [], [], []⟩) h30 (by kernel_rfl) (fun _ => by kernel_rfl) ?_ ?_
  · rintro x8 oh29 h29
    unfold d_ref07_ends_0 at h29
    refine pwp_seq (r_reg ?_)
    refine e_end (by kernel_rfl) ?_
    refine q_next (pwp_seq ?_)
    rcases o_cond h29 with ⟨hb, h29⟩ | ⟨hb, h29⟩
    · refine r_cond_t hb (by kernel_rfl) ?_
      refine pwp_skip (q_next (pwp_seq (pwp_block (pwp_seq (r_reg ?_)))))
      refine e_end (by kernel_rfl) ?_
      refine q_next (pwp_seq (r_reg ?_))
      refine e_end (by kernel_rfl) ?_
      refine q_next (pwp_block ?_)
      obtain ⟨o40, h40, h29⟩ := o_inl h29
      refine r_loop2 25 2 (fun x18 => ⟨[(0, lstOf .frozen (a0 : (List T_api_End))), (3, .int .i64 x8), (6, .int .i64 ((a0.length : Nat) : Int)), (7, .int .i64 x8), (10, .int .i64 x8), (11, .int .i64 x18)], [], [], []⟩) (fun (_ : Unit) => ⟨[(0, lstOf .frozen (a0 : (List T_api_End))), (6, .int .i64 ((a0.length : Nat) : Int)), (7, .int .i64 x8)], [], [], []⟩) h40 (by kernel_rfl) (fun _ => by kernel_rfl) ?_ ?_
      · rintro x18 oh39 h39
        unfold d_ref07_ends_1 at h39
        refine pwp_seq (r_reg ?_)
        refine e_end (by kernel_rfl) ?_
        refine q_next (pwp_seq ?_)
        rcases o_cond h39 with ⟨hb, h39⟩ | ⟨hb, h39⟩
        · refine r_cond_t hb (by kernel_rfl) ?_
          refine pwp_skip (q_next (pwp_seq (pwp_block (pwp_seq (r_reg ?_)))))
          refine e_end (by kernel_rfl) ?_
          refine q_next (pwp_seq ?_)
          refine r_regd (by kernel_rfl) (by kernel_rfl) ?_
          refine p_run 2 (by kernel_rfl) ?_
          obtain ⟨x21, h41, h39⟩ := o_bind h39
          refine p_ix h41 (by kernel_rfl) ?_
          refine p_run 3 (by kernel_rfl) ?_
          obtain ⟨x22, h42, h39⟩ := o_bind h39
          refine p_ix h42 (by kernel_rfl) ?_
          refine e_end (by kernel_rfl) ?_
          refine q_next ?_
          rcases o_cond h39 with ⟨hb, h39⟩ | ⟨hb, h39⟩
          · refine r_cond_t hb (by kernel_rfl) ?_
            refine pwp_seq (r_reg ?_)
            refine e_end (by kernel_rfl) ?_
            refine q_next (pwp_ret (q_block_ret (q_seq_ret ?_)))
            cases h39
            refine q_lout_ret fun he => ?_
            subst he
            have h43 := o_outr h29
            refine q_block_ret (q_block_ret (q_seq_ret ?_))
            cases h43
            refine q_lout_ret fun he => ?_
            subst he
            have h44 := o_outr h
            refine q_block_ret (q_seq_ret ?_)
            cases h44
            exact q_ret (by kernel_rfl) (by kernel_rfl) (by kernel_rfl)
          refine r_cond_f hb (by kernel_rfl) ?_
          refine pwp_skip (q_block (q_next (r_reg ?_)))
          refine e_end (by kernel_rfl) ?_
          cases h39
          exact q_lback (by kernel_rfl)
        refine r_cond_f hb (by kernel_rfl) ?_
        refine pwp_exit (q_seq_exit ?_)
        cases h39
        exact q_lexit (by kernel_rfl) (by kernel_rfl)
      rintro _ s' rfl hs
      have h29 := o_outl h29
      refine q_block_hit (q_block ?_)
      refine q_next (pwp_wkr hs ?_)
      refine r_reg ?_
      refine e_end (by kernel_rfl) ?_
      cases h29
      exact q_lback (by kernel_rfl)
    refine r_cond_f hb (by kernel_rfl) ?_
    refine pwp_exit (q_seq_exit ?_)
    cases h29
    exact q_lexit (by kernel_rfl) (by kernel_rfl)
  rintro _ s' rfl hs
  have h := o_outl h
  refine q_block_hit ?_
  refine q_next (pwp_wkr hs ?_)
  refine pwp_seq (r_reg ?_)
  refine e_end (by kernel_rfl) ?_
  refine q_next (pwp_ret ?_)
  cases h
  exact q_ret (by kernel_rfl) (by kernel_rfl) (by kernel_rfl)

/-! signallingref07.elements -/
noncomputable def d_ref07_elements_0 (a0 : T_api_Layout) : Int → Option (Int ⊕ (Unit ⊕ Int)) := fun x3 =>
  bif decide (x3 < ((a0.Elements.length : Nat) : Int)) then (
    (ixO a0.Elements x3).bind fun x6 =>
    (d_ref07_right a0 x6).bind fun r7 =>
    bif (!r7) then (
      some (.inr (.inr 1))
    ) else (
      some (.inl (w64 (x3 + 1)))
    )
  ) else (
    some (.inr (.inl ()))
  )

noncomputable def d_ref07_elements_1 (a0 : T_api_Layout) : Int → Option (Int ⊕ (Unit ⊕ Int)) := fun x9 =>
  bif decide (x9 < ((a0.Sections.length : Nat) : Int)) then (
    (d_ref07_Members a0 x9).bind fun r11 =>
    bif decide (((r11.length : Nat) : Int) = 0) then (
      some (.inr (.inr 1))
    ) else (
      some (.inl (w64 (x9 + 1)))
    )
  ) else (
    some (.inr (.inl ()))
  )

noncomputable def d_ref07_elements_2 (a0 : T_api_Layout) : (Int × (List T_api_End)) → Option ((Int × (List T_api_End)) ⊕ ((List T_api_End) ⊕ Int)) := fun (x23, x24) =>
  bif decide (x23 < ((a0.Joints.length : Nat) : Int)) then (
    (ixO a0.Joints x23).bind fun x31 =>
    (d_ref07_exists a0 x31.A).bind fun r32 =>
    ((bif (!r32) then some true else (
      (d_ref07_exists a0 x31.B).bind fun r34 =>
      some (!r34)
    )) : Option Bool).bind fun b33 =>
    bif (b33 || (eq_T_api_End x31.A x31.B)) then (
      some (.inr (.inr 1))
    ) else (
      (appO x24 [x31.A, x31.B]).bind fun x35 =>
      some (.inl (w64 (x23 + 1), x35))
    )
  ) else (
    some (.inr (.inl x24))
  )

noncomputable def d_ref07_elements (a0 : T_api_Layout) : Option Int :=
  onInl (α := Unit) (β := Int) (loopO (d_ref07_elements_0 a0) 0) fun _ =>
  onInl (α := Unit) (β := Int) (loopO (d_ref07_elements_1 a0) 0) fun _ =>
  onInl (α := (List T_api_End)) (β := Int) (loopO (d_ref07_elements_2 a0) (0, ([] : (List T_api_End)))) fun x30 =>
  (d_ref07_ends x30).bind fun r36 =>
  bif r36 then (
    some 8
  ) else (
    some 0
  )
theorem d_ref07_elements_ok (a0 : T_api_Layout) (r : Int) (h : d_ref07_elements a0 = some r) : PCall Go.Proofs.Tryd.prog GlS 39 [Enc.pv a0] (Enc.pv r) := by
  unfold d_ref07_elements at h
  refine pcall_of_pwp Go.Proofs.Tryd.func39 (by rfl) rfl Go.Proofs.Tryd.ntmps39 (by rfl) rfl ?_
  refine pwp_seq (r_reg ?_)
  refine e_end (by kernel_rfl) ?_
  refine q_next (pwp_seq (pwp_seq (r_reg ?_)))
  refine p_run 2 (by kernel_rfl) ?_
  refine p_len (L := (a0.Elements : (List T_api_Element))) (by kernel_rfl) ?_
  refine e_end (by kernel_rfl) ?_
  refine q_next (pwp_block ?_)
  obtain ⟨o8, h8, h⟩ := o_inl h
  refine r_loop2 69 0 (fun x3 => ⟨[(1, .ref 1 0), (10, lstOf .frozen (a0.Elements : (List T_api_Element))), (11, .int .i64 ((a0.Elements.length : Nat) : Int)), (12, .int .i64 x3)], [(1, .cells (cellsOf a0))], [], []⟩) (fun (_ : Unit) => ⟨[(1, .ref 1 0)], [(1, .cells (cellsOf a0))], [], []⟩) h8 (by kernel_rfl) (fun _ => by kernel_rfl) ?_ ?_
  · rintro x3 oh7 h7
    unfold d_ref07_elements_0 at h7
    refine pwp_seq (r_reg ?_)
    refine e_end (by kernel_rfl) ?_
    refine q_next (pwp_seq ?_)
    rcases o_cond h7 with ⟨hb, h7⟩ | ⟨hb, h7⟩
    · refine r_cond_t hb (by kernel_rfl) ?_
      refine pwp_skip (q_next (pwp_seq (pwp_block (pwp_seq (r_reg ?_)))))
      obtain ⟨x6, h9, h7⟩ := o_bind h7
      refine p_ix h9 (by kernel_rfl) ?_
      refine e_end (by kernel_rfl) ?_
      refine q_next (pwp_seq (r_reg ?_))
      refine p_run 2 (by kernel_rfl) ?_
      obtain ⟨r7, h10, h7⟩ := o_bind h7
      refine p_call (d_ref07_right_ok _ _ r7 h10) (by kernel_rfl) (by kernel_rfl) ?_
      refine e_end (by kernel_rfl) ?_
      refine q_next ?_
      rcases o_cond h7 with ⟨hb, h7⟩ | ⟨hb, h7⟩
      · refine r_cond_t hb (by kernel_rfl) ?_
        refine pwp_seq (r_reg ?_)
        refine e_end (by kernel_rfl) ?_
        refine q_next (pwp_ret (q_block_ret (q_seq_ret ?_)))
        cases h7
        refine q_lout_ret fun he => ?_
        subst he
        have h11 := o_outr h
        refine q_block_ret (q_seq_ret ?_)
        cases h11
        exact q_ret (by kernel_rfl) (by kernel_rfl) (by kernel_rfl)
      refine r_cond_f hb (by kernel_rfl) ?_
      refine pwp_skip (q_block (q_next (r_reg ?_)))
      refine e_end (by kernel_rfl) ?_
      cases h7
      exact q_lback (by kernel_rfl)
    refine r_cond_f hb (by kernel_rfl) ?_
    refine pwp_exit (q_seq_exit ?_)
    cases h7
    exact q_lexit (by kernel_rfl) (by kernel_rfl)
  rintro _ s' rfl hs
  have h := o_outl h
  refine q_block_hit ?_
  refine q_next (pwp_wkr hs ?_)
  refine pwp_seq (pwp_seq (r_reg ?_))
  refine p_run 2 (by kernel_rfl) ?_
  refine p_len (L := (a0.Sections : (List ByteArray))) (by kernel_rfl) ?_
  refine e_end (by kernel_rfl) ?_
  refine q_next (pwp_block ?_)
  obtain ⟨o17, h17, h⟩ := o_inl h
  refine r_loop2 69 2 (fun x9 => ⟨[(1, .ref 1 0), (23, .int .i64 ((a0.Sections.length : Nat) : Int)), (24, .int .i64 x9)], [(1, .cells (cellsOf a0))], [], []⟩) (fun (_ : Unit) => ⟨[(1, .ref 1 0)], [(1, .cells (cellsOf a0))], [], []⟩) h17 (by kernel_rfl) (fun _ => by kernel_rfl) ?_ ?_
  · rintro x9 oh16 h16
    unfold d_ref07_elements_1 at h16
    refine pwp_seq (r_reg ?_)
    refine e_end (by kernel_rfl) ?_
    refine q_next (pwp_seq ?_)
    rcases o_cond h16 with ⟨hb, h16⟩ | ⟨hb, h16⟩
    · refine r_cond_t hb (by kernel_rfl) ?_
      refine pwp_skip (q_next (pwp_seq (pwp_block (pwp_seq (r_reg ?_)))))
      refine e_end (by kernel_rfl) ?_
      refine q_next (pwp_seq (r_reg ?_))
      refine p_run 2 (by kernel_rfl) ?_
      obtain ⟨r11, h18, h16⟩ := o_bind h16
      refine p_call (d_ref07_Members_ok _ _ r11 h18) (by kernel_rfl) (by kernel_rfl) ?_
      refine p_len (L := (r11 : (List Int))) (by kernel_rfl) ?_
      refine e_end (by kernel_rfl) ?_
      refine q_next ?_
      rcases o_cond h16 with ⟨hb, h16⟩ | ⟨hb, h16⟩
      · refine r_cond_t hb (by kernel_rfl) ?_
        refine pwp_seq (r_reg ?_)
        refine e_end (by kernel_rfl) ?_
        refine q_next (pwp_ret (q_block_ret (q_seq_ret ?_)))
        cases h16
        refine q_lout_ret fun he => ?_
        subst he
        have h19 := o_outr h
        refine q_block_ret (q_seq_ret ?_)
        cases h19
        exact q_ret (by kernel_rfl) (by kernel_rfl) (by kernel_rfl)
      refine r_cond_f hb (by kernel_rfl) ?_
      refine pwp_skip (q_block (q_next (r_reg ?_)))
      refine e_end (by kernel_rfl) ?_
      cases h16
      exact q_lback (by kernel_rfl)
    refine r_cond_f hb (by kernel_rfl) ?_
    refine pwp_exit (q_seq_exit ?_)
    cases h16
    exact q_lexit (by kernel_rfl) (by kernel_rfl)
  rintro _ s' rfl hs
  have h := o_outl h
  refine q_block_hit ?_
  refine q_next (pwp_wkr hs ?_)
  refine pwp_seq (r_reg ?_)
  refine e_end (by kernel_rfl) ?_
  refine q_next (pwp_seq (pwp_seq (r_reg ?_)))
  refine p_run 2 (by kernel_rfl) ?_
  refine p_len (L := (a0.Joints : (List T_api_Joint))) (by kernel_rfl) ?_
  refine e_end (by kernel_rfl) ?_
  refine q_next (pwp_block ?_)
  refine g_nil 6 100006 2 16 (by kernel_rfl) (by kernel_rfl) ?_
  obtain ⟨o39, h39, h⟩ := o_inl h
  refine r_loop2 69 4 (fun (x23, x24) => ⟨[(1, .ref 1 0), (6, lstOf (.own 100006) (x24 : (List T_api_End))), (34, lstOf .frozen (a0.Joints : (List T_api_Joint))), (35, .int .i64 ((a0.Joints.length : Nat) : Int)), (36, .int .i64 x23)], [(1, .cells (cellsOf a0))], [(100006, (((x24).map cellsOf).length, 2))], []⟩) (fun x30 => ⟨[(6, lstOf (.own 100006) (x30 : (List T_api_End)))], [], [(100006, (((x30).map cellsOf).length, 2))], []⟩) h39 (by kernel_rfl) (fun _ => by kernel_rfl) ?_ ?_
  · rintro ⟨x23, x24⟩ oh38 h38
    unfold d_ref07_elements_2 at h38
    refine pwp_seq (r_reg ?_)
    refine e_end (by kernel_rfl) ?_
    refine q_next (pwp_seq ?_)
    rcases o_cond h38 with ⟨hb, h38⟩ | ⟨hb, h38⟩
    · refine r_cond_t hb (by kernel_rfl) ?_
      refine pwp_skip (q_next (pwp_seq (pwp_block (pwp_seq (r_reg ?_)))))
      obtain ⟨x31, h40, h38⟩ := o_bind h38
      refine p_ix h40 (by kernel_rfl) ?_
      refine e_end (by kernel_rfl) ?_
      refine q_next (pwp_seq (pwp_seq (r_reg ?_)))
      refine p_run 3 (by kernel_rfl) ?_
      obtain ⟨r32, h41, h38⟩ := o_bind h38
      refine p_call (d_ref07_exists_ok _ _ r32 h41) (by kernel_rfl) (by kernel_rfl) ?_
      obtain ⟨b33, h42, h38⟩ := o_bind h38
      refine p_run 2 (by kernel_rfl) ?_
      refine e_seg 6 51 (.bool b33) ?_ ?_
      · rcases o_cond h42 with ⟨hb, h42⟩ | ⟨hb, h42⟩
        · refine p_settle 45 hb (by kernel_rfl) (by kernel_rfl) ?_
          cases h42
          exact f_end (by kernel_rfl) (by kernel_rfl)
        refine p_settle 45 hb (by kernel_rfl) (by kernel_rfl) ?_
        refine p_run 3 (by kernel_rfl) ?_
        obtain ⟨r34, h43, h42⟩ := o_bind h42
        refine p_call (d_ref07_exists_ok _ _ r34 h43) (by kernel_rfl) (by kernel_rfl) ?_
        cases h42
        exact f_end (by kernel_rfl) (by kernel_rfl)
      refine p_run 1 (by kernel_rfl) ?_
      refine e_segb 6 58 (b33 || (eq_T_api_End x31.A x31.B)) (fun x hx => ?_) ?_
      · rcases b_or hx with ⟨hb, hx⟩ | ⟨hb, hx⟩
        · refine p_settle 52 hb (by kernel_rfl) (by kernel_rfl) ?_
          subst hx
          exact f_end (by kernel_rfl) (by kernel_rfl)
        refine p_settle 52 hb (by kernel_rfl) (by kernel_rfl) ?_
        subst hx
        exact f_end (by kernel_rfl) (by kernel_rfl)
      refine e_nil (by kernel_rfl) ?_
      refine q_next ?_
      rcases o_cond h38 with ⟨hb, h38⟩ | ⟨hb, h38⟩
      · refine r_cond_t hb (by kernel_rfl) ?_
        refine pwp_seq (r_reg ?_)
        refine e_end (by kernel_rfl) ?_
        refine q_next (pwp_ret (q_seq_ret (q_block_ret (q_seq_ret ?_))))
        cases h38
        refine q_lout_ret fun he => ?_
        subst he
        have h44 := o_outr h
        refine q_block_ret (q_seq_ret ?_)
        cases h44
        exact q_ret (by kernel_rfl) (by kernel_rfl) (by kernel_rfl)
      refine r_cond_f hb (by kernel_rfl) ?_
      refine pwp_skip (q_next (r_reg ?_))
      refine p_run 6 (by kernel_rfl) ?_
      obtain ⟨x35, h45, h38⟩ := o_bind h38
      refine p_app (tk := 100006) h45 (by kernel_rfl) (by kernel_rfl) ?_
      refine e_end (by kernel_rfl) ?_
      refine q_block (q_next (r_reg ?_))
      refine e_end (by kernel_rfl) ?_
      cases h38
      exact q_lback (by kernel_rfl)
    refine r_cond_f hb (by kernel_rfl) ?_
    refine pwp_exit (q_seq_exit ?_)
    cases h38
    exact q_lexit (by kernel_rfl) (by kernel_rfl)
  rintro x30 s' rfl hs
  have h := o_outl h
  refine q_block_hit ?_
  refine q_next (pwp_wkr hs ?_)
  refine pwp_seq (pwp_seq (r_reg ?_))
  refine p_run 1 (by kernel_rfl) ?_
  obtain ⟨r36, h46, h⟩ := o_bind h
  refine p_call (d_ref07_ends_ok _ r36 h46) (by kernel_rfl) (by kernel_rfl) ?_
  refine e_nil (by kernel_rfl) ?_
  refine q_next ?_
  rcases o_cond h with ⟨hb, h⟩ | ⟨hb, h⟩
  · refine r_cond_t hb (by kernel_rfl) ?_
    refine pwp_seq (r_reg ?_)
    refine e_end (by kernel_rfl) ?_
    refine q_next (pwp_ret (q_seq_ret ?_))
    cases h
    exact q_ret (by kernel_rfl) (by kernel_rfl) (by kernel_rfl)
  refine r_cond_f hb (by kernel_rfl) ?_
  refine pwp_skip (q_next (pwp_seq (r_reg ?_)))
  refine e_end (by kernel_rfl) ?_
  refine q_next (pwp_ret ?_)
  cases h
  exact q_ret (by kernel_rfl) (by kernel_rfl) (by kernel_rfl)

/-! signallingref07.Joined -/
noncomputable def d_ref07_Joined_0 (a0 : T_api_Layout) (a1 : T_api_End) : Int → Option (Int ⊕ (Unit ⊕ (T_api_End × Bool))) := fun x2 =>
  bif decide (x2 < ((a0.Joints.length : Nat) : Int)) then (
    (ixO a0.Joints x2).bind fun x4 =>
    bif eq_T_api_End x4.A a1 then (
      some (.inr (.inr (x4.B, true)))
    ) else (
      bif eq_T_api_End x4.B a1 then (
        some (.inr (.inr (x4.A, true)))
      ) else (
        some (.inl (w64 (x2 + 1)))
      )
    )
  ) else (
    some (.inr (.inl ()))
  )

noncomputable def d_ref07_Joined (a0 : T_api_Layout) (a1 : T_api_End) : Option (T_api_End × Bool) :=
  onInl (α := Unit) (β := (T_api_End × Bool)) (loopO (d_ref07_Joined_0 a0 a1) 0) fun _ =>
  some ((T_api_End.mk 0 0), false)
theorem d_ref07_Joined_ok (a0 : T_api_Layout) (a1 : T_api_End) (r : (T_api_End × Bool)) (h : d_ref07_Joined a0 a1 = some r) : PCall Go.Proofs.Tryd.prog GlS 48 [Enc.pv a0, Enc.pv a1] (.tup [Enc.pv r.1, Enc.pv r.2]) := by
  unfold d_ref07_Joined at h
  refine pcall_of_pwp Go.Proofs.Tryd.func48 (by rfl) rfl Go.Proofs.Tryd.ntmps48 (by rfl) rfl ?_
  refine pwp_seq (r_reg ?_)
  refine e_end (by kernel_rfl) ?_
  refine q_next (pwp_seq (pwp_seq (r_reg ?_)))
  refine p_run 2 (by kernel_rfl) ?_
  refine p_len (L := (a0.Joints : (List T_api_Joint))) (by kernel_rfl) ?_
  refine e_end (by kernel_rfl) ?_
  refine q_next (pwp_block ?_)
  obtain ⟨o8, h8, h⟩ := o_inl h
  refine r_loop2 29 0 (fun x2 => ⟨[(3, .ref 3 0), (4, .ref 4 0), (9, lstOf .frozen (a0.Joints : (List T_api_Joint))), (10, .int .i64 ((a0.Joints.length : Nat) : Int)), (11, .int .i64 x2)], [(3, .cells (cellsOf a1)), (4, .cells ([.int .i64 0, .int .i64 0]))], [], []⟩) (fun (_ : Unit) => ⟨[(4, .ref 4 0)], [(4, .cells ([.int .i64 0, .int .i64 0]))], [], []⟩) h8 (by kernel_rfl) (fun _ => by kernel_rfl) ?_ ?_
  · rintro x2 oh7 h7
    unfold d_ref07_Joined_0 at h7
    refine pwp_seq (r_reg ?_)
    refine e_end (by kernel_rfl) ?_
    refine q_next (pwp_seq ?_)
    rcases o_cond h7 with ⟨hb, h7⟩ | ⟨hb, h7⟩
    · refine r_cond_t hb (by kernel_rfl) ?_
      refine pwp_skip (q_next (pwp_seq (pwp_block (pwp_seq (r_reg ?_)))))
      obtain ⟨x4, h9, h7⟩ := o_bind h7
      refine p_ix h9 (by kernel_rfl) ?_
      refine e_end (by kernel_rfl) ?_
      refine q_next (pwp_seq (pwp_seq (r_reg ?_)))
      refine e_end (by kernel_rfl) ?_
      refine q_next ?_
      rcases o_cond h7 with ⟨hb, h7⟩ | ⟨hb, h7⟩
      · refine r_cond_t hb (by kernel_rfl) ?_
        refine pwp_seq (r_reg ?_)
        refine e_end (by kernel_rfl) ?_
        refine q_next (pwp_ret (q_seq_ret (q_block_ret (q_seq_ret ?_))))
        cases h7
        refine q_lout_ret fun he => ?_
        subst he
        have h10 := o_outr h
        refine q_block_ret (q_seq_ret ?_)
        cases h10
        exact q_ret (by kernel_rfl) (by kernel_rfl) (by kernel_rfl)
      refine r_cond_f hb (by kernel_rfl) ?_
      refine pwp_skip (q_next (pwp_seq (r_reg ?_)))
      refine e_end (by kernel_rfl) ?_
      refine q_next ?_
      rcases o_cond h7 with ⟨hb, h7⟩ | ⟨hb, h7⟩
      · refine r_cond_t hb (by kernel_rfl) ?_
        refine pwp_seq (r_reg ?_)
        refine e_end (by kernel_rfl) ?_
        refine q_next (pwp_ret (q_block_ret (q_seq_ret ?_)))
        cases h7
        refine q_lout_ret fun he => ?_
        subst he
        have h11 := o_outr h
        refine q_block_ret (q_seq_ret ?_)
        cases h11
        exact q_ret (by kernel_rfl) (by kernel_rfl) (by kernel_rfl)
      refine r_cond_f hb (by kernel_rfl) ?_
      refine pwp_skip (q_block (q_next (r_reg ?_)))
      refine e_end (by kernel_rfl) ?_
      cases h7
      exact q_lback (by kernel_rfl)
    refine r_cond_f hb (by kernel_rfl) ?_
    refine pwp_exit (q_seq_exit ?_)
    cases h7
    exact q_lexit (by kernel_rfl) (by kernel_rfl)
  rintro _ s' rfl hs
  have h := o_outl h
  refine q_block_hit ?_
  refine q_next (pwp_wkr hs ?_)
  refine pwp_seq (r_reg ?_)
  refine e_end (by kernel_rfl) ?_
  refine q_next (pwp_ret ?_)
  cases h
  exact q_ret (by kernel_rfl) (by kernel_rfl) (by kernel_rfl)

/-! signallingref07.signals -/
noncomputable def d_ref07_signals_0 (a0 : T_api_Layout) : (Int × (List T_api_End)) → Option ((Int × (List T_api_End)) ⊕ ((List T_api_End) ⊕ Int)) := fun (x8, x9) =>
  bif decide (x8 < ((a0.Signals.length : Nat) : Int)) then (
    (ixO a0.Signals x8).bind fun x14 =>
    (d_ref07_exists a0 x14.At).bind fun r15 =>
    bif (((!r15) || (decide (x14.Overlap < 0))) || (decide (1000000 < x14.Overlap))) then (
      some (.inr (.inr 1))
    ) else (
      (appO x9 [x14.At]).bind fun x16 =>
      some (.inl (w64 (x8 + 1), x16))
    )
  ) else (
    some (.inr (.inl x9))
  )

noncomputable def d_ref07_signals_1 (a0 : T_api_Layout) (x13 : (List T_api_End)) : Int → Option (Int ⊕ (Unit ⊕ Int)) := fun x23 =>
  bif decide (x23 < ((x13.length : Nat) : Int)) then (
    (ixO x13 x23).bind fun x29 =>
    (d_ref07_Joined a0 x29).bind fun r30 =>
    ((bif (!r30.2) then some true else (
      (ixO a0.Elements r30.1.El).bind fun x32 =>
      (ixO a0.Elements x29.El).bind fun x33 =>
      some (decide (x32.Section = x33.Section))
    )) : Option Bool).bind fun b31 =>
    bif b31 then (
      some (.inr (.inr 14))
    ) else (
      some (.inl (w64 (x23 + 1)))
    )
  ) else (
    some (.inr (.inl ()))
  )

noncomputable def d_ref07_signals (a0 : T_api_Layout) : Option Int :=
  onInl (α := (List T_api_End)) (β := Int) (loopO (d_ref07_signals_0 a0) (0, ([] : (List T_api_End)))) fun x13 =>
  (d_ref07_ends x13).bind fun r17 =>
  bif r17 then (
    some 8
  ) else (
    onInl (α := Unit) (β := Int) (loopO (d_ref07_signals_1 a0 x13) 0) fun _ =>
    some 0
  )
theorem d_ref07_signals_ok (a0 : T_api_Layout) (r : Int) (h : d_ref07_signals a0 = some r) : PCall Go.Proofs.Tryd.prog GlS 40 [Enc.pv a0] (Enc.pv r) := by
  unfold d_ref07_signals at h
  refine pcall_of_pwp Go.Proofs.Tryd.func40 (by rfl) rfl Go.Proofs.Tryd.ntmps40 (by rfl) rfl ?_
  refine pwp_seq (r_reg ?_)
  refine e_end (by kernel_rfl) ?_
  refine q_next (pwp_seq (r_reg ?_))
  refine e_end (by kernel_rfl) ?_
  refine q_next (pwp_seq (pwp_seq (r_reg ?_)))
  refine p_run 2 (by kernel_rfl) ?_
  refine p_len (L := (a0.Signals : (List T_api_Signal))) (by kernel_rfl) ?_
  refine e_end (by kernel_rfl) ?_
  refine q_next (pwp_block ?_)
  refine g_nil 3 100003 2 16 (by kernel_rfl) (by kernel_rfl) ?_
  obtain ⟨o14, h14, h⟩ := o_inl h
  refine r_loop2 72 0 (fun (x8, x9) => ⟨[(1, .ref 1 0), (3, lstOf (.own 100003) (x9 : (List T_api_End))), (11, lstOf .frozen (a0.Signals : (List T_api_Signal))), (12, .int .i64 ((a0.Signals.length : Nat) : Int)), (13, .int .i64 x8)], [(1, .cells (cellsOf a0))], [(100003, (((x9).map cellsOf).length, 2))], []⟩) (fun x13 => ⟨[(1, .ref 1 0), (3, lstOf (.own 100003) (x13 : (List T_api_End)))], [(1, .cells (cellsOf a0))], [(100003, (((x13).map cellsOf).length, 2))], []⟩) h14 (by kernel_rfl) (fun _ => by kernel_rfl) ?_ ?_
  · rintro ⟨x8, x9⟩ oh13 h13
    unfold d_ref07_signals_0 at h13
    refine pwp_seq (r_reg ?_)
    refine e_end (by kernel_rfl) ?_
    refine q_next (pwp_seq ?_)
    rcases o_cond h13 with ⟨hb, h13⟩ | ⟨hb, h13⟩
    · refine r_cond_t hb (by kernel_rfl) ?_
      refine pwp_skip (q_next (pwp_seq (pwp_block (pwp_seq (r_reg ?_)))))
      obtain ⟨x14, h15, h13⟩ := o_bind h13
      refine p_ix h15 (by kernel_rfl) ?_
      refine e_end (by kernel_rfl) ?_
      refine q_next (pwp_seq (pwp_seq (r_reg ?_)))
      refine p_run 3 (by kernel_rfl) ?_
      obtain ⟨r15, h16, h13⟩ := o_bind h13
      refine p_call (d_ref07_exists_ok _ _ r15 h16) (by kernel_rfl) (by kernel_rfl) ?_
      refine p_run 2 (by kernel_rfl) ?_
      refine e_segb 4 26 ((!r15) || (decide (x14.Overlap < 0))) (fun x hx => ?_) ?_
      · rcases b_or hx with ⟨hb, hx⟩ | ⟨hb, hx⟩
        · refine p_settle 22 hb (by kernel_rfl) (by kernel_rfl) ?_
          subst hx
          exact f_end (by kernel_rfl) (by kernel_rfl)
        refine p_settle 22 hb (by kernel_rfl) (by kernel_rfl) ?_
        subst hx
        exact f_end (by kernel_rfl) (by kernel_rfl)
      refine p_run 1 (by kernel_rfl) ?_
      refine e_segb 4 31 (((!r15) || (decide (x14.Overlap < 0))) || (decide (1000000 < x14.Overlap))) (fun x hx => ?_) ?_
      · rcases b_or hx with ⟨hb, hx⟩ | ⟨hb, hx⟩
        · refine p_settle 27 hb (by kernel_rfl) (by kernel_rfl) ?_
          subst hx
          exact f_end (by kernel_rfl) (by kernel_rfl)
        refine p_settle 27 hb (by kernel_rfl) (by kernel_rfl) ?_
        subst hx
        exact f_end (by kernel_rfl) (by kernel_rfl)
      refine e_nil (by kernel_rfl) ?_
      refine q_next ?_
      rcases o_cond h13 with ⟨hb, h13⟩ | ⟨hb, h13⟩
      · refine r_cond_t hb (by kernel_rfl) ?_
        refine pwp_seq (r_reg ?_)
        refine e_end (by kernel_rfl) ?_
        refine q_next (pwp_ret (q_seq_ret (q_block_ret (q_seq_ret ?_))))
        cases h13
        refine q_lout_ret fun he => ?_
        subst he
        have h17 := o_outr h
        refine q_block_ret (q_seq_ret ?_)
        cases h17
        exact q_ret (by kernel_rfl) (by kernel_rfl) (by kernel_rfl)
      refine r_cond_f hb (by kernel_rfl) ?_
      refine pwp_skip (q_next (r_reg ?_))
      refine p_run 4 (by kernel_rfl) ?_
      obtain ⟨x16, h18, h13⟩ := o_bind h13
      refine p_app (tk := 100003) h18 (by kernel_rfl) (by kernel_rfl) ?_
      refine e_end (by kernel_rfl) ?_
      refine q_block (q_next (r_reg ?_))
      refine e_end (by kernel_rfl) ?_
      cases h13
      exact q_lback (by kernel_rfl)
    refine r_cond_f hb (by kernel_rfl) ?_
    refine pwp_exit (q_seq_exit ?_)
    cases h13
    exact q_lexit (by kernel_rfl) (by kernel_rfl)
  rintro x13 s' rfl hs
  have h := o_outl h
  refine q_block_hit ?_
  refine q_next (pwp_wkr hs ?_)
  refine pwp_seq (pwp_seq (r_reg ?_))
  refine p_run 1 (by kernel_rfl) ?_
  obtain ⟨r17, h19, h⟩ := o_bind h
  refine p_call (d_ref07_ends_ok _ r17 h19) (by kernel_rfl) (by kernel_rfl) ?_
  refine e_nil (by kernel_rfl) ?_
  refine q_next ?_
  rcases o_cond h with ⟨hb, h⟩ | ⟨hb, h⟩
  · refine r_cond_t hb (by kernel_rfl) ?_
    refine pwp_seq (r_reg ?_)
    refine e_end (by kernel_rfl) ?_
    refine q_next (pwp_ret (q_seq_ret ?_))
    cases h
    exact q_ret (by kernel_rfl) (by kernel_rfl) (by kernel_rfl)
  refine r_cond_f hb (by kernel_rfl) ?_
  refine pwp_skip (q_next (pwp_seq (pwp_seq (r_reg ?_))))
  refine p_run 1 (by kernel_rfl) ?_
  refine p_len (L := (x13 : (List T_api_End))) (by kernel_rfl) ?_
  refine e_end (by kernel_rfl) ?_
  refine q_next (pwp_block ?_)
  obtain ⟨o33, h33, h⟩ := o_inl h
  refine r_loop2 72 2 (fun x23 => ⟨[(1, .ref 1 0), (40, lstOf (.own 100003) (x13 : (List T_api_End))), (41, .int .i64 ((x13.length : Nat) : Int)), (42, .int .i64 x23)], [(1, .cells (cellsOf a0))], [(100003, (((x13).map cellsOf).length, 2))], []⟩) (fun (_ : Unit) => ⟨[], [], [], []⟩) h33 (by kernel_rfl) (fun _ => by kernel_rfl) ?_ ?_
  · rintro x23 oh32 h32
    unfold d_ref07_signals_1 at h32
    refine pwp_seq (r_reg ?_)
    refine e_end (by kernel_rfl) ?_
    refine q_next (pwp_seq ?_)
    rcases o_cond h32 with ⟨hb, h32⟩ | ⟨hb, h32⟩
    · refine r_cond_t hb (by kernel_rfl) ?_
      refine pwp_skip (q_next (pwp_seq (pwp_block (pwp_seq (r_reg ?_)))))
      obtain ⟨x29, h34, h32⟩ := o_bind h32
      refine p_ix h34 (by kernel_rfl) ?_
      refine e_end (by kernel_rfl) ?_
      refine q_next (pwp_seq (r_reg ?_))
      refine p_run 2 (by kernel_rfl) ?_
      obtain ⟨r30, h35, h32⟩ := o_bind h32
      refine p_call (d_ref07_Joined_ok _ _ r30 h35) (by kernel_rfl) (by kernel_rfl) ?_
      refine e_end (by kernel_rfl) ?_
      refine q_next (pwp_seq ?_)
      refine r_regd (by kernel_rfl) (by kernel_rfl) ?_
      obtain ⟨b31, h36, h32⟩ := o_bind h32
      refine p_run 3 (by kernel_rfl) ?_
      refine e_seg 16 70 (.bool b31) ?_ ?_
      · rcases o_cond h36 with ⟨hb, h36⟩ | ⟨hb, h36⟩
        · refine p_settle 54 hb (by kernel_rfl) (by kernel_rfl) ?_
          cases h36
          exact f_end (by kernel_rfl) (by kernel_rfl)
        refine p_settle 54 hb (by kernel_rfl) (by kernel_rfl) ?_
        refine p_run 4 (by kernel_rfl) ?_
        obtain ⟨x32, h37, h36⟩ := o_bind h36
        refine p_ix h37 (by kernel_rfl) ?_
        refine p_run 6 (by kernel_rfl) ?_
        obtain ⟨x33, h38, h36⟩ := o_bind h36
        refine p_ix h38 (by kernel_rfl) ?_
        cases h36
        exact f_end (by kernel_rfl) (by kernel_rfl)
      refine e_nil (by kernel_rfl) ?_
      refine q_next ?_
      rcases o_cond h32 with ⟨hb, h32⟩ | ⟨hb, h32⟩
      · refine r_cond_t hb (by kernel_rfl) ?_
        refine pwp_seq (r_reg ?_)
        refine e_end (by kernel_rfl) ?_
        refine q_next (pwp_ret (q_block_ret (q_seq_ret ?_)))
        cases h32
        refine q_lout_ret fun he => ?_
        subst he
        have h39 := o_outr h
        refine q_block_ret (q_seq_ret ?_)
        cases h39
        exact q_ret (by kernel_rfl) (by kernel_rfl) (by kernel_rfl)
      refine r_cond_f hb (by kernel_rfl) ?_
      refine pwp_skip (q_block (q_next (r_reg ?_)))
      refine e_end (by kernel_rfl) ?_
      cases h32
      exact q_lback (by kernel_rfl)
    refine r_cond_f hb (by kernel_rfl) ?_
    refine pwp_exit (q_seq_exit ?_)
    cases h32
    exact q_lexit (by kernel_rfl) (by kernel_rfl)
  rintro _ s' rfl hs
  have h := o_outl h
  refine q_block_hit ?_
  refine q_next (pwp_wkr hs ?_)
  refine pwp_seq (r_reg ?_)
  refine e_end (by kernel_rfl) ?_
  refine q_next (pwp_ret ?_)
  cases h
  exact q_ret (by kernel_rfl) (by kernel_rfl) (by kernel_rfl)

/-! signallingref07.numbers -/
noncomputable def d_ref07_numbers_1 (a0 : (List Int)) (x8 : Int) : Int → Option (Int ⊕ (Unit ⊕ (Int ⊕ (Unit ⊕ Bool)))) := fun x18 =>
  bif decide (x18 < x8) then (
    (ixO a0 x8).bind fun x21 =>
    (ixO a0 x18).bind fun x22 =>
    bif decide (x21 = x22) then (
      some (.inr (.inr (.inr (.inr true))))
    ) else (
      some (.inl (w64 (x18 + 1)))
    )
  ) else (
    some (.inr (.inl ()))
  )

noncomputable def d_ref07_numbers_0 (a0 : (List Int)) : Int → Option (Int ⊕ (Unit ⊕ Bool)) := fun x8 =>
  bif decide (x8 < ((a0.length : Nat) : Int)) then (
    onInl (α := Unit) (β := (Int ⊕ (Unit ⊕ Bool))) (loopO (d_ref07_numbers_1 a0 x8) 0) fun _ =>
    some (.inl (w64 (x8 + 1)))
  ) else (
    some (.inr (.inl ()))
  )

noncomputable def d_ref07_numbers (a0 : (List Int)) : Option Bool :=
  onInl (α := Unit) (β := Bool) (loopO (d_ref07_numbers_0 a0) 0) fun _ =>
  some false
theorem d_ref07_numbers_ok (a0 : (List Int)) (r : Bool) (h : d_ref07_numbers a0 = some r) : PCall Go.Proofs.Tryd.prog GlS 56 [Enc.pv a0] (Enc.pv r) := by
  unfold d_ref07_numbers at h
  refine pcall_of_pwp Go.Proofs.Tryd.func56 (by rfl) rfl Go.Proofs.Tryd.ntmps56 (by rfl) rfl ?_
  refine pwp_seq (r_reg ?_)
  refine e_end (by kernel_rfl) ?_
  refine q_next (pwp_seq (pwp_seq (r_reg ?_)))
  refine p_run 1 (by kernel_rfl) ?_
  refine p_len (L := (a0 : (List Int))) (by kernel_rfl) ?_
  refine e_end (by kernel_rfl) ?_
  refine q_next (pwp_block ?_)
  obtain ⟨o30, h30, h⟩ := o_inl h
  refine r_loop2 25 0 (fun x8 => ⟨[(0, lstOf .frozen (a0 : (List Int))), (6, .int .i64 ((a0.length : Nat) : Int)), (7, .int .i64 x8)], [], [], []⟩) (fun (_ : Unit) => ⟨[], [], [], []⟩) h30 (by kernel_rfl) (fun _ => by kernel_rfl) ?_ ?_
  · rintro x8 oh29 h29
    unfold d_ref07_numbers_0 at h29
    refine pwp_seq (r_reg ?_)
    refine e_end (by kernel_rfl) ?_
    refine q_next (pwp_seq ?_)
    rcases o_cond h29 with ⟨hb, h29⟩ | ⟨hb, h29⟩
    · refine r_cond_t hb (by kernel_rfl) ?_
      refine pwp_skip (q_next (pwp_seq (pwp_block (pwp_seq (r_reg ?_)))))
      refine e_end (by kernel_rfl) ?_
      refine q_next (pwp_seq (r_reg ?_))
      refine e_end (by kernel_rfl) ?_
      refine q_next (pwp_block ?_)
      obtain ⟨o40, h40, h29⟩ := o_inl h29
      refine r_loop2 25 2 (fun x18 => ⟨[(0, lstOf .frozen (a0 : (List Int))), (3, .int .i64 x8), (6, .int .i64 ((a0.length : Nat) : Int)), (7, .int .i64 x8), (10, .int .i64 x8), (11, .int .i64 x18)], [], [], []⟩) (fun (_ : Unit) => ⟨[(0, lstOf .frozen (a0 : (List Int))), (6, .int .i64 ((a0.length : Nat) : Int)), (7, .int .i64 x8)], [], [], []⟩) h40 (by kernel_rfl) (fun _ => by kernel_rfl) ?_ ?_
      · rintro x18 oh39 h39
        unfold d_ref07_numbers_1 at h39
        refine pwp_seq (r_reg ?_)
        refine e_end (by kernel_rfl) ?_
        refine q_next (pwp_seq ?_)
        rcases o_cond h39 with ⟨hb, h39⟩ | ⟨hb, h39⟩
        · refine r_cond_t hb (by kernel_rfl) ?_
          refine pwp_skip (q_next (pwp_seq (pwp_block (pwp_seq (r_reg ?_)))))
          refine e_end (by kernel_rfl) ?_
          refine q_next (pwp_seq ?_)
          refine r_regd (by kernel_rfl) (by kernel_rfl) ?_
          refine p_run 2 (by kernel_rfl) ?_
          obtain ⟨x21, h41, h39⟩ := o_bind h39
          refine p_ix h41 (by kernel_rfl) ?_
          refine p_run 3 (by kernel_rfl) ?_
          obtain ⟨x22, h42, h39⟩ := o_bind h39
          refine p_ix h42 (by kernel_rfl) ?_
          refine e_end (by kernel_rfl) ?_
          refine q_next ?_
          rcases o_cond h39 with ⟨hb, h39⟩ | ⟨hb, h39⟩
          · refine r_cond_t hb (by kernel_rfl) ?_
            refine pwp_seq (r_reg ?_)
            refine e_end (by kernel_rfl) ?_
            refine q_next (pwp_ret (q_block_ret (q_seq_ret ?_)))
            cases h39
            refine q_lout_ret fun he => ?_
            subst he
            have h43 := o_outr h29
            refine q_block_ret (q_block_ret (q_seq_ret ?_))
            cases h43
            refine q_lout_ret fun he => ?_
            subst he
            have h44 := o_outr h
            refine q_block_ret (q_seq_ret ?_)
            cases h44
            exact q_ret (by kernel_rfl) (by kernel_rfl) (by kernel_rfl)
          refine r_cond_f hb (by kernel_rfl) ?_
          refine pwp_skip (q_block (q_next (r_reg ?_)))
          refine e_end (by kernel_rfl) ?_
          cases h39
          exact q_lback (by kernel_rfl)
        refine r_cond_f hb (by kernel_rfl) ?_
        refine pwp_exit (q_seq_exit ?_)
        cases h39
        exact q_lexit (by kernel_rfl) (by kernel_rfl)
      rintro _ s' rfl hs
      have h29 := o_outl h29
      refine q_block_hit (q_block ?_)
      refine q_next (pwp_wkr hs ?_)
      refine r_reg ?_
      refine e_end (by kernel_rfl) ?_
      cases h29
      exact q_lback (by kernel_rfl)
    refine r_cond_f hb (by kernel_rfl) ?_
    refine pwp_exit (q_seq_exit ?_)
    cases h29
    exact q_lexit (by kernel_rfl) (by kernel_rfl)
  rintro _ s' rfl hs
  have h := o_outl h
  refine q_block_hit ?_
  refine q_next (pwp_wkr hs ?_)
  refine pwp_seq (r_reg ?_)
  refine e_end (by kernel_rfl) ?_
  refine q_next (pwp_ret ?_)
  cases h
  exact q_ret (by kernel_rfl) (by kernel_rfl) (by kernel_rfl)

/-! signallingref07.balises -/
noncomputable def d_ref07_balises_0 (a0 : T_api_Layout) : (Int × (List Int)) → Option ((Int × (List Int)) ⊕ ((List Int) ⊕ Int)) := fun (x12, x13) =>
  bif decide (x12 < ((a0.Balises.length : Nat) : Int)) then (
    (ixO a0.Balises x12).bind fun x20 =>
    ((bif (((decide (x20.Id < 1)) || (decide (1073741824 < x20.Id))) || (decide (x20.El < 0))) then some true else (
      some (decide (((a0.Elements.length : Nat) : Int) ≤ x20.El))
    )) : Option Bool).bind fun b21 =>
    ((bif (b21 || (decide (x20.Offset < 0))) then some true else (
      (ixO a0.Elements x20.El).bind fun x23 =>
      some (decide (x23.Length < x20.Offset))
    )) : Option Bool).bind fun b22 =>
    bif b22 then (
      some (.inr (.inr 1))
    ) else (
      (appO x13 [x20.Id]).bind fun x24 =>
      some (.inl (w64 (x12 + 1), x24))
    )
  ) else (
    some (.inr (.inl x13))
  )

noncomputable def d_ref07_balises (a0 : T_api_Layout) : Option Int :=
  onInl (α := (List Int)) (β := Int) (loopO (d_ref07_balises_0 a0) (0, ([] : (List Int)))) fun x19 =>
  (d_ref07_numbers x19).bind fun r25 =>
  bif r25 then (
    some 8
  ) else (
    some 0
  )
theorem d_ref07_balises_ok (a0 : T_api_Layout) (r : Int) (h : d_ref07_balises a0 = some r) : PCall Go.Proofs.Tryd.prog GlS 41 [Enc.pv a0] (Enc.pv r) := by
  unfold d_ref07_balises at h
  refine pcall_of_pwp Go.Proofs.Tryd.func41 (by rfl) rfl Go.Proofs.Tryd.ntmps41 (by rfl) rfl ?_
  refine pwp_seq (r_reg ?_)
  refine e_end (by kernel_rfl) ?_
  refine q_next (pwp_seq (r_reg ?_))
  refine e_end (by kernel_rfl) ?_
  refine q_next (pwp_seq (pwp_seq (r_reg ?_)))
  refine p_run 2 (by kernel_rfl) ?_
  refine p_len (L := (a0.Balises : (List T_api_Balise))) (by kernel_rfl) ?_
  refine e_end (by kernel_rfl) ?_
  refine q_next (pwp_block ?_)
  refine g_nil 3 100003 1 8 (by kernel_rfl) (by kernel_rfl) ?_
  obtain ⟨o20, h20, h⟩ := o_inl h
  refine r_loop2 59 0 (fun (x12, x13) => ⟨[(1, .ref 1 0), (3, lstOf (.own 100003) (x13 : (List Int))), (7, lstOf .frozen (a0.Balises : (List T_api_Balise))), (8, .int .i64 ((a0.Balises.length : Nat) : Int)), (9, .int .i64 x12)], [(1, .cells (cellsOf a0))], [(100003, (((x13).map cellsOf).length, 1))], []⟩) (fun x19 => ⟨[(3, lstOf (.own 100003) (x19 : (List Int)))], [], [(100003, (((x19).map cellsOf).length, 1))], []⟩) h20 (by kernel_rfl) (fun _ => by kernel_rfl) ?_ ?_
  · rintro ⟨x12, x13⟩ oh19 h19
    unfold d_ref07_balises_0 at h19
    refine pwp_seq (r_reg ?_)
    refine e_end (by kernel_rfl) ?_
    refine q_next (pwp_seq ?_)
    rcases o_cond h19 with ⟨hb, h19⟩ | ⟨hb, h19⟩
    · refine r_cond_t hb (by kernel_rfl) ?_
      refine pwp_skip (q_next (pwp_seq (pwp_block (pwp_seq (r_reg ?_)))))
      obtain ⟨x20, h21, h19⟩ := o_bind h19
      refine p_ix h21 (by kernel_rfl) ?_
      refine e_end (by kernel_rfl) ?_
      refine q_next (pwp_seq (pwp_seq ?_))
      refine r_regd (by kernel_rfl) (by kernel_rfl) ?_
      refine p_run 4 (by kernel_rfl) ?_
      refine e_segb 4 20 ((decide (x20.Id < 1)) || (decide (1073741824 < x20.Id))) (fun x hx => ?_) ?_
      · rcases b_or hx with ⟨hb, hx⟩ | ⟨hb, hx⟩
        · refine p_settle 16 hb (by kernel_rfl) (by kernel_rfl) ?_
          subst hx
          exact f_end (by kernel_rfl) (by kernel_rfl)
        refine p_settle 16 hb (by kernel_rfl) (by kernel_rfl) ?_
        subst hx
        exact f_end (by kernel_rfl) (by kernel_rfl)
      refine p_run 1 (by kernel_rfl) ?_
      refine e_segb 4 25 (((decide (x20.Id < 1)) || (decide (1073741824 < x20.Id))) || (decide (x20.El < 0))) (fun x hx => ?_) ?_
      · rcases b_or hx with ⟨hb, hx⟩ | ⟨hb, hx⟩
        · refine p_settle 21 hb (by kernel_rfl) (by kernel_rfl) ?_
          subst hx
          exact f_end (by kernel_rfl) (by kernel_rfl)
        refine p_settle 21 hb (by kernel_rfl) (by kernel_rfl) ?_
        subst hx
        exact f_end (by kernel_rfl) (by kernel_rfl)
      obtain ⟨b21, h22, h19⟩ := o_bind h19
      refine p_run 1 (by kernel_rfl) ?_
      refine e_seg 7 33 (.bool b21) ?_ ?_
      · rcases o_cond h22 with ⟨hb, h22⟩ | ⟨hb, h22⟩
        · refine p_settle 26 hb (by kernel_rfl) (by kernel_rfl) ?_
          cases h22
          exact f_end (by kernel_rfl) (by kernel_rfl)
        refine p_settle 26 hb (by kernel_rfl) (by kernel_rfl) ?_
        refine p_run 4 (by kernel_rfl) ?_
        refine p_len (L := (a0.Elements : (List T_api_Element))) (by kernel_rfl) ?_
        cases h22
        exact f_end (by kernel_rfl) (by kernel_rfl)
      refine p_run 1 (by kernel_rfl) ?_
      refine e_segb 4 38 (b21 || (decide (x20.Offset < 0))) (fun x hx => ?_) ?_
      · rcases b_or hx with ⟨hb, hx⟩ | ⟨hb, hx⟩
        · refine p_settle 34 hb (by kernel_rfl) (by kernel_rfl) ?_
          subst hx
          exact f_end (by kernel_rfl) (by kernel_rfl)
        refine p_settle 34 hb (by kernel_rfl) (by kernel_rfl) ?_
        subst hx
        exact f_end (by kernel_rfl) (by kernel_rfl)
      obtain ⟨b22, h23, h19⟩ := o_bind h19
      refine p_run 1 (by kernel_rfl) ?_
      refine e_seg 11 50 (.bool b22) ?_ ?_
      · rcases o_cond h23 with ⟨hb, h23⟩ | ⟨hb, h23⟩
        · refine p_settle 39 hb (by kernel_rfl) (by kernel_rfl) ?_
          cases h23
          exact f_end (by kernel_rfl) (by kernel_rfl)
        refine p_settle 39 hb (by kernel_rfl) (by kernel_rfl) ?_
        refine p_run 6 (by kernel_rfl) ?_
        obtain ⟨x23, h24, h23⟩ := o_bind h23
        refine p_ix h24 (by kernel_rfl) ?_
        cases h23
        exact f_end (by kernel_rfl) (by kernel_rfl)
      refine e_nil (by kernel_rfl) ?_
      refine q_next ?_
      rcases o_cond h19 with ⟨hb, h19⟩ | ⟨hb, h19⟩
      · refine r_cond_t hb (by kernel_rfl) ?_
        refine pwp_seq (r_reg ?_)
        refine e_end (by kernel_rfl) ?_
        refine q_next (pwp_ret (q_seq_ret (q_block_ret (q_seq_ret ?_))))
        cases h19
        refine q_lout_ret fun he => ?_
        subst he
        have h25 := o_outr h
        refine q_block_ret (q_seq_ret ?_)
        cases h25
        exact q_ret (by kernel_rfl) (by kernel_rfl) (by kernel_rfl)
      refine r_cond_f hb (by kernel_rfl) ?_
      refine pwp_skip (q_next (r_reg ?_))
      refine p_run 4 (by kernel_rfl) ?_
      obtain ⟨x24, h26, h19⟩ := o_bind h19
      refine p_app (tk := 100003) h26 (by kernel_rfl) (by kernel_rfl) ?_
      refine e_end (by kernel_rfl) ?_
      refine q_block (q_next (r_reg ?_))
      refine e_end (by kernel_rfl) ?_
      cases h19
      exact q_lback (by kernel_rfl)
    refine r_cond_f hb (by kernel_rfl) ?_
    refine pwp_exit (q_seq_exit ?_)
    cases h19
    exact q_lexit (by kernel_rfl) (by kernel_rfl)
  rintro x19 s' rfl hs
  have h := o_outl h
  refine q_block_hit ?_
  refine q_next (pwp_wkr hs ?_)
  refine pwp_seq (pwp_seq (r_reg ?_))
  refine p_run 1 (by kernel_rfl) ?_
  obtain ⟨r25, h27, h⟩ := o_bind h
  refine p_call (d_ref07_numbers_ok _ r25 h27) (by kernel_rfl) (by kernel_rfl) ?_
  refine e_nil (by kernel_rfl) ?_
  refine q_next ?_
  rcases o_cond h with ⟨hb, h⟩ | ⟨hb, h⟩
  · refine r_cond_t hb (by kernel_rfl) ?_
    refine pwp_seq (r_reg ?_)
    refine e_end (by kernel_rfl) ?_
    refine q_next (pwp_ret (q_seq_ret ?_))
    cases h
    exact q_ret (by kernel_rfl) (by kernel_rfl) (by kernel_rfl)
  refine r_cond_f hb (by kernel_rfl) ?_
  refine pwp_skip (q_next (pwp_seq (r_reg ?_)))
  refine e_end (by kernel_rfl) ?_
  refine q_next (pwp_ret ?_)
  cases h
  exact q_ret (by kernel_rfl) (by kernel_rfl) (by kernel_rfl)

/-! signallingref07.Check -/
noncomputable def d_ref07_Check (a0 : T_api_Layout) : Option Int :=
  (d_ref07_named a0).bind fun r1 =>
  bif (!(decide (r1 = 0))) then (
    some r1
  ) else (
    (d_ref07_elements a0).bind fun r2 =>
    bif (!(decide (r2 = 0))) then (
      some r2
    ) else (
      (d_ref07_signals a0).bind fun r3 =>
      bif (!(decide (r3 = 0))) then (
        some r3
      ) else (
        (d_ref07_balises a0).bind fun r4 =>
        some r4
      )
    )
  )
theorem d_ref07_Check_ok (a0 : T_api_Layout) (r : Int) (h : d_ref07_Check a0 = some r) : PCall Go.Proofs.Tryd.prog GlS 21 [Enc.pv a0] (Enc.pv r) := by
  unfold d_ref07_Check at h
  refine pcall_of_pwp Go.Proofs.Tryd.func21 (by rfl) rfl Go.Proofs.Tryd.ntmps21 (by rfl) rfl ?_
  refine pwp_seq (r_reg ?_)
  refine e_end (by kernel_rfl) ?_
  refine q_next (pwp_seq (pwp_seq (r_reg ?_)))
  refine p_run 1 (by kernel_rfl) ?_
  obtain ⟨r1, h1, h⟩ := o_bind h
  refine p_call (d_ref07_named_ok _ r1 h1) (by kernel_rfl) (by kernel_rfl) ?_
  refine e_end (by kernel_rfl) ?_
  refine q_next (pwp_seq (r_reg ?_))
  refine e_end (by kernel_rfl) ?_
  refine q_next ?_
  rcases o_cond h with ⟨hb, h⟩ | ⟨hb, h⟩
  · refine r_cond_t hb (by kernel_rfl) ?_
    refine pwp_seq (r_reg ?_)
    refine e_end (by kernel_rfl) ?_
    refine q_next (pwp_ret (q_seq_ret ?_))
    cases h
    exact q_ret (by kernel_rfl) (by kernel_rfl) (by kernel_rfl)
  refine r_cond_f hb (by kernel_rfl) ?_
  refine pwp_skip (q_next (pwp_seq (pwp_seq (r_reg ?_))))
  refine p_run 1 (by kernel_rfl) ?_
  obtain ⟨r2, h2, h⟩ := o_bind h
  refine p_call (d_ref07_elements_ok _ r2 h2) (by kernel_rfl) (by kernel_rfl) ?_
  refine e_end (by kernel_rfl) ?_
  refine q_next (pwp_seq (r_reg ?_))
  refine e_end (by kernel_rfl) ?_
  refine q_next ?_
  rcases o_cond h with ⟨hb, h⟩ | ⟨hb, h⟩
  · refine r_cond_t hb (by kernel_rfl) ?_
    refine pwp_seq (r_reg ?_)
    refine e_end (by kernel_rfl) ?_
    refine q_next (pwp_ret (q_seq_ret ?_))
    cases h
    exact q_ret (by kernel_rfl) (by kernel_rfl) (by kernel_rfl)
  refine r_cond_f hb (by kernel_rfl) ?_
  refine pwp_skip (q_next (pwp_seq (pwp_seq (r_reg ?_))))
  refine p_run 1 (by kernel_rfl) ?_
  obtain ⟨r3, h3, h⟩ := o_bind h
  refine p_call (d_ref07_signals_ok _ r3 h3) (by kernel_rfl) (by kernel_rfl) ?_
  refine e_end (by kernel_rfl) ?_
  refine q_next (pwp_seq (r_reg ?_))
  refine e_end (by kernel_rfl) ?_
  refine q_next ?_
  rcases o_cond h with ⟨hb, h⟩ | ⟨hb, h⟩
  · refine r_cond_t hb (by kernel_rfl) ?_
    refine pwp_seq (r_reg ?_)
    refine e_end (by kernel_rfl) ?_
    refine q_next (pwp_ret (q_seq_ret ?_))
    cases h
    exact q_ret (by kernel_rfl) (by kernel_rfl) (by kernel_rfl)
  refine r_cond_f hb (by kernel_rfl) ?_
  refine pwp_skip (q_next (pwp_seq (r_reg ?_)))
  refine p_run 1 (by kernel_rfl) ?_
  obtain ⟨r4, h4, h⟩ := o_bind h
  refine p_call (d_ref07_balises_ok _ r4 h4) (by kernel_rfl) (by kernel_rfl) ?_
  refine e_end (by kernel_rfl) ?_
  refine q_next (pwp_ret ?_)
  cases h
  exact q_ret (by kernel_rfl) (by kernel_rfl) (by kernel_rfl)

/-! signallinglaw32.few -/
noncomputable def d_law32_few (a0 : T_api_Layout) (a1 : (List T_api_Step)) (a2 : Int) : Option Bool :=
  ((bif decide (((a0.Elements.length : Nat) : Int) ≤ 32) then (
    some (decide (((a0.Joints.length : Nat) : Int) ≤ 100))
  ) else some false) : Option Bool).bind fun b1 =>
  ((bif b1 then (
    some (decide (((a0.Balises.length : Nat) : Int) ≤ 60))
  ) else some false) : Option Bool).bind fun b2 =>
  ((bif b2 then (
    some (decide (((a0.Signals.length : Nat) : Int) ≤ 60))
  ) else some false) : Option Bool).bind fun b3 =>
  ((bif b3 then (
    some (decide (((a0.Sections.length : Nat) : Int) ≤ 60))
  ) else some false) : Option Bool).bind fun b4 =>
  ((bif b4 then (
    some (decide (((a1.length : Nat) : Int) ≤ 80))
  ) else some false) : Option Bool).bind fun b5 =>
  ((bif ((b5 && (decide ((-1073741824) ≤ a2))) && (decide (a2 ≤ 1073741824))) then (
    (d_ref07_Check a0).bind fun r7 =>
    some (decide (r7 = 0))
  ) else some false) : Option Bool).bind fun b6 =>
  some b6
theorem d_law32_few_ok (a0 : T_api_Layout) (a1 : (List T_api_Step)) (a2 : Int) (r : Bool) (h : d_law32_few a0 a1 a2 = some r) : PCall Go.Proofs.Tryd.prog GlS 8 [Enc.pv a0, Enc.pv a1, Enc.pv a2] (Enc.pv r) := by
  unfold d_law32_few at h
  refine pcall_of_pwp Go.Proofs.Tryd.func8 (by rfl) rfl Go.Proofs.Tryd.ntmps8 (by rfl) rfl ?_
  refine pwp_seq (r_reg ?_)
  refine e_end (by kernel_rfl) ?_
  refine q_next (pwp_seq (r_reg ?_))
  refine p_run 2 (by kernel_rfl) ?_
  refine p_len (L := (a0.Elements : (List T_api_Element))) (by kernel_rfl) ?_
  obtain ⟨b1, h1, h⟩ := o_bind h
  refine p_run 2 (by kernel_rfl) ?_
  refine e_seg 5 16 (.bool b1) ?_ ?_
  · rcases o_cond h1 with ⟨hb, h1⟩ | ⟨hb, h1⟩
    · refine p_settle 11 hb (by kernel_rfl) (by kernel_rfl) ?_
      refine p_run 2 (by kernel_rfl) ?_
      refine p_len (L := (a0.Joints : (List T_api_Joint))) (by kernel_rfl) ?_
      cases h1
      exact f_end (by kernel_rfl) (by kernel_rfl)
    refine p_settle 11 hb (by kernel_rfl) (by kernel_rfl) ?_
    cases h1
    exact f_end (by kernel_rfl) (by kernel_rfl)
  obtain ⟨b2, h2, h⟩ := o_bind h
  refine p_run 1 (by kernel_rfl) ?_
  refine e_seg 5 22 (.bool b2) ?_ ?_
  · rcases o_cond h2 with ⟨hb, h2⟩ | ⟨hb, h2⟩
    · refine p_settle 17 hb (by kernel_rfl) (by kernel_rfl) ?_
      refine p_run 2 (by kernel_rfl) ?_
      refine p_len (L := (a0.Balises : (List T_api_Balise))) (by kernel_rfl) ?_
      cases h2
      exact f_end (by kernel_rfl) (by kernel_rfl)
    refine p_settle 17 hb (by kernel_rfl) (by kernel_rfl) ?_
    cases h2
    exact f_end (by kernel_rfl) (by kernel_rfl)
  obtain ⟨b3, h3, h⟩ := o_bind h
  refine p_run 1 (by kernel_rfl) ?_
  refine e_seg 5 28 (.bool b3) ?_ ?_
  · rcases o_cond h3 with ⟨hb, h3⟩ | ⟨hb, h3⟩
    · refine p_settle 23 hb (by kernel_rfl) (by kernel_rfl) ?_
      refine p_run 2 (by kernel_rfl) ?_
      refine p_len (L := (a0.Signals : (List T_api_Signal))) (by kernel_rfl) ?_
      cases h3
      exact f_end (by kernel_rfl) (by kernel_rfl)
    refine p_settle 23 hb (by kernel_rfl) (by kernel_rfl) ?_
    cases h3
    exact f_end (by kernel_rfl) (by kernel_rfl)
  obtain ⟨b4, h4, h⟩ := o_bind h
  refine p_run 1 (by kernel_rfl) ?_
  refine e_seg 5 34 (.bool b4) ?_ ?_
  · rcases o_cond h4 with ⟨hb, h4⟩ | ⟨hb, h4⟩
    · refine p_settle 29 hb (by kernel_rfl) (by kernel_rfl) ?_
      refine p_run 2 (by kernel_rfl) ?_
      refine p_len (L := (a0.Sections : (List ByteArray))) (by kernel_rfl) ?_
      cases h4
      exact f_end (by kernel_rfl) (by kernel_rfl)
    refine p_settle 29 hb (by kernel_rfl) (by kernel_rfl) ?_
    cases h4
    exact f_end (by kernel_rfl) (by kernel_rfl)
  obtain ⟨b5, h5, h⟩ := o_bind h
  refine p_run 1 (by kernel_rfl) ?_
  refine e_seg 4 39 (.bool b5) ?_ ?_
  · rcases o_cond h5 with ⟨hb, h5⟩ | ⟨hb, h5⟩
    · refine p_settle 35 hb (by kernel_rfl) (by kernel_rfl) ?_
      refine p_run 1 (by kernel_rfl) ?_
      refine p_len (L := (a1 : (List T_api_Step))) (by kernel_rfl) ?_
      cases h5
      exact f_end (by kernel_rfl) (by kernel_rfl)
    refine p_settle 35 hb (by kernel_rfl) (by kernel_rfl) ?_
    cases h5
    exact f_end (by kernel_rfl) (by kernel_rfl)
  refine p_run 1 (by kernel_rfl) ?_
  refine e_segb 3 43 (b5 && (decide ((-1073741824) ≤ a2))) (fun x hx => ?_) ?_
  · rcases b_and hx with ⟨hb, hx⟩ | ⟨hb, hx⟩
    · refine p_settle 40 hb (by kernel_rfl) (by kernel_rfl) ?_
      subst hx
      exact f_end (by kernel_rfl) (by kernel_rfl)
    refine p_settle 40 hb (by kernel_rfl) (by kernel_rfl) ?_
    subst hx
    exact f_end (by kernel_rfl) (by kernel_rfl)
  refine p_run 1 (by kernel_rfl) ?_
  refine e_segb 3 47 ((b5 && (decide ((-1073741824) ≤ a2))) && (decide (a2 ≤ 1073741824))) (fun x hx => ?_) ?_
  · rcases b_and hx with ⟨hb, hx⟩ | ⟨hb, hx⟩
    · refine p_settle 44 hb (by kernel_rfl) (by kernel_rfl) ?_
      subst hx
      exact f_end (by kernel_rfl) (by kernel_rfl)
    refine p_settle 44 hb (by kernel_rfl) (by kernel_rfl) ?_
    subst hx
    exact f_end (by kernel_rfl) (by kernel_rfl)
  obtain ⟨b6, h6, h⟩ := o_bind h
  refine p_run 1 (by kernel_rfl) ?_
  refine e_seg 4 52 (.bool b6) ?_ ?_
  · rcases o_cond h6 with ⟨hb, h6⟩ | ⟨hb, h6⟩
    · refine p_settle 48 hb (by kernel_rfl) (by kernel_rfl) ?_
      refine p_run 1 (by kernel_rfl) ?_
      obtain ⟨r7, h7, h6⟩ := o_bind h6
      refine p_call (d_ref07_Check_ok _ r7 h7) (by kernel_rfl) (by kernel_rfl) ?_
      cases h6
      exact f_end (by kernel_rfl) (by kernel_rfl)
    refine p_settle 48 hb (by kernel_rfl) (by kernel_rfl) ?_
    cases h6
    exact f_end (by kernel_rfl) (by kernel_rfl)
  refine e_end (by kernel_rfl) ?_
  refine q_next (pwp_ret ?_)
  cases h
  exact q_ret (by kernel_rfl) (by kernel_rfl) (by kernel_rfl)

/-! signallinglaw32.example -/
noncomputable def d_law32_example : Option T_api_Layout :=
  some (T_api_Layout.mk (ByteArray.mk #[120]) [(ByteArray.mk #[97])] [(T_api_Element.mk (ByteArray.mk #[116]) 1 2000 0 500 0 0)] [] [] [(T_api_Balise.mk 9 0 1500), (T_api_Balise.mk 5 0 300)])
theorem d_law32_example_ok (r : T_api_Layout) (h : d_law32_example = some r) : PCall Go.Proofs.Tryd.prog GlS 22 [] (Enc.pv r) := by
  unfold d_law32_example at h
  refine pcall_of_pwp Go.Proofs.Tryd.func22 (by rfl) rfl Go.Proofs.Tryd.ntmps22 (by rfl) rfl ?_
  refine pwp_seq (r_reg ?_)
  refine e_end (by kernel_rfl) ?_
  refine q_next (pwp_seq (r_reg ?_))
  refine e_end (by kernel_rfl) ?_
  refine q_next (pwp_ret ?_)
  cases h
  exact q_ret (by kernel_rfl) (by kernel_rfl) (by kernel_rfl)

/-! walk.passage -/
noncomputable def d_walk_passage (a0 : T_api_Layout) : Option T_api_Layout :=
  some a0
theorem d_walk_passage_ok (a0 : T_api_Layout) (r : T_api_Layout) (h : d_walk_passage a0 = some r) : PCall Go.Proofs.Tryd.prog GlS 42 [Enc.pv a0] (.fn 57 [.cptr (cellsOf r)]) := by
  unfold d_walk_passage at h
  refine pcall_of_pwp Go.Proofs.Tryd.func42 (by rfl) rfl Go.Proofs.Tryd.ntmps42 (by rfl) rfl ?_
  refine pwp_seq (r_reg ?_)
  refine e_end (by kernel_rfl) ?_
  refine q_next (pwp_seq (r_reg ?_))
  refine e_end (by kernel_rfl) ?_
  refine q_next ?_
  refine g_frz 1 [] (cs := cellsOf a0) (cs' := cellsOf a0) (by kernel_rfl) (by kernel_rfl) (by kernel_rfl) (by kernel_rfl) ?_
  refine pwp_ret ?_
  cases h
  exact q_ret (by kernel_rfl) (by kernel_rfl) (by kernel_rfl)

/-! walk.exists -/
noncomputable def d_walk_exists (a0 : T_api_Layout) (a1 : Int) : Option Bool :=
  ((bif decide (0 ≤ a1) then (
    some (decide (a1 < ((a0.Elements.length : Nat) : Int)))
  ) else some false) : Option Bool).bind fun b1 =>
  some b1
theorem d_walk_exists_ok (a0 : T_api_Layout) (a1 : Int) (r : Bool) (h : d_walk_exists a0 a1 = some r) : PCall Go.Proofs.Tryd.prog GlS 59 [Enc.pv a0, Enc.pv a1] (Enc.pv r) := by
  unfold d_walk_exists at h
  refine pcall_of_pwp Go.Proofs.Tryd.func59 (by rfl) rfl Go.Proofs.Tryd.ntmps59 (by rfl) rfl ?_
  refine pwp_seq (r_reg ?_)
  refine e_end (by kernel_rfl) ?_
  refine q_next (pwp_seq (r_reg ?_))
  obtain ⟨b1, h1, h⟩ := o_bind h
  refine p_run 3 (by kernel_rfl) ?_
  refine e_seg 6 13 (.bool b1) ?_ ?_
  · rcases o_cond h1 with ⟨hb, h1⟩ | ⟨hb, h1⟩
    · refine p_settle 7 hb (by kernel_rfl) (by kernel_rfl) ?_
      refine p_run 3 (by kernel_rfl) ?_
      refine p_len (L := (a0.Elements : (List T_api_Element))) (by kernel_rfl) ?_
      cases h1
      exact f_end (by kernel_rfl) (by kernel_rfl)
    refine p_settle 7 hb (by kernel_rfl) (by kernel_rfl) ?_
    cases h1
    exact f_end (by kernel_rfl) (by kernel_rfl)
  refine e_end (by kernel_rfl) ?_
  refine q_next (pwp_ret ?_)
  cases h
  exact q_ret (by kernel_rfl) (by kernel_rfl) (by kernel_rfl)

/-! rail.Need -/
noncomputable def d_rail_Need_0 (a0 : Int) (a1 : Int) (a2 : Int) : Int → Option (Int ⊕ (Unit ⊕ (Int × Bool))) := fun x2 =>
  bif decide (x2 < 10) then (
    (ixO tab_rail_passages x2).bind fun x4 =>
    bif (((decide (x4.kind_ = a0)) && (decide (x4.in_ = a1))) && (decide (x4.out_ = a2))) then (
      some (.inr (.inr (x4.need_, true)))
    ) else (
      some (.inl (w64 (x2 + 1)))
    )
  ) else (
    some (.inr (.inl ()))
  )

noncomputable def d_rail_Need (a0 : Int) (a1 : Int) (a2 : Int) : Option (Int × Bool) :=
  onInl (α := Unit) (β := (Int × Bool)) (loopO (d_rail_Need_0 a0 a1 a2) 0) fun _ =>
  some (0, false)
theorem d_rail_Need_ok (a0 : Int) (a1 : Int) (a2 : Int) (r : (Int × Bool)) (h : d_rail_Need a0 a1 a2 = some r) : PCall Go.Proofs.Tryd.prog GlS 60 [Enc.pv a0, Enc.pv a1, Enc.pv a2] (.tup [Enc.pv r.1, Enc.pv r.2]) := by
  unfold d_rail_Need at h
  refine pcall_of_pwp Go.Proofs.Tryd.func60 (by rfl) rfl Go.Proofs.Tryd.ntmps60 (by rfl) rfl ?_
  refine pwp_seq (r_reg ?_)
  refine e_end (by kernel_rfl) ?_
  refine q_next (pwp_seq (pwp_seq (r_reg ?_)))
  refine e_end (by kernel_rfl) ?_
  refine q_next (pwp_block ?_)
  obtain ⟨o6, h6, h⟩ := o_inl h
  refine r_loop2 33 0 (fun x2 => ⟨[(0, .int .i64 a0), (1, .int .i64 a1), (2, .int .i64 a2), (10, .agg (tab_rail_passages.flatMap cellsOf)), (11, .int .i64 x2)], [], [], []⟩) (fun (_ : Unit) => ⟨[], [], [], []⟩) h6 (by kernel_rfl) (fun _ => by kernel_rfl) ?_ ?_
  · rintro x2 oh5 h5
    unfold d_rail_Need_0 at h5
    refine pwp_seq (r_reg ?_)
    refine e_end (by kernel_rfl) ?_
    refine q_next (pwp_seq ?_)
    rcases o_cond h5 with ⟨hb, h5⟩ | ⟨hb, h5⟩
    · refine r_cond_t hb (by kernel_rfl) ?_
      refine pwp_skip (q_next (pwp_seq (pwp_block (pwp_seq (r_reg ?_)))))
      obtain ⟨x4, h7, h5⟩ := o_bind h5
      refine p_tix (tab := tab_rail_passages) h7 true 10 4 (by kernel_rfl) (by kernel_rfl) (by kernel_rfl) (by kernel_rfl) ?_
      refine e_end (by kernel_rfl) ?_
      refine q_next (pwp_seq (r_reg ?_))
      refine p_run 5 (by kernel_rfl) ?_
      refine e_segb 5 23 ((decide (x4.kind_ = a0)) && (decide (x4.in_ = a1))) (fun x hx => ?_) ?_
      · rcases b_and hx with ⟨hb, hx⟩ | ⟨hb, hx⟩
        · refine p_settle 18 hb (by kernel_rfl) (by kernel_rfl) ?_
          subst hx
          exact f_end (by kernel_rfl) (by kernel_rfl)
        refine p_settle 18 hb (by kernel_rfl) (by kernel_rfl) ?_
        subst hx
        exact f_end (by kernel_rfl) (by kernel_rfl)
      refine p_run 1 (by kernel_rfl) ?_
      refine e_segb 5 29 (((decide (x4.kind_ = a0)) && (decide (x4.in_ = a1))) && (decide (x4.out_ = a2))) (fun x hx => ?_) ?_
      · rcases b_and hx with ⟨hb, hx⟩ | ⟨hb, hx⟩
        · refine p_settle 24 hb (by kernel_rfl) (by kernel_rfl) ?_
          subst hx
          exact f_end (by kernel_rfl) (by kernel_rfl)
        refine p_settle 24 hb (by kernel_rfl) (by kernel_rfl) ?_
        subst hx
        exact f_end (by kernel_rfl) (by kernel_rfl)
      refine e_nil (by kernel_rfl) ?_
      refine q_next ?_
      rcases o_cond h5 with ⟨hb, h5⟩ | ⟨hb, h5⟩
      · refine r_cond_t hb (by kernel_rfl) ?_
        refine pwp_seq (r_reg ?_)
        refine e_end (by kernel_rfl) ?_
        refine q_next (pwp_ret (q_block_ret (q_seq_ret ?_)))
        cases h5
        refine q_lout_ret fun he => ?_
        subst he
        have h8 := o_outr h
        refine q_block_ret (q_seq_ret ?_)
        cases h8
        exact q_ret (by kernel_rfl) (by kernel_rfl) (by kernel_rfl)
      refine r_cond_f hb (by kernel_rfl) ?_
      refine pwp_skip (q_block (q_next (r_reg ?_)))
      refine e_end (by kernel_rfl) ?_
      cases h5
      exact q_lback (by kernel_rfl)
    refine r_cond_f hb (by kernel_rfl) ?_
    refine pwp_exit (q_seq_exit ?_)
    cases h5
    exact q_lexit (by kernel_rfl) (by kernel_rfl)
  rintro _ s' rfl hs
  have h := o_outl h
  refine q_block_hit ?_
  refine q_next (pwp_wkr hs ?_)
  refine pwp_seq (r_reg ?_)
  refine e_end (by kernel_rfl) ?_
  refine q_next (pwp_ret ?_)
  cases h
  exact q_ret (by kernel_rfl) (by kernel_rfl) (by kernel_rfl)

/-! walk.possible -/
noncomputable def d_walk_possible (a0 : T_api_Layout) (a1 : T_api_Step) : Option (Int × Bool) :=
  (d_walk_exists a0 a1.El).bind fun r1 =>
  bif (!r1) then (
    some (0, false)
  ) else (
    (ixO a0.Elements a1.El).bind fun x2 =>
    (d_rail_Need x2.Kind a1.In a1.Out).bind fun r3 =>
    some (r3.1, r3.2)
  )
theorem d_walk_possible_ok (a0 : T_api_Layout) (a1 : T_api_Step) (r : (Int × Bool)) (h : d_walk_possible a0 a1 = some r) : PCall Go.Proofs.Tryd.prog GlS 43 [Enc.pv a0, Enc.pv a1] (.tup [Enc.pv r.1, Enc.pv r.2]) := by
  unfold d_walk_possible at h
  refine pcall_of_pwp Go.Proofs.Tryd.func43 (by rfl) rfl Go.Proofs.Tryd.ntmps43 (by rfl) rfl ?_
  refine pwp_seq (r_reg ?_)
  refine e_end (by kernel_rfl) ?_
  refine q_next (pwp_seq (pwp_seq (r_reg ?_)))
  refine p_run 3 (by kernel_rfl) ?_
  obtain ⟨r1, h1, h⟩ := o_bind h
  refine p_call (d_walk_exists_ok _ _ r1 h1) (by kernel_rfl) (by kernel_rfl) ?_
  refine e_end (by kernel_rfl) ?_
  refine q_next ?_
  rcases o_cond h with ⟨hb, h⟩ | ⟨hb, h⟩
  · refine r_cond_t hb (by kernel_rfl) ?_
    refine pwp_seq (r_reg ?_)
    refine e_end (by kernel_rfl) ?_
    refine q_next (pwp_ret (q_seq_ret ?_))
    cases h
    exact q_ret (by kernel_rfl) (by kernel_rfl) (by kernel_rfl)
  refine r_cond_f hb (by kernel_rfl) ?_
  refine pwp_skip (q_next (pwp_seq ?_))
  refine r_regd (by kernel_rfl) (by kernel_rfl) ?_
  refine p_run 4 (by kernel_rfl) ?_
  obtain ⟨x2, h2, h⟩ := o_bind h
  refine p_ix h2 (by kernel_rfl) ?_
  refine p_run 6 (by kernel_rfl) ?_
  obtain ⟨r3, h3, h⟩ := o_bind h
  refine p_call (d_rail_Need_ok _ _ _ r3 h3) (by kernel_rfl) (by kernel_rfl) ?_
  refine e_end (by kernel_rfl) ?_
  refine q_next (pwp_ret ?_)
  cases h
  exact q_ret (by kernel_rfl) (by kernel_rfl) (by kernel_rfl)

/-! layout.Joined -/
noncomputable def d_layout_Joined_0 (a0 : T_api_Layout) (a1 : T_api_End) : Int → Option (Int ⊕ (Unit ⊕ (T_api_End × Bool))) := fun x2 =>
  bif decide (x2 < ((a0.Joints.length : Nat) : Int)) then (
    (ixO a0.Joints x2).bind fun x4 =>
    bif eq_T_api_End x4.A a1 then (
      some (.inr (.inr (x4.B, true)))
    ) else (
      bif eq_T_api_End x4.B a1 then (
        some (.inr (.inr (x4.A, true)))
      ) else (
        some (.inl (w64 (x2 + 1)))
      )
    )
  ) else (
    some (.inr (.inl ()))
  )

noncomputable def d_layout_Joined (a0 : T_api_Layout) (a1 : T_api_End) : Option (T_api_End × Bool) :=
  onInl (α := Unit) (β := (T_api_End × Bool)) (loopO (d_layout_Joined_0 a0 a1) 0) fun _ =>
  some ((T_api_End.mk 0 0), false)
theorem d_layout_Joined_ok (a0 : T_api_Layout) (a1 : T_api_End) (r : (T_api_End × Bool)) (h : d_layout_Joined a0 a1 = some r) : PCall Go.Proofs.Tryd.prog GlS 58 [Enc.pv a0, Enc.pv a1] (.tup [Enc.pv r.1, Enc.pv r.2]) := by
  unfold d_layout_Joined at h
  refine pcall_of_pwp Go.Proofs.Tryd.func58 (by rfl) rfl Go.Proofs.Tryd.ntmps58 (by rfl) rfl ?_
  refine pwp_seq (r_reg ?_)
  refine e_end (by kernel_rfl) ?_
  refine q_next (pwp_seq (pwp_seq (r_reg ?_)))
  refine p_run 2 (by kernel_rfl) ?_
  refine p_len (L := (a0.Joints : (List T_api_Joint))) (by kernel_rfl) ?_
  refine e_end (by kernel_rfl) ?_
  refine q_next (pwp_block ?_)
  obtain ⟨o8, h8, h⟩ := o_inl h
  refine r_loop2 29 0 (fun x2 => ⟨[(3, .ref 3 0), (4, .ref 4 0), (9, lstOf .frozen (a0.Joints : (List T_api_Joint))), (10, .int .i64 ((a0.Joints.length : Nat) : Int)), (11, .int .i64 x2)], [(3, .cells (cellsOf a1)), (4, .cells ([.int .i64 0, .int .i64 0]))], [], []⟩) (fun (_ : Unit) => ⟨[(4, .ref 4 0)], [(4, .cells ([.int .i64 0, .int .i64 0]))], [], []⟩) h8 (by kernel_rfl) (fun _ => by kernel_rfl) ?_ ?_
  · rintro x2 oh7 h7
    unfold d_layout_Joined_0 at h7
    refine pwp_seq (r_reg ?_)
    refine e_end (by kernel_rfl) ?_
    refine q_next (pwp_seq ?_)
    rcases o_cond h7 with ⟨hb, h7⟩ | ⟨hb, h7⟩
    · refine r_cond_t hb (by kernel_rfl) ?_
      refine pwp_skip (q_next (pwp_seq (pwp_block (pwp_seq (r_reg ?_)))))
      obtain ⟨x4, h9, h7⟩ := o_bind h7
      refine p_ix h9 (by kernel_rfl) ?_
      refine e_end (by kernel_rfl) ?_
      refine q_next (pwp_seq (pwp_seq (r_reg ?_)))
      refine e_end (by kernel_rfl) ?_
      refine q_next ?_
      rcases o_cond h7 with ⟨hb, h7⟩ | ⟨hb, h7⟩
      · refine r_cond_t hb (by kernel_rfl) ?_
        refine pwp_seq (r_reg ?_)
        refine e_end (by kernel_rfl) ?_
        refine q_next (pwp_ret (q_seq_ret (q_block_ret (q_seq_ret ?_))))
        cases h7
        refine q_lout_ret fun he => ?_
        subst he
        have h10 := o_outr h
        refine q_block_ret (q_seq_ret ?_)
        cases h10
        exact q_ret (by kernel_rfl) (by kernel_rfl) (by kernel_rfl)
      refine r_cond_f hb (by kernel_rfl) ?_
      refine pwp_skip (q_next (pwp_seq (r_reg ?_)))
      refine e_end (by kernel_rfl) ?_
      refine q_next ?_
      rcases o_cond h7 with ⟨hb, h7⟩ | ⟨hb, h7⟩
      · refine r_cond_t hb (by kernel_rfl) ?_
        refine pwp_seq (r_reg ?_)
        refine e_end (by kernel_rfl) ?_
        refine q_next (pwp_ret (q_block_ret (q_seq_ret ?_)))
        cases h7
        refine q_lout_ret fun he => ?_
        subst he
        have h11 := o_outr h
        refine q_block_ret (q_seq_ret ?_)
        cases h11
        exact q_ret (by kernel_rfl) (by kernel_rfl) (by kernel_rfl)
      refine r_cond_f hb (by kernel_rfl) ?_
      refine pwp_skip (q_block (q_next (r_reg ?_)))
      refine e_end (by kernel_rfl) ?_
      cases h7
      exact q_lback (by kernel_rfl)
    refine r_cond_f hb (by kernel_rfl) ?_
    refine pwp_exit (q_seq_exit ?_)
    cases h7
    exact q_lexit (by kernel_rfl) (by kernel_rfl)
  rintro _ s' rfl hs
  have h := o_outl h
  refine q_block_hit ?_
  refine q_next (pwp_wkr hs ?_)
  refine pwp_seq (r_reg ?_)
  refine e_end (by kernel_rfl) ?_
  refine q_next (pwp_ret ?_)
  cases h
  exact q_ret (by kernel_rfl) (by kernel_rfl) (by kernel_rfl)

/-! walk.passage$1 -/
noncomputable def d_walk_passage_1 (a0 : T_api_Step) (c0 : T_api_Layout) : Option (T_api_End × Bool) :=
  (d_layout_Joined c0 (T_api_End.mk a0.El a0.Out)).bind fun r1 =>
  some (r1.1, r1.2)
theorem d_walk_passage_1_ok (a0 : T_api_Step) (c0 : T_api_Layout) (r : (T_api_End × Bool)) (h : d_walk_passage_1 a0 c0 = some r) : PCall Go.Proofs.Tryd.prog GlS 57 [Enc.pv a0, .cptr (cellsOf c0)] (.tup [Enc.pv r.1, Enc.pv r.2]) := by
  unfold d_walk_passage_1 at h
  refine pcall_of_pwp Go.Proofs.Tryd.func57 (by rfl) rfl Go.Proofs.Tryd.ntmps57 (by rfl) rfl ?_
  refine pwp_seq (r_reg ?_)
  refine e_end (by kernel_rfl) ?_
  refine q_next (pwp_seq (r_reg ?_))
  refine p_run 6 (by kernel_rfl) ?_
  obtain ⟨r1, h1, h⟩ := o_bind h
  refine p_call (d_layout_Joined_ok _ _ r1 h1) (by kernel_rfl) (by kernel_rfl) ?_
  refine e_end (by kernel_rfl) ?_
  refine q_next (pwp_ret ?_)
  cases h
  exact q_ret (by kernel_rfl) (by kernel_rfl) (by kernel_rfl)

/-! walk.Valid -/
noncomputable def d_walk_Valid_1 (x49 : T_api_Step) (x51 : (List T_api_Step)) : Int → Option (Int ⊕ (Unit ⊕ (Unit ⊕ (Int ⊕ (Unit ⊕ Bool))))) := fun x53 =>
  bif decide (x53 < ((x51.length : Nat) : Int)) then (
    (ixO x51 x53).bind fun x55 =>
    bif decide (x55.El = x49.El) then (
      some (.inr (.inr (.inr (.inr (.inr false)))))
    ) else (
      some (.inl (w64 (x53 + 1)))
    )
  ) else (
    some (.inr (.inl ()))
  )

noncomputable def d_walk_Valid_0 (a0 : T_api_Layout) (a1 : (List T_api_Step)) (r2 : T_api_Layout) : Int → Option (Int ⊕ (Unit ⊕ Bool)) := fun x21 =>
  bif decide (x21 < ((a1.length : Nat) : Int)) then (
    onInl (α := Unit) (β := (Int ⊕ (Unit ⊕ Bool))) (
      (ixO a1 x21).bind fun x49 =>
      (d_walk_possible a0 x49).bind fun r50 =>
      bif (!r50.2) then (
        some (.inr (.inr (.inr false)))
      ) else (
        (slO a1 none (some x21) none).bind fun x51 =>
        onInl (α := Unit) (β := (Unit ⊕ (Int ⊕ (Unit ⊕ Bool)))) (loopO (d_walk_Valid_1 x49 x51) 0) fun _ =>
        bif decide (x21 = 0) then (
          some (.inl ())
        ) else (
          (ixO a1 (w64 (x21 - 1))).bind fun x56 =>
          (d_walk_passage_1 x56 r2).bind fun r57 =>
          bif (((!r57.2) || (!(decide (r57.1.El = x49.El)))) || (!(decide (r57.1.Side = x49.In)))) then (
            some (.inr (.inr (.inr false)))
          ) else (
            some (.inl ())
          )
        )
      )
    ) fun _ =>
    some (.inl (w64 (x21 + 1)))
  ) else (
    some (.inr (.inl ()))
  )

noncomputable def d_walk_Valid (a0 : T_api_Layout) (a1 : (List T_api_Step)) : Option Bool :=
  ((bif decide (((a1.length : Nat) : Int) = 0) then some true else (
    some (decide (64 < ((a1.length : Nat) : Int)))
  )) : Option Bool).bind fun b1 =>
  bif b1 then (
    some false
  ) else (
    (d_walk_passage a0).bind fun r2 =>
    onInl (α := Unit) (β := Bool) (loopO (d_walk_Valid_0 a0 a1 r2) 0) fun _ =>
    some true
  )
theorem d_walk_Valid_ok (a0 : T_api_Layout) (a1 : (List T_api_Step)) (r : Bool) (h : d_walk_Valid a0 a1 = some r) : PCall Go.Proofs.Tryd.prog GlS 23 [Enc.pv a0, Enc.pv a1] (Enc.pv r) := by
  unfold d_walk_Valid at h
  refine pcall_of_pwp Go.Proofs.Tryd.func23 (by rfl) rfl Go.Proofs.Tryd.ntmps23 (by rfl) rfl ?_
  refine pwp_seq (r_reg ?_)
  refine e_end (by kernel_rfl) ?_
  refine q_next (pwp_seq (pwp_seq (r_reg ?_)))
  refine p_run 1 (by kernel_rfl) ?_
  refine p_len (L := (a1 : (List T_api_Step))) (by kernel_rfl) ?_
  obtain ⟨b1, h1, h⟩ := o_bind h
  refine p_run 2 (by kernel_rfl) ?_
  refine e_seg 4 21 (.bool b1) ?_ ?_
  · rcases o_cond h1 with ⟨hb, h1⟩ | ⟨hb, h1⟩
    · refine p_settle 17 hb (by kernel_rfl) (by kernel_rfl) ?_
      cases h1
      exact f_end (by kernel_rfl) (by kernel_rfl)
    refine p_settle 17 hb (by kernel_rfl) (by kernel_rfl) ?_
    refine p_run 1 (by kernel_rfl) ?_
    refine p_len (L := (a1 : (List T_api_Step))) (by kernel_rfl) ?_
    cases h1
    exact f_end (by kernel_rfl) (by kernel_rfl)
  refine e_nil (by kernel_rfl) ?_
  refine q_next ?_
  rcases o_cond h with ⟨hb, h⟩ | ⟨hb, h⟩
  · refine r_cond_t hb (by kernel_rfl) ?_
    refine pwp_seq (r_reg ?_)
    refine e_end (by kernel_rfl) ?_
    refine q_next (pwp_ret (q_seq_ret ?_))
    cases h
    exact q_ret (by kernel_rfl) (by kernel_rfl) (by kernel_rfl)
  refine r_cond_f hb (by kernel_rfl) ?_
  refine pwp_skip (q_next (pwp_seq (r_reg ?_)))
  refine p_run 1 (by kernel_rfl) ?_
  obtain ⟨r2, h2, h⟩ := o_bind h
  refine p_call (d_walk_passage_ok _ r2 h2) (by kernel_rfl) (by kernel_rfl) ?_
  refine e_end (by kernel_rfl) ?_
  refine q_next (pwp_seq (pwp_seq (r_reg ?_)))
  refine p_run 1 (by kernel_rfl) ?_
  refine p_len (L := (a1 : (List T_api_Step))) (by kernel_rfl) ?_
  refine e_end (by kernel_rfl) ?_
  refine q_next (pwp_block ?_)
  obtain ⟨o98, h98, h⟩ := o_inl h
  refine r_loop2 82 0 (fun x21 => ⟨[(1, lstOf .frozen (a1 : (List T_api_Step))), (2, .ref 2 0), (5, .fn 57 [.cptr (cellsOf r2)]), (24, lstOf .frozen (a1 : (List T_api_Step))), (25, .int .i64 ((a1.length : Nat) : Int)), (26, .int .i64 x21)], [(2, .cells (cellsOf a0))], [], []⟩) (fun (_ : Unit) => ⟨[], [], [], []⟩) h98 (by kernel_rfl) (fun _ => by kernel_rfl) ?_ ?_
  · rintro x21 oh97 h97
    unfold d_walk_Valid_0 at h97
    refine pwp_seq (r_reg ?_)
    refine e_end (by kernel_rfl) ?_
    refine q_next (pwp_seq ?_)
    rcases o_cond h97 with ⟨hb, h97⟩ | ⟨hb, h97⟩
    · refine r_cond_t hb (by kernel_rfl) ?_
      refine pwp_skip (q_next ?_)
      obtain ⟨o122, h122, h97⟩ := o_inl h97
      refine r_join (o := o122) 82 (fun (_ : Unit) => ⟨[(1, lstOf .frozen (a1 : (List T_api_Step))), (2, .ref 2 0), (5, .fn 57 [.cptr (cellsOf r2)]), (24, lstOf .frozen (a1 : (List T_api_Step))), (25, .int .i64 ((a1.length : Nat) : Int)), (26, .int .i64 x21)], [(2, .cells (cellsOf a0))], [], []⟩) ?_ ?_
      · refine pwp_block (pwp_seq (r_reg ?_))
        refine p_run 1 (by kernel_rfl) ?_
        obtain ⟨x49, h123, h122⟩ := o_bind h122
        refine p_ix h123 (by kernel_rfl) ?_
        refine e_end (by kernel_rfl) ?_
        refine q_next (pwp_seq (pwp_seq (r_reg ?_)))
        refine p_run 2 (by kernel_rfl) ?_
        obtain ⟨r50, h124, h122⟩ := o_bind h122
        refine p_call (d_walk_possible_ok _ _ r50 h124) (by kernel_rfl) (by kernel_rfl) ?_
        refine e_end (by kernel_rfl) ?_
        refine q_next (pwp_seq (r_reg ?_))
        refine e_end (by kernel_rfl) ?_
        refine q_next ?_
        rcases o_cond h122 with ⟨hb, h122⟩ | ⟨hb, h122⟩
        · refine r_cond_t hb (by kernel_rfl) ?_
          refine pwp_seq (r_reg ?_)
          refine e_end (by kernel_rfl) ?_
          refine q_next (pwp_ret (q_seq_ret (q_block_ret ?_)))
          cases h122
          refine q_jout_ret ?_
          have h125 := o_outr h97
          cases h125
          refine q_lout_ret fun he => ?_
          subst he
          have h126 := o_outr h
          refine q_block_ret (q_seq_ret ?_)
          cases h126
          exact q_ret (by kernel_rfl) (by kernel_rfl) (by kernel_rfl)
        refine r_cond_f hb (by kernel_rfl) ?_
        refine pwp_skip (q_next (pwp_seq (pwp_seq (r_reg ?_))))
        refine p_run 2 (by kernel_rfl) ?_
        obtain ⟨x51, h127, h122⟩ := o_bind h122
        refine p_sl h127 .frozen (by kernel_rfl) (by kernel_rfl) (by kernel_rfl) ?_
        refine p_len (L := (x51 : (List T_api_Step))) (by kernel_rfl) ?_
        refine e_end (by kernel_rfl) ?_
        refine q_next (pwp_block ?_)
        obtain ⟨o137, h137, h122⟩ := o_inl h122
        refine r_loop2 82 2 (fun x53 => ⟨[(1, lstOf .frozen (a1 : (List T_api_Step))), (2, .ref 2 0), (5, .fn 57 [.cptr (cellsOf r2)]), (6, .int .i64 x21), (7, .ref 7 0), (24, lstOf .frozen (a1 : (List T_api_Step))), (25, .int .i64 ((a1.length : Nat) : Int)), (26, .int .i64 x21), (41, lstOf .frozen (x51 : (List T_api_Step))), (42, .int .i64 ((x51.length : Nat) : Int)), (43, .int .i64 x53)], [(2, .cells (cellsOf a0)), (7, .cells (cellsOf x49))], [], []⟩) (fun (_ : Unit) => ⟨[(1, lstOf .frozen (a1 : (List T_api_Step))), (2, .ref 2 0), (5, .fn 57 [.cptr (cellsOf r2)]), (6, .int .i64 x21), (7, .ref 7 0), (24, lstOf .frozen (a1 : (List T_api_Step))), (25, .int .i64 ((a1.length : Nat) : Int)), (26, .int .i64 x21)], [(2, .cells (cellsOf a0)), (7, .cells (cellsOf x49))], [], []⟩) h137 (by kernel_rfl) (fun _ => by kernel_rfl) ?_ ?_
        · rintro x53 oh136 h136
          unfold d_walk_Valid_1 at h136
          refine pwp_seq (r_reg ?_)
          refine e_end (by kernel_rfl) ?_
          refine q_next (pwp_seq ?_)
          rcases o_cond h136 with ⟨hb, h136⟩ | ⟨hb, h136⟩
          · refine r_cond_t hb (by kernel_rfl) ?_
            refine pwp_skip (q_next (pwp_seq (pwp_block (pwp_seq (r_reg ?_)))))
            obtain ⟨x55, h138, h136⟩ := o_bind h136
            refine p_ix h138 (by kernel_rfl) ?_
            refine e_end (by kernel_rfl) ?_
            refine q_next (pwp_seq (r_reg ?_))
            refine e_end (by kernel_rfl) ?_
            refine q_next ?_
            rcases o_cond h136 with ⟨hb, h136⟩ | ⟨hb, h136⟩
            · refine r_cond_t hb (by kernel_rfl) ?_
              refine pwp_seq (r_reg ?_)
              refine e_end (by kernel_rfl) ?_
              refine q_next (pwp_ret (q_block_ret (q_seq_ret ?_)))
              cases h136
              refine q_lout_ret fun he => ?_
              subst he
              have h139 := o_outr h122
              refine q_block_ret (q_seq_ret (q_block_ret ?_))
              cases h139
              refine q_jout_ret ?_
              have h140 := o_outr h97
              cases h140
              refine q_lout_ret fun he => ?_
              subst he
              have h141 := o_outr h
              refine q_block_ret (q_seq_ret ?_)
              cases h141
              exact q_ret (by kernel_rfl) (by kernel_rfl) (by kernel_rfl)
            refine r_cond_f hb (by kernel_rfl) ?_
            refine pwp_skip (q_block (q_next (r_reg ?_)))
            refine e_end (by kernel_rfl) ?_
            cases h136
            exact q_lback (by kernel_rfl)
          refine r_cond_f hb (by kernel_rfl) ?_
          refine pwp_exit (q_seq_exit ?_)
          cases h136
          exact q_lexit (by kernel_rfl) (by kernel_rfl)
        rintro _ s' rfl hs
        have h122 := o_outl h122
        refine q_block_hit ?_
        refine q_next (pwp_wkr hs ?_)
        refine pwp_seq (pwp_seq (r_reg ?_))
        refine e_end (by kernel_rfl) ?_
        refine q_next ?_
        rcases o_cond h122 with ⟨hb, h122⟩ | ⟨hb, h122⟩
        · refine r_cond_t hb (by kernel_rfl) ?_
          refine pwp_exit (q_seq_exit (q_block_hit ?_))
          cases h122
          exact q_join (by kernel_rfl) (by kernel_rfl)
        refine r_cond_f hb (by kernel_rfl) ?_
        refine pwp_skip (q_next (pwp_seq (r_reg ?_)))
        refine p_run 4 (by kernel_rfl) ?_
        obtain ⟨x56, h142, h122⟩ := o_bind h122
        refine p_ix h142 (by kernel_rfl) ?_
        refine p_run 1 (by kernel_rfl) ?_
        obtain ⟨r57, h143, h122⟩ := o_bind h122
        refine p_call (d_walk_passage_1_ok _ _ r57 h143) (by kernel_rfl) (by kernel_rfl) ?_
        refine e_end (by kernel_rfl) ?_
        refine q_next (pwp_seq (r_reg ?_))
        refine p_run 3 (by kernel_rfl) ?_
        refine e_segb 6 73 ((!r57.2) || (!(decide (r57.1.El = x49.El)))) (fun x hx => ?_) ?_
        · rcases b_or hx with ⟨hb, hx⟩ | ⟨hb, hx⟩
          · refine p_settle 67 hb (by kernel_rfl) (by kernel_rfl) ?_
            subst hx
            exact f_end (by kernel_rfl) (by kernel_rfl)
          refine p_settle 67 hb (by kernel_rfl) (by kernel_rfl) ?_
          subst hx
          exact f_end (by kernel_rfl) (by kernel_rfl)
        refine p_run 1 (by kernel_rfl) ?_
        refine e_segb 6 80 (((!r57.2) || (!(decide (r57.1.El = x49.El)))) || (!(decide (r57.1.Side = x49.In)))) (fun x hx => ?_) ?_
        · rcases b_or hx with ⟨hb, hx⟩ | ⟨hb, hx⟩
          · refine p_settle 74 hb (by kernel_rfl) (by kernel_rfl) ?_
            subst hx
            exact f_end (by kernel_rfl) (by kernel_rfl)
          refine p_settle 74 hb (by kernel_rfl) (by kernel_rfl) ?_
          subst hx
          exact f_end (by kernel_rfl) (by kernel_rfl)
        refine e_nil (by kernel_rfl) ?_
        refine q_next ?_
        rcases o_cond h122 with ⟨hb, h122⟩ | ⟨hb, h122⟩
        · refine r_cond_t hb (by kernel_rfl) ?_
          refine pwp_seq (r_reg ?_)
          refine e_end (by kernel_rfl) ?_
          refine q_next (pwp_ret (q_block_ret ?_))
          cases h122
          refine q_jout_ret ?_
          have h144 := o_outr h97
          cases h144
          refine q_lout_ret fun he => ?_
          subst he
          have h145 := o_outr h
          refine q_block_ret (q_seq_ret ?_)
          cases h145
          exact q_ret (by kernel_rfl) (by kernel_rfl) (by kernel_rfl)
        refine r_cond_f hb (by kernel_rfl) ?_
        refine pwp_skip (q_block ?_)
        cases h122
        exact q_join (by kernel_rfl) (by kernel_rfl)
      rintro _ rfl
      have h97 := o_outl h97
      refine r_reg ?_
      refine e_end (by kernel_rfl) ?_
      cases h97
      exact q_lback (by kernel_rfl)
    refine r_cond_f hb (by kernel_rfl) ?_
    refine pwp_exit (q_seq_exit ?_)
    cases h97
    exact q_lexit (by kernel_rfl) (by kernel_rfl)
  rintro _ s' rfl hs
  have h := o_outl h
  refine q_block_hit ?_
  refine q_next (pwp_wkr hs ?_)
  refine pwp_seq (r_reg ?_)
  refine e_end (by kernel_rfl) ?_
  refine q_next (pwp_ret ?_)
  cases h
  exact q_ret (by kernel_rfl) (by kernel_rfl) (by kernel_rfl)

/-! linking.passed -/
noncomputable def d_linking_passed (a0 : Int) (a1 : T_api_Step) : Option Bool :=
  bif decide (a0 = 1) then (
    some true
  ) else (
    onInl (α := Bool) (β := Bool) (
      bif decide (a0 = 2) then (
        some (.inl (decide (a0 = 2)))
      ) else (
        some (.inl (decide (a0 = 3)))
      )
    ) fun x1 =>
    bif x1 then (
      some (((decide (a1.In = 0)) && (decide (a1.Out = 1))) || ((decide (a1.In = 1)) && (decide (a1.Out = 0))))
    ) else (
      some false
    )
  )
theorem d_linking_passed_ok (a0 : Int) (a1 : T_api_Step) (r : Bool) (h : d_linking_passed a0 a1 = some r) : PCall Go.Proofs.Tryd.prog GlS 24 [Enc.pv a0, Enc.pv a1] (Enc.pv r) := by
  unfold d_linking_passed at h
  refine pcall_of_pwp Go.Proofs.Tryd.func24 (by rfl) rfl Go.Proofs.Tryd.ntmps24 (by rfl) rfl ?_
  refine pwp_seq (r_reg ?_)
  refine e_end (by kernel_rfl) ?_
  refine q_next (pwp_seq (pwp_seq (r_reg ?_)))
  refine e_end (by kernel_rfl) ?_
  refine q_next (pwp_block (pwp_seq (r_reg ?_)))
  refine e_end (by kernel_rfl) ?_
  refine q_next ?_
  rcases o_cond h with ⟨hb, h⟩ | ⟨hb, h⟩
  · refine r_cond_t hb (by kernel_rfl) ?_
    refine pwp_seq (r_reg ?_)
    refine e_end (by kernel_rfl) ?_
    refine q_next (pwp_ret (q_block_ret (q_seq_ret ?_)))
    cases h
    exact q_ret (by kernel_rfl) (by kernel_rfl) (by kernel_rfl)
  refine r_cond_f hb (by kernel_rfl) ?_
  obtain ⟨o1, h1, h⟩ := o_inl h
  refine r_join (o := o1) 29 (fun x1 => ⟨[(3, .ref 3 0), (8, .bool x1)], [(3, .cells (cellsOf a1))], [], []⟩) ?_ ?_
  · refine pwp_seq (r_reg ?_)
    refine e_end (by kernel_rfl) ?_
    refine q_next ?_
    rcases o_cond h1 with ⟨hb, h1⟩ | ⟨hb, h1⟩
    · refine r_cond_t hb (by kernel_rfl) ?_
      refine pwp_skip ?_
      cases h1
      exact q_join (by kernel_rfl) (by kernel_rfl)
    refine r_cond_f hb (by kernel_rfl) ?_
    refine r_reg ?_
    refine e_end (by kernel_rfl) ?_
    cases h1
    exact q_join (by kernel_rfl) (by kernel_rfl)
  rintro x1 rfl
  have h := o_outl h
  rcases o_cond h with ⟨hb, h⟩ | ⟨hb, h⟩
  · refine r_cond_t hb (by kernel_rfl) ?_
    refine pwp_seq (r_reg ?_)
    refine p_run 4 (by kernel_rfl) ?_
    refine e_segb 4 18 ((decide (a1.In = 0)) && (decide (a1.Out = 1))) (fun x hx => ?_) ?_
    · rcases b_and hx with ⟨hb, hx⟩ | ⟨hb, hx⟩
      · refine p_settle 14 hb (by kernel_rfl) (by kernel_rfl) ?_
        subst hx
        exact f_end (by kernel_rfl) (by kernel_rfl)
      refine p_settle 14 hb (by kernel_rfl) (by kernel_rfl) ?_
      subst hx
      exact f_end (by kernel_rfl) (by kernel_rfl)
    refine p_run 1 (by kernel_rfl) ?_
    refine e_segb 9 28 (((decide (a1.In = 0)) && (decide (a1.Out = 1))) || ((decide (a1.In = 1)) && (decide (a1.Out = 0)))) (fun x hx => ?_) ?_
    · rcases b_or hx with ⟨hb, hx⟩ | ⟨hb, hx⟩
      · refine p_settle 19 hb (by kernel_rfl) (by kernel_rfl) ?_
        subst hx
        exact f_end (by kernel_rfl) (by kernel_rfl)
      refine p_settle 19 hb (by kernel_rfl) (by kernel_rfl) ?_
      refine p_run 4 (by kernel_rfl) ?_
      refine f_segb 4 27 ((decide (a1.In = 1)) && (decide (a1.Out = 0))) (fun x hx => ?_) ?_
      · rcases b_and hx with ⟨hb, hx⟩ | ⟨hb, hx⟩
        · refine p_settle 23 hb (by kernel_rfl) (by kernel_rfl) ?_
          subst hx
          exact f_end (by kernel_rfl) (by kernel_rfl)
        refine p_settle 23 hb (by kernel_rfl) (by kernel_rfl) ?_
        subst hx
        exact f_end (by kernel_rfl) (by kernel_rfl)
      subst hx
      exact f_end (by kernel_rfl) (by kernel_rfl)
    refine e_end (by kernel_rfl) ?_
    refine q_next (pwp_ret (q_block_ret (q_seq_ret ?_)))
    cases h
    exact q_ret (by kernel_rfl) (by kernel_rfl) (by kernel_rfl)
  refine r_cond_f hb (by kernel_rfl) ?_
  refine pwp_skip (q_block (q_next (pwp_seq (r_reg ?_))))
  refine e_end (by kernel_rfl) ?_
  refine q_next (pwp_ret ?_)
  cases h
  exact q_ret (by kernel_rfl) (by kernel_rfl) (by kernel_rfl)

/-! cmp.isNaN[int] -/
noncomputable def d_cmp_isNaN_int (a0 : Int) : Option Bool :=
  some (!(decide (a0 = a0)))
theorem d_cmp_isNaN_int_ok (a0 : Int) (r : Bool) (h : d_cmp_isNaN_int a0 = some r) : PCall Go.Proofs.Tryd.prog GlS 45 [Enc.pv a0] (Enc.pv r) := by
  unfold d_cmp_isNaN_int at h
  refine pcall_of_pwp Go.Proofs.Tryd.func45 (by rfl) rfl Go.Proofs.Tryd.ntmps45 (by rfl) rfl ?_
  refine pwp_seq (r_reg ?_)
  refine e_end (by kernel_rfl) ?_
  refine q_next (pwp_seq (r_reg ?_))
  refine e_end (by kernel_rfl) ?_
  refine q_next (pwp_ret ?_)
  cases h
  exact q_ret (by kernel_rfl) (by kernel_rfl) (by kernel_rfl)

/-! cmp.Compare[int] -/
noncomputable def d_cmp_Compare_int (a0 : Int) (a1 : Int) : Option Int :=
  (d_cmp_isNaN_int a0).bind fun r1 =>
  (d_cmp_isNaN_int a1).bind fun r2 =>
  bif r1 then (
    bif r2 then (
      some 0
    ) else (
      some (-1)
    )
  ) else (
    bif r2 then (
      some 1
    ) else (
      bif decide (a0 < a1) then (
        some (-1)
      ) else (
        bif decide (a1 < a0) then (
          some 1
        ) else (
          some 0
        )
      )
    )
  )
theorem d_cmp_Compare_int_ok (a0 : Int) (a1 : Int) (r : Int) (h : d_cmp_Compare_int a0 a1 = some r) : PCall Go.Proofs.Tryd.prog GlS 28 [Enc.pv a0, Enc.pv a1] (Enc.pv r) := by
  unfold d_cmp_Compare_int at h
  refine pcall_of_pwp Go.Proofs.Tryd.func28 (by rfl) rfl Go.Proofs.Tryd.ntmps28 (by rfl) rfl ?_
  refine pwp_seq (r_reg ?_)
  refine e_end (by kernel_rfl) ?_
  refine q_next (pwp_seq (r_reg ?_))
  refine p_run 1 (by kernel_rfl) ?_
  obtain ⟨r1, h1, h⟩ := o_bind h
  refine p_call (d_cmp_isNaN_int_ok _ r1 h1) (by kernel_rfl) (by kernel_rfl) ?_
  refine e_end (by kernel_rfl) ?_
  refine q_next (pwp_seq (r_reg ?_))
  refine p_run 1 (by kernel_rfl) ?_
  obtain ⟨r2, h2, h⟩ := o_bind h
  refine p_call (d_cmp_isNaN_int_ok _ r2 h2) (by kernel_rfl) (by kernel_rfl) ?_
  refine e_end (by kernel_rfl) ?_
  refine q_next (pwp_seq (pwp_seq (r_reg ?_)))
  refine e_end (by kernel_rfl) ?_
  refine q_next ?_
  rcases o_cond h with ⟨hb, h⟩ | ⟨hb, h⟩
  · refine r_cond_t hb (by kernel_rfl) ?_
    refine pwp_seq (pwp_seq (r_reg ?_))
    refine e_end (by kernel_rfl) ?_
    refine q_next ?_
    rcases o_cond h with ⟨hb, h⟩ | ⟨hb, h⟩
    · refine r_cond_t hb (by kernel_rfl) ?_
      refine pwp_seq (r_reg ?_)
      refine e_end (by kernel_rfl) ?_
      refine q_next (pwp_ret (q_seq_ret (q_seq_ret ?_)))
      cases h
      exact q_ret (by kernel_rfl) (by kernel_rfl) (by kernel_rfl)
    refine r_cond_f hb (by kernel_rfl) ?_
    refine pwp_skip (q_next (pwp_seq (r_reg ?_)))
    refine e_end (by kernel_rfl) ?_
    refine q_next (pwp_ret (q_seq_ret ?_))
    cases h
    exact q_ret (by kernel_rfl) (by kernel_rfl) (by kernel_rfl)
  refine r_cond_f hb (by kernel_rfl) ?_
  refine pwp_skip (q_next (pwp_seq (pwp_seq (r_reg ?_))))
  refine e_end (by kernel_rfl) ?_
  refine q_next ?_
  rcases o_cond h with ⟨hb, h⟩ | ⟨hb, h⟩
  · refine r_cond_t hb (by kernel_rfl) ?_
    refine pwp_seq (r_reg ?_)
    refine e_end (by kernel_rfl) ?_
    refine q_next (pwp_ret (q_seq_ret ?_))
    cases h
    exact q_ret (by kernel_rfl) (by kernel_rfl) (by kernel_rfl)
  refine r_cond_f hb (by kernel_rfl) ?_
  refine pwp_skip (q_next (pwp_seq (pwp_seq (r_reg ?_))))
  refine e_end (by kernel_rfl) ?_
  refine q_next ?_
  rcases o_cond h with ⟨hb, h⟩ | ⟨hb, h⟩
  · refine r_cond_t hb (by kernel_rfl) ?_
    refine pwp_seq (r_reg ?_)
    refine e_end (by kernel_rfl) ?_
    refine q_next (pwp_ret (q_seq_ret ?_))
    cases h
    exact q_ret (by kernel_rfl) (by kernel_rfl) (by kernel_rfl)
  refine r_cond_f hb (by kernel_rfl) ?_
  refine pwp_skip (q_next (pwp_seq (pwp_seq (r_reg ?_))))
  refine e_end (by kernel_rfl) ?_
  refine q_next ?_
  rcases o_cond h with ⟨hb, h⟩ | ⟨hb, h⟩
  · refine r_cond_t hb (by kernel_rfl) ?_
    refine pwp_seq (r_reg ?_)
    refine e_end (by kernel_rfl) ?_
    refine q_next (pwp_ret (q_seq_ret ?_))
    cases h
    exact q_ret (by kernel_rfl) (by kernel_rfl) (by kernel_rfl)
  refine r_cond_f hb (by kernel_rfl) ?_
  refine pwp_skip (q_next (pwp_seq (r_reg ?_)))
  refine e_end (by kernel_rfl) ?_
  refine q_next (pwp_ret ?_)
  cases h
  exact q_ret (by kernel_rfl) (by kernel_rfl) (by kernel_rfl)

theorem d_cmp_Compare_int_eq (a b : Int) : d_cmp_Compare_int a b = some (if a < b then -1 else if b < a then 1 else 0) := by
  unfold d_cmp_Compare_int d_cmp_isNaN_int
  by_cases h1 : a < b
  · simp [h1]
  · by_cases h2 : b < a <;> simp [h1, h2]

/-! cmp.Or[int] -/
noncomputable def d_cmp_Or_int_0 (a0 : (List Int)) : Int → Option (Int ⊕ (Unit ⊕ Int)) := fun x2 =>
  bif decide (x2 < ((a0.length : Nat) : Int)) then (
    (ixO a0 x2).bind fun x4 =>
    bif (!(decide (x4 = 0))) then (
      some (.inr (.inr x4))
    ) else (
      some (.inl (w64 (x2 + 1)))
    )
  ) else (
    some (.inr (.inl ()))
  )

noncomputable def d_cmp_Or_int (a0 : (List Int)) : Option Int :=
  onInl (α := Unit) (β := Int) (loopO (d_cmp_Or_int_0 a0) 0) fun _ =>
  some 0
theorem d_cmp_Or_int_ok (a0 : (List Int)) (r : Int) (h : d_cmp_Or_int a0 = some r) : PCall Go.Proofs.Tryd.prog GlS 27 [Enc.pv a0] (Enc.pv r) := by
  unfold d_cmp_Or_int at h
  refine pcall_of_pwp Go.Proofs.Tryd.func27 (by rfl) rfl Go.Proofs.Tryd.ntmps27 (by rfl) rfl ?_
  refine pwp_seq (r_reg ?_)
  refine e_end (by kernel_rfl) ?_
  refine q_next (pwp_seq (r_reg ?_))
  refine e_end (by kernel_rfl) ?_
  refine q_next (pwp_seq (pwp_seq (r_reg ?_)))
  refine p_run 1 (by kernel_rfl) ?_
  refine p_len (L := (a0 : (List Int))) (by kernel_rfl) ?_
  refine e_end (by kernel_rfl) ?_
  refine q_next (pwp_block ?_)
  obtain ⟨o6, h6, h⟩ := o_inl h
  refine r_loop2 18 0 (fun x2 => ⟨[(3, .int .i64 0), (6, lstOf .frozen (a0 : (List Int))), (7, .int .i64 ((a0.length : Nat) : Int)), (8, .int .i64 x2)], [], [], []⟩) (fun (_ : Unit) => ⟨[(3, .int .i64 0)], [], [], []⟩) h6 (by kernel_rfl) (fun _ => by kernel_rfl) ?_ ?_
  · rintro x2 oh5 h5
    unfold d_cmp_Or_int_0 at h5
    refine pwp_seq (r_reg ?_)
    refine e_end (by kernel_rfl) ?_
    refine q_next (pwp_seq ?_)
    rcases o_cond h5 with ⟨hb, h5⟩ | ⟨hb, h5⟩
    · refine r_cond_t hb (by kernel_rfl) ?_
      refine pwp_skip (q_next (pwp_seq (pwp_block (pwp_seq (r_reg ?_)))))
      obtain ⟨x4, h7, h5⟩ := o_bind h5
      refine p_ix h7 (by kernel_rfl) ?_
      refine e_end (by kernel_rfl) ?_
      refine q_next (pwp_seq (r_reg ?_))
      refine e_end (by kernel_rfl) ?_
      refine q_next ?_
      rcases o_cond h5 with ⟨hb, h5⟩ | ⟨hb, h5⟩
      · refine r_cond_t hb (by kernel_rfl) ?_
        refine pwp_seq (r_reg ?_)
        refine e_end (by kernel_rfl) ?_
        refine q_next (pwp_ret (q_block_ret (q_seq_ret ?_)))
        cases h5
        refine q_lout_ret fun he => ?_
        subst he
        have h8 := o_outr h
        refine q_block_ret (q_seq_ret ?_)
        cases h8
        exact q_ret (by kernel_rfl) (by kernel_rfl) (by kernel_rfl)
      refine r_cond_f hb (by kernel_rfl) ?_
      refine pwp_skip (q_block (q_next (r_reg ?_)))
      refine e_end (by kernel_rfl) ?_
      cases h5
      exact q_lback (by kernel_rfl)
    refine r_cond_f hb (by kernel_rfl) ?_
    refine pwp_exit (q_seq_exit ?_)
    cases h5
    exact q_lexit (by kernel_rfl) (by kernel_rfl)
  rintro _ s' rfl hs
  have h := o_outl h
  refine q_block_hit ?_
  refine q_next (pwp_wkr hs ?_)
  refine pwp_seq (r_reg ?_)
  refine e_end (by kernel_rfl) ?_
  refine q_next (pwp_ret ?_)
  cases h
  exact q_ret (by kernel_rfl) (by kernel_rfl) (by kernel_rfl)

theorem d_cmp_Or_int_two (a b : Int) : d_cmp_Or_int [a, b] = some (if a = 0 then b else a) := by
  unfold d_cmp_Or_int
  by_cases h1 : a = 0
  · subst h1
    have e0 : d_cmp_Or_int_0 [0, b] 0 = some (.inl 1) := by simp [d_cmp_Or_int_0, ixO, w64, IntKind.wrap, IntKind.bits, IntKind.signed]
    rw [loop_more e0]
    by_cases h2 : b = 0
    · have e1 : d_cmp_Or_int_0 [0, b] 1 = some (.inl 2) := by simp [d_cmp_Or_int_0, ixO, w64, IntKind.wrap, IntKind.bits, IntKind.signed, h2]
      have e2 : d_cmp_Or_int_0 [0, b] 2 = some (.inr (.inl ())) := by simp [d_cmp_Or_int_0]
      rw [loop_more e1, loop_done e2]
      simp [onInl, onOut, h2]
    · have e1 : d_cmp_Or_int_0 [0, b] 1 = some (.inr (.inr b)) := by simp [d_cmp_Or_int_0, ixO, h2]
      rw [loop_done e1]
      simp [onInl, onOut]
  · have e0 : d_cmp_Or_int_0 [a, b] 0 = some (.inr (.inr a)) := by simp [d_cmp_Or_int_0, ixO, h1]
    rw [loop_done e0]
    simp [onInl, onOut, h1]

/-! linking.Of$1 -/
noncomputable def d_linking_Of_c1 (a0 : T_api_Linked) (a1 : T_api_Linked) : Option Int :=
  (d_cmp_Compare_int a0.At a1.At).bind fun r1 =>
  (d_cmp_Compare_int a0.Id a1.Id).bind fun r2 =>
  (d_cmp_Or_int [r1, r2]).bind fun r3 =>
  some r3
theorem d_linking_Of_c1_ok (a0 : T_api_Linked) (a1 : T_api_Linked) (r : Int) (h : d_linking_Of_c1 a0 a1 = some r) : PCall Go.Proofs.Tryd.prog GlS 26 [Enc.pv a0, Enc.pv a1] (Enc.pv r) := by
  unfold d_linking_Of_c1 at h
  refine pcall_of_pwp Go.Proofs.Tryd.func26 (by rfl) rfl Go.Proofs.Tryd.ntmps26 (by rfl) rfl ?_
  refine pwp_seq (r_reg ?_)
  refine e_end (by kernel_rfl) ?_
  refine q_next (pwp_seq ?_)
  refine r_regd (by kernel_rfl) (by kernel_rfl) ?_
  refine p_run 4 (by kernel_rfl) ?_
  obtain ⟨r1, h1, h⟩ := o_bind h
  refine p_call (d_cmp_Compare_int_ok _ _ r1 h1) (by kernel_rfl) (by kernel_rfl) ?_
  refine p_run 4 (by kernel_rfl) ?_
  obtain ⟨r2, h2, h⟩ := o_bind h
  refine p_call (d_cmp_Compare_int_ok _ _ r2 h2) (by kernel_rfl) (by kernel_rfl) ?_
  refine p_run 1 (by kernel_rfl) ?_
  obtain ⟨r3, h3, h⟩ := o_bind h
  refine p_call (d_cmp_Or_int_ok _ r3 h3) (by kernel_rfl) (by kernel_rfl) ?_
  refine e_end (by kernel_rfl) ?_
  refine q_next (pwp_ret ?_)
  cases h
  exact q_ret (by kernel_rfl) (by kernel_rfl) (by kernel_rfl)

end PM
