/-
  Plain functions for the program's functions, and the proofs that the program does them. Printed by den.py.
-/
import Derived.Test.YtaoagcnjefialaaDoorDen0
namespace PM
open Go Go.RowKit
attribute [local irreducible] pops pwp

/-! overlap.covers -/
noncomputable def d_overlap_covers (a0 : (List T_api_Step)) (a1 : Int) : Option Bool :=
  (d_slices_ContainsFunc_api_Step__overlap_covers_1 a0 a1).bind fun r1 =>
  some r1
theorem d_overlap_covers_ok (a0 : (List T_api_Step)) (a1 : Int) (r : Bool) (h : d_overlap_covers a0 a1 = some r) : PCall Go.Proofs.Tryd.prog GlS 56 [Enc.pv a0, Enc.pv a1] (Enc.pv r) := by
  unfold d_overlap_covers at h
  refine pcall_of_pwp Go.Proofs.Tryd.func56 (by rfl) rfl Go.Proofs.Tryd.ntmps56 (by rfl) rfl ?_
  refine pwp_seq ?_
  refine r_reg ?_
  refine e_end (by kernel_rfl) ?_
  refine q_next ?_
  refine pwp_seq ?_
  refine g_frz 3 [] (cs := [.int .i64 a1]) (cs' := [.int .i64 a1]) (by kernel_rfl) (by kernel_rfl) (by kernel_rfl) (by kernel_rfl) ?_
  refine r_reg ?_
  refine p_run 2 (by kernel_rfl) ?_
  obtain ⟨r1, h1, h⟩ := o_bind h
  refine p_call (d_slices_ContainsFunc_api_Step__overlap_covers_1_ok _ _ r1 h1) (by kernel_rfl) (by kernel_rfl) ?_
  refine e_end (by kernel_rfl) ?_
  refine q_next ?_
  refine pwp_ret ?_
  cases h
  exact q_ret (by kernel_rfl) (by kernel_rfl) (by kernel_rfl)

/-! layout.Section -/
noncomputable def d_layout_Section (a0 : T_api_Layout) (a1 : Int) : Option Int :=
  ((bif decide (a1 < 0) then some true else (
    some (decide (((a0.Elements.length : Nat) : Int) ≤ a1))
  )) : Option Bool).bind fun b1 =>
  bif b1 then (
    some (-1)
  ) else (
    (ixO a0.Elements a1).bind fun x2 =>
    some x2.Section
  )
theorem d_layout_Section_ok (a0 : T_api_Layout) (a1 : Int) (r : Int) (h : d_layout_Section a0 a1 = some r) : PCall Go.Proofs.Tryd.prog GlS 58 [Enc.pv a0, Enc.pv a1] (Enc.pv r) := by
  unfold d_layout_Section at h
  refine pcall_of_pwp Go.Proofs.Tryd.func58 (by rfl) rfl Go.Proofs.Tryd.ntmps58 (by rfl) rfl ?_
  refine pwp_seq ?_
  refine r_reg ?_
  refine e_end (by kernel_rfl) ?_
  refine q_next ?_
  refine pwp_seq ?_
  refine pwp_seq ?_
  refine r_reg ?_
  obtain ⟨b1, h1, h⟩ := o_bind h
  refine p_run 3 (by kernel_rfl) ?_
  refine e_seg 6 13 (.bool b1) ?_ ?_
  · rcases o_cond h1 with ⟨hb, h1⟩ | ⟨hb, h1⟩
    · refine p_settle 7 hb (by kernel_rfl) (by kernel_rfl) ?_
      cases h1
      exact f_end (by kernel_rfl) (by kernel_rfl)
    · refine p_settle 7 hb (by kernel_rfl) (by kernel_rfl) ?_
      refine p_run 3 (by kernel_rfl) ?_
      refine p_len (L := (a0.Elements : (List T_api_Element))) (by kernel_rfl) ?_
      cases h1
      exact f_end (by kernel_rfl) (by kernel_rfl)
  · refine e_nil (by kernel_rfl) ?_
    refine q_next ?_
    rcases o_cond h with ⟨hb, h⟩ | ⟨hb, h⟩
    · refine r_cond_t hb (by kernel_rfl) ?_
      refine pwp_seq ?_
      refine r_reg ?_
      refine e_end (by kernel_rfl) ?_
      refine q_next ?_
      refine pwp_ret ?_
      refine q_seq_ret ?_
      cases h
      exact q_ret (by kernel_rfl) (by kernel_rfl) (by kernel_rfl)
    · refine r_cond_f hb (by kernel_rfl) ?_
      refine pwp_skip ?_
      refine q_next ?_
      refine pwp_seq ?_
      refine r_reg ?_
      refine p_run 3 (by kernel_rfl) ?_
      obtain ⟨x2, h2, h⟩ := o_bind h
      refine p_ix h2 (by kernel_rfl) ?_
      refine e_end (by kernel_rfl) ?_
      refine q_next ?_
      refine pwp_ret ?_
      cases h
      exact q_ret (by kernel_rfl) (by kernel_rfl) (by kernel_rfl)

/-! slices.Index[[]int,int] -/
noncomputable def d_slices_Index_int_0 (a0 : (List Int)) (a1 : Int) : Int → Option (Int ⊕ (Unit ⊕ Int)) := fun x2 =>
  bif decide (x2 < ((a0.length : Nat) : Int)) then (
    (ixO a0 x2).bind fun x4 =>
    bif decide (a1 = x4) then (
      some (.inr (.inr x2))
    ) else (
      some (.inl (w64 (x2 + 1)))
    )
  ) else (
    some (.inr (.inl ()))
  )

noncomputable def d_slices_Index_int (a0 : (List Int)) (a1 : Int) : Option Int :=
  onInl (α := Unit) (β := Int) (loopO (d_slices_Index_int_0 a0 a1) 0) fun _ =>
  some (-1)
theorem d_slices_Index_int_ok (a0 : (List Int)) (a1 : Int) (r : Int) (h : d_slices_Index_int a0 a1 = some r) : PCall Go.Proofs.Tryd.prog GlS 99 [Enc.pv a0, Enc.pv a1] (Enc.pv r) := by
  unfold d_slices_Index_int at h
  refine pcall_of_pwp Go.Proofs.Tryd.func99 (by rfl) rfl Go.Proofs.Tryd.ntmps99 (by rfl) rfl ?_
  refine pwp_seq ?_
  refine r_reg ?_
  refine e_end (by kernel_rfl) ?_
  refine q_next ?_
  refine pwp_seq ?_
  refine pwp_seq ?_
  refine r_reg ?_
  refine p_run 1 (by kernel_rfl) ?_
  refine p_len (L := (a0 : (List Int))) (by kernel_rfl) ?_
  refine e_end (by kernel_rfl) ?_
  refine q_next ?_
  refine pwp_block ?_
  obtain ⟨o6, h6, h⟩ := o_inl h
  refine r_loop2 19 0 (fun x2 => ⟨[(0, lstOf .frozen (a0 : (List Int))), (1, .int .i64 a1), (7, .int .i64 ((a0.length : Nat) : Int)), (8, .int .i64 x2)], [], [], []⟩) (fun (_ : Unit) => ⟨[], [], [], []⟩) h6 (by kernel_rfl) (fun _ => by kernel_rfl) ?_ ?_
  · rintro x2 oh5 h5
    unfold d_slices_Index_int_0 at h5
    refine pwp_seq ?_
    refine r_reg ?_
    refine e_end (by kernel_rfl) ?_
    refine q_next ?_
    refine pwp_seq ?_
    rcases o_cond h5 with ⟨hb, h5⟩ | ⟨hb, h5⟩
    · refine r_cond_t hb (by kernel_rfl) ?_
      refine pwp_skip ?_
      refine q_next ?_
      refine pwp_seq ?_
      refine pwp_block ?_
      refine pwp_seq ?_
      refine r_reg ?_
      refine e_end (by kernel_rfl) ?_
      refine q_next ?_
      refine pwp_seq ?_
      refine r_reg ?_
      refine p_run 3 (by kernel_rfl) ?_
      obtain ⟨x4, h7, h5⟩ := o_bind h5
      refine p_ix h7 (by kernel_rfl) ?_
      refine e_end (by kernel_rfl) ?_
      refine q_next ?_
      rcases o_cond h5 with ⟨hb, h5⟩ | ⟨hb, h5⟩
      · refine r_cond_t hb (by kernel_rfl) ?_
        refine pwp_seq ?_
        refine r_reg ?_
        refine e_end (by kernel_rfl) ?_
        refine q_next ?_
        refine pwp_ret ?_
        refine q_block_ret ?_
        refine q_seq_ret ?_
        cases h5
        refine q_lout_ret fun he => ?_
        subst he
        have h8 := o_outr h
        refine q_block_ret ?_
        refine q_seq_ret ?_
        cases h8
        exact q_ret (by kernel_rfl) (by kernel_rfl) (by kernel_rfl)
      · refine r_cond_f hb (by kernel_rfl) ?_
        refine pwp_skip ?_
        refine q_block ?_
        refine q_next ?_
        refine r_reg ?_
        refine e_end (by kernel_rfl) ?_
        cases h5
        exact q_lback (by kernel_rfl)
    · refine r_cond_f hb (by kernel_rfl) ?_
      refine pwp_exit ?_
      refine q_seq_exit ?_
      cases h5
      exact q_lexit (by kernel_rfl) (by kernel_rfl)
  · rintro _ s' rfl hs
    have h := o_outl h
    refine q_block_hit ?_
    refine q_next (pwp_wkr hs ?_)
    refine pwp_seq ?_
    refine r_reg ?_
    refine e_end (by kernel_rfl) ?_
    refine q_next ?_
    refine pwp_ret ?_
    cases h
    exact q_ret (by kernel_rfl) (by kernel_rfl) (by kernel_rfl)

/-! slices.Contains[[]int,int] -/
noncomputable def d_slices_Contains_int (a0 : (List Int)) (a1 : Int) : Option Bool :=
  (d_slices_Index_int a0 a1).bind fun r1 =>
  some (decide (0 ≤ r1))
theorem d_slices_Contains_int_ok (a0 : (List Int)) (a1 : Int) (r : Bool) (h : d_slices_Contains_int a0 a1 = some r) : PCall Go.Proofs.Tryd.prog GlS 87 [Enc.pv a0, Enc.pv a1] (Enc.pv r) := by
  unfold d_slices_Contains_int at h
  refine pcall_of_pwp Go.Proofs.Tryd.func87 (by rfl) rfl Go.Proofs.Tryd.ntmps87 (by rfl) rfl ?_
  refine pwp_seq ?_
  refine r_reg ?_
  refine e_end (by kernel_rfl) ?_
  refine q_next ?_
  refine pwp_seq ?_
  refine r_reg ?_
  refine p_run 2 (by kernel_rfl) ?_
  obtain ⟨r1, h1, h⟩ := o_bind h
  refine p_call (d_slices_Index_int_ok _ _ r1 h1) (by kernel_rfl) (by kernel_rfl) ?_
  refine e_end (by kernel_rfl) ?_
  refine q_next ?_
  refine pwp_ret ?_
  cases h
  exact q_ret (by kernel_rfl) (by kernel_rfl) (by kernel_rfl)

/-! overlap.obstructed -/
noncomputable def d_overlap_obstructed (a0 : Int) (a1 : (List Int)) : Option Bool :=
  (d_slices_Contains_int a1 a0).bind fun r1 =>
  some r1
theorem d_overlap_obstructed_ok (a0 : Int) (a1 : (List Int)) (r : Bool) (h : d_overlap_obstructed a0 a1 = some r) : PCall Go.Proofs.Tryd.prog GlS 57 [Enc.pv a0, Enc.pv a1] (Enc.pv r) := by
  unfold d_overlap_obstructed at h
  refine pcall_of_pwp Go.Proofs.Tryd.func57 (by rfl) rfl Go.Proofs.Tryd.ntmps57 (by rfl) rfl ?_
  refine pwp_seq ?_
  refine r_reg ?_
  refine e_end (by kernel_rfl) ?_
  refine q_next ?_
  refine pwp_seq ?_
  refine r_reg ?_
  refine p_run 2 (by kernel_rfl) ?_
  obtain ⟨r1, h1, h⟩ := o_bind h
  refine p_call (d_slices_Contains_int_ok _ _ r1 h1) (by kernel_rfl) (by kernel_rfl) ?_
  refine e_end (by kernel_rfl) ?_
  refine q_next ?_
  refine pwp_ret ?_
  cases h
  exact q_ret (by kernel_rfl) (by kernel_rfl) (by kernel_rfl)

/-! rail.Legs -/
noncomputable def d_rail_Legs_0 (a0 : Int) (a1 : Int) : (Int × (List Int)) → Option ((Int × (List Int)) ⊕ ((List Int) ⊕ (List Int))) := fun (x12, x13) =>
  bif decide (x12 < 10) then (
    onInl (α := (List Int)) (β := ((Int × (List Int)) ⊕ ((List Int) ⊕ (List Int)))) (
      (ixO tab_rail_passages x12).bind fun x23 =>
      bif ((decide (x23.kind_ = a0)) && (decide (x23.in_ = a1))) then (
        (appO x13 [x23.out_]).bind fun x24 =>
        some (.inl x24)
      ) else (
        some (.inl x13)
      )
    ) fun x22 =>
    some (.inl (w64 (x12 + 1), x22))
  ) else (
    some (.inr (.inl x13))
  )

noncomputable def d_rail_Legs (a0 : Int) (a1 : Int) : Option (List Int) :=
  onInl (α := (List Int)) (β := (List Int)) (loopO (d_rail_Legs_0 a0 a1) (0, ([] : (List Int)))) fun x19 =>
  some x19
theorem d_rail_Legs_ok (a0 : Int) (a1 : Int) (r : (List Int)) (h : d_rail_Legs a0 a1 = some r) : PCall Go.Proofs.Tryd.prog GlS 88 [Enc.pv a0, Enc.pv a1] (lstOf (.own 100005) r) := by
  unfold d_rail_Legs at h
  refine pcall_of_pwp Go.Proofs.Tryd.func88 (by rfl) rfl Go.Proofs.Tryd.ntmps88 (by rfl) rfl ?_
  refine pwp_seq ?_
  refine r_reg ?_
  refine e_end (by kernel_rfl) ?_
  refine q_next ?_
  refine pwp_seq ?_
  refine r_reg ?_
  refine e_end (by kernel_rfl) ?_
  refine q_next ?_
  refine pwp_seq ?_
  refine pwp_seq ?_
  refine r_reg ?_
  refine e_end (by kernel_rfl) ?_
  refine q_next ?_
  refine pwp_block ?_
  refine g_nil 5 100005 1 8 (by kernel_rfl) (by kernel_rfl) ?_
  obtain ⟨o17, h17, h⟩ := o_inl h
  refine r_loop2 29 0 (fun (x12, x13) => ⟨[(0, .int .i64 a0), (1, .int .i64 a1), (5, lstOf (.own 100005) (x13 : (List Int))), (8, .agg (tab_rail_passages.flatMap cellsOf)), (9, .int .i64 x12)], [], [(100005, (((x13).map cellsOf).length, 1))], []⟩) (fun x19 => ⟨[(5, lstOf (.own 100005) (x19 : (List Int)))], [], [(100005, (((x19).map cellsOf).length, 1))], []⟩) h17 (by kernel_rfl) (fun _ => by kernel_rfl) ?_ ?_
  · rintro ⟨x12, x13⟩ oh16 h16
    unfold d_rail_Legs_0 at h16
    refine pwp_seq ?_
    refine r_reg ?_
    refine e_end (by kernel_rfl) ?_
    refine q_next ?_
    refine pwp_seq ?_
    rcases o_cond h16 with ⟨hb, h16⟩ | ⟨hb, h16⟩
    · refine r_cond_t hb (by kernel_rfl) ?_
      refine pwp_skip ?_
      refine q_next ?_
      obtain ⟨o20, h20, h16⟩ := o_inl h16
      refine r_join (o := o20) 29 (fun x22 => ⟨[(0, .int .i64 a0), (1, .int .i64 a1), (5, lstOf (.own 100005) (x22 : (List Int))), (8, .agg (tab_rail_passages.flatMap cellsOf)), (9, .int .i64 x12)], [], [(100005, (((x22).map cellsOf).length, 1))], []⟩) ?_ ?_
      · refine pwp_block ?_
        refine pwp_seq ?_
        refine r_reg ?_
        obtain ⟨x23, h21, h20⟩ := o_bind h20
        refine p_tix (tab := tab_rail_passages) h21 true 10 4 (by kernel_rfl) (by kernel_rfl) (by kernel_rfl) (by kernel_rfl) ?_
        refine e_end (by kernel_rfl) ?_
        refine q_next ?_
        refine pwp_seq ?_
        refine r_reg ?_
        refine p_run 5 (by kernel_rfl) ?_
        refine e_segb 5 21 ((decide (x23.kind_ = a0)) && (decide (x23.in_ = a1))) (fun x hx => ?_) ?_
        · rcases b_and hx with ⟨hb, hx⟩ | ⟨hb, hx⟩
          · refine p_settle 16 hb (by kernel_rfl) (by kernel_rfl) ?_
            subst hx
            exact f_end (by kernel_rfl) (by kernel_rfl)
          · refine p_settle 16 hb (by kernel_rfl) (by kernel_rfl) ?_
            subst hx
            exact f_end (by kernel_rfl) (by kernel_rfl)
        · refine e_nil (by kernel_rfl) ?_
          refine q_next ?_
          rcases o_cond h20 with ⟨hb, h20⟩ | ⟨hb, h20⟩
          · refine r_cond_t hb (by kernel_rfl) ?_
            refine r_reg ?_
            refine p_run 4 (by kernel_rfl) ?_
            obtain ⟨x24, h22, h20⟩ := o_bind h20
            refine p_app (tk := 100005) h22 (by kernel_rfl) (by kernel_rfl) ?_
            refine e_end (by kernel_rfl) ?_
            refine q_block ?_
            cases h20
            exact q_join (by kernel_rfl) (by kernel_rfl)
          · refine r_cond_f hb (by kernel_rfl) ?_
            refine pwp_skip ?_
            refine q_block ?_
            cases h20
            exact q_join (by kernel_rfl) (by kernel_rfl)
      · rintro x22 rfl
        have h16 := o_outl h16
        refine r_reg ?_
        refine e_end (by kernel_rfl) ?_
        cases h16
        exact q_lback (by kernel_rfl)
    · refine r_cond_f hb (by kernel_rfl) ?_
      refine pwp_exit ?_
      refine q_seq_exit ?_
      cases h16
      exact q_lexit (by kernel_rfl) (by kernel_rfl)
  · rintro x19 s' rfl hs
    have h := o_outl h
    refine q_block_hit ?_
    refine q_next (pwp_wkr hs ?_)
    refine pwp_seq ?_
    refine r_reg ?_
    refine e_end (by kernel_rfl) ?_
    refine q_next ?_
    refine pwp_ret ?_
    cases h
    exact q_ret (by kernel_rfl) (by kernel_rfl) (by kernel_rfl)
theorem d_rail_Legs_fz (a0 : Int) (a1 : Int) (r : (List Int)) (h : d_rail_Legs a0 a1 = some r) : PCall Go.Proofs.Tryd.prog GlS 88 [Enc.pv a0, Enc.pv a1] (Enc.pv r) :=
  (d_rail_Legs_ok a0 a1 r h).freeze (by kernel_rfl) (by kernel_rfl) (by kernel_rfl)

/-! walk.Branches -/
noncomputable def d_walk_Branches_0 (a1 : T_api_End) (r3 : (List Int)) : (Int × (List T_api_Step)) → Option ((Int × (List T_api_Step)) ⊕ ((List T_api_Step) ⊕ (List T_api_Step))) := fun (x9, x10) =>
  bif decide (x9 < ((r3.length : Nat) : Int)) then (
    (ixO r3 x9).bind fun x14 =>
    (appO x10 [(T_api_Step.mk a1.El a1.Side x14)]).bind fun x15 =>
    some (.inl (w64 (x9 + 1), x15))
  ) else (
    some (.inr (.inl x10))
  )

noncomputable def d_walk_Branches (a0 : T_api_Layout) (a1 : T_api_End) : Option (List T_api_Step) :=
  (d_walk_exists a0 a1.El).bind fun r1 =>
  bif (!r1) then (
    some ([] : (List T_api_Step))
  ) else (
    (ixO a0.Elements a1.El).bind fun x2 =>
    (d_rail_Legs x2.Kind a1.Side).bind fun r3 =>
    onInl (α := (List T_api_Step)) (β := (List T_api_Step)) (loopO (d_walk_Branches_0 a1 r3) (0, ([] : (List T_api_Step)))) fun x13 =>
    some x13
  )
theorem d_walk_Branches_ok (a0 : T_api_Layout) (a1 : T_api_End) (r : (List T_api_Step)) (h : d_walk_Branches a0 a1 = some r) : PCall Go.Proofs.Tryd.prog GlS 59 [Enc.pv a0, Enc.pv a1] (lstOf (.own 100005) r) := by
  unfold d_walk_Branches at h
  refine pcall_of_pwp Go.Proofs.Tryd.func59 (by rfl) rfl Go.Proofs.Tryd.ntmps59 (by rfl) rfl ?_
  refine pwp_seq ?_
  refine r_reg ?_
  refine e_end (by kernel_rfl) ?_
  refine q_next ?_
  refine pwp_seq ?_
  refine pwp_seq ?_
  refine r_reg ?_
  refine p_run 3 (by kernel_rfl) ?_
  obtain ⟨r1, h1, h⟩ := o_bind h
  refine p_call (d_walk_exists_ok _ _ r1 h1) (by kernel_rfl) (by kernel_rfl) ?_
  refine e_end (by kernel_rfl) ?_
  refine q_next ?_
  rcases o_cond h with ⟨hb, h⟩ | ⟨hb, h⟩
  · refine r_cond_t hb (by kernel_rfl) ?_
    refine pwp_seq ?_
    refine r_reg ?_
    refine e_end (by kernel_rfl) ?_
    refine q_next ?_
    refine g_nil 4 100005 3 24 (by kernel_rfl) (by kernel_rfl) ?_
    refine pwp_ret ?_
    refine q_seq_ret ?_
    cases h
    exact q_ret (by kernel_rfl) (by kernel_rfl) (by kernel_rfl)
  · refine r_cond_f hb (by kernel_rfl) ?_
    refine pwp_skip ?_
    refine q_next ?_
    refine pwp_seq ?_
    refine r_reg ?_
    refine e_end (by kernel_rfl) ?_
    refine q_next ?_
    refine pwp_seq ?_
    refine pwp_seq ?_
    refine r_regd (by kernel_rfl) (by kernel_rfl) ?_
    refine p_run 4 (by kernel_rfl) ?_
    obtain ⟨x2, h2, h⟩ := o_bind h
    refine p_ix h2 (by kernel_rfl) ?_
    refine p_run 4 (by kernel_rfl) ?_
    obtain ⟨r3, h3, h⟩ := o_bind h
    refine p_call (d_rail_Legs_fz _ _ r3 h3) (by kernel_rfl) (by kernel_rfl) ?_
    refine p_len (L := (r3 : (List Int))) (by kernel_rfl) ?_
    refine e_end (by kernel_rfl) ?_
    refine q_next ?_
    refine pwp_block ?_
    refine g_nil 5 100005 3 24 (by kernel_rfl) (by kernel_rfl) ?_
    obtain ⟨o11, h11, h⟩ := o_inl h
    refine r_loop2 39 0 (fun (x9, x10) => ⟨[(3, .ref 3 0), (5, lstOf (.own 100005) (x10 : (List T_api_Step))), (22, lstOf .frozen (r3 : (List Int))), (23, .int .i64 ((r3.length : Nat) : Int)), (24, .int .i64 x9)], [(3, .cells (cellsOf a1))], [(100005, (((x10).map cellsOf).length, 3))], []⟩) (fun x13 => ⟨[(5, lstOf (.own 100005) (x13 : (List T_api_Step)))], [], [(100005, (((x13).map cellsOf).length, 3))], []⟩) h11 (by kernel_rfl) (fun _ => by kernel_rfl) ?_ ?_
    · rintro ⟨x9, x10⟩ oh10 h10
      unfold d_walk_Branches_0 at h10
      refine pwp_seq ?_
      refine r_reg ?_
      refine e_end (by kernel_rfl) ?_
      refine q_next ?_
      refine pwp_seq ?_
      rcases o_cond h10 with ⟨hb, h10⟩ | ⟨hb, h10⟩
      · refine r_cond_t hb (by kernel_rfl) ?_
        refine pwp_skip ?_
        refine q_next ?_
        refine pwp_seq ?_
        refine pwp_block ?_
        refine pwp_seq ?_
        refine r_reg ?_
        obtain ⟨x14, h12, h10⟩ := o_bind h10
        refine p_ix h12 (by kernel_rfl) ?_
        refine e_end (by kernel_rfl) ?_
        refine q_next ?_
        refine r_reg ?_
        refine p_run 8 (by kernel_rfl) ?_
        obtain ⟨x15, h13, h10⟩ := o_bind h10
        refine p_app (tk := 100005) h13 (by kernel_rfl) (by kernel_rfl) ?_
        refine e_end (by kernel_rfl) ?_
        refine q_block ?_
        refine q_next ?_
        refine r_reg ?_
        refine e_end (by kernel_rfl) ?_
        cases h10
        exact q_lback (by kernel_rfl)
      · refine r_cond_f hb (by kernel_rfl) ?_
        refine pwp_exit ?_
        refine q_seq_exit ?_
        cases h10
        exact q_lexit (by kernel_rfl) (by kernel_rfl)
    · rintro x13 s' rfl hs
      have h := o_outl h
      refine q_block_hit ?_
      refine q_next (pwp_wkr hs ?_)
      refine pwp_seq ?_
      refine r_reg ?_
      refine e_end (by kernel_rfl) ?_
      refine q_next ?_
      refine pwp_ret ?_
      cases h
      exact q_ret (by kernel_rfl) (by kernel_rfl) (by kernel_rfl)
theorem d_walk_Branches_fz (a0 : T_api_Layout) (a1 : T_api_End) (r : (List T_api_Step)) (h : d_walk_Branches a0 a1 = some r) : PCall Go.Proofs.Tryd.prog GlS 59 [Enc.pv a0, Enc.pv a1] (Enc.pv r) :=
  (d_walk_Branches_ok a0 a1 r h).freeze (by kernel_rfl) (by kernel_rfl) (by kernel_rfl)

/-! walk.passage -/
noncomputable def d_walk_passage (a0 : T_api_Layout) : Option T_api_Layout :=
  some a0
theorem d_walk_passage_ok (a0 : T_api_Layout) (r : T_api_Layout) (h : d_walk_passage a0 = some r) : PCall Go.Proofs.Tryd.prog GlS 89 [Enc.pv a0] (.fn 100 [.cptr (cellsOf r)]) := by
  unfold d_walk_passage at h
  refine pcall_of_pwp Go.Proofs.Tryd.func89 (by rfl) rfl Go.Proofs.Tryd.ntmps89 (by rfl) rfl ?_
  refine pwp_seq ?_
  refine r_reg ?_
  refine e_end (by kernel_rfl) ?_
  refine q_next ?_
  refine pwp_seq ?_
  refine r_reg ?_
  refine e_end (by kernel_rfl) ?_
  refine q_next ?_
  refine g_frz 1 [] (cs := cellsOf a0) (cs' := cellsOf a0) (by kernel_rfl) (by kernel_rfl) (by kernel_rfl) (by kernel_rfl) ?_
  refine pwp_ret ?_
  cases h
  exact q_ret (by kernel_rfl) (by kernel_rfl) (by kernel_rfl)

/-! walk.passage$1 -/
noncomputable def d_walk_passage_1 (a0 : T_api_Step) (c0 : T_api_Layout) : Option (T_api_End × Bool) :=
  (d_layout_Joined c0 (T_api_End.mk a0.El a0.Out)).bind fun r1 =>
  some (r1.1, r1.2)
theorem d_walk_passage_1_ok (a0 : T_api_Step) (c0 : T_api_Layout) (r : (T_api_End × Bool)) (h : d_walk_passage_1 a0 c0 = some r) : PCall Go.Proofs.Tryd.prog GlS 100 [Enc.pv a0, .cptr (cellsOf c0)] (.tup [Enc.pv r.1, Enc.pv r.2]) := by
  unfold d_walk_passage_1 at h
  refine pcall_of_pwp Go.Proofs.Tryd.func100 (by rfl) rfl Go.Proofs.Tryd.ntmps100 (by rfl) rfl ?_
  refine pwp_seq ?_
  refine r_reg ?_
  refine e_end (by kernel_rfl) ?_
  refine q_next ?_
  refine pwp_seq ?_
  refine r_reg ?_
  refine p_run 6 (by kernel_rfl) ?_
  obtain ⟨r1, h1, h⟩ := o_bind h
  refine p_call (d_layout_Joined_ok _ _ r1 h1) (by kernel_rfl) (by kernel_rfl) ?_
  refine e_end (by kernel_rfl) ?_
  refine q_next ?_
  refine pwp_ret ?_
  cases h
  exact q_ret (by kernel_rfl) (by kernel_rfl) (by kernel_rfl)

/-! walk.Next -/
noncomputable def d_walk_Next (a0 : T_api_Layout) (a1 : T_api_Step) : Option (T_api_End × Bool) :=
  (d_walk_passage a0).bind fun r1 =>
  (d_walk_passage_1 a1 r1).bind fun r2 =>
  some (r2.1, r2.2)
theorem d_walk_Next_ok (a0 : T_api_Layout) (a1 : T_api_Step) (r : (T_api_End × Bool)) (h : d_walk_Next a0 a1 = some r) : PCall Go.Proofs.Tryd.prog GlS 60 [Enc.pv a0, Enc.pv a1] (.tup [Enc.pv r.1, Enc.pv r.2]) := by
  unfold d_walk_Next at h
  refine pcall_of_pwp Go.Proofs.Tryd.func60 (by rfl) rfl Go.Proofs.Tryd.ntmps60 (by rfl) rfl ?_
  refine pwp_seq ?_
  refine r_reg ?_
  refine e_end (by kernel_rfl) ?_
  refine q_next ?_
  refine pwp_seq ?_
  refine r_regd (by kernel_rfl) (by kernel_rfl) ?_
  refine p_run 1 (by kernel_rfl) ?_
  obtain ⟨r1, h1, h⟩ := o_bind h
  refine p_call (d_walk_passage_ok _ r1 h1) (by kernel_rfl) (by kernel_rfl) ?_
  refine p_run 1 (by kernel_rfl) ?_
  obtain ⟨r2, h2, h⟩ := o_bind h
  refine p_call (d_walk_passage_1_ok _ _ r2 h2) (by kernel_rfl) (by kernel_rfl) ?_
  refine e_end (by kernel_rfl) ?_
  refine q_next ?_
  refine pwp_ret ?_
  cases h
  exact q_ret (by kernel_rfl) (by kernel_rfl) (by kernel_rfl)

/-! overlap.steps -/
noncomputable def d_overlap_steps_0 (a0 : T_api_Layout) (a1 : T_api_Route) (r1 : (T_api_Signal × Bool)) : (Bool × T_api_End × (List T_api_Step)) → Option ((Bool × T_api_End × (List T_api_Step)) ⊕ ((List T_api_Step) ⊕ (List T_api_Step))) := fun (x28, x29, x30) =>
  ((bif x28 then (
    (d_walk_Length a0 x30).bind fun r45 =>
    some (decide (r45 < r1.1.Overlap))
  ) else some false) : Option Bool).bind fun b44 =>
  ((bif b44 then (
    some (decide (((x30.length : Nat) : Int) < 12))
  ) else some false) : Option Bool).bind fun b46 =>
  bif b46 then (
    (d_overlap_covers x30 x29.El).bind fun r47 =>
    ((bif r47 then some true else (
      (d_layout_Section a0 x29.El).bind fun r49 =>
      (d_overlap_obstructed r49 a1.Sections).bind fun r50 =>
      some r50
    )) : Option Bool).bind fun b48 =>
    bif b48 then (
      some (.inr (.inl x30))
    ) else (
      (d_walk_Branches a0 x29).bind fun r51 =>
      bif decide (((r51.length : Nat) : Int) = 0) then (
        some (.inr (.inl x30))
      ) else (
        (ixO r51 0).bind fun x52 =>
        (appO x30 [x52]).bind fun x53 =>
        (ixO r51 0).bind fun x54 =>
        (d_walk_Next a0 x54).bind fun r55 =>
        some (.inl (r55.2, r55.1, x53))
      )
    )
  ) else (
    some (.inr (.inl x30))
  )

noncomputable def d_overlap_steps (a0 : T_api_Layout) (a1 : T_api_Route) : Option (List T_api_Step) :=
  (d_overlap_exitSignal a0 a1).bind fun r1 =>
  bif (!r1.2) then (
    some ([] : (List T_api_Step))
  ) else (
    (d_layout_Joined a0 r1.1.At).bind fun r2 =>
    onInl (α := (List T_api_Step)) (β := (List T_api_Step)) (loopO (d_overlap_steps_0 a0 a1 r1) (r2.2, r2.1, ([] : (List T_api_Step)))) fun x43 =>
    some x43
  )
theorem d_overlap_steps_ok (a0 : T_api_Layout) (a1 : T_api_Route) (r : (List T_api_Step)) (h : d_overlap_steps a0 a1 = some r) : PCall Go.Proofs.Tryd.prog GlS 29 [Enc.pv a0, Enc.pv a1] (lstOf (.own 100007) r) := by
  unfold d_overlap_steps at h
  refine pcall_of_pwp Go.Proofs.Tryd.func29 (by rfl) rfl Go.Proofs.Tryd.ntmps29 (by rfl) rfl ?_
  refine pwp_seq ?_
  refine r_reg ?_
  refine e_end (by kernel_rfl) ?_
  refine q_next ?_
  refine pwp_seq ?_
  refine r_reg ?_
  refine p_run 2 (by kernel_rfl) ?_
  obtain ⟨r1, h1, h⟩ := o_bind h
  refine p_call (d_overlap_exitSignal_ok _ _ r1 h1) (by kernel_rfl) (by kernel_rfl) ?_
  refine e_end (by kernel_rfl) ?_
  refine q_next ?_
  refine pwp_seq ?_
  refine pwp_seq ?_
  refine r_reg ?_
  refine e_end (by kernel_rfl) ?_
  refine q_next ?_
  rcases o_cond h with ⟨hb, h⟩ | ⟨hb, h⟩
  · refine r_cond_t hb (by kernel_rfl) ?_
    refine pwp_seq ?_
    refine r_reg ?_
    refine e_end (by kernel_rfl) ?_
    refine q_next ?_
    refine g_nil 4 100007 3 24 (by kernel_rfl) (by kernel_rfl) ?_
    refine pwp_ret ?_
    refine q_seq_ret ?_
    cases h
    exact q_ret (by kernel_rfl) (by kernel_rfl) (by kernel_rfl)
  · refine r_cond_f hb (by kernel_rfl) ?_
    refine pwp_skip ?_
    refine q_next ?_
    refine pwp_seq ?_
    refine r_reg ?_
    refine e_end (by kernel_rfl) ?_
    refine q_next ?_
    refine pwp_seq ?_
    refine r_reg ?_
    refine p_run 3 (by kernel_rfl) ?_
    obtain ⟨r2, h2, h⟩ := o_bind h
    refine p_call (d_layout_Joined_ok _ _ r2 h2) (by kernel_rfl) (by kernel_rfl) ?_
    refine e_end (by kernel_rfl) ?_
    refine q_next ?_
    refine pwp_seq ?_
    refine pwp_block ?_
    refine g_nil 7 100007 3 24 (by kernel_rfl) (by kernel_rfl) ?_
    obtain ⟨o39, h39, h⟩ := o_inl h
    refine r_loop2 73 0 (fun (x28, x29, x30) => ⟨[(2, .ref 2 0), (3, .ref 3 0), (5, .ref 5 0), (6, .bool x28), (7, lstOf (.own 100007) (x30 : (List T_api_Step))), (8, .ref 8 0)], [(2, .cells (cellsOf a0)), (3, .cells (cellsOf a1)), (5, .cells (cellsOf r1.1)), (8, .cells (cellsOf x29))], [(100007, (((x30).map cellsOf).length, 3))], []⟩) (fun x43 => ⟨[(7, lstOf (.own 100007) (x43 : (List T_api_Step)))], [], [(100007, (((x43).map cellsOf).length, 3))], []⟩) h39 (by kernel_rfl) (fun _ => by kernel_rfl) ?_ ?_
    · rintro ⟨x28, x29, x30⟩ oh38 h38
      unfold d_overlap_steps_0 at h38
      refine pwp_seq ?_
      refine pwp_seq ?_
      refine r_regd (by kernel_rfl) (by kernel_rfl) ?_
      obtain ⟨b44, h40, h38⟩ := o_bind h38
      refine p_run 2 (by kernel_rfl) ?_
      refine e_seg 7 33 (.bool b44) ?_ ?_
      · rcases o_cond h40 with ⟨hb, h40⟩ | ⟨hb, h40⟩
        · refine p_settle 26 hb (by kernel_rfl) (by kernel_rfl) ?_
          refine p_run 2 (by kernel_rfl) ?_
          obtain ⟨r45, h41, h40⟩ := o_bind h40
          refine p_call (d_walk_Length_ok _ _ r45 h41) (by kernel_rfl) (by kernel_rfl) ?_
          cases h40
          exact f_end (by kernel_rfl) (by kernel_rfl)
        · refine p_settle 26 hb (by kernel_rfl) (by kernel_rfl) ?_
          cases h40
          exact f_end (by kernel_rfl) (by kernel_rfl)
      · obtain ⟨b46, h42, h38⟩ := o_bind h38
        refine p_run 1 (by kernel_rfl) ?_
        refine e_seg 4 38 (.bool b46) ?_ ?_
        · rcases o_cond h42 with ⟨hb, h42⟩ | ⟨hb, h42⟩
          · refine p_settle 34 hb (by kernel_rfl) (by kernel_rfl) ?_
            refine p_run 1 (by kernel_rfl) ?_
            refine p_len (L := (x30 : (List T_api_Step))) (by kernel_rfl) ?_
            cases h42
            exact f_end (by kernel_rfl) (by kernel_rfl)
          · refine p_settle 34 hb (by kernel_rfl) (by kernel_rfl) ?_
            cases h42
            exact f_end (by kernel_rfl) (by kernel_rfl)
        · refine e_nil (by kernel_rfl) ?_
          refine q_next ?_
          rcases o_cond h38 with ⟨hb, h38⟩ | ⟨hb, h38⟩
          · refine r_cond_t hb (by kernel_rfl) ?_
            refine pwp_skip ?_
            refine q_next ?_
            refine pwp_block ?_
            refine pwp_seq ?_
            refine pwp_seq ?_
            refine r_regd (by kernel_rfl) (by kernel_rfl) ?_
            refine p_run 3 (by kernel_rfl) ?_
            obtain ⟨r47, h43, h38⟩ := o_bind h38
            refine p_call (d_overlap_covers_ok _ _ r47 h43) (by kernel_rfl) (by kernel_rfl) ?_
            obtain ⟨b48, h44, h38⟩ := o_bind h38
            refine p_run 1 (by kernel_rfl) ?_
            refine e_seg 8 51 (.bool b48) ?_ ?_
            · rcases o_cond h44 with ⟨hb, h44⟩ | ⟨hb, h44⟩
              · refine p_settle 43 hb (by kernel_rfl) (by kernel_rfl) ?_
                cases h44
                exact f_end (by kernel_rfl) (by kernel_rfl)
              · refine p_settle 43 hb (by kernel_rfl) (by kernel_rfl) ?_
                refine p_run 3 (by kernel_rfl) ?_
                obtain ⟨r49, h45, h44⟩ := o_bind h44
                refine p_call (d_layout_Section_ok _ _ r49 h45) (by kernel_rfl) (by kernel_rfl) ?_
                refine p_run 2 (by kernel_rfl) ?_
                obtain ⟨r50, h46, h44⟩ := o_bind h44
                refine p_call (d_overlap_obstructed_ok _ _ r50 h46) (by kernel_rfl) (by kernel_rfl) ?_
                cases h44
                exact f_end (by kernel_rfl) (by kernel_rfl)
            · refine e_nil (by kernel_rfl) ?_
              refine q_next ?_
              rcases o_cond h38 with ⟨hb, h38⟩ | ⟨hb, h38⟩
              · refine r_cond_t hb (by kernel_rfl) ?_
                refine pwp_exit ?_
                refine q_seq_exit ?_
                refine q_block_miss rfl ?_
                cases h38
                exact q_lexit (by kernel_rfl) (by kernel_rfl)
              · refine r_cond_f hb (by kernel_rfl) ?_
                refine pwp_skip ?_
                refine q_next ?_
                refine pwp_seq ?_
                refine r_reg ?_
                refine p_run 2 (by kernel_rfl) ?_
                obtain ⟨r51, h47, h38⟩ := o_bind h38
                refine p_call (d_walk_Branches_ok _ _ r51 h47) (by kernel_rfl) (by kernel_rfl) ?_
                refine e_end (by kernel_rfl) ?_
                refine q_next ?_
                refine pwp_seq ?_
                refine pwp_seq ?_
                refine r_reg ?_
                refine p_run 1 (by kernel_rfl) ?_
                refine p_len (L := (r51 : (List T_api_Step))) (by kernel_rfl) ?_
                refine e_end (by kernel_rfl) ?_
                refine q_next ?_
                rcases o_cond h38 with ⟨hb, h38⟩ | ⟨hb, h38⟩
                · refine r_cond_t hb (by kernel_rfl) ?_
                  refine pwp_exit ?_
                  refine q_seq_exit ?_
                  refine q_block_miss rfl ?_
                  cases h38
                  exact q_lexit (by kernel_rfl) (by kernel_rfl)
                · refine r_cond_f hb (by kernel_rfl) ?_
                  refine pwp_skip ?_
                  refine q_next ?_
                  refine pwp_seq ?_
                  refine r_reg ?_
                  refine p_run 2 (by kernel_rfl) ?_
                  obtain ⟨x52, h48, h38⟩ := o_bind h38
                  refine p_ix h48 (by kernel_rfl) ?_
                  refine p_run 2 (by kernel_rfl) ?_
                  obtain ⟨x53, h49, h38⟩ := o_bind h38
                  refine p_app (tk := 100007) h49 (by kernel_rfl) (by kernel_rfl) ?_
                  refine e_end (by kernel_rfl) ?_
                  refine q_next ?_
                  refine r_regd (by kernel_rfl) (by kernel_rfl) ?_
                  refine p_run 2 (by kernel_rfl) ?_
                  obtain ⟨x54, h50, h38⟩ := o_bind h38
                  refine p_ix h50 (by kernel_rfl) ?_
                  refine p_run 1 (by kernel_rfl) ?_
                  obtain ⟨r55, h51, h38⟩ := o_bind h38
                  refine p_call (d_walk_Next_ok _ _ r55 h51) (by kernel_rfl) (by kernel_rfl) ?_
                  refine e_end (by kernel_rfl) ?_
                  refine q_block ?_
                  cases h38
                  exact q_lback (by kernel_rfl)
          · refine r_cond_f hb (by kernel_rfl) ?_
            refine pwp_exit ?_
            refine q_seq_exit ?_
            cases h38
            exact q_lexit (by kernel_rfl) (by kernel_rfl)
    · rintro x43 s' rfl hs
      have h := o_outl h
      refine q_block_hit ?_
      refine q_next (pwp_wkr hs ?_)
      refine pwp_seq ?_
      refine r_reg ?_
      refine e_end (by kernel_rfl) ?_
      refine q_next ?_
      refine pwp_ret ?_
      cases h
      exact q_ret (by kernel_rfl) (by kernel_rfl) (by kernel_rfl)
theorem d_overlap_steps_fz (a0 : T_api_Layout) (a1 : T_api_Route) (r : (List T_api_Step)) (h : d_overlap_steps a0 a1 = some r) : PCall Go.Proofs.Tryd.prog GlS 29 [Enc.pv a0, Enc.pv a1] (Enc.pv r) :=
  (d_overlap_steps_ok a0 a1 r h).freeze (by kernel_rfl) (by kernel_rfl) (by kernel_rfl)

/-! slices.Clone[[]api.Step,api.Step] -/
noncomputable def d_slices_Clone_api_Step (a0 : (List T_api_Step)) : Option (List T_api_Step) :=
  (appO ([] : (List T_api_Step)) a0).bind fun x1 =>
  some x1
theorem d_slices_Clone_api_Step_ok (a0 : (List T_api_Step)) (r : (List T_api_Step)) (h : d_slices_Clone_api_Step a0 = some r) : PCall Go.Proofs.Tryd.prog GlS 30 [Enc.pv a0] (lstOf (.own 7) r) := by
  unfold d_slices_Clone_api_Step at h
  refine pcall_of_pwp Go.Proofs.Tryd.func30 (by rfl) rfl Go.Proofs.Tryd.ntmps30 (by rfl) rfl ?_
  refine pwp_seq ?_
  refine r_reg ?_
  refine e_end (by kernel_rfl) ?_
  refine q_next ?_
  refine pwp_seq ?_
  refine pwp_seq ?_
  refine r_reg ?_
  refine e_end (by kernel_rfl) ?_
  refine q_next ?_
  refine pwp_condU (e := ((a0 : (List T_api_Step)).map cellsOf).isEmpty) (by kernel_rfl) (fun hub => ?_) ?_
  · have hN := clone_nil (ub_nil hub) h
    refine pwp_seq ?_
    refine r_reg ?_
    refine e_end (by kernel_rfl) ?_
    refine q_next ?_
    refine g_nil 2 7 3 24 (by kernel_rfl) (by kernel_rfl) ?_
    refine pwp_ret ?_
    refine q_seq_ret ?_
    cases hN
    exact q_ret (by kernel_rfl) (by kernel_rfl) (by kernel_rfl)
  · refine pwp_skip ?_
    refine q_next ?_
    refine pwp_seq ?_
    refine r_reg ?_
    refine p_run 2 (by kernel_rfl) ?_
    obtain ⟨x1, h1, h⟩ := o_bind h
    refine p_appn (tk := 7) h1 (by kernel_rfl) ?_
    refine e_end (by kernel_rfl) ?_
    refine q_next ?_
    refine pwp_ret ?_
    cases h
    exact q_ret (by kernel_rfl) (by kernel_rfl) (by kernel_rfl)
theorem d_slices_Clone_api_Step_fz (a0 : (List T_api_Step)) (r : (List T_api_Step)) (h : d_slices_Clone_api_Step a0 = some r) : PCall Go.Proofs.Tryd.prog GlS 30 [Enc.pv a0] (Enc.pv r) :=
  (d_slices_Clone_api_Step_ok a0 r h).freeze (by kernel_rfl) (by kernel_rfl) (by kernel_rfl)

/-! slices.Clone[[]api.Setting,api.Setting] -/
noncomputable def d_slices_Clone_api_Setting (a0 : (List T_api_Setting)) : Option (List T_api_Setting) :=
  (appO ([] : (List T_api_Setting)) a0).bind fun x1 =>
  some x1
theorem d_slices_Clone_api_Setting_ok (a0 : (List T_api_Setting)) (r : (List T_api_Setting)) (h : d_slices_Clone_api_Setting a0 = some r) : PCall Go.Proofs.Tryd.prog GlS 31 [Enc.pv a0] (lstOf (.own 7) r) := by
  unfold d_slices_Clone_api_Setting at h
  refine pcall_of_pwp Go.Proofs.Tryd.func31 (by rfl) rfl Go.Proofs.Tryd.ntmps31 (by rfl) rfl ?_
  refine pwp_seq ?_
  refine r_reg ?_
  refine e_end (by kernel_rfl) ?_
  refine q_next ?_
  refine pwp_seq ?_
  refine pwp_seq ?_
  refine r_reg ?_
  refine e_end (by kernel_rfl) ?_
  refine q_next ?_
  refine pwp_condU (e := ((a0 : (List T_api_Setting)).map cellsOf).isEmpty) (by kernel_rfl) (fun hub => ?_) ?_
  · have hN := clone_nil (ub_nil hub) h
    refine pwp_seq ?_
    refine r_reg ?_
    refine e_end (by kernel_rfl) ?_
    refine q_next ?_
    refine g_nil 2 7 2 16 (by kernel_rfl) (by kernel_rfl) ?_
    refine pwp_ret ?_
    refine q_seq_ret ?_
    cases hN
    exact q_ret (by kernel_rfl) (by kernel_rfl) (by kernel_rfl)
  · refine pwp_skip ?_
    refine q_next ?_
    refine pwp_seq ?_
    refine r_reg ?_
    refine p_run 2 (by kernel_rfl) ?_
    obtain ⟨x1, h1, h⟩ := o_bind h
    refine p_appn (tk := 7) h1 (by kernel_rfl) ?_
    refine e_end (by kernel_rfl) ?_
    refine q_next ?_
    refine pwp_ret ?_
    cases h
    exact q_ret (by kernel_rfl) (by kernel_rfl) (by kernel_rfl)
theorem d_slices_Clone_api_Setting_fz (a0 : (List T_api_Setting)) (r : (List T_api_Setting)) (h : d_slices_Clone_api_Setting a0 = some r) : PCall Go.Proofs.Tryd.prog GlS 31 [Enc.pv a0] (Enc.pv r) :=
  (d_slices_Clone_api_Setting_ok a0 r h).freeze (by kernel_rfl) (by kernel_rfl) (by kernel_rfl)

/-! slices.Clone[[]int,int] -/
noncomputable def d_slices_Clone_int (a0 : (List Int)) : Option (List Int) :=
  (appO ([] : (List Int)) a0).bind fun x1 =>
  some x1
theorem d_slices_Clone_int_ok (a0 : (List Int)) (r : (List Int)) (h : d_slices_Clone_int a0 = some r) : PCall Go.Proofs.Tryd.prog GlS 32 [Enc.pv a0] (lstOf (.own 7) r) := by
  unfold d_slices_Clone_int at h
  refine pcall_of_pwp Go.Proofs.Tryd.func32 (by rfl) rfl Go.Proofs.Tryd.ntmps32 (by rfl) rfl ?_
  refine pwp_seq ?_
  refine r_reg ?_
  refine e_end (by kernel_rfl) ?_
  refine q_next ?_
  refine pwp_seq ?_
  refine pwp_seq ?_
  refine r_reg ?_
  refine e_end (by kernel_rfl) ?_
  refine q_next ?_
  refine pwp_condU (e := ((a0 : (List Int)).map cellsOf).isEmpty) (by kernel_rfl) (fun hub => ?_) ?_
  · have hN := clone_nil (ub_nil hub) h
    refine pwp_seq ?_
    refine r_reg ?_
    refine e_end (by kernel_rfl) ?_
    refine q_next ?_
    refine g_nil 2 7 1 8 (by kernel_rfl) (by kernel_rfl) ?_
    refine pwp_ret ?_
    refine q_seq_ret ?_
    cases hN
    exact q_ret (by kernel_rfl) (by kernel_rfl) (by kernel_rfl)
  · refine pwp_skip ?_
    refine q_next ?_
    refine pwp_seq ?_
    refine r_reg ?_
    refine p_run 2 (by kernel_rfl) ?_
    obtain ⟨x1, h1, h⟩ := o_bind h
    refine p_appn (tk := 7) h1 (by kernel_rfl) ?_
    refine e_end (by kernel_rfl) ?_
    refine q_next ?_
    refine pwp_ret ?_
    cases h
    exact q_ret (by kernel_rfl) (by kernel_rfl) (by kernel_rfl)
theorem d_slices_Clone_int_fz (a0 : (List Int)) (r : (List Int)) (h : d_slices_Clone_int a0 = some r) : PCall Go.Proofs.Tryd.prog GlS 32 [Enc.pv a0] (Enc.pv r) :=
  (d_slices_Clone_int_ok a0 r h).freeze (by kernel_rfl) (by kernel_rfl) (by kernel_rfl)

/-! slices.Clone[[]api.End,api.End] -/
noncomputable def d_slices_Clone_api_End (a0 : (List T_api_End)) : Option (List T_api_End) :=
  (appO ([] : (List T_api_End)) a0).bind fun x1 =>
  some x1
theorem d_slices_Clone_api_End_ok (a0 : (List T_api_End)) (r : (List T_api_End)) (h : d_slices_Clone_api_End a0 = some r) : PCall Go.Proofs.Tryd.prog GlS 33 [Enc.pv a0] (lstOf (.own 7) r) := by
  unfold d_slices_Clone_api_End at h
  refine pcall_of_pwp Go.Proofs.Tryd.func33 (by rfl) rfl Go.Proofs.Tryd.ntmps33 (by rfl) rfl ?_
  refine pwp_seq ?_
  refine r_reg ?_
  refine e_end (by kernel_rfl) ?_
  refine q_next ?_
  refine pwp_seq ?_
  refine pwp_seq ?_
  refine r_reg ?_
  refine e_end (by kernel_rfl) ?_
  refine q_next ?_
  refine pwp_condU (e := ((a0 : (List T_api_End)).map cellsOf).isEmpty) (by kernel_rfl) (fun hub => ?_) ?_
  · have hN := clone_nil (ub_nil hub) h
    refine pwp_seq ?_
    refine r_reg ?_
    refine e_end (by kernel_rfl) ?_
    refine q_next ?_
    refine g_nil 2 7 2 16 (by kernel_rfl) (by kernel_rfl) ?_
    refine pwp_ret ?_
    refine q_seq_ret ?_
    cases hN
    exact q_ret (by kernel_rfl) (by kernel_rfl) (by kernel_rfl)
  · refine pwp_skip ?_
    refine q_next ?_
    refine pwp_seq ?_
    refine r_reg ?_
    refine p_run 2 (by kernel_rfl) ?_
    obtain ⟨x1, h1, h⟩ := o_bind h
    refine p_appn (tk := 7) h1 (by kernel_rfl) ?_
    refine e_end (by kernel_rfl) ?_
    refine q_next ?_
    refine pwp_ret ?_
    cases h
    exact q_ret (by kernel_rfl) (by kernel_rfl) (by kernel_rfl)
theorem d_slices_Clone_api_End_fz (a0 : (List T_api_End)) (r : (List T_api_End)) (h : d_slices_Clone_api_End a0 = some r) : PCall Go.Proofs.Tryd.prog GlS 33 [Enc.pv a0] (Enc.pv r) :=
  (d_slices_Clone_api_End_ok a0 r h).freeze (by kernel_rfl) (by kernel_rfl) (by kernel_rfl)

/-! rail.Need -/
noncomputable def d_rail_Need_0 (a0 : Int) (a1 : Int) (a2 : Int) : Int → Option (Int ⊕ (Unit ⊕ (Int × Bool))) := fun x2 =>
  bif decide (x2 < 10) then (
    (ixO tab_rail_passages x2).bind fun x4 =>
    bif (((decide (x4.kind_ = a0)) && (decide (x4.in_ = a1))) && (decide (x4.out_ = a2))) then (
      some (.inr (.inr (x4.need_, true)))
    ) else (
      some (.inl (w64 (x2 + 1)))
    )
  ) else (
    some (.inr (.inl ()))
  )

noncomputable def d_rail_Need (a0 : Int) (a1 : Int) (a2 : Int) : Option (Int × Bool) :=
  onInl (α := Unit) (β := (Int × Bool)) (loopO (d_rail_Need_0 a0 a1 a2) 0) fun _ =>
  some (0, false)
theorem d_rail_Need_ok (a0 : Int) (a1 : Int) (a2 : Int) (r : (Int × Bool)) (h : d_rail_Need a0 a1 a2 = some r) : PCall Go.Proofs.Tryd.prog GlS 90 [Enc.pv a0, Enc.pv a1, Enc.pv a2] (.tup [Enc.pv r.1, Enc.pv r.2]) := by
  unfold d_rail_Need at h
  refine pcall_of_pwp Go.Proofs.Tryd.func90 (by rfl) rfl Go.Proofs.Tryd.ntmps90 (by rfl) rfl ?_
  refine pwp_seq ?_
  refine r_reg ?_
  refine e_end (by kernel_rfl) ?_
  refine q_next ?_
  refine pwp_seq ?_
  refine pwp_seq ?_
  refine r_reg ?_
  refine e_end (by kernel_rfl) ?_
  refine q_next ?_
  refine pwp_block ?_
  obtain ⟨o6, h6, h⟩ := o_inl h
  refine r_loop2 33 0 (fun x2 => ⟨[(0, .int .i64 a0), (1, .int .i64 a1), (2, .int .i64 a2), (10, .agg (tab_rail_passages.flatMap cellsOf)), (11, .int .i64 x2)], [], [], []⟩) (fun (_ : Unit) => ⟨[], [], [], []⟩) h6 (by kernel_rfl) (fun _ => by kernel_rfl) ?_ ?_
  · rintro x2 oh5 h5
    unfold d_rail_Need_0 at h5
    refine pwp_seq ?_
    refine r_reg ?_
    refine e_end (by kernel_rfl) ?_
    refine q_next ?_
    refine pwp_seq ?_
    rcases o_cond h5 with ⟨hb, h5⟩ | ⟨hb, h5⟩
    · refine r_cond_t hb (by kernel_rfl) ?_
      refine pwp_skip ?_
      refine q_next ?_
      refine pwp_seq ?_
      refine pwp_block ?_
      refine pwp_seq ?_
      refine r_reg ?_
      obtain ⟨x4, h7, h5⟩ := o_bind h5
      refine p_tix (tab := tab_rail_passages) h7 true 10 4 (by kernel_rfl) (by kernel_rfl) (by kernel_rfl) (by kernel_rfl) ?_
      refine e_end (by kernel_rfl) ?_
      refine q_next ?_
      refine pwp_seq ?_
      refine r_reg ?_
      refine p_run 5 (by kernel_rfl) ?_
      refine e_segb 5 23 ((decide (x4.kind_ = a0)) && (decide (x4.in_ = a1))) (fun x hx => ?_) ?_
      · rcases b_and hx with ⟨hb, hx⟩ | ⟨hb, hx⟩
        · refine p_settle 18 hb (by kernel_rfl) (by kernel_rfl) ?_
          subst hx
          exact f_end (by kernel_rfl) (by kernel_rfl)
        · refine p_settle 18 hb (by kernel_rfl) (by kernel_rfl) ?_
          subst hx
          exact f_end (by kernel_rfl) (by kernel_rfl)
      · refine p_run 1 (by kernel_rfl) ?_
        refine e_segb 5 29 (((decide (x4.kind_ = a0)) && (decide (x4.in_ = a1))) && (decide (x4.out_ = a2))) (fun x hx => ?_) ?_
        · rcases b_and hx with ⟨hb, hx⟩ | ⟨hb, hx⟩
          · refine p_settle 24 hb (by kernel_rfl) (by kernel_rfl) ?_
            subst hx
            exact f_end (by kernel_rfl) (by kernel_rfl)
          · refine p_settle 24 hb (by kernel_rfl) (by kernel_rfl) ?_
            subst hx
            exact f_end (by kernel_rfl) (by kernel_rfl)
        · refine e_nil (by kernel_rfl) ?_
          refine q_next ?_
          rcases o_cond h5 with ⟨hb, h5⟩ | ⟨hb, h5⟩
          · refine r_cond_t hb (by kernel_rfl) ?_
            refine pwp_seq ?_
            refine r_reg ?_
            refine e_end (by kernel_rfl) ?_
            refine q_next ?_
            refine pwp_ret ?_
            refine q_block_ret ?_
            refine q_seq_ret ?_
            cases h5
            refine q_lout_ret fun he => ?_
            subst he
            have h8 := o_outr h
            refine q_block_ret ?_
            refine q_seq_ret ?_
            cases h8
            exact q_ret (by kernel_rfl) (by kernel_rfl) (by kernel_rfl)
          · refine r_cond_f hb (by kernel_rfl) ?_
            refine pwp_skip ?_
            refine q_block ?_
            refine q_next ?_
            refine r_reg ?_
            refine e_end (by kernel_rfl) ?_
            cases h5
            exact q_lback (by kernel_rfl)
    · refine r_cond_f hb (by kernel_rfl) ?_
      refine pwp_exit ?_
      refine q_seq_exit ?_
      cases h5
      exact q_lexit (by kernel_rfl) (by kernel_rfl)
  · rintro _ s' rfl hs
    have h := o_outl h
    refine q_block_hit ?_
    refine q_next (pwp_wkr hs ?_)
    refine pwp_seq ?_
    refine r_reg ?_
    refine e_end (by kernel_rfl) ?_
    refine q_next ?_
    refine pwp_ret ?_
    cases h
    exact q_ret (by kernel_rfl) (by kernel_rfl) (by kernel_rfl)

/-! walk.possible -/
noncomputable def d_walk_possible (a0 : T_api_Layout) (a1 : T_api_Step) : Option (Int × Bool) :=
  (d_walk_exists a0 a1.El).bind fun r1 =>
  bif (!r1) then (
    some (0, false)
  ) else (
    (ixO a0.Elements a1.El).bind fun x2 =>
    (d_rail_Need x2.Kind a1.In a1.Out).bind fun r3 =>
    some (r3.1, r3.2)
  )
theorem d_walk_possible_ok (a0 : T_api_Layout) (a1 : T_api_Step) (r : (Int × Bool)) (h : d_walk_possible a0 a1 = some r) : PCall Go.Proofs.Tryd.prog GlS 61 [Enc.pv a0, Enc.pv a1] (.tup [Enc.pv r.1, Enc.pv r.2]) := by
  unfold d_walk_possible at h
  refine pcall_of_pwp Go.Proofs.Tryd.func61 (by rfl) rfl Go.Proofs.Tryd.ntmps61 (by rfl) rfl ?_
  refine pwp_seq ?_
  refine r_reg ?_
  refine e_end (by kernel_rfl) ?_
  refine q_next ?_
  refine pwp_seq ?_
  refine pwp_seq ?_
  refine r_reg ?_
  refine p_run 3 (by kernel_rfl) ?_
  obtain ⟨r1, h1, h⟩ := o_bind h
  refine p_call (d_walk_exists_ok _ _ r1 h1) (by kernel_rfl) (by kernel_rfl) ?_
  refine e_end (by kernel_rfl) ?_
  refine q_next ?_
  rcases o_cond h with ⟨hb, h⟩ | ⟨hb, h⟩
  · refine r_cond_t hb (by kernel_rfl) ?_
    refine pwp_seq ?_
    refine r_reg ?_
    refine e_end (by kernel_rfl) ?_
    refine q_next ?_
    refine pwp_ret ?_
    refine q_seq_ret ?_
    cases h
    exact q_ret (by kernel_rfl) (by kernel_rfl) (by kernel_rfl)
  · refine r_cond_f hb (by kernel_rfl) ?_
    refine pwp_skip ?_
    refine q_next ?_
    refine pwp_seq ?_
    refine r_regd (by kernel_rfl) (by kernel_rfl) ?_
    refine p_run 4 (by kernel_rfl) ?_
    obtain ⟨x2, h2, h⟩ := o_bind h
    refine p_ix h2 (by kernel_rfl) ?_
    refine p_run 6 (by kernel_rfl) ?_
    obtain ⟨r3, h3, h⟩ := o_bind h
    refine p_call (d_rail_Need_ok _ _ _ r3 h3) (by kernel_rfl) (by kernel_rfl) ?_
    refine e_end (by kernel_rfl) ?_
    refine q_next ?_
    refine pwp_ret ?_
    cases h
    exact q_ret (by kernel_rfl) (by kernel_rfl) (by kernel_rfl)

/-! cmp.isNaN[int] -/
noncomputable def d_cmp_isNaN_int (a0 : Int) : Option Bool :=
  some (!(decide (a0 = a0)))
theorem d_cmp_isNaN_int_ok (a0 : Int) (r : Bool) (h : d_cmp_isNaN_int a0 = some r) : PCall Go.Proofs.Tryd.prog GlS 93 [Enc.pv a0] (Enc.pv r) := by
  unfold d_cmp_isNaN_int at h
  refine pcall_of_pwp Go.Proofs.Tryd.func93 (by rfl) rfl Go.Proofs.Tryd.ntmps93 (by rfl) rfl ?_
  refine pwp_seq ?_
  refine r_reg ?_
  refine e_end (by kernel_rfl) ?_
  refine q_next ?_
  refine pwp_seq ?_
  refine r_reg ?_
  refine e_end (by kernel_rfl) ?_
  refine q_next ?_
  refine pwp_ret ?_
  cases h
  exact q_ret (by kernel_rfl) (by kernel_rfl) (by kernel_rfl)

/-! cmp.Compare[int] -/
noncomputable def d_cmp_Compare_int (a0 : Int) (a1 : Int) : Option Int :=
  (d_cmp_isNaN_int a0).bind fun r1 =>
  (d_cmp_isNaN_int a1).bind fun r2 =>
  bif r1 then (
    bif r2 then (
      some 0
    ) else (
      some (-1)
    )
  ) else (
    bif r2 then (
      some 1
    ) else (
      bif decide (a0 < a1) then (
        some (-1)
      ) else (
        bif decide (a1 < a0) then (
          some 1
        ) else (
          some 0
        )
      )
    )
  )
theorem d_cmp_Compare_int_ok (a0 : Int) (a1 : Int) (r : Int) (h : d_cmp_Compare_int a0 a1 = some r) : PCall Go.Proofs.Tryd.prog GlS 65 [Enc.pv a0, Enc.pv a1] (Enc.pv r) := by
  unfold d_cmp_Compare_int at h
  refine pcall_of_pwp Go.Proofs.Tryd.func65 (by rfl) rfl Go.Proofs.Tryd.ntmps65 (by rfl) rfl ?_
  refine pwp_seq ?_
  refine r_reg ?_
  refine e_end (by kernel_rfl) ?_
  refine q_next ?_
  refine pwp_seq ?_
  refine r_reg ?_
  refine p_run 1 (by kernel_rfl) ?_
  obtain ⟨r1, h1, h⟩ := o_bind h
  refine p_call (d_cmp_isNaN_int_ok _ r1 h1) (by kernel_rfl) (by kernel_rfl) ?_
  refine e_end (by kernel_rfl) ?_
  refine q_next ?_
  refine pwp_seq ?_
  refine r_reg ?_
  refine p_run 1 (by kernel_rfl) ?_
  obtain ⟨r2, h2, h⟩ := o_bind h
  refine p_call (d_cmp_isNaN_int_ok _ r2 h2) (by kernel_rfl) (by kernel_rfl) ?_
  refine e_end (by kernel_rfl) ?_
  refine q_next ?_
  refine pwp_seq ?_
  refine pwp_seq ?_
  refine r_reg ?_
  refine e_end (by kernel_rfl) ?_
  refine q_next ?_
  rcases o_cond h with ⟨hb, h⟩ | ⟨hb, h⟩
  · refine r_cond_t hb (by kernel_rfl) ?_
    refine pwp_seq ?_
    refine pwp_seq ?_
    refine r_reg ?_
    refine e_end (by kernel_rfl) ?_
    refine q_next ?_
    rcases o_cond h with ⟨hb, h⟩ | ⟨hb, h⟩
    · refine r_cond_t hb (by kernel_rfl) ?_
      refine pwp_seq ?_
      refine r_reg ?_
      refine e_end (by kernel_rfl) ?_
      refine q_next ?_
      refine pwp_ret ?_
      refine q_seq_ret ?_
      refine q_seq_ret ?_
      cases h
      exact q_ret (by kernel_rfl) (by kernel_rfl) (by kernel_rfl)
    · refine r_cond_f hb (by kernel_rfl) ?_
      refine pwp_skip ?_
      refine q_next ?_
      refine pwp_seq ?_
      refine r_reg ?_
      refine e_end (by kernel_rfl) ?_
      refine q_next ?_
      refine pwp_ret ?_
      refine q_seq_ret ?_
      cases h
      exact q_ret (by kernel_rfl) (by kernel_rfl) (by kernel_rfl)
  · refine r_cond_f hb (by kernel_rfl) ?_
    refine pwp_skip ?_
    refine q_next ?_
    refine pwp_seq ?_
    refine pwp_seq ?_
    refine r_reg ?_
    refine e_end (by kernel_rfl) ?_
    refine q_next ?_
    rcases o_cond h with ⟨hb, h⟩ | ⟨hb, h⟩
    · refine r_cond_t hb (by kernel_rfl) ?_
      refine pwp_seq ?_
      refine r_reg ?_
      refine e_end (by kernel_rfl) ?_
      refine q_next ?_
      refine pwp_ret ?_
      refine q_seq_ret ?_
      cases h
      exact q_ret (by kernel_rfl) (by kernel_rfl) (by kernel_rfl)
    · refine r_cond_f hb (by kernel_rfl) ?_
      refine pwp_skip ?_
      refine q_next ?_
      refine pwp_seq ?_
      refine pwp_seq ?_
      refine r_reg ?_
      refine e_end (by kernel_rfl) ?_
      refine q_next ?_
      rcases o_cond h with ⟨hb, h⟩ | ⟨hb, h⟩
      · refine r_cond_t hb (by kernel_rfl) ?_
        refine pwp_seq ?_
        refine r_reg ?_
        refine e_end (by kernel_rfl) ?_
        refine q_next ?_
        refine pwp_ret ?_
        refine q_seq_ret ?_
        cases h
        exact q_ret (by kernel_rfl) (by kernel_rfl) (by kernel_rfl)
      · refine r_cond_f hb (by kernel_rfl) ?_
        refine pwp_skip ?_
        refine q_next ?_
        refine pwp_seq ?_
        refine pwp_seq ?_
        refine r_reg ?_
        refine e_end (by kernel_rfl) ?_
        refine q_next ?_
        rcases o_cond h with ⟨hb, h⟩ | ⟨hb, h⟩
        · refine r_cond_t hb (by kernel_rfl) ?_
          refine pwp_seq ?_
          refine r_reg ?_
          refine e_end (by kernel_rfl) ?_
          refine q_next ?_
          refine pwp_ret ?_
          refine q_seq_ret ?_
          cases h
          exact q_ret (by kernel_rfl) (by kernel_rfl) (by kernel_rfl)
        · refine r_cond_f hb (by kernel_rfl) ?_
          refine pwp_skip ?_
          refine q_next ?_
          refine pwp_seq ?_
          refine r_reg ?_
          refine e_end (by kernel_rfl) ?_
          refine q_next ?_
          refine pwp_ret ?_
          cases h
          exact q_ret (by kernel_rfl) (by kernel_rfl) (by kernel_rfl)

theorem d_cmp_Compare_int_eq (a b : Int) : d_cmp_Compare_int a b = some (if a < b then -1 else if b < a then 1 else 0) := by
  unfold d_cmp_Compare_int d_cmp_isNaN_int
  by_cases h1 : a < b
  · simp [h1]
  · by_cases h2 : b < a <;> simp [h1, h2]

/-! cmp.Or[int] -/
noncomputable def d_cmp_Or_int_0 (a0 : (List Int)) : Int → Option (Int ⊕ (Unit ⊕ Int)) := fun x2 =>
  bif decide (x2 < ((a0.length : Nat) : Int)) then (
    (ixO a0 x2).bind fun x4 =>
    bif (!(decide (x4 = 0))) then (
      some (.inr (.inr x4))
    ) else (
      some (.inl (w64 (x2 + 1)))
    )
  ) else (
    some (.inr (.inl ()))
  )

noncomputable def d_cmp_Or_int (a0 : (List Int)) : Option Int :=
  onInl (α := Unit) (β := Int) (loopO (d_cmp_Or_int_0 a0) 0) fun _ =>
  some 0
theorem d_cmp_Or_int_ok (a0 : (List Int)) (r : Int) (h : d_cmp_Or_int a0 = some r) : PCall Go.Proofs.Tryd.prog GlS 64 [Enc.pv a0] (Enc.pv r) := by
  unfold d_cmp_Or_int at h
  refine pcall_of_pwp Go.Proofs.Tryd.func64 (by rfl) rfl Go.Proofs.Tryd.ntmps64 (by rfl) rfl ?_
  refine pwp_seq ?_
  refine r_reg ?_
  refine e_end (by kernel_rfl) ?_
  refine q_next ?_
  refine pwp_seq ?_
  refine r_reg ?_
  refine e_end (by kernel_rfl) ?_
  refine q_next ?_
  refine pwp_seq ?_
  refine pwp_seq ?_
  refine r_reg ?_
  refine p_run 1 (by kernel_rfl) ?_
  refine p_len (L := (a0 : (List Int))) (by kernel_rfl) ?_
  refine e_end (by kernel_rfl) ?_
  refine q_next ?_
  refine pwp_block ?_
  obtain ⟨o6, h6, h⟩ := o_inl h
  refine r_loop2 18 0 (fun x2 => ⟨[(3, .int .i64 0), (6, lstOf .frozen (a0 : (List Int))), (7, .int .i64 ((a0.length : Nat) : Int)), (8, .int .i64 x2)], [], [], []⟩) (fun (_ : Unit) => ⟨[(3, .int .i64 0)], [], [], []⟩) h6 (by kernel_rfl) (fun _ => by kernel_rfl) ?_ ?_
  · rintro x2 oh5 h5
    unfold d_cmp_Or_int_0 at h5
    refine pwp_seq ?_
    refine r_reg ?_
    refine e_end (by kernel_rfl) ?_
    refine q_next ?_
    refine pwp_seq ?_
    rcases o_cond h5 with ⟨hb, h5⟩ | ⟨hb, h5⟩
    · refine r_cond_t hb (by kernel_rfl) ?_
      refine pwp_skip ?_
      refine q_next ?_
      refine pwp_seq ?_
      refine pwp_block ?_
      refine pwp_seq ?_
      refine r_reg ?_
      obtain ⟨x4, h7, h5⟩ := o_bind h5
      refine p_ix h7 (by kernel_rfl) ?_
      refine e_end (by kernel_rfl) ?_
      refine q_next ?_
      refine pwp_seq ?_
      refine r_reg ?_
      refine e_end (by kernel_rfl) ?_
      refine q_next ?_
      rcases o_cond h5 with ⟨hb, h5⟩ | ⟨hb, h5⟩
      · refine r_cond_t hb (by kernel_rfl) ?_
        refine pwp_seq ?_
        refine r_reg ?_
        refine e_end (by kernel_rfl) ?_
        refine q_next ?_
        refine pwp_ret ?_
        refine q_block_ret ?_
        refine q_seq_ret ?_
        cases h5
        refine q_lout_ret fun he => ?_
        subst he
        have h8 := o_outr h
        refine q_block_ret ?_
        refine q_seq_ret ?_
        cases h8
        exact q_ret (by kernel_rfl) (by kernel_rfl) (by kernel_rfl)
      · refine r_cond_f hb (by kernel_rfl) ?_
        refine pwp_skip ?_
        refine q_block ?_
        refine q_next ?_
        refine r_reg ?_
        refine e_end (by kernel_rfl) ?_
        cases h5
        exact q_lback (by kernel_rfl)
    · refine r_cond_f hb (by kernel_rfl) ?_
      refine pwp_exit ?_
      refine q_seq_exit ?_
      cases h5
      exact q_lexit (by kernel_rfl) (by kernel_rfl)
  · rintro _ s' rfl hs
    have h := o_outl h
    refine q_block_hit ?_
    refine q_next (pwp_wkr hs ?_)
    refine pwp_seq ?_
    refine r_reg ?_
    refine e_end (by kernel_rfl) ?_
    refine q_next ?_
    refine pwp_ret ?_
    cases h
    exact q_ret (by kernel_rfl) (by kernel_rfl) (by kernel_rfl)

theorem d_cmp_Or_int_two (a b : Int) : d_cmp_Or_int [a, b] = some (if a = 0 then b else a) := by
  unfold d_cmp_Or_int
  by_cases h1 : a = 0
  · subst h1
    have e0 : d_cmp_Or_int_0 [0, b] 0 = some (.inl 1) := by simp [d_cmp_Or_int_0, ixO, w64, IntKind.wrap, IntKind.bits, IntKind.signed]
    rw [loop_more e0]
    by_cases h2 : b = 0
    · have e1 : d_cmp_Or_int_0 [0, b] 1 = some (.inl 2) := by simp [d_cmp_Or_int_0, ixO, w64, IntKind.wrap, IntKind.bits, IntKind.signed, h2]
      have e2 : d_cmp_Or_int_0 [0, b] 2 = some (.inr (.inl ())) := by simp [d_cmp_Or_int_0]
      rw [loop_more e1, loop_done e2]
      simp [onInl, onOut, h2]
    · have e1 : d_cmp_Or_int_0 [0, b] 1 = some (.inr (.inr b)) := by simp [d_cmp_Or_int_0, ixO, h2]
      rw [loop_done e1]
      simp [onInl, onOut]
  · have e0 : d_cmp_Or_int_0 [a, b] 0 = some (.inr (.inr a)) := by simp [d_cmp_Or_int_0, ixO, h1]
    rw [loop_done e0]
    simp [onInl, onOut, h1]

/-! walk.Settings$1 -/
noncomputable def d_walk_Settings_1 (a0 : T_api_Setting) (a1 : T_api_Setting) : Option Int :=
  (d_cmp_Compare_int a0.El a1.El).bind fun r1 =>
  (d_cmp_Compare_int a0.Pos a1.Pos).bind fun r2 =>
  (d_cmp_Or_int [r1, r2]).bind fun r3 =>
  some r3
theorem d_walk_Settings_1_ok (a0 : T_api_Setting) (a1 : T_api_Setting) (r : Int) (h : d_walk_Settings_1 a0 a1 = some r) : PCall Go.Proofs.Tryd.prog GlS 63 [Enc.pv a0, Enc.pv a1] (Enc.pv r) := by
  unfold d_walk_Settings_1 at h
  refine pcall_of_pwp Go.Proofs.Tryd.func63 (by rfl) rfl Go.Proofs.Tryd.ntmps63 (by rfl) rfl ?_
  refine pwp_seq ?_
  refine r_reg ?_
  refine e_end (by kernel_rfl) ?_
  refine q_next ?_
  refine pwp_seq ?_
  refine r_regd (by kernel_rfl) (by kernel_rfl) ?_
  refine p_run 4 (by kernel_rfl) ?_
  obtain ⟨r1, h1, h⟩ := o_bind h
  refine p_call (d_cmp_Compare_int_ok _ _ r1 h1) (by kernel_rfl) (by kernel_rfl) ?_
  refine p_run 4 (by kernel_rfl) ?_
  obtain ⟨r2, h2, h⟩ := o_bind h
  refine p_call (d_cmp_Compare_int_ok _ _ r2 h2) (by kernel_rfl) (by kernel_rfl) ?_
  refine p_run 1 (by kernel_rfl) ?_
  obtain ⟨r3, h3, h⟩ := o_bind h
  refine p_call (d_cmp_Or_int_ok _ r3 h3) (by kernel_rfl) (by kernel_rfl) ?_
  refine e_end (by kernel_rfl) ?_
  refine q_next ?_
  refine pwp_ret ?_
  cases h
  exact q_ret (by kernel_rfl) (by kernel_rfl) (by kernel_rfl)

def cf_d_walk_Settings_1 (x y : T_api_Setting) : Int := if x.El < y.El then -1 else if y.El < x.El then 1 else if x.Pos < y.Pos then -1 else if y.Pos < x.Pos then 1 else 0
theorem lt_d_walk_Settings_1 (x y : T_api_Setting) : Go.Proofs.ltOf cf_d_walk_Settings_1 x y = decide (x.El < y.El ∨ (x.El = y.El ∧ x.Pos < y.Pos)) := by
  unfold Go.Proofs.ltOf cf_d_walk_Settings_1
  by_cases h1 : x.El < y.El
  · simp [h1]
  · by_cases h2 : y.El < x.El
    · have : x.El ≠ y.El := by omega
      simp [h1, h2, this]
    · have e : x.El = y.El := by omega
      by_cases h3 : x.Pos < y.Pos
      · simp [e, h3]
      · by_cases h4 : y.Pos < x.Pos <;> simp [e, h3, h4]
theorem swo_d_walk_Settings_1 : Go.Sort.SWO (Go.Proofs.ltOf cf_d_walk_Settings_1) where
  irrefl x := by rw [lt_d_walk_Settings_1]; simp
  trans x y z h1 h2 := by rw [lt_d_walk_Settings_1] at *; simp only [decide_eq_true_eq] at *; omega
  ntrans x y z h1 h2 := by rw [lt_d_walk_Settings_1] at *; simp only [decide_eq_false_iff_not] at *; omega
theorem tot_d_walk_Settings_1 (x y : T_api_Setting) (h1 : Go.Proofs.ltOf cf_d_walk_Settings_1 x y = false) (h2 : Go.Proofs.ltOf cf_d_walk_Settings_1 y x = false) : x = y := by
  rw [lt_d_walk_Settings_1] at h1 h2
  simp only [decide_eq_false_iff_not] at h1 h2
  obtain ⟨a, b⟩ := x
  obtain ⟨c, d⟩ := y
  simp only at h1 h2
  have e1 : a = c := by omega
  have e2 : b = d := by omega
  rw [e1, e2]
theorem cf_d_walk_Settings_1_eq (x y : T_api_Setting) : d_walk_Settings_1 x y = some (cf_d_walk_Settings_1 x y) := by
  unfold d_walk_Settings_1
  rw [d_cmp_Compare_int_eq, d_cmp_Compare_int_eq]
  simp only [Option.bind_some, d_cmp_Or_int_two]
  unfold cf_d_walk_Settings_1
  by_cases h1 : x.El < y.El
  · simp [h1]
  · by_cases h2 : y.El < x.El
    · simp [h1, h2]
    · simp [h1, h2]

/-! slices.SortFunc[[]api.Setting,api.Setting] (the shelf's contract) -/
noncomputable def d_slices_SortFunc_api_Setting__walk_Settings_1 (a0 : (List T_api_Setting)) : Option (List T_api_Setting) := some (a0.mergeSort fun x y => !(Go.Proofs.ltOf cf_d_walk_Settings_1 y x))
theorem d_slices_SortFunc_api_Setting__walk_Settings_1_xc (a0 : (List T_api_Setting)) (r : (List T_api_Setting)) (h : d_slices_SortFunc_api_Setting__walk_Settings_1 a0 = some r) : XCall Go.Proofs.Tryd.prog GlS 62 2 16 (a0.map cellsOf) [.fn 63 []] none (r.map cellsOf) := by
  cases h
  exact xcall_sort (α := T_api_Setting) Go.Proofs.Tryd.sort62 Go.Proofs.Tryd.isAgg69 Go.Proofs.Tryd.sizeOf69 (fun _ => rfl) (fun _ => rfl) (fun _ => rfl) (by decide) cf_d_walk_Settings_1 swo_d_walk_Settings_1 tot_d_walk_Settings_1 63 (fun x y => d_walk_Settings_1_ok x y _ (cf_d_walk_Settings_1_eq x y)) ⟨_, Go.Proofs.Tryd.func62, rfl, rfl⟩ a0

/-! slices.Compact[[]api.Setting,api.Setting] -/
noncomputable def d_slices_Compact_api_Setting_1 (a0 : (List T_api_Setting)) (p140 : Nat × Nat) : (Int × Int × (List T_api_Setting)) → Option ((Int × Int × (List T_api_Setting)) ⊕ (((List T_api_Setting) × Int) ⊕ (Int ⊕ (Unit ⊕ ((List T_api_Setting) × Nat))))) := fun (x159, x160, x161) =>
  bif decide (x160 < (((p140.2 - p140.1) : Nat) : Int)) then (
    onInl (α := ((List T_api_Setting) × Int)) (β := ((Int × Int × (List T_api_Setting)) ⊕ (((List T_api_Setting) × Int) ⊕ (Int ⊕ (Unit ⊕ ((List T_api_Setting) × Nat)))))) (
      (xixO (0 + p140.1) (p140.2 - p140.1) x160).bind fun j192 =>
      (xldO x161 (((a0 : (List T_api_Setting)).map cellsOf).length) j192).bind fun x193 =>
      (xixO (0 + p140.1) (p140.2 - p140.1) (w64 (x160 - 1))).bind fun j194 =>
      (xldO x161 (((a0 : (List T_api_Setting)).map cellsOf).length) j194).bind fun x195 =>
      bif (!(eq_T_api_Setting x193 x195)) then (
        (xixO (0 + p140.1) (p140.2 - p140.1) x160).bind fun j196 =>
        (xldO x161 (((a0 : (List T_api_Setting)).map cellsOf).length) j196).bind fun x197 =>
        (xixO 0 (((a0 : (List T_api_Setting)).map cellsOf).length) x159).bind fun j198 =>
        (xldO x161 (((a0 : (List T_api_Setting)).map cellsOf).length) j198).bind fun x199 =>
        some (.inl ((x161.set j198 x197), w64 (x159 + 1)))
      ) else (
        some (.inl (x161, x159))
      )
    ) fun (x190, x191) =>
    some (.inl (x191, w64 (x160 + 1), x190))
  ) else (
    some (.inr (.inl (x161, x159)))
  )

noncomputable def d_slices_Compact_api_Setting_0 (a0 : (List T_api_Setting)) : Int → Option (Int ⊕ (Unit ⊕ ((List T_api_Setting) × Nat))) := fun x68 =>
  bif decide (x68 < ((((a0 : (List T_api_Setting)).map cellsOf).length : Nat) : Int)) then (
    (xixO 0 (((a0 : (List T_api_Setting)).map cellsOf).length) x68).bind fun j136 =>
    (xldO a0 (((a0 : (List T_api_Setting)).map cellsOf).length) j136).bind fun x137 =>
    (xixO 0 (((a0 : (List T_api_Setting)).map cellsOf).length) (w64 (x68 - 1))).bind fun j138 =>
    (xldO a0 (((a0 : (List T_api_Setting)).map cellsOf).length) j138).bind fun x139 =>
    bif eq_T_api_Setting x137 x139 then (
      (xslO (((a0 : (List T_api_Setting)).map cellsOf).length) (some x68) none).bind fun p140 =>
      onInl (α := ((List T_api_Setting) × Int)) (β := (Int ⊕ (Unit ⊕ ((List T_api_Setting) × Nat)))) (loopO (d_slices_Compact_api_Setting_1 a0 p140) (x68, 1, a0)) fun (x180, x181) =>
      (xslO (((a0 : (List T_api_Setting)).map cellsOf).length) (some x181) none).bind fun p200 =>
      (xclrO x180 (((a0 : (List T_api_Setting)).map cellsOf).length) (0 + p200.1) (p200.2 - p200.1) ((T_api_Setting.mk 0 0) : T_api_Setting)).bind fun x201 =>
      (xslhO (((a0 : (List T_api_Setting)).map cellsOf).length) x181).bind fun m202 =>
      some (.inr (.inr (x201, m202)))
    ) else (
      some (.inl (w64 (x68 + 1)))
    )
  ) else (
    some (.inr (.inl ()))
  )

noncomputable def d_slices_Compact_api_Setting (a0 : (List T_api_Setting)) : Option ((List T_api_Setting) × Nat) :=
  bif decide (((((a0 : (List T_api_Setting)).map cellsOf).length : Nat) : Int) < 2) then (
    some (a0, ((a0 : (List T_api_Setting)).map cellsOf).length)
  ) else (
    onInl (α := Unit) (β := ((List T_api_Setting) × Nat)) (loopO (d_slices_Compact_api_Setting_0 a0) 1) fun _ =>
    some (a0, ((a0 : (List T_api_Setting)).map cellsOf).length)
  )
theorem d_slices_Compact_api_Setting_xc (a0 : (List T_api_Setting)) (r : ((List T_api_Setting) × Nat)) (h : d_slices_Compact_api_Setting a0 = some r) : XCall Go.Proofs.Tryd.prog GlS 66 2 16 (a0.map cellsOf) [] (some r.2) (r.1.map cellsOf) := by
  unfold d_slices_Compact_api_Setting at h
  refine xcall_of_pwp Go.Proofs.Tryd.func66 (by rfl) rfl Go.Proofs.Tryd.ntmps66 (by rfl) rfl ?_
  refine pwp_seq ?_
  refine r_reg ?_
  refine e_end (by kernel_rfl) ?_
  refine q_next ?_
  refine pwp_seq ?_
  refine pwp_seq ?_
  refine r_reg ?_
  refine e_end (by kernel_rfl) ?_
  refine q_next ?_
  rcases o_cond h with ⟨hb, h⟩ | ⟨hb, h⟩
  · refine r_cond_t hb (by kernel_rfl) ?_
    refine pwp_seq ?_
    refine r_reg ?_
    refine e_end (by kernel_rfl) ?_
    refine q_next ?_
    refine pwp_ret ?_
    refine q_seq_ret ?_
    cases h
    exact q_xret (by kernel_rfl)
  · refine r_cond_f hb (by kernel_rfl) ?_
    refine pwp_skip ?_
    refine q_next ?_
    refine pwp_seq ?_
    refine pwp_seq ?_
    refine r_reg ?_
    refine e_end (by kernel_rfl) ?_
    refine q_next ?_
    refine pwp_block ?_
    obtain ⟨o126, h126, h⟩ := o_inl h
    refine r_loop2 61 0 (fun x68 => ⟨[(0, .ex 1000000000 2 16 (((a0 : (List T_api_Setting)).map cellsOf).length) 0 (((a0 : (List T_api_Setting)).map cellsOf).length)), (3, .int .i64 x68)], [], [(1000000000, (((a0 : (List T_api_Setting)).map cellsOf).length, 0))], [(1000000000, (2, (16, (a0 : (List T_api_Setting)).map cellsOf)))]⟩) (fun (_ : Unit) => ⟨[(0, .ex 1000000000 2 16 (((a0 : (List T_api_Setting)).map cellsOf).length) 0 (((a0 : (List T_api_Setting)).map cellsOf).length))], [], [(1000000000, (((a0 : (List T_api_Setting)).map cellsOf).length, 0))], [(1000000000, (2, (16, (a0 : (List T_api_Setting)).map cellsOf)))]⟩) h126 (by kernel_rfl) (fun _ => by kernel_rfl) ?_ ?_
    · rintro x68 oh125 h125
      unfold d_slices_Compact_api_Setting_0 at h125
      refine pwp_seq ?_
      refine pwp_seq ?_
      refine r_reg ?_
      refine e_end (by kernel_rfl) ?_
      refine q_next ?_
      rcases o_cond h125 with ⟨hb, h125⟩ | ⟨hb, h125⟩
      · refine r_cond_t hb (by kernel_rfl) ?_
        refine pwp_skip ?_
        refine q_next ?_
        refine pwp_seq ?_
        refine pwp_block ?_
        refine pwp_seq ?_
        refine r_regd (by kernel_rfl) (by kernel_rfl) ?_
        refine p_run 2 (by kernel_rfl) ?_
        obtain ⟨j136, h127, h125⟩ := o_bind h125
        refine p_xix (tk := 1000000000) (k := 2) (N := ((a0 : (List T_api_Setting)).map cellsOf).length) h127 (by kernel_rfl) ?_
        obtain ⟨x137, h128, h125⟩ := o_bind h125
        refine p_xld (L := (a0 : (List T_api_Setting))) (N := ((a0 : (List T_api_Setting)).map cellsOf).length) (j := j136) (y := x137) (v := Enc.pv x137) h128 true 2 0 (by kernel_rfl) (by kernel_rfl) ?_
        refine p_run 3 (by kernel_rfl) ?_
        obtain ⟨j138, h129, h125⟩ := o_bind h125
        refine p_xix (tk := 1000000000) (k := 2) (N := ((a0 : (List T_api_Setting)).map cellsOf).length) h129 (by kernel_rfl) ?_
        obtain ⟨x139, h130, h125⟩ := o_bind h125
        refine p_xld (L := (a0 : (List T_api_Setting))) (N := ((a0 : (List T_api_Setting)).map cellsOf).length) (j := j138) (y := x139) (v := Enc.pv x139) h130 true 2 0 (by kernel_rfl) (by kernel_rfl) ?_
        refine e_end (by kernel_rfl) ?_
        refine q_next ?_
        rcases o_cond h125 with ⟨hb, h125⟩ | ⟨hb, h125⟩
        · refine r_cond_t hb (by kernel_rfl) ?_
          refine pwp_seq ?_
          refine r_reg ?_
          refine p_run 2 (by kernel_rfl) ?_
          obtain ⟨p140, h131, h125⟩ := o_bind h125
          refine p_xsl (tk := 1000000000) (k := 2) (b := 16) (N := ((a0 : (List T_api_Setting)).map cellsOf).length) (o := 0) (lo := (some x68)) (hi := none) h131 (by kernel_rfl) ?_
          refine e_end (by kernel_rfl) ?_
          refine q_next ?_
          refine pwp_seq ?_
          refine pwp_seq ?_
          refine r_reg ?_
          refine e_end (by kernel_rfl) ?_
          refine q_next ?_
          refine pwp_block ?_
          obtain ⟨o167, h167, h125⟩ := o_inl h125
          refine r_loop2 61 2 (fun (x159, x160, x161) => ⟨[(0, .ex 1000000000 2 16 (((a0 : (List T_api_Setting)).map cellsOf).length) 0 (((a0 : (List T_api_Setting)).map cellsOf).length)), (3, .int .i64 x159), (4, .ex 1000000000 2 16 (((a0 : (List T_api_Setting)).map cellsOf).length) (0 + p140.1) (p140.2 - p140.1)), (5, .int .i64 x160)], [], [(1000000000, (((a0 : (List T_api_Setting)).map cellsOf).length, 0))], [(1000000000, (2, (16, (x161 : (List T_api_Setting)).map cellsOf)))]⟩) (fun (x180, x181) => ⟨[(0, .ex 1000000000 2 16 (((a0 : (List T_api_Setting)).map cellsOf).length) 0 (((a0 : (List T_api_Setting)).map cellsOf).length)), (3, .int .i64 x181)], [], [(1000000000, (((a0 : (List T_api_Setting)).map cellsOf).length, 0))], [(1000000000, (2, (16, (x180 : (List T_api_Setting)).map cellsOf)))]⟩) h167 (by kernel_rfl) (fun _ => by kernel_rfl) ?_ ?_
          · rintro ⟨x159, x160, x161⟩ oh166 h166
            unfold d_slices_Compact_api_Setting_1 at h166
            refine pwp_seq ?_
            refine pwp_seq ?_
            refine r_reg ?_
            refine e_end (by kernel_rfl) ?_
            refine q_next ?_
            rcases o_cond h166 with ⟨hb, h166⟩ | ⟨hb, h166⟩
            · refine r_cond_t hb (by kernel_rfl) ?_
              refine pwp_skip ?_
              refine q_next ?_
              obtain ⟨o176, h176, h166⟩ := o_inl h166
              refine r_join (o := o176) 61 (fun (x190, x191) => ⟨[(0, .ex 1000000000 2 16 (((a0 : (List T_api_Setting)).map cellsOf).length) 0 (((a0 : (List T_api_Setting)).map cellsOf).length)), (3, .int .i64 x191), (4, .ex 1000000000 2 16 (((a0 : (List T_api_Setting)).map cellsOf).length) (0 + p140.1) (p140.2 - p140.1)), (5, .int .i64 x160)], [], [(1000000000, (((a0 : (List T_api_Setting)).map cellsOf).length, 0))], [(1000000000, (2, (16, (x190 : (List T_api_Setting)).map cellsOf)))]⟩) ?_ ?_
              · refine pwp_block ?_
                refine pwp_seq ?_
                refine r_regd (by kernel_rfl) (by kernel_rfl) ?_
                refine p_run 2 (by kernel_rfl) ?_
                obtain ⟨j192, h177, h176⟩ := o_bind h176
                refine p_xix (tk := 1000000000) (k := 2) (N := ((a0 : (List T_api_Setting)).map cellsOf).length) h177 (by kernel_rfl) ?_
                obtain ⟨x193, h178, h176⟩ := o_bind h176
                refine p_xld (L := (x161 : (List T_api_Setting))) (N := ((a0 : (List T_api_Setting)).map cellsOf).length) (j := j192) (y := x193) (v := Enc.pv x193) h178 true 2 0 (by kernel_rfl) (by kernel_rfl) ?_
                refine p_run 3 (by kernel_rfl) ?_
                obtain ⟨j194, h179, h176⟩ := o_bind h176
                refine p_xix (tk := 1000000000) (k := 2) (N := ((a0 : (List T_api_Setting)).map cellsOf).length) h179 (by kernel_rfl) ?_
                obtain ⟨x195, h180, h176⟩ := o_bind h176
                refine p_xld (L := (x161 : (List T_api_Setting))) (N := ((a0 : (List T_api_Setting)).map cellsOf).length) (j := j194) (y := x195) (v := Enc.pv x195) h180 true 2 0 (by kernel_rfl) (by kernel_rfl) ?_
                refine e_end (by kernel_rfl) ?_
                refine q_next ?_
                rcases o_cond h176 with ⟨hb, h176⟩ | ⟨hb, h176⟩
                · refine r_cond_t hb (by kernel_rfl) ?_
                  refine pwp_seq ?_
                  refine r_reg ?_
                  refine p_run 4 (by kernel_rfl) ?_
                  obtain ⟨j196, h181, h176⟩ := o_bind h176
                  refine p_xix (tk := 1000000000) (k := 2) (N := ((a0 : (List T_api_Setting)).map cellsOf).length) h181 (by kernel_rfl) ?_
                  obtain ⟨x197, h182, h176⟩ := o_bind h176
                  refine p_xld (L := (x161 : (List T_api_Setting))) (N := ((a0 : (List T_api_Setting)).map cellsOf).length) (j := j196) (y := x197) (v := Enc.pv x197) h182 true 2 0 (by kernel_rfl) (by kernel_rfl) ?_
                  obtain ⟨j198, h183, h176⟩ := o_bind h176
                  refine p_xix (tk := 1000000000) (k := 2) (N := ((a0 : (List T_api_Setting)).map cellsOf).length) h183 (by kernel_rfl) ?_
                  obtain ⟨x199, h184, h176⟩ := o_bind h176
                  refine p_xst (L := (x161 : (List T_api_Setting))) (tk := 1000000000) (N := ((a0 : (List T_api_Setting)).map cellsOf).length) (j := j198) (y := x199) (y' := x197) h184 0 2 [.int .i64 x197.El, .int .i64 x197.Pos] (by kernel_rfl) (by kernel_rfl) ?_
                  refine e_nil (by kernel_rfl) ?_
                  refine q_next ?_
                  refine r_reg ?_
                  refine e_end (by kernel_rfl) ?_
                  refine q_block ?_
                  cases h176
                  exact q_join (by kernel_rfl) (by kernel_rfl)
                · refine r_cond_f hb (by kernel_rfl) ?_
                  refine pwp_skip ?_
                  refine q_block ?_
                  cases h176
                  exact q_join (by kernel_rfl) (by kernel_rfl)
              · rintro ⟨x190, x191⟩ rfl
                have h166 := o_outl h166
                refine r_reg ?_
                refine e_end (by kernel_rfl) ?_
                cases h166
                exact q_lback (by kernel_rfl)
            · refine r_cond_f hb (by kernel_rfl) ?_
              refine pwp_exit ?_
              refine q_seq_exit ?_
              cases h166
              exact q_lexit (by kernel_rfl) (by kernel_rfl)
          · rintro ⟨x180, x181⟩ s' rfl hs
            have h125 := o_outl h125
            refine q_block_hit ?_
            refine q_next (pwp_wkr hs ?_)
            refine pwp_seq ?_
            refine r_reg ?_
            refine p_run 2 (by kernel_rfl) ?_
            obtain ⟨p200, h185, h125⟩ := o_bind h125
            refine p_xsl (tk := 1000000000) (k := 2) (b := 16) (N := ((a0 : (List T_api_Setting)).map cellsOf).length) (o := 0) (lo := (some x181)) (hi := none) h185 (by kernel_rfl) ?_
            obtain ⟨x201, h186, h125⟩ := o_bind h125
            refine p_xclr (L := (x180 : (List T_api_Setting))) (tk := 1000000000) (N := ((a0 : (List T_api_Setting)).map cellsOf).length) (z := ((T_api_Setting.mk 0 0) : T_api_Setting)) h186 (by kernel_rfl) (by kernel_rfl) (by kernel_rfl) rfl ?_
            refine e_nil (by kernel_rfl) ?_
            refine q_next ?_
            refine pwp_seq ?_
            refine r_reg ?_
            refine p_run 2 (by kernel_rfl) ?_
            obtain ⟨m202, h187, h125⟩ := o_bind h125
            refine p_xslh (tk := 1000000000) (k := 2) (b := 16) (N := ((a0 : (List T_api_Setting)).map cellsOf).length) (o := 0) h187 (by kernel_rfl) ?_
            refine e_end (by kernel_rfl) ?_
            refine q_next ?_
            refine pwp_ret ?_
            refine q_block_ret ?_
            refine q_seq_ret ?_
            cases h125
            refine q_lout_ret fun he => ?_
            subst he
            have h188 := o_outr h
            refine q_block_ret ?_
            refine q_seq_ret ?_
            cases h188
            exact q_xret (by kernel_rfl)
        · refine r_cond_f hb (by kernel_rfl) ?_
          refine pwp_skip ?_
          refine q_block ?_
          refine q_next ?_
          refine r_reg ?_
          refine e_end (by kernel_rfl) ?_
          cases h125
          exact q_lback (by kernel_rfl)
      · refine r_cond_f hb (by kernel_rfl) ?_
        refine pwp_exit ?_
        refine q_seq_exit ?_
        cases h125
        exact q_lexit (by kernel_rfl) (by kernel_rfl)
    · rintro _ s' rfl hs
      have h := o_outl h
      refine q_block_hit ?_
      refine q_next (pwp_wkr hs ?_)
      refine pwp_seq ?_
      refine r_reg ?_
      refine e_end (by kernel_rfl) ?_
      refine q_next ?_
      refine pwp_ret ?_
      cases h
      exact q_xret (by kernel_rfl)

/-! walk.Settings -/
noncomputable def d_walk_Settings_0 (a0 : T_api_Layout) (a1 : (List T_api_Step)) : (Int × (List T_api_Setting)) → Option ((Int × (List T_api_Setting)) ⊕ ((List T_api_Setting) ⊕ (List T_api_Setting))) := fun (x24, x25) =>
  bif decide (x24 < ((a1.length : Nat) : Int)) then (
    onInl (α := (List T_api_Setting)) (β := ((Int × (List T_api_Setting)) ⊕ ((List T_api_Setting) ⊕ (List T_api_Setting)))) (
      (ixO a1 x24).bind fun x44 =>
      (d_walk_possible a0 x44).bind fun r45 =>
      ((bif r45.2 then (
        (ixO a0.Elements x44.El).bind fun x47 =>
        some (decide (x47.Kind = 2))
      ) else some false) : Option Bool).bind fun b46 =>
      bif b46 then (
        (appO x25 [(T_api_Setting.mk x44.El r45.1)]).bind fun x48 =>
        some (.inl x48)
      ) else (
        some (.inl x25)
      )
    ) fun x43 =>
    some (.inl (w64 (x24 + 1), x43))
  ) else (
    some (.inr (.inl x25))
  )

noncomputable def d_walk_Settings (a0 : T_api_Layout) (a1 : (List T_api_Step)) : Option (List T_api_Setting) :=
  onInl (α := (List T_api_Setting)) (β := (List T_api_Setting)) (loopO (d_walk_Settings_0 a0 a1) (0, ([] : (List T_api_Setting)))) fun x37 =>
  (d_slices_SortFunc_api_Setting__walk_Settings_1 x37).bind fun r49 =>
  (d_slices_Compact_api_Setting r49).bind fun r50 =>
  some (r50.1.take r50.2)
theorem d_walk_Settings_ok (a0 : T_api_Layout) (a1 : (List T_api_Step)) (r : (List T_api_Setting)) (h : d_walk_Settings a0 a1 = some r) : PCall Go.Proofs.Tryd.prog GlS 34 [Enc.pv a0, Enc.pv a1] (Enc.pv r) := by
  unfold d_walk_Settings at h
  refine pcall_of_pwp Go.Proofs.Tryd.func34 (by rfl) rfl Go.Proofs.Tryd.ntmps34 (by rfl) rfl ?_
  refine pwp_seq ?_
  refine r_reg ?_
  refine e_end (by kernel_rfl) ?_
  refine q_next ?_
  refine pwp_seq ?_
  refine r_reg ?_
  refine e_end (by kernel_rfl) ?_
  refine q_next ?_
  refine pwp_seq ?_
  refine pwp_seq ?_
  refine r_reg ?_
  refine p_run 1 (by kernel_rfl) ?_
  refine p_len (L := (a1 : (List T_api_Step))) (by kernel_rfl) ?_
  refine e_end (by kernel_rfl) ?_
  refine q_next ?_
  refine pwp_block ?_
  refine pwp_wkr (wkr_nilX 5 100005 2 16 (by kernel_rfl) (by kernel_rfl)) ?_
  obtain ⟨o35, h35, h⟩ := o_inl h
  refine r_loop2 45 0 (fun (x24, x25) => ⟨[(2, .ref 2 0), (5, .ex 100005 2 16 (((x25 : (List T_api_Setting)).map cellsOf).length) 0 (((x25 : (List T_api_Setting)).map cellsOf).length)), (10, lstOf .frozen (a1 : (List T_api_Step))), (11, .int .i64 ((a1.length : Nat) : Int)), (12, .int .i64 x24)], [(2, .cells (cellsOf a0))], [(100005, (((x25 : (List T_api_Setting)).map cellsOf).length, 0))], [(100005, (2, (16, (x25 : (List T_api_Setting)).map cellsOf)))]⟩) (fun x37 => ⟨[(5, .ex 100005 2 16 (((x37 : (List T_api_Setting)).map cellsOf).length) 0 (((x37 : (List T_api_Setting)).map cellsOf).length))], [], [(100005, (((x37 : (List T_api_Setting)).map cellsOf).length, 0))], [(100005, (2, (16, (x37 : (List T_api_Setting)).map cellsOf)))]⟩) h35 (by kernel_rfl) (fun _ => by kernel_rfl) ?_ ?_
  · rintro ⟨x24, x25⟩ oh34 h34
    unfold d_walk_Settings_0 at h34
    refine pwp_seq ?_
    refine r_reg ?_
    refine e_end (by kernel_rfl) ?_
    refine q_next ?_
    refine pwp_seq ?_
    rcases o_cond h34 with ⟨hb, h34⟩ | ⟨hb, h34⟩
    · refine r_cond_t hb (by kernel_rfl) ?_
      refine pwp_skip ?_
      refine q_next ?_
      obtain ⟨o41, h41, h34⟩ := o_inl h34
      refine r_join (o := o41) 45 (fun x43 => ⟨[(2, .ref 2 0), (5, .ex 100005 2 16 (((x43 : (List T_api_Setting)).map cellsOf).length) 0 (((x43 : (List T_api_Setting)).map cellsOf).length)), (10, lstOf .frozen (a1 : (List T_api_Step))), (11, .int .i64 ((a1.length : Nat) : Int)), (12, .int .i64 x24)], [(2, .cells (cellsOf a0))], [(100005, (((x43 : (List T_api_Setting)).map cellsOf).length, 0))], [(100005, (2, (16, (x43 : (List T_api_Setting)).map cellsOf)))]⟩) ?_ ?_
      · refine pwp_block ?_
        refine pwp_seq ?_
        refine r_reg ?_
        obtain ⟨x44, h42, h41⟩ := o_bind h41
        refine p_ix h42 (by kernel_rfl) ?_
        refine e_end (by kernel_rfl) ?_
        refine q_next ?_
        refine pwp_seq ?_
        refine r_reg ?_
        refine p_run 2 (by kernel_rfl) ?_
        obtain ⟨r45, h43, h41⟩ := o_bind h41
        refine p_call (d_walk_possible_ok _ _ r45 h43) (by kernel_rfl) (by kernel_rfl) ?_
        refine e_end (by kernel_rfl) ?_
        refine q_next ?_
        refine pwp_seq ?_
        refine r_reg ?_
        obtain ⟨b46, h44, h41⟩ := o_bind h41
        refine p_run 2 (by kernel_rfl) ?_
        refine e_seg 9 32 (.bool b46) ?_ ?_
        · rcases o_cond h44 with ⟨hb, h44⟩ | ⟨hb, h44⟩
          · refine p_settle 23 hb (by kernel_rfl) (by kernel_rfl) ?_
            refine p_run 4 (by kernel_rfl) ?_
            obtain ⟨x47, h45, h44⟩ := o_bind h44
            refine p_ix h45 (by kernel_rfl) ?_
            cases h44
            exact f_end (by kernel_rfl) (by kernel_rfl)
          · refine p_settle 23 hb (by kernel_rfl) (by kernel_rfl) ?_
            cases h44
            exact f_end (by kernel_rfl) (by kernel_rfl)
        · refine e_nil (by kernel_rfl) ?_
          refine q_next ?_
          rcases o_cond h41 with ⟨hb, h41⟩ | ⟨hb, h41⟩
          · refine r_cond_t hb (by kernel_rfl) ?_
            refine r_reg ?_
            refine p_run 6 (by kernel_rfl) ?_
            obtain ⟨x48, h46, h41⟩ := o_bind h41
            refine p_xapp (tk := 100005) (N := ((x25 : (List T_api_Setting)).map cellsOf).length) h46 (by kernel_rfl) (by kernel_rfl) (by kernel_rfl) ?_
            refine e_end (by kernel_rfl) ?_
            refine q_block ?_
            cases h41
            exact q_join (by kernel_rfl) (by kernel_rfl)
          · refine r_cond_f hb (by kernel_rfl) ?_
            refine pwp_skip ?_
            refine q_block ?_
            cases h41
            exact q_join (by kernel_rfl) (by kernel_rfl)
      · rintro x43 rfl
        have h34 := o_outl h34
        refine r_reg ?_
        refine e_end (by kernel_rfl) ?_
        cases h34
        exact q_lback (by kernel_rfl)
    · refine r_cond_f hb (by kernel_rfl) ?_
      refine pwp_exit ?_
      refine q_seq_exit ?_
      cases h34
      exact q_lexit (by kernel_rfl) (by kernel_rfl)
  · rintro x37 s' rfl hs
    have h := o_outl h
    refine q_block_hit ?_
    refine q_next (pwp_wkr hs ?_)
    refine pwp_seq ?_
    refine r_reg ?_
    refine p_run 1 (by kernel_rfl) ?_
    obtain ⟨r49, h47, h⟩ := o_bind h
    refine p_xcall (t := 100005) (L := (x37 : (List T_api_Setting))) (L' := (r49 : (List T_api_Setting))) (N := ((x37 : (List T_api_Setting)).map cellsOf).length) (by kernel_rfl) (by kernel_rfl) (by kernel_rfl) (d_slices_SortFunc_api_Setting__walk_Settings_1_xc _ r49 h47) ?_
    refine e_nil (by kernel_rfl) ?_
    refine q_next ?_
    refine pwp_seq ?_
    refine r_reg ?_
    refine p_run 1 (by kernel_rfl) ?_
    obtain ⟨r50, h48, h⟩ := o_bind h
    refine p_xcallS (t := 100005) (L := (r49 : (List T_api_Setting))) (L' := (r50.1 : (List T_api_Setting))) (m := r50.2) (N := ((x37 : (List T_api_Setting)).map cellsOf).length) (by kernel_rfl) (by kernel_rfl) (by kernel_rfl) (d_slices_Compact_api_Setting_xc _ r50 h48) ?_
    refine e_end (by kernel_rfl) ?_
    refine q_next ?_
    refine pwp_ret ?_
    cases h
    exact q_ret (by kernel_rfl) (by kernel_rfl) (by kernel_rfl)

/-! walk.Sections -/
noncomputable def d_walk_Sections_0 (a0 : T_api_Layout) (a1 : (List T_api_Step)) : (Int × (List (Int × Bool)) × (List Int)) → Option ((Int × (List (Int × Bool)) × (List Int)) ⊕ ((List Int) ⊕ (List Int))) := fun (x23, x24, x25) =>
  bif decide (x23 < ((a1.length : Nat) : Int)) then (
    onInl (α := ((List Int) × (List (Int × Bool)))) (β := ((Int × (List (Int × Bool)) × (List Int)) ⊕ ((List Int) ⊕ (List Int)))) (
      (ixO a1 x23).bind fun x43 =>
      (d_walk_exists a0 x43.El).bind fun r44 =>
      bif (!r44) then (
        some (.inl (x25, x24))
      ) else (
        (ixO a0.Elements x43.El).bind fun x45 =>
        bif (!((mget (x24 : (List (Int × Bool))) x45.Section).getD false)) then (
          (appO x25 [x45.Section]).bind fun x46 =>
          some (.inl (x46, (mset x45.Section true x24)))
        ) else (
          some (.inl (x25, x24))
        )
      )
    ) fun (x41, x42) =>
    some (.inl (w64 (x23 + 1), x42, x41))
  ) else (
    some (.inr (.inl x25))
  )

noncomputable def d_walk_Sections (a0 : T_api_Layout) (a1 : (List T_api_Step)) : Option (List Int) :=
  onInl (α := (List Int)) (β := (List Int)) (loopO (d_walk_Sections_0 a0 a1) (0, ([] : (List (Int × Bool))), ([] : (List Int)))) fun x36 =>
  some x36
theorem d_walk_Sections_ok (a0 : T_api_Layout) (a1 : (List T_api_Step)) (r : (List Int)) (h : d_walk_Sections a0 a1 = some r) : PCall Go.Proofs.Tryd.prog GlS 35 [Enc.pv a0, Enc.pv a1] (lstOf (.own 100005) r) := by
  unfold d_walk_Sections at h
  refine pcall_of_pwp Go.Proofs.Tryd.func35 (by rfl) rfl Go.Proofs.Tryd.ntmps35 (by rfl) rfl ?_
  refine pwp_seq ?_
  refine r_reg ?_
  refine e_end (by kernel_rfl) ?_
  refine q_next ?_
  refine pwp_seq ?_
  refine r_reg ?_
  refine e_end (by kernel_rfl) ?_
  refine q_next ?_
  refine pwp_seq ?_
  refine r_reg ?_
  refine e_end (by kernel_rfl) ?_
  refine q_next ?_
  refine pwp_seq ?_
  refine pwp_seq ?_
  refine r_reg ?_
  refine p_run 1 (by kernel_rfl) ?_
  refine p_len (L := (a1 : (List T_api_Step))) (by kernel_rfl) ?_
  refine e_end (by kernel_rfl) ?_
  refine q_next ?_
  refine pwp_block ?_
  refine g_nil 5 100005 1 8 (by kernel_rfl) (by kernel_rfl) ?_
  obtain ⟨o29, h29, h⟩ := o_inl h
  refine r_loop2 41 0 (fun (x23, x24, x25) => ⟨[(2, .ref 2 0), (5, lstOf (.own 100005) (x25 : (List Int))), (6, .mp 10), (11, lstOf .frozen (a1 : (List T_api_Step))), (12, .int .i64 ((a1.length : Nat) : Int)), (13, .int .i64 x23)], [(2, .cells (cellsOf a0)), (10, .map (mpOf (x24 : (List (Int × Bool)))))], [(100005, (((x25).map cellsOf).length, 1))], []⟩) (fun x36 => ⟨[(5, lstOf (.own 100005) (x36 : (List Int)))], [], [(100005, (((x36).map cellsOf).length, 1))], []⟩) h29 (by kernel_rfl) (fun _ => by kernel_rfl) ?_ ?_
  · rintro ⟨x23, x24, x25⟩ oh28 h28
    unfold d_walk_Sections_0 at h28
    refine pwp_seq ?_
    refine r_reg ?_
    refine e_end (by kernel_rfl) ?_
    refine q_next ?_
    refine pwp_seq ?_
    rcases o_cond h28 with ⟨hb, h28⟩ | ⟨hb, h28⟩
    · refine r_cond_t hb (by kernel_rfl) ?_
      refine pwp_skip ?_
      refine q_next ?_
      obtain ⟨o34, h34, h28⟩ := o_inl h28
      refine r_join (o := o34) 41 (fun (x41, x42) => ⟨[(2, .ref 2 0), (5, lstOf (.own 100005) (x41 : (List Int))), (6, .mp 10), (11, lstOf .frozen (a1 : (List T_api_Step))), (12, .int .i64 ((a1.length : Nat) : Int)), (13, .int .i64 x23)], [(2, .cells (cellsOf a0)), (10, .map (mpOf (x42 : (List (Int × Bool)))))], [(100005, (((x41).map cellsOf).length, 1))], []⟩) ?_ ?_
      · refine pwp_block ?_
        refine pwp_seq ?_
        refine r_reg ?_
        obtain ⟨x43, h35, h34⟩ := o_bind h34
        refine p_ix h35 (by kernel_rfl) ?_
        refine e_end (by kernel_rfl) ?_
        refine q_next ?_
        refine pwp_seq ?_
        refine pwp_seq ?_
        refine r_reg ?_
        refine p_run 3 (by kernel_rfl) ?_
        obtain ⟨r44, h36, h34⟩ := o_bind h34
        refine p_call (d_walk_exists_ok _ _ r44 h36) (by kernel_rfl) (by kernel_rfl) ?_
        refine e_end (by kernel_rfl) ?_
        refine q_next ?_
        rcases o_cond h34 with ⟨hb, h34⟩ | ⟨hb, h34⟩
        · refine r_cond_t hb (by kernel_rfl) ?_
          refine pwp_exit ?_
          refine q_seq_exit ?_
          refine q_block_hit ?_
          cases h34
          exact q_join (by kernel_rfl) (by kernel_rfl)
        · refine r_cond_f hb (by kernel_rfl) ?_
          refine pwp_skip ?_
          refine q_next ?_
          refine pwp_seq ?_
          refine r_reg ?_
          refine p_run 4 (by kernel_rfl) ?_
          obtain ⟨x45, h37, h34⟩ := o_bind h34
          refine p_ix h37 (by kernel_rfl) ?_
          refine e_end (by kernel_rfl) ?_
          refine q_next ?_
          refine pwp_seq ?_
          refine r_reg ?_
          refine p_run 2 (by kernel_rfl) ?_
          refine p_lookup (m := (x24 : (List (Int × Bool)))) (k := x45.Section) false 10 (by kernel_rfl) (by kernel_rfl) ?_
          refine e_end (by kernel_rfl) ?_
          refine q_next ?_
          rcases o_cond h34 with ⟨hb, h34⟩ | ⟨hb, h34⟩
          · refine r_cond_t hb (by kernel_rfl) ?_
            refine pwp_seq ?_
            refine r_reg ?_
            refine p_run 2 (by kernel_rfl) ?_
            refine p_mset (m := (x24 : (List (Int × Bool)))) (k := x45.Section) (v := true) 10 (by kernel_rfl) (by kernel_rfl) (by kernel_rfl) ?_
            refine e_nil (by kernel_rfl) ?_
            refine q_next ?_
            refine r_reg ?_
            refine p_run 3 (by kernel_rfl) ?_
            obtain ⟨x46, h38, h34⟩ := o_bind h34
            refine p_app (tk := 100005) h38 (by kernel_rfl) (by kernel_rfl) ?_
            refine e_end (by kernel_rfl) ?_
            refine q_block ?_
            cases h34
            exact q_join (by kernel_rfl) (by kernel_rfl)
          · refine r_cond_f hb (by kernel_rfl) ?_
            refine pwp_skip ?_
            refine q_block ?_
            cases h34
            exact q_join (by kernel_rfl) (by kernel_rfl)
      · rintro ⟨x41, x42⟩ rfl
        have h28 := o_outl h28
        refine r_reg ?_
        refine e_end (by kernel_rfl) ?_
        cases h28
        exact q_lback (by kernel_rfl)
    · refine r_cond_f hb (by kernel_rfl) ?_
      refine pwp_exit ?_
      refine q_seq_exit ?_
      cases h28
      exact q_lexit (by kernel_rfl) (by kernel_rfl)
  · rintro x36 s' rfl hs
    have h := o_outl h
    refine q_block_hit ?_
    refine q_next (pwp_wkr hs ?_)
    refine pwp_seq ?_
    refine r_reg ?_
    refine e_end (by kernel_rfl) ?_
    refine q_next ?_
    refine pwp_ret ?_
    cases h
    exact q_ret (by kernel_rfl) (by kernel_rfl) (by kernel_rfl)
theorem d_walk_Sections_fz (a0 : T_api_Layout) (a1 : (List T_api_Step)) (r : (List Int)) (h : d_walk_Sections a0 a1 = some r) : PCall Go.Proofs.Tryd.prog GlS 35 [Enc.pv a0, Enc.pv a1] (Enc.pv r) :=
  (d_walk_Sections_ok a0 a1 r h).freeze (by kernel_rfl) (by kernel_rfl) (by kernel_rfl)

/-! overlap.Find -/
noncomputable def d_overlap_Find (a0 : T_api_Layout) (a1 : T_api_Route) : Option T_api_Route :=
  (d_overlap_steps a0 a1).bind fun r1 =>
  (d_slices_Clone_api_Step a1.Path).bind fun r2 =>
  (d_slices_Clone_api_Setting a1.Points).bind fun r3 =>
  (d_slices_Clone_int a1.Sections).bind fun r4 =>
  (d_slices_Clone_api_Setting a1.Flank).bind fun r5 =>
  (d_slices_Clone_int a1.Guards).bind fun r6 =>
  (d_slices_Clone_api_End a1.Gaps).bind fun r7 =>
  (d_walk_Settings a0 r1).bind fun r8 =>
  (d_walk_Sections a0 r1).bind fun r9 =>
  some (T_api_Route.mk a1.Name a1.Entry a1.Exit r2 r3 r4 a1.Approach a1.Length r1 r8 r9 r5 r6 r7)
theorem d_overlap_Find_ok (a0 : T_api_Layout) (a1 : T_api_Route) (r : T_api_Route) (h : d_overlap_Find a0 a1 = some r) : PCall Go.Proofs.Tryd.prog GlS 11 [Enc.pv a0, Enc.pv a1] (Enc.pv r) := by
  unfold d_overlap_Find at h
  refine pcall_of_pwp Go.Proofs.Tryd.func11 (by rfl) rfl Go.Proofs.Tryd.ntmps11 (by rfl) rfl ?_
  refine pwp_seq ?_
  refine r_reg ?_
  refine e_end (by kernel_rfl) ?_
  refine q_next ?_
  refine pwp_seq ?_
  refine r_reg ?_
  refine p_run 2 (by kernel_rfl) ?_
  obtain ⟨r1, h1, h⟩ := o_bind h
  refine p_call (d_overlap_steps_ok _ _ r1 h1) (by kernel_rfl) (by kernel_rfl) ?_
  refine e_end (by kernel_rfl) ?_
  refine q_next ?_
  refine pwp_seq ?_
  refine r_reg ?_
  refine p_run 2 (by kernel_rfl) ?_
  obtain ⟨r2, h2, h⟩ := o_bind h
  refine p_call (d_slices_Clone_api_Step_ok _ r2 h2) (by kernel_rfl) (by kernel_rfl) ?_
  refine e_end (by kernel_rfl) ?_
  refine q_next ?_
  refine pwp_seq ?_
  refine r_reg ?_
  refine p_run 2 (by kernel_rfl) ?_
  obtain ⟨r3, h3, h⟩ := o_bind h
  refine p_call (d_slices_Clone_api_Setting_ok _ r3 h3) (by kernel_rfl) (by kernel_rfl) ?_
  refine e_end (by kernel_rfl) ?_
  refine q_next ?_
  refine pwp_seq ?_
  refine r_reg ?_
  refine p_run 2 (by kernel_rfl) ?_
  obtain ⟨r4, h4, h⟩ := o_bind h
  refine p_call (d_slices_Clone_int_ok _ r4 h4) (by kernel_rfl) (by kernel_rfl) ?_
  refine e_end (by kernel_rfl) ?_
  refine q_next ?_
  refine pwp_seq ?_
  refine r_reg ?_
  refine p_run 2 (by kernel_rfl) ?_
  obtain ⟨r5, h5, h⟩ := o_bind h
  refine p_call (d_slices_Clone_api_Setting_ok _ r5 h5) (by kernel_rfl) (by kernel_rfl) ?_
  refine e_end (by kernel_rfl) ?_
  refine q_next ?_
  refine pwp_seq ?_
  refine r_reg ?_
  refine p_run 2 (by kernel_rfl) ?_
  obtain ⟨r6, h6, h⟩ := o_bind h
  refine p_call (d_slices_Clone_int_ok _ r6 h6) (by kernel_rfl) (by kernel_rfl) ?_
  refine e_end (by kernel_rfl) ?_
  refine q_next ?_
  refine pwp_seq ?_
  refine r_reg ?_
  refine p_run 2 (by kernel_rfl) ?_
  obtain ⟨r7, h7, h⟩ := o_bind h
  refine p_call (d_slices_Clone_api_End_ok _ r7 h7) (by kernel_rfl) (by kernel_rfl) ?_
  refine e_end (by kernel_rfl) ?_
  refine q_next ?_
  refine pwp_seq ?_
  refine r_reg ?_
  refine e_end (by kernel_rfl) ?_
  refine q_next ?_
  refine pwp_seq ?_
  refine r_reg ?_
  refine p_run 2 (by kernel_rfl) ?_
  obtain ⟨r8, h8, h⟩ := o_bind h
  refine p_call (d_walk_Settings_ok _ _ r8 h8) (by kernel_rfl) (by kernel_rfl) ?_
  refine e_end (by kernel_rfl) ?_
  refine q_next ?_
  refine pwp_seq ?_
  refine r_reg ?_
  refine p_run 2 (by kernel_rfl) ?_
  obtain ⟨r9, h9, h⟩ := o_bind h
  refine p_call (d_walk_Sections_ok _ _ r9 h9) (by kernel_rfl) (by kernel_rfl) ?_
  refine e_end (by kernel_rfl) ?_
  refine q_next ?_
  refine pwp_seq ?_
  refine r_reg ?_
  refine e_end (by kernel_rfl) ?_
  refine q_next ?_
  refine pwp_ret ?_
  cases h
  exact q_ret (by kernel_rfl) (by kernel_rfl) (by kernel_rfl)

/-! signallingref13.exit -/
noncomputable def d_ref13_exit (a0 : T_api_Layout) (a1 : T_api_Route) : Option (T_api_Signal × Bool) :=
  ((bif decide (a1.Exit < 0) then some true else (
    some (decide (((a0.Signals.length : Nat) : Int) ≤ a1.Exit))
  )) : Option Bool).bind fun b1 =>
  bif b1 then (
    some ((T_api_Signal.mk ByteArray.empty (T_api_End.mk 0 0) 0), false)
  ) else (
    (ixO a0.Signals a1.Exit).bind fun x2 =>
    some (x2, true)
  )
theorem d_ref13_exit_ok (a0 : T_api_Layout) (a1 : T_api_Route) (r : (T_api_Signal × Bool)) (h : d_ref13_exit a0 a1 = some r) : PCall Go.Proofs.Tryd.prog GlS 36 [Enc.pv a0, Enc.pv a1] (.tup [Enc.pv r.1, Enc.pv r.2]) := by
  unfold d_ref13_exit at h
  refine pcall_of_pwp Go.Proofs.Tryd.func36 (by rfl) rfl Go.Proofs.Tryd.ntmps36 (by rfl) rfl ?_
  refine pwp_seq ?_
  refine r_reg ?_
  refine e_end (by kernel_rfl) ?_
  refine q_next ?_
  refine pwp_seq ?_
  refine pwp_seq ?_
  refine r_reg ?_
  obtain ⟨b1, h1, h⟩ := o_bind h
  refine p_run 4 (by kernel_rfl) ?_
  refine e_seg 7 16 (.bool b1) ?_ ?_
  · rcases o_cond h1 with ⟨hb, h1⟩ | ⟨hb, h1⟩
    · refine p_settle 9 hb (by kernel_rfl) (by kernel_rfl) ?_
      cases h1
      exact f_end (by kernel_rfl) (by kernel_rfl)
    · refine p_settle 9 hb (by kernel_rfl) (by kernel_rfl) ?_
      refine p_run 4 (by kernel_rfl) ?_
      refine p_len (L := (a0.Signals : (List T_api_Signal))) (by kernel_rfl) ?_
      cases h1
      exact f_end (by kernel_rfl) (by kernel_rfl)
  · refine e_nil (by kernel_rfl) ?_
    refine q_next ?_
    rcases o_cond h with ⟨hb, h⟩ | ⟨hb, h⟩
    · refine r_cond_t hb (by kernel_rfl) ?_
      refine pwp_seq ?_
      refine r_reg ?_
      refine e_end (by kernel_rfl) ?_
      refine q_next ?_
      refine pwp_ret ?_
      refine q_seq_ret ?_
      cases h
      exact q_ret (by kernel_rfl) (by kernel_rfl) (by kernel_rfl)
    · refine r_cond_f hb (by kernel_rfl) ?_
      refine pwp_skip ?_
      refine q_next ?_
      refine pwp_seq ?_
      refine r_reg ?_
      refine p_run 4 (by kernel_rfl) ?_
      obtain ⟨x2, h2, h⟩ := o_bind h
      refine p_ix h2 (by kernel_rfl) ?_
      refine e_end (by kernel_rfl) ?_
      refine q_next ?_
      refine pwp_ret ?_
      cases h
      exact q_ret (by kernel_rfl) (by kernel_rfl) (by kernel_rfl)

/-! signallingref09.exists -/
noncomputable def d_ref09_exists (a0 : T_api_Layout) (a1 : Int) : Option Bool :=
  ((bif decide (0 ≤ a1) then (
    some (decide (a1 < ((a0.Elements.length : Nat) : Int)))
  ) else some false) : Option Bool).bind fun b1 =>
  some b1
theorem d_ref09_exists_ok (a0 : T_api_Layout) (a1 : Int) (r : Bool) (h : d_ref09_exists a0 a1 = some r) : PCall Go.Proofs.Tryd.prog GlS 68 [Enc.pv a0, Enc.pv a1] (Enc.pv r) := by
  unfold d_ref09_exists at h
  refine pcall_of_pwp Go.Proofs.Tryd.func68 (by rfl) rfl Go.Proofs.Tryd.ntmps68 (by rfl) rfl ?_
  refine pwp_seq ?_
  refine r_reg ?_
  refine e_end (by kernel_rfl) ?_
  refine q_next ?_
  refine pwp_seq ?_
  refine r_reg ?_
  obtain ⟨b1, h1, h⟩ := o_bind h
  refine p_run 3 (by kernel_rfl) ?_
  refine e_seg 6 13 (.bool b1) ?_ ?_
  · rcases o_cond h1 with ⟨hb, h1⟩ | ⟨hb, h1⟩
    · refine p_settle 7 hb (by kernel_rfl) (by kernel_rfl) ?_
      refine p_run 3 (by kernel_rfl) ?_
      refine p_len (L := (a0.Elements : (List T_api_Element))) (by kernel_rfl) ?_
      cases h1
      exact f_end (by kernel_rfl) (by kernel_rfl)
    · refine p_settle 7 hb (by kernel_rfl) (by kernel_rfl) ?_
      cases h1
      exact f_end (by kernel_rfl) (by kernel_rfl)
  · refine e_end (by kernel_rfl) ?_
    refine q_next ?_
    refine pwp_ret ?_
    cases h
    exact q_ret (by kernel_rfl) (by kernel_rfl) (by kernel_rfl)

/-! signallingref09.Length -/
noncomputable def d_ref09_Length_0 (a0 : T_api_Layout) (a1 : (List T_api_Step)) : (Int × Int) → Option ((Int × Int) ⊕ (Int ⊕ Int)) := fun (x10, x11) =>
  bif decide (x11 < ((a1.length : Nat) : Int)) then (
    onInl (α := Int) (β := ((Int × Int) ⊕ (Int ⊕ Int))) (
      (ixO a1 x11).bind fun x27 =>
      (d_ref09_exists a0 x27.El).bind fun r28 =>
      bif r28 then (
        (ixO a1 x11).bind fun x29 =>
        (ixO a0.Elements x29.El).bind fun x30 =>
        some (.inl (w64 (x10 + x30.Length)))
      ) else (
        some (.inl x10)
      )
    ) fun x26 =>
    some (.inl (x26, w64 (x11 + 1)))
  ) else (
    some (.inr (.inl x10))
  )

noncomputable def d_ref09_Length (a0 : T_api_Layout) (a1 : (List T_api_Step)) : Option Int :=
  onInl (α := Int) (β := Int) (loopO (d_ref09_Length_0 a0 a1) (0, 0)) fun x21 =>
  some x21
theorem d_ref09_Length_ok (a0 : T_api_Layout) (a1 : (List T_api_Step)) (r : Int) (h : d_ref09_Length a0 a1 = some r) : PCall Go.Proofs.Tryd.prog GlS 37 [Enc.pv a0, Enc.pv a1] (Enc.pv r) := by
  unfold d_ref09_Length at h
  refine pcall_of_pwp Go.Proofs.Tryd.func37 (by rfl) rfl Go.Proofs.Tryd.ntmps37 (by rfl) rfl ?_
  refine pwp_seq ?_
  refine r_reg ?_
  refine e_end (by kernel_rfl) ?_
  refine q_next ?_
  refine pwp_seq ?_
  refine r_reg ?_
  refine e_end (by kernel_rfl) ?_
  refine q_next ?_
  refine pwp_seq ?_
  refine pwp_seq ?_
  refine r_reg ?_
  refine e_end (by kernel_rfl) ?_
  refine q_next ?_
  refine pwp_block ?_
  obtain ⟨o20, h20, h⟩ := o_inl h
  refine r_loop2 33 0 (fun (x10, x11) => ⟨[(1, lstOf .frozen (a1 : (List T_api_Step))), (2, .ref 2 0), (5, .int .i64 x10), (6, .int .i64 x11)], [(2, .cells (cellsOf a0))], [], []⟩) (fun x21 => ⟨[(5, .int .i64 x21)], [], [], []⟩) h20 (by kernel_rfl) (fun _ => by kernel_rfl) ?_ ?_
  · rintro ⟨x10, x11⟩ oh19 h19
    unfold d_ref09_Length_0 at h19
    refine pwp_seq ?_
    refine pwp_seq ?_
    refine r_reg ?_
    refine p_run 2 (by kernel_rfl) ?_
    refine p_len (L := (a1 : (List T_api_Step))) (by kernel_rfl) ?_
    refine e_end (by kernel_rfl) ?_
    refine q_next ?_
    rcases o_cond h19 with ⟨hb, h19⟩ | ⟨hb, h19⟩
    · refine r_cond_t hb (by kernel_rfl) ?_
      refine pwp_skip ?_
      refine q_next ?_
      obtain ⟨o25, h25, h19⟩ := o_inl h19
      refine r_join (o := o25) 33 (fun x26 => ⟨[(1, lstOf .frozen (a1 : (List T_api_Step))), (2, .ref 2 0), (5, .int .i64 x26), (6, .int .i64 x11)], [(2, .cells (cellsOf a0))], [], []⟩) ?_ ?_
      · refine pwp_block ?_
        refine pwp_seq ?_
        refine r_regd (by kernel_rfl) (by kernel_rfl) ?_
        refine p_run 3 (by kernel_rfl) ?_
        obtain ⟨x27, h26, h25⟩ := o_bind h25
        refine p_ix h26 (by kernel_rfl) ?_
        refine p_run 2 (by kernel_rfl) ?_
        obtain ⟨r28, h27, h25⟩ := o_bind h25
        refine p_call (d_ref09_exists_ok _ _ r28 h27) (by kernel_rfl) (by kernel_rfl) ?_
        refine e_nil (by kernel_rfl) ?_
        refine q_next ?_
        rcases o_cond h25 with ⟨hb, h25⟩ | ⟨hb, h25⟩
        · refine r_cond_t hb (by kernel_rfl) ?_
          refine r_regd (by kernel_rfl) (by kernel_rfl) ?_
          refine p_run 5 (by kernel_rfl) ?_
          obtain ⟨x29, h28, h25⟩ := o_bind h25
          refine p_ix h28 (by kernel_rfl) ?_
          refine p_run 2 (by kernel_rfl) ?_
          obtain ⟨x30, h29, h25⟩ := o_bind h25
          refine p_ix h29 (by kernel_rfl) ?_
          refine e_end (by kernel_rfl) ?_
          refine q_block ?_
          cases h25
          exact q_join (by kernel_rfl) (by kernel_rfl)
        · refine r_cond_f hb (by kernel_rfl) ?_
          refine pwp_skip ?_
          refine q_block ?_
          cases h25
          exact q_join (by kernel_rfl) (by kernel_rfl)
      · rintro x26 rfl
        have h19 := o_outl h19
        refine r_reg ?_
        refine e_end (by kernel_rfl) ?_
        cases h19
        exact q_lback (by kernel_rfl)
    · refine r_cond_f hb (by kernel_rfl) ?_
      refine pwp_exit ?_
      refine q_seq_exit ?_
      cases h19
      exact q_lexit (by kernel_rfl) (by kernel_rfl)
  · rintro x21 s' rfl hs
    have h := o_outl h
    refine q_block_hit ?_
    refine q_next (pwp_wkr hs ?_)
    refine pwp_seq ?_
    refine r_reg ?_
    refine e_end (by kernel_rfl) ?_
    refine q_next ?_
    refine pwp_ret ?_
    cases h
    exact q_ret (by kernel_rfl) (by kernel_rfl) (by kernel_rfl)

/-! signallingref07.Section -/
noncomputable def d_ref07_Section (a0 : T_api_Layout) (a1 : Int) : Option Int :=
  ((bif decide (a1 < 0) then some true else (
    some (decide (((a0.Elements.length : Nat) : Int) ≤ a1))
  )) : Option Bool).bind fun b1 =>
  bif b1 then (
    some (-1)
  ) else (
    (ixO a0.Elements a1).bind fun x2 =>
    some x2.Section
  )
theorem d_ref07_Section_ok (a0 : T_api_Layout) (a1 : Int) (r : Int) (h : d_ref07_Section a0 a1 = some r) : PCall Go.Proofs.Tryd.prog GlS 46 [Enc.pv a0, Enc.pv a1] (Enc.pv r) := by
  unfold d_ref07_Section at h
  refine pcall_of_pwp Go.Proofs.Tryd.func46 (by rfl) rfl Go.Proofs.Tryd.ntmps46 (by rfl) rfl ?_
  refine pwp_seq ?_
  refine r_reg ?_
  refine e_end (by kernel_rfl) ?_
  refine q_next ?_
  refine pwp_seq ?_
  refine pwp_seq ?_
  refine r_reg ?_
  obtain ⟨b1, h1, h⟩ := o_bind h
  refine p_run 3 (by kernel_rfl) ?_
  refine e_seg 6 13 (.bool b1) ?_ ?_
  · rcases o_cond h1 with ⟨hb, h1⟩ | ⟨hb, h1⟩
    · refine p_settle 7 hb (by kernel_rfl) (by kernel_rfl) ?_
      cases h1
      exact f_end (by kernel_rfl) (by kernel_rfl)
    · refine p_settle 7 hb (by kernel_rfl) (by kernel_rfl) ?_
      refine p_run 3 (by kernel_rfl) ?_
      refine p_len (L := (a0.Elements : (List T_api_Element))) (by kernel_rfl) ?_
      cases h1
      exact f_end (by kernel_rfl) (by kernel_rfl)
  · refine e_nil (by kernel_rfl) ?_
    refine q_next ?_
    rcases o_cond h with ⟨hb, h⟩ | ⟨hb, h⟩
    · refine r_cond_t hb (by kernel_rfl) ?_
      refine pwp_seq ?_
      refine r_reg ?_
      refine e_end (by kernel_rfl) ?_
      refine q_next ?_
      refine pwp_ret ?_
      refine q_seq_ret ?_
      cases h
      exact q_ret (by kernel_rfl) (by kernel_rfl) (by kernel_rfl)
    · refine r_cond_f hb (by kernel_rfl) ?_
      refine pwp_skip ?_
      refine q_next ?_
      refine pwp_seq ?_
      refine r_reg ?_
      refine p_run 3 (by kernel_rfl) ?_
      obtain ⟨x2, h2, h⟩ := o_bind h
      refine p_ix h2 (by kernel_rfl) ?_
      refine e_end (by kernel_rfl) ?_
      refine q_next ?_
      refine pwp_ret ?_
      cases h
      exact q_ret (by kernel_rfl) (by kernel_rfl) (by kernel_rfl)

/-! signallingref13.Blocked -/
noncomputable def d_ref13_Blocked_0 (a2 : (List T_api_Step)) (a3 : Int) : Int → Option (Int ⊕ (Unit ⊕ Bool)) := fun x2 =>
  bif decide (x2 < ((a2.length : Nat) : Int)) then (
    (ixO a2 x2).bind fun x4 =>
    bif decide (x4.El = a3) then (
      some (.inr (.inr true))
    ) else (
      some (.inl (w64 (x2 + 1)))
    )
  ) else (
    some (.inr (.inl ()))
  )

noncomputable def d_ref13_Blocked_1 (a0 : T_api_Layout) (a1 : T_api_Route) (a3 : Int) : Int → Option (Int ⊕ (Unit ⊕ Bool)) := fun x7 =>
  bif decide (x7 < ((a1.Sections.length : Nat) : Int)) then (
    (ixO a1.Sections x7).bind fun x10 =>
    (d_ref07_Section a0 a3).bind fun r11 =>
    bif decide (x10 = r11) then (
      some (.inr (.inr true))
    ) else (
      some (.inl (w64 (x7 + 1)))
    )
  ) else (
    some (.inr (.inl ()))
  )

noncomputable def d_ref13_Blocked (a0 : T_api_Layout) (a1 : T_api_Route) (a2 : (List T_api_Step)) (a3 : Int) : Option Bool :=
  onInl (α := Unit) (β := Bool) (loopO (d_ref13_Blocked_0 a2 a3) 0) fun _ =>
  onInl (α := Unit) (β := Bool) (loopO (d_ref13_Blocked_1 a0 a1 a3) 0) fun _ =>
  some false
theorem d_ref13_Blocked_ok (a0 : T_api_Layout) (a1 : T_api_Route) (a2 : (List T_api_Step)) (a3 : Int) (r : Bool) (h : d_ref13_Blocked a0 a1 a2 a3 = some r) : PCall Go.Proofs.Tryd.prog GlS 22 [Enc.pv a0, Enc.pv a1, Enc.pv a2, Enc.pv a3] (Enc.pv r) := by
  unfold d_ref13_Blocked at h
  refine pcall_of_pwp Go.Proofs.Tryd.func22 (by rfl) rfl Go.Proofs.Tryd.ntmps22 (by rfl) rfl ?_
  refine pwp_seq ?_
  refine r_reg ?_
  refine e_end (by kernel_rfl) ?_
  refine q_next ?_
  refine pwp_seq ?_
  refine pwp_seq ?_
  refine r_reg ?_
  refine p_run 1 (by kernel_rfl) ?_
  refine p_len (L := (a2 : (List T_api_Step))) (by kernel_rfl) ?_
  refine e_end (by kernel_rfl) ?_
  refine q_next ?_
  refine pwp_block ?_
  obtain ⟨o6, h6, h⟩ := o_inl h
  refine r_loop2 37 0 (fun x2 => ⟨[(3, .int .i64 a3), (4, .ref 4 0), (5, .ref 5 0), (13, lstOf .frozen (a2 : (List T_api_Step))), (14, .int .i64 ((a2.length : Nat) : Int)), (15, .int .i64 x2)], [(4, .cells (cellsOf a0)), (5, .cells (cellsOf a1))], [], []⟩) (fun (_ : Unit) => ⟨[(3, .int .i64 a3), (4, .ref 4 0), (5, .ref 5 0)], [(4, .cells (cellsOf a0)), (5, .cells (cellsOf a1))], [], []⟩) h6 (by kernel_rfl) (fun _ => by kernel_rfl) ?_ ?_
  · rintro x2 oh5 h5
    unfold d_ref13_Blocked_0 at h5
    refine pwp_seq ?_
    refine r_reg ?_
    refine e_end (by kernel_rfl) ?_
    refine q_next ?_
    refine pwp_seq ?_
    rcases o_cond h5 with ⟨hb, h5⟩ | ⟨hb, h5⟩
    · refine r_cond_t hb (by kernel_rfl) ?_
      refine pwp_skip ?_
      refine q_next ?_
      refine pwp_seq ?_
      refine pwp_block ?_
      refine pwp_seq ?_
      refine r_reg ?_
      obtain ⟨x4, h7, h5⟩ := o_bind h5
      refine p_ix h7 (by kernel_rfl) ?_
      refine e_end (by kernel_rfl) ?_
      refine q_next ?_
      refine pwp_seq ?_
      refine r_reg ?_
      refine e_end (by kernel_rfl) ?_
      refine q_next ?_
      rcases o_cond h5 with ⟨hb, h5⟩ | ⟨hb, h5⟩
      · refine r_cond_t hb (by kernel_rfl) ?_
        refine pwp_seq ?_
        refine r_reg ?_
        refine e_end (by kernel_rfl) ?_
        refine q_next ?_
        refine pwp_ret ?_
        refine q_block_ret ?_
        refine q_seq_ret ?_
        cases h5
        refine q_lout_ret fun he => ?_
        subst he
        have h8 := o_outr h
        refine q_block_ret ?_
        refine q_seq_ret ?_
        cases h8
        exact q_ret (by kernel_rfl) (by kernel_rfl) (by kernel_rfl)
      · refine r_cond_f hb (by kernel_rfl) ?_
        refine pwp_skip ?_
        refine q_block ?_
        refine q_next ?_
        refine r_reg ?_
        refine e_end (by kernel_rfl) ?_
        cases h5
        exact q_lback (by kernel_rfl)
    · refine r_cond_f hb (by kernel_rfl) ?_
      refine pwp_exit ?_
      refine q_seq_exit ?_
      cases h5
      exact q_lexit (by kernel_rfl) (by kernel_rfl)
  · rintro _ s' rfl hs
    have h := o_outl h
    refine q_block_hit ?_
    refine q_next (pwp_wkr hs ?_)
    refine pwp_seq ?_
    refine pwp_seq ?_
    refine r_reg ?_
    refine p_run 2 (by kernel_rfl) ?_
    refine p_len (L := (a1.Sections : (List Int))) (by kernel_rfl) ?_
    refine e_end (by kernel_rfl) ?_
    refine q_next ?_
    refine pwp_block ?_
    obtain ⟨o16, h16, h⟩ := o_inl h
    refine r_loop2 37 2 (fun x7 => ⟨[(3, .int .i64 a3), (4, .ref 4 0), (25, lstOf .frozen (a1.Sections : (List Int))), (26, .int .i64 ((a1.Sections.length : Nat) : Int)), (27, .int .i64 x7)], [(4, .cells (cellsOf a0))], [], []⟩) (fun (_ : Unit) => ⟨[], [], [], []⟩) h16 (by kernel_rfl) (fun _ => by kernel_rfl) ?_ ?_
    · rintro x7 oh15 h15
      unfold d_ref13_Blocked_1 at h15
      refine pwp_seq ?_
      refine r_reg ?_
      refine e_end (by kernel_rfl) ?_
      refine q_next ?_
      refine pwp_seq ?_
      rcases o_cond h15 with ⟨hb, h15⟩ | ⟨hb, h15⟩
      · refine r_cond_t hb (by kernel_rfl) ?_
        refine pwp_skip ?_
        refine q_next ?_
        refine pwp_seq ?_
        refine pwp_block ?_
        refine pwp_seq ?_
        refine r_reg ?_
        obtain ⟨x10, h17, h15⟩ := o_bind h15
        refine p_ix h17 (by kernel_rfl) ?_
        refine e_end (by kernel_rfl) ?_
        refine q_next ?_
        refine pwp_seq ?_
        refine r_reg ?_
        refine p_run 3 (by kernel_rfl) ?_
        obtain ⟨r11, h18, h15⟩ := o_bind h15
        refine p_call (d_ref07_Section_ok _ _ r11 h18) (by kernel_rfl) (by kernel_rfl) ?_
        refine e_end (by kernel_rfl) ?_
        refine q_next ?_
        rcases o_cond h15 with ⟨hb, h15⟩ | ⟨hb, h15⟩
        · refine r_cond_t hb (by kernel_rfl) ?_
          refine pwp_seq ?_
          refine r_reg ?_
          refine e_end (by kernel_rfl) ?_
          refine q_next ?_
          refine pwp_ret ?_
          refine q_block_ret ?_
          refine q_seq_ret ?_
          cases h15
          refine q_lout_ret fun he => ?_
          subst he
          have h19 := o_outr h
          refine q_block_ret ?_
          refine q_seq_ret ?_
          cases h19
          exact q_ret (by kernel_rfl) (by kernel_rfl) (by kernel_rfl)
        · refine r_cond_f hb (by kernel_rfl) ?_
          refine pwp_skip ?_
          refine q_block ?_
          refine q_next ?_
          refine r_reg ?_
          refine e_end (by kernel_rfl) ?_
          cases h15
          exact q_lback (by kernel_rfl)
      · refine r_cond_f hb (by kernel_rfl) ?_
        refine pwp_exit ?_
        refine q_seq_exit ?_
        cases h15
        exact q_lexit (by kernel_rfl) (by kernel_rfl)
    · rintro _ s' rfl hs
      have h := o_outl h
      refine q_block_hit ?_
      refine q_next (pwp_wkr hs ?_)
      refine pwp_seq ?_
      refine r_reg ?_
      refine e_end (by kernel_rfl) ?_
      refine q_next ?_
      refine pwp_ret ?_
      cases h
      exact q_ret (by kernel_rfl) (by kernel_rfl) (by kernel_rfl)

/-! signallingref06.Need -/
noncomputable def d_ref06_Need (a0 : Int) (a1 : Int) (a2 : Int) : Option (Int × Bool) :=
  bif ((decide (a0 = 1)) || (decide (a0 = 3))) then (
    some (0, (((decide ((min a1 a2) = 0)) && (decide ((max a1 a2) = 1))) || (((decide (a0 = 3)) && (decide ((min a1 a2) = 2))) && (decide ((max a1 a2) = 3)))))
  ) else (
    bif (((decide (a0 = 2)) && (decide ((min a1 a2) = 0))) && (decide ((max a1 a2) = 1))) then (
      some (1, true)
    ) else (
      bif (((decide (a0 = 2)) && (decide ((min a1 a2) = 0))) && (decide ((max a1 a2) = 2))) then (
        some (2, true)
      ) else (
        some (0, false)
      )
    )
  )
theorem d_ref06_Need_ok (a0 : Int) (a1 : Int) (a2 : Int) (r : (Int × Bool)) (h : d_ref06_Need a0 a1 a2 = some r) : PCall Go.Proofs.Tryd.prog GlS 94 [Enc.pv a0, Enc.pv a1, Enc.pv a2] (.tup [Enc.pv r.1, Enc.pv r.2]) := by
  unfold d_ref06_Need at h
  refine pcall_of_pwp Go.Proofs.Tryd.func94 (by rfl) rfl Go.Proofs.Tryd.ntmps94 (by rfl) rfl ?_
  refine pwp_seq ?_
  refine r_reg ?_
  refine e_end (by kernel_rfl) ?_
  refine q_next ?_
  refine pwp_seq ?_
  refine r_reg ?_
  refine e_end (by kernel_rfl) ?_
  refine q_next ?_
  refine pwp_seq ?_
  refine r_reg ?_
  refine e_end (by kernel_rfl) ?_
  refine q_next ?_
  refine pwp_seq ?_
  refine pwp_seq ?_
  refine r_reg ?_
  refine p_run 3 (by kernel_rfl) ?_
  refine e_segb 3 21 ((decide (a0 = 1)) || (decide (a0 = 3))) (fun x hx => ?_) ?_
  · rcases b_or hx with ⟨hb, hx⟩ | ⟨hb, hx⟩
    · refine p_settle 18 hb (by kernel_rfl) (by kernel_rfl) ?_
      subst hx
      exact f_end (by kernel_rfl) (by kernel_rfl)
    · refine p_settle 18 hb (by kernel_rfl) (by kernel_rfl) ?_
      subst hx
      exact f_end (by kernel_rfl) (by kernel_rfl)
  · refine e_nil (by kernel_rfl) ?_
    refine q_next ?_
    rcases o_cond h with ⟨hb, h⟩ | ⟨hb, h⟩
    · refine r_cond_t hb (by kernel_rfl) ?_
      refine pwp_seq ?_
      refine r_reg ?_
      refine p_run 3 (by kernel_rfl) ?_
      refine e_segb 3 27 ((decide ((min a1 a2) = 0)) && (decide ((max a1 a2) = 1))) (fun x hx => ?_) ?_
      · rcases b_and hx with ⟨hb, hx⟩ | ⟨hb, hx⟩
        · refine p_settle 24 hb (by kernel_rfl) (by kernel_rfl) ?_
          subst hx
          exact f_end (by kernel_rfl) (by kernel_rfl)
        · refine p_settle 24 hb (by kernel_rfl) (by kernel_rfl) ?_
          subst hx
          exact f_end (by kernel_rfl) (by kernel_rfl)
      · refine p_run 1 (by kernel_rfl) ?_
        refine e_segb 11 39 (((decide ((min a1 a2) = 0)) && (decide ((max a1 a2) = 1))) || (((decide (a0 = 3)) && (decide ((min a1 a2) = 2))) && (decide ((max a1 a2) = 3)))) (fun x hx => ?_) ?_
        · rcases b_or hx with ⟨hb, hx⟩ | ⟨hb, hx⟩
          · refine p_settle 28 hb (by kernel_rfl) (by kernel_rfl) ?_
            subst hx
            exact f_end (by kernel_rfl) (by kernel_rfl)
          · refine p_settle 28 hb (by kernel_rfl) (by kernel_rfl) ?_
            refine p_run 3 (by kernel_rfl) ?_
            refine f_segb 3 34 ((decide (a0 = 3)) && (decide ((min a1 a2) = 2))) (fun x hx => ?_) ?_
            · rcases b_and hx with ⟨hb, hx⟩ | ⟨hb, hx⟩
              · refine p_settle 31 hb (by kernel_rfl) (by kernel_rfl) ?_
                subst hx
                exact f_end (by kernel_rfl) (by kernel_rfl)
              · refine p_settle 31 hb (by kernel_rfl) (by kernel_rfl) ?_
                subst hx
                exact f_end (by kernel_rfl) (by kernel_rfl)
            · refine p_run 1 (by kernel_rfl) ?_
              refine f_segb 3 38 (((decide (a0 = 3)) && (decide ((min a1 a2) = 2))) && (decide ((max a1 a2) = 3))) (fun x hx => ?_) ?_
              · rcases b_and hx with ⟨hb, hx⟩ | ⟨hb, hx⟩
                · refine p_settle 35 hb (by kernel_rfl) (by kernel_rfl) ?_
                  subst hx
                  exact f_end (by kernel_rfl) (by kernel_rfl)
                · refine p_settle 35 hb (by kernel_rfl) (by kernel_rfl) ?_
                  subst hx
                  exact f_end (by kernel_rfl) (by kernel_rfl)
              · subst hx
                exact f_end (by kernel_rfl) (by kernel_rfl)
        · refine e_end (by kernel_rfl) ?_
          refine q_next ?_
          refine pwp_ret ?_
          refine q_seq_ret ?_
          cases h
          exact q_ret (by kernel_rfl) (by kernel_rfl) (by kernel_rfl)
    · refine r_cond_f hb (by kernel_rfl) ?_
      refine pwp_skip ?_
      refine q_next ?_
      refine pwp_seq ?_
      refine pwp_seq ?_
      refine r_reg ?_
      refine p_run 3 (by kernel_rfl) ?_
      refine e_segb 3 45 ((decide (a0 = 2)) && (decide ((min a1 a2) = 0))) (fun x hx => ?_) ?_
      · rcases b_and hx with ⟨hb, hx⟩ | ⟨hb, hx⟩
        · refine p_settle 42 hb (by kernel_rfl) (by kernel_rfl) ?_
          subst hx
          exact f_end (by kernel_rfl) (by kernel_rfl)
        · refine p_settle 42 hb (by kernel_rfl) (by kernel_rfl) ?_
          subst hx
          exact f_end (by kernel_rfl) (by kernel_rfl)
      · refine p_run 1 (by kernel_rfl) ?_
        refine e_segb 3 49 (((decide (a0 = 2)) && (decide ((min a1 a2) = 0))) && (decide ((max a1 a2) = 1))) (fun x hx => ?_) ?_
        · rcases b_and hx with ⟨hb, hx⟩ | ⟨hb, hx⟩
          · refine p_settle 46 hb (by kernel_rfl) (by kernel_rfl) ?_
            subst hx
            exact f_end (by kernel_rfl) (by kernel_rfl)
          · refine p_settle 46 hb (by kernel_rfl) (by kernel_rfl) ?_
            subst hx
            exact f_end (by kernel_rfl) (by kernel_rfl)
        · refine e_nil (by kernel_rfl) ?_
          refine q_next ?_
          rcases o_cond h with ⟨hb, h⟩ | ⟨hb, h⟩
          · refine r_cond_t hb (by kernel_rfl) ?_
            refine pwp_seq ?_
            refine r_reg ?_
            refine e_end (by kernel_rfl) ?_
            refine q_next ?_
            refine pwp_ret ?_
            refine q_seq_ret ?_
            cases h
            exact q_ret (by kernel_rfl) (by kernel_rfl) (by kernel_rfl)
          · refine r_cond_f hb (by kernel_rfl) ?_
            refine pwp_skip ?_
            refine q_next ?_
            refine pwp_seq ?_
            refine pwp_seq ?_
            refine r_reg ?_
            refine p_run 3 (by kernel_rfl) ?_
            refine e_segb 3 55 ((decide (a0 = 2)) && (decide ((min a1 a2) = 0))) (fun x hx => ?_) ?_
            · rcases b_and hx with ⟨hb, hx⟩ | ⟨hb, hx⟩
              · refine p_settle 52 hb (by kernel_rfl) (by kernel_rfl) ?_
                subst hx
                exact f_end (by kernel_rfl) (by kernel_rfl)
              · refine p_settle 52 hb (by kernel_rfl) (by kernel_rfl) ?_
                subst hx
                exact f_end (by kernel_rfl) (by kernel_rfl)
            · refine p_run 1 (by kernel_rfl) ?_
              refine e_segb 3 59 (((decide (a0 = 2)) && (decide ((min a1 a2) = 0))) && (decide ((max a1 a2) = 2))) (fun x hx => ?_) ?_
              · rcases b_and hx with ⟨hb, hx⟩ | ⟨hb, hx⟩
                · refine p_settle 56 hb (by kernel_rfl) (by kernel_rfl) ?_
                  subst hx
                  exact f_end (by kernel_rfl) (by kernel_rfl)
                · refine p_settle 56 hb (by kernel_rfl) (by kernel_rfl) ?_
                  subst hx
                  exact f_end (by kernel_rfl) (by kernel_rfl)
              · refine e_nil (by kernel_rfl) ?_
                refine q_next ?_
                rcases o_cond h with ⟨hb, h⟩ | ⟨hb, h⟩
                · refine r_cond_t hb (by kernel_rfl) ?_
                  refine pwp_seq ?_
                  refine r_reg ?_
                  refine e_end (by kernel_rfl) ?_
                  refine q_next ?_
                  refine pwp_ret ?_
                  refine q_seq_ret ?_
                  cases h
                  exact q_ret (by kernel_rfl) (by kernel_rfl) (by kernel_rfl)
                · refine r_cond_f hb (by kernel_rfl) ?_
                  refine pwp_skip ?_
                  refine q_next ?_
                  refine pwp_seq ?_
                  refine r_reg ?_
                  refine e_end (by kernel_rfl) ?_
                  refine q_next ?_
                  refine pwp_ret ?_
                  cases h
                  exact q_ret (by kernel_rfl) (by kernel_rfl) (by kernel_rfl)

/-! signallingref06.Legs -/
noncomputable def d_ref06_Legs_0 (a0 : Int) (a1 : Int) : (Int × (List Int)) → Option ((Int × (List Int)) ⊕ ((List Int) ⊕ (List Int))) := fun (x12, x13) =>
  bif decide (x12 < 4) then (
    onInl (α := (List Int)) (β := ((Int × (List Int)) ⊕ ((List Int) ⊕ (List Int)))) (
      (d_ref06_Need a0 a1 x12).bind fun r23 =>
      bif r23.2 then (
        (appO x13 [x12]).bind fun x24 =>
        some (.inl x24)
      ) else (
        some (.inl x13)
      )
    ) fun x22 =>
    some (.inl (w64 (x12 + 1), x22))
  ) else (
    some (.inr (.inl x13))
  )

noncomputable def d_ref06_Legs (a0 : Int) (a1 : Int) : Option (List Int) :=
  onInl (α := (List Int)) (β := (List Int)) (loopO (d_ref06_Legs_0 a0 a1) (0, ([] : (List Int)))) fun x19 =>
  some x19
theorem d_ref06_Legs_ok (a0 : Int) (a1 : Int) (r : (List Int)) (h : d_ref06_Legs a0 a1 = some r) : PCall Go.Proofs.Tryd.prog GlS 69 [Enc.pv a0, Enc.pv a1] (lstOf (.own 100005) r) := by
  unfold d_ref06_Legs at h
  refine pcall_of_pwp Go.Proofs.Tryd.func69 (by rfl) rfl Go.Proofs.Tryd.ntmps69 (by rfl) rfl ?_
  refine pwp_seq ?_
  refine r_reg ?_
  refine e_end (by kernel_rfl) ?_
  refine q_next ?_
  refine pwp_seq ?_
  refine r_reg ?_
  refine e_end (by kernel_rfl) ?_
  refine q_next ?_
  refine pwp_seq ?_
  refine pwp_seq ?_
  refine r_reg ?_
  refine e_end (by kernel_rfl) ?_
  refine q_next ?_
  refine pwp_block ?_
  refine g_nil 5 100005 1 8 (by kernel_rfl) (by kernel_rfl) ?_
  obtain ⟨o17, h17, h⟩ := o_inl h
  refine r_loop2 26 0 (fun (x12, x13) => ⟨[(0, .int .i64 a0), (1, .int .i64 a1), (5, lstOf (.own 100005) (x13 : (List Int))), (6, .int .i64 x12)], [], [(100005, (((x13).map cellsOf).length, 1))], []⟩) (fun x19 => ⟨[(5, lstOf (.own 100005) (x19 : (List Int)))], [], [(100005, (((x19).map cellsOf).length, 1))], []⟩) h17 (by kernel_rfl) (fun _ => by kernel_rfl) ?_ ?_
  · rintro ⟨x12, x13⟩ oh16 h16
    unfold d_ref06_Legs_0 at h16
    refine pwp_seq ?_
    refine pwp_seq ?_
    refine r_reg ?_
    refine e_end (by kernel_rfl) ?_
    refine q_next ?_
    rcases o_cond h16 with ⟨hb, h16⟩ | ⟨hb, h16⟩
    · refine r_cond_t hb (by kernel_rfl) ?_
      refine pwp_skip ?_
      refine q_next ?_
      obtain ⟨o20, h20, h16⟩ := o_inl h16
      refine r_join (o := o20) 26 (fun x22 => ⟨[(0, .int .i64 a0), (1, .int .i64 a1), (5, lstOf (.own 100005) (x22 : (List Int))), (6, .int .i64 x12)], [], [(100005, (((x22).map cellsOf).length, 1))], []⟩) ?_ ?_
      · refine pwp_block ?_
        refine pwp_seq ?_
        refine r_reg ?_
        refine p_run 3 (by kernel_rfl) ?_
        obtain ⟨r23, h21, h20⟩ := o_bind h20
        refine p_call (d_ref06_Need_ok _ _ _ r23 h21) (by kernel_rfl) (by kernel_rfl) ?_
        refine e_end (by kernel_rfl) ?_
        refine q_next ?_
        refine pwp_seq ?_
        refine r_reg ?_
        refine e_end (by kernel_rfl) ?_
        refine q_next ?_
        rcases o_cond h20 with ⟨hb, h20⟩ | ⟨hb, h20⟩
        · refine r_cond_t hb (by kernel_rfl) ?_
          refine r_reg ?_
          refine p_run 3 (by kernel_rfl) ?_
          obtain ⟨x24, h22, h20⟩ := o_bind h20
          refine p_app (tk := 100005) h22 (by kernel_rfl) (by kernel_rfl) ?_
          refine e_end (by kernel_rfl) ?_
          refine q_block ?_
          cases h20
          exact q_join (by kernel_rfl) (by kernel_rfl)
        · refine r_cond_f hb (by kernel_rfl) ?_
          refine pwp_skip ?_
          refine q_block ?_
          cases h20
          exact q_join (by kernel_rfl) (by kernel_rfl)
      · rintro x22 rfl
        have h16 := o_outl h16
        refine r_reg ?_
        refine e_end (by kernel_rfl) ?_
        cases h16
        exact q_lback (by kernel_rfl)
    · refine r_cond_f hb (by kernel_rfl) ?_
      refine pwp_exit ?_
      refine q_seq_exit ?_
      cases h16
      exact q_lexit (by kernel_rfl) (by kernel_rfl)
  · rintro x19 s' rfl hs
    have h := o_outl h
    refine q_block_hit ?_
    refine q_next (pwp_wkr hs ?_)
    refine pwp_seq ?_
    refine r_reg ?_
    refine e_end (by kernel_rfl) ?_
    refine q_next ?_
    refine pwp_ret ?_
    cases h
    exact q_ret (by kernel_rfl) (by kernel_rfl) (by kernel_rfl)
theorem d_ref06_Legs_fz (a0 : Int) (a1 : Int) (r : (List Int)) (h : d_ref06_Legs a0 a1 = some r) : PCall Go.Proofs.Tryd.prog GlS 69 [Enc.pv a0, Enc.pv a1] (Enc.pv r) :=
  (d_ref06_Legs_ok a0 a1 r h).freeze (by kernel_rfl) (by kernel_rfl) (by kernel_rfl)

/-! signallingref09.Branches -/
noncomputable def d_ref09_Branches_0 (a1 : T_api_End) (r3 : (List Int)) : (Int × (List T_api_Step)) → Option ((Int × (List T_api_Step)) ⊕ ((List T_api_Step) ⊕ (List T_api_Step))) := fun (x9, x10) =>
  bif decide (x9 < ((r3.length : Nat) : Int)) then (
    (ixO r3 x9).bind fun x14 =>
    (appO x10 [(T_api_Step.mk a1.El a1.Side x14)]).bind fun x15 =>
    some (.inl (w64 (x9 + 1), x15))
  ) else (
    some (.inr (.inl x10))
  )

noncomputable def d_ref09_Branches (a0 : T_api_Layout) (a1 : T_api_End) : Option (List T_api_Step) :=
  (d_ref09_exists a0 a1.El).bind fun r1 =>
  bif (!r1) then (
    some ([] : (List T_api_Step))
  ) else (
    (ixO a0.Elements a1.El).bind fun x2 =>
    (d_ref06_Legs x2.Kind a1.Side).bind fun r3 =>
    onInl (α := (List T_api_Step)) (β := (List T_api_Step)) (loopO (d_ref09_Branches_0 a1 r3) (0, ([] : (List T_api_Step)))) fun x13 =>
    some x13
  )
theorem d_ref09_Branches_ok (a0 : T_api_Layout) (a1 : T_api_End) (r : (List T_api_Step)) (h : d_ref09_Branches a0 a1 = some r) : PCall Go.Proofs.Tryd.prog GlS 38 [Enc.pv a0, Enc.pv a1] (lstOf (.own 100006) r) := by
  unfold d_ref09_Branches at h
  refine pcall_of_pwp Go.Proofs.Tryd.func38 (by rfl) rfl Go.Proofs.Tryd.ntmps38 (by rfl) rfl ?_
  refine pwp_seq ?_
  refine r_reg ?_
  refine e_end (by kernel_rfl) ?_
  refine q_next ?_
  refine pwp_seq ?_
  refine pwp_seq ?_
  refine r_reg ?_
  refine p_run 3 (by kernel_rfl) ?_
  obtain ⟨r1, h1, h⟩ := o_bind h
  refine p_call (d_ref09_exists_ok _ _ r1 h1) (by kernel_rfl) (by kernel_rfl) ?_
  refine e_end (by kernel_rfl) ?_
  refine q_next ?_
  rcases o_cond h with ⟨hb, h⟩ | ⟨hb, h⟩
  · refine r_cond_t hb (by kernel_rfl) ?_
    refine pwp_seq ?_
    refine r_reg ?_
    refine e_end (by kernel_rfl) ?_
    refine q_next ?_
    refine g_nil 4 100006 3 24 (by kernel_rfl) (by kernel_rfl) ?_
    refine pwp_ret ?_
    refine q_seq_ret ?_
    cases h
    exact q_ret (by kernel_rfl) (by kernel_rfl) (by kernel_rfl)
  · refine r_cond_f hb (by kernel_rfl) ?_
    refine pwp_skip ?_
    refine q_next ?_
    refine pwp_seq ?_
    refine r_regd (by kernel_rfl) (by kernel_rfl) ?_
    refine p_run 4 (by kernel_rfl) ?_
    obtain ⟨x2, h2, h⟩ := o_bind h
    refine p_ix h2 (by kernel_rfl) ?_
    refine p_run 4 (by kernel_rfl) ?_
    obtain ⟨r3, h3, h⟩ := o_bind h
    refine p_call (d_ref06_Legs_fz _ _ r3 h3) (by kernel_rfl) (by kernel_rfl) ?_
    refine e_end (by kernel_rfl) ?_
    refine q_next ?_
    refine pwp_seq ?_
    refine r_reg ?_
    refine e_end (by kernel_rfl) ?_
    refine q_next ?_
    refine pwp_seq ?_
    refine pwp_seq ?_
    refine r_reg ?_
    refine e_end (by kernel_rfl) ?_
    refine q_next ?_
    refine pwp_block ?_
    refine g_nil 6 100006 3 24 (by kernel_rfl) (by kernel_rfl) ?_
    obtain ⟨o11, h11, h⟩ := o_inl h
    refine r_loop2 42 0 (fun (x9, x10) => ⟨[(3, .ref 3 0), (5, lstOf .frozen (r3 : (List Int))), (6, lstOf (.own 100006) (x10 : (List T_api_Step))), (7, .int .i64 x9)], [(3, .cells (cellsOf a1))], [(100006, (((x10).map cellsOf).length, 3))], []⟩) (fun x13 => ⟨[(6, lstOf (.own 100006) (x13 : (List T_api_Step)))], [], [(100006, (((x13).map cellsOf).length, 3))], []⟩) h11 (by kernel_rfl) (fun _ => by kernel_rfl) ?_ ?_
    · rintro ⟨x9, x10⟩ oh10 h10
      unfold d_ref09_Branches_0 at h10
      refine pwp_seq ?_
      refine pwp_seq ?_
      refine r_reg ?_
      refine p_run 2 (by kernel_rfl) ?_
      refine p_len (L := (r3 : (List Int))) (by kernel_rfl) ?_
      refine e_end (by kernel_rfl) ?_
      refine q_next ?_
      rcases o_cond h10 with ⟨hb, h10⟩ | ⟨hb, h10⟩
      · refine r_cond_t hb (by kernel_rfl) ?_
        refine pwp_skip ?_
        refine q_next ?_
        refine pwp_seq ?_
        refine pwp_block ?_
        refine r_regd (by kernel_rfl) (by kernel_rfl) ?_
        refine p_run 7 (by kernel_rfl) ?_
        obtain ⟨x14, h12, h10⟩ := o_bind h10
        refine p_ix h12 (by kernel_rfl) ?_
        refine p_run 3 (by kernel_rfl) ?_
        obtain ⟨x15, h13, h10⟩ := o_bind h10
        refine p_app (tk := 100006) h13 (by kernel_rfl) (by kernel_rfl) ?_
        refine e_end (by kernel_rfl) ?_
        refine q_block ?_
        refine q_next ?_
        refine r_reg ?_
        refine e_end (by kernel_rfl) ?_
        cases h10
        exact q_lback (by kernel_rfl)
      · refine r_cond_f hb (by kernel_rfl) ?_
        refine pwp_exit ?_
        refine q_seq_exit ?_
        cases h10
        exact q_lexit (by kernel_rfl) (by kernel_rfl)
    · rintro x13 s' rfl hs
      have h := o_outl h
      refine q_block_hit ?_
      refine q_next (pwp_wkr hs ?_)
      refine pwp_seq ?_
      refine r_reg ?_
      refine e_end (by kernel_rfl) ?_
      refine q_next ?_
      refine pwp_ret ?_
      cases h
      exact q_ret (by kernel_rfl) (by kernel_rfl) (by kernel_rfl)
theorem d_ref09_Branches_fz (a0 : T_api_Layout) (a1 : T_api_End) (r : (List T_api_Step)) (h : d_ref09_Branches a0 a1 = some r) : PCall Go.Proofs.Tryd.prog GlS 38 [Enc.pv a0, Enc.pv a1] (Enc.pv r) :=
  (d_ref09_Branches_ok a0 a1 r h).freeze (by kernel_rfl) (by kernel_rfl) (by kernel_rfl)

/-! signallingref09.Next -/
noncomputable def d_ref09_Next (a0 : T_api_Layout) (a1 : T_api_Step) : Option (T_api_End × Bool) :=
  (d_ref07_Joined a0 (T_api_End.mk a1.El a1.Out)).bind fun r1 =>
  some (r1.1, r1.2)
theorem d_ref09_Next_ok (a0 : T_api_Layout) (a1 : T_api_Step) (r : (T_api_End × Bool)) (h : d_ref09_Next a0 a1 = some r) : PCall Go.Proofs.Tryd.prog GlS 21 [Enc.pv a0, Enc.pv a1] (.tup [Enc.pv r.1, Enc.pv r.2]) := by
  unfold d_ref09_Next at h
  refine pcall_of_pwp Go.Proofs.Tryd.func21 (by rfl) rfl Go.Proofs.Tryd.ntmps21 (by rfl) rfl ?_
  refine pwp_seq ?_
  refine r_reg ?_
  refine e_end (by kernel_rfl) ?_
  refine q_next ?_
  refine pwp_seq ?_
  refine r_reg ?_
  refine p_run 6 (by kernel_rfl) ?_
  obtain ⟨r1, h1, h⟩ := o_bind h
  refine p_call (d_ref07_Joined_ok _ _ r1 h1) (by kernel_rfl) (by kernel_rfl) ?_
  refine e_end (by kernel_rfl) ?_
  refine q_next ?_
  refine pwp_ret ?_
  cases h
  exact q_ret (by kernel_rfl) (by kernel_rfl) (by kernel_rfl)

/-! signallingref09.need -/
noncomputable def d_ref09_need (a0 : T_api_Layout) (a1 : T_api_Step) : Option (Int × Bool) :=
  (d_ref09_exists a0 a1.El).bind fun r1 =>
  bif (!r1) then (
    some (0, false)
  ) else (
    (ixO a0.Elements a1.El).bind fun x2 =>
    (d_ref06_Need x2.Kind a1.In a1.Out).bind fun r3 =>
    some (r3.1, r3.2)
  )
theorem d_ref09_need_ok (a0 : T_api_Layout) (a1 : T_api_Step) (r : (Int × Bool)) (h : d_ref09_need a0 a1 = some r) : PCall Go.Proofs.Tryd.prog GlS 70 [Enc.pv a0, Enc.pv a1] (.tup [Enc.pv r.1, Enc.pv r.2]) := by
  unfold d_ref09_need at h
  refine pcall_of_pwp Go.Proofs.Tryd.func70 (by rfl) rfl Go.Proofs.Tryd.ntmps70 (by rfl) rfl ?_
  refine pwp_seq ?_
  refine r_reg ?_
  refine e_end (by kernel_rfl) ?_
  refine q_next ?_
  refine pwp_seq ?_
  refine pwp_seq ?_
  refine r_reg ?_
  refine p_run 3 (by kernel_rfl) ?_
  obtain ⟨r1, h1, h⟩ := o_bind h
  refine p_call (d_ref09_exists_ok _ _ r1 h1) (by kernel_rfl) (by kernel_rfl) ?_
  refine e_end (by kernel_rfl) ?_
  refine q_next ?_
  rcases o_cond h with ⟨hb, h⟩ | ⟨hb, h⟩
  · refine r_cond_t hb (by kernel_rfl) ?_
    refine pwp_seq ?_
    refine r_reg ?_
    refine e_end (by kernel_rfl) ?_
    refine q_next ?_
    refine pwp_ret ?_
    refine q_seq_ret ?_
    cases h
    exact q_ret (by kernel_rfl) (by kernel_rfl) (by kernel_rfl)
  · refine r_cond_f hb (by kernel_rfl) ?_
    refine pwp_skip ?_
    refine q_next ?_
    refine pwp_seq ?_
    refine r_regd (by kernel_rfl) (by kernel_rfl) ?_
    refine p_run 4 (by kernel_rfl) ?_
    obtain ⟨x2, h2, h⟩ := o_bind h
    refine p_ix h2 (by kernel_rfl) ?_
    refine p_run 6 (by kernel_rfl) ?_
    obtain ⟨r3, h3, h⟩ := o_bind h
    refine p_call (d_ref06_Need_ok _ _ _ r3 h3) (by kernel_rfl) (by kernel_rfl) ?_
    refine e_end (by kernel_rfl) ?_
    refine q_next ?_
    refine pwp_ret ?_
    cases h
    exact q_ret (by kernel_rfl) (by kernel_rfl) (by kernel_rfl)

end PM
