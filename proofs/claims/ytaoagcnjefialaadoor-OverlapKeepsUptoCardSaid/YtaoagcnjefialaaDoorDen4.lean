/-
  Plain functions for the program's functions, and the proofs that the program does them. Printed by den.py.
-/
import Derived.Test.YtaoagcnjefialaaDoorDen3
namespace PM
open Go Go.RowKit
attribute [local irreducible] pops pwp

/-! signallinglaw13.OverlapFinds -/
noncomputable def d_law13_OverlapFinds (a0 : T_api_Layout) (a1 : T_api_Route) : Option Bool :=
  (d_law13_good a0).bind fun r1 =>
  ((bif (!r1) then some true else (
    (d_law13_few a1).bind fun r3 =>
    some (!r3)
  )) : Option Bool).bind fun b2 =>
  ((bif b2 then some true else (
    (d_overlap_Find a0 a1).bind fun r5 =>
    (d_ref13_Find a0 a1).bind fun r6 =>
    (d_ref12_Same r5 r6).bind fun r7 =>
    some r7
  )) : Option Bool).bind fun b4 =>
  ((bif b4 then (
    (d_law13_alive ).bind fun r9 =>
    some r9
  ) else some false) : Option Bool).bind fun b8 =>
  some b8
theorem d_law13_OverlapFinds_ok (a0 : T_api_Layout) (a1 : T_api_Route) (r : Bool) (h : d_law13_OverlapFinds a0 a1 = some r) : PCall Go.Proofs.Tryd.prog GlS 3 [Enc.pv a0, Enc.pv a1] (Enc.pv r) := by
  unfold d_law13_OverlapFinds at h
  refine pcall_of_pwp Go.Proofs.Tryd.func3 (by rfl) rfl Go.Proofs.Tryd.ntmps3 (by rfl) rfl ?_
  refine pwp_seq ?_
  refine r_reg ?_
  refine e_end (by kernel_rfl) ?_
  refine q_next ?_
  refine pwp_seq ?_
  refine r_regd (by kernel_rfl) (by kernel_rfl) ?_
  refine p_run 1 (by kernel_rfl) ?_
  obtain ⟨r1, h1, h⟩ := o_bind h
  refine p_call (d_law13_good_ok _ r1 h1) (by kernel_rfl) (by kernel_rfl) ?_
  obtain ⟨b2, h2, h⟩ := o_bind h
  refine p_run 2 (by kernel_rfl) ?_
  refine e_seg 4 12 (.bool b2) ?_ ?_
  · rcases o_cond h2 with ⟨hb, h2⟩ | ⟨hb, h2⟩
    · refine p_settle 8 hb (by kernel_rfl) (by kernel_rfl) ?_
      cases h2
      exact f_end (by kernel_rfl) (by kernel_rfl)
    · refine p_settle 8 hb (by kernel_rfl) (by kernel_rfl) ?_
      refine p_run 1 (by kernel_rfl) ?_
      obtain ⟨r3, h3, h2⟩ := o_bind h2
      refine p_call (d_law13_few_ok _ r3 h3) (by kernel_rfl) (by kernel_rfl) ?_
      cases h2
      exact f_end (by kernel_rfl) (by kernel_rfl)
  · obtain ⟨b4, h4, h⟩ := o_bind h
    refine p_run 1 (by kernel_rfl) ?_
    refine e_seg 8 21 (.bool b4) ?_ ?_
    · rcases o_cond h4 with ⟨hb, h4⟩ | ⟨hb, h4⟩
      · refine p_settle 13 hb (by kernel_rfl) (by kernel_rfl) ?_
        cases h4
        exact f_end (by kernel_rfl) (by kernel_rfl)
      · refine p_settle 13 hb (by kernel_rfl) (by kernel_rfl) ?_
        refine p_run 2 (by kernel_rfl) ?_
        obtain ⟨r5, h5, h4⟩ := o_bind h4
        refine p_call (d_overlap_Find_ok _ _ r5 h5) (by kernel_rfl) (by kernel_rfl) ?_
        refine p_run 2 (by kernel_rfl) ?_
        obtain ⟨r6, h6, h4⟩ := o_bind h4
        refine p_call (d_ref13_Find_ok _ _ r6 h6) (by kernel_rfl) (by kernel_rfl) ?_
        obtain ⟨r7, h7, h4⟩ := o_bind h4
        refine p_call (d_ref12_Same_ok _ _ r7 h7) (by kernel_rfl) (by kernel_rfl) ?_
        cases h4
        exact f_end (by kernel_rfl) (by kernel_rfl)
    · obtain ⟨b8, h8, h⟩ := o_bind h
      refine p_run 1 (by kernel_rfl) ?_
      refine e_seg 2 24 (.bool b8) ?_ ?_
      · rcases o_cond h8 with ⟨hb, h8⟩ | ⟨hb, h8⟩
        · refine p_settle 22 hb (by kernel_rfl) (by kernel_rfl) ?_
          obtain ⟨r9, h9, h8⟩ := o_bind h8
          refine p_call (d_law13_alive_ok  r9 h9) (by kernel_rfl) (by kernel_rfl) ?_
          cases h8
          exact f_end (by kernel_rfl) (by kernel_rfl)
        · refine p_settle 22 hb (by kernel_rfl) (by kernel_rfl) ?_
          cases h8
          exact f_end (by kernel_rfl) (by kernel_rfl)
      · refine e_end (by kernel_rfl) ?_
        refine q_next ?_
        refine pwp_ret ?_
        cases h
        exact q_ret (by kernel_rfl) (by kernel_rfl) (by kernel_rfl)

/-! signallingref13.Length -/
noncomputable def d_ref13_Length (a0 : T_api_Layout) (a1 : T_api_Route) : Option Int :=
  (d_ref09_Length a0 a1.Over).bind fun r1 =>
  some r1
theorem d_ref13_Length_ok (a0 : T_api_Layout) (a1 : T_api_Route) (r : Int) (h : d_ref13_Length a0 a1 = some r) : PCall Go.Proofs.Tryd.prog GlS 15 [Enc.pv a0, Enc.pv a1] (Enc.pv r) := by
  unfold d_ref13_Length at h
  refine pcall_of_pwp Go.Proofs.Tryd.func15 (by rfl) rfl Go.Proofs.Tryd.ntmps15 (by rfl) rfl ?_
  refine pwp_seq ?_
  refine r_reg ?_
  refine e_end (by kernel_rfl) ?_
  refine q_next ?_
  refine pwp_seq ?_
  refine r_reg ?_
  refine p_run 3 (by kernel_rfl) ?_
  obtain ⟨r1, h1, h⟩ := o_bind h
  refine p_call (d_ref09_Length_ok _ _ r1 h1) (by kernel_rfl) (by kernel_rfl) ?_
  refine e_end (by kernel_rfl) ?_
  refine q_next ?_
  refine pwp_ret ?_
  cases h
  exact q_ret (by kernel_rfl) (by kernel_rfl) (by kernel_rfl)

/-! signallingref13.Whole -/
noncomputable def d_ref13_Whole (a0 : T_api_Layout) (a1 : T_api_Route) : Option Bool :=
  (d_ref13_exit a0 a1).bind fun r1 =>
  ((bif (!r1.2) then some true else (
    (d_ref13_Length a0 a1).bind fun r3 =>
    some (decide (r1.1.Overlap ≤ r3))
  )) : Option Bool).bind fun b2 =>
  some b2
theorem d_ref13_Whole_ok (a0 : T_api_Layout) (a1 : T_api_Route) (r : Bool) (h : d_ref13_Whole a0 a1 = some r) : PCall Go.Proofs.Tryd.prog GlS 17 [Enc.pv a0, Enc.pv a1] (Enc.pv r) := by
  unfold d_ref13_Whole at h
  refine pcall_of_pwp Go.Proofs.Tryd.func17 (by rfl) rfl Go.Proofs.Tryd.ntmps17 (by rfl) rfl ?_
  refine pwp_seq ?_
  refine r_reg ?_
  refine e_end (by kernel_rfl) ?_
  refine q_next ?_
  refine pwp_seq ?_
  refine r_reg ?_
  refine p_run 2 (by kernel_rfl) ?_
  obtain ⟨r1, h1, h⟩ := o_bind h
  refine p_call (d_ref13_exit_ok _ _ r1 h1) (by kernel_rfl) (by kernel_rfl) ?_
  refine e_end (by kernel_rfl) ?_
  refine q_next ?_
  refine pwp_seq ?_
  refine r_regd (by kernel_rfl) (by kernel_rfl) ?_
  obtain ⟨b2, h2, h⟩ := o_bind h
  refine p_run 3 (by kernel_rfl) ?_
  refine e_seg 7 22 (.bool b2) ?_ ?_
  · rcases o_cond h2 with ⟨hb, h2⟩ | ⟨hb, h2⟩
    · refine p_settle 15 hb (by kernel_rfl) (by kernel_rfl) ?_
      cases h2
      exact f_end (by kernel_rfl) (by kernel_rfl)
    · refine p_settle 15 hb (by kernel_rfl) (by kernel_rfl) ?_
      refine p_run 2 (by kernel_rfl) ?_
      obtain ⟨r3, h3, h2⟩ := o_bind h2
      refine p_call (d_ref13_Length_ok _ _ r3 h3) (by kernel_rfl) (by kernel_rfl) ?_
      cases h2
      exact f_end (by kernel_rfl) (by kernel_rfl)
  · refine e_end (by kernel_rfl) ?_
    refine q_next ?_
    refine pwp_ret ?_
    cases h
    exact q_ret (by kernel_rfl) (by kernel_rfl) (by kernel_rfl)

/-! signallinglaw13.OverlapMeasures -/
noncomputable def d_law13_OverlapMeasures (a0 : T_api_Layout) (a1 : T_api_Route) : Option Bool :=
  (d_law13_good a0).bind fun r1 =>
  ((bif (!r1) then some true else (
    (d_law13_few a1).bind fun r3 =>
    some (!r3)
  )) : Option Bool).bind fun b2 =>
  bif b2 then (
    (d_law13_alive ).bind fun r4 =>
    some r4
  ) else (
    (d_overlap_Length a0 a1).bind fun r5 =>
    (d_ref13_Length a0 a1).bind fun r6 =>
    ((bif decide (r5 = r6) then (
      (d_overlap_Whole a0 a1).bind fun r8 =>
      (d_ref13_Whole a0 a1).bind fun r9 =>
      some (r8 == r9)
    ) else some false) : Option Bool).bind fun b7 =>
    ((bif b7 then (
      (d_law13_alive ).bind fun r11 =>
      some r11
    ) else some false) : Option Bool).bind fun b10 =>
    some b10
  )
theorem d_law13_OverlapMeasures_ok (a0 : T_api_Layout) (a1 : T_api_Route) (r : Bool) (h : d_law13_OverlapMeasures a0 a1 = some r) : PCall Go.Proofs.Tryd.prog GlS 4 [Enc.pv a0, Enc.pv a1] (Enc.pv r) := by
  unfold d_law13_OverlapMeasures at h
  refine pcall_of_pwp Go.Proofs.Tryd.func4 (by rfl) rfl Go.Proofs.Tryd.ntmps4 (by rfl) rfl ?_
  refine pwp_seq ?_
  refine r_reg ?_
  refine e_end (by kernel_rfl) ?_
  refine q_next ?_
  refine pwp_seq ?_
  refine pwp_seq ?_
  refine r_reg ?_
  refine p_run 1 (by kernel_rfl) ?_
  obtain ⟨r1, h1, h⟩ := o_bind h
  refine p_call (d_law13_good_ok _ r1 h1) (by kernel_rfl) (by kernel_rfl) ?_
  obtain ⟨b2, h2, h⟩ := o_bind h
  refine p_run 2 (by kernel_rfl) ?_
  refine e_seg 4 12 (.bool b2) ?_ ?_
  · rcases o_cond h2 with ⟨hb, h2⟩ | ⟨hb, h2⟩
    · refine p_settle 8 hb (by kernel_rfl) (by kernel_rfl) ?_
      cases h2
      exact f_end (by kernel_rfl) (by kernel_rfl)
    · refine p_settle 8 hb (by kernel_rfl) (by kernel_rfl) ?_
      refine p_run 1 (by kernel_rfl) ?_
      obtain ⟨r3, h3, h2⟩ := o_bind h2
      refine p_call (d_law13_few_ok _ r3 h3) (by kernel_rfl) (by kernel_rfl) ?_
      cases h2
      exact f_end (by kernel_rfl) (by kernel_rfl)
  · refine e_nil (by kernel_rfl) ?_
    refine q_next ?_
    rcases o_cond h with ⟨hb, h⟩ | ⟨hb, h⟩
    · refine r_cond_t hb (by kernel_rfl) ?_
      refine pwp_seq ?_
      refine r_reg ?_
      obtain ⟨r4, h4, h⟩ := o_bind h
      refine p_call (d_law13_alive_ok  r4 h4) (by kernel_rfl) (by kernel_rfl) ?_
      refine e_end (by kernel_rfl) ?_
      refine q_next ?_
      refine pwp_ret ?_
      refine q_seq_ret ?_
      cases h
      exact q_ret (by kernel_rfl) (by kernel_rfl) (by kernel_rfl)
    · refine r_cond_f hb (by kernel_rfl) ?_
      refine pwp_skip ?_
      refine q_next ?_
      refine pwp_seq ?_
      refine r_regd (by kernel_rfl) (by kernel_rfl) ?_
      refine p_run 2 (by kernel_rfl) ?_
      obtain ⟨r5, h5, h⟩ := o_bind h
      refine p_call (d_overlap_Length_ok _ _ r5 h5) (by kernel_rfl) (by kernel_rfl) ?_
      refine p_run 2 (by kernel_rfl) ?_
      obtain ⟨r6, h6, h⟩ := o_bind h
      refine p_call (d_ref13_Length_ok _ _ r6 h6) (by kernel_rfl) (by kernel_rfl) ?_
      obtain ⟨b7, h7, h⟩ := o_bind h
      refine p_run 2 (by kernel_rfl) ?_
      refine e_seg 8 29 (.bool b7) ?_ ?_
      · rcases o_cond h7 with ⟨hb, h7⟩ | ⟨hb, h7⟩
        · refine p_settle 21 hb (by kernel_rfl) (by kernel_rfl) ?_
          refine p_run 2 (by kernel_rfl) ?_
          obtain ⟨r8, h8, h7⟩ := o_bind h7
          refine p_call (d_overlap_Whole_ok _ _ r8 h8) (by kernel_rfl) (by kernel_rfl) ?_
          refine p_run 2 (by kernel_rfl) ?_
          obtain ⟨r9, h9, h7⟩ := o_bind h7
          refine p_call (d_ref13_Whole_ok _ _ r9 h9) (by kernel_rfl) (by kernel_rfl) ?_
          cases h7
          exact f_end (by kernel_rfl) (by kernel_rfl)
        · refine p_settle 21 hb (by kernel_rfl) (by kernel_rfl) ?_
          cases h7
          exact f_end (by kernel_rfl) (by kernel_rfl)
      · obtain ⟨b10, h10, h⟩ := o_bind h
        refine p_run 1 (by kernel_rfl) ?_
        refine e_seg 2 32 (.bool b10) ?_ ?_
        · rcases o_cond h10 with ⟨hb, h10⟩ | ⟨hb, h10⟩
          · refine p_settle 30 hb (by kernel_rfl) (by kernel_rfl) ?_
            obtain ⟨r11, h11, h10⟩ := o_bind h10
            refine p_call (d_law13_alive_ok  r11 h11) (by kernel_rfl) (by kernel_rfl) ?_
            cases h10
            exact f_end (by kernel_rfl) (by kernel_rfl)
          · refine p_settle 30 hb (by kernel_rfl) (by kernel_rfl) ?_
            cases h10
            exact f_end (by kernel_rfl) (by kernel_rfl)
        · refine e_end (by kernel_rfl) ?_
          refine q_next ?_
          refine pwp_ret ?_
          cases h
          exact q_ret (by kernel_rfl) (by kernel_rfl) (by kernel_rfl)

/-! signallinglaw13.OverlapKeeps -/
noncomputable def d_law13_OverlapKeeps (a0 : T_api_Layout) (a1 : T_api_Route) : Option Bool :=
  (d_law13_good a0).bind fun r1 =>
  ((bif (!r1) then some true else (
    (d_law13_few a1).bind fun r3 =>
    some (!r3)
  )) : Option Bool).bind fun b2 =>
  bif b2 then (
    (d_law13_alive ).bind fun r4 =>
    some r4
  ) else (
    (d_overlap_Find a0 a1).bind fun r5 =>
    (d_ref12_Same (T_api_Route.mk r5.Name r5.Entry r5.Exit r5.Path r5.Points r5.Sections r5.Approach r5.Length a1.Over a1.OverPoints a1.OverSections r5.Flank r5.Guards r5.Gaps) a1).bind fun r6 =>
    ((bif r6 then (
      (d_overlap_Find a0 r5).bind fun r8 =>
      (d_ref12_Same r8 r5).bind fun r9 =>
      some r9
    ) else some false) : Option Bool).bind fun b7 =>
    ((bif b7 then (
      (d_overlap_Find a0 (T_api_Route.mk a1.Name a1.Entry a1.Exit a1.Path a1.Points a1.Sections a1.Approach a1.Length [] [] [] a1.Flank a1.Guards a1.Gaps)).bind fun r11 =>
      (d_ref12_Same r11 r5).bind fun r12 =>
      some r12
    ) else some false) : Option Bool).bind fun b10 =>
    ((bif b10 then (
      (d_law13_alive ).bind fun r14 =>
      some r14
    ) else some false) : Option Bool).bind fun b13 =>
    some b13
  )
theorem d_law13_OverlapKeeps_ok (a0 : T_api_Layout) (a1 : T_api_Route) (r : Bool) (h : d_law13_OverlapKeeps a0 a1 = some r) : PCall Go.Proofs.Tryd.prog GlS 6 [Enc.pv a0, Enc.pv a1] (Enc.pv r) := by
  unfold d_law13_OverlapKeeps at h
  refine pcall_of_pwp Go.Proofs.Tryd.func6 (by rfl) rfl Go.Proofs.Tryd.ntmps6 (by rfl) rfl ?_
  refine pwp_seq ?_
  refine r_reg ?_
  refine e_end (by kernel_rfl) ?_
  refine q_next ?_
  refine pwp_seq ?_
  refine pwp_seq ?_
  refine r_reg ?_
  refine p_run 1 (by kernel_rfl) ?_
  obtain ⟨r1, h1, h⟩ := o_bind h
  refine p_call (d_law13_good_ok _ r1 h1) (by kernel_rfl) (by kernel_rfl) ?_
  obtain ⟨b2, h2, h⟩ := o_bind h
  refine p_run 2 (by kernel_rfl) ?_
  refine e_seg 4 15 (.bool b2) ?_ ?_
  · rcases o_cond h2 with ⟨hb, h2⟩ | ⟨hb, h2⟩
    · refine p_settle 11 hb (by kernel_rfl) (by kernel_rfl) ?_
      cases h2
      exact f_end (by kernel_rfl) (by kernel_rfl)
    · refine p_settle 11 hb (by kernel_rfl) (by kernel_rfl) ?_
      refine p_run 1 (by kernel_rfl) ?_
      obtain ⟨r3, h3, h2⟩ := o_bind h2
      refine p_call (d_law13_few_ok _ r3 h3) (by kernel_rfl) (by kernel_rfl) ?_
      cases h2
      exact f_end (by kernel_rfl) (by kernel_rfl)
  · refine e_nil (by kernel_rfl) ?_
    refine q_next ?_
    rcases o_cond h with ⟨hb, h⟩ | ⟨hb, h⟩
    · refine r_cond_t hb (by kernel_rfl) ?_
      refine pwp_seq ?_
      refine r_reg ?_
      obtain ⟨r4, h4, h⟩ := o_bind h
      refine p_call (d_law13_alive_ok  r4 h4) (by kernel_rfl) (by kernel_rfl) ?_
      refine e_end (by kernel_rfl) ?_
      refine q_next ?_
      refine pwp_ret ?_
      refine q_seq_ret ?_
      cases h
      exact q_ret (by kernel_rfl) (by kernel_rfl) (by kernel_rfl)
    · refine r_cond_f hb (by kernel_rfl) ?_
      refine pwp_skip ?_
      refine q_next ?_
      refine pwp_seq ?_
      refine r_reg ?_
      refine p_run 2 (by kernel_rfl) ?_
      obtain ⟨r5, h5, h⟩ := o_bind h
      refine p_call (d_overlap_Find_ok _ _ r5 h5) (by kernel_rfl) (by kernel_rfl) ?_
      refine e_end (by kernel_rfl) ?_
      refine q_next ?_
      refine pwp_seq ?_
      refine r_reg ?_
      refine e_end (by kernel_rfl) ?_
      refine q_next ?_
      refine pwp_seq ?_
      refine r_reg ?_
      refine e_end (by kernel_rfl) ?_
      refine q_next ?_
      refine pwp_seq ?_
      refine r_reg ?_
      refine e_end (by kernel_rfl) ?_
      refine q_next ?_
      refine pwp_seq ?_
      refine r_reg ?_
      refine e_end (by kernel_rfl) ?_
      refine q_next ?_
      refine pwp_seq ?_
      refine r_reg ?_
      refine e_end (by kernel_rfl) ?_
      refine q_next ?_
      refine pwp_seq ?_
      refine r_reg ?_
      refine e_end (by kernel_rfl) ?_
      refine q_next ?_
      refine pwp_seq ?_
      refine r_reg ?_
      refine e_end (by kernel_rfl) ?_
      refine q_next ?_
      refine pwp_seq ?_
      refine r_reg ?_
      refine e_end (by kernel_rfl) ?_
      refine q_next ?_
      refine pwp_seq ?_
      refine r_regd (by kernel_rfl) (by kernel_rfl) ?_
      refine p_run 2 (by kernel_rfl) ?_
      obtain ⟨r6, h6, h⟩ := o_bind h
      refine p_call (d_ref12_Same_ok _ _ r6 h6) (by kernel_rfl) (by kernel_rfl) ?_
      obtain ⟨b7, h7, h⟩ := o_bind h
      refine p_run 1 (by kernel_rfl) ?_
      refine e_seg 6 43 (.bool b7) ?_ ?_
      · rcases o_cond h7 with ⟨hb, h7⟩ | ⟨hb, h7⟩
        · refine p_settle 37 hb (by kernel_rfl) (by kernel_rfl) ?_
          refine p_run 2 (by kernel_rfl) ?_
          obtain ⟨r8, h8, h7⟩ := o_bind h7
          refine p_call (d_overlap_Find_ok _ _ r8 h8) (by kernel_rfl) (by kernel_rfl) ?_
          refine p_run 1 (by kernel_rfl) ?_
          obtain ⟨r9, h9, h7⟩ := o_bind h7
          refine p_call (d_ref12_Same_ok _ _ r9 h9) (by kernel_rfl) (by kernel_rfl) ?_
          cases h7
          exact f_end (by kernel_rfl) (by kernel_rfl)
        · refine p_settle 37 hb (by kernel_rfl) (by kernel_rfl) ?_
          cases h7
          exact f_end (by kernel_rfl) (by kernel_rfl)
      · obtain ⟨b10, h10, h⟩ := o_bind h
        refine p_run 1 (by kernel_rfl) ?_
        refine e_seg 6 50 (.bool b10) ?_ ?_
        · rcases o_cond h10 with ⟨hb, h10⟩ | ⟨hb, h10⟩
          · refine p_settle 44 hb (by kernel_rfl) (by kernel_rfl) ?_
            refine p_run 2 (by kernel_rfl) ?_
            obtain ⟨r11, h11, h10⟩ := o_bind h10
            refine p_call (d_overlap_Find_ok _ _ r11 h11) (by kernel_rfl) (by kernel_rfl) ?_
            refine p_run 1 (by kernel_rfl) ?_
            obtain ⟨r12, h12, h10⟩ := o_bind h10
            refine p_call (d_ref12_Same_ok _ _ r12 h12) (by kernel_rfl) (by kernel_rfl) ?_
            cases h10
            exact f_end (by kernel_rfl) (by kernel_rfl)
          · refine p_settle 44 hb (by kernel_rfl) (by kernel_rfl) ?_
            cases h10
            exact f_end (by kernel_rfl) (by kernel_rfl)
        · obtain ⟨b13, h13, h⟩ := o_bind h
          refine p_run 1 (by kernel_rfl) ?_
          refine e_seg 2 53 (.bool b13) ?_ ?_
          · rcases o_cond h13 with ⟨hb, h13⟩ | ⟨hb, h13⟩
            · refine p_settle 51 hb (by kernel_rfl) (by kernel_rfl) ?_
              obtain ⟨r14, h14, h13⟩ := o_bind h13
              refine p_call (d_law13_alive_ok  r14 h14) (by kernel_rfl) (by kernel_rfl) ?_
              cases h13
              exact f_end (by kernel_rfl) (by kernel_rfl)
            · refine p_settle 51 hb (by kernel_rfl) (by kernel_rfl) ?_
              cases h13
              exact f_end (by kernel_rfl) (by kernel_rfl)
          · refine e_end (by kernel_rfl) ?_
            refine q_next ?_
            refine pwp_ret ?_
            cases h
            exact q_ret (by kernel_rfl) (by kernel_rfl) (by kernel_rfl)

end PM
