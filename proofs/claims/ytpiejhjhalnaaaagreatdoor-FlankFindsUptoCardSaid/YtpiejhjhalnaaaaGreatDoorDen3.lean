/-
  Plain functions for the program's functions, and the proofs that the program does them. Printed by den.py.
-/
import Derived.Test.YtpiejhjhalnaaaaGreatDoorDen2
namespace PM
open Go Go.RowKit
attribute [local irreducible] pops pwp

/-! signallingref09.SameSteps -/
noncomputable def d_ref09_SameSteps_0 (a0 : (List T_api_Step)) (a1 : (List T_api_Step)) : Int → Option (Int ⊕ (Unit ⊕ Bool)) := fun x3 =>
  bif decide (x3 < ((a0.length : Nat) : Int)) then (
    (ixO a0 x3).bind fun x6 =>
    (ixO a1 x3).bind fun x7 =>
    bif (!(eq_T_api_Step x6 x7)) then (
      some (.inr (.inr false))
    ) else (
      some (.inl (w64 (x3 + 1)))
    )
  ) else (
    some (.inr (.inl ()))
  )

noncomputable def d_ref09_SameSteps (a0 : (List T_api_Step)) (a1 : (List T_api_Step)) : Option Bool :=
  bif (!(decide (((a0.length : Nat) : Int) = ((a1.length : Nat) : Int)))) then (
    some false
  ) else (
    onInl (α := Unit) (β := Bool) (loopO (d_ref09_SameSteps_0 a0 a1) 0) fun _ =>
    some true
  )
theorem d_ref09_SameSteps_ok (a0 : (List T_api_Step)) (a1 : (List T_api_Step)) (r : Bool) (h : d_ref09_SameSteps a0 a1 = some r) : PCall Go.Proofs.Tryz.prog GlS 42 [Enc.pv a0, Enc.pv a1] (Enc.pv r) := by
  unfold d_ref09_SameSteps at h
  refine pcall_of_pwp Go.Proofs.Tryz.func42 (by rfl) rfl Go.Proofs.Tryz.ntmps42 (by rfl) rfl ?_
  refine pwp_seq ?_
  refine r_reg ?_
  refine e_end (by kernel_rfl) ?_
  refine q_next ?_
  refine pwp_seq ?_
  refine pwp_seq ?_
  refine r_reg ?_
  refine p_run 1 (by kernel_rfl) ?_
  refine p_len (L := (a0 : (List T_api_Step))) (by kernel_rfl) ?_
  refine p_run 1 (by kernel_rfl) ?_
  refine p_len (L := (a1 : (List T_api_Step))) (by kernel_rfl) ?_
  refine e_end (by kernel_rfl) ?_
  refine q_next ?_
  rcases o_cond h with ⟨hb, h⟩ | ⟨hb, h⟩
  · refine r_cond_t hb (by kernel_rfl) ?_
    refine pwp_seq ?_
    refine r_reg ?_
    refine e_end (by kernel_rfl) ?_
    refine q_next ?_
    refine pwp_ret ?_
    refine q_seq_ret ?_
    cases h
    exact q_ret (by kernel_rfl) (by kernel_rfl) (by kernel_rfl)
  · refine r_cond_f hb (by kernel_rfl) ?_
    refine pwp_skip ?_
    refine q_next ?_
    refine pwp_seq ?_
    refine pwp_seq ?_
    refine r_reg ?_
    refine e_end (by kernel_rfl) ?_
    refine q_next ?_
    refine pwp_block ?_
    obtain ⟨o8, h8, h⟩ := o_inl h
    refine r_loop2 26 0 (fun x3 => ⟨[(0, lstOf .frozen (a0 : (List T_api_Step))), (1, lstOf .frozen (a1 : (List T_api_Step))), (5, .int .i64 x3)], [], [], []⟩) (fun (_ : Unit) => ⟨[], [], [], []⟩) h8 (by kernel_rfl) (fun _ => by kernel_rfl) ?_ ?_
    · rintro x3 oh7 h7
      unfold d_ref09_SameSteps_0 at h7
      refine pwp_seq ?_
      refine pwp_seq ?_
      refine r_reg ?_
      refine p_run 2 (by kernel_rfl) ?_
      refine p_len (L := (a0 : (List T_api_Step))) (by kernel_rfl) ?_
      refine e_end (by kernel_rfl) ?_
      refine q_next ?_
      rcases o_cond h7 with ⟨hb, h7⟩ | ⟨hb, h7⟩
      · refine r_cond_t hb (by kernel_rfl) ?_
        refine pwp_skip ?_
        refine q_next ?_
        refine pwp_seq ?_
        refine pwp_block ?_
        refine pwp_seq ?_
        refine r_regd (by kernel_rfl) (by kernel_rfl) ?_
        refine p_run 2 (by kernel_rfl) ?_
        obtain ⟨x6, h9, h7⟩ := o_bind h7
        refine p_ix h9 (by kernel_rfl) ?_
        refine p_run 3 (by kernel_rfl) ?_
        obtain ⟨x7, h10, h7⟩ := o_bind h7
        refine p_ix h10 (by kernel_rfl) ?_
        refine e_end (by kernel_rfl) ?_
        refine q_next ?_
        rcases o_cond h7 with ⟨hb, h7⟩ | ⟨hb, h7⟩
        · refine r_cond_t hb (by kernel_rfl) ?_
          refine pwp_seq ?_
          refine r_reg ?_
          refine e_end (by kernel_rfl) ?_
          refine q_next ?_
          refine pwp_ret ?_
          refine q_block_ret ?_
          refine q_seq_ret ?_
          cases h7
          refine q_lout_ret fun he => ?_
          subst he
          have h11 := o_outr h
          refine q_block_ret ?_
          refine q_seq_ret ?_
          cases h11
          exact q_ret (by kernel_rfl) (by kernel_rfl) (by kernel_rfl)
        · refine r_cond_f hb (by kernel_rfl) ?_
          refine pwp_skip ?_
          refine q_block ?_
          refine q_next ?_
          refine r_reg ?_
          refine e_end (by kernel_rfl) ?_
          cases h7
          exact q_lback (by kernel_rfl)
      · refine r_cond_f hb (by kernel_rfl) ?_
        refine pwp_exit ?_
        refine q_seq_exit ?_
        cases h7
        exact q_lexit (by kernel_rfl) (by kernel_rfl)
    · rintro _ s' rfl hs
      have h := o_outl h
      refine q_block_hit ?_
      refine q_next (pwp_wkr hs ?_)
      refine pwp_seq ?_
      refine r_reg ?_
      refine e_end (by kernel_rfl) ?_
      refine q_next ?_
      refine pwp_ret ?_
      cases h
      exact q_ret (by kernel_rfl) (by kernel_rfl) (by kernel_rfl)

/-! signallingref12.SameSteps -/
noncomputable def d_ref12_SameSteps (a0 : (List T_api_Step)) (a1 : (List T_api_Step)) : Option Bool :=
  (d_ref09_SameSteps a0 a1).bind fun r1 =>
  some r1
theorem d_ref12_SameSteps_ok (a0 : (List T_api_Step)) (a1 : (List T_api_Step)) (r : Bool) (h : d_ref12_SameSteps a0 a1 = some r) : PCall Go.Proofs.Tryz.prog GlS 16 [Enc.pv a0, Enc.pv a1] (Enc.pv r) := by
  unfold d_ref12_SameSteps at h
  refine pcall_of_pwp Go.Proofs.Tryz.func16 (by rfl) rfl Go.Proofs.Tryz.ntmps16 (by rfl) rfl ?_
  refine pwp_seq ?_
  refine r_reg ?_
  refine e_end (by kernel_rfl) ?_
  refine q_next ?_
  refine pwp_seq ?_
  refine r_reg ?_
  refine p_run 2 (by kernel_rfl) ?_
  obtain ⟨r1, h1, h⟩ := o_bind h
  refine p_call (d_ref09_SameSteps_ok _ _ r1 h1) (by kernel_rfl) (by kernel_rfl) ?_
  refine e_end (by kernel_rfl) ?_
  refine q_next ?_
  refine pwp_ret ?_
  cases h
  exact q_ret (by kernel_rfl) (by kernel_rfl) (by kernel_rfl)

/-! signallingref09.SameInts -/
noncomputable def d_ref09_SameInts_0 (a0 : (List Int)) (a1 : (List Int)) : Int → Option (Int ⊕ (Unit ⊕ Bool)) := fun x3 =>
  bif decide (x3 < ((a0.length : Nat) : Int)) then (
    (ixO a0 x3).bind fun x6 =>
    (ixO a1 x3).bind fun x7 =>
    bif (!(decide (x6 = x7))) then (
      some (.inr (.inr false))
    ) else (
      some (.inl (w64 (x3 + 1)))
    )
  ) else (
    some (.inr (.inl ()))
  )

noncomputable def d_ref09_SameInts (a0 : (List Int)) (a1 : (List Int)) : Option Bool :=
  bif (!(decide (((a0.length : Nat) : Int) = ((a1.length : Nat) : Int)))) then (
    some false
  ) else (
    onInl (α := Unit) (β := Bool) (loopO (d_ref09_SameInts_0 a0 a1) 0) fun _ =>
    some true
  )
theorem d_ref09_SameInts_ok (a0 : (List Int)) (a1 : (List Int)) (r : Bool) (h : d_ref09_SameInts a0 a1 = some r) : PCall Go.Proofs.Tryz.prog GlS 43 [Enc.pv a0, Enc.pv a1] (Enc.pv r) := by
  unfold d_ref09_SameInts at h
  refine pcall_of_pwp Go.Proofs.Tryz.func43 (by rfl) rfl Go.Proofs.Tryz.ntmps43 (by rfl) rfl ?_
  refine pwp_seq ?_
  refine r_reg ?_
  refine e_end (by kernel_rfl) ?_
  refine q_next ?_
  refine pwp_seq ?_
  refine pwp_seq ?_
  refine r_reg ?_
  refine p_run 1 (by kernel_rfl) ?_
  refine p_len (L := (a0 : (List Int))) (by kernel_rfl) ?_
  refine p_run 1 (by kernel_rfl) ?_
  refine p_len (L := (a1 : (List Int))) (by kernel_rfl) ?_
  refine e_end (by kernel_rfl) ?_
  refine q_next ?_
  rcases o_cond h with ⟨hb, h⟩ | ⟨hb, h⟩
  · refine r_cond_t hb (by kernel_rfl) ?_
    refine pwp_seq ?_
    refine r_reg ?_
    refine e_end (by kernel_rfl) ?_
    refine q_next ?_
    refine pwp_ret ?_
    refine q_seq_ret ?_
    cases h
    exact q_ret (by kernel_rfl) (by kernel_rfl) (by kernel_rfl)
  · refine r_cond_f hb (by kernel_rfl) ?_
    refine pwp_skip ?_
    refine q_next ?_
    refine pwp_seq ?_
    refine pwp_seq ?_
    refine r_reg ?_
    refine e_end (by kernel_rfl) ?_
    refine q_next ?_
    refine pwp_block ?_
    obtain ⟨o8, h8, h⟩ := o_inl h
    refine r_loop2 26 0 (fun x3 => ⟨[(0, lstOf .frozen (a0 : (List Int))), (1, lstOf .frozen (a1 : (List Int))), (5, .int .i64 x3)], [], [], []⟩) (fun (_ : Unit) => ⟨[], [], [], []⟩) h8 (by kernel_rfl) (fun _ => by kernel_rfl) ?_ ?_
    · rintro x3 oh7 h7
      unfold d_ref09_SameInts_0 at h7
      refine pwp_seq ?_
      refine pwp_seq ?_
      refine r_reg ?_
      refine p_run 2 (by kernel_rfl) ?_
      refine p_len (L := (a0 : (List Int))) (by kernel_rfl) ?_
      refine e_end (by kernel_rfl) ?_
      refine q_next ?_
      rcases o_cond h7 with ⟨hb, h7⟩ | ⟨hb, h7⟩
      · refine r_cond_t hb (by kernel_rfl) ?_
        refine pwp_skip ?_
        refine q_next ?_
        refine pwp_seq ?_
        refine pwp_block ?_
        refine pwp_seq ?_
        refine r_regd (by kernel_rfl) (by kernel_rfl) ?_
        refine p_run 2 (by kernel_rfl) ?_
        obtain ⟨x6, h9, h7⟩ := o_bind h7
        refine p_ix h9 (by kernel_rfl) ?_
        refine p_run 3 (by kernel_rfl) ?_
        obtain ⟨x7, h10, h7⟩ := o_bind h7
        refine p_ix h10 (by kernel_rfl) ?_
        refine e_end (by kernel_rfl) ?_
        refine q_next ?_
        rcases o_cond h7 with ⟨hb, h7⟩ | ⟨hb, h7⟩
        · refine r_cond_t hb (by kernel_rfl) ?_
          refine pwp_seq ?_
          refine r_reg ?_
          refine e_end (by kernel_rfl) ?_
          refine q_next ?_
          refine pwp_ret ?_
          refine q_block_ret ?_
          refine q_seq_ret ?_
          cases h7
          refine q_lout_ret fun he => ?_
          subst he
          have h11 := o_outr h
          refine q_block_ret ?_
          refine q_seq_ret ?_
          cases h11
          exact q_ret (by kernel_rfl) (by kernel_rfl) (by kernel_rfl)
        · refine r_cond_f hb (by kernel_rfl) ?_
          refine pwp_skip ?_
          refine q_block ?_
          refine q_next ?_
          refine r_reg ?_
          refine e_end (by kernel_rfl) ?_
          cases h7
          exact q_lback (by kernel_rfl)
      · refine r_cond_f hb (by kernel_rfl) ?_
        refine pwp_exit ?_
        refine q_seq_exit ?_
        cases h7
        exact q_lexit (by kernel_rfl) (by kernel_rfl)
    · rintro _ s' rfl hs
      have h := o_outl h
      refine q_block_hit ?_
      refine q_next (pwp_wkr hs ?_)
      refine pwp_seq ?_
      refine r_reg ?_
      refine e_end (by kernel_rfl) ?_
      refine q_next ?_
      refine pwp_ret ?_
      cases h
      exact q_ret (by kernel_rfl) (by kernel_rfl) (by kernel_rfl)

/-! signallingref12.SameInts -/
noncomputable def d_ref12_SameInts (a0 : (List Int)) (a1 : (List Int)) : Option Bool :=
  (d_ref09_SameInts a0 a1).bind fun r1 =>
  some r1
theorem d_ref12_SameInts_ok (a0 : (List Int)) (a1 : (List Int)) (r : Bool) (h : d_ref12_SameInts a0 a1 = some r) : PCall Go.Proofs.Tryz.prog GlS 17 [Enc.pv a0, Enc.pv a1] (Enc.pv r) := by
  unfold d_ref12_SameInts at h
  refine pcall_of_pwp Go.Proofs.Tryz.func17 (by rfl) rfl Go.Proofs.Tryz.ntmps17 (by rfl) rfl ?_
  refine pwp_seq ?_
  refine r_reg ?_
  refine e_end (by kernel_rfl) ?_
  refine q_next ?_
  refine pwp_seq ?_
  refine r_reg ?_
  refine p_run 2 (by kernel_rfl) ?_
  obtain ⟨r1, h1, h⟩ := o_bind h
  refine p_call (d_ref09_SameInts_ok _ _ r1 h1) (by kernel_rfl) (by kernel_rfl) ?_
  refine e_end (by kernel_rfl) ?_
  refine q_next ?_
  refine pwp_ret ?_
  cases h
  exact q_ret (by kernel_rfl) (by kernel_rfl) (by kernel_rfl)

/-! signallingref12.sameEnds -/
noncomputable def d_ref12_sameEnds_0 (a0 : (List T_api_End)) (a1 : (List T_api_End)) : Int → Option (Int ⊕ (Unit ⊕ Bool)) := fun x3 =>
  bif decide (x3 < ((a0.length : Nat) : Int)) then (
    (ixO a0 x3).bind fun x6 =>
    (ixO a1 x3).bind fun x7 =>
    bif (!(eq_T_api_End x6 x7)) then (
      some (.inr (.inr false))
    ) else (
      some (.inl (w64 (x3 + 1)))
    )
  ) else (
    some (.inr (.inl ()))
  )

noncomputable def d_ref12_sameEnds (a0 : (List T_api_End)) (a1 : (List T_api_End)) : Option Bool :=
  bif (!(decide (((a0.length : Nat) : Int) = ((a1.length : Nat) : Int)))) then (
    some false
  ) else (
    onInl (α := Unit) (β := Bool) (loopO (d_ref12_sameEnds_0 a0 a1) 0) fun _ =>
    some true
  )
theorem d_ref12_sameEnds_ok (a0 : (List T_api_End)) (a1 : (List T_api_End)) (r : Bool) (h : d_ref12_sameEnds a0 a1 = some r) : PCall Go.Proofs.Tryz.prog GlS 18 [Enc.pv a0, Enc.pv a1] (Enc.pv r) := by
  unfold d_ref12_sameEnds at h
  refine pcall_of_pwp Go.Proofs.Tryz.func18 (by rfl) rfl Go.Proofs.Tryz.ntmps18 (by rfl) rfl ?_
  refine pwp_seq ?_
  refine r_reg ?_
  refine e_end (by kernel_rfl) ?_
  refine q_next ?_
  refine pwp_seq ?_
  refine pwp_seq ?_
  refine r_reg ?_
  refine p_run 1 (by kernel_rfl) ?_
  refine p_len (L := (a0 : (List T_api_End))) (by kernel_rfl) ?_
  refine p_run 1 (by kernel_rfl) ?_
  refine p_len (L := (a1 : (List T_api_End))) (by kernel_rfl) ?_
  refine e_end (by kernel_rfl) ?_
  refine q_next ?_
  rcases o_cond h with ⟨hb, h⟩ | ⟨hb, h⟩
  · refine r_cond_t hb (by kernel_rfl) ?_
    refine pwp_seq ?_
    refine r_reg ?_
    refine e_end (by kernel_rfl) ?_
    refine q_next ?_
    refine pwp_ret ?_
    refine q_seq_ret ?_
    cases h
    exact q_ret (by kernel_rfl) (by kernel_rfl) (by kernel_rfl)
  · refine r_cond_f hb (by kernel_rfl) ?_
    refine pwp_skip ?_
    refine q_next ?_
    refine pwp_seq ?_
    refine pwp_seq ?_
    refine r_reg ?_
    refine e_end (by kernel_rfl) ?_
    refine q_next ?_
    refine pwp_block ?_
    obtain ⟨o8, h8, h⟩ := o_inl h
    refine r_loop2 26 0 (fun x3 => ⟨[(0, lstOf .frozen (a0 : (List T_api_End))), (1, lstOf .frozen (a1 : (List T_api_End))), (5, .int .i64 x3)], [], [], []⟩) (fun (_ : Unit) => ⟨[], [], [], []⟩) h8 (by kernel_rfl) (fun _ => by kernel_rfl) ?_ ?_
    · rintro x3 oh7 h7
      unfold d_ref12_sameEnds_0 at h7
      refine pwp_seq ?_
      refine pwp_seq ?_
      refine r_reg ?_
      refine p_run 2 (by kernel_rfl) ?_
      refine p_len (L := (a0 : (List T_api_End))) (by kernel_rfl) ?_
      refine e_end (by kernel_rfl) ?_
      refine q_next ?_
      rcases o_cond h7 with ⟨hb, h7⟩ | ⟨hb, h7⟩
      · refine r_cond_t hb (by kernel_rfl) ?_
        refine pwp_skip ?_
        refine q_next ?_
        refine pwp_seq ?_
        refine pwp_block ?_
        refine pwp_seq ?_
        refine r_regd (by kernel_rfl) (by kernel_rfl) ?_
        refine p_run 2 (by kernel_rfl) ?_
        obtain ⟨x6, h9, h7⟩ := o_bind h7
        refine p_ix h9 (by kernel_rfl) ?_
        refine p_run 3 (by kernel_rfl) ?_
        obtain ⟨x7, h10, h7⟩ := o_bind h7
        refine p_ix h10 (by kernel_rfl) ?_
        refine e_end (by kernel_rfl) ?_
        refine q_next ?_
        rcases o_cond h7 with ⟨hb, h7⟩ | ⟨hb, h7⟩
        · refine r_cond_t hb (by kernel_rfl) ?_
          refine pwp_seq ?_
          refine r_reg ?_
          refine e_end (by kernel_rfl) ?_
          refine q_next ?_
          refine pwp_ret ?_
          refine q_block_ret ?_
          refine q_seq_ret ?_
          cases h7
          refine q_lout_ret fun he => ?_
          subst he
          have h11 := o_outr h
          refine q_block_ret ?_
          refine q_seq_ret ?_
          cases h11
          exact q_ret (by kernel_rfl) (by kernel_rfl) (by kernel_rfl)
        · refine r_cond_f hb (by kernel_rfl) ?_
          refine pwp_skip ?_
          refine q_block ?_
          refine q_next ?_
          refine r_reg ?_
          refine e_end (by kernel_rfl) ?_
          cases h7
          exact q_lback (by kernel_rfl)
      · refine r_cond_f hb (by kernel_rfl) ?_
        refine pwp_exit ?_
        refine q_seq_exit ?_
        cases h7
        exact q_lexit (by kernel_rfl) (by kernel_rfl)
    · rintro _ s' rfl hs
      have h := o_outl h
      refine q_block_hit ?_
      refine q_next (pwp_wkr hs ?_)
      refine pwp_seq ?_
      refine r_reg ?_
      refine e_end (by kernel_rfl) ?_
      refine q_next ?_
      refine pwp_ret ?_
      cases h
      exact q_ret (by kernel_rfl) (by kernel_rfl) (by kernel_rfl)

/-! signallingref12.Same -/
noncomputable def d_ref12_Same (a0 : T_api_Route) (a1 : T_api_Route) : Option Bool :=
  bif (((((!(decide (a0.Name = a1.Name))) || (!(decide (a0.Entry = a1.Entry)))) || (!(decide (a0.Exit = a1.Exit)))) || (!(decide (a0.Approach = a1.Approach)))) || (!(decide (a0.Length = a1.Length)))) then (
    some false
  ) else (
    (d_ref12_SameSteps a0.Path a1.Path).bind fun r1 =>
    ((bif (!r1) then some true else (
      (d_ref12_SameSettings a0.Points a1.Points).bind fun r3 =>
      some (!r3)
    )) : Option Bool).bind fun b2 =>
    ((bif b2 then some true else (
      (d_ref12_SameInts a0.Sections a1.Sections).bind fun r5 =>
      some (!r5)
    )) : Option Bool).bind fun b4 =>
    bif b4 then (
      some false
    ) else (
      (d_ref12_SameSteps a0.Over a1.Over).bind fun r6 =>
      ((bif r6 then (
        (d_ref12_SameSettings a0.OverPoints a1.OverPoints).bind fun r8 =>
        some r8
      ) else some false) : Option Bool).bind fun b7 =>
      ((bif b7 then (
        (d_ref12_SameInts a0.OverSections a1.OverSections).bind fun r10 =>
        some r10
      ) else some false) : Option Bool).bind fun b9 =>
      ((bif b9 then (
        (d_ref12_SameSettings a0.Flank a1.Flank).bind fun r12 =>
        some r12
      ) else some false) : Option Bool).bind fun b11 =>
      ((bif b11 then (
        (d_ref12_SameInts a0.Guards a1.Guards).bind fun r14 =>
        some r14
      ) else some false) : Option Bool).bind fun b13 =>
      ((bif b13 then (
        (d_ref12_sameEnds a0.Gaps a1.Gaps).bind fun r16 =>
        some r16
      ) else some false) : Option Bool).bind fun b15 =>
      some b15
    )
  )
theorem d_ref12_Same_ok (a0 : T_api_Route) (a1 : T_api_Route) (r : Bool) (h : d_ref12_Same a0 a1 = some r) : PCall Go.Proofs.Tryz.prog GlS 6 [Enc.pv a0, Enc.pv a1] (Enc.pv r) := by
  unfold d_ref12_Same at h
  refine pcall_of_pwp Go.Proofs.Tryz.func6 (by rfl) rfl Go.Proofs.Tryz.ntmps6 (by rfl) rfl ?_
  refine pwp_seq ?_
  refine r_reg ?_
  refine e_end (by kernel_rfl) ?_
  refine q_next ?_
  refine pwp_seq ?_
  refine pwp_seq ?_
  refine r_reg ?_
  refine p_run 6 (by kernel_rfl) ?_
  refine e_segb 6 16 ((!(decide (a0.Name = a1.Name))) || (!(decide (a0.Entry = a1.Entry)))) (fun x hx => ?_) ?_
  · rcases b_or hx with ⟨hb, hx⟩ | ⟨hb, hx⟩
    · refine p_settle 10 hb (by kernel_rfl) (by kernel_rfl) ?_
      subst hx
      exact f_end (by kernel_rfl) (by kernel_rfl)
    · refine p_settle 10 hb (by kernel_rfl) (by kernel_rfl) ?_
      subst hx
      exact f_end (by kernel_rfl) (by kernel_rfl)
  · refine p_run 1 (by kernel_rfl) ?_
    refine e_segb 6 23 (((!(decide (a0.Name = a1.Name))) || (!(decide (a0.Entry = a1.Entry)))) || (!(decide (a0.Exit = a1.Exit)))) (fun x hx => ?_) ?_
    · rcases b_or hx with ⟨hb, hx⟩ | ⟨hb, hx⟩
      · refine p_settle 17 hb (by kernel_rfl) (by kernel_rfl) ?_
        subst hx
        exact f_end (by kernel_rfl) (by kernel_rfl)
      · refine p_settle 17 hb (by kernel_rfl) (by kernel_rfl) ?_
        subst hx
        exact f_end (by kernel_rfl) (by kernel_rfl)
    · refine p_run 1 (by kernel_rfl) ?_
      refine e_segb 6 30 ((((!(decide (a0.Name = a1.Name))) || (!(decide (a0.Entry = a1.Entry)))) || (!(decide (a0.Exit = a1.Exit)))) || (!(decide (a0.Approach = a1.Approach)))) (fun x hx => ?_) ?_
      · rcases b_or hx with ⟨hb, hx⟩ | ⟨hb, hx⟩
        · refine p_settle 24 hb (by kernel_rfl) (by kernel_rfl) ?_
          subst hx
          exact f_end (by kernel_rfl) (by kernel_rfl)
        · refine p_settle 24 hb (by kernel_rfl) (by kernel_rfl) ?_
          subst hx
          exact f_end (by kernel_rfl) (by kernel_rfl)
      · refine p_run 1 (by kernel_rfl) ?_
        refine e_segb 6 37 (((((!(decide (a0.Name = a1.Name))) || (!(decide (a0.Entry = a1.Entry)))) || (!(decide (a0.Exit = a1.Exit)))) || (!(decide (a0.Approach = a1.Approach)))) || (!(decide (a0.Length = a1.Length)))) (fun x hx => ?_) ?_
        · rcases b_or hx with ⟨hb, hx⟩ | ⟨hb, hx⟩
          · refine p_settle 31 hb (by kernel_rfl) (by kernel_rfl) ?_
            subst hx
            exact f_end (by kernel_rfl) (by kernel_rfl)
          · refine p_settle 31 hb (by kernel_rfl) (by kernel_rfl) ?_
            subst hx
            exact f_end (by kernel_rfl) (by kernel_rfl)
        · refine e_nil (by kernel_rfl) ?_
          refine q_next ?_
          rcases o_cond h with ⟨hb, h⟩ | ⟨hb, h⟩
          · refine r_cond_t hb (by kernel_rfl) ?_
            refine pwp_seq ?_
            refine r_reg ?_
            refine e_end (by kernel_rfl) ?_
            refine q_next ?_
            refine pwp_ret ?_
            refine q_seq_ret ?_
            cases h
            exact q_ret (by kernel_rfl) (by kernel_rfl) (by kernel_rfl)
          · refine r_cond_f hb (by kernel_rfl) ?_
            refine pwp_skip ?_
            refine q_next ?_
            refine pwp_seq ?_
            refine pwp_seq ?_
            refine r_reg ?_
            refine p_run 4 (by kernel_rfl) ?_
            obtain ⟨r1, h1, h⟩ := o_bind h
            refine p_call (d_ref12_SameSteps_ok _ _ r1 h1) (by kernel_rfl) (by kernel_rfl) ?_
            obtain ⟨b2, h2, h⟩ := o_bind h
            refine p_run 2 (by kernel_rfl) ?_
            refine e_seg 7 51 (.bool b2) ?_ ?_
            · rcases o_cond h2 with ⟨hb, h2⟩ | ⟨hb, h2⟩
              · refine p_settle 44 hb (by kernel_rfl) (by kernel_rfl) ?_
                cases h2
                exact f_end (by kernel_rfl) (by kernel_rfl)
              · refine p_settle 44 hb (by kernel_rfl) (by kernel_rfl) ?_
                refine p_run 4 (by kernel_rfl) ?_
                obtain ⟨r3, h3, h2⟩ := o_bind h2
                refine p_call (d_ref12_SameSettings_ok _ _ r3 h3) (by kernel_rfl) (by kernel_rfl) ?_
                cases h2
                exact f_end (by kernel_rfl) (by kernel_rfl)
            · obtain ⟨b4, h4, h⟩ := o_bind h
              refine p_run 1 (by kernel_rfl) ?_
              refine e_seg 7 59 (.bool b4) ?_ ?_
              · rcases o_cond h4 with ⟨hb, h4⟩ | ⟨hb, h4⟩
                · refine p_settle 52 hb (by kernel_rfl) (by kernel_rfl) ?_
                  cases h4
                  exact f_end (by kernel_rfl) (by kernel_rfl)
                · refine p_settle 52 hb (by kernel_rfl) (by kernel_rfl) ?_
                  refine p_run 4 (by kernel_rfl) ?_
                  obtain ⟨r5, h5, h4⟩ := o_bind h4
                  refine p_call (d_ref12_SameInts_ok _ _ r5 h5) (by kernel_rfl) (by kernel_rfl) ?_
                  cases h4
                  exact f_end (by kernel_rfl) (by kernel_rfl)
              · refine e_nil (by kernel_rfl) ?_
                refine q_next ?_
                rcases o_cond h with ⟨hb, h⟩ | ⟨hb, h⟩
                · refine r_cond_t hb (by kernel_rfl) ?_
                  refine pwp_seq ?_
                  refine r_reg ?_
                  refine e_end (by kernel_rfl) ?_
                  refine q_next ?_
                  refine pwp_ret ?_
                  refine q_seq_ret ?_
                  cases h
                  exact q_ret (by kernel_rfl) (by kernel_rfl) (by kernel_rfl)
                · refine r_cond_f hb (by kernel_rfl) ?_
                  refine pwp_skip ?_
                  refine q_next ?_
                  refine pwp_seq ?_
                  refine r_reg ?_
                  refine p_run 4 (by kernel_rfl) ?_
                  obtain ⟨r6, h6, h⟩ := o_bind h
                  refine p_call (d_ref12_SameSteps_ok _ _ r6 h6) (by kernel_rfl) (by kernel_rfl) ?_
                  obtain ⟨b7, h7, h⟩ := o_bind h
                  refine p_run 1 (by kernel_rfl) ?_
                  refine e_seg 6 71 (.bool b7) ?_ ?_
                  · rcases o_cond h7 with ⟨hb, h7⟩ | ⟨hb, h7⟩
                    · refine p_settle 65 hb (by kernel_rfl) (by kernel_rfl) ?_
                      refine p_run 4 (by kernel_rfl) ?_
                      obtain ⟨r8, h8, h7⟩ := o_bind h7
                      refine p_call (d_ref12_SameSettings_ok _ _ r8 h8) (by kernel_rfl) (by kernel_rfl) ?_
                      cases h7
                      exact f_end (by kernel_rfl) (by kernel_rfl)
                    · refine p_settle 65 hb (by kernel_rfl) (by kernel_rfl) ?_
                      cases h7
                      exact f_end (by kernel_rfl) (by kernel_rfl)
                  · obtain ⟨b9, h9, h⟩ := o_bind h
                    refine p_run 1 (by kernel_rfl) ?_
                    refine e_seg 6 78 (.bool b9) ?_ ?_
                    · rcases o_cond h9 with ⟨hb, h9⟩ | ⟨hb, h9⟩
                      · refine p_settle 72 hb (by kernel_rfl) (by kernel_rfl) ?_
                        refine p_run 4 (by kernel_rfl) ?_
                        obtain ⟨r10, h10, h9⟩ := o_bind h9
                        refine p_call (d_ref12_SameInts_ok _ _ r10 h10) (by kernel_rfl) (by kernel_rfl) ?_
                        cases h9
                        exact f_end (by kernel_rfl) (by kernel_rfl)
                      · refine p_settle 72 hb (by kernel_rfl) (by kernel_rfl) ?_
                        cases h9
                        exact f_end (by kernel_rfl) (by kernel_rfl)
                    · obtain ⟨b11, h11, h⟩ := o_bind h
                      refine p_run 1 (by kernel_rfl) ?_
                      refine e_seg 6 85 (.bool b11) ?_ ?_
                      · rcases o_cond h11 with ⟨hb, h11⟩ | ⟨hb, h11⟩
                        · refine p_settle 79 hb (by kernel_rfl) (by kernel_rfl) ?_
                          refine p_run 4 (by kernel_rfl) ?_
                          obtain ⟨r12, h12, h11⟩ := o_bind h11
                          refine p_call (d_ref12_SameSettings_ok _ _ r12 h12) (by kernel_rfl) (by kernel_rfl) ?_
                          cases h11
                          exact f_end (by kernel_rfl) (by kernel_rfl)
                        · refine p_settle 79 hb (by kernel_rfl) (by kernel_rfl) ?_
                          cases h11
                          exact f_end (by kernel_rfl) (by kernel_rfl)
                      · obtain ⟨b13, h13, h⟩ := o_bind h
                        refine p_run 1 (by kernel_rfl) ?_
                        refine e_seg 6 92 (.bool b13) ?_ ?_
                        · rcases o_cond h13 with ⟨hb, h13⟩ | ⟨hb, h13⟩
                          · refine p_settle 86 hb (by kernel_rfl) (by kernel_rfl) ?_
                            refine p_run 4 (by kernel_rfl) ?_
                            obtain ⟨r14, h14, h13⟩ := o_bind h13
                            refine p_call (d_ref12_SameInts_ok _ _ r14 h14) (by kernel_rfl) (by kernel_rfl) ?_
                            cases h13
                            exact f_end (by kernel_rfl) (by kernel_rfl)
                          · refine p_settle 86 hb (by kernel_rfl) (by kernel_rfl) ?_
                            cases h13
                            exact f_end (by kernel_rfl) (by kernel_rfl)
                        · obtain ⟨b15, h15, h⟩ := o_bind h
                          refine p_run 1 (by kernel_rfl) ?_
                          refine e_seg 6 99 (.bool b15) ?_ ?_
                          · rcases o_cond h15 with ⟨hb, h15⟩ | ⟨hb, h15⟩
                            · refine p_settle 93 hb (by kernel_rfl) (by kernel_rfl) ?_
                              refine p_run 4 (by kernel_rfl) ?_
                              obtain ⟨r16, h16, h15⟩ := o_bind h15
                              refine p_call (d_ref12_sameEnds_ok _ _ r16 h16) (by kernel_rfl) (by kernel_rfl) ?_
                              cases h15
                              exact f_end (by kernel_rfl) (by kernel_rfl)
                            · refine p_settle 93 hb (by kernel_rfl) (by kernel_rfl) ?_
                              cases h15
                              exact f_end (by kernel_rfl) (by kernel_rfl)
                          · refine e_end (by kernel_rfl) ?_
                            refine q_next ?_
                            refine pwp_ret ?_
                            cases h
                            exact q_ret (by kernel_rfl) (by kernel_rfl) (by kernel_rfl)

/-! signallingref14.Protected -/
noncomputable def d_ref14_Protected (a0 : T_api_Route) : Option Bool :=
  some (decide (((a0.Gaps.length : Nat) : Int) = 0))
theorem d_ref14_Protected_ok (a0 : T_api_Route) (r : Bool) (h : d_ref14_Protected a0 = some r) : PCall Go.Proofs.Tryz.prog GlS 10 [Enc.pv a0] (Enc.pv r) := by
  unfold d_ref14_Protected at h
  refine pcall_of_pwp Go.Proofs.Tryz.func10 (by rfl) rfl Go.Proofs.Tryz.ntmps10 (by rfl) rfl ?_
  refine pwp_seq ?_
  refine r_reg ?_
  refine e_end (by kernel_rfl) ?_
  refine q_next ?_
  refine pwp_seq ?_
  refine r_reg ?_
  refine p_run 2 (by kernel_rfl) ?_
  refine p_len (L := (a0.Gaps : (List T_api_End))) (by kernel_rfl) ?_
  refine e_end (by kernel_rfl) ?_
  refine q_next ?_
  refine pwp_ret ?_
  cases h
  exact q_ret (by kernel_rfl) (by kernel_rfl) (by kernel_rfl)

/-! signallinglaw14.FlankFinds -/
noncomputable def d_law14_FlankFinds (a0 : T_api_Layout) (a1 : T_api_Route) : Option Bool :=
  (d_law14_few a0 a1).bind fun r1 =>
  bif (!r1) then (
    (d_law14_alive ).bind fun r2 =>
    some r2
  ) else (
    (d_flank_Find a0 a1).bind fun r3 =>
    (d_ref14_Find a0 a1).bind fun r4 =>
    (d_ref12_Same r3 r4).bind fun r5 =>
    ((bif r5 then (
      (d_flank_Protected a1).bind fun r7 =>
      (d_ref14_Protected a1).bind fun r8 =>
      some (r7 == r8)
    ) else some false) : Option Bool).bind fun b6 =>
    ((bif b6 then (
      (d_law14_alive ).bind fun r10 =>
      some r10
    ) else some false) : Option Bool).bind fun b9 =>
    some b9
  )
theorem d_law14_FlankFinds_ok (a0 : T_api_Layout) (a1 : T_api_Route) (r : Bool) (h : d_law14_FlankFinds a0 a1 = some r) : PCall Go.Proofs.Tryz.prog GlS 3 [Enc.pv a0, Enc.pv a1] (Enc.pv r) := by
  unfold d_law14_FlankFinds at h
  refine pcall_of_pwp Go.Proofs.Tryz.func3 (by rfl) rfl Go.Proofs.Tryz.ntmps3 (by rfl) rfl ?_
  refine pwp_seq ?_
  refine r_reg ?_
  refine e_end (by kernel_rfl) ?_
  refine q_next ?_
  refine pwp_seq ?_
  refine pwp_seq ?_
  refine r_reg ?_
  refine p_run 2 (by kernel_rfl) ?_
  obtain ⟨r1, h1, h⟩ := o_bind h
  refine p_call (d_law14_few_ok _ _ r1 h1) (by kernel_rfl) (by kernel_rfl) ?_
  refine e_end (by kernel_rfl) ?_
  refine q_next ?_
  rcases o_cond h with ⟨hb, h⟩ | ⟨hb, h⟩
  · refine r_cond_t hb (by kernel_rfl) ?_
    refine pwp_seq ?_
    refine r_reg ?_
    obtain ⟨r2, h2, h⟩ := o_bind h
    refine p_call (d_law14_alive_ok  r2 h2) (by kernel_rfl) (by kernel_rfl) ?_
    refine e_end (by kernel_rfl) ?_
    refine q_next ?_
    refine pwp_ret ?_
    refine q_seq_ret ?_
    cases h
    exact q_ret (by kernel_rfl) (by kernel_rfl) (by kernel_rfl)
  · refine r_cond_f hb (by kernel_rfl) ?_
    refine pwp_skip ?_
    refine q_next ?_
    refine pwp_seq ?_
    refine r_regd (by kernel_rfl) (by kernel_rfl) ?_
    refine p_run 2 (by kernel_rfl) ?_
    obtain ⟨r3, h3, h⟩ := o_bind h
    refine p_call (d_flank_Find_ok _ _ r3 h3) (by kernel_rfl) (by kernel_rfl) ?_
    refine p_run 2 (by kernel_rfl) ?_
    obtain ⟨r4, h4, h⟩ := o_bind h
    refine p_call (d_ref14_Find_ok _ _ r4 h4) (by kernel_rfl) (by kernel_rfl) ?_
    obtain ⟨r5, h5, h⟩ := o_bind h
    refine p_call (d_ref12_Same_ok _ _ r5 h5) (by kernel_rfl) (by kernel_rfl) ?_
    obtain ⟨b6, h6, h⟩ := o_bind h
    refine p_run 1 (by kernel_rfl) ?_
    refine e_seg 6 23 (.bool b6) ?_ ?_
    · rcases o_cond h6 with ⟨hb, h6⟩ | ⟨hb, h6⟩
      · refine p_settle 17 hb (by kernel_rfl) (by kernel_rfl) ?_
        refine p_run 1 (by kernel_rfl) ?_
        obtain ⟨r7, h7, h6⟩ := o_bind h6
        refine p_call (d_flank_Protected_ok _ r7 h7) (by kernel_rfl) (by kernel_rfl) ?_
        refine p_run 1 (by kernel_rfl) ?_
        obtain ⟨r8, h8, h6⟩ := o_bind h6
        refine p_call (d_ref14_Protected_ok _ r8 h8) (by kernel_rfl) (by kernel_rfl) ?_
        cases h6
        exact f_end (by kernel_rfl) (by kernel_rfl)
      · refine p_settle 17 hb (by kernel_rfl) (by kernel_rfl) ?_
        cases h6
        exact f_end (by kernel_rfl) (by kernel_rfl)
    · obtain ⟨b9, h9, h⟩ := o_bind h
      refine p_run 1 (by kernel_rfl) ?_
      refine e_seg 2 26 (.bool b9) ?_ ?_
      · rcases o_cond h9 with ⟨hb, h9⟩ | ⟨hb, h9⟩
        · refine p_settle 24 hb (by kernel_rfl) (by kernel_rfl) ?_
          obtain ⟨r10, h10, h9⟩ := o_bind h9
          refine p_call (d_law14_alive_ok  r10 h10) (by kernel_rfl) (by kernel_rfl) ?_
          cases h9
          exact f_end (by kernel_rfl) (by kernel_rfl)
        · refine p_settle 24 hb (by kernel_rfl) (by kernel_rfl) ?_
          cases h9
          exact f_end (by kernel_rfl) (by kernel_rfl)
      · refine e_end (by kernel_rfl) ?_
        refine q_next ?_
        refine pwp_ret ?_
        cases h
        exact q_ret (by kernel_rfl) (by kernel_rfl) (by kernel_rfl)

end PM
