/-
  Plain functions for the program's functions, and the proofs that the program does them. Printed by den.py.
-/
import Derived.Test.YtdnbdimfianapaaDoorDen1
namespace PM
open Go Go.RowKit
attribute [local irreducible] pops pwp

/-! authority.Extends -/
noncomputable def d_authority_Extends_0 (a0 : T_api_Authority) (a1 : T_api_Authority) : Int → Option (Int ⊕ (Unit ⊕ Bool)) := fun x8 =>
  bif decide (x8 < a0.End) then (
    (d_profile_At a0.Profile x8).bind fun r11 =>
    (d_profile_At a1.Profile x8).bind fun r12 =>
    bif ((((!r11.2) || (!r12.2)) || (!(decide (r11.1.Grade = r12.1.Grade)))) || (!(decide (r11.1.Speed = r12.1.Speed)))) then (
      some (.inr (.inr false))
    ) else (
      bif decide ((min r11.1.To r12.1.To) ≤ x8) then (
        some (.inr (.inr false))
      ) else (
        some (.inl (min r11.1.To r12.1.To))
      )
    )
  ) else (
    some (.inr (.inl ()))
  )

noncomputable def d_authority_Extends (a0 : T_api_Authority) (a1 : T_api_Authority) : Option Bool :=
  (d_authority_Valid a0).bind fun r1 =>
  ((bif (!r1) then some true else (
    (d_authority_Valid a1).bind fun r3 =>
    some (!r3)
  )) : Option Bool).bind fun b2 =>
  bif (b2 || (decide (a1.End < a0.End))) then (
    some false
  ) else (
    (ixO a0.Profile 0).bind fun x4 =>
    (ixO a1.Profile 0).bind fun x5 =>
    onInl (α := Unit) (β := Bool) (loopO (d_authority_Extends_0 a0 a1) (max x4.From x5.From)) fun _ =>
    some true
  )
theorem d_authority_Extends_ok (a0 : T_api_Authority) (a1 : T_api_Authority) (r : Bool) (h : d_authority_Extends a0 a1 = some r) : PCall Go.Proofs.Tryd.prog GlS 9 [Enc.pv a0, Enc.pv a1] (Enc.pv r) := by
  unfold d_authority_Extends at h
  refine pcall_of_pwp Go.Proofs.Tryd.func9 (by rfl) rfl Go.Proofs.Tryd.ntmps9 (by rfl) rfl ?_
  refine pwp_seq (r_reg ?_)
  refine e_end (by kernel_rfl) ?_
  refine q_next (pwp_seq (pwp_seq (r_reg ?_)))
  refine p_run 1 (by kernel_rfl) ?_
  obtain ⟨r1, h1, h⟩ := o_bind h
  refine p_call (d_authority_Valid_ok _ r1 h1) (by kernel_rfl) (by kernel_rfl) ?_
  obtain ⟨b2, h2, h⟩ := o_bind h
  refine p_run 2 (by kernel_rfl) ?_
  refine e_seg 4 18 (.bool b2) ?_ ?_
  · rcases o_cond h2 with ⟨hb, h2⟩ | ⟨hb, h2⟩
    · refine p_settle 14 hb (by kernel_rfl) (by kernel_rfl) ?_
      cases h2
      exact f_end (by kernel_rfl) (by kernel_rfl)
    refine p_settle 14 hb (by kernel_rfl) (by kernel_rfl) ?_
    refine p_run 1 (by kernel_rfl) ?_
    obtain ⟨r3, h3, h2⟩ := o_bind h2
    refine p_call (d_authority_Valid_ok _ r3 h3) (by kernel_rfl) (by kernel_rfl) ?_
    cases h2
    exact f_end (by kernel_rfl) (by kernel_rfl)
  refine p_run 1 (by kernel_rfl) ?_
  refine e_segb 6 25 (b2 || (decide (a1.End < a0.End))) (fun x hx => ?_) ?_
  · rcases b_or hx with ⟨hb, hx⟩ | ⟨hb, hx⟩
    · refine p_settle 19 hb (by kernel_rfl) (by kernel_rfl) ?_
      subst hx
      exact f_end (by kernel_rfl) (by kernel_rfl)
    refine p_settle 19 hb (by kernel_rfl) (by kernel_rfl) ?_
    subst hx
    exact f_end (by kernel_rfl) (by kernel_rfl)
  refine e_nil (by kernel_rfl) ?_
  refine q_next ?_
  rcases o_cond h with ⟨hb, h⟩ | ⟨hb, h⟩
  · refine r_cond_t hb (by kernel_rfl) ?_
    refine pwp_seq (r_reg ?_)
    refine e_end (by kernel_rfl) ?_
    refine q_next (pwp_ret (q_seq_ret ?_))
    cases h
    exact q_ret (by kernel_rfl) (by kernel_rfl) (by kernel_rfl)
  refine r_cond_f hb (by kernel_rfl) ?_
  refine pwp_skip (q_next (pwp_seq ?_))
  refine r_regd (by kernel_rfl) (by kernel_rfl) ?_
  refine p_run 2 (by kernel_rfl) ?_
  obtain ⟨x4, h4, h⟩ := o_bind h
  refine p_ix h4 (by kernel_rfl) ?_
  refine p_run 4 (by kernel_rfl) ?_
  obtain ⟨x5, h5, h⟩ := o_bind h
  refine p_ix h5 (by kernel_rfl) ?_
  refine e_end (by kernel_rfl) ?_
  refine q_next (pwp_seq (pwp_block ?_))
  obtain ⟨o15, h15, h⟩ := o_inl h
  refine r_loop2 84 0 (fun x8 => ⟨[(2, .ref 2 0), (3, .ref 3 0), (5, .int .i64 x8)], [(2, .cells (cellsOf a0)), (3, .cells (cellsOf a1))], [], []⟩) (fun (_ : Unit) => ⟨[], [], [], []⟩) h15 (by kernel_rfl) (fun _ => by kernel_rfl) ?_ ?_
  · rintro x8 oh14 h14
    unfold d_authority_Extends_0 at h14
    refine pwp_seq (pwp_seq (r_reg ?_))
    refine e_end (by kernel_rfl) ?_
    refine q_next ?_
    rcases o_cond h14 with ⟨hb, h14⟩ | ⟨hb, h14⟩
    · refine r_cond_t hb (by kernel_rfl) ?_
      refine pwp_skip (q_next (pwp_block (pwp_seq (r_reg ?_))))
      refine p_run 3 (by kernel_rfl) ?_
      obtain ⟨r11, h16, h14⟩ := o_bind h14
      refine p_call (d_profile_At_ok _ _ r11 h16) (by kernel_rfl) (by kernel_rfl) ?_
      refine e_end (by kernel_rfl) ?_
      refine q_next (pwp_seq (r_reg ?_))
      refine p_run 3 (by kernel_rfl) ?_
      obtain ⟨r12, h17, h14⟩ := o_bind h14
      refine p_call (d_profile_At_ok _ _ r12 h17) (by kernel_rfl) (by kernel_rfl) ?_
      refine e_end (by kernel_rfl) ?_
      refine q_next (pwp_seq (pwp_seq (r_reg ?_)))
      refine p_run 3 (by kernel_rfl) ?_
      refine e_segb 3 60 ((!r11.2) || (!r12.2)) (fun x hx => ?_) ?_
      · rcases b_or hx with ⟨hb, hx⟩ | ⟨hb, hx⟩
        · refine p_settle 57 hb (by kernel_rfl) (by kernel_rfl) ?_
          subst hx
          exact f_end (by kernel_rfl) (by kernel_rfl)
        refine p_settle 57 hb (by kernel_rfl) (by kernel_rfl) ?_
        subst hx
        exact f_end (by kernel_rfl) (by kernel_rfl)
      refine p_run 1 (by kernel_rfl) ?_
      refine e_segb 6 67 (((!r11.2) || (!r12.2)) || (!(decide (r11.1.Grade = r12.1.Grade)))) (fun x hx => ?_) ?_
      · rcases b_or hx with ⟨hb, hx⟩ | ⟨hb, hx⟩
        · refine p_settle 61 hb (by kernel_rfl) (by kernel_rfl) ?_
          subst hx
          exact f_end (by kernel_rfl) (by kernel_rfl)
        refine p_settle 61 hb (by kernel_rfl) (by kernel_rfl) ?_
        subst hx
        exact f_end (by kernel_rfl) (by kernel_rfl)
      refine p_run 1 (by kernel_rfl) ?_
      refine e_segb 6 74 ((((!r11.2) || (!r12.2)) || (!(decide (r11.1.Grade = r12.1.Grade)))) || (!(decide (r11.1.Speed = r12.1.Speed)))) (fun x hx => ?_) ?_
      · rcases b_or hx with ⟨hb, hx⟩ | ⟨hb, hx⟩
        · refine p_settle 68 hb (by kernel_rfl) (by kernel_rfl) ?_
          subst hx
          exact f_end (by kernel_rfl) (by kernel_rfl)
        refine p_settle 68 hb (by kernel_rfl) (by kernel_rfl) ?_
        subst hx
        exact f_end (by kernel_rfl) (by kernel_rfl)
      refine e_nil (by kernel_rfl) ?_
      refine q_next ?_
      rcases o_cond h14 with ⟨hb, h14⟩ | ⟨hb, h14⟩
      · refine r_cond_t hb (by kernel_rfl) ?_
        refine pwp_seq (r_reg ?_)
        refine e_end (by kernel_rfl) ?_
        refine q_next (pwp_ret (q_seq_ret (q_block_ret ?_)))
        cases h14
        refine q_lout_ret fun he => ?_
        subst he
        have h18 := o_outr h
        refine q_block_ret (q_seq_ret ?_)
        cases h18
        exact q_ret (by kernel_rfl) (by kernel_rfl) (by kernel_rfl)
      refine r_cond_f hb (by kernel_rfl) ?_
      refine pwp_skip (q_next (pwp_seq (r_reg ?_)))
      refine e_end (by kernel_rfl) ?_
      refine q_next (pwp_seq (pwp_seq (r_reg ?_)))
      refine e_end (by kernel_rfl) ?_
      refine q_next ?_
      rcases o_cond h14 with ⟨hb, h14⟩ | ⟨hb, h14⟩
      · refine r_cond_t hb (by kernel_rfl) ?_
        refine pwp_seq (r_reg ?_)
        refine e_end (by kernel_rfl) ?_
        refine q_next (pwp_ret (q_seq_ret (q_block_ret ?_)))
        cases h14
        refine q_lout_ret fun he => ?_
        subst he
        have h19 := o_outr h
        refine q_block_ret (q_seq_ret ?_)
        cases h19
        exact q_ret (by kernel_rfl) (by kernel_rfl) (by kernel_rfl)
      refine r_cond_f hb (by kernel_rfl) ?_
      refine pwp_skip (q_next (r_reg ?_))
      refine e_end (by kernel_rfl) ?_
      refine q_block ?_
      cases h14
      exact q_lback (by kernel_rfl)
    refine r_cond_f hb (by kernel_rfl) ?_
    refine pwp_exit (q_seq_exit ?_)
    cases h14
    exact q_lexit (by kernel_rfl) (by kernel_rfl)
  rintro _ s' rfl hs
  have h := o_outl h
  refine q_block_hit ?_
  refine q_next (pwp_wkr hs ?_)
  refine pwp_seq (r_reg ?_)
  refine e_end (by kernel_rfl) ?_
  refine q_next (pwp_ret ?_)
  cases h
  exact q_ret (by kernel_rfl) (by kernel_rfl) (by kernel_rfl)

/-! signallinglaw45.alive -/
noncomputable def d_law45_alive : Option Bool :=
  (d_law45_line ).bind fun r1 =>
  (d_authority_Build r1 (T_api_Track.mk 0 (-15000) 0 5000 [(T_api_Step.mk 0 0 1)] [] [] [] [] 0 0 0 0 0) ([] : (List T_api_Restriction)) 1).bind fun r2 =>
  (appO [(T_api_Step.mk 0 0 1)] [(T_api_Step.mk 1 0 1)]).bind fun x3 =>
  (d_law45_line ).bind fun r4 =>
  (d_authority_Build r4 (T_api_Track.mk 0 (-15000) 0 25000 x3 [] [] [] [] 0 0 0 0 0) ([] : (List T_api_Restriction)) 2).bind fun r5 =>
  (d_law45_line ).bind fun r6 =>
  (d_authority_Build r6 (T_api_Track.mk 0 (-15000) 0 26000 x3 [] [] [] [] 0 0 0 0 0) ([] : (List T_api_Restriction)) 3).bind fun r7 =>
  ((bif (((decide (r2.2 = 0)) && (decide (r5.2 = 0))) && (decide (r7.2 = 2))) then (
    (d_ref45_Same r2.1 (T_api_Authority.mk 1 5000 [(T_api_Segment.mk (-15000) 5000 0 3000)] [])).bind fun r9 =>
    some r9
  ) else some false) : Option Bool).bind fun b8 =>
  ((bif b8 then (
    (d_authority_Same r2.1 (T_api_Authority.mk 1 5000 [(T_api_Segment.mk (-15000) 5000 0 3000)] [])).bind fun r11 =>
    some r11
  ) else some false) : Option Bool).bind fun b10 =>
  ((bif b10 then (
    (d_authority_Valid r5.1).bind fun r13 =>
    some r13
  ) else some false) : Option Bool).bind fun b12 =>
  ((bif b12 then (
    some (decide (((r5.1.Profile.length : Nat) : Int) = 2))
  ) else some false) : Option Bool).bind fun b14 =>
  ((bif b14 then (
    (d_authority_Extends r2.1 r5.1).bind fun r16 =>
    some r16
  ) else some false) : Option Bool).bind fun b15 =>
  ((bif b15 then (
    (d_authority_Extends r5.1 r2.1).bind fun r18 =>
    some (!r18)
  ) else some false) : Option Bool).bind fun b17 =>
  some b17
set_option maxRecDepth 100000 in
theorem d_law45_alive_ok (r : Bool) (h : d_law45_alive = some r) : PCall Go.Proofs.Tryd.prog GlS 6 [] (Enc.pv r) := by
  unfold d_law45_alive at h
  refine pcall_of_pwp Go.Proofs.Tryd.func6 (by rfl) rfl Go.Proofs.Tryd.ntmps6 (by rfl) rfl ?_
  refine pwp_seq (r_reg ?_)
  refine e_end (by kernel_rfl) ?_
  refine q_next (pwp_seq (r_reg ?_))
  refine e_end (by kernel_rfl) ?_
  refine q_next (pwp_seq ?_)
  refine r_regd (by kernel_rfl) (by kernel_rfl) ?_
  obtain ⟨r1, h1, h⟩ := o_bind h
  refine p_call (d_law45_line_ok  r1 h1) (by kernel_rfl) (by kernel_rfl) ?_
  refine p_run 1 (by kernel_rfl) ?_
  obtain ⟨r2, h2, h⟩ := o_bind h
  refine p_call (d_authority_Build_ok _ _ _ _ r2 h2) (by kernel_rfl) (by kernel_rfl) ?_
  refine e_end (by kernel_rfl) ?_
  refine q_next (pwp_seq (r_reg ?_))
  refine p_run 4 (by kernel_rfl) ?_
  obtain ⟨x3, h3, h⟩ := o_bind h
  refine p_appn (tk := 22) h3 (by kernel_rfl) ?_
  refine e_end (by kernel_rfl) ?_
  refine q_next (pwp_seq (r_reg ?_))
  refine e_end (by kernel_rfl) ?_
  refine q_next (pwp_seq ?_)
  refine r_regd (by kernel_rfl) (by kernel_rfl) ?_
  obtain ⟨r4, h4, h⟩ := o_bind h
  refine p_call (d_law45_line_ok  r4 h4) (by kernel_rfl) (by kernel_rfl) ?_
  refine p_run 1 (by kernel_rfl) ?_
  obtain ⟨r5, h5, h⟩ := o_bind h
  refine p_call (d_authority_Build_ok _ _ _ _ r5 h5) (by kernel_rfl) (by kernel_rfl) ?_
  refine e_end (by kernel_rfl) ?_
  refine q_next (pwp_seq (r_reg ?_))
  refine e_end (by kernel_rfl) ?_
  refine q_next (pwp_seq ?_)
  refine r_regd (by kernel_rfl) (by kernel_rfl) ?_
  obtain ⟨r6, h6, h⟩ := o_bind h
  refine p_call (d_law45_line_ok  r6 h6) (by kernel_rfl) (by kernel_rfl) ?_
  refine p_run 1 (by kernel_rfl) ?_
  obtain ⟨r7, h7, h⟩ := o_bind h
  refine p_call (d_authority_Build_ok _ _ _ _ r7 h7) (by kernel_rfl) (by kernel_rfl) ?_
  refine e_end (by kernel_rfl) ?_
  refine q_next (pwp_seq (r_reg ?_))
  refine e_end (by kernel_rfl) ?_
  refine q_next (pwp_seq (r_reg ?_))
  refine p_run 3 (by kernel_rfl) ?_
  refine e_segb 3 46 ((decide (r2.2 = 0)) && (decide (r5.2 = 0))) (fun x hx => ?_) ?_
  · rcases b_and hx with ⟨hb, hx⟩ | ⟨hb, hx⟩
    · refine p_settle 43 hb (by kernel_rfl) (by kernel_rfl) ?_
      subst hx
      exact f_end (by kernel_rfl) (by kernel_rfl)
    refine p_settle 43 hb (by kernel_rfl) (by kernel_rfl) ?_
    subst hx
    exact f_end (by kernel_rfl) (by kernel_rfl)
  refine p_run 1 (by kernel_rfl) ?_
  refine e_segb 3 50 (((decide (r2.2 = 0)) && (decide (r5.2 = 0))) && (decide (r7.2 = 2))) (fun x hx => ?_) ?_
  · rcases b_and hx with ⟨hb, hx⟩ | ⟨hb, hx⟩
    · refine p_settle 47 hb (by kernel_rfl) (by kernel_rfl) ?_
      subst hx
      exact f_end (by kernel_rfl) (by kernel_rfl)
    refine p_settle 47 hb (by kernel_rfl) (by kernel_rfl) ?_
    subst hx
    exact f_end (by kernel_rfl) (by kernel_rfl)
  obtain ⟨b8, h8, h⟩ := o_bind h
  refine p_run 1 (by kernel_rfl) ?_
  refine e_seg 4 55 (.bool b8) ?_ ?_
  · rcases o_cond h8 with ⟨hb, h8⟩ | ⟨hb, h8⟩
    · refine p_settle 51 hb (by kernel_rfl) (by kernel_rfl) ?_
      refine p_run 2 (by kernel_rfl) ?_
      obtain ⟨r9, h9, h8⟩ := o_bind h8
      refine p_call (d_ref45_Same_ok _ _ r9 h9) (by kernel_rfl) (by kernel_rfl) ?_
      cases h8
      exact f_end (by kernel_rfl) (by kernel_rfl)
    refine p_settle 51 hb (by kernel_rfl) (by kernel_rfl) ?_
    cases h8
    exact f_end (by kernel_rfl) (by kernel_rfl)
  obtain ⟨b10, h10, h⟩ := o_bind h
  refine p_run 1 (by kernel_rfl) ?_
  refine e_seg 4 60 (.bool b10) ?_ ?_
  · rcases o_cond h10 with ⟨hb, h10⟩ | ⟨hb, h10⟩
    · refine p_settle 56 hb (by kernel_rfl) (by kernel_rfl) ?_
      refine p_run 2 (by kernel_rfl) ?_
      obtain ⟨r11, h11, h10⟩ := o_bind h10
      refine p_call (d_authority_Same_ok _ _ r11 h11) (by kernel_rfl) (by kernel_rfl) ?_
      cases h10
      exact f_end (by kernel_rfl) (by kernel_rfl)
    refine p_settle 56 hb (by kernel_rfl) (by kernel_rfl) ?_
    cases h10
    exact f_end (by kernel_rfl) (by kernel_rfl)
  obtain ⟨b12, h12, h⟩ := o_bind h
  refine p_run 1 (by kernel_rfl) ?_
  refine e_seg 3 64 (.bool b12) ?_ ?_
  · rcases o_cond h12 with ⟨hb, h12⟩ | ⟨hb, h12⟩
    · refine p_settle 61 hb (by kernel_rfl) (by kernel_rfl) ?_
      refine p_run 1 (by kernel_rfl) ?_
      obtain ⟨r13, h13, h12⟩ := o_bind h12
      refine p_call (d_authority_Valid_ok _ r13 h13) (by kernel_rfl) (by kernel_rfl) ?_
      cases h12
      exact f_end (by kernel_rfl) (by kernel_rfl)
    refine p_settle 61 hb (by kernel_rfl) (by kernel_rfl) ?_
    cases h12
    exact f_end (by kernel_rfl) (by kernel_rfl)
  obtain ⟨b14, h14, h⟩ := o_bind h
  refine p_run 1 (by kernel_rfl) ?_
  refine e_seg 5 70 (.bool b14) ?_ ?_
  · rcases o_cond h14 with ⟨hb, h14⟩ | ⟨hb, h14⟩
    · refine p_settle 65 hb (by kernel_rfl) (by kernel_rfl) ?_
      refine p_run 2 (by kernel_rfl) ?_
      refine p_len (L := (r5.1.Profile : (List T_api_Segment))) (by kernel_rfl) ?_
      cases h14
      exact f_end (by kernel_rfl) (by kernel_rfl)
    refine p_settle 65 hb (by kernel_rfl) (by kernel_rfl) ?_
    cases h14
    exact f_end (by kernel_rfl) (by kernel_rfl)
  obtain ⟨b15, h15, h⟩ := o_bind h
  refine p_run 1 (by kernel_rfl) ?_
  refine e_seg 4 75 (.bool b15) ?_ ?_
  · rcases o_cond h15 with ⟨hb, h15⟩ | ⟨hb, h15⟩
    · refine p_settle 71 hb (by kernel_rfl) (by kernel_rfl) ?_
      refine p_run 2 (by kernel_rfl) ?_
      obtain ⟨r16, h16, h15⟩ := o_bind h15
      refine p_call (d_authority_Extends_ok _ _ r16 h16) (by kernel_rfl) (by kernel_rfl) ?_
      cases h15
      exact f_end (by kernel_rfl) (by kernel_rfl)
    refine p_settle 71 hb (by kernel_rfl) (by kernel_rfl) ?_
    cases h15
    exact f_end (by kernel_rfl) (by kernel_rfl)
  obtain ⟨b17, h17, h⟩ := o_bind h
  refine p_run 1 (by kernel_rfl) ?_
  refine e_seg 5 81 (.bool b17) ?_ ?_
  · rcases o_cond h17 with ⟨hb, h17⟩ | ⟨hb, h17⟩
    · refine p_settle 76 hb (by kernel_rfl) (by kernel_rfl) ?_
      refine p_run 2 (by kernel_rfl) ?_
      obtain ⟨r18, h18, h17⟩ := o_bind h17
      refine p_call (d_authority_Extends_ok _ _ r18 h18) (by kernel_rfl) (by kernel_rfl) ?_
      cases h17
      exact f_end (by kernel_rfl) (by kernel_rfl)
    refine p_settle 76 hb (by kernel_rfl) (by kernel_rfl) ?_
    cases h17
    exact f_end (by kernel_rfl) (by kernel_rfl)
  refine e_end (by kernel_rfl) ?_
  refine q_next (pwp_ret ?_)
  cases h
  exact q_ret (by kernel_rfl) (by kernel_rfl) (by kernel_rfl)

/-! signallingref10.Valid -/
noncomputable def d_ref10_Valid_0 (a0 : (List T_api_Segment)) : Int → Option (Int ⊕ (Unit ⊕ Bool)) := fun x5 =>
  bif decide (x5 < ((a0.length : Nat) : Int)) then (
    (ixO a0 x5).bind fun x10 =>
    ((bif (((((((decide (x10.From < (-1073741824))) || (decide (x10.To ≤ x10.From))) || (decide (1073741824 < x10.To))) || (decide (x10.Grade < (-50)))) || (decide (50 < x10.Grade))) || (decide (x10.Speed < 1))) || (decide (10000 < x10.Speed))) then some true else (
      ((bif decide (0 < x5) then (
        (ixO a0 (w64 (x5 - 1))).bind fun x13 =>
        some (!(decide (x13.To = x10.From)))
      ) else some false) : Option Bool).bind fun b12 =>
      some b12
    )) : Option Bool).bind fun b11 =>
    bif b11 then (
      some (.inr (.inr false))
    ) else (
      some (.inl (w64 (x5 + 1)))
    )
  ) else (
    some (.inr (.inl ()))
  )

noncomputable def d_ref10_Valid (a0 : (List T_api_Segment)) : Option Bool :=
  onInl (α := Unit) (β := Bool) (loopO (d_ref10_Valid_0 a0) 0) fun _ =>
  some (decide (((a0.length : Nat) : Int) ≤ 128))
theorem d_ref10_Valid_ok (a0 : (List T_api_Segment)) (r : Bool) (h : d_ref10_Valid a0 = some r) : PCall Go.Proofs.Tryd.prog GlS 19 [Enc.pv a0] (Enc.pv r) := by
  unfold d_ref10_Valid at h
  refine pcall_of_pwp Go.Proofs.Tryd.func19 (by rfl) rfl Go.Proofs.Tryd.ntmps19 (by rfl) rfl ?_
  refine pwp_seq (r_reg ?_)
  refine e_end (by kernel_rfl) ?_
  refine q_next (pwp_seq (pwp_seq (r_reg ?_)))
  refine p_run 1 (by kernel_rfl) ?_
  refine p_len (L := (a0 : (List T_api_Segment))) (by kernel_rfl) ?_
  refine e_end (by kernel_rfl) ?_
  refine q_next (pwp_block ?_)
  obtain ⟨o12, h12, h⟩ := o_inl h
  refine r_loop2 66 0 (fun x5 => ⟨[(0, lstOf .frozen (a0 : (List T_api_Segment))), (5, lstOf .frozen (a0 : (List T_api_Segment))), (6, .int .i64 ((a0.length : Nat) : Int)), (7, .int .i64 x5)], [], [], []⟩) (fun (_ : Unit) => ⟨[(0, lstOf .frozen (a0 : (List T_api_Segment)))], [], [], []⟩) h12 (by kernel_rfl) (fun _ => by kernel_rfl) ?_ ?_
  · rintro x5 oh11 h11
    unfold d_ref10_Valid_0 at h11
    refine pwp_seq (r_reg ?_)
    refine e_end (by kernel_rfl) ?_
    refine q_next (pwp_seq ?_)
    rcases o_cond h11 with ⟨hb, h11⟩ | ⟨hb, h11⟩
    · refine r_cond_t hb (by kernel_rfl) ?_
      refine pwp_skip (q_next (pwp_seq (pwp_block (pwp_seq (r_reg ?_)))))
      refine p_run 1 (by kernel_rfl) ?_
      obtain ⟨x10, h13, h11⟩ := o_bind h11
      refine p_ix h13 (by kernel_rfl) ?_
      refine e_end (by kernel_rfl) ?_
      refine q_next (pwp_seq ?_)
      refine r_regd (by kernel_rfl) (by kernel_rfl) ?_
      refine p_run 4 (by kernel_rfl) ?_
      refine e_segb 6 21 ((decide (x10.From < (-1073741824))) || (decide (x10.To ≤ x10.From))) (fun x hx => ?_) ?_
      · rcases b_or hx with ⟨hb, hx⟩ | ⟨hb, hx⟩
        · refine p_settle 15 hb (by kernel_rfl) (by kernel_rfl) ?_
          subst hx
          exact f_end (by kernel_rfl) (by kernel_rfl)
        refine p_settle 15 hb (by kernel_rfl) (by kernel_rfl) ?_
        subst hx
        exact f_end (by kernel_rfl) (by kernel_rfl)
      refine p_run 1 (by kernel_rfl) ?_
      refine e_segb 4 26 (((decide (x10.From < (-1073741824))) || (decide (x10.To ≤ x10.From))) || (decide (1073741824 < x10.To))) (fun x hx => ?_) ?_
      · rcases b_or hx with ⟨hb, hx⟩ | ⟨hb, hx⟩
        · refine p_settle 22 hb (by kernel_rfl) (by kernel_rfl) ?_
          subst hx
          exact f_end (by kernel_rfl) (by kernel_rfl)
        refine p_settle 22 hb (by kernel_rfl) (by kernel_rfl) ?_
        subst hx
        exact f_end (by kernel_rfl) (by kernel_rfl)
      refine p_run 1 (by kernel_rfl) ?_
      refine e_segb 4 31 ((((decide (x10.From < (-1073741824))) || (decide (x10.To ≤ x10.From))) || (decide (1073741824 < x10.To))) || (decide (x10.Grade < (-50)))) (fun x hx => ?_) ?_
      · rcases b_or hx with ⟨hb, hx⟩ | ⟨hb, hx⟩
        · refine p_settle 27 hb (by kernel_rfl) (by kernel_rfl) ?_
          subst hx
          exact f_end (by kernel_rfl) (by kernel_rfl)
        refine p_settle 27 hb (by kernel_rfl) (by kernel_rfl) ?_
        subst hx
        exact f_end (by kernel_rfl) (by kernel_rfl)
      refine p_run 1 (by kernel_rfl) ?_
      refine e_segb 4 36 (((((decide (x10.From < (-1073741824))) || (decide (x10.To ≤ x10.From))) || (decide (1073741824 < x10.To))) || (decide (x10.Grade < (-50)))) || (decide (50 < x10.Grade))) (fun x hx => ?_) ?_
      · rcases b_or hx with ⟨hb, hx⟩ | ⟨hb, hx⟩
        · refine p_settle 32 hb (by kernel_rfl) (by kernel_rfl) ?_
          subst hx
          exact f_end (by kernel_rfl) (by kernel_rfl)
        refine p_settle 32 hb (by kernel_rfl) (by kernel_rfl) ?_
        subst hx
        exact f_end (by kernel_rfl) (by kernel_rfl)
      refine p_run 1 (by kernel_rfl) ?_
      refine e_segb 4 41 ((((((decide (x10.From < (-1073741824))) || (decide (x10.To ≤ x10.From))) || (decide (1073741824 < x10.To))) || (decide (x10.Grade < (-50)))) || (decide (50 < x10.Grade))) || (decide (x10.Speed < 1))) (fun x hx => ?_) ?_
      · rcases b_or hx with ⟨hb, hx⟩ | ⟨hb, hx⟩
        · refine p_settle 37 hb (by kernel_rfl) (by kernel_rfl) ?_
          subst hx
          exact f_end (by kernel_rfl) (by kernel_rfl)
        refine p_settle 37 hb (by kernel_rfl) (by kernel_rfl) ?_
        subst hx
        exact f_end (by kernel_rfl) (by kernel_rfl)
      refine p_run 1 (by kernel_rfl) ?_
      refine e_segb 4 46 (((((((decide (x10.From < (-1073741824))) || (decide (x10.To ≤ x10.From))) || (decide (1073741824 < x10.To))) || (decide (x10.Grade < (-50)))) || (decide (50 < x10.Grade))) || (decide (x10.Speed < 1))) || (decide (10000 < x10.Speed))) (fun x hx => ?_) ?_
      · rcases b_or hx with ⟨hb, hx⟩ | ⟨hb, hx⟩
        · refine p_settle 42 hb (by kernel_rfl) (by kernel_rfl) ?_
          subst hx
          exact f_end (by kernel_rfl) (by kernel_rfl)
        refine p_settle 42 hb (by kernel_rfl) (by kernel_rfl) ?_
        subst hx
        exact f_end (by kernel_rfl) (by kernel_rfl)
      obtain ⟨b11, h14, h11⟩ := o_bind h11
      refine p_run 1 (by kernel_rfl) ?_
      refine e_seg 14 61 (.bool b11) ?_ ?_
      · rcases o_cond h14 with ⟨hb, h14⟩ | ⟨hb, h14⟩
        · refine p_settle 47 hb (by kernel_rfl) (by kernel_rfl) ?_
          cases h14
          exact f_end (by kernel_rfl) (by kernel_rfl)
        refine p_settle 47 hb (by kernel_rfl) (by kernel_rfl) ?_
        obtain ⟨b12, h15, h14⟩ := o_bind h14
        refine p_run 3 (by kernel_rfl) ?_
        refine f_seg 10 60 (.bool b12) ?_ ?_
        · rcases o_cond h15 with ⟨hb, h15⟩ | ⟨hb, h15⟩
          · refine p_settle 50 hb (by kernel_rfl) (by kernel_rfl) ?_
            refine p_run 3 (by kernel_rfl) ?_
            obtain ⟨x13, h16, h15⟩ := o_bind h15
            refine p_ix h16 (by kernel_rfl) ?_
            cases h15
            exact f_end (by kernel_rfl) (by kernel_rfl)
          refine p_settle 50 hb (by kernel_rfl) (by kernel_rfl) ?_
          cases h15
          exact f_end (by kernel_rfl) (by kernel_rfl)
        cases h14
        exact f_end (by kernel_rfl) (by kernel_rfl)
      refine e_nil (by kernel_rfl) ?_
      refine q_next ?_
      rcases o_cond h11 with ⟨hb, h11⟩ | ⟨hb, h11⟩
      · refine r_cond_t hb (by kernel_rfl) ?_
        refine pwp_seq (r_reg ?_)
        refine e_end (by kernel_rfl) ?_
        refine q_next (pwp_ret (q_block_ret (q_seq_ret ?_)))
        cases h11
        refine q_lout_ret fun he => ?_
        subst he
        have h17 := o_outr h
        refine q_block_ret (q_seq_ret ?_)
        cases h17
        exact q_ret (by kernel_rfl) (by kernel_rfl) (by kernel_rfl)
      refine r_cond_f hb (by kernel_rfl) ?_
      refine pwp_skip (q_block (q_next (r_reg ?_)))
      refine e_end (by kernel_rfl) ?_
      cases h11
      exact q_lback (by kernel_rfl)
    refine r_cond_f hb (by kernel_rfl) ?_
    refine pwp_exit (q_seq_exit ?_)
    cases h11
    exact q_lexit (by kernel_rfl) (by kernel_rfl)
  rintro _ s' rfl hs
  have h := o_outl h
  refine q_block_hit ?_
  refine q_next (pwp_wkr hs ?_)
  refine pwp_seq (r_reg ?_)
  refine p_run 1 (by kernel_rfl) ?_
  refine p_len (L := (a0 : (List T_api_Segment))) (by kernel_rfl) ?_
  refine e_end (by kernel_rfl) ?_
  refine q_next (pwp_ret ?_)
  cases h
  exact q_ret (by kernel_rfl) (by kernel_rfl) (by kernel_rfl)

/-! signallingref32.Valid -/
noncomputable def d_ref32_Valid_1 (a0 : (List T_api_Linked)) (x12 : Int) : Int → Option (Int ⊕ (Unit ⊕ (Int ⊕ (Unit ⊕ Bool)))) := fun x30 =>
  bif decide (x30 < x12) then (
    (ixO a0 x30).bind fun x33 =>
    (ixO a0 x12).bind fun x34 =>
    bif decide (x33.Id = x34.Id) then (
      some (.inr (.inr (.inr (.inr false))))
    ) else (
      some (.inl (w64 (x30 + 1)))
    )
  ) else (
    some (.inr (.inl ()))
  )

noncomputable def d_ref32_Valid_0 (a0 : (List T_api_Linked)) : Int → Option (Int ⊕ (Unit ⊕ Bool)) := fun x12 =>
  ((bif decide (x12 < ((a0.length : Nat) : Int)) then (
    some (decide (((a0.length : Nat) : Int) ≤ 24))
  ) else some false) : Option Bool).bind fun b24 =>
  bif b24 then (
    ((bif decide (0 < x12) then (
      (ixO a0 x12).bind fun x26 =>
      (ixO a0 (w64 (x12 - 1))).bind fun x27 =>
      some (decide (x26.At < x27.At))
    ) else some false) : Option Bool).bind fun b25 =>
    bif b25 then (
      some (.inr (.inr false))
    ) else (
      onInl (α := Unit) (β := (Int ⊕ (Unit ⊕ Bool))) (loopO (d_ref32_Valid_1 a0 x12) 0) fun _ =>
      some (.inl (w64 (x12 + 1)))
    )
  ) else (
    some (.inr (.inl ()))
  )

noncomputable def d_ref32_Valid (a0 : (List T_api_Linked)) : Option Bool :=
  onInl (α := Unit) (β := Bool) (loopO (d_ref32_Valid_0 a0) 0) fun _ =>
  some (decide (((a0.length : Nat) : Int) ≤ 24))
theorem d_ref32_Valid_ok (a0 : (List T_api_Linked)) (r : Bool) (h : d_ref32_Valid a0 = some r) : PCall Go.Proofs.Tryd.prog GlS 20 [Enc.pv a0] (Enc.pv r) := by
  unfold d_ref32_Valid at h
  refine pcall_of_pwp Go.Proofs.Tryd.func20 (by rfl) rfl Go.Proofs.Tryd.ntmps20 (by rfl) rfl ?_
  refine pwp_seq (r_reg ?_)
  refine e_end (by kernel_rfl) ?_
  refine q_next (pwp_seq (pwp_seq (r_reg ?_)))
  refine e_end (by kernel_rfl) ?_
  refine q_next (pwp_block ?_)
  obtain ⟨o40, h40, h⟩ := o_inl h
  refine r_loop2 51 0 (fun x12 => ⟨[(0, lstOf .frozen (a0 : (List T_api_Linked))), (3, .int .i64 x12)], [], [], []⟩) (fun (_ : Unit) => ⟨[(0, lstOf .frozen (a0 : (List T_api_Linked)))], [], [], []⟩) h40 (by kernel_rfl) (fun _ => by kernel_rfl) ?_ ?_
  · rintro x12 oh39 h39
    unfold d_ref32_Valid_0 at h39
    refine pwp_seq (pwp_seq (r_reg ?_))
    refine p_run 2 (by kernel_rfl) ?_
    refine p_len (L := (a0 : (List T_api_Linked))) (by kernel_rfl) ?_
    obtain ⟨b24, h41, h39⟩ := o_bind h39
    refine p_run 2 (by kernel_rfl) ?_
    refine e_seg 4 13 (.bool b24) ?_ ?_
    · rcases o_cond h41 with ⟨hb, h41⟩ | ⟨hb, h41⟩
      · refine p_settle 9 hb (by kernel_rfl) (by kernel_rfl) ?_
        refine p_run 1 (by kernel_rfl) ?_
        refine p_len (L := (a0 : (List T_api_Linked))) (by kernel_rfl) ?_
        cases h41
        exact f_end (by kernel_rfl) (by kernel_rfl)
      refine p_settle 9 hb (by kernel_rfl) (by kernel_rfl) ?_
      cases h41
      exact f_end (by kernel_rfl) (by kernel_rfl)
    refine e_nil (by kernel_rfl) ?_
    refine q_next ?_
    rcases o_cond h39 with ⟨hb, h39⟩ | ⟨hb, h39⟩
    · refine r_cond_t hb (by kernel_rfl) ?_
      refine pwp_skip (q_next (pwp_seq (pwp_block (pwp_seq (pwp_seq ?_)))))
      refine r_regd (by kernel_rfl) (by kernel_rfl) ?_
      obtain ⟨b25, h42, h39⟩ := o_bind h39
      refine p_run 3 (by kernel_rfl) ?_
      refine e_seg 13 31 (.bool b25) ?_ ?_
      · rcases o_cond h42 with ⟨hb, h42⟩ | ⟨hb, h42⟩
        · refine p_settle 18 hb (by kernel_rfl) (by kernel_rfl) ?_
          refine p_run 2 (by kernel_rfl) ?_
          obtain ⟨x26, h43, h42⟩ := o_bind h42
          refine p_ix h43 (by kernel_rfl) ?_
          refine p_run 5 (by kernel_rfl) ?_
          obtain ⟨x27, h44, h42⟩ := o_bind h42
          refine p_ix h44 (by kernel_rfl) ?_
          cases h42
          exact f_end (by kernel_rfl) (by kernel_rfl)
        refine p_settle 18 hb (by kernel_rfl) (by kernel_rfl) ?_
        cases h42
        exact f_end (by kernel_rfl) (by kernel_rfl)
      refine e_nil (by kernel_rfl) ?_
      refine q_next ?_
      rcases o_cond h39 with ⟨hb, h39⟩ | ⟨hb, h39⟩
      · refine r_cond_t hb (by kernel_rfl) ?_
        refine pwp_seq (r_reg ?_)
        refine e_end (by kernel_rfl) ?_
        refine q_next (pwp_ret (q_seq_ret (q_block_ret (q_seq_ret ?_))))
        cases h39
        refine q_lout_ret fun he => ?_
        subst he
        have h45 := o_outr h
        refine q_block_ret (q_seq_ret ?_)
        cases h45
        exact q_ret (by kernel_rfl) (by kernel_rfl) (by kernel_rfl)
      refine r_cond_f hb (by kernel_rfl) ?_
      refine pwp_skip (q_next (pwp_seq (r_reg ?_)))
      refine e_end (by kernel_rfl) ?_
      refine q_next (pwp_block ?_)
      obtain ⟨o55, h55, h39⟩ := o_inl h39
      refine r_loop2 51 2 (fun x30 => ⟨[(0, lstOf .frozen (a0 : (List T_api_Linked))), (3, .int .i64 x12), (4, .int .i64 x30)], [], [], []⟩) (fun (_ : Unit) => ⟨[(0, lstOf .frozen (a0 : (List T_api_Linked))), (3, .int .i64 x12)], [], [], []⟩) h55 (by kernel_rfl) (fun _ => by kernel_rfl) ?_ ?_
      · rintro x30 oh54 h54
        unfold d_ref32_Valid_1 at h54
        refine pwp_seq (pwp_seq (r_reg ?_))
        refine e_end (by kernel_rfl) ?_
        refine q_next ?_
        rcases o_cond h54 with ⟨hb, h54⟩ | ⟨hb, h54⟩
        · refine r_cond_t hb (by kernel_rfl) ?_
          refine pwp_skip (q_next (pwp_seq (pwp_block (pwp_seq ?_))))
          refine r_regd (by kernel_rfl) (by kernel_rfl) ?_
          refine p_run 2 (by kernel_rfl) ?_
          obtain ⟨x33, h56, h54⟩ := o_bind h54
          refine p_ix h56 (by kernel_rfl) ?_
          refine p_run 4 (by kernel_rfl) ?_
          obtain ⟨x34, h57, h54⟩ := o_bind h54
          refine p_ix h57 (by kernel_rfl) ?_
          refine e_end (by kernel_rfl) ?_
          refine q_next ?_
          rcases o_cond h54 with ⟨hb, h54⟩ | ⟨hb, h54⟩
          · refine r_cond_t hb (by kernel_rfl) ?_
            refine pwp_seq (r_reg ?_)
            refine e_end (by kernel_rfl) ?_
            refine q_next (pwp_ret (q_block_ret (q_seq_ret ?_)))
            cases h54
            refine q_lout_ret fun he => ?_
            subst he
            have h58 := o_outr h39
            refine q_block_ret (q_block_ret (q_seq_ret ?_))
            cases h58
            refine q_lout_ret fun he => ?_
            subst he
            have h59 := o_outr h
            refine q_block_ret (q_seq_ret ?_)
            cases h59
            exact q_ret (by kernel_rfl) (by kernel_rfl) (by kernel_rfl)
          refine r_cond_f hb (by kernel_rfl) ?_
          refine pwp_skip (q_block (q_next (r_reg ?_)))
          refine e_end (by kernel_rfl) ?_
          cases h54
          exact q_lback (by kernel_rfl)
        refine r_cond_f hb (by kernel_rfl) ?_
        refine pwp_exit (q_seq_exit ?_)
        cases h54
        exact q_lexit (by kernel_rfl) (by kernel_rfl)
      rintro _ s' rfl hs
      have h39 := o_outl h39
      refine q_block_hit (q_block ?_)
      refine q_next (pwp_wkr hs ?_)
      refine r_reg ?_
      refine e_end (by kernel_rfl) ?_
      cases h39
      exact q_lback (by kernel_rfl)
    refine r_cond_f hb (by kernel_rfl) ?_
    refine pwp_exit (q_seq_exit ?_)
    cases h39
    exact q_lexit (by kernel_rfl) (by kernel_rfl)
  rintro _ s' rfl hs
  have h := o_outl h
  refine q_block_hit ?_
  refine q_next (pwp_wkr hs ?_)
  refine pwp_seq (r_reg ?_)
  refine p_run 1 (by kernel_rfl) ?_
  refine p_len (L := (a0 : (List T_api_Linked))) (by kernel_rfl) ?_
  refine e_end (by kernel_rfl) ?_
  refine q_next (pwp_ret ?_)
  cases h
  exact q_ret (by kernel_rfl) (by kernel_rfl) (by kernel_rfl)

/-! signallingref45.Valid -/
noncomputable def d_ref45_Valid (a0 : T_api_Authority) : Option Bool :=
  ((bif ((decide (1 ≤ a0.Seq)) && (decide (a0.Seq ≤ 1073741824))) then (
    (d_ref10_Valid a0.Profile).bind fun r2 =>
    some r2
  ) else some false) : Option Bool).bind fun b1 =>
  ((bif (b1 && (decide (0 < ((a0.Profile.length : Nat) : Int)))) then (
    (ixO a0.Profile (w64 (((a0.Profile.length : Nat) : Int) - 1))).bind fun x4 =>
    some (decide (x4.To = a0.End))
  ) else some false) : Option Bool).bind fun b3 =>
  ((bif b3 then (
    (d_ref32_Valid a0.Links).bind fun r6 =>
    some r6
  ) else some false) : Option Bool).bind fun b5 =>
  some b5
theorem d_ref45_Valid_ok (a0 : T_api_Authority) (r : Bool) (h : d_ref45_Valid a0 = some r) : PCall Go.Proofs.Tryd.prog GlS 8 [Enc.pv a0] (Enc.pv r) := by
  unfold d_ref45_Valid at h
  refine pcall_of_pwp Go.Proofs.Tryd.func8 (by rfl) rfl Go.Proofs.Tryd.ntmps8 (by rfl) rfl ?_
  refine pwp_seq (r_reg ?_)
  refine e_end (by kernel_rfl) ?_
  refine q_next (pwp_seq (r_reg ?_))
  refine p_run 2 (by kernel_rfl) ?_
  refine p_len (L := (a0.Profile : (List T_api_Segment))) (by kernel_rfl) ?_
  refine e_end (by kernel_rfl) ?_
  refine q_next (pwp_seq ?_)
  refine r_regd (by kernel_rfl) (by kernel_rfl) ?_
  refine p_run 4 (by kernel_rfl) ?_
  refine e_segb 4 14 ((decide (1 ≤ a0.Seq)) && (decide (a0.Seq ≤ 1073741824))) (fun x hx => ?_) ?_
  · rcases b_and hx with ⟨hb, hx⟩ | ⟨hb, hx⟩
    · refine p_settle 10 hb (by kernel_rfl) (by kernel_rfl) ?_
      subst hx
      exact f_end (by kernel_rfl) (by kernel_rfl)
    refine p_settle 10 hb (by kernel_rfl) (by kernel_rfl) ?_
    subst hx
    exact f_end (by kernel_rfl) (by kernel_rfl)
  obtain ⟨b1, h1, h⟩ := o_bind h
  refine p_run 1 (by kernel_rfl) ?_
  refine e_seg 4 19 (.bool b1) ?_ ?_
  · rcases o_cond h1 with ⟨hb, h1⟩ | ⟨hb, h1⟩
    · refine p_settle 15 hb (by kernel_rfl) (by kernel_rfl) ?_
      refine p_run 2 (by kernel_rfl) ?_
      obtain ⟨r2, h2, h1⟩ := o_bind h1
      refine p_call (d_ref10_Valid_ok _ r2 h2) (by kernel_rfl) (by kernel_rfl) ?_
      cases h1
      exact f_end (by kernel_rfl) (by kernel_rfl)
    refine p_settle 15 hb (by kernel_rfl) (by kernel_rfl) ?_
    cases h1
    exact f_end (by kernel_rfl) (by kernel_rfl)
  refine p_run 1 (by kernel_rfl) ?_
  refine e_segb 3 23 (b1 && (decide (0 < ((a0.Profile.length : Nat) : Int)))) (fun x hx => ?_) ?_
  · rcases b_and hx with ⟨hb, hx⟩ | ⟨hb, hx⟩
    · refine p_settle 20 hb (by kernel_rfl) (by kernel_rfl) ?_
      subst hx
      exact f_end (by kernel_rfl) (by kernel_rfl)
    refine p_settle 20 hb (by kernel_rfl) (by kernel_rfl) ?_
    subst hx
    exact f_end (by kernel_rfl) (by kernel_rfl)
  obtain ⟨b3, h3, h⟩ := o_bind h
  refine p_run 1 (by kernel_rfl) ?_
  refine e_seg 11 35 (.bool b3) ?_ ?_
  · rcases o_cond h3 with ⟨hb, h3⟩ | ⟨hb, h3⟩
    · refine p_settle 24 hb (by kernel_rfl) (by kernel_rfl) ?_
      refine p_run 4 (by kernel_rfl) ?_
      obtain ⟨x4, h4, h3⟩ := o_bind h3
      refine p_ix h4 (by kernel_rfl) ?_
      cases h3
      exact f_end (by kernel_rfl) (by kernel_rfl)
    refine p_settle 24 hb (by kernel_rfl) (by kernel_rfl) ?_
    cases h3
    exact f_end (by kernel_rfl) (by kernel_rfl)
  obtain ⟨b5, h5, h⟩ := o_bind h
  refine p_run 1 (by kernel_rfl) ?_
  refine e_seg 4 40 (.bool b5) ?_ ?_
  · rcases o_cond h5 with ⟨hb, h5⟩ | ⟨hb, h5⟩
    · refine p_settle 36 hb (by kernel_rfl) (by kernel_rfl) ?_
      refine p_run 2 (by kernel_rfl) ?_
      obtain ⟨r6, h6, h5⟩ := o_bind h5
      refine p_call (d_ref32_Valid_ok _ r6 h6) (by kernel_rfl) (by kernel_rfl) ?_
      cases h5
      exact f_end (by kernel_rfl) (by kernel_rfl)
    refine p_settle 36 hb (by kernel_rfl) (by kernel_rfl) ?_
    cases h5
    exact f_end (by kernel_rfl) (by kernel_rfl)
  refine e_end (by kernel_rfl) ?_
  refine q_next (pwp_ret ?_)
  cases h
  exact q_ret (by kernel_rfl) (by kernel_rfl) (by kernel_rfl)

/-! signallingref10.At -/
noncomputable def d_ref10_At_0 (a0 : (List T_api_Segment)) (a1 : Int) : Int → Option (Int ⊕ (Unit ⊕ (T_api_Segment × Bool))) := fun x3 =>
  bif decide (x3 < ((a0.length : Nat) : Int)) then (
    (ixO a0 x3).bind fun x5 =>
    bif ((decide (x5.From ≤ a1)) && (decide (a1 < x5.To))) then (
      some (.inr (.inr (x5, true)))
    ) else (
      some (.inl (w64 (x3 + 1)))
    )
  ) else (
    some (.inr (.inl ()))
  )

noncomputable def d_ref10_At (a0 : (List T_api_Segment)) (a1 : Int) : Option (T_api_Segment × Bool) :=
  (d_ref10_Valid a0).bind fun r1 =>
  bif (!r1) then (
    some ((T_api_Segment.mk 0 0 0 0), false)
  ) else (
    onInl (α := Unit) (β := (T_api_Segment × Bool)) (loopO (d_ref10_At_0 a0 a1) 0) fun _ =>
    some ((T_api_Segment.mk 0 0 0 0), false)
  )
theorem d_ref10_At_ok (a0 : (List T_api_Segment)) (a1 : Int) (r : (T_api_Segment × Bool)) (h : d_ref10_At a0 a1 = some r) : PCall Go.Proofs.Tryd.prog GlS 22 [Enc.pv a0, Enc.pv a1] (.tup [Enc.pv r.1, Enc.pv r.2]) := by
  unfold d_ref10_At at h
  refine pcall_of_pwp Go.Proofs.Tryd.func22 (by rfl) rfl Go.Proofs.Tryd.ntmps22 (by rfl) rfl ?_
  refine pwp_seq (r_reg ?_)
  refine e_end (by kernel_rfl) ?_
  refine q_next (pwp_seq (pwp_seq (r_reg ?_)))
  refine p_run 1 (by kernel_rfl) ?_
  obtain ⟨r1, h1, h⟩ := o_bind h
  refine p_call (d_ref10_Valid_ok _ r1 h1) (by kernel_rfl) (by kernel_rfl) ?_
  refine e_end (by kernel_rfl) ?_
  refine q_next ?_
  rcases o_cond h with ⟨hb, h⟩ | ⟨hb, h⟩
  · refine r_cond_t hb (by kernel_rfl) ?_
    refine pwp_seq (r_reg ?_)
    refine e_end (by kernel_rfl) ?_
    refine q_next (pwp_ret (q_seq_ret ?_))
    cases h
    exact q_ret (by kernel_rfl) (by kernel_rfl) (by kernel_rfl)
  refine r_cond_f hb (by kernel_rfl) ?_
  refine pwp_skip (q_next (pwp_seq (pwp_seq (r_reg ?_))))
  refine p_run 1 (by kernel_rfl) ?_
  refine p_len (L := (a0 : (List T_api_Segment))) (by kernel_rfl) ?_
  refine e_end (by kernel_rfl) ?_
  refine q_next (pwp_block ?_)
  obtain ⟨o7, h7, h⟩ := o_inl h
  refine r_loop2 31 0 (fun x3 => ⟨[(1, .int .i64 a1), (4, .ref 4 0), (12, lstOf .frozen (a0 : (List T_api_Segment))), (13, .int .i64 ((a0.length : Nat) : Int)), (14, .int .i64 x3)], [(4, .cells ([.int .i64 0, .int .i64 0, .int .i64 0, .int .i64 0]))], [], []⟩) (fun (_ : Unit) => ⟨[(4, .ref 4 0)], [(4, .cells ([.int .i64 0, .int .i64 0, .int .i64 0, .int .i64 0]))], [], []⟩) h7 (by kernel_rfl) (fun _ => by kernel_rfl) ?_ ?_
  · rintro x3 oh6 h6
    unfold d_ref10_At_0 at h6
    refine pwp_seq (r_reg ?_)
    refine e_end (by kernel_rfl) ?_
    refine q_next (pwp_seq ?_)
    rcases o_cond h6 with ⟨hb, h6⟩ | ⟨hb, h6⟩
    · refine r_cond_t hb (by kernel_rfl) ?_
      refine pwp_skip (q_next (pwp_seq (pwp_block (pwp_seq (r_reg ?_)))))
      obtain ⟨x5, h8, h6⟩ := o_bind h6
      refine p_ix h8 (by kernel_rfl) ?_
      refine e_end (by kernel_rfl) ?_
      refine q_next (pwp_seq (r_reg ?_))
      refine p_run 5 (by kernel_rfl) ?_
      refine e_segb 5 27 ((decide (x5.From ≤ a1)) && (decide (a1 < x5.To))) (fun x hx => ?_) ?_
      · rcases b_and hx with ⟨hb, hx⟩ | ⟨hb, hx⟩
        · refine p_settle 22 hb (by kernel_rfl) (by kernel_rfl) ?_
          subst hx
          exact f_end (by kernel_rfl) (by kernel_rfl)
        refine p_settle 22 hb (by kernel_rfl) (by kernel_rfl) ?_
        subst hx
        exact f_end (by kernel_rfl) (by kernel_rfl)
      refine e_nil (by kernel_rfl) ?_
      refine q_next ?_
      rcases o_cond h6 with ⟨hb, h6⟩ | ⟨hb, h6⟩
      · refine r_cond_t hb (by kernel_rfl) ?_
        refine pwp_seq (r_reg ?_)
        refine e_end (by kernel_rfl) ?_
        refine q_next (pwp_ret (q_block_ret (q_seq_ret ?_)))
        cases h6
        refine q_lout_ret fun he => ?_
        subst he
        have h9 := o_outr h
        refine q_block_ret (q_seq_ret ?_)
        cases h9
        exact q_ret (by kernel_rfl) (by kernel_rfl) (by kernel_rfl)
      refine r_cond_f hb (by kernel_rfl) ?_
      refine pwp_skip (q_block (q_next (r_reg ?_)))
      refine e_end (by kernel_rfl) ?_
      cases h6
      exact q_lback (by kernel_rfl)
    refine r_cond_f hb (by kernel_rfl) ?_
    refine pwp_exit (q_seq_exit ?_)
    cases h6
    exact q_lexit (by kernel_rfl) (by kernel_rfl)
  rintro _ s' rfl hs
  have h := o_outl h
  refine q_block_hit ?_
  refine q_next (pwp_wkr hs ?_)
  refine pwp_seq (r_reg ?_)
  refine e_end (by kernel_rfl) ?_
  refine q_next (pwp_ret ?_)
  cases h
  exact q_ret (by kernel_rfl) (by kernel_rfl) (by kernel_rfl)

/-! signallingref45.Extends -/
noncomputable def d_ref45_Extends_0 (a0 : T_api_Authority) (a1 : T_api_Authority) : Int → Option (Int ⊕ (Unit ⊕ Bool)) := fun x8 =>
  bif decide (x8 < a0.End) then (
    (d_ref10_At a0.Profile x8).bind fun r11 =>
    (d_ref10_At a1.Profile x8).bind fun r12 =>
    bif ((!(decide (r11.1.Grade = r12.1.Grade))) || (!(decide (r11.1.Speed = r12.1.Speed)))) then (
      some (.inr (.inr false))
    ) else (
      some (.inl (min r11.1.To r12.1.To))
    )
  ) else (
    some (.inr (.inl ()))
  )

noncomputable def d_ref45_Extends (a0 : T_api_Authority) (a1 : T_api_Authority) : Option Bool :=
  (d_ref45_Valid a0).bind fun r1 =>
  ((bif (!r1) then some true else (
    (d_ref45_Valid a1).bind fun r3 =>
    some (!r3)
  )) : Option Bool).bind fun b2 =>
  bif (b2 || (decide (a1.End < a0.End))) then (
    some false
  ) else (
    (ixO a0.Profile 0).bind fun x4 =>
    (ixO a1.Profile 0).bind fun x5 =>
    onInl (α := Unit) (β := Bool) (loopO (d_ref45_Extends_0 a0 a1) (max x4.From x5.From)) fun _ =>
    some true
  )
theorem d_ref45_Extends_ok (a0 : T_api_Authority) (a1 : T_api_Authority) (r : Bool) (h : d_ref45_Extends a0 a1 = some r) : PCall Go.Proofs.Tryd.prog GlS 10 [Enc.pv a0, Enc.pv a1] (Enc.pv r) := by
  unfold d_ref45_Extends at h
  refine pcall_of_pwp Go.Proofs.Tryd.func10 (by rfl) rfl Go.Proofs.Tryd.ntmps10 (by rfl) rfl ?_
  refine pwp_seq (r_reg ?_)
  refine e_end (by kernel_rfl) ?_
  refine q_next (pwp_seq (pwp_seq (r_reg ?_)))
  refine p_run 1 (by kernel_rfl) ?_
  obtain ⟨r1, h1, h⟩ := o_bind h
  refine p_call (d_ref45_Valid_ok _ r1 h1) (by kernel_rfl) (by kernel_rfl) ?_
  obtain ⟨b2, h2, h⟩ := o_bind h
  refine p_run 2 (by kernel_rfl) ?_
  refine e_seg 4 17 (.bool b2) ?_ ?_
  · rcases o_cond h2 with ⟨hb, h2⟩ | ⟨hb, h2⟩
    · refine p_settle 13 hb (by kernel_rfl) (by kernel_rfl) ?_
      cases h2
      exact f_end (by kernel_rfl) (by kernel_rfl)
    refine p_settle 13 hb (by kernel_rfl) (by kernel_rfl) ?_
    refine p_run 1 (by kernel_rfl) ?_
    obtain ⟨r3, h3, h2⟩ := o_bind h2
    refine p_call (d_ref45_Valid_ok _ r3 h3) (by kernel_rfl) (by kernel_rfl) ?_
    cases h2
    exact f_end (by kernel_rfl) (by kernel_rfl)
  refine p_run 1 (by kernel_rfl) ?_
  refine e_segb 6 24 (b2 || (decide (a1.End < a0.End))) (fun x hx => ?_) ?_
  · rcases b_or hx with ⟨hb, hx⟩ | ⟨hb, hx⟩
    · refine p_settle 18 hb (by kernel_rfl) (by kernel_rfl) ?_
      subst hx
      exact f_end (by kernel_rfl) (by kernel_rfl)
    refine p_settle 18 hb (by kernel_rfl) (by kernel_rfl) ?_
    subst hx
    exact f_end (by kernel_rfl) (by kernel_rfl)
  refine e_nil (by kernel_rfl) ?_
  refine q_next ?_
  rcases o_cond h with ⟨hb, h⟩ | ⟨hb, h⟩
  · refine r_cond_t hb (by kernel_rfl) ?_
    refine pwp_seq (r_reg ?_)
    refine e_end (by kernel_rfl) ?_
    refine q_next (pwp_ret (q_seq_ret ?_))
    cases h
    exact q_ret (by kernel_rfl) (by kernel_rfl) (by kernel_rfl)
  refine r_cond_f hb (by kernel_rfl) ?_
  refine pwp_skip (q_next (pwp_seq ?_))
  refine r_regd (by kernel_rfl) (by kernel_rfl) ?_
  refine p_run 2 (by kernel_rfl) ?_
  obtain ⟨x4, h4, h⟩ := o_bind h
  refine p_ix h4 (by kernel_rfl) ?_
  refine p_run 4 (by kernel_rfl) ?_
  obtain ⟨x5, h5, h⟩ := o_bind h
  refine p_ix h5 (by kernel_rfl) ?_
  refine e_end (by kernel_rfl) ?_
  refine q_next (pwp_seq (pwp_block ?_))
  obtain ⟨o13, h13, h⟩ := o_inl h
  refine r_loop2 71 0 (fun x8 => ⟨[(2, .ref 2 0), (3, .ref 3 0), (5, .int .i64 x8)], [(2, .cells (cellsOf a0)), (3, .cells (cellsOf a1))], [], []⟩) (fun (_ : Unit) => ⟨[], [], [], []⟩) h13 (by kernel_rfl) (fun _ => by kernel_rfl) ?_ ?_
  · rintro x8 oh12 h12
    unfold d_ref45_Extends_0 at h12
    refine pwp_seq (pwp_seq (r_reg ?_))
    refine e_end (by kernel_rfl) ?_
    refine q_next ?_
    rcases o_cond h12 with ⟨hb, h12⟩ | ⟨hb, h12⟩
    · refine r_cond_t hb (by kernel_rfl) ?_
      refine pwp_skip (q_next (pwp_block (pwp_seq (r_reg ?_))))
      refine p_run 3 (by kernel_rfl) ?_
      obtain ⟨r11, h14, h12⟩ := o_bind h12
      refine p_call (d_ref10_At_ok _ _ r11 h14) (by kernel_rfl) (by kernel_rfl) ?_
      refine e_end (by kernel_rfl) ?_
      refine q_next (pwp_seq (r_reg ?_))
      refine p_run 3 (by kernel_rfl) ?_
      obtain ⟨r12, h15, h12⟩ := o_bind h12
      refine p_call (d_ref10_At_ok _ _ r12 h15) (by kernel_rfl) (by kernel_rfl) ?_
      refine e_end (by kernel_rfl) ?_
      refine q_next (pwp_seq (pwp_seq (r_reg ?_)))
      refine p_run 6 (by kernel_rfl) ?_
      refine e_segb 6 65 ((!(decide (r11.1.Grade = r12.1.Grade))) || (!(decide (r11.1.Speed = r12.1.Speed)))) (fun x hx => ?_) ?_
      · rcases b_or hx with ⟨hb, hx⟩ | ⟨hb, hx⟩
        · refine p_settle 59 hb (by kernel_rfl) (by kernel_rfl) ?_
          subst hx
          exact f_end (by kernel_rfl) (by kernel_rfl)
        refine p_settle 59 hb (by kernel_rfl) (by kernel_rfl) ?_
        subst hx
        exact f_end (by kernel_rfl) (by kernel_rfl)
      refine e_nil (by kernel_rfl) ?_
      refine q_next ?_
      rcases o_cond h12 with ⟨hb, h12⟩ | ⟨hb, h12⟩
      · refine r_cond_t hb (by kernel_rfl) ?_
        refine pwp_seq (r_reg ?_)
        refine e_end (by kernel_rfl) ?_
        refine q_next (pwp_ret (q_seq_ret (q_block_ret ?_)))
        cases h12
        refine q_lout_ret fun he => ?_
        subst he
        have h16 := o_outr h
        refine q_block_ret (q_seq_ret ?_)
        cases h16
        exact q_ret (by kernel_rfl) (by kernel_rfl) (by kernel_rfl)
      refine r_cond_f hb (by kernel_rfl) ?_
      refine pwp_skip (q_next (r_reg ?_))
      refine e_end (by kernel_rfl) ?_
      refine q_block ?_
      cases h12
      exact q_lback (by kernel_rfl)
    refine r_cond_f hb (by kernel_rfl) ?_
    refine pwp_exit (q_seq_exit ?_)
    cases h12
    exact q_lexit (by kernel_rfl) (by kernel_rfl)
  rintro _ s' rfl hs
  have h := o_outl h
  refine q_block_hit ?_
  refine q_next (pwp_wkr hs ?_)
  refine pwp_seq (r_reg ?_)
  refine e_end (by kernel_rfl) ?_
  refine q_next (pwp_ret ?_)
  cases h
  exact q_ret (by kernel_rfl) (by kernel_rfl) (by kernel_rfl)

/-! signallinglaw45.AuthorityCompares -/
noncomputable def d_law45_AuthorityCompares (a0 : T_api_Authority) (a1 : T_api_Authority) : Option Bool :=
  (d_law45_short a0).bind fun r1 =>
  ((bif (!r1) then some true else (
    (d_law45_short a1).bind fun r3 =>
    some (!r3)
  )) : Option Bool).bind fun b2 =>
  bif b2 then (
    (d_law45_alive ).bind fun r4 =>
    some r4
  ) else (
    (d_authority_Valid a0).bind fun r5 =>
    (d_ref45_Valid a0).bind fun r6 =>
    ((bif (r5 == r6) then (
      (d_authority_Extends a0 a1).bind fun r8 =>
      (d_ref45_Extends a0 a1).bind fun r9 =>
      some (r8 == r9)
    ) else some false) : Option Bool).bind fun b7 =>
    ((bif b7 then (
      (d_authority_Same a0 a1).bind fun r11 =>
      (d_ref45_Same a0 a1).bind fun r12 =>
      some (r11 == r12)
    ) else some false) : Option Bool).bind fun b10 =>
    ((bif b10 then (
      (d_authority_Extends a0 a0).bind fun r14 =>
      some (r14 == r5)
    ) else some false) : Option Bool).bind fun b13 =>
    ((bif b13 then (
      (d_authority_Same a0 a0).bind fun r16 =>
      some r16
    ) else some false) : Option Bool).bind fun b15 =>
    ((bif b15 then (
      (d_law45_alive ).bind fun r18 =>
      some r18
    ) else some false) : Option Bool).bind fun b17 =>
    some b17
  )
theorem d_law45_AuthorityCompares_ok (a0 : T_api_Authority) (a1 : T_api_Authority) (r : Bool) (h : d_law45_AuthorityCompares a0 a1 = some r) : PCall Go.Proofs.Tryd.prog GlS 3 [Enc.pv a0, Enc.pv a1] (Enc.pv r) := by
  unfold d_law45_AuthorityCompares at h
  refine pcall_of_pwp Go.Proofs.Tryd.func3 (by rfl) rfl Go.Proofs.Tryd.ntmps3 (by rfl) rfl ?_
  refine pwp_seq (r_reg ?_)
  refine e_end (by kernel_rfl) ?_
  refine q_next (pwp_seq (pwp_seq (r_reg ?_)))
  refine p_run 1 (by kernel_rfl) ?_
  obtain ⟨r1, h1, h⟩ := o_bind h
  refine p_call (d_law45_short_ok _ r1 h1) (by kernel_rfl) (by kernel_rfl) ?_
  obtain ⟨b2, h2, h⟩ := o_bind h
  refine p_run 2 (by kernel_rfl) ?_
  refine e_seg 4 13 (.bool b2) ?_ ?_
  · rcases o_cond h2 with ⟨hb, h2⟩ | ⟨hb, h2⟩
    · refine p_settle 9 hb (by kernel_rfl) (by kernel_rfl) ?_
      cases h2
      exact f_end (by kernel_rfl) (by kernel_rfl)
    refine p_settle 9 hb (by kernel_rfl) (by kernel_rfl) ?_
    refine p_run 1 (by kernel_rfl) ?_
    obtain ⟨r3, h3, h2⟩ := o_bind h2
    refine p_call (d_law45_short_ok _ r3 h3) (by kernel_rfl) (by kernel_rfl) ?_
    cases h2
    exact f_end (by kernel_rfl) (by kernel_rfl)
  refine e_nil (by kernel_rfl) ?_
  refine q_next ?_
  rcases o_cond h with ⟨hb, h⟩ | ⟨hb, h⟩
  · refine r_cond_t hb (by kernel_rfl) ?_
    refine pwp_seq (r_reg ?_)
    obtain ⟨r4, h4, h⟩ := o_bind h
    refine p_call (d_law45_alive_ok  r4 h4) (by kernel_rfl) (by kernel_rfl) ?_
    refine e_end (by kernel_rfl) ?_
    refine q_next (pwp_ret (q_seq_ret ?_))
    cases h
    exact q_ret (by kernel_rfl) (by kernel_rfl) (by kernel_rfl)
  refine r_cond_f hb (by kernel_rfl) ?_
  refine pwp_skip (q_next (pwp_seq (r_reg ?_)))
  refine p_run 1 (by kernel_rfl) ?_
  obtain ⟨r5, h5, h⟩ := o_bind h
  refine p_call (d_authority_Valid_ok _ r5 h5) (by kernel_rfl) (by kernel_rfl) ?_
  refine e_end (by kernel_rfl) ?_
  refine q_next (pwp_seq ?_)
  refine r_regd (by kernel_rfl) (by kernel_rfl) ?_
  refine p_run 2 (by kernel_rfl) ?_
  obtain ⟨r6, h6, h⟩ := o_bind h
  refine p_call (d_ref45_Valid_ok _ r6 h6) (by kernel_rfl) (by kernel_rfl) ?_
  obtain ⟨b7, h7, h⟩ := o_bind h
  refine p_run 2 (by kernel_rfl) ?_
  refine e_seg 8 29 (.bool b7) ?_ ?_
  · rcases o_cond h7 with ⟨hb, h7⟩ | ⟨hb, h7⟩
    · refine p_settle 21 hb (by kernel_rfl) (by kernel_rfl) ?_
      refine p_run 2 (by kernel_rfl) ?_
      obtain ⟨r8, h8, h7⟩ := o_bind h7
      refine p_call (d_authority_Extends_ok _ _ r8 h8) (by kernel_rfl) (by kernel_rfl) ?_
      refine p_run 2 (by kernel_rfl) ?_
      obtain ⟨r9, h9, h7⟩ := o_bind h7
      refine p_call (d_ref45_Extends_ok _ _ r9 h9) (by kernel_rfl) (by kernel_rfl) ?_
      cases h7
      exact f_end (by kernel_rfl) (by kernel_rfl)
    refine p_settle 21 hb (by kernel_rfl) (by kernel_rfl) ?_
    cases h7
    exact f_end (by kernel_rfl) (by kernel_rfl)
  obtain ⟨b10, h10, h⟩ := o_bind h
  refine p_run 1 (by kernel_rfl) ?_
  refine e_seg 8 38 (.bool b10) ?_ ?_
  · rcases o_cond h10 with ⟨hb, h10⟩ | ⟨hb, h10⟩
    · refine p_settle 30 hb (by kernel_rfl) (by kernel_rfl) ?_
      refine p_run 2 (by kernel_rfl) ?_
      obtain ⟨r11, h11, h10⟩ := o_bind h10
      refine p_call (d_authority_Same_ok _ _ r11 h11) (by kernel_rfl) (by kernel_rfl) ?_
      refine p_run 2 (by kernel_rfl) ?_
      obtain ⟨r12, h12, h10⟩ := o_bind h10
      refine p_call (d_ref45_Same_ok _ _ r12 h12) (by kernel_rfl) (by kernel_rfl) ?_
      cases h10
      exact f_end (by kernel_rfl) (by kernel_rfl)
    refine p_settle 30 hb (by kernel_rfl) (by kernel_rfl) ?_
    cases h10
    exact f_end (by kernel_rfl) (by kernel_rfl)
  obtain ⟨b13, h13, h⟩ := o_bind h
  refine p_run 1 (by kernel_rfl) ?_
  refine e_seg 6 45 (.bool b13) ?_ ?_
  · rcases o_cond h13 with ⟨hb, h13⟩ | ⟨hb, h13⟩
    · refine p_settle 39 hb (by kernel_rfl) (by kernel_rfl) ?_
      refine p_run 2 (by kernel_rfl) ?_
      obtain ⟨r14, h14, h13⟩ := o_bind h13
      refine p_call (d_authority_Extends_ok _ _ r14 h14) (by kernel_rfl) (by kernel_rfl) ?_
      cases h13
      exact f_end (by kernel_rfl) (by kernel_rfl)
    refine p_settle 39 hb (by kernel_rfl) (by kernel_rfl) ?_
    cases h13
    exact f_end (by kernel_rfl) (by kernel_rfl)
  obtain ⟨b15, h15, h⟩ := o_bind h
  refine p_run 1 (by kernel_rfl) ?_
  refine e_seg 4 50 (.bool b15) ?_ ?_
  · rcases o_cond h15 with ⟨hb, h15⟩ | ⟨hb, h15⟩
    · refine p_settle 46 hb (by kernel_rfl) (by kernel_rfl) ?_
      refine p_run 2 (by kernel_rfl) ?_
      obtain ⟨r16, h16, h15⟩ := o_bind h15
      refine p_call (d_authority_Same_ok _ _ r16 h16) (by kernel_rfl) (by kernel_rfl) ?_
      cases h15
      exact f_end (by kernel_rfl) (by kernel_rfl)
    refine p_settle 46 hb (by kernel_rfl) (by kernel_rfl) ?_
    cases h15
    exact f_end (by kernel_rfl) (by kernel_rfl)
  obtain ⟨b17, h17, h⟩ := o_bind h
  refine p_run 1 (by kernel_rfl) ?_
  refine e_seg 2 53 (.bool b17) ?_ ?_
  · rcases o_cond h17 with ⟨hb, h17⟩ | ⟨hb, h17⟩
    · refine p_settle 51 hb (by kernel_rfl) (by kernel_rfl) ?_
      obtain ⟨r18, h18, h17⟩ := o_bind h17
      refine p_call (d_law45_alive_ok  r18 h18) (by kernel_rfl) (by kernel_rfl) ?_
      cases h17
      exact f_end (by kernel_rfl) (by kernel_rfl)
    refine p_settle 51 hb (by kernel_rfl) (by kernel_rfl) ?_
    cases h17
    exact f_end (by kernel_rfl) (by kernel_rfl)
  refine e_end (by kernel_rfl) ?_
  refine q_next (pwp_ret ?_)
  cases h
  exact q_ret (by kernel_rfl) (by kernel_rfl) (by kernel_rfl)

/-! signallinglaw45.below -/
noncomputable def d_law45_below_0 (a0 : (List T_api_Segment)) (a1 : (List T_api_Segment)) (x3 : T_api_Segment) : Int → Option (Int ⊕ (Unit ⊕ Bool)) := fun x7 =>
  bif decide (x7 < x3.To) then (
    (d_profile_At a0 x7).bind fun r10 =>
    (d_profile_At a1 x7).bind fun r11 =>
    bif (((((!r10.2) || (!r11.2)) || (!(decide (r10.1.Grade = r11.1.Grade)))) || (decide (r11.1.Speed < r10.1.Speed))) || (decide ((min r10.1.To r11.1.To) ≤ x7))) then (
      some (.inr (.inr false))
    ) else (
      some (.inl (min r10.1.To r11.1.To))
    )
  ) else (
    some (.inr (.inl ()))
  )

noncomputable def d_law45_below (a0 : (List T_api_Segment)) (a1 : (List T_api_Segment)) : Option Bool :=
  ((bif decide (((a0.length : Nat) : Int) = 0) then some true else (
    some (decide (300 < ((a0.length : Nat) : Int)))
  )) : Option Bool).bind fun b1 =>
  ((bif b1 then some true else (
    some (decide (300 < ((a1.length : Nat) : Int)))
  )) : Option Bool).bind fun b2 =>
  bif b2 then (
    some false
  ) else (
    (ixO a0 (w64 (((a0.length : Nat) : Int) - 1))).bind fun x3 =>
    (ixO a0 0).bind fun x4 =>
    onInl (α := Unit) (β := Bool) (loopO (d_law45_below_0 a0 a1 x3) x4.From) fun _ =>
    some true
  )
theorem d_law45_below_ok (a0 : (List T_api_Segment)) (a1 : (List T_api_Segment)) (r : Bool) (h : d_law45_below a0 a1 = some r) : PCall Go.Proofs.Tryd.prog GlS 14 [Enc.pv a0, Enc.pv a1] (Enc.pv r) := by
  unfold d_law45_below at h
  refine pcall_of_pwp Go.Proofs.Tryd.func14 (by rfl) rfl Go.Proofs.Tryd.ntmps14 (by rfl) rfl ?_
  refine pwp_seq (r_reg ?_)
  refine e_end (by kernel_rfl) ?_
  refine q_next (pwp_seq (pwp_seq (r_reg ?_)))
  refine p_run 1 (by kernel_rfl) ?_
  refine p_len (L := (a0 : (List T_api_Segment))) (by kernel_rfl) ?_
  obtain ⟨b1, h1, h⟩ := o_bind h
  refine p_run 2 (by kernel_rfl) ?_
  refine e_seg 4 18 (.bool b1) ?_ ?_
  · rcases o_cond h1 with ⟨hb, h1⟩ | ⟨hb, h1⟩
    · refine p_settle 14 hb (by kernel_rfl) (by kernel_rfl) ?_
      cases h1
      exact f_end (by kernel_rfl) (by kernel_rfl)
    refine p_settle 14 hb (by kernel_rfl) (by kernel_rfl) ?_
    refine p_run 1 (by kernel_rfl) ?_
    refine p_len (L := (a0 : (List T_api_Segment))) (by kernel_rfl) ?_
    cases h1
    exact f_end (by kernel_rfl) (by kernel_rfl)
  obtain ⟨b2, h2, h⟩ := o_bind h
  refine p_run 1 (by kernel_rfl) ?_
  refine e_seg 4 23 (.bool b2) ?_ ?_
  · rcases o_cond h2 with ⟨hb, h2⟩ | ⟨hb, h2⟩
    · refine p_settle 19 hb (by kernel_rfl) (by kernel_rfl) ?_
      cases h2
      exact f_end (by kernel_rfl) (by kernel_rfl)
    refine p_settle 19 hb (by kernel_rfl) (by kernel_rfl) ?_
    refine p_run 1 (by kernel_rfl) ?_
    refine p_len (L := (a1 : (List T_api_Segment))) (by kernel_rfl) ?_
    cases h2
    exact f_end (by kernel_rfl) (by kernel_rfl)
  refine e_nil (by kernel_rfl) ?_
  refine q_next ?_
  rcases o_cond h with ⟨hb, h⟩ | ⟨hb, h⟩
  · refine r_cond_t hb (by kernel_rfl) ?_
    refine pwp_seq (r_reg ?_)
    refine e_end (by kernel_rfl) ?_
    refine q_next (pwp_ret (q_seq_ret ?_))
    cases h
    exact q_ret (by kernel_rfl) (by kernel_rfl) (by kernel_rfl)
  refine r_cond_f hb (by kernel_rfl) ?_
  refine pwp_skip (q_next (pwp_seq (r_reg ?_)))
  refine p_run 2 (by kernel_rfl) ?_
  refine p_len (L := (a0 : (List T_api_Segment))) (by kernel_rfl) ?_
  refine p_run 1 (by kernel_rfl) ?_
  obtain ⟨x3, h3, h⟩ := o_bind h
  refine p_ix h3 (by kernel_rfl) ?_
  refine e_end (by kernel_rfl) ?_
  refine q_next (pwp_seq (pwp_seq (r_reg ?_)))
  refine p_run 1 (by kernel_rfl) ?_
  obtain ⟨x4, h4, h⟩ := o_bind h
  refine p_ix h4 (by kernel_rfl) ?_
  refine e_end (by kernel_rfl) ?_
  refine q_next (pwp_block ?_)
  obtain ⟨o12, h12, h⟩ := o_inl h
  refine r_loop2 84 0 (fun x7 => ⟨[(0, lstOf .frozen (a0 : (List T_api_Segment))), (1, lstOf .frozen (a1 : (List T_api_Segment))), (5, .int .i64 x3.To), (6, .int .i64 x7)], [], [], []⟩) (fun (_ : Unit) => ⟨[], [], [], []⟩) h12 (by kernel_rfl) (fun _ => by kernel_rfl) ?_ ?_
  · rintro x7 oh11 h11
    unfold d_law45_below_0 at h11
    refine pwp_seq (pwp_seq (r_reg ?_))
    refine e_end (by kernel_rfl) ?_
    refine q_next ?_
    rcases o_cond h11 with ⟨hb, h11⟩ | ⟨hb, h11⟩
    · refine r_cond_t hb (by kernel_rfl) ?_
      refine pwp_skip (q_next (pwp_block (pwp_seq (r_reg ?_))))
      refine p_run 2 (by kernel_rfl) ?_
      obtain ⟨r10, h13, h11⟩ := o_bind h11
      refine p_call (d_profile_At_ok _ _ r10 h13) (by kernel_rfl) (by kernel_rfl) ?_
      refine e_end (by kernel_rfl) ?_
      refine q_next (pwp_seq (r_reg ?_))
      refine p_run 2 (by kernel_rfl) ?_
      obtain ⟨r11, h14, h11⟩ := o_bind h11
      refine p_call (d_profile_At_ok _ _ r11 h14) (by kernel_rfl) (by kernel_rfl) ?_
      refine e_end (by kernel_rfl) ?_
      refine q_next (pwp_seq (pwp_seq (r_reg ?_)))
      refine p_run 3 (by kernel_rfl) ?_
      refine e_segb 3 55 ((!r10.2) || (!r11.2)) (fun x hx => ?_) ?_
      · rcases b_or hx with ⟨hb, hx⟩ | ⟨hb, hx⟩
        · refine p_settle 52 hb (by kernel_rfl) (by kernel_rfl) ?_
          subst hx
          exact f_end (by kernel_rfl) (by kernel_rfl)
        refine p_settle 52 hb (by kernel_rfl) (by kernel_rfl) ?_
        subst hx
        exact f_end (by kernel_rfl) (by kernel_rfl)
      refine p_run 1 (by kernel_rfl) ?_
      refine e_segb 6 62 (((!r10.2) || (!r11.2)) || (!(decide (r10.1.Grade = r11.1.Grade)))) (fun x hx => ?_) ?_
      · rcases b_or hx with ⟨hb, hx⟩ | ⟨hb, hx⟩
        · refine p_settle 56 hb (by kernel_rfl) (by kernel_rfl) ?_
          subst hx
          exact f_end (by kernel_rfl) (by kernel_rfl)
        refine p_settle 56 hb (by kernel_rfl) (by kernel_rfl) ?_
        subst hx
        exact f_end (by kernel_rfl) (by kernel_rfl)
      refine p_run 1 (by kernel_rfl) ?_
      refine e_segb 6 69 ((((!r10.2) || (!r11.2)) || (!(decide (r10.1.Grade = r11.1.Grade)))) || (decide (r11.1.Speed < r10.1.Speed))) (fun x hx => ?_) ?_
      · rcases b_or hx with ⟨hb, hx⟩ | ⟨hb, hx⟩
        · refine p_settle 63 hb (by kernel_rfl) (by kernel_rfl) ?_
          subst hx
          exact f_end (by kernel_rfl) (by kernel_rfl)
        refine p_settle 63 hb (by kernel_rfl) (by kernel_rfl) ?_
        subst hx
        exact f_end (by kernel_rfl) (by kernel_rfl)
      refine p_run 1 (by kernel_rfl) ?_
      refine e_segb 8 78 (((((!r10.2) || (!r11.2)) || (!(decide (r10.1.Grade = r11.1.Grade)))) || (decide (r11.1.Speed < r10.1.Speed))) || (decide ((min r10.1.To r11.1.To) ≤ x7))) (fun x hx => ?_) ?_
      · rcases b_or hx with ⟨hb, hx⟩ | ⟨hb, hx⟩
        · refine p_settle 70 hb (by kernel_rfl) (by kernel_rfl) ?_
          subst hx
          exact f_end (by kernel_rfl) (by kernel_rfl)
        refine p_settle 70 hb (by kernel_rfl) (by kernel_rfl) ?_
        subst hx
        exact f_end (by kernel_rfl) (by kernel_rfl)
      refine e_nil (by kernel_rfl) ?_
      refine q_next ?_
      rcases o_cond h11 with ⟨hb, h11⟩ | ⟨hb, h11⟩
      · refine r_cond_t hb (by kernel_rfl) ?_
        refine pwp_seq (r_reg ?_)
        refine e_end (by kernel_rfl) ?_
        refine q_next (pwp_ret (q_seq_ret (q_block_ret ?_)))
        cases h11
        refine q_lout_ret fun he => ?_
        subst he
        have h15 := o_outr h
        refine q_block_ret (q_seq_ret ?_)
        cases h15
        exact q_ret (by kernel_rfl) (by kernel_rfl) (by kernel_rfl)
      refine r_cond_f hb (by kernel_rfl) ?_
      refine pwp_skip (q_next (r_reg ?_))
      refine e_end (by kernel_rfl) ?_
      refine q_block ?_
      cases h11
      exact q_lback (by kernel_rfl)
    refine r_cond_f hb (by kernel_rfl) ?_
    refine pwp_exit (q_seq_exit ?_)
    cases h11
    exact q_lexit (by kernel_rfl) (by kernel_rfl)
  rintro _ s' rfl hs
  have h := o_outl h
  refine q_block_hit ?_
  refine q_next (pwp_wkr hs ?_)
  refine pwp_seq (r_reg ?_)
  refine e_end (by kernel_rfl) ?_
  refine q_next (pwp_ret ?_)
  cases h
  exact q_ret (by kernel_rfl) (by kernel_rfl) (by kernel_rfl)

/-! signallinglaw45.AuthorityPart -/
noncomputable def d_law45_AuthorityPart (a0 : T_api_Authority) (a1 : T_api_Authority) : Option Bool :=
  (d_law45_short a0).bind fun r1 =>
  ((bif (!r1) then some true else (
    (d_law45_short a1).bind fun r3 =>
    some (!r3)
  )) : Option Bool).bind fun b2 =>
  ((bif b2 then some true else (
    (d_authority_Extends a0 a1).bind fun r5 =>
    some (!r5)
  )) : Option Bool).bind fun b4 =>
  bif b4 then (
    (d_law45_alive ).bind fun r6 =>
    some r6
  ) else (
    ((bif decide (((a0.Profile.length : Nat) : Int) = 0) then some true else (
      some (decide (((a1.Profile.length : Nat) : Int) = 0))
    )) : Option Bool).bind fun b7 =>
    bif b7 then (
      some false
    ) else (
      (ixO a0.Profile 0).bind fun x8 =>
      (ixO a1.Profile 0).bind fun x9 =>
      bif (!(decide (x8.From = x9.From))) then (
        (d_law45_alive ).bind fun r10 =>
        some r10
      ) else (
        (ixO a1.Profile 0).bind fun x11 =>
        (d_profile_Cut a1.Profile x11.From a0.End).bind fun r12 =>
        (d_law45_below r12 a0.Profile).bind fun r13 =>
        ((bif r13 then (
          (d_law45_below a0.Profile r12).bind fun r15 =>
          some r15
        ) else some false) : Option Bool).bind fun b14 =>
        ((bif b14 then (
          (d_law45_alive ).bind fun r17 =>
          some r17
        ) else some false) : Option Bool).bind fun b16 =>
        some b16
      )
    )
  )
theorem d_law45_AuthorityPart_ok (a0 : T_api_Authority) (a1 : T_api_Authority) (r : Bool) (h : d_law45_AuthorityPart a0 a1 = some r) : PCall Go.Proofs.Tryd.prog GlS 4 [Enc.pv a0, Enc.pv a1] (Enc.pv r) := by
  unfold d_law45_AuthorityPart at h
  refine pcall_of_pwp Go.Proofs.Tryd.func4 (by rfl) rfl Go.Proofs.Tryd.ntmps4 (by rfl) rfl ?_
  refine pwp_seq (r_reg ?_)
  refine e_end (by kernel_rfl) ?_
  refine q_next (pwp_seq (pwp_seq (r_reg ?_)))
  refine p_run 1 (by kernel_rfl) ?_
  obtain ⟨r1, h1, h⟩ := o_bind h
  refine p_call (d_law45_short_ok _ r1 h1) (by kernel_rfl) (by kernel_rfl) ?_
  obtain ⟨b2, h2, h⟩ := o_bind h
  refine p_run 2 (by kernel_rfl) ?_
  refine e_seg 4 13 (.bool b2) ?_ ?_
  · rcases o_cond h2 with ⟨hb, h2⟩ | ⟨hb, h2⟩
    · refine p_settle 9 hb (by kernel_rfl) (by kernel_rfl) ?_
      cases h2
      exact f_end (by kernel_rfl) (by kernel_rfl)
    refine p_settle 9 hb (by kernel_rfl) (by kernel_rfl) ?_
    refine p_run 1 (by kernel_rfl) ?_
    obtain ⟨r3, h3, h2⟩ := o_bind h2
    refine p_call (d_law45_short_ok _ r3 h3) (by kernel_rfl) (by kernel_rfl) ?_
    cases h2
    exact f_end (by kernel_rfl) (by kernel_rfl)
  obtain ⟨b4, h4, h⟩ := o_bind h
  refine p_run 1 (by kernel_rfl) ?_
  refine e_seg 5 19 (.bool b4) ?_ ?_
  · rcases o_cond h4 with ⟨hb, h4⟩ | ⟨hb, h4⟩
    · refine p_settle 14 hb (by kernel_rfl) (by kernel_rfl) ?_
      cases h4
      exact f_end (by kernel_rfl) (by kernel_rfl)
    refine p_settle 14 hb (by kernel_rfl) (by kernel_rfl) ?_
    refine p_run 2 (by kernel_rfl) ?_
    obtain ⟨r5, h5, h4⟩ := o_bind h4
    refine p_call (d_authority_Extends_ok _ _ r5 h5) (by kernel_rfl) (by kernel_rfl) ?_
    cases h4
    exact f_end (by kernel_rfl) (by kernel_rfl)
  refine e_nil (by kernel_rfl) ?_
  refine q_next ?_
  rcases o_cond h with ⟨hb, h⟩ | ⟨hb, h⟩
  · refine r_cond_t hb (by kernel_rfl) ?_
    refine pwp_seq (r_reg ?_)
    obtain ⟨r6, h6, h⟩ := o_bind h
    refine p_call (d_law45_alive_ok  r6 h6) (by kernel_rfl) (by kernel_rfl) ?_
    refine e_end (by kernel_rfl) ?_
    refine q_next (pwp_ret (q_seq_ret ?_))
    cases h
    exact q_ret (by kernel_rfl) (by kernel_rfl) (by kernel_rfl)
  refine r_cond_f hb (by kernel_rfl) ?_
  refine pwp_skip (q_next (pwp_seq (pwp_seq (r_reg ?_))))
  refine p_run 2 (by kernel_rfl) ?_
  refine p_len (L := (a0.Profile : (List T_api_Segment))) (by kernel_rfl) ?_
  obtain ⟨b7, h7, h⟩ := o_bind h
  refine p_run 2 (by kernel_rfl) ?_
  refine e_seg 5 30 (.bool b7) ?_ ?_
  · rcases o_cond h7 with ⟨hb, h7⟩ | ⟨hb, h7⟩
    · refine p_settle 25 hb (by kernel_rfl) (by kernel_rfl) ?_
      cases h7
      exact f_end (by kernel_rfl) (by kernel_rfl)
    refine p_settle 25 hb (by kernel_rfl) (by kernel_rfl) ?_
    refine p_run 2 (by kernel_rfl) ?_
    refine p_len (L := (a1.Profile : (List T_api_Segment))) (by kernel_rfl) ?_
    cases h7
    exact f_end (by kernel_rfl) (by kernel_rfl)
  refine e_nil (by kernel_rfl) ?_
  refine q_next ?_
  rcases o_cond h with ⟨hb, h⟩ | ⟨hb, h⟩
  · refine r_cond_t hb (by kernel_rfl) ?_
    refine pwp_seq (r_reg ?_)
    refine e_end (by kernel_rfl) ?_
    refine q_next (pwp_ret (q_seq_ret ?_))
    cases h
    exact q_ret (by kernel_rfl) (by kernel_rfl) (by kernel_rfl)
  refine r_cond_f hb (by kernel_rfl) ?_
  refine pwp_skip (q_next (pwp_seq (pwp_seq ?_)))
  refine r_regd (by kernel_rfl) (by kernel_rfl) ?_
  refine p_run 2 (by kernel_rfl) ?_
  obtain ⟨x8, h8, h⟩ := o_bind h
  refine p_ix h8 (by kernel_rfl) ?_
  refine p_run 4 (by kernel_rfl) ?_
  obtain ⟨x9, h9, h⟩ := o_bind h
  refine p_ix h9 (by kernel_rfl) ?_
  refine e_end (by kernel_rfl) ?_
  refine q_next ?_
  rcases o_cond h with ⟨hb, h⟩ | ⟨hb, h⟩
  · refine r_cond_t hb (by kernel_rfl) ?_
    refine pwp_seq (r_reg ?_)
    obtain ⟨r10, h10, h⟩ := o_bind h
    refine p_call (d_law45_alive_ok  r10 h10) (by kernel_rfl) (by kernel_rfl) ?_
    refine e_end (by kernel_rfl) ?_
    refine q_next (pwp_ret (q_seq_ret ?_))
    cases h
    exact q_ret (by kernel_rfl) (by kernel_rfl) (by kernel_rfl)
  refine r_cond_f hb (by kernel_rfl) ?_
  refine pwp_skip (q_next (pwp_seq ?_))
  refine r_regd (by kernel_rfl) (by kernel_rfl) ?_
  refine p_run 4 (by kernel_rfl) ?_
  obtain ⟨x11, h11, h⟩ := o_bind h
  refine p_ix h11 (by kernel_rfl) ?_
  refine p_run 4 (by kernel_rfl) ?_
  obtain ⟨r12, h12, h⟩ := o_bind h
  refine p_call (d_profile_Cut_fz _ _ _ r12 h12) (by kernel_rfl) (by kernel_rfl) ?_
  refine e_end (by kernel_rfl) ?_
  refine q_next (pwp_seq (r_reg ?_))
  refine p_run 3 (by kernel_rfl) ?_
  obtain ⟨r13, h13, h⟩ := o_bind h
  refine p_call (d_law45_below_ok _ _ r13 h13) (by kernel_rfl) (by kernel_rfl) ?_
  obtain ⟨b14, h14, h⟩ := o_bind h
  refine p_run 1 (by kernel_rfl) ?_
  refine e_seg 5 62 (.bool b14) ?_ ?_
  · rcases o_cond h14 with ⟨hb, h14⟩ | ⟨hb, h14⟩
    · refine p_settle 57 hb (by kernel_rfl) (by kernel_rfl) ?_
      refine p_run 3 (by kernel_rfl) ?_
      obtain ⟨r15, h15, h14⟩ := o_bind h14
      refine p_call (d_law45_below_ok _ _ r15 h15) (by kernel_rfl) (by kernel_rfl) ?_
      cases h14
      exact f_end (by kernel_rfl) (by kernel_rfl)
    refine p_settle 57 hb (by kernel_rfl) (by kernel_rfl) ?_
    cases h14
    exact f_end (by kernel_rfl) (by kernel_rfl)
  obtain ⟨b16, h16, h⟩ := o_bind h
  refine p_run 1 (by kernel_rfl) ?_
  refine e_seg 2 65 (.bool b16) ?_ ?_
  · rcases o_cond h16 with ⟨hb, h16⟩ | ⟨hb, h16⟩
    · refine p_settle 63 hb (by kernel_rfl) (by kernel_rfl) ?_
      obtain ⟨r17, h17, h16⟩ := o_bind h16
      refine p_call (d_law45_alive_ok  r17 h17) (by kernel_rfl) (by kernel_rfl) ?_
      cases h16
      exact f_end (by kernel_rfl) (by kernel_rfl)
    refine p_settle 63 hb (by kernel_rfl) (by kernel_rfl) ?_
    cases h16
    exact f_end (by kernel_rfl) (by kernel_rfl)
  refine e_end (by kernel_rfl) ?_
  refine q_next (pwp_ret ?_)
  cases h
  exact q_ret (by kernel_rfl) (by kernel_rfl) (by kernel_rfl)

end PM
