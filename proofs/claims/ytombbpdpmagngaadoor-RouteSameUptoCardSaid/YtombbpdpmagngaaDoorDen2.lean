/-
  Plain functions for the program's functions, and the proofs that the program does them. Printed by den.py.
-/
import Derived.Test.YtombbpdpmagngaaDoorDen1
namespace PM
open Go Go.RowKit
attribute [local irreducible] pops pwp

/-! slices.Equal[[]api.Setting,api.Setting] -/
noncomputable def d_slices_Equal_api_Setting_0 (a0 : (List T_api_Setting)) (a1 : (List T_api_Setting)) : Int → Option (Int ⊕ (Unit ⊕ Bool)) := fun x3 =>
  bif decide (x3 < ((a0.length : Nat) : Int)) then (
    (ixO a0 x3).bind fun x6 =>
    (ixO a1 x3).bind fun x7 =>
    bif (!(eq_T_api_Setting x6 x7)) then (
      some (.inr (.inr false))
    ) else (
      some (.inl (w64 (x3 + 1)))
    )
  ) else (
    some (.inr (.inl ()))
  )

noncomputable def d_slices_Equal_api_Setting (a0 : (List T_api_Setting)) (a1 : (List T_api_Setting)) : Option Bool :=
  bif (!(decide (((a0.length : Nat) : Int) = ((a1.length : Nat) : Int)))) then (
    some false
  ) else (
    onInl (α := Unit) (β := Bool) (loopO (d_slices_Equal_api_Setting_0 a0 a1) 0) fun _ =>
    some true
  )
theorem d_slices_Equal_api_Setting_ok (a0 : (List T_api_Setting)) (a1 : (List T_api_Setting)) (r : Bool) (h : d_slices_Equal_api_Setting a0 a1 = some r) : PCall Go.Proofs.Tryd.prog GlS 12 [Enc.pv a0, Enc.pv a1] (Enc.pv r) := by
  unfold d_slices_Equal_api_Setting at h
  refine pcall_of_pwp Go.Proofs.Tryd.func12 (by rfl) rfl Go.Proofs.Tryd.ntmps12 (by rfl) rfl ?_
  refine pwp_seq (r_reg ?_)
  refine e_end (by kernel_rfl) ?_
  refine q_next (pwp_seq (pwp_seq (r_reg ?_)))
  refine p_run 1 (by kernel_rfl) ?_
  refine p_len (L := (a0 : (List T_api_Setting))) (by kernel_rfl) ?_
  refine p_run 1 (by kernel_rfl) ?_
  refine p_len (L := (a1 : (List T_api_Setting))) (by kernel_rfl) ?_
  refine e_end (by kernel_rfl) ?_
  refine q_next ?_
  rcases o_cond h with ⟨hb, h⟩ | ⟨hb, h⟩
  · refine r_cond_t hb (by kernel_rfl) ?_
    refine pwp_seq (r_reg ?_)
    refine e_end (by kernel_rfl) ?_
    refine q_next (pwp_ret (q_seq_ret ?_))
    cases h
    exact q_ret (by kernel_rfl) (by kernel_rfl) (by kernel_rfl)
  refine r_cond_f hb (by kernel_rfl) ?_
  refine pwp_skip (q_next (pwp_seq (pwp_seq (r_reg ?_))))
  refine p_run 1 (by kernel_rfl) ?_
  refine p_len (L := (a0 : (List T_api_Setting))) (by kernel_rfl) ?_
  refine e_end (by kernel_rfl) ?_
  refine q_next (pwp_block ?_)
  obtain ⟨o8, h8, h⟩ := o_inl h
  refine r_loop2 26 0 (fun x3 => ⟨[(0, lstOf .frozen (a0 : (List T_api_Setting))), (1, lstOf .frozen (a1 : (List T_api_Setting))), (12, .int .i64 ((a0.length : Nat) : Int)), (13, .int .i64 x3)], [], [], []⟩) (fun (_ : Unit) => ⟨[], [], [], []⟩) h8 (by kernel_rfl) (fun _ => by kernel_rfl) ?_ ?_
  · rintro x3 oh7 h7
    unfold d_slices_Equal_api_Setting_0 at h7
    refine pwp_seq (r_reg ?_)
    refine e_end (by kernel_rfl) ?_
    refine q_next (pwp_seq ?_)
    rcases o_cond h7 with ⟨hb, h7⟩ | ⟨hb, h7⟩
    · refine r_cond_t hb (by kernel_rfl) ?_
      refine pwp_skip (q_next (pwp_seq (pwp_block (pwp_seq (r_reg ?_)))))
      refine e_end (by kernel_rfl) ?_
      refine q_next (pwp_seq ?_)
      refine r_regd (by kernel_rfl) (by kernel_rfl) ?_
      refine p_run 2 (by kernel_rfl) ?_
      obtain ⟨x6, h9, h7⟩ := o_bind h7
      refine p_ix h9 (by kernel_rfl) ?_
      refine p_run 3 (by kernel_rfl) ?_
      obtain ⟨x7, h10, h7⟩ := o_bind h7
      refine p_ix h10 (by kernel_rfl) ?_
      refine e_end (by kernel_rfl) ?_
      refine q_next ?_
      rcases o_cond h7 with ⟨hb, h7⟩ | ⟨hb, h7⟩
      · refine r_cond_t hb (by kernel_rfl) ?_
        refine pwp_seq (r_reg ?_)
        refine e_end (by kernel_rfl) ?_
        refine q_next (pwp_ret (q_block_ret (q_seq_ret ?_)))
        cases h7
        refine q_lout_ret fun he => ?_
        subst he
        have h11 := o_outr h
        refine q_block_ret (q_seq_ret ?_)
        cases h11
        exact q_ret (by kernel_rfl) (by kernel_rfl) (by kernel_rfl)
      refine r_cond_f hb (by kernel_rfl) ?_
      refine pwp_skip (q_block (q_next (r_reg ?_)))
      refine e_end (by kernel_rfl) ?_
      cases h7
      exact q_lback (by kernel_rfl)
    refine r_cond_f hb (by kernel_rfl) ?_
    refine pwp_exit (q_seq_exit ?_)
    cases h7
    exact q_lexit (by kernel_rfl) (by kernel_rfl)
  rintro _ s' rfl hs
  have h := o_outl h
  refine q_block_hit ?_
  refine q_next (pwp_wkr hs ?_)
  refine pwp_seq (r_reg ?_)
  refine e_end (by kernel_rfl) ?_
  refine q_next (pwp_ret ?_)
  cases h
  exact q_ret (by kernel_rfl) (by kernel_rfl) (by kernel_rfl)

/-! slices.Equal[[]int,int] -/
noncomputable def d_slices_Equal_int_0 (a0 : (List Int)) (a1 : (List Int)) : Int → Option (Int ⊕ (Unit ⊕ Bool)) := fun x3 =>
  bif decide (x3 < ((a0.length : Nat) : Int)) then (
    (ixO a0 x3).bind fun x6 =>
    (ixO a1 x3).bind fun x7 =>
    bif (!(decide (x6 = x7))) then (
      some (.inr (.inr false))
    ) else (
      some (.inl (w64 (x3 + 1)))
    )
  ) else (
    some (.inr (.inl ()))
  )

noncomputable def d_slices_Equal_int (a0 : (List Int)) (a1 : (List Int)) : Option Bool :=
  bif (!(decide (((a0.length : Nat) : Int) = ((a1.length : Nat) : Int)))) then (
    some false
  ) else (
    onInl (α := Unit) (β := Bool) (loopO (d_slices_Equal_int_0 a0 a1) 0) fun _ =>
    some true
  )
theorem d_slices_Equal_int_ok (a0 : (List Int)) (a1 : (List Int)) (r : Bool) (h : d_slices_Equal_int a0 a1 = some r) : PCall Go.Proofs.Tryd.prog GlS 13 [Enc.pv a0, Enc.pv a1] (Enc.pv r) := by
  unfold d_slices_Equal_int at h
  refine pcall_of_pwp Go.Proofs.Tryd.func13 (by rfl) rfl Go.Proofs.Tryd.ntmps13 (by rfl) rfl ?_
  refine pwp_seq (r_reg ?_)
  refine e_end (by kernel_rfl) ?_
  refine q_next (pwp_seq (pwp_seq (r_reg ?_)))
  refine p_run 1 (by kernel_rfl) ?_
  refine p_len (L := (a0 : (List Int))) (by kernel_rfl) ?_
  refine p_run 1 (by kernel_rfl) ?_
  refine p_len (L := (a1 : (List Int))) (by kernel_rfl) ?_
  refine e_end (by kernel_rfl) ?_
  refine q_next ?_
  rcases o_cond h with ⟨hb, h⟩ | ⟨hb, h⟩
  · refine r_cond_t hb (by kernel_rfl) ?_
    refine pwp_seq (r_reg ?_)
    refine e_end (by kernel_rfl) ?_
    refine q_next (pwp_ret (q_seq_ret ?_))
    cases h
    exact q_ret (by kernel_rfl) (by kernel_rfl) (by kernel_rfl)
  refine r_cond_f hb (by kernel_rfl) ?_
  refine pwp_skip (q_next (pwp_seq (pwp_seq (r_reg ?_))))
  refine p_run 1 (by kernel_rfl) ?_
  refine p_len (L := (a0 : (List Int))) (by kernel_rfl) ?_
  refine e_end (by kernel_rfl) ?_
  refine q_next (pwp_block ?_)
  obtain ⟨o8, h8, h⟩ := o_inl h
  refine r_loop2 26 0 (fun x3 => ⟨[(0, lstOf .frozen (a0 : (List Int))), (1, lstOf .frozen (a1 : (List Int))), (12, .int .i64 ((a0.length : Nat) : Int)), (13, .int .i64 x3)], [], [], []⟩) (fun (_ : Unit) => ⟨[], [], [], []⟩) h8 (by kernel_rfl) (fun _ => by kernel_rfl) ?_ ?_
  · rintro x3 oh7 h7
    unfold d_slices_Equal_int_0 at h7
    refine pwp_seq (r_reg ?_)
    refine e_end (by kernel_rfl) ?_
    refine q_next (pwp_seq ?_)
    rcases o_cond h7 with ⟨hb, h7⟩ | ⟨hb, h7⟩
    · refine r_cond_t hb (by kernel_rfl) ?_
      refine pwp_skip (q_next (pwp_seq (pwp_block (pwp_seq (r_reg ?_)))))
      refine e_end (by kernel_rfl) ?_
      refine q_next (pwp_seq ?_)
      refine r_regd (by kernel_rfl) (by kernel_rfl) ?_
      refine p_run 2 (by kernel_rfl) ?_
      obtain ⟨x6, h9, h7⟩ := o_bind h7
      refine p_ix h9 (by kernel_rfl) ?_
      refine p_run 3 (by kernel_rfl) ?_
      obtain ⟨x7, h10, h7⟩ := o_bind h7
      refine p_ix h10 (by kernel_rfl) ?_
      refine e_end (by kernel_rfl) ?_
      refine q_next ?_
      rcases o_cond h7 with ⟨hb, h7⟩ | ⟨hb, h7⟩
      · refine r_cond_t hb (by kernel_rfl) ?_
        refine pwp_seq (r_reg ?_)
        refine e_end (by kernel_rfl) ?_
        refine q_next (pwp_ret (q_block_ret (q_seq_ret ?_)))
        cases h7
        refine q_lout_ret fun he => ?_
        subst he
        have h11 := o_outr h
        refine q_block_ret (q_seq_ret ?_)
        cases h11
        exact q_ret (by kernel_rfl) (by kernel_rfl) (by kernel_rfl)
      refine r_cond_f hb (by kernel_rfl) ?_
      refine pwp_skip (q_block (q_next (r_reg ?_)))
      refine e_end (by kernel_rfl) ?_
      cases h7
      exact q_lback (by kernel_rfl)
    refine r_cond_f hb (by kernel_rfl) ?_
    refine pwp_exit (q_seq_exit ?_)
    cases h7
    exact q_lexit (by kernel_rfl) (by kernel_rfl)
  rintro _ s' rfl hs
  have h := o_outl h
  refine q_block_hit ?_
  refine q_next (pwp_wkr hs ?_)
  refine pwp_seq (r_reg ?_)
  refine e_end (by kernel_rfl) ?_
  refine q_next (pwp_ret ?_)
  cases h
  exact q_ret (by kernel_rfl) (by kernel_rfl) (by kernel_rfl)

/-! slices.Equal[[]api.End,api.End] -/
noncomputable def d_slices_Equal_api_End_0 (a0 : (List T_api_End)) (a1 : (List T_api_End)) : Int → Option (Int ⊕ (Unit ⊕ Bool)) := fun x3 =>
  bif decide (x3 < ((a0.length : Nat) : Int)) then (
    (ixO a0 x3).bind fun x6 =>
    (ixO a1 x3).bind fun x7 =>
    bif (!(eq_T_api_End x6 x7)) then (
      some (.inr (.inr false))
    ) else (
      some (.inl (w64 (x3 + 1)))
    )
  ) else (
    some (.inr (.inl ()))
  )

noncomputable def d_slices_Equal_api_End (a0 : (List T_api_End)) (a1 : (List T_api_End)) : Option Bool :=
  bif (!(decide (((a0.length : Nat) : Int) = ((a1.length : Nat) : Int)))) then (
    some false
  ) else (
    onInl (α := Unit) (β := Bool) (loopO (d_slices_Equal_api_End_0 a0 a1) 0) fun _ =>
    some true
  )
theorem d_slices_Equal_api_End_ok (a0 : (List T_api_End)) (a1 : (List T_api_End)) (r : Bool) (h : d_slices_Equal_api_End a0 a1 = some r) : PCall Go.Proofs.Tryd.prog GlS 14 [Enc.pv a0, Enc.pv a1] (Enc.pv r) := by
  unfold d_slices_Equal_api_End at h
  refine pcall_of_pwp Go.Proofs.Tryd.func14 (by rfl) rfl Go.Proofs.Tryd.ntmps14 (by rfl) rfl ?_
  refine pwp_seq (r_reg ?_)
  refine e_end (by kernel_rfl) ?_
  refine q_next (pwp_seq (pwp_seq (r_reg ?_)))
  refine p_run 1 (by kernel_rfl) ?_
  refine p_len (L := (a0 : (List T_api_End))) (by kernel_rfl) ?_
  refine p_run 1 (by kernel_rfl) ?_
  refine p_len (L := (a1 : (List T_api_End))) (by kernel_rfl) ?_
  refine e_end (by kernel_rfl) ?_
  refine q_next ?_
  rcases o_cond h with ⟨hb, h⟩ | ⟨hb, h⟩
  · refine r_cond_t hb (by kernel_rfl) ?_
    refine pwp_seq (r_reg ?_)
    refine e_end (by kernel_rfl) ?_
    refine q_next (pwp_ret (q_seq_ret ?_))
    cases h
    exact q_ret (by kernel_rfl) (by kernel_rfl) (by kernel_rfl)
  refine r_cond_f hb (by kernel_rfl) ?_
  refine pwp_skip (q_next (pwp_seq (pwp_seq (r_reg ?_))))
  refine p_run 1 (by kernel_rfl) ?_
  refine p_len (L := (a0 : (List T_api_End))) (by kernel_rfl) ?_
  refine e_end (by kernel_rfl) ?_
  refine q_next (pwp_block ?_)
  obtain ⟨o8, h8, h⟩ := o_inl h
  refine r_loop2 26 0 (fun x3 => ⟨[(0, lstOf .frozen (a0 : (List T_api_End))), (1, lstOf .frozen (a1 : (List T_api_End))), (12, .int .i64 ((a0.length : Nat) : Int)), (13, .int .i64 x3)], [], [], []⟩) (fun (_ : Unit) => ⟨[], [], [], []⟩) h8 (by kernel_rfl) (fun _ => by kernel_rfl) ?_ ?_
  · rintro x3 oh7 h7
    unfold d_slices_Equal_api_End_0 at h7
    refine pwp_seq (r_reg ?_)
    refine e_end (by kernel_rfl) ?_
    refine q_next (pwp_seq ?_)
    rcases o_cond h7 with ⟨hb, h7⟩ | ⟨hb, h7⟩
    · refine r_cond_t hb (by kernel_rfl) ?_
      refine pwp_skip (q_next (pwp_seq (pwp_block (pwp_seq (r_reg ?_)))))
      refine e_end (by kernel_rfl) ?_
      refine q_next (pwp_seq ?_)
      refine r_regd (by kernel_rfl) (by kernel_rfl) ?_
      refine p_run 2 (by kernel_rfl) ?_
      obtain ⟨x6, h9, h7⟩ := o_bind h7
      refine p_ix h9 (by kernel_rfl) ?_
      refine p_run 3 (by kernel_rfl) ?_
      obtain ⟨x7, h10, h7⟩ := o_bind h7
      refine p_ix h10 (by kernel_rfl) ?_
      refine e_end (by kernel_rfl) ?_
      refine q_next ?_
      rcases o_cond h7 with ⟨hb, h7⟩ | ⟨hb, h7⟩
      · refine r_cond_t hb (by kernel_rfl) ?_
        refine pwp_seq (r_reg ?_)
        refine e_end (by kernel_rfl) ?_
        refine q_next (pwp_ret (q_block_ret (q_seq_ret ?_)))
        cases h7
        refine q_lout_ret fun he => ?_
        subst he
        have h11 := o_outr h
        refine q_block_ret (q_seq_ret ?_)
        cases h11
        exact q_ret (by kernel_rfl) (by kernel_rfl) (by kernel_rfl)
      refine r_cond_f hb (by kernel_rfl) ?_
      refine pwp_skip (q_block (q_next (r_reg ?_)))
      refine e_end (by kernel_rfl) ?_
      cases h7
      exact q_lback (by kernel_rfl)
    refine r_cond_f hb (by kernel_rfl) ?_
    refine pwp_exit (q_seq_exit ?_)
    cases h7
    exact q_lexit (by kernel_rfl) (by kernel_rfl)
  rintro _ s' rfl hs
  have h := o_outl h
  refine q_block_hit ?_
  refine q_next (pwp_wkr hs ?_)
  refine pwp_seq (r_reg ?_)
  refine e_end (by kernel_rfl) ?_
  refine q_next (pwp_ret ?_)
  cases h
  exact q_ret (by kernel_rfl) (by kernel_rfl) (by kernel_rfl)

/-! route.Same -/
noncomputable def d_route_Same (a0 : T_api_Route) (a1 : T_api_Route) : Option Bool :=
  ((bif (((((decide (a0.Name = a1.Name)) && (decide (a0.Entry = a1.Entry))) && (decide (a0.Exit = a1.Exit))) && (decide (a0.Approach = a1.Approach))) && (decide (a0.Length = a1.Length))) then (
    (d_slices_Equal_api_Step a0.Path a1.Path).bind fun r2 =>
    some r2
  ) else some false) : Option Bool).bind fun b1 =>
  ((bif b1 then (
    (d_slices_Equal_api_Setting a0.Points a1.Points).bind fun r4 =>
    some r4
  ) else some false) : Option Bool).bind fun b3 =>
  ((bif b3 then (
    (d_slices_Equal_int a0.Sections a1.Sections).bind fun r6 =>
    some r6
  ) else some false) : Option Bool).bind fun b5 =>
  ((bif b5 then (
    (d_slices_Equal_api_Step a0.Over a1.Over).bind fun r8 =>
    some r8
  ) else some false) : Option Bool).bind fun b7 =>
  ((bif b7 then (
    (d_slices_Equal_api_Setting a0.OverPoints a1.OverPoints).bind fun r10 =>
    some r10
  ) else some false) : Option Bool).bind fun b9 =>
  ((bif b9 then (
    (d_slices_Equal_int a0.OverSections a1.OverSections).bind fun r12 =>
    some r12
  ) else some false) : Option Bool).bind fun b11 =>
  ((bif b11 then (
    (d_slices_Equal_api_Setting a0.Flank a1.Flank).bind fun r14 =>
    some r14
  ) else some false) : Option Bool).bind fun b13 =>
  ((bif b13 then (
    (d_slices_Equal_int a0.Guards a1.Guards).bind fun r16 =>
    some r16
  ) else some false) : Option Bool).bind fun b15 =>
  ((bif b15 then (
    (d_slices_Equal_api_End a0.Gaps a1.Gaps).bind fun r18 =>
    some r18
  ) else some false) : Option Bool).bind fun b17 =>
  some b17
theorem d_route_Same_ok (a0 : T_api_Route) (a1 : T_api_Route) (r : Bool) (h : d_route_Same a0 a1 = some r) : PCall Go.Proofs.Tryd.prog GlS 6 [Enc.pv a0, Enc.pv a1] (Enc.pv r) := by
  unfold d_route_Same at h
  refine pcall_of_pwp Go.Proofs.Tryd.func6 (by rfl) rfl Go.Proofs.Tryd.ntmps6 (by rfl) rfl ?_
  refine pwp_seq (r_reg ?_)
  refine e_end (by kernel_rfl) ?_
  refine q_next (pwp_seq (r_reg ?_))
  refine p_run 6 (by kernel_rfl) ?_
  refine e_segb 6 16 ((decide (a0.Name = a1.Name)) && (decide (a0.Entry = a1.Entry))) (fun x hx => ?_) ?_
  · rcases b_and hx with ⟨hb, hx⟩ | ⟨hb, hx⟩
    · refine p_settle 10 hb (by kernel_rfl) (by kernel_rfl) ?_
      subst hx
      exact f_end (by kernel_rfl) (by kernel_rfl)
    refine p_settle 10 hb (by kernel_rfl) (by kernel_rfl) ?_
    subst hx
    exact f_end (by kernel_rfl) (by kernel_rfl)
  refine p_run 1 (by kernel_rfl) ?_
  refine e_segb 6 23 (((decide (a0.Name = a1.Name)) && (decide (a0.Entry = a1.Entry))) && (decide (a0.Exit = a1.Exit))) (fun x hx => ?_) ?_
  · rcases b_and hx with ⟨hb, hx⟩ | ⟨hb, hx⟩
    · refine p_settle 17 hb (by kernel_rfl) (by kernel_rfl) ?_
      subst hx
      exact f_end (by kernel_rfl) (by kernel_rfl)
    refine p_settle 17 hb (by kernel_rfl) (by kernel_rfl) ?_
    subst hx
    exact f_end (by kernel_rfl) (by kernel_rfl)
  refine p_run 1 (by kernel_rfl) ?_
  refine e_segb 6 30 ((((decide (a0.Name = a1.Name)) && (decide (a0.Entry = a1.Entry))) && (decide (a0.Exit = a1.Exit))) && (decide (a0.Approach = a1.Approach))) (fun x hx => ?_) ?_
  · rcases b_and hx with ⟨hb, hx⟩ | ⟨hb, hx⟩
    · refine p_settle 24 hb (by kernel_rfl) (by kernel_rfl) ?_
      subst hx
      exact f_end (by kernel_rfl) (by kernel_rfl)
    refine p_settle 24 hb (by kernel_rfl) (by kernel_rfl) ?_
    subst hx
    exact f_end (by kernel_rfl) (by kernel_rfl)
  refine p_run 1 (by kernel_rfl) ?_
  refine e_segb 6 37 (((((decide (a0.Name = a1.Name)) && (decide (a0.Entry = a1.Entry))) && (decide (a0.Exit = a1.Exit))) && (decide (a0.Approach = a1.Approach))) && (decide (a0.Length = a1.Length))) (fun x hx => ?_) ?_
  · rcases b_and hx with ⟨hb, hx⟩ | ⟨hb, hx⟩
    · refine p_settle 31 hb (by kernel_rfl) (by kernel_rfl) ?_
      subst hx
      exact f_end (by kernel_rfl) (by kernel_rfl)
    refine p_settle 31 hb (by kernel_rfl) (by kernel_rfl) ?_
    subst hx
    exact f_end (by kernel_rfl) (by kernel_rfl)
  obtain ⟨b1, h1, h⟩ := o_bind h
  refine p_run 1 (by kernel_rfl) ?_
  refine e_seg 6 44 (.bool b1) ?_ ?_
  · rcases o_cond h1 with ⟨hb, h1⟩ | ⟨hb, h1⟩
    · refine p_settle 38 hb (by kernel_rfl) (by kernel_rfl) ?_
      refine p_run 4 (by kernel_rfl) ?_
      obtain ⟨r2, h2, h1⟩ := o_bind h1
      refine p_call (d_slices_Equal_api_Step_ok _ _ r2 h2) (by kernel_rfl) (by kernel_rfl) ?_
      cases h1
      exact f_end (by kernel_rfl) (by kernel_rfl)
    refine p_settle 38 hb (by kernel_rfl) (by kernel_rfl) ?_
    cases h1
    exact f_end (by kernel_rfl) (by kernel_rfl)
  obtain ⟨b3, h3, h⟩ := o_bind h
  refine p_run 1 (by kernel_rfl) ?_
  refine e_seg 6 51 (.bool b3) ?_ ?_
  · rcases o_cond h3 with ⟨hb, h3⟩ | ⟨hb, h3⟩
    · refine p_settle 45 hb (by kernel_rfl) (by kernel_rfl) ?_
      refine p_run 4 (by kernel_rfl) ?_
      obtain ⟨r4, h4, h3⟩ := o_bind h3
      refine p_call (d_slices_Equal_api_Setting_ok _ _ r4 h4) (by kernel_rfl) (by kernel_rfl) ?_
      cases h3
      exact f_end (by kernel_rfl) (by kernel_rfl)
    refine p_settle 45 hb (by kernel_rfl) (by kernel_rfl) ?_
    cases h3
    exact f_end (by kernel_rfl) (by kernel_rfl)
  obtain ⟨b5, h5, h⟩ := o_bind h
  refine p_run 1 (by kernel_rfl) ?_
  refine e_seg 6 58 (.bool b5) ?_ ?_
  · rcases o_cond h5 with ⟨hb, h5⟩ | ⟨hb, h5⟩
    · refine p_settle 52 hb (by kernel_rfl) (by kernel_rfl) ?_
      refine p_run 4 (by kernel_rfl) ?_
      obtain ⟨r6, h6, h5⟩ := o_bind h5
      refine p_call (d_slices_Equal_int_ok _ _ r6 h6) (by kernel_rfl) (by kernel_rfl) ?_
      cases h5
      exact f_end (by kernel_rfl) (by kernel_rfl)
    refine p_settle 52 hb (by kernel_rfl) (by kernel_rfl) ?_
    cases h5
    exact f_end (by kernel_rfl) (by kernel_rfl)
  obtain ⟨b7, h7, h⟩ := o_bind h
  refine p_run 1 (by kernel_rfl) ?_
  refine e_seg 6 65 (.bool b7) ?_ ?_
  · rcases o_cond h7 with ⟨hb, h7⟩ | ⟨hb, h7⟩
    · refine p_settle 59 hb (by kernel_rfl) (by kernel_rfl) ?_
      refine p_run 4 (by kernel_rfl) ?_
      obtain ⟨r8, h8, h7⟩ := o_bind h7
      refine p_call (d_slices_Equal_api_Step_ok _ _ r8 h8) (by kernel_rfl) (by kernel_rfl) ?_
      cases h7
      exact f_end (by kernel_rfl) (by kernel_rfl)
    refine p_settle 59 hb (by kernel_rfl) (by kernel_rfl) ?_
    cases h7
    exact f_end (by kernel_rfl) (by kernel_rfl)
  obtain ⟨b9, h9, h⟩ := o_bind h
  refine p_run 1 (by kernel_rfl) ?_
  refine e_seg 6 72 (.bool b9) ?_ ?_
  · rcases o_cond h9 with ⟨hb, h9⟩ | ⟨hb, h9⟩
    · refine p_settle 66 hb (by kernel_rfl) (by kernel_rfl) ?_
      refine p_run 4 (by kernel_rfl) ?_
      obtain ⟨r10, h10, h9⟩ := o_bind h9
      refine p_call (d_slices_Equal_api_Setting_ok _ _ r10 h10) (by kernel_rfl) (by kernel_rfl) ?_
      cases h9
      exact f_end (by kernel_rfl) (by kernel_rfl)
    refine p_settle 66 hb (by kernel_rfl) (by kernel_rfl) ?_
    cases h9
    exact f_end (by kernel_rfl) (by kernel_rfl)
  obtain ⟨b11, h11, h⟩ := o_bind h
  refine p_run 1 (by kernel_rfl) ?_
  refine e_seg 6 79 (.bool b11) ?_ ?_
  · rcases o_cond h11 with ⟨hb, h11⟩ | ⟨hb, h11⟩
    · refine p_settle 73 hb (by kernel_rfl) (by kernel_rfl) ?_
      refine p_run 4 (by kernel_rfl) ?_
      obtain ⟨r12, h12, h11⟩ := o_bind h11
      refine p_call (d_slices_Equal_int_ok _ _ r12 h12) (by kernel_rfl) (by kernel_rfl) ?_
      cases h11
      exact f_end (by kernel_rfl) (by kernel_rfl)
    refine p_settle 73 hb (by kernel_rfl) (by kernel_rfl) ?_
    cases h11
    exact f_end (by kernel_rfl) (by kernel_rfl)
  obtain ⟨b13, h13, h⟩ := o_bind h
  refine p_run 1 (by kernel_rfl) ?_
  refine e_seg 6 86 (.bool b13) ?_ ?_
  · rcases o_cond h13 with ⟨hb, h13⟩ | ⟨hb, h13⟩
    · refine p_settle 80 hb (by kernel_rfl) (by kernel_rfl) ?_
      refine p_run 4 (by kernel_rfl) ?_
      obtain ⟨r14, h14, h13⟩ := o_bind h13
      refine p_call (d_slices_Equal_api_Setting_ok _ _ r14 h14) (by kernel_rfl) (by kernel_rfl) ?_
      cases h13
      exact f_end (by kernel_rfl) (by kernel_rfl)
    refine p_settle 80 hb (by kernel_rfl) (by kernel_rfl) ?_
    cases h13
    exact f_end (by kernel_rfl) (by kernel_rfl)
  obtain ⟨b15, h15, h⟩ := o_bind h
  refine p_run 1 (by kernel_rfl) ?_
  refine e_seg 6 93 (.bool b15) ?_ ?_
  · rcases o_cond h15 with ⟨hb, h15⟩ | ⟨hb, h15⟩
    · refine p_settle 87 hb (by kernel_rfl) (by kernel_rfl) ?_
      refine p_run 4 (by kernel_rfl) ?_
      obtain ⟨r16, h16, h15⟩ := o_bind h15
      refine p_call (d_slices_Equal_int_ok _ _ r16 h16) (by kernel_rfl) (by kernel_rfl) ?_
      cases h15
      exact f_end (by kernel_rfl) (by kernel_rfl)
    refine p_settle 87 hb (by kernel_rfl) (by kernel_rfl) ?_
    cases h15
    exact f_end (by kernel_rfl) (by kernel_rfl)
  obtain ⟨b17, h17, h⟩ := o_bind h
  refine p_run 1 (by kernel_rfl) ?_
  refine e_seg 6 100 (.bool b17) ?_ ?_
  · rcases o_cond h17 with ⟨hb, h17⟩ | ⟨hb, h17⟩
    · refine p_settle 94 hb (by kernel_rfl) (by kernel_rfl) ?_
      refine p_run 4 (by kernel_rfl) ?_
      obtain ⟨r18, h18, h17⟩ := o_bind h17
      refine p_call (d_slices_Equal_api_End_ok _ _ r18 h18) (by kernel_rfl) (by kernel_rfl) ?_
      cases h17
      exact f_end (by kernel_rfl) (by kernel_rfl)
    refine p_settle 94 hb (by kernel_rfl) (by kernel_rfl) ?_
    cases h17
    exact f_end (by kernel_rfl) (by kernel_rfl)
  refine e_end (by kernel_rfl) ?_
  refine q_next (pwp_ret ?_)
  cases h
  exact q_ret (by kernel_rfl) (by kernel_rfl) (by kernel_rfl)

/-! signallinglaw12.alive -/
noncomputable def d_law12_alive : Option Bool :=
  (d_law12_line ).bind fun r1 =>
  (d_route_From r1 0).bind fun r2 =>
  (d_route_From r1 1).bind fun r3 =>
  (d_route_All r1).bind fun r4 =>
  ((bif (!(decide (((r2.length : Nat) : Int) = 1))) then some true else (
    some (!(decide (((r3.length : Nat) : Int) = 1)))
  )) : Option Bool).bind fun b5 =>
  ((bif b5 then some true else (
    some (!(decide (((r4.1.length : Nat) : Int) = 2)))
  )) : Option Bool).bind fun b6 =>
  ((bif (b6 || (!(decide (r4.2 = 0)))) then some true else (
    (d_route_From r1 2).bind fun r8 =>
    some (!(decide (((r8.length : Nat) : Int) = 0)))
  )) : Option Bool).bind fun b7 =>
  bif b7 then (
    some false
  ) else (
    (ixO r2 0).bind fun x9 =>
    (d_ref12_Same x9 (T_api_Route.mk (ByteArray.mk #[115, 49, 45, 115, 50]) 0 1 [(T_api_Step.mk 1 0 1)] [] [1] 0 20000 [] [] [] [] [] [])).bind fun r10 =>
    ((bif r10 then (
      (ixO r3 0).bind fun x12 =>
      some (decide (x12.Name = (ByteArray.mk #[115, 50, 45, 101, 110, 100])))
    ) else some false) : Option Bool).bind fun b11 =>
    ((bif b11 then (
      (ixO r3 0).bind fun x14 =>
      some (decide (x14.Exit = (-1)))
    ) else some false) : Option Bool).bind fun b13 =>
    ((bif b13 then (
      (ixO r4.1 0).bind fun x16 =>
      (d_route_Same x16 (T_api_Route.mk (ByteArray.mk #[115, 49, 45, 115, 50]) 0 1 [(T_api_Step.mk 1 0 1)] [] [1] 0 20000 [] [] [] [] [] [])).bind fun r17 =>
      some r17
    ) else some false) : Option Bool).bind fun b15 =>
    ((bif b15 then (
      (ixO r4.1 1).bind fun x19 =>
      (d_route_Same x19 (T_api_Route.mk (ByteArray.mk #[115, 49, 45, 115, 50]) 0 1 [(T_api_Step.mk 1 0 1)] [] [1] 0 20000 [] [] [] [] [] [])).bind fun r20 =>
      some (!r20)
    ) else some false) : Option Bool).bind fun b18 =>
    some b18
  )
theorem d_law12_alive_ok (r : Bool) (h : d_law12_alive = some r) : PCall Go.Proofs.Tryd.prog GlS 5 [] (Enc.pv r) := by
  unfold d_law12_alive at h
  refine pcall_of_pwp Go.Proofs.Tryd.func5 (by rfl) rfl Go.Proofs.Tryd.ntmps5 (by rfl) rfl ?_
  refine pwp_seq (r_reg ?_)
  refine e_end (by kernel_rfl) ?_
  refine q_next (pwp_seq (r_reg ?_))
  obtain ⟨r1, h1, h⟩ := o_bind h
  refine p_call (d_law12_line_ok  r1 h1) (by kernel_rfl) (by kernel_rfl) ?_
  refine e_end (by kernel_rfl) ?_
  refine q_next (pwp_seq ?_)
  refine r_regd (by kernel_rfl) (by kernel_rfl) ?_
  refine p_run 1 (by kernel_rfl) ?_
  obtain ⟨r2, h2, h⟩ := o_bind h
  refine p_call (d_route_From_fz _ _ r2 h2) (by kernel_rfl) (by kernel_rfl) ?_
  refine p_run 1 (by kernel_rfl) ?_
  obtain ⟨r3, h3, h⟩ := o_bind h
  refine p_call (d_route_From_fz _ _ r3 h3) (by kernel_rfl) (by kernel_rfl) ?_
  refine e_end (by kernel_rfl) ?_
  refine q_next (pwp_seq (r_reg ?_))
  refine p_run 1 (by kernel_rfl) ?_
  obtain ⟨r4, h4, h⟩ := o_bind h
  refine p_call (d_route_All_ok _ r4 h4) (by kernel_rfl) (by kernel_rfl) ?_
  refine e_end (by kernel_rfl) ?_
  refine q_next (pwp_seq (pwp_seq (r_reg ?_)))
  refine p_run 1 (by kernel_rfl) ?_
  refine p_len (L := (r2 : (List T_api_Route))) (by kernel_rfl) ?_
  obtain ⟨b5, h5, h⟩ := o_bind h
  refine p_run 2 (by kernel_rfl) ?_
  refine e_seg 4 24 (.bool b5) ?_ ?_
  · rcases o_cond h5 with ⟨hb, h5⟩ | ⟨hb, h5⟩
    · refine p_settle 20 hb (by kernel_rfl) (by kernel_rfl) ?_
      cases h5
      exact f_end (by kernel_rfl) (by kernel_rfl)
    refine p_settle 20 hb (by kernel_rfl) (by kernel_rfl) ?_
    refine p_run 1 (by kernel_rfl) ?_
    refine p_len (L := (r3 : (List T_api_Route))) (by kernel_rfl) ?_
    cases h5
    exact f_end (by kernel_rfl) (by kernel_rfl)
  obtain ⟨b6, h6, h⟩ := o_bind h
  refine p_run 1 (by kernel_rfl) ?_
  refine e_seg 4 29 (.bool b6) ?_ ?_
  · rcases o_cond h6 with ⟨hb, h6⟩ | ⟨hb, h6⟩
    · refine p_settle 25 hb (by kernel_rfl) (by kernel_rfl) ?_
      cases h6
      exact f_end (by kernel_rfl) (by kernel_rfl)
    refine p_settle 25 hb (by kernel_rfl) (by kernel_rfl) ?_
    refine p_run 1 (by kernel_rfl) ?_
    refine p_len (L := (r4.1 : (List T_api_Route))) (by kernel_rfl) ?_
    cases h6
    exact f_end (by kernel_rfl) (by kernel_rfl)
  refine p_run 1 (by kernel_rfl) ?_
  refine e_segb 3 33 (b6 || (!(decide (r4.2 = 0)))) (fun x hx => ?_) ?_
  · rcases b_or hx with ⟨hb, hx⟩ | ⟨hb, hx⟩
    · refine p_settle 30 hb (by kernel_rfl) (by kernel_rfl) ?_
      subst hx
      exact f_end (by kernel_rfl) (by kernel_rfl)
    refine p_settle 30 hb (by kernel_rfl) (by kernel_rfl) ?_
    subst hx
    exact f_end (by kernel_rfl) (by kernel_rfl)
  obtain ⟨b7, h7, h⟩ := o_bind h
  refine p_run 1 (by kernel_rfl) ?_
  refine e_seg 5 39 (.bool b7) ?_ ?_
  · rcases o_cond h7 with ⟨hb, h7⟩ | ⟨hb, h7⟩
    · refine p_settle 34 hb (by kernel_rfl) (by kernel_rfl) ?_
      cases h7
      exact f_end (by kernel_rfl) (by kernel_rfl)
    refine p_settle 34 hb (by kernel_rfl) (by kernel_rfl) ?_
    refine p_run 1 (by kernel_rfl) ?_
    obtain ⟨r8, h8, h7⟩ := o_bind h7
    refine p_call (d_route_From_fz _ _ r8 h8) (by kernel_rfl) (by kernel_rfl) ?_
    refine p_len (L := (r8 : (List T_api_Route))) (by kernel_rfl) ?_
    cases h7
    exact f_end (by kernel_rfl) (by kernel_rfl)
  refine e_nil (by kernel_rfl) ?_
  refine q_next ?_
  rcases o_cond h with ⟨hb, h⟩ | ⟨hb, h⟩
  · refine r_cond_t hb (by kernel_rfl) ?_
    refine pwp_seq (r_reg ?_)
    refine e_end (by kernel_rfl) ?_
    refine q_next (pwp_ret (q_seq_ret ?_))
    cases h
    exact q_ret (by kernel_rfl) (by kernel_rfl) (by kernel_rfl)
  refine r_cond_f hb (by kernel_rfl) ?_
  refine pwp_skip (q_next (pwp_seq (r_reg ?_)))
  refine e_end (by kernel_rfl) ?_
  refine q_next (pwp_seq ?_)
  refine r_regd (by kernel_rfl) (by kernel_rfl) ?_
  refine p_run 1 (by kernel_rfl) ?_
  obtain ⟨x9, h9, h⟩ := o_bind h
  refine p_ix h9 (by kernel_rfl) ?_
  refine p_run 2 (by kernel_rfl) ?_
  obtain ⟨r10, h10, h⟩ := o_bind h
  refine p_call (d_ref12_Same_ok _ _ r10 h10) (by kernel_rfl) (by kernel_rfl) ?_
  obtain ⟨b11, h11, h⟩ := o_bind h
  refine p_run 1 (by kernel_rfl) ?_
  refine e_seg 6 55 (.bool b11) ?_ ?_
  · rcases o_cond h11 with ⟨hb, h11⟩ | ⟨hb, h11⟩
    · refine p_settle 49 hb (by kernel_rfl) (by kernel_rfl) ?_
      refine p_run 1 (by kernel_rfl) ?_
      obtain ⟨x12, h12, h11⟩ := o_bind h11
      refine p_ix h12 (by kernel_rfl) ?_
      cases h11
      exact f_end (by kernel_rfl) (by kernel_rfl)
    refine p_settle 49 hb (by kernel_rfl) (by kernel_rfl) ?_
    cases h11
    exact f_end (by kernel_rfl) (by kernel_rfl)
  obtain ⟨b13, h13, h⟩ := o_bind h
  refine p_run 1 (by kernel_rfl) ?_
  refine e_seg 6 62 (.bool b13) ?_ ?_
  · rcases o_cond h13 with ⟨hb, h13⟩ | ⟨hb, h13⟩
    · refine p_settle 56 hb (by kernel_rfl) (by kernel_rfl) ?_
      refine p_run 1 (by kernel_rfl) ?_
      obtain ⟨x14, h14, h13⟩ := o_bind h13
      refine p_ix h14 (by kernel_rfl) ?_
      cases h13
      exact f_end (by kernel_rfl) (by kernel_rfl)
    refine p_settle 56 hb (by kernel_rfl) (by kernel_rfl) ?_
    cases h13
    exact f_end (by kernel_rfl) (by kernel_rfl)
  obtain ⟨b15, h15, h⟩ := o_bind h
  refine p_run 1 (by kernel_rfl) ?_
  refine e_seg 6 69 (.bool b15) ?_ ?_
  · rcases o_cond h15 with ⟨hb, h15⟩ | ⟨hb, h15⟩
    · refine p_settle 63 hb (by kernel_rfl) (by kernel_rfl) ?_
      refine p_run 1 (by kernel_rfl) ?_
      obtain ⟨x16, h16, h15⟩ := o_bind h15
      refine p_ix h16 (by kernel_rfl) ?_
      refine p_run 2 (by kernel_rfl) ?_
      obtain ⟨r17, h17, h15⟩ := o_bind h15
      refine p_call (d_route_Same_ok _ _ r17 h17) (by kernel_rfl) (by kernel_rfl) ?_
      cases h15
      exact f_end (by kernel_rfl) (by kernel_rfl)
    refine p_settle 63 hb (by kernel_rfl) (by kernel_rfl) ?_
    cases h15
    exact f_end (by kernel_rfl) (by kernel_rfl)
  obtain ⟨b18, h18, h⟩ := o_bind h
  refine p_run 1 (by kernel_rfl) ?_
  refine e_seg 7 77 (.bool b18) ?_ ?_
  · rcases o_cond h18 with ⟨hb, h18⟩ | ⟨hb, h18⟩
    · refine p_settle 70 hb (by kernel_rfl) (by kernel_rfl) ?_
      refine p_run 1 (by kernel_rfl) ?_
      obtain ⟨x19, h19, h18⟩ := o_bind h18
      refine p_ix h19 (by kernel_rfl) ?_
      refine p_run 2 (by kernel_rfl) ?_
      obtain ⟨r20, h20, h18⟩ := o_bind h18
      refine p_call (d_route_Same_ok _ _ r20 h20) (by kernel_rfl) (by kernel_rfl) ?_
      cases h18
      exact f_end (by kernel_rfl) (by kernel_rfl)
    refine p_settle 70 hb (by kernel_rfl) (by kernel_rfl) ?_
    cases h18
    exact f_end (by kernel_rfl) (by kernel_rfl)
  refine e_end (by kernel_rfl) ?_
  refine q_next (pwp_ret ?_)
  cases h
  exact q_ret (by kernel_rfl) (by kernel_rfl) (by kernel_rfl)

/-! signallinglaw12.RouteSame -/
noncomputable def d_law12_RouteSame (a0 : T_api_Route) (a1 : T_api_Route) : Option Bool :=
  (d_law12_small a0).bind fun r1 =>
  ((bif (!r1) then some true else (
    (d_law12_small a1).bind fun r3 =>
    some (!r3)
  )) : Option Bool).bind fun b2 =>
  bif b2 then (
    (d_law12_alive ).bind fun r4 =>
    some r4
  ) else (
    (d_route_Same a0 a1).bind fun r5 =>
    (d_ref12_Same a0 a1).bind fun r6 =>
    ((bif (r5 == r6) then (
      (d_route_Same a0 a0).bind fun r8 =>
      some r8
    ) else some false) : Option Bool).bind fun b7 =>
    ((bif b7 then (
      (d_law12_alive ).bind fun r10 =>
      some r10
    ) else some false) : Option Bool).bind fun b9 =>
    some b9
  )
theorem d_law12_RouteSame_ok (a0 : T_api_Route) (a1 : T_api_Route) (r : Bool) (h : d_law12_RouteSame a0 a1 = some r) : PCall Go.Proofs.Tryd.prog GlS 3 [Enc.pv a0, Enc.pv a1] (Enc.pv r) := by
  unfold d_law12_RouteSame at h
  refine pcall_of_pwp Go.Proofs.Tryd.func3 (by rfl) rfl Go.Proofs.Tryd.ntmps3 (by rfl) rfl ?_
  refine pwp_seq (r_reg ?_)
  refine e_end (by kernel_rfl) ?_
  refine q_next (pwp_seq (pwp_seq (r_reg ?_)))
  refine p_run 1 (by kernel_rfl) ?_
  obtain ⟨r1, h1, h⟩ := o_bind h
  refine p_call (d_law12_small_ok _ r1 h1) (by kernel_rfl) (by kernel_rfl) ?_
  obtain ⟨b2, h2, h⟩ := o_bind h
  refine p_run 2 (by kernel_rfl) ?_
  refine e_seg 4 12 (.bool b2) ?_ ?_
  · rcases o_cond h2 with ⟨hb, h2⟩ | ⟨hb, h2⟩
    · refine p_settle 8 hb (by kernel_rfl) (by kernel_rfl) ?_
      cases h2
      exact f_end (by kernel_rfl) (by kernel_rfl)
    refine p_settle 8 hb (by kernel_rfl) (by kernel_rfl) ?_
    refine p_run 1 (by kernel_rfl) ?_
    obtain ⟨r3, h3, h2⟩ := o_bind h2
    refine p_call (d_law12_small_ok _ r3 h3) (by kernel_rfl) (by kernel_rfl) ?_
    cases h2
    exact f_end (by kernel_rfl) (by kernel_rfl)
  refine e_nil (by kernel_rfl) ?_
  refine q_next ?_
  rcases o_cond h with ⟨hb, h⟩ | ⟨hb, h⟩
  · refine r_cond_t hb (by kernel_rfl) ?_
    refine pwp_seq (r_reg ?_)
    obtain ⟨r4, h4, h⟩ := o_bind h
    refine p_call (d_law12_alive_ok  r4 h4) (by kernel_rfl) (by kernel_rfl) ?_
    refine e_end (by kernel_rfl) ?_
    refine q_next (pwp_ret (q_seq_ret ?_))
    cases h
    exact q_ret (by kernel_rfl) (by kernel_rfl) (by kernel_rfl)
  refine r_cond_f hb (by kernel_rfl) ?_
  refine pwp_skip (q_next (pwp_seq ?_))
  refine r_regd (by kernel_rfl) (by kernel_rfl) ?_
  refine p_run 2 (by kernel_rfl) ?_
  obtain ⟨r5, h5, h⟩ := o_bind h
  refine p_call (d_route_Same_ok _ _ r5 h5) (by kernel_rfl) (by kernel_rfl) ?_
  refine p_run 2 (by kernel_rfl) ?_
  obtain ⟨r6, h6, h⟩ := o_bind h
  refine p_call (d_ref12_Same_ok _ _ r6 h6) (by kernel_rfl) (by kernel_rfl) ?_
  obtain ⟨b7, h7, h⟩ := o_bind h
  refine p_run 2 (by kernel_rfl) ?_
  refine e_seg 4 25 (.bool b7) ?_ ?_
  · rcases o_cond h7 with ⟨hb, h7⟩ | ⟨hb, h7⟩
    · refine p_settle 21 hb (by kernel_rfl) (by kernel_rfl) ?_
      refine p_run 2 (by kernel_rfl) ?_
      obtain ⟨r8, h8, h7⟩ := o_bind h7
      refine p_call (d_route_Same_ok _ _ r8 h8) (by kernel_rfl) (by kernel_rfl) ?_
      cases h7
      exact f_end (by kernel_rfl) (by kernel_rfl)
    refine p_settle 21 hb (by kernel_rfl) (by kernel_rfl) ?_
    cases h7
    exact f_end (by kernel_rfl) (by kernel_rfl)
  obtain ⟨b9, h9, h⟩ := o_bind h
  refine p_run 1 (by kernel_rfl) ?_
  refine e_seg 2 28 (.bool b9) ?_ ?_
  · rcases o_cond h9 with ⟨hb, h9⟩ | ⟨hb, h9⟩
    · refine p_settle 26 hb (by kernel_rfl) (by kernel_rfl) ?_
      obtain ⟨r10, h10, h9⟩ := o_bind h9
      refine p_call (d_law12_alive_ok  r10 h10) (by kernel_rfl) (by kernel_rfl) ?_
      cases h9
      exact f_end (by kernel_rfl) (by kernel_rfl)
    refine p_settle 26 hb (by kernel_rfl) (by kernel_rfl) ?_
    cases h9
    exact f_end (by kernel_rfl) (by kernel_rfl)
  refine e_end (by kernel_rfl) ?_
  refine q_next (pwp_ret ?_)
  cases h
  exact q_ret (by kernel_rfl) (by kernel_rfl) (by kernel_rfl)

end PM
