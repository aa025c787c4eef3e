/-
  Plain functions for the program's functions, and the proofs that the program does them. Printed by den.py.
-/
import Derived.Test.YtpiejhjhalnaaaaDoorDen0
namespace PM
open Go Go.RowKit
attribute [local irreducible] pops pwp

/-! slices.Concat[[]api.Step,api.Step] -/
noncomputable def d_slices_Concat_api_Step_0 (a0 : (List (List T_api_Step))) : (Int × Int) → Option ((Int × Int) ⊕ (Int ⊕ (List T_api_Step))) := fun (x4, x5) =>
  bif decide (x5 < ((a0.length : Nat) : Int)) then (
    onInl (α := Int) (β := ((Int × Int) ⊕ (Int ⊕ (List T_api_Step)))) (
      (ixO a0 x5).bind fun x12 =>
      bif decide ((w64 (x4 + ((x12.length : Nat) : Int))) < 0) then (
        none
      ) else (
        some (.inl (w64 (x4 + ((x12.length : Nat) : Int))))
      )
    ) fun x11 =>
    some (.inl (x11, w64 (x5 + 1)))
  ) else (
    some (.inr (.inl x4))
  )

noncomputable def d_slices_Concat_api_Step_1 (a0 : (List (List T_api_Step))) : ((List T_api_Step) × Int) → Option (((List T_api_Step) × Int) ⊕ ((List T_api_Step) ⊕ (List T_api_Step))) := fun (x16, x17) =>
  bif decide (x17 < ((a0.length : Nat) : Int)) then (
    (ixO a0 x17).bind fun x21 =>
    (appO x16 x21).bind fun x22 =>
    some (.inl (x22, w64 (x17 + 1)))
  ) else (
    some (.inr (.inl x16))
  )

noncomputable def d_slices_Concat_api_Step (a0 : (List (List T_api_Step))) : Option (List T_api_Step) :=
  onInl (α := Int) (β := (List T_api_Step)) (loopO (d_slices_Concat_api_Step_0 a0) (0, 0)) fun x9 =>
  (d_slices_Grow_api_Step ([] : (List T_api_Step)) x9).bind fun r13 =>
  onInl (α := (List T_api_Step)) (β := (List T_api_Step)) (loopO (d_slices_Concat_api_Step_1 a0) (r13, 0)) fun x20 =>
  some x20
theorem d_slices_Concat_api_Step_ok (a0 : (List (List T_api_Step))) (r : (List T_api_Step)) (h : d_slices_Concat_api_Step a0 = some r) : PCall Go.Proofs.Tryd.prog GlS 35 [Enc.pv a0] (lstOf (.own 24000) r) := by
  unfold d_slices_Concat_api_Step at h
  refine pcall_of_pwp Go.Proofs.Tryd.func35 (by rfl) rfl Go.Proofs.Tryd.ntmps35 (by rfl) rfl ?_
  refine pwp_seq ?_
  refine r_reg ?_
  refine e_end (by kernel_rfl) ?_
  refine q_next ?_
  refine pwp_seq ?_
  refine r_reg ?_
  refine e_end (by kernel_rfl) ?_
  refine q_next ?_
  refine pwp_seq ?_
  refine pwp_seq ?_
  refine r_reg ?_
  refine p_run 1 (by kernel_rfl) ?_
  refine p_len (L := (a0 : (List (List T_api_Step)))) (by kernel_rfl) ?_
  refine e_end (by kernel_rfl) ?_
  refine q_next ?_
  refine pwp_block ?_
  obtain ⟨o8, h8, h⟩ := o_inl h
  refine r_loop2 36 0 (fun (x4, x5) => ⟨[(0, lstOf .frozen (a0 : (List (List T_api_Step)))), (3, .int .i64 x4), (9, lstOf .frozen (a0 : (List (List T_api_Step)))), (10, .int .i64 ((a0.length : Nat) : Int)), (11, .int .i64 x5)], [], [], []⟩) (fun x9 => ⟨[(0, lstOf .frozen (a0 : (List (List T_api_Step)))), (3, .int .i64 x9)], [], [], []⟩) h8 (by kernel_rfl) (fun _ => by kernel_rfl) ?_ ?_
  · rintro ⟨x4, x5⟩ oh7 h7
    unfold d_slices_Concat_api_Step_0 at h7
    refine pwp_seq ?_
    refine r_reg ?_
    refine e_end (by kernel_rfl) ?_
    refine q_next ?_
    refine pwp_seq ?_
    rcases o_cond h7 with ⟨hb, h7⟩ | ⟨hb, h7⟩
    · refine r_cond_t hb (by kernel_rfl) ?_
      refine pwp_skip ?_
      refine q_next ?_
      obtain ⟨o10, h10, h7⟩ := o_inl h7
      refine r_join (o := o10) 36 (fun x11 => ⟨[(0, lstOf .frozen (a0 : (List (List T_api_Step)))), (3, .int .i64 x11), (9, lstOf .frozen (a0 : (List (List T_api_Step)))), (10, .int .i64 ((a0.length : Nat) : Int)), (11, .int .i64 x5)], [], [], []⟩) ?_ ?_
      · refine pwp_block ?_
        refine pwp_seq ?_
        refine r_reg ?_
        obtain ⟨x12, h11, h10⟩ := o_bind h10
        refine p_ix h11 (by kernel_rfl) ?_
        refine e_end (by kernel_rfl) ?_
        refine q_next ?_
        refine pwp_seq ?_
        refine r_reg ?_
        refine p_run 2 (by kernel_rfl) ?_
        refine p_len (L := (x12 : (List T_api_Step))) (by kernel_rfl) ?_
        refine e_end (by kernel_rfl) ?_
        refine q_next ?_
        refine pwp_seq ?_
        refine r_reg ?_
        refine e_end (by kernel_rfl) ?_
        refine q_next ?_
        rcases o_cond h10 with ⟨hb, h10⟩ | ⟨hb, h10⟩
        · refine r_cond_t hb (by kernel_rfl) ?_
          refine r_regE ?_
          cases h10
        · refine r_cond_f hb (by kernel_rfl) ?_
          refine pwp_skip ?_
          refine q_block ?_
          cases h10
          exact q_join (by kernel_rfl) (by kernel_rfl)
      · rintro x11 rfl
        have h7 := o_outl h7
        refine r_reg ?_
        refine e_end (by kernel_rfl) ?_
        cases h7
        exact q_lback (by kernel_rfl)
    · refine r_cond_f hb (by kernel_rfl) ?_
      refine pwp_exit ?_
      refine q_seq_exit ?_
      cases h7
      exact q_lexit (by kernel_rfl) (by kernel_rfl)
  · rintro x9 s' rfl hs
    have h := o_outl h
    refine q_block_hit ?_
    refine q_next (pwp_wkr hs ?_)
    refine pwp_seq ?_
    refine r_reg ?_
    refine p_run 1 (by kernel_rfl) ?_
    obtain ⟨r13, h12, h⟩ := o_bind h
    refine p_call (d_slices_Grow_api_Step_ok _ _ r13 h12) (by kernel_rfl) (by kernel_rfl) ?_
    refine e_end (by kernel_rfl) ?_
    refine q_next ?_
    refine pwp_seq ?_
    refine pwp_seq ?_
    refine r_reg ?_
    refine p_run 1 (by kernel_rfl) ?_
    refine p_len (L := (a0 : (List (List T_api_Step)))) (by kernel_rfl) ?_
    refine e_end (by kernel_rfl) ?_
    refine q_next ?_
    refine pwp_block ?_
    obtain ⟨o18, h18, h⟩ := o_inl h
    refine r_loop2 36 2 (fun (x16, x17) => ⟨[(6, lstOf (.own 24000) (x16 : (List T_api_Step))), (25, lstOf .frozen (a0 : (List (List T_api_Step)))), (26, .int .i64 ((a0.length : Nat) : Int)), (27, .int .i64 x17)], [], [(24000, (((x16).map cellsOf).length, 3))], []⟩) (fun x20 => ⟨[(6, lstOf (.own 24000) (x20 : (List T_api_Step)))], [], [(24000, (((x20).map cellsOf).length, 3))], []⟩) h18 (by kernel_rfl) (fun _ => by kernel_rfl) ?_ ?_
    · rintro ⟨x16, x17⟩ oh17 h17
      unfold d_slices_Concat_api_Step_1 at h17
      refine pwp_seq ?_
      refine r_reg ?_
      refine e_end (by kernel_rfl) ?_
      refine q_next ?_
      refine pwp_seq ?_
      rcases o_cond h17 with ⟨hb, h17⟩ | ⟨hb, h17⟩
      · refine r_cond_t hb (by kernel_rfl) ?_
        refine pwp_skip ?_
        refine q_next ?_
        refine pwp_seq ?_
        refine pwp_block ?_
        refine pwp_seq ?_
        refine r_reg ?_
        obtain ⟨x21, h19, h17⟩ := o_bind h17
        refine p_ix h19 (by kernel_rfl) ?_
        refine e_end (by kernel_rfl) ?_
        refine q_next ?_
        refine r_reg ?_
        refine p_run 2 (by kernel_rfl) ?_
        obtain ⟨x22, h20, h17⟩ := o_bind h17
        refine p_app (tk := 24000) h20 (by kernel_rfl) (by kernel_rfl) ?_
        refine e_end (by kernel_rfl) ?_
        refine q_block ?_
        refine q_next ?_
        refine r_reg ?_
        refine e_end (by kernel_rfl) ?_
        cases h17
        exact q_lback (by kernel_rfl)
      · refine r_cond_f hb (by kernel_rfl) ?_
        refine pwp_exit ?_
        refine q_seq_exit ?_
        cases h17
        exact q_lexit (by kernel_rfl) (by kernel_rfl)
    · rintro x20 s' rfl hs
      have h := o_outl h
      refine q_block_hit ?_
      refine q_next (pwp_wkr hs ?_)
      refine pwp_seq ?_
      refine r_reg ?_
      refine e_end (by kernel_rfl) ?_
      refine q_next ?_
      refine pwp_ret ?_
      cases h
      exact q_ret (by kernel_rfl) (by kernel_rfl) (by kernel_rfl)
theorem d_slices_Concat_api_Step_fz (a0 : (List (List T_api_Step))) (r : (List T_api_Step)) (h : d_slices_Concat_api_Step a0 = some r) : PCall Go.Proofs.Tryd.prog GlS 35 [Enc.pv a0] (Enc.pv r) :=
  (d_slices_Concat_api_Step_ok a0 r h).freeze (by kernel_rfl) (by kernel_rfl) (by kernel_rfl)

/-! rail.Need -/
noncomputable def d_rail_Need_0 (a0 : Int) (a1 : Int) (a2 : Int) : Int → Option (Int ⊕ (Unit ⊕ (Int × Bool))) := fun x2 =>
  bif decide (x2 < 10) then (
    (ixO tab_rail_passages x2).bind fun x4 =>
    bif (((decide (x4.kind_ = a0)) && (decide (x4.in_ = a1))) && (decide (x4.out_ = a2))) then (
      some (.inr (.inr (x4.need_, true)))
    ) else (
      some (.inl (w64 (x2 + 1)))
    )
  ) else (
    some (.inr (.inl ()))
  )

noncomputable def d_rail_Need (a0 : Int) (a1 : Int) (a2 : Int) : Option (Int × Bool) :=
  onInl (α := Unit) (β := (Int × Bool)) (loopO (d_rail_Need_0 a0 a1 a2) 0) fun _ =>
  some (0, false)
theorem d_rail_Need_ok (a0 : Int) (a1 : Int) (a2 : Int) (r : (Int × Bool)) (h : d_rail_Need a0 a1 a2 = some r) : PCall Go.Proofs.Tryd.prog GlS 63 [Enc.pv a0, Enc.pv a1, Enc.pv a2] (.tup [Enc.pv r.1, Enc.pv r.2]) := by
  unfold d_rail_Need at h
  refine pcall_of_pwp Go.Proofs.Tryd.func63 (by rfl) rfl Go.Proofs.Tryd.ntmps63 (by rfl) rfl ?_
  refine pwp_seq ?_
  refine r_reg ?_
  refine e_end (by kernel_rfl) ?_
  refine q_next ?_
  refine pwp_seq ?_
  refine pwp_seq ?_
  refine r_reg ?_
  refine e_end (by kernel_rfl) ?_
  refine q_next ?_
  refine pwp_block ?_
  obtain ⟨o6, h6, h⟩ := o_inl h
  refine r_loop2 33 0 (fun x2 => ⟨[(0, .int .i64 a0), (1, .int .i64 a1), (2, .int .i64 a2), (10, .agg (tab_rail_passages.flatMap cellsOf)), (11, .int .i64 x2)], [], [], []⟩) (fun (_ : Unit) => ⟨[], [], [], []⟩) h6 (by kernel_rfl) (fun _ => by kernel_rfl) ?_ ?_
  · rintro x2 oh5 h5
    unfold d_rail_Need_0 at h5
    refine pwp_seq ?_
    refine r_reg ?_
    refine e_end (by kernel_rfl) ?_
    refine q_next ?_
    refine pwp_seq ?_
    rcases o_cond h5 with ⟨hb, h5⟩ | ⟨hb, h5⟩
    · refine r_cond_t hb (by kernel_rfl) ?_
      refine pwp_skip ?_
      refine q_next ?_
      refine pwp_seq ?_
      refine pwp_block ?_
      refine pwp_seq ?_
      refine r_reg ?_
      obtain ⟨x4, h7, h5⟩ := o_bind h5
      refine p_tix (tab := tab_rail_passages) h7 true 10 4 (by kernel_rfl) (by kernel_rfl) (by kernel_rfl) (by kernel_rfl) ?_
      refine e_end (by kernel_rfl) ?_
      refine q_next ?_
      refine pwp_seq ?_
      refine r_reg ?_
      refine p_run 5 (by kernel_rfl) ?_
      refine e_segb 5 23 ((decide (x4.kind_ = a0)) && (decide (x4.in_ = a1))) (fun x hx => ?_) ?_
      · rcases b_and hx with ⟨hb, hx⟩ | ⟨hb, hx⟩
        · refine p_settle 18 hb (by kernel_rfl) (by kernel_rfl) ?_
          subst hx
          exact f_end (by kernel_rfl) (by kernel_rfl)
        · refine p_settle 18 hb (by kernel_rfl) (by kernel_rfl) ?_
          subst hx
          exact f_end (by kernel_rfl) (by kernel_rfl)
      · refine p_run 1 (by kernel_rfl) ?_
        refine e_segb 5 29 (((decide (x4.kind_ = a0)) && (decide (x4.in_ = a1))) && (decide (x4.out_ = a2))) (fun x hx => ?_) ?_
        · rcases b_and hx with ⟨hb, hx⟩ | ⟨hb, hx⟩
          · refine p_settle 24 hb (by kernel_rfl) (by kernel_rfl) ?_
            subst hx
            exact f_end (by kernel_rfl) (by kernel_rfl)
          · refine p_settle 24 hb (by kernel_rfl) (by kernel_rfl) ?_
            subst hx
            exact f_end (by kernel_rfl) (by kernel_rfl)
        · refine e_nil (by kernel_rfl) ?_
          refine q_next ?_
          rcases o_cond h5 with ⟨hb, h5⟩ | ⟨hb, h5⟩
          · refine r_cond_t hb (by kernel_rfl) ?_
            refine pwp_seq ?_
            refine r_reg ?_
            refine e_end (by kernel_rfl) ?_
            refine q_next ?_
            refine pwp_ret ?_
            refine q_block_ret ?_
            refine q_seq_ret ?_
            cases h5
            refine q_lout_ret fun he => ?_
            subst he
            have h8 := o_outr h
            refine q_block_ret ?_
            refine q_seq_ret ?_
            cases h8
            exact q_ret (by kernel_rfl) (by kernel_rfl) (by kernel_rfl)
          · refine r_cond_f hb (by kernel_rfl) ?_
            refine pwp_skip ?_
            refine q_block ?_
            refine q_next ?_
            refine r_reg ?_
            refine e_end (by kernel_rfl) ?_
            cases h5
            exact q_lback (by kernel_rfl)
    · refine r_cond_f hb (by kernel_rfl) ?_
      refine pwp_exit ?_
      refine q_seq_exit ?_
      cases h5
      exact q_lexit (by kernel_rfl) (by kernel_rfl)
  · rintro _ s' rfl hs
    have h := o_outl h
    refine q_block_hit ?_
    refine q_next (pwp_wkr hs ?_)
    refine pwp_seq ?_
    refine r_reg ?_
    refine e_end (by kernel_rfl) ?_
    refine q_next ?_
    refine pwp_ret ?_
    cases h
    exact q_ret (by kernel_rfl) (by kernel_rfl) (by kernel_rfl)

/-! rail.Sides -/
noncomputable def d_rail_Sides (a0 : Int) : Option Int :=
  bif ((decide (a0 < 0)) || (decide (4 ≤ a0))) then (
    some 0
  ) else (
    (ixO tab_rail_sides a0).bind fun x1 =>
    some x1
  )
theorem d_rail_Sides_ok (a0 : Int) (r : Int) (h : d_rail_Sides a0 = some r) : PCall Go.Proofs.Tryd.prog GlS 64 [Enc.pv a0] (Enc.pv r) := by
  unfold d_rail_Sides at h
  refine pcall_of_pwp Go.Proofs.Tryd.func64 (by rfl) rfl Go.Proofs.Tryd.ntmps64 (by rfl) rfl ?_
  refine pwp_seq ?_
  refine r_reg ?_
  refine e_end (by kernel_rfl) ?_
  refine q_next ?_
  refine pwp_seq ?_
  refine pwp_seq ?_
  refine r_reg ?_
  refine p_run 3 (by kernel_rfl) ?_
  refine e_segb 3 8 ((decide (a0 < 0)) || (decide (4 ≤ a0))) (fun x hx => ?_) ?_
  · rcases b_or hx with ⟨hb, hx⟩ | ⟨hb, hx⟩
    · refine p_settle 5 hb (by kernel_rfl) (by kernel_rfl) ?_
      subst hx
      exact f_end (by kernel_rfl) (by kernel_rfl)
    · refine p_settle 5 hb (by kernel_rfl) (by kernel_rfl) ?_
      subst hx
      exact f_end (by kernel_rfl) (by kernel_rfl)
  · refine e_nil (by kernel_rfl) ?_
    refine q_next ?_
    rcases o_cond h with ⟨hb, h⟩ | ⟨hb, h⟩
    · refine r_cond_t hb (by kernel_rfl) ?_
      refine pwp_seq ?_
      refine r_reg ?_
      refine e_end (by kernel_rfl) ?_
      refine q_next ?_
      refine pwp_ret ?_
      refine q_seq_ret ?_
      cases h
      exact q_ret (by kernel_rfl) (by kernel_rfl) (by kernel_rfl)
    · refine r_cond_f hb (by kernel_rfl) ?_
      refine pwp_skip ?_
      refine q_next ?_
      refine pwp_seq ?_
      refine r_reg ?_
      refine p_run 1 (by kernel_rfl) ?_
      obtain ⟨x1, h1, h⟩ := o_bind h
      refine p_gix h1 1 4 1 (by kernel_rfl) (by kernel_rfl) ?_
      refine p_gload (tab := tab_rail_sides) h1 false 1 (by kernel_rfl) (by kernel_rfl) (by kernel_rfl) ?_
      refine e_end (by kernel_rfl) ?_
      refine q_next ?_
      refine pwp_ret ?_
      cases h
      exact q_ret (by kernel_rfl) (by kernel_rfl) (by kernel_rfl)

/-! flank.beside -/
noncomputable def d_flank_beside_0 (a1 : T_api_Step) (r4 : Int) : (Int × (List T_api_End)) → Option ((Int × (List T_api_End)) ⊕ ((List T_api_End) ⊕ (List T_api_End))) := fun (x12, x13) =>
  bif decide (x12 < r4) then (
    onInl (α := (List T_api_End)) (β := ((Int × (List T_api_End)) ⊕ ((List T_api_End) ⊕ (List T_api_End)))) (
      bif ((!(decide (x12 = a1.In))) && (!(decide (x12 = a1.Out)))) then (
        (appO x13 [(T_api_End.mk a1.El x12)]).bind fun x20 =>
        some (.inl x20)
      ) else (
        some (.inl x13)
      )
    ) fun x19 =>
    some (.inl (w64 (x12 + 1), x19))
  ) else (
    some (.inr (.inl x13))
  )

noncomputable def d_flank_beside (a0 : T_api_Layout) (a1 : T_api_Step) : Option (List T_api_End) :=
  ((bif decide (a1.El < 0) then some true else (
    some (decide (((a0.Elements.length : Nat) : Int) ≤ a1.El))
  )) : Option Bool).bind fun b1 =>
  bif b1 then (
    some ([] : (List T_api_End))
  ) else (
    (ixO a0.Elements a1.El).bind fun x2 =>
    (d_rail_Need x2.Kind a1.In a1.Out).bind fun r3 =>
    bif (!r3.2) then (
      some ([] : (List T_api_End))
    ) else (
      (d_rail_Sides x2.Kind).bind fun r4 =>
      onInl (α := (List T_api_End)) (β := (List T_api_End)) (loopO (d_flank_beside_0 a1 r4) (0, ([] : (List T_api_End)))) fun x17 =>
      some x17
    )
  )
theorem d_flank_beside_ok (a0 : T_api_Layout) (a1 : T_api_Step) (r : (List T_api_End)) (h : d_flank_beside a0 a1 = some r) : PCall Go.Proofs.Tryd.prog GlS 36 [Enc.pv a0, Enc.pv a1] (lstOf (.own 100008) r) := by
  unfold d_flank_beside at h
  refine pcall_of_pwp Go.Proofs.Tryd.func36 (by rfl) rfl Go.Proofs.Tryd.ntmps36 (by rfl) rfl ?_
  refine pwp_seq ?_
  refine r_reg ?_
  refine e_end (by kernel_rfl) ?_
  refine q_next ?_
  refine pwp_seq ?_
  refine pwp_seq ?_
  refine r_reg ?_
  obtain ⟨b1, h1, h⟩ := o_bind h
  refine p_run 4 (by kernel_rfl) ?_
  refine e_seg 7 20 (.bool b1) ?_ ?_
  · rcases o_cond h1 with ⟨hb, h1⟩ | ⟨hb, h1⟩
    · refine p_settle 13 hb (by kernel_rfl) (by kernel_rfl) ?_
      cases h1
      exact f_end (by kernel_rfl) (by kernel_rfl)
    · refine p_settle 13 hb (by kernel_rfl) (by kernel_rfl) ?_
      refine p_run 4 (by kernel_rfl) ?_
      refine p_len (L := (a0.Elements : (List T_api_Element))) (by kernel_rfl) ?_
      cases h1
      exact f_end (by kernel_rfl) (by kernel_rfl)
  · refine e_nil (by kernel_rfl) ?_
    refine q_next ?_
    rcases o_cond h with ⟨hb, h⟩ | ⟨hb, h⟩
    · refine r_cond_t hb (by kernel_rfl) ?_
      refine pwp_seq ?_
      refine r_reg ?_
      refine e_end (by kernel_rfl) ?_
      refine q_next ?_
      refine g_nil 4 100008 2 16 (by kernel_rfl) (by kernel_rfl) ?_
      refine pwp_ret ?_
      refine q_seq_ret ?_
      cases h
      exact q_ret (by kernel_rfl) (by kernel_rfl) (by kernel_rfl)
    · refine r_cond_f hb (by kernel_rfl) ?_
      refine pwp_skip ?_
      refine q_next ?_
      refine pwp_seq ?_
      refine r_reg ?_
      refine p_run 4 (by kernel_rfl) ?_
      obtain ⟨x2, h2, h⟩ := o_bind h
      refine p_ix h2 (by kernel_rfl) ?_
      refine e_end (by kernel_rfl) ?_
      refine q_next ?_
      refine pwp_seq ?_
      refine pwp_seq ?_
      refine r_reg ?_
      refine p_run 5 (by kernel_rfl) ?_
      obtain ⟨r3, h3, h⟩ := o_bind h
      refine p_call (d_rail_Need_ok _ _ _ r3 h3) (by kernel_rfl) (by kernel_rfl) ?_
      refine e_end (by kernel_rfl) ?_
      refine q_next ?_
      refine pwp_seq ?_
      refine r_reg ?_
      refine e_end (by kernel_rfl) ?_
      refine q_next ?_
      rcases o_cond h with ⟨hb, h⟩ | ⟨hb, h⟩
      · refine r_cond_t hb (by kernel_rfl) ?_
        refine pwp_seq ?_
        refine r_reg ?_
        refine e_end (by kernel_rfl) ?_
        refine q_next ?_
        refine g_nil 4 100008 2 16 (by kernel_rfl) (by kernel_rfl) ?_
        refine pwp_ret ?_
        refine q_seq_ret ?_
        cases h
        exact q_ret (by kernel_rfl) (by kernel_rfl) (by kernel_rfl)
      · refine r_cond_f hb (by kernel_rfl) ?_
        refine pwp_skip ?_
        refine q_next ?_
        refine pwp_seq ?_
        refine r_reg ?_
        refine e_end (by kernel_rfl) ?_
        refine q_next ?_
        refine pwp_seq ?_
        refine pwp_seq ?_
        refine r_reg ?_
        refine p_run 1 (by kernel_rfl) ?_
        obtain ⟨r4, h4, h⟩ := o_bind h
        refine p_call (d_rail_Sides_ok _ r4 h4) (by kernel_rfl) (by kernel_rfl) ?_
        refine e_end (by kernel_rfl) ?_
        refine q_next ?_
        refine pwp_block ?_
        refine g_nil 8 100008 2 16 (by kernel_rfl) (by kernel_rfl) ?_
        obtain ⟨o15, h15, h⟩ := o_inl h
        refine r_loop2 63 0 (fun (x12, x13) => ⟨[(3, .ref 3 0), (8, lstOf (.own 100008) (x13 : (List T_api_End))), (40, .int .i64 r4), (41, .int .i64 x12)], [(3, .cells (cellsOf a1))], [(100008, (((x13).map cellsOf).length, 2))], []⟩) (fun x17 => ⟨[(8, lstOf (.own 100008) (x17 : (List T_api_End)))], [], [(100008, (((x17).map cellsOf).length, 2))], []⟩) h15 (by kernel_rfl) (fun _ => by kernel_rfl) ?_ ?_
        · rintro ⟨x12, x13⟩ oh14 h14
          unfold d_flank_beside_0 at h14
          refine pwp_seq ?_
          refine r_reg ?_
          refine e_end (by kernel_rfl) ?_
          refine q_next ?_
          refine pwp_seq ?_
          rcases o_cond h14 with ⟨hb, h14⟩ | ⟨hb, h14⟩
          · refine r_cond_t hb (by kernel_rfl) ?_
            refine pwp_skip ?_
            refine q_next ?_
            obtain ⟨o17, h17, h14⟩ := o_inl h14
            refine r_join (o := o17) 63 (fun x19 => ⟨[(3, .ref 3 0), (8, lstOf (.own 100008) (x19 : (List T_api_End))), (40, .int .i64 r4), (41, .int .i64 x12)], [(3, .cells (cellsOf a1))], [(100008, (((x19).map cellsOf).length, 2))], []⟩) ?_ ?_
            · refine pwp_block ?_
              refine pwp_seq ?_
              refine r_reg ?_
              refine e_end (by kernel_rfl) ?_
              refine q_next ?_
              refine pwp_seq ?_
              refine r_reg ?_
              refine p_run 5 (by kernel_rfl) ?_
              refine e_segb 5 53 ((!(decide (x12 = a1.In))) && (!(decide (x12 = a1.Out)))) (fun x hx => ?_) ?_
              · rcases b_and hx with ⟨hb, hx⟩ | ⟨hb, hx⟩
                · refine p_settle 48 hb (by kernel_rfl) (by kernel_rfl) ?_
                  subst hx
                  exact f_end (by kernel_rfl) (by kernel_rfl)
                · refine p_settle 48 hb (by kernel_rfl) (by kernel_rfl) ?_
                  subst hx
                  exact f_end (by kernel_rfl) (by kernel_rfl)
              · refine e_nil (by kernel_rfl) ?_
                refine q_next ?_
                rcases o_cond h17 with ⟨hb, h17⟩ | ⟨hb, h17⟩
                · refine r_cond_t hb (by kernel_rfl) ?_
                  refine r_reg ?_
                  refine p_run 6 (by kernel_rfl) ?_
                  obtain ⟨x20, h18, h17⟩ := o_bind h17
                  refine p_app (tk := 100008) h18 (by kernel_rfl) (by kernel_rfl) ?_
                  refine e_end (by kernel_rfl) ?_
                  refine q_block ?_
                  cases h17
                  exact q_join (by kernel_rfl) (by kernel_rfl)
                · refine r_cond_f hb (by kernel_rfl) ?_
                  refine pwp_skip ?_
                  refine q_block ?_
                  cases h17
                  exact q_join (by kernel_rfl) (by kernel_rfl)
            · rintro x19 rfl
              have h14 := o_outl h14
              refine r_reg ?_
              refine e_end (by kernel_rfl) ?_
              cases h14
              exact q_lback (by kernel_rfl)
          · refine r_cond_f hb (by kernel_rfl) ?_
            refine pwp_exit ?_
            refine q_seq_exit ?_
            cases h14
            exact q_lexit (by kernel_rfl) (by kernel_rfl)
        · rintro x17 s' rfl hs
          have h := o_outl h
          refine q_block_hit ?_
          refine q_next (pwp_wkr hs ?_)
          refine pwp_seq ?_
          refine r_reg ?_
          refine e_end (by kernel_rfl) ?_
          refine q_next ?_
          refine pwp_ret ?_
          cases h
          exact q_ret (by kernel_rfl) (by kernel_rfl) (by kernel_rfl)
theorem d_flank_beside_fz (a0 : T_api_Layout) (a1 : T_api_Step) (r : (List T_api_End)) (h : d_flank_beside a0 a1 = some r) : PCall Go.Proofs.Tryd.prog GlS 36 [Enc.pv a0, Enc.pv a1] (Enc.pv r) :=
  (d_flank_beside_ok a0 a1 r h).freeze (by kernel_rfl) (by kernel_rfl) (by kernel_rfl)

/-! layout.Joined -/
noncomputable def d_layout_Joined_0 (a0 : T_api_Layout) (a1 : T_api_End) : Int → Option (Int ⊕ (Unit ⊕ (T_api_End × Bool))) := fun x2 =>
  bif decide (x2 < ((a0.Joints.length : Nat) : Int)) then (
    (ixO a0.Joints x2).bind fun x4 =>
    bif eq_T_api_End x4.A a1 then (
      some (.inr (.inr (x4.B, true)))
    ) else (
      bif eq_T_api_End x4.B a1 then (
        some (.inr (.inr (x4.A, true)))
      ) else (
        some (.inl (w64 (x2 + 1)))
      )
    )
  ) else (
    some (.inr (.inl ()))
  )

noncomputable def d_layout_Joined (a0 : T_api_Layout) (a1 : T_api_End) : Option (T_api_End × Bool) :=
  onInl (α := Unit) (β := (T_api_End × Bool)) (loopO (d_layout_Joined_0 a0 a1) 0) fun _ =>
  some ((T_api_End.mk 0 0), false)
theorem d_layout_Joined_ok (a0 : T_api_Layout) (a1 : T_api_End) (r : (T_api_End × Bool)) (h : d_layout_Joined a0 a1 = some r) : PCall Go.Proofs.Tryd.prog GlS 55 [Enc.pv a0, Enc.pv a1] (.tup [Enc.pv r.1, Enc.pv r.2]) := by
  unfold d_layout_Joined at h
  refine pcall_of_pwp Go.Proofs.Tryd.func55 (by rfl) rfl Go.Proofs.Tryd.ntmps55 (by rfl) rfl ?_
  refine pwp_seq ?_
  refine r_reg ?_
  refine e_end (by kernel_rfl) ?_
  refine q_next ?_
  refine pwp_seq ?_
  refine pwp_seq ?_
  refine r_reg ?_
  refine p_run 2 (by kernel_rfl) ?_
  refine p_len (L := (a0.Joints : (List T_api_Joint))) (by kernel_rfl) ?_
  refine e_end (by kernel_rfl) ?_
  refine q_next ?_
  refine pwp_block ?_
  obtain ⟨o8, h8, h⟩ := o_inl h
  refine r_loop2 29 0 (fun x2 => ⟨[(3, .ref 3 0), (4, .ref 4 0), (9, lstOf .frozen (a0.Joints : (List T_api_Joint))), (10, .int .i64 ((a0.Joints.length : Nat) : Int)), (11, .int .i64 x2)], [(3, .cells (cellsOf a1)), (4, .cells ([.int .i64 0, .int .i64 0]))], [], []⟩) (fun (_ : Unit) => ⟨[(4, .ref 4 0)], [(4, .cells ([.int .i64 0, .int .i64 0]))], [], []⟩) h8 (by kernel_rfl) (fun _ => by kernel_rfl) ?_ ?_
  · rintro x2 oh7 h7
    unfold d_layout_Joined_0 at h7
    refine pwp_seq ?_
    refine r_reg ?_
    refine e_end (by kernel_rfl) ?_
    refine q_next ?_
    refine pwp_seq ?_
    rcases o_cond h7 with ⟨hb, h7⟩ | ⟨hb, h7⟩
    · refine r_cond_t hb (by kernel_rfl) ?_
      refine pwp_skip ?_
      refine q_next ?_
      refine pwp_seq ?_
      refine pwp_block ?_
      refine pwp_seq ?_
      refine r_reg ?_
      obtain ⟨x4, h9, h7⟩ := o_bind h7
      refine p_ix h9 (by kernel_rfl) ?_
      refine e_end (by kernel_rfl) ?_
      refine q_next ?_
      refine pwp_seq ?_
      refine pwp_seq ?_
      refine r_reg ?_
      refine e_end (by kernel_rfl) ?_
      refine q_next ?_
      rcases o_cond h7 with ⟨hb, h7⟩ | ⟨hb, h7⟩
      · refine r_cond_t hb (by kernel_rfl) ?_
        refine pwp_seq ?_
        refine r_reg ?_
        refine e_end (by kernel_rfl) ?_
        refine q_next ?_
        refine pwp_ret ?_
        refine q_seq_ret ?_
        refine q_block_ret ?_
        refine q_seq_ret ?_
        cases h7
        refine q_lout_ret fun he => ?_
        subst he
        have h10 := o_outr h
        refine q_block_ret ?_
        refine q_seq_ret ?_
        cases h10
        exact q_ret (by kernel_rfl) (by kernel_rfl) (by kernel_rfl)
      · refine r_cond_f hb (by kernel_rfl) ?_
        refine pwp_skip ?_
        refine q_next ?_
        refine pwp_seq ?_
        refine r_reg ?_
        refine e_end (by kernel_rfl) ?_
        refine q_next ?_
        rcases o_cond h7 with ⟨hb, h7⟩ | ⟨hb, h7⟩
        · refine r_cond_t hb (by kernel_rfl) ?_
          refine pwp_seq ?_
          refine r_reg ?_
          refine e_end (by kernel_rfl) ?_
          refine q_next ?_
          refine pwp_ret ?_
          refine q_block_ret ?_
          refine q_seq_ret ?_
          cases h7
          refine q_lout_ret fun he => ?_
          subst he
          have h11 := o_outr h
          refine q_block_ret ?_
          refine q_seq_ret ?_
          cases h11
          exact q_ret (by kernel_rfl) (by kernel_rfl) (by kernel_rfl)
        · refine r_cond_f hb (by kernel_rfl) ?_
          refine pwp_skip ?_
          refine q_block ?_
          refine q_next ?_
          refine r_reg ?_
          refine e_end (by kernel_rfl) ?_
          cases h7
          exact q_lback (by kernel_rfl)
    · refine r_cond_f hb (by kernel_rfl) ?_
      refine pwp_exit ?_
      refine q_seq_exit ?_
      cases h7
      exact q_lexit (by kernel_rfl) (by kernel_rfl)
  · rintro _ s' rfl hs
    have h := o_outl h
    refine q_block_hit ?_
    refine q_next (pwp_wkr hs ?_)
    refine pwp_seq ?_
    refine r_reg ?_
    refine e_end (by kernel_rfl) ?_
    refine q_next ?_
    refine pwp_ret ?_
    cases h
    exact q_ret (by kernel_rfl) (by kernel_rfl) (by kernel_rfl)

/-! layout.Signal -/
noncomputable def d_layout_Signal_0 (a0 : T_api_Layout) (a1 : T_api_End) : Int → Option (Int ⊕ (Unit ⊕ Int)) := fun x2 =>
  bif decide (x2 < ((a0.Signals.length : Nat) : Int)) then (
    (ixO a0.Signals x2).bind fun x4 =>
    bif eq_T_api_End x4.At a1 then (
      some (.inr (.inr x2))
    ) else (
      some (.inl (w64 (x2 + 1)))
    )
  ) else (
    some (.inr (.inl ()))
  )

noncomputable def d_layout_Signal (a0 : T_api_Layout) (a1 : T_api_End) : Option Int :=
  onInl (α := Unit) (β := Int) (loopO (d_layout_Signal_0 a0 a1) 0) fun _ =>
  some (-1)
theorem d_layout_Signal_ok (a0 : T_api_Layout) (a1 : T_api_End) (r : Int) (h : d_layout_Signal a0 a1 = some r) : PCall Go.Proofs.Tryd.prog GlS 56 [Enc.pv a0, Enc.pv a1] (Enc.pv r) := by
  unfold d_layout_Signal at h
  refine pcall_of_pwp Go.Proofs.Tryd.func56 (by rfl) rfl Go.Proofs.Tryd.ntmps56 (by rfl) rfl ?_
  refine pwp_seq ?_
  refine r_reg ?_
  refine e_end (by kernel_rfl) ?_
  refine q_next ?_
  refine pwp_seq ?_
  refine pwp_seq ?_
  refine r_reg ?_
  refine p_run 2 (by kernel_rfl) ?_
  refine p_len (L := (a0.Signals : (List T_api_Signal))) (by kernel_rfl) ?_
  refine e_end (by kernel_rfl) ?_
  refine q_next ?_
  refine pwp_block ?_
  obtain ⟨o6, h6, h⟩ := o_inl h
  refine r_loop2 21 0 (fun x2 => ⟨[(3, .ref 3 0), (8, lstOf .frozen (a0.Signals : (List T_api_Signal))), (9, .int .i64 ((a0.Signals.length : Nat) : Int)), (10, .int .i64 x2)], [(3, .cells (cellsOf a1))], [], []⟩) (fun (_ : Unit) => ⟨[], [], [], []⟩) h6 (by kernel_rfl) (fun _ => by kernel_rfl) ?_ ?_
  · rintro x2 oh5 h5
    unfold d_layout_Signal_0 at h5
    refine pwp_seq ?_
    refine r_reg ?_
    refine e_end (by kernel_rfl) ?_
    refine q_next ?_
    refine pwp_seq ?_
    rcases o_cond h5 with ⟨hb, h5⟩ | ⟨hb, h5⟩
    · refine r_cond_t hb (by kernel_rfl) ?_
      refine pwp_skip ?_
      refine q_next ?_
      refine pwp_seq ?_
      refine pwp_block ?_
      refine pwp_seq ?_
      refine r_reg ?_
      refine p_run 1 (by kernel_rfl) ?_
      obtain ⟨x4, h7, h5⟩ := o_bind h5
      refine p_ix h7 (by kernel_rfl) ?_
      refine e_end (by kernel_rfl) ?_
      refine q_next ?_
      refine pwp_seq ?_
      refine r_reg ?_
      refine e_end (by kernel_rfl) ?_
      refine q_next ?_
      rcases o_cond h5 with ⟨hb, h5⟩ | ⟨hb, h5⟩
      · refine r_cond_t hb (by kernel_rfl) ?_
        refine pwp_seq ?_
        refine r_reg ?_
        refine e_end (by kernel_rfl) ?_
        refine q_next ?_
        refine pwp_ret ?_
        refine q_block_ret ?_
        refine q_seq_ret ?_
        cases h5
        refine q_lout_ret fun he => ?_
        subst he
        have h8 := o_outr h
        refine q_block_ret ?_
        refine q_seq_ret ?_
        cases h8
        exact q_ret (by kernel_rfl) (by kernel_rfl) (by kernel_rfl)
      · refine r_cond_f hb (by kernel_rfl) ?_
        refine pwp_skip ?_
        refine q_block ?_
        refine q_next ?_
        refine r_reg ?_
        refine e_end (by kernel_rfl) ?_
        cases h5
        exact q_lback (by kernel_rfl)
    · refine r_cond_f hb (by kernel_rfl) ?_
      refine pwp_exit ?_
      refine q_seq_exit ?_
      cases h5
      exact q_lexit (by kernel_rfl) (by kernel_rfl)
  · rintro _ s' rfl hs
    have h := o_outl h
    refine q_block_hit ?_
    refine q_next (pwp_wkr hs ?_)
    refine pwp_seq ?_
    refine r_reg ?_
    refine e_end (by kernel_rfl) ?_
    refine q_next ?_
    refine pwp_ret ?_
    cases h
    exact q_ret (by kernel_rfl) (by kernel_rfl) (by kernel_rfl)

/-! flank.passes$1 -/
noncomputable def d_flank_passes_c1 (a0 : T_api_Step) (c0 : Int) : Option Bool :=
  some (decide (a0.El = c0))
theorem d_flank_passes_c1_ok (a0 : T_api_Step) (c0 : Int) (r : Bool) (h : d_flank_passes_c1 a0 c0 = some r) : PCall Go.Proofs.Tryd.prog GlS 80 [Enc.pv a0, .cptr (cellsOf c0)] (Enc.pv r) := by
  unfold d_flank_passes_c1 at h
  refine pcall_of_pwp Go.Proofs.Tryd.func80 (by rfl) rfl Go.Proofs.Tryd.ntmps80 (by rfl) rfl ?_
  refine pwp_seq ?_
  refine r_reg ?_
  refine e_end (by kernel_rfl) ?_
  refine q_next ?_
  refine pwp_seq ?_
  refine r_reg ?_
  refine e_end (by kernel_rfl) ?_
  refine q_next ?_
  refine pwp_ret ?_
  cases h
  exact q_ret (by kernel_rfl) (by kernel_rfl) (by kernel_rfl)

/-! slices.IndexFunc[[]api.Step,api.Step] -/
noncomputable def d_slices_IndexFunc_api_Step_0 (a0 : (List T_api_Step)) (a1_0 : Int) : Int → Option (Int ⊕ (Unit ⊕ Int)) := fun x3 =>
  bif decide (x3 < ((a0.length : Nat) : Int)) then (
    (ixO a0 x3).bind fun x6 =>
    (d_flank_passes_c1 x6 a1_0).bind fun r7 =>
    bif r7 then (
      some (.inr (.inr x3))
    ) else (
      some (.inl (w64 (x3 + 1)))
    )
  ) else (
    some (.inr (.inl ()))
  )

noncomputable def d_slices_IndexFunc_api_Step__flank_passes_c1 (a0 : (List T_api_Step)) (a1_0 : Int) : Option Int :=
  onInl (α := Unit) (β := Int) (loopO (d_slices_IndexFunc_api_Step_0 a0 a1_0) 0) fun _ =>
  some (-1)
theorem d_slices_IndexFunc_api_Step__flank_passes_c1_ok (a0 : (List T_api_Step)) (a1_0 : Int) (r : Int) (h : d_slices_IndexFunc_api_Step__flank_passes_c1 a0 a1_0 = some r) : PCall Go.Proofs.Tryd.prog GlS 103 [Enc.pv a0, .fn 80 [.cptr ([.int .i64 a1_0])]] (Enc.pv r) := by
  unfold d_slices_IndexFunc_api_Step__flank_passes_c1 at h
  refine pcall_of_pwp Go.Proofs.Tryd.func103 (by rfl) rfl Go.Proofs.Tryd.ntmps103 (by rfl) rfl ?_
  refine pwp_seq ?_
  refine r_reg ?_
  refine e_end (by kernel_rfl) ?_
  refine q_next ?_
  refine pwp_seq ?_
  refine pwp_seq ?_
  refine r_reg ?_
  refine p_run 1 (by kernel_rfl) ?_
  refine p_len (L := (a0 : (List T_api_Step))) (by kernel_rfl) ?_
  refine e_end (by kernel_rfl) ?_
  refine q_next ?_
  refine pwp_block ?_
  obtain ⟨o8, h8, h⟩ := o_inl h
  refine r_loop2 19 0 (fun x3 => ⟨[(0, lstOf .frozen (a0 : (List T_api_Step))), (1, .fn 80 [.cptr ([.int .i64 a1_0])]), (7, .int .i64 ((a0.length : Nat) : Int)), (8, .int .i64 x3)], [], [], []⟩) (fun (_ : Unit) => ⟨[], [], [], []⟩) h8 (by kernel_rfl) (fun _ => by kernel_rfl) ?_ ?_
  · rintro x3 oh7 h7
    unfold d_slices_IndexFunc_api_Step_0 at h7
    refine pwp_seq ?_
    refine r_reg ?_
    refine e_end (by kernel_rfl) ?_
    refine q_next ?_
    refine pwp_seq ?_
    rcases o_cond h7 with ⟨hb, h7⟩ | ⟨hb, h7⟩
    · refine r_cond_t hb (by kernel_rfl) ?_
      refine pwp_skip ?_
      refine q_next ?_
      refine pwp_seq ?_
      refine pwp_block ?_
      refine pwp_seq ?_
      refine r_reg ?_
      refine e_end (by kernel_rfl) ?_
      refine q_next ?_
      refine pwp_seq ?_
      refine r_reg ?_
      refine p_run 3 (by kernel_rfl) ?_
      obtain ⟨x6, h9, h7⟩ := o_bind h7
      refine p_ix h9 (by kernel_rfl) ?_
      refine p_run 1 (by kernel_rfl) ?_
      obtain ⟨r7, h10, h7⟩ := o_bind h7
      refine p_call (d_flank_passes_c1_ok _ _ r7 h10) (by kernel_rfl) (by kernel_rfl) ?_
      refine e_nil (by kernel_rfl) ?_
      refine q_next ?_
      rcases o_cond h7 with ⟨hb, h7⟩ | ⟨hb, h7⟩
      · refine r_cond_t hb (by kernel_rfl) ?_
        refine pwp_seq ?_
        refine r_reg ?_
        refine e_end (by kernel_rfl) ?_
        refine q_next ?_
        refine pwp_ret ?_
        refine q_block_ret ?_
        refine q_seq_ret ?_
        cases h7
        refine q_lout_ret fun he => ?_
        subst he
        have h11 := o_outr h
        refine q_block_ret ?_
        refine q_seq_ret ?_
        cases h11
        exact q_ret (by kernel_rfl) (by kernel_rfl) (by kernel_rfl)
      · refine r_cond_f hb (by kernel_rfl) ?_
        refine pwp_skip ?_
        refine q_block ?_
        refine q_next ?_
        refine r_reg ?_
        refine e_end (by kernel_rfl) ?_
        cases h7
        exact q_lback (by kernel_rfl)
    · refine r_cond_f hb (by kernel_rfl) ?_
      refine pwp_exit ?_
      refine q_seq_exit ?_
      cases h7
      exact q_lexit (by kernel_rfl) (by kernel_rfl)
  · rintro _ s' rfl hs
    have h := o_outl h
    refine q_block_hit ?_
    refine q_next (pwp_wkr hs ?_)
    refine pwp_seq ?_
    refine r_reg ?_
    refine e_end (by kernel_rfl) ?_
    refine q_next ?_
    refine pwp_ret ?_
    cases h
    exact q_ret (by kernel_rfl) (by kernel_rfl) (by kernel_rfl)

/-! slices.ContainsFunc[[]api.Step,api.Step] -/
noncomputable def d_slices_ContainsFunc_api_Step__flank_passes_c1 (a0 : (List T_api_Step)) (a1_0 : Int) : Option Bool :=
  (d_slices_IndexFunc_api_Step__flank_passes_c1 a0 a1_0).bind fun r1 =>
  some (decide (0 ≤ r1))
theorem d_slices_ContainsFunc_api_Step__flank_passes_c1_ok (a0 : (List T_api_Step)) (a1_0 : Int) (r : Bool) (h : d_slices_ContainsFunc_api_Step__flank_passes_c1 a0 a1_0 = some r) : PCall Go.Proofs.Tryd.prog GlS 81 [Enc.pv a0, .fn 80 [.cptr ([.int .i64 a1_0])]] (Enc.pv r) := by
  unfold d_slices_ContainsFunc_api_Step__flank_passes_c1 at h
  refine pcall_of_pwp Go.Proofs.Tryd.func81 (by rfl) rfl Go.Proofs.Tryd.ntmps81 (by rfl) rfl ?_
  refine pwp_seq ?_
  refine r_reg ?_
  refine e_end (by kernel_rfl) ?_
  refine q_next ?_
  refine pwp_seq ?_
  refine r_reg ?_
  refine p_run 2 (by kernel_rfl) ?_
  obtain ⟨r1, h1, h⟩ := o_bind h
  refine p_call (d_slices_IndexFunc_api_Step__flank_passes_c1_ok _ _ r1 h1) (by kernel_rfl) (by kernel_rfl) ?_
  refine e_end (by kernel_rfl) ?_
  refine q_next ?_
  refine pwp_ret ?_
  cases h
  exact q_ret (by kernel_rfl) (by kernel_rfl) (by kernel_rfl)

/-! flank.passes -/
noncomputable def d_flank_passes (a0 : T_api_Route) (a1 : Int) : Option Bool :=
  (d_slices_ContainsFunc_api_Step__flank_passes_c1 a0.Path a1).bind fun r1 =>
  ((bif r1 then some true else (
    (d_slices_ContainsFunc_api_Step__flank_passes_c1 a0.Over a1).bind fun r3 =>
    some r3
  )) : Option Bool).bind fun b2 =>
  some b2
theorem d_flank_passes_ok (a0 : T_api_Route) (a1 : Int) (r : Bool) (h : d_flank_passes a0 a1 = some r) : PCall Go.Proofs.Tryd.prog GlS 57 [Enc.pv a0, Enc.pv a1] (Enc.pv r) := by
  unfold d_flank_passes at h
  refine pcall_of_pwp Go.Proofs.Tryd.func57 (by rfl) rfl Go.Proofs.Tryd.ntmps57 (by rfl) rfl ?_
  refine pwp_seq ?_
  refine r_reg ?_
  refine e_end (by kernel_rfl) ?_
  refine q_next ?_
  refine pwp_seq ?_
  refine r_reg ?_
  refine e_end (by kernel_rfl) ?_
  refine q_next ?_
  refine pwp_seq ?_
  refine g_frz 3 [2] (cs := [.int .i64 a1]) (cs' := [.int .i64 a1]) (by kernel_rfl) (by kernel_rfl) (by kernel_rfl) (by kernel_rfl) ?_
  refine r_reg ?_
  refine p_run 3 (by kernel_rfl) ?_
  obtain ⟨r1, h1, h⟩ := o_bind h
  refine p_call (d_slices_ContainsFunc_api_Step__flank_passes_c1_ok _ _ r1 h1) (by kernel_rfl) (by kernel_rfl) ?_
  obtain ⟨b2, h2, h⟩ := o_bind h
  refine p_run 1 (by kernel_rfl) ?_
  refine e_seg 5 16 (.bool b2) ?_ ?_
  · rcases o_cond h2 with ⟨hb, h2⟩ | ⟨hb, h2⟩
    · refine p_settle 11 hb (by kernel_rfl) (by kernel_rfl) ?_
      cases h2
      exact f_end (by kernel_rfl) (by kernel_rfl)
    · refine p_settle 11 hb (by kernel_rfl) (by kernel_rfl) ?_
      refine p_run 3 (by kernel_rfl) ?_
      obtain ⟨r3, h3, h2⟩ := o_bind h2
      refine p_call (d_slices_ContainsFunc_api_Step__flank_passes_c1_ok _ _ r3 h3) (by kernel_rfl) (by kernel_rfl) ?_
      cases h2
      exact f_end (by kernel_rfl) (by kernel_rfl)
  · refine e_end (by kernel_rfl) ?_
    refine q_next ?_
    refine pwp_ret ?_
    cases h
    exact q_ret (by kernel_rfl) (by kernel_rfl) (by kernel_rfl)

/-! slices.Index[[]api.Setting,api.Setting] -/
noncomputable def d_slices_Index_api_Setting_0 (a0 : (List T_api_Setting)) (a1 : T_api_Setting) : Int → Option (Int ⊕ (Unit ⊕ Int)) := fun x2 =>
  bif decide (x2 < ((a0.length : Nat) : Int)) then (
    (ixO a0 x2).bind fun x4 =>
    bif eq_T_api_Setting a1 x4 then (
      some (.inr (.inr x2))
    ) else (
      some (.inl (w64 (x2 + 1)))
    )
  ) else (
    some (.inr (.inl ()))
  )

noncomputable def d_slices_Index_api_Setting (a0 : (List T_api_Setting)) (a1 : T_api_Setting) : Option Int :=
  onInl (α := Unit) (β := Int) (loopO (d_slices_Index_api_Setting_0 a0 a1) 0) fun _ =>
  some (-1)
theorem d_slices_Index_api_Setting_ok (a0 : (List T_api_Setting)) (a1 : T_api_Setting) (r : Int) (h : d_slices_Index_api_Setting a0 a1 = some r) : PCall Go.Proofs.Tryd.prog GlS 113 [Enc.pv a0, Enc.pv a1] (Enc.pv r) := by
  unfold d_slices_Index_api_Setting at h
  refine pcall_of_pwp Go.Proofs.Tryd.func113 (by rfl) rfl Go.Proofs.Tryd.ntmps113 (by rfl) rfl ?_
  refine pwp_seq ?_
  refine r_reg ?_
  refine e_end (by kernel_rfl) ?_
  refine q_next ?_
  refine pwp_seq ?_
  refine pwp_seq ?_
  refine r_reg ?_
  refine p_run 1 (by kernel_rfl) ?_
  refine p_len (L := (a0 : (List T_api_Setting))) (by kernel_rfl) ?_
  refine e_end (by kernel_rfl) ?_
  refine q_next ?_
  refine pwp_block ?_
  obtain ⟨o6, h6, h⟩ := o_inl h
  refine r_loop2 19 0 (fun x2 => ⟨[(0, lstOf .frozen (a0 : (List T_api_Setting))), (3, .ref 3 0), (7, .int .i64 ((a0.length : Nat) : Int)), (8, .int .i64 x2)], [(3, .cells (cellsOf a1))], [], []⟩) (fun (_ : Unit) => ⟨[], [], [], []⟩) h6 (by kernel_rfl) (fun _ => by kernel_rfl) ?_ ?_
  · rintro x2 oh5 h5
    unfold d_slices_Index_api_Setting_0 at h5
    refine pwp_seq ?_
    refine r_reg ?_
    refine e_end (by kernel_rfl) ?_
    refine q_next ?_
    refine pwp_seq ?_
    rcases o_cond h5 with ⟨hb, h5⟩ | ⟨hb, h5⟩
    · refine r_cond_t hb (by kernel_rfl) ?_
      refine pwp_skip ?_
      refine q_next ?_
      refine pwp_seq ?_
      refine pwp_block ?_
      refine pwp_seq ?_
      refine r_reg ?_
      refine e_end (by kernel_rfl) ?_
      refine q_next ?_
      refine pwp_seq ?_
      refine r_regd (by kernel_rfl) (by kernel_rfl) ?_
      refine p_run 3 (by kernel_rfl) ?_
      obtain ⟨x4, h7, h5⟩ := o_bind h5
      refine p_ix h7 (by kernel_rfl) ?_
      refine e_end (by kernel_rfl) ?_
      refine q_next ?_
      rcases o_cond h5 with ⟨hb, h5⟩ | ⟨hb, h5⟩
      · refine r_cond_t hb (by kernel_rfl) ?_
        refine pwp_seq ?_
        refine r_reg ?_
        refine e_end (by kernel_rfl) ?_
        refine q_next ?_
        refine pwp_ret ?_
        refine q_block_ret ?_
        refine q_seq_ret ?_
        cases h5
        refine q_lout_ret fun he => ?_
        subst he
        have h8 := o_outr h
        refine q_block_ret ?_
        refine q_seq_ret ?_
        cases h8
        exact q_ret (by kernel_rfl) (by kernel_rfl) (by kernel_rfl)
      · refine r_cond_f hb (by kernel_rfl) ?_
        refine pwp_skip ?_
        refine q_block ?_
        refine q_next ?_
        refine r_reg ?_
        refine e_end (by kernel_rfl) ?_
        cases h5
        exact q_lback (by kernel_rfl)
    · refine r_cond_f hb (by kernel_rfl) ?_
      refine pwp_exit ?_
      refine q_seq_exit ?_
      cases h5
      exact q_lexit (by kernel_rfl) (by kernel_rfl)
  · rintro _ s' rfl hs
    have h := o_outl h
    refine q_block_hit ?_
    refine q_next (pwp_wkr hs ?_)
    refine pwp_seq ?_
    refine r_reg ?_
    refine e_end (by kernel_rfl) ?_
    refine q_next ?_
    refine pwp_ret ?_
    cases h
    exact q_ret (by kernel_rfl) (by kernel_rfl) (by kernel_rfl)

/-! slices.Contains[[]api.Setting,api.Setting] -/
noncomputable def d_slices_Contains_api_Setting (a0 : (List T_api_Setting)) (a1 : T_api_Setting) : Option Bool :=
  (d_slices_Index_api_Setting a0 a1).bind fun r1 =>
  some (decide (0 ≤ r1))
theorem d_slices_Contains_api_Setting_ok (a0 : (List T_api_Setting)) (a1 : T_api_Setting) (r : Bool) (h : d_slices_Contains_api_Setting a0 a1 = some r) : PCall Go.Proofs.Tryd.prog GlS 104 [Enc.pv a0, Enc.pv a1] (Enc.pv r) := by
  unfold d_slices_Contains_api_Setting at h
  refine pcall_of_pwp Go.Proofs.Tryd.func104 (by rfl) rfl Go.Proofs.Tryd.ntmps104 (by rfl) rfl ?_
  refine pwp_seq ?_
  refine r_reg ?_
  refine e_end (by kernel_rfl) ?_
  refine q_next ?_
  refine pwp_seq ?_
  refine r_reg ?_
  refine p_run 2 (by kernel_rfl) ?_
  obtain ⟨r1, h1, h⟩ := o_bind h
  refine p_call (d_slices_Index_api_Setting_ok _ _ r1 h1) (by kernel_rfl) (by kernel_rfl) ?_
  refine e_end (by kernel_rfl) ?_
  refine q_next ?_
  refine pwp_ret ?_
  cases h
  exact q_ret (by kernel_rfl) (by kernel_rfl) (by kernel_rfl)

/-! flank.needs -/
noncomputable def d_flank_needs (a0 : T_api_Route) (a1 : T_api_Setting) : Option Bool :=
  (d_slices_Contains_api_Setting a0.Points a1).bind fun r1 =>
  ((bif r1 then some true else (
    (d_slices_Contains_api_Setting a0.OverPoints a1).bind fun r3 =>
    some r3
  )) : Option Bool).bind fun b2 =>
  ((bif b2 then some true else (
    (d_slices_Contains_api_Setting a0.Flank a1).bind fun r5 =>
    some r5
  )) : Option Bool).bind fun b4 =>
  some b4
theorem d_flank_needs_ok (a0 : T_api_Route) (a1 : T_api_Setting) (r : Bool) (h : d_flank_needs a0 a1 = some r) : PCall Go.Proofs.Tryd.prog GlS 82 [Enc.pv a0, Enc.pv a1] (Enc.pv r) := by
  unfold d_flank_needs at h
  refine pcall_of_pwp Go.Proofs.Tryd.func82 (by rfl) rfl Go.Proofs.Tryd.ntmps82 (by rfl) rfl ?_
  refine pwp_seq ?_
  refine r_reg ?_
  refine e_end (by kernel_rfl) ?_
  refine q_next ?_
  refine pwp_seq ?_
  refine r_reg ?_
  refine p_run 3 (by kernel_rfl) ?_
  obtain ⟨r1, h1, h⟩ := o_bind h
  refine p_call (d_slices_Contains_api_Setting_ok _ _ r1 h1) (by kernel_rfl) (by kernel_rfl) ?_
  obtain ⟨b2, h2, h⟩ := o_bind h
  refine p_run 1 (by kernel_rfl) ?_
  refine e_seg 5 14 (.bool b2) ?_ ?_
  · rcases o_cond h2 with ⟨hb, h2⟩ | ⟨hb, h2⟩
    · refine p_settle 9 hb (by kernel_rfl) (by kernel_rfl) ?_
      cases h2
      exact f_end (by kernel_rfl) (by kernel_rfl)
    · refine p_settle 9 hb (by kernel_rfl) (by kernel_rfl) ?_
      refine p_run 3 (by kernel_rfl) ?_
      obtain ⟨r3, h3, h2⟩ := o_bind h2
      refine p_call (d_slices_Contains_api_Setting_ok _ _ r3 h3) (by kernel_rfl) (by kernel_rfl) ?_
      cases h2
      exact f_end (by kernel_rfl) (by kernel_rfl)
  · obtain ⟨b4, h4, h⟩ := o_bind h
    refine p_run 1 (by kernel_rfl) ?_
    refine e_seg 5 20 (.bool b4) ?_ ?_
    · rcases o_cond h4 with ⟨hb, h4⟩ | ⟨hb, h4⟩
      · refine p_settle 15 hb (by kernel_rfl) (by kernel_rfl) ?_
        cases h4
        exact f_end (by kernel_rfl) (by kernel_rfl)
      · refine p_settle 15 hb (by kernel_rfl) (by kernel_rfl) ?_
        refine p_run 3 (by kernel_rfl) ?_
        obtain ⟨r5, h5, h4⟩ := o_bind h4
        refine p_call (d_slices_Contains_api_Setting_ok _ _ r5 h5) (by kernel_rfl) (by kernel_rfl) ?_
        cases h4
        exact f_end (by kernel_rfl) (by kernel_rfl)
    · refine e_end (by kernel_rfl) ?_
      refine q_next ?_
      refine pwp_ret ?_
      cases h
      exact q_ret (by kernel_rfl) (by kernel_rfl) (by kernel_rfl)

/-! flank.away -/
noncomputable def d_flank_away (a0 : T_api_Route) (a1 : T_api_End) : Option (Option T_api_Setting) :=
  (d_rail_Need 2 a1.Side 0).bind fun r1 =>
  onInl (α := Unit) (β := (Option T_api_Setting)) (
    ((bif (!r1.2) then some true else (
      (d_flank_needs a0 (T_api_Setting.mk a1.El r1.1)).bind fun r5 =>
      some r5
    )) : Option Bool).bind fun b4 =>
    bif b4 then (
      some (.inr none)
    ) else (
      some (.inl ())
    )
  ) fun _ =>
  some (some (T_api_Setting.mk a1.El (w64 (3 - r1.1))))
theorem d_flank_away_ok (a0 : T_api_Route) (a1 : T_api_End) (r : (Option T_api_Setting)) (h : d_flank_away a0 a1 = some r) : PCallP Go.Proofs.Tryd.prog GlS 58 [Enc.pv a0, Enc.pv a1] (r.map fun r => Enc.pv r) := by
  unfold d_flank_away at h
  refine pcallp_of_pwp Go.Proofs.Tryd.func58 (by rfl) rfl Go.Proofs.Tryd.ntmps58 (by rfl) rfl ?_
  refine pwp_seq ?_
  refine r_reg ?_
  refine e_end (by kernel_rfl) ?_
  refine q_next ?_
  refine pwp_seq ?_
  refine r_reg ?_
  refine p_run 2 (by kernel_rfl) ?_
  obtain ⟨r1, h1, h⟩ := o_bind h
  refine p_call (d_rail_Need_ok _ _ _ r1 h1) (by kernel_rfl) (by kernel_rfl) ?_
  refine e_end (by kernel_rfl) ?_
  refine q_next ?_
  obtain ⟨o5, h5, h⟩ := o_inl h
  refine r_join (o := o5) 31 (fun (_ : Unit) => ⟨[(3, .ref 3 0), (4, .ref 4 0), (5, .int .i64 r1.1)], [(3, .cells (cellsOf a1)), (4, .cells ([.int .i64 0, .int .i64 0]))], [], []⟩) ?_ ?_
  · refine pwp_seq ?_
    refine r_reg ?_
    obtain ⟨b4, h6, h5⟩ := o_bind h5
    refine p_run 3 (by kernel_rfl) ?_
    refine e_seg 7 22 (.bool b4) ?_ ?_
    · rcases o_cond h6 with ⟨hb, h6⟩ | ⟨hb, h6⟩
      · refine p_settle 15 hb (by kernel_rfl) (by kernel_rfl) ?_
        cases h6
        exact f_end (by kernel_rfl) (by kernel_rfl)
      · refine p_settle 15 hb (by kernel_rfl) (by kernel_rfl) ?_
        refine p_run 5 (by kernel_rfl) ?_
        obtain ⟨r5, h7, h6⟩ := o_bind h6
        refine p_call (d_flank_needs_ok _ _ r5 h7) (by kernel_rfl) (by kernel_rfl) ?_
        cases h6
        exact f_end (by kernel_rfl) (by kernel_rfl)
    · refine e_nil (by kernel_rfl) ?_
      refine q_next ?_
      rcases o_cond h5 with ⟨hb, h5⟩ | ⟨hb, h5⟩
      · refine r_cond_t hb (by kernel_rfl) ?_
        refine r_regE ?_
        refine wlE_run 0 2 ?_
        refine e_end (by kernel_rfl) ?_
        refine p_pan2 (d := 25) (by kernel_rfl) fun ch hpan => ?_
        cases h5
        refine q_jout_pan ?_
        have h8 := o_outr h
        cases h8
        exact qp_pan hpan
      · refine r_cond_f hb (by kernel_rfl) ?_
        refine pwp_skip ?_
        cases h5
        exact q_join (by kernel_rfl) (by kernel_rfl)
  · rintro _ rfl
    have h := o_outl h
    refine pwp_seq ?_
    refine r_reg ?_
    refine e_end (by kernel_rfl) ?_
    refine q_next ?_
    refine pwp_ret ?_
    cases h
    exact ⟨_, rfl, q_ret (by kernel_rfl) (by kernel_rfl) (by kernel_rfl)⟩

/-! rail.Legs -/
noncomputable def d_rail_Legs_0 (a0 : Int) (a1 : Int) : (Int × (List Int)) → Option ((Int × (List Int)) ⊕ ((List Int) ⊕ (List Int))) := fun (x12, x13) =>
  bif decide (x12 < 10) then (
    onInl (α := (List Int)) (β := ((Int × (List Int)) ⊕ ((List Int) ⊕ (List Int)))) (
      (ixO tab_rail_passages x12).bind fun x23 =>
      bif ((decide (x23.kind_ = a0)) && (decide (x23.in_ = a1))) then (
        (appO x13 [x23.out_]).bind fun x24 =>
        some (.inl x24)
      ) else (
        some (.inl x13)
      )
    ) fun x22 =>
    some (.inl (w64 (x12 + 1), x22))
  ) else (
    some (.inr (.inl x13))
  )

noncomputable def d_rail_Legs (a0 : Int) (a1 : Int) : Option (List Int) :=
  onInl (α := (List Int)) (β := (List Int)) (loopO (d_rail_Legs_0 a0 a1) (0, ([] : (List Int)))) fun x19 =>
  some x19
theorem d_rail_Legs_ok (a0 : Int) (a1 : Int) (r : (List Int)) (h : d_rail_Legs a0 a1 = some r) : PCall Go.Proofs.Tryd.prog GlS 59 [Enc.pv a0, Enc.pv a1] (lstOf (.own 100005) r) := by
  unfold d_rail_Legs at h
  refine pcall_of_pwp Go.Proofs.Tryd.func59 (by rfl) rfl Go.Proofs.Tryd.ntmps59 (by rfl) rfl ?_
  refine pwp_seq ?_
  refine r_reg ?_
  refine e_end (by kernel_rfl) ?_
  refine q_next ?_
  refine pwp_seq ?_
  refine r_reg ?_
  refine e_end (by kernel_rfl) ?_
  refine q_next ?_
  refine pwp_seq ?_
  refine pwp_seq ?_
  refine r_reg ?_
  refine e_end (by kernel_rfl) ?_
  refine q_next ?_
  refine pwp_block ?_
  refine g_nil 5 100005 1 8 (by kernel_rfl) (by kernel_rfl) ?_
  obtain ⟨o17, h17, h⟩ := o_inl h
  refine r_loop2 29 0 (fun (x12, x13) => ⟨[(0, .int .i64 a0), (1, .int .i64 a1), (5, lstOf (.own 100005) (x13 : (List Int))), (8, .agg (tab_rail_passages.flatMap cellsOf)), (9, .int .i64 x12)], [], [(100005, (((x13).map cellsOf).length, 1))], []⟩) (fun x19 => ⟨[(5, lstOf (.own 100005) (x19 : (List Int)))], [], [(100005, (((x19).map cellsOf).length, 1))], []⟩) h17 (by kernel_rfl) (fun _ => by kernel_rfl) ?_ ?_
  · rintro ⟨x12, x13⟩ oh16 h16
    unfold d_rail_Legs_0 at h16
    refine pwp_seq ?_
    refine r_reg ?_
    refine e_end (by kernel_rfl) ?_
    refine q_next ?_
    refine pwp_seq ?_
    rcases o_cond h16 with ⟨hb, h16⟩ | ⟨hb, h16⟩
    · refine r_cond_t hb (by kernel_rfl) ?_
      refine pwp_skip ?_
      refine q_next ?_
      obtain ⟨o20, h20, h16⟩ := o_inl h16
      refine r_join (o := o20) 29 (fun x22 => ⟨[(0, .int .i64 a0), (1, .int .i64 a1), (5, lstOf (.own 100005) (x22 : (List Int))), (8, .agg (tab_rail_passages.flatMap cellsOf)), (9, .int .i64 x12)], [], [(100005, (((x22).map cellsOf).length, 1))], []⟩) ?_ ?_
      · refine pwp_block ?_
        refine pwp_seq ?_
        refine r_reg ?_
        obtain ⟨x23, h21, h20⟩ := o_bind h20
        refine p_tix (tab := tab_rail_passages) h21 true 10 4 (by kernel_rfl) (by kernel_rfl) (by kernel_rfl) (by kernel_rfl) ?_
        refine e_end (by kernel_rfl) ?_
        refine q_next ?_
        refine pwp_seq ?_
        refine r_reg ?_
        refine p_run 5 (by kernel_rfl) ?_
        refine e_segb 5 21 ((decide (x23.kind_ = a0)) && (decide (x23.in_ = a1))) (fun x hx => ?_) ?_
        · rcases b_and hx with ⟨hb, hx⟩ | ⟨hb, hx⟩
          · refine p_settle 16 hb (by kernel_rfl) (by kernel_rfl) ?_
            subst hx
            exact f_end (by kernel_rfl) (by kernel_rfl)
          · refine p_settle 16 hb (by kernel_rfl) (by kernel_rfl) ?_
            subst hx
            exact f_end (by kernel_rfl) (by kernel_rfl)
        · refine e_nil (by kernel_rfl) ?_
          refine q_next ?_
          rcases o_cond h20 with ⟨hb, h20⟩ | ⟨hb, h20⟩
          · refine r_cond_t hb (by kernel_rfl) ?_
            refine r_reg ?_
            refine p_run 4 (by kernel_rfl) ?_
            obtain ⟨x24, h22, h20⟩ := o_bind h20
            refine p_app (tk := 100005) h22 (by kernel_rfl) (by kernel_rfl) ?_
            refine e_end (by kernel_rfl) ?_
            refine q_block ?_
            cases h20
            exact q_join (by kernel_rfl) (by kernel_rfl)
          · refine r_cond_f hb (by kernel_rfl) ?_
            refine pwp_skip ?_
            refine q_block ?_
            cases h20
            exact q_join (by kernel_rfl) (by kernel_rfl)
      · rintro x22 rfl
        have h16 := o_outl h16
        refine r_reg ?_
        refine e_end (by kernel_rfl) ?_
        cases h16
        exact q_lback (by kernel_rfl)
    · refine r_cond_f hb (by kernel_rfl) ?_
      refine pwp_exit ?_
      refine q_seq_exit ?_
      cases h16
      exact q_lexit (by kernel_rfl) (by kernel_rfl)
  · rintro x19 s' rfl hs
    have h := o_outl h
    refine q_block_hit ?_
    refine q_next (pwp_wkr hs ?_)
    refine pwp_seq ?_
    refine r_reg ?_
    refine e_end (by kernel_rfl) ?_
    refine q_next ?_
    refine pwp_ret ?_
    cases h
    exact q_ret (by kernel_rfl) (by kernel_rfl) (by kernel_rfl)
theorem d_rail_Legs_fz (a0 : Int) (a1 : Int) (r : (List Int)) (h : d_rail_Legs a0 a1 = some r) : PCall Go.Proofs.Tryd.prog GlS 59 [Enc.pv a0, Enc.pv a1] (Enc.pv r) :=
  (d_rail_Legs_ok a0 a1 r h).freeze (by kernel_rfl) (by kernel_rfl) (by kernel_rfl)

/-! flank.protection -/
noncomputable def d_flank_protection_0 (a0 : T_api_Layout) (a1 : T_api_Route) : (Int × Int × Int) → Option ((Int × Int × Int) ⊕ ((Int × Int) ⊕ (Option (T_api_Setting × Int)))) := fun (x10, x11, x12) =>
  bif decide (x10 < 4) then (
    (d_layout_Joined a0 (T_api_End.mk x11 x12)).bind fun r24 =>
    bif (!r24.2) then (
      some (.inr (.inr (some ((T_api_Setting.mk 0 0), (-1)))))
    ) else (
      (d_layout_Signal a0 r24.1).bind fun r25 =>
      bif decide (0 ≤ r25) then (
        some (.inr (.inr (some ((T_api_Setting.mk 0 0), r25))))
      ) else (
        (d_flank_passes a1 r24.1.El).bind fun r26 =>
        bif r26 then (
          some (.inr (.inr (some ((T_api_Setting.mk 0 0), (-1)))))
        ) else (
          onInl (α := Unit) (β := ((Int × Int × Int) ⊕ ((Int × Int) ⊕ (Option (T_api_Setting × Int))))) (
            ((bif decide (r24.1.El < 0) then some true else (
              some (decide (((a0.Elements.length : Nat) : Int) ≤ r24.1.El))
            )) : Option Bool).bind fun b28 =>
            bif b28 then (
              some (.inr (.inr (.inr none)))
            ) else (
              some (.inl ())
            )
          ) fun _ =>
          (ixO a0.Elements r24.1.El).bind fun x29 =>
          bif decide (x29.Kind = 2) then (
            panB (d_flank_away a1 r24.1) (
              some (.inr (.inr none))
            ) fun r30 =>
            some (.inr (.inr (some (r30, (-1)))))
          ) else (
            (d_rail_Legs x29.Kind r24.1.Side).bind fun r31 =>
            onInl (α := Unit) (β := ((Int × Int × Int) ⊕ ((Int × Int) ⊕ (Option (T_api_Setting × Int))))) (
              bif decide (((r31.length : Nat) : Int) = 0) then (
                some (.inr (.inr (.inr none)))
              ) else (
                some (.inl ())
              )
            ) fun _ =>
            (ixO r31 0).bind fun x32 =>
            some (.inl (w64 (x10 + 1), r24.1.El, x32))
          )
        )
      )
    )
  ) else (
    some (.inr (.inl (x11, x12)))
  )

noncomputable def d_flank_protection (a0 : T_api_Layout) (a1 : T_api_Route) (a2 : T_api_End) : Option (Option (T_api_Setting × Int)) :=
  onInl (α := (Int × Int)) (β := (Option (T_api_Setting × Int))) (loopO (d_flank_protection_0 a0 a1) (0, a2.El, a2.Side)) fun (x22, x23) =>
  some none
theorem d_flank_protection_ok (a0 : T_api_Layout) (a1 : T_api_Route) (a2 : T_api_End) (r : (Option (T_api_Setting × Int))) (h : d_flank_protection a0 a1 a2 = some r) : PCallP Go.Proofs.Tryd.prog GlS 25 [Enc.pv a0, Enc.pv a1, Enc.pv a2] (r.map fun r => .tup [Enc.pv r.1, Enc.pv r.2]) := by
  unfold d_flank_protection at h
  refine pcallp_of_pwp Go.Proofs.Tryd.func25 (by rfl) rfl Go.Proofs.Tryd.ntmps25 (by rfl) rfl ?_
  refine pwp_seq ?_
  refine r_reg ?_
  refine e_end (by kernel_rfl) ?_
  refine q_next ?_
  refine pwp_seq ?_
  refine pwp_seq ?_
  refine r_reg ?_
  refine e_end (by kernel_rfl) ?_
  refine q_next ?_
  refine pwp_block ?_
  obtain ⟨o50, h50, h⟩ := o_inl h
  refine r_loop2 82 0 (fun (x10, x11, x12) => ⟨[(3, .ref 3 0), (4, .ref 4 0), (5, .ref 5 0), (6, .ref 6 0), (7, .int .i64 0), (13, .int .i64 x10)], [(3, .cells (cellsOf a0)), (4, .cells (cellsOf a1)), (5, .cells ([.int .i64 x11, .int .i64 x12])), (6, .cells ([.int .i64 0, .int .i64 0]))], [], []⟩) (fun (x22, x23) => ⟨[(5, .ref 5 0), (6, .ref 6 0), (7, .int .i64 0)], [(5, .cells ([.int .i64 x22, .int .i64 x23])), (6, .cells ([.int .i64 0, .int .i64 0]))], [], []⟩) h50 (by kernel_rfl) (fun _ => by kernel_rfl) ?_ ?_
  · rintro ⟨x10, x11, x12⟩ oh49 h49
    unfold d_flank_protection_0 at h49
    refine pwp_seq ?_
    refine r_reg ?_
    refine e_end (by kernel_rfl) ?_
    refine q_next ?_
    refine pwp_seq ?_
    rcases o_cond h49 with ⟨hb, h49⟩ | ⟨hb, h49⟩
    · refine r_cond_t hb (by kernel_rfl) ?_
      refine pwp_skip ?_
      refine q_next ?_
      refine pwp_seq ?_
      refine pwp_block ?_
      refine pwp_seq ?_
      refine r_reg ?_
      refine p_run 2 (by kernel_rfl) ?_
      obtain ⟨r24, h51, h49⟩ := o_bind h49
      refine p_call (d_layout_Joined_ok _ _ r24 h51) (by kernel_rfl) (by kernel_rfl) ?_
      refine e_end (by kernel_rfl) ?_
      refine q_next ?_
      refine pwp_seq ?_
      refine pwp_seq ?_
      refine r_reg ?_
      refine e_end (by kernel_rfl) ?_
      refine q_next ?_
      rcases o_cond h49 with ⟨hb, h49⟩ | ⟨hb, h49⟩
      · refine r_cond_t hb (by kernel_rfl) ?_
        refine pwp_seq ?_
        refine r_reg ?_
        refine e_end (by kernel_rfl) ?_
        refine q_next ?_
        refine pwp_ret ?_
        refine q_seq_ret ?_
        refine q_block_ret ?_
        refine q_seq_ret ?_
        cases h49
        refine q_lout_ret fun he => ?_
        subst he
        have h52 := o_outr h
        refine q_block_ret ?_
        refine q_seq_ret ?_
        cases h52
        exact ⟨_, rfl, q_ret (by kernel_rfl) (by kernel_rfl) (by kernel_rfl)⟩
      · refine r_cond_f hb (by kernel_rfl) ?_
        refine pwp_skip ?_
        refine q_next ?_
        refine pwp_seq ?_
        refine pwp_seq ?_
        refine r_reg ?_
        refine p_run 2 (by kernel_rfl) ?_
        obtain ⟨r25, h53, h49⟩ := o_bind h49
        refine p_call (d_layout_Signal_ok _ _ r25 h53) (by kernel_rfl) (by kernel_rfl) ?_
        refine e_end (by kernel_rfl) ?_
        refine q_next ?_
        refine pwp_seq ?_
        refine r_reg ?_
        refine e_end (by kernel_rfl) ?_
        refine q_next ?_
        rcases o_cond h49 with ⟨hb, h49⟩ | ⟨hb, h49⟩
        · refine r_cond_t hb (by kernel_rfl) ?_
          refine pwp_seq ?_
          refine r_reg ?_
          refine e_end (by kernel_rfl) ?_
          refine q_next ?_
          refine pwp_ret ?_
          refine q_seq_ret ?_
          refine q_block_ret ?_
          refine q_seq_ret ?_
          cases h49
          refine q_lout_ret fun he => ?_
          subst he
          have h54 := o_outr h
          refine q_block_ret ?_
          refine q_seq_ret ?_
          cases h54
          exact ⟨_, rfl, q_ret (by kernel_rfl) (by kernel_rfl) (by kernel_rfl)⟩
        · refine r_cond_f hb (by kernel_rfl) ?_
          refine pwp_skip ?_
          refine q_next ?_
          refine pwp_seq ?_
          refine pwp_seq ?_
          refine r_reg ?_
          refine p_run 3 (by kernel_rfl) ?_
          obtain ⟨r26, h55, h49⟩ := o_bind h49
          refine p_call (d_flank_passes_ok _ _ r26 h55) (by kernel_rfl) (by kernel_rfl) ?_
          refine e_nil (by kernel_rfl) ?_
          refine q_next ?_
          rcases o_cond h49 with ⟨hb, h49⟩ | ⟨hb, h49⟩
          · refine r_cond_t hb (by kernel_rfl) ?_
            refine pwp_seq ?_
            refine r_reg ?_
            refine e_end (by kernel_rfl) ?_
            refine q_next ?_
            refine pwp_ret ?_
            refine q_seq_ret ?_
            refine q_block_ret ?_
            refine q_seq_ret ?_
            cases h49
            refine q_lout_ret fun he => ?_
            subst he
            have h56 := o_outr h
            refine q_block_ret ?_
            refine q_seq_ret ?_
            cases h56
            exact ⟨_, rfl, q_ret (by kernel_rfl) (by kernel_rfl) (by kernel_rfl)⟩
          · refine r_cond_f hb (by kernel_rfl) ?_
            refine pwp_skip ?_
            refine q_next ?_
            obtain ⟨o60, h60, h49⟩ := o_inl h49
            refine r_join (o := o60) 82 (fun (_ : Unit) => ⟨[(3, .ref 3 0), (4, .ref 4 0), (5, .ref 5 0), (6, .ref 6 0), (7, .int .i64 0), (8, .ref 8 0), (13, .int .i64 x10)], [(3, .cells (cellsOf a0)), (4, .cells (cellsOf a1)), (5, .cells ([.int .i64 x11, .int .i64 x12])), (6, .cells ([.int .i64 0, .int .i64 0])), (8, .cells (cellsOf r24.1))], [], []⟩) ?_ ?_
            · refine pwp_seq ?_
              refine r_reg ?_
              obtain ⟨b28, h61, h60⟩ := o_bind h60
              refine p_run 4 (by kernel_rfl) ?_
              refine e_seg 7 46 (.bool b28) ?_ ?_
              · rcases o_cond h61 with ⟨hb, h61⟩ | ⟨hb, h61⟩
                · refine p_settle 39 hb (by kernel_rfl) (by kernel_rfl) ?_
                  cases h61
                  exact f_end (by kernel_rfl) (by kernel_rfl)
                · refine p_settle 39 hb (by kernel_rfl) (by kernel_rfl) ?_
                  refine p_run 4 (by kernel_rfl) ?_
                  refine p_len (L := (a0.Elements : (List T_api_Element))) (by kernel_rfl) ?_
                  cases h61
                  exact f_end (by kernel_rfl) (by kernel_rfl)
              · refine e_nil (by kernel_rfl) ?_
                refine q_next ?_
                rcases o_cond h60 with ⟨hb, h60⟩ | ⟨hb, h60⟩
                · refine r_cond_t hb (by kernel_rfl) ?_
                  refine r_regE ?_
                  refine wlE_run 0 2 ?_
                  refine e_end (by kernel_rfl) ?_
                  refine p_pan2 (d := 49) (by kernel_rfl) fun ch hpan => ?_
                  cases h60
                  refine q_jout_pan ?_
                  have h62 := o_outr h49
                  refine q_block_pan ?_
                  refine q_seq_pan ?_
                  cases h62
                  refine q_lout_pan fun he => ?_
                  subst he
                  have h63 := o_outr h
                  refine q_block_pan ?_
                  refine q_seq_pan ?_
                  cases h63
                  exact qp_pan hpan
                · refine r_cond_f hb (by kernel_rfl) ?_
                  refine pwp_skip ?_
                  cases h60
                  exact q_join (by kernel_rfl) (by kernel_rfl)
            · rintro _ rfl
              have h49 := o_outl h49
              refine pwp_seq ?_
              refine r_reg ?_
              refine p_run 4 (by kernel_rfl) ?_
              obtain ⟨x29, h64, h49⟩ := o_bind h49
              refine p_ix h64 (by kernel_rfl) ?_
              refine e_end (by kernel_rfl) ?_
              refine q_next ?_
              refine pwp_seq ?_
              refine pwp_seq ?_
              refine r_reg ?_
              refine e_end (by kernel_rfl) ?_
              refine q_next ?_
              rcases o_cond h49 with ⟨hb, h49⟩ | ⟨hb, h49⟩
              · refine r_cond_t hb (by kernel_rfl) ?_
                refine pwp_seq ?_
                refine r_regE ?_
                refine wlE_run 0 2 ?_
                refine e_end (by kernel_rfl) ?_
                rcases o_pan h49 with ⟨h65, h49⟩ | ⟨r30, h65, h49⟩
                · refine p_callN (d_flank_away_ok _ _ none h65) (by kernel_rfl) fun ch hpan => ?_
                  refine q_seq_pan ?_
                  refine q_seq_pan ?_
                  refine q_block_pan ?_
                  refine q_seq_pan ?_
                  cases h49
                  refine q_lout_pan fun he => ?_
                  subst he
                  have h66 := o_outr h
                  refine q_block_pan ?_
                  refine q_seq_pan ?_
                  cases h66
                  exact qp_pan hpan
                · refine p_callS (d_flank_away_ok _ _ (some r30) h65) (by kernel_rfl) (by kernel_rfl) ?_
                  refine wlE_run 3 2 ?_
                  refine e_end (by kernel_rfl) ?_
                  refine wlE_end ?_
                  refine q_next ?_
                  refine pwp_ret ?_
                  refine q_seq_ret ?_
                  refine q_block_ret ?_
                  refine q_seq_ret ?_
                  cases h49
                  refine q_lout_ret fun he => ?_
                  subst he
                  have h67 := o_outr h
                  refine q_block_ret ?_
                  refine q_seq_ret ?_
                  cases h67
                  exact ⟨_, rfl, q_ret (by kernel_rfl) (by kernel_rfl) (by kernel_rfl)⟩
              · refine r_cond_f hb (by kernel_rfl) ?_
                refine pwp_skip ?_
                refine q_next ?_
                refine pwp_seq ?_
                refine r_reg ?_
                refine p_run 3 (by kernel_rfl) ?_
                obtain ⟨r31, h68, h49⟩ := o_bind h49
                refine p_call (d_rail_Legs_ok _ _ r31 h68) (by kernel_rfl) (by kernel_rfl) ?_
                refine e_end (by kernel_rfl) ?_
                refine q_next ?_
                obtain ⟨o71, h71, h49⟩ := o_inl h49
                refine r_join (o := o71) 82 (fun (_ : Unit) => ⟨[(3, .ref 3 0), (4, .ref 4 0), (5, .ref 5 0), (6, .ref 6 0), (7, .int .i64 0), (8, .ref 8 0), (12, lstOf (.own 165005) (r31 : (List Int))), (13, .int .i64 x10)], [(3, .cells (cellsOf a0)), (4, .cells (cellsOf a1)), (5, .cells ([.int .i64 x11, .int .i64 x12])), (6, .cells ([.int .i64 0, .int .i64 0])), (8, .cells (cellsOf r24.1))], [(165005, (((r31).map cellsOf).length, 1))], []⟩) ?_ ?_
                · refine pwp_seq ?_
                  refine r_reg ?_
                  refine p_run 1 (by kernel_rfl) ?_
                  refine p_len (L := (r31 : (List Int))) (by kernel_rfl) ?_
                  refine e_end (by kernel_rfl) ?_
                  refine q_next ?_
                  rcases o_cond h71 with ⟨hb, h71⟩ | ⟨hb, h71⟩
                  · refine r_cond_t hb (by kernel_rfl) ?_
                    refine r_regE ?_
                    refine wlE_run 0 2 ?_
                    refine e_end (by kernel_rfl) ?_
                    refine p_pan2 (d := 71) (by kernel_rfl) fun ch hpan => ?_
                    cases h71
                    refine q_jout_pan ?_
                    have h72 := o_outr h49
                    refine q_block_pan ?_
                    refine q_seq_pan ?_
                    cases h72
                    refine q_lout_pan fun he => ?_
                    subst he
                    have h73 := o_outr h
                    refine q_block_pan ?_
                    refine q_seq_pan ?_
                    cases h73
                    exact qp_pan hpan
                  · refine r_cond_f hb (by kernel_rfl) ?_
                    refine pwp_skip ?_
                    cases h71
                    exact q_join (by kernel_rfl) (by kernel_rfl)
                · rintro _ rfl
                  have h49 := o_outl h49
                  refine r_regd (by kernel_rfl) (by kernel_rfl) ?_
                  refine p_run 3 (by kernel_rfl) ?_
                  obtain ⟨x32, h74, h49⟩ := o_bind h49
                  refine p_ix h74 (by kernel_rfl) ?_
                  refine e_end (by kernel_rfl) ?_
                  refine q_block ?_
                  refine q_next ?_
                  refine r_reg ?_
                  refine e_end (by kernel_rfl) ?_
                  cases h49
                  exact q_lback (by kernel_rfl)
    · refine r_cond_f hb (by kernel_rfl) ?_
      refine pwp_exit ?_
      refine q_seq_exit ?_
      cases h49
      exact q_lexit (by kernel_rfl) (by kernel_rfl)
  · rintro ⟨x22, x23⟩ s' rfl hs
    have h := o_outl h
    refine q_block_hit ?_
    refine q_next (pwp_wkr hs ?_)
    refine r_regE ?_
    refine wlE_run 0 2 ?_
    refine e_end (by kernel_rfl) ?_
    refine p_pan2 (d := 81) (by kernel_rfl) fun ch hpan => ?_
    cases h
    exact qp_pan hpan

/-! flank.Search -/
noncomputable def d_flank_Search (a0 : T_api_Layout) (a1 : T_api_Route) (a2 : T_api_End) : Option (T_api_Setting × Int × Bool) :=
  panB (d_flank_protection a0 a1 a2) (
    some ((T_api_Setting.mk 0 0), (-1), false)
  ) fun r1 =>
  some (r1.1, r1.2, true)
set_option maxRecDepth 100000 in
theorem d_flank_Search_ok (a0 : T_api_Layout) (a1 : T_api_Route) (a2 : T_api_End) (r : (T_api_Setting × Int × Bool)) (h : d_flank_Search a0 a1 a2 = some r) : PCall Go.Proofs.Tryd.prog GlS 9 [Enc.pv a0, Enc.pv a1, Enc.pv a2] (.tup [Enc.pv r.1, Enc.pv r.2.1, Enc.pv r.2.2]) := by
  unfold d_flank_Search at h
  refine pcall_of_pwpR Go.Proofs.Tryd.func9 (by rfl) rfl Go.Proofs.Tryd.ntmps9 (by rfl) rfl ?_
  refine pwpD_seq ?_
  refine r_reg ?_
  refine e_end (by kernel_rfl) ?_
  refine qd_next ?_
  refine pwpD_defer 1 24 [.ref 6 0, .ref 7 0, .ref 8 0] (by rfl) ?_
  refine e_end (by kernel_rfl) ?_
  refine ⟨by kernel_rfl, by kernel_rfl, by kernel_rfl, ?_⟩
  refine pwp_seq ?_
  refine r_regE ?_
  refine wlE_run 0 3 ?_
  refine e_end (by kernel_rfl) ?_
  rcases o_pan h with ⟨h1, h⟩ | ⟨r1, h1, h⟩
  · refine p_callN (d_flank_protection_ok _ _ _ none h1) (by kernel_rfl) fun ch hpan => ?_
    refine q_seq_pan ?_
    refine qr_pan hpan (q_dendR (pan := true) (caps := [.ref 6 0, .ref 7 0, .ref 8 0]) (by kernel_rfl) Go.Proofs.Tryd.func24 (by rfl) rfl Go.Proofs.Tryd.ntmps24 (by rfl) ?_)
    refine pwpR_wkr ((wkr_ren 1 (by kernel_rfl)).trans (.of (j := ⟨[(0, .ref 1006 0), (1, .ref 1007 0), (2, .ref 1008 0), (12, .ref 1006 0), (13, .ref 1007 0), (14, .ref 1008 0), (25, .fn 24 [.ref 1006 0, .ref 1007 0, .ref 1008 0])], [(1006, .cells ([.int .i64 0, .int .i64 0])), (1007, .cells ([.int .i64 0])), (1008, .cells ([.bool false]))], [], []⟩) (n := 2000026) (by kernel_rfl) (by kernel_rfl))) ?_
    refine r_recover ⟨rfl, rfl, rfl, rfl, fun _ _ => rfl, (fun a _ _ _ h => by simp [Act.eval] at h; simp [go_sem, h]), (fun a _ h => by simp [Act.eval] at h; simp [go_sem, h])⟩ (by kernel_rfl) ?_
    refine r_cond_t (b := true) rfl (by kernel_rfl) ?_
    refine r_reg ?_
    refine e_end (by kernel_rfl) ?_
    cases h
    exact q_dfin (by kernel_rfl) (by kernel_rfl) (by kernel_rfl)
  · refine p_callS (d_flank_protection_ok _ _ _ (some r1) h1) (by kernel_rfl) (by kernel_rfl) ?_
    refine wlE_run 4 5 ?_
    refine e_end (by kernel_rfl) ?_
    refine wlE_end ?_
    refine q_next ?_
    refine pwp_seq ?_
    refine r_any 100020 ⟨[(6, .ref 6 0), (7, .ref 7 0), (8, .ref 8 0), (19, .fn 24 [.ref 6 0, .ref 7 0, .ref 8 0])], [(6, .cells (cellsOf r1.1)), (7, .cells ([.int .i64 r1.2])), (8, .cells ([.bool true]))], [], []⟩ (by kernel_rfl) ?_ ?_
    · refine pAny_node [0, 1] (by kernel_rfl) ⟨?_, ?_, trivial⟩
      · refine ⟨_, rfl, ?_⟩
        refine p_run 1 (by kernel_rfl) ?_
        refine p_nil ?_
        refine pAny_node [1, 2] (by kernel_rfl) ⟨?_, ?_, trivial⟩
        · refine ⟨_, rfl, ?_⟩
          refine p_run 1 (by kernel_rfl) ?_
          refine p_nil ?_
          refine pAny_node [2] (by kernel_rfl) ⟨?_, trivial⟩
          · refine ⟨_, rfl, ?_⟩
            refine p_run 1 (by kernel_rfl) ?_
            refine p_nil ?_
            refine pAny_node [3] (by kernel_rfl) ⟨?_, trivial⟩
            · refine ⟨_, rfl, ?_⟩
              refine p_run 1 (by kernel_rfl) ?_
              refine p_nil ?_
              refine pAny_node [4] (by kernel_rfl) ⟨?_, trivial⟩
              · refine ⟨_, rfl, ?_⟩
                refine p_run 1 (by kernel_rfl) ?_
                refine p_nil ?_
                exact pAny_leaf (by kernel_rfl) (.of (by kernel_rfl) (by kernel_rfl))
        · refine ⟨_, rfl, ?_⟩
          refine p_run 1 (by kernel_rfl) ?_
          refine p_nil ?_
          refine pAny_node [1] (by kernel_rfl) ⟨?_, trivial⟩
          · refine ⟨_, rfl, ?_⟩
            refine p_run 1 (by kernel_rfl) ?_
            refine p_nil ?_
            refine pAny_node [3] (by kernel_rfl) ⟨?_, trivial⟩
            · refine ⟨_, rfl, ?_⟩
              refine p_run 1 (by kernel_rfl) ?_
              refine p_nil ?_
              refine pAny_node [4] (by kernel_rfl) ⟨?_, trivial⟩
              · refine ⟨_, rfl, ?_⟩
                refine p_run 1 (by kernel_rfl) ?_
                refine p_nil ?_
                exact pAny_leaf (by kernel_rfl) (.of (by kernel_rfl) (by kernel_rfl))
      · refine ⟨_, rfl, ?_⟩
        refine p_run 1 (by kernel_rfl) ?_
        refine p_nil ?_
        refine pAny_node [0] (by kernel_rfl) ⟨?_, trivial⟩
        · refine ⟨_, rfl, ?_⟩
          refine p_run 1 (by kernel_rfl) ?_
          refine p_nil ?_
          refine pAny_node [2] (by kernel_rfl) ⟨?_, trivial⟩
          · refine ⟨_, rfl, ?_⟩
            refine p_run 1 (by kernel_rfl) ?_
            refine p_nil ?_
            refine pAny_node [3] (by kernel_rfl) ⟨?_, trivial⟩
            · refine ⟨_, rfl, ?_⟩
              refine p_run 1 (by kernel_rfl) ?_
              refine p_nil ?_
              refine pAny_node [4] (by kernel_rfl) ⟨?_, trivial⟩
              · refine ⟨_, rfl, ?_⟩
                refine p_run 1 (by kernel_rfl) ?_
                refine p_nil ?_
                exact pAny_leaf (by kernel_rfl) (.of (by kernel_rfl) (by kernel_rfl))
    · refine q_next ?_
      refine pwp_ret ?_
      refine qr_ret (q_dendR (pan := false) (caps := [.ref 6 0, .ref 7 0, .ref 8 0]) (by kernel_rfl) Go.Proofs.Tryd.func24 (by rfl) rfl Go.Proofs.Tryd.ntmps24 (by rfl) ?_)
      refine pwpR_wkr ((wkr_ren 3 (by kernel_rfl)).trans (.of (j := ⟨[(0, .ref 3006 0), (1, .ref 3007 0), (2, .ref 3008 0), (12, .ref 3006 0), (13, .ref 3007 0), (14, .ref 3008 0), (25, .fn 24 [.ref 3006 0, .ref 3007 0, .ref 3008 0])], [(3006, .cells (cellsOf r1.1)), (3007, .cells ([.int .i64 r1.2])), (3008, .cells ([.bool true]))], [], []⟩) (n := 2000026) (by kernel_rfl) (by kernel_rfl))) ?_
      refine r_recover ⟨rfl, rfl, rfl, rfl, fun _ _ => rfl, (fun a _ _ _ h => by simp [Act.eval] at h; simp [go_sem, h]), (fun a _ h => by simp [Act.eval] at h; simp [go_sem, h])⟩ (by kernel_rfl) ?_
      refine r_cond_f (b := false) rfl (by kernel_rfl) ?_
      refine pwp_skip ?_
      cases h
      exact q_dfin (by kernel_rfl) (by kernel_rfl) (by kernel_rfl)

/-! cmp.isNaN[int] -/
noncomputable def d_cmp_isNaN_int (a0 : Int) : Option Bool :=
  some (!(decide (a0 = a0)))
theorem d_cmp_isNaN_int_ok (a0 : Int) (r : Bool) (h : d_cmp_isNaN_int a0 = some r) : PCall Go.Proofs.Tryd.prog GlS 67 [Enc.pv a0] (Enc.pv r) := by
  unfold d_cmp_isNaN_int at h
  refine pcall_of_pwp Go.Proofs.Tryd.func67 (by rfl) rfl Go.Proofs.Tryd.ntmps67 (by rfl) rfl ?_
  refine pwp_seq ?_
  refine r_reg ?_
  refine e_end (by kernel_rfl) ?_
  refine q_next ?_
  refine pwp_seq ?_
  refine r_reg ?_
  refine e_end (by kernel_rfl) ?_
  refine q_next ?_
  refine pwp_ret ?_
  cases h
  exact q_ret (by kernel_rfl) (by kernel_rfl) (by kernel_rfl)

/-! cmp.Compare[int] -/
noncomputable def d_cmp_Compare_int (a0 : Int) (a1 : Int) : Option Int :=
  (d_cmp_isNaN_int a0).bind fun r1 =>
  (d_cmp_isNaN_int a1).bind fun r2 =>
  bif r1 then (
    bif r2 then (
      some 0
    ) else (
      some (-1)
    )
  ) else (
    bif r2 then (
      some 1
    ) else (
      bif decide (a0 < a1) then (
        some (-1)
      ) else (
        bif decide (a1 < a0) then (
          some 1
        ) else (
          some 0
        )
      )
    )
  )
theorem d_cmp_Compare_int_ok (a0 : Int) (a1 : Int) (r : Int) (h : d_cmp_Compare_int a0 a1 = some r) : PCall Go.Proofs.Tryd.prog GlS 40 [Enc.pv a0, Enc.pv a1] (Enc.pv r) := by
  unfold d_cmp_Compare_int at h
  refine pcall_of_pwp Go.Proofs.Tryd.func40 (by rfl) rfl Go.Proofs.Tryd.ntmps40 (by rfl) rfl ?_
  refine pwp_seq ?_
  refine r_reg ?_
  refine e_end (by kernel_rfl) ?_
  refine q_next ?_
  refine pwp_seq ?_
  refine r_reg ?_
  refine p_run 1 (by kernel_rfl) ?_
  obtain ⟨r1, h1, h⟩ := o_bind h
  refine p_call (d_cmp_isNaN_int_ok _ r1 h1) (by kernel_rfl) (by kernel_rfl) ?_
  refine e_end (by kernel_rfl) ?_
  refine q_next ?_
  refine pwp_seq ?_
  refine r_reg ?_
  refine p_run 1 (by kernel_rfl) ?_
  obtain ⟨r2, h2, h⟩ := o_bind h
  refine p_call (d_cmp_isNaN_int_ok _ r2 h2) (by kernel_rfl) (by kernel_rfl) ?_
  refine e_end (by kernel_rfl) ?_
  refine q_next ?_
  refine pwp_seq ?_
  refine pwp_seq ?_
  refine r_reg ?_
  refine e_end (by kernel_rfl) ?_
  refine q_next ?_
  rcases o_cond h with ⟨hb, h⟩ | ⟨hb, h⟩
  · refine r_cond_t hb (by kernel_rfl) ?_
    refine pwp_seq ?_
    refine pwp_seq ?_
    refine r_reg ?_
    refine e_end (by kernel_rfl) ?_
    refine q_next ?_
    rcases o_cond h with ⟨hb, h⟩ | ⟨hb, h⟩
    · refine r_cond_t hb (by kernel_rfl) ?_
      refine pwp_seq ?_
      refine r_reg ?_
      refine e_end (by kernel_rfl) ?_
      refine q_next ?_
      refine pwp_ret ?_
      refine q_seq_ret ?_
      refine q_seq_ret ?_
      cases h
      exact q_ret (by kernel_rfl) (by kernel_rfl) (by kernel_rfl)
    · refine r_cond_f hb (by kernel_rfl) ?_
      refine pwp_skip ?_
      refine q_next ?_
      refine pwp_seq ?_
      refine r_reg ?_
      refine e_end (by kernel_rfl) ?_
      refine q_next ?_
      refine pwp_ret ?_
      refine q_seq_ret ?_
      cases h
      exact q_ret (by kernel_rfl) (by kernel_rfl) (by kernel_rfl)
  · refine r_cond_f hb (by kernel_rfl) ?_
    refine pwp_skip ?_
    refine q_next ?_
    refine pwp_seq ?_
    refine pwp_seq ?_
    refine r_reg ?_
    refine e_end (by kernel_rfl) ?_
    refine q_next ?_
    rcases o_cond h with ⟨hb, h⟩ | ⟨hb, h⟩
    · refine r_cond_t hb (by kernel_rfl) ?_
      refine pwp_seq ?_
      refine r_reg ?_
      refine e_end (by kernel_rfl) ?_
      refine q_next ?_
      refine pwp_ret ?_
      refine q_seq_ret ?_
      cases h
      exact q_ret (by kernel_rfl) (by kernel_rfl) (by kernel_rfl)
    · refine r_cond_f hb (by kernel_rfl) ?_
      refine pwp_skip ?_
      refine q_next ?_
      refine pwp_seq ?_
      refine pwp_seq ?_
      refine r_reg ?_
      refine e_end (by kernel_rfl) ?_
      refine q_next ?_
      rcases o_cond h with ⟨hb, h⟩ | ⟨hb, h⟩
      · refine r_cond_t hb (by kernel_rfl) ?_
        refine pwp_seq ?_
        refine r_reg ?_
        refine e_end (by kernel_rfl) ?_
        refine q_next ?_
        refine pwp_ret ?_
        refine q_seq_ret ?_
        cases h
        exact q_ret (by kernel_rfl) (by kernel_rfl) (by kernel_rfl)
      · refine r_cond_f hb (by kernel_rfl) ?_
        refine pwp_skip ?_
        refine q_next ?_
        refine pwp_seq ?_
        refine pwp_seq ?_
        refine r_reg ?_
        refine e_end (by kernel_rfl) ?_
        refine q_next ?_
        rcases o_cond h with ⟨hb, h⟩ | ⟨hb, h⟩
        · refine r_cond_t hb (by kernel_rfl) ?_
          refine pwp_seq ?_
          refine r_reg ?_
          refine e_end (by kernel_rfl) ?_
          refine q_next ?_
          refine pwp_ret ?_
          refine q_seq_ret ?_
          cases h
          exact q_ret (by kernel_rfl) (by kernel_rfl) (by kernel_rfl)
        · refine r_cond_f hb (by kernel_rfl) ?_
          refine pwp_skip ?_
          refine q_next ?_
          refine pwp_seq ?_
          refine r_reg ?_
          refine e_end (by kernel_rfl) ?_
          refine q_next ?_
          refine pwp_ret ?_
          cases h
          exact q_ret (by kernel_rfl) (by kernel_rfl) (by kernel_rfl)

theorem d_cmp_Compare_int_eq (a b : Int) : d_cmp_Compare_int a b = some (if a < b then -1 else if b < a then 1 else 0) := by
  unfold d_cmp_Compare_int d_cmp_isNaN_int
  by_cases h1 : a < b
  · simp [h1]
  · by_cases h2 : b < a <;> simp [h1, h2]

/-! cmp.Or[int] -/
noncomputable def d_cmp_Or_int_0 (a0 : (List Int)) : Int → Option (Int ⊕ (Unit ⊕ Int)) := fun x2 =>
  bif decide (x2 < ((a0.length : Nat) : Int)) then (
    (ixO a0 x2).bind fun x4 =>
    bif (!(decide (x4 = 0))) then (
      some (.inr (.inr x4))
    ) else (
      some (.inl (w64 (x2 + 1)))
    )
  ) else (
    some (.inr (.inl ()))
  )

noncomputable def d_cmp_Or_int (a0 : (List Int)) : Option Int :=
  onInl (α := Unit) (β := Int) (loopO (d_cmp_Or_int_0 a0) 0) fun _ =>
  some 0
theorem d_cmp_Or_int_ok (a0 : (List Int)) (r : Int) (h : d_cmp_Or_int a0 = some r) : PCall Go.Proofs.Tryd.prog GlS 39 [Enc.pv a0] (Enc.pv r) := by
  unfold d_cmp_Or_int at h
  refine pcall_of_pwp Go.Proofs.Tryd.func39 (by rfl) rfl Go.Proofs.Tryd.ntmps39 (by rfl) rfl ?_
  refine pwp_seq ?_
  refine r_reg ?_
  refine e_end (by kernel_rfl) ?_
  refine q_next ?_
  refine pwp_seq ?_
  refine r_reg ?_
  refine e_end (by kernel_rfl) ?_
  refine q_next ?_
  refine pwp_seq ?_
  refine pwp_seq ?_
  refine r_reg ?_
  refine p_run 1 (by kernel_rfl) ?_
  refine p_len (L := (a0 : (List Int))) (by kernel_rfl) ?_
  refine e_end (by kernel_rfl) ?_
  refine q_next ?_
  refine pwp_block ?_
  obtain ⟨o6, h6, h⟩ := o_inl h
  refine r_loop2 18 0 (fun x2 => ⟨[(3, .int .i64 0), (6, lstOf .frozen (a0 : (List Int))), (7, .int .i64 ((a0.length : Nat) : Int)), (8, .int .i64 x2)], [], [], []⟩) (fun (_ : Unit) => ⟨[(3, .int .i64 0)], [], [], []⟩) h6 (by kernel_rfl) (fun _ => by kernel_rfl) ?_ ?_
  · rintro x2 oh5 h5
    unfold d_cmp_Or_int_0 at h5
    refine pwp_seq ?_
    refine r_reg ?_
    refine e_end (by kernel_rfl) ?_
    refine q_next ?_
    refine pwp_seq ?_
    rcases o_cond h5 with ⟨hb, h5⟩ | ⟨hb, h5⟩
    · refine r_cond_t hb (by kernel_rfl) ?_
      refine pwp_skip ?_
      refine q_next ?_
      refine pwp_seq ?_
      refine pwp_block ?_
      refine pwp_seq ?_
      refine r_reg ?_
      obtain ⟨x4, h7, h5⟩ := o_bind h5
      refine p_ix h7 (by kernel_rfl) ?_
      refine e_end (by kernel_rfl) ?_
      refine q_next ?_
      refine pwp_seq ?_
      refine r_reg ?_
      refine e_end (by kernel_rfl) ?_
      refine q_next ?_
      rcases o_cond h5 with ⟨hb, h5⟩ | ⟨hb, h5⟩
      · refine r_cond_t hb (by kernel_rfl) ?_
        refine pwp_seq ?_
        refine r_reg ?_
        refine e_end (by kernel_rfl) ?_
        refine q_next ?_
        refine pwp_ret ?_
        refine q_block_ret ?_
        refine q_seq_ret ?_
        cases h5
        refine q_lout_ret fun he => ?_
        subst he
        have h8 := o_outr h
        refine q_block_ret ?_
        refine q_seq_ret ?_
        cases h8
        exact q_ret (by kernel_rfl) (by kernel_rfl) (by kernel_rfl)
      · refine r_cond_f hb (by kernel_rfl) ?_
        refine pwp_skip ?_
        refine q_block ?_
        refine q_next ?_
        refine r_reg ?_
        refine e_end (by kernel_rfl) ?_
        cases h5
        exact q_lback (by kernel_rfl)
    · refine r_cond_f hb (by kernel_rfl) ?_
      refine pwp_exit ?_
      refine q_seq_exit ?_
      cases h5
      exact q_lexit (by kernel_rfl) (by kernel_rfl)
  · rintro _ s' rfl hs
    have h := o_outl h
    refine q_block_hit ?_
    refine q_next (pwp_wkr hs ?_)
    refine pwp_seq ?_
    refine r_reg ?_
    refine e_end (by kernel_rfl) ?_
    refine q_next ?_
    refine pwp_ret ?_
    cases h
    exact q_ret (by kernel_rfl) (by kernel_rfl) (by kernel_rfl)

theorem d_cmp_Or_int_two (a b : Int) : d_cmp_Or_int [a, b] = some (if a = 0 then b else a) := by
  unfold d_cmp_Or_int
  by_cases h1 : a = 0
  · subst h1
    have e0 : d_cmp_Or_int_0 [0, b] 0 = some (.inl 1) := by simp [d_cmp_Or_int_0, ixO, w64, IntKind.wrap, IntKind.bits, IntKind.signed]
    rw [loop_more e0]
    by_cases h2 : b = 0
    · have e1 : d_cmp_Or_int_0 [0, b] 1 = some (.inl 2) := by simp [d_cmp_Or_int_0, ixO, w64, IntKind.wrap, IntKind.bits, IntKind.signed, h2]
      have e2 : d_cmp_Or_int_0 [0, b] 2 = some (.inr (.inl ())) := by simp [d_cmp_Or_int_0]
      rw [loop_more e1, loop_done e2]
      simp [onInl, onOut, h2]
    · have e1 : d_cmp_Or_int_0 [0, b] 1 = some (.inr (.inr b)) := by simp [d_cmp_Or_int_0, ixO, h2]
      rw [loop_done e1]
      simp [onInl, onOut]
  · have e0 : d_cmp_Or_int_0 [a, b] 0 = some (.inr (.inr a)) := by simp [d_cmp_Or_int_0, ixO, h1]
    rw [loop_done e0]
    simp [onInl, onOut, h1]

/-! flank.Find$1 -/
noncomputable def d_flank_Find_c1 (a0 : T_api_Setting) (a1 : T_api_Setting) : Option Int :=
  (d_cmp_Compare_int a0.El a1.El).bind fun r1 =>
  (d_cmp_Compare_int a0.Pos a1.Pos).bind fun r2 =>
  (d_cmp_Or_int [r1, r2]).bind fun r3 =>
  some r3
theorem d_flank_Find_c1_ok (a0 : T_api_Setting) (a1 : T_api_Setting) (r : Int) (h : d_flank_Find_c1 a0 a1 = some r) : PCall Go.Proofs.Tryd.prog GlS 38 [Enc.pv a0, Enc.pv a1] (Enc.pv r) := by
  unfold d_flank_Find_c1 at h
  refine pcall_of_pwp Go.Proofs.Tryd.func38 (by rfl) rfl Go.Proofs.Tryd.ntmps38 (by rfl) rfl ?_
  refine pwp_seq ?_
  refine r_reg ?_
  refine e_end (by kernel_rfl) ?_
  refine q_next ?_
  refine pwp_seq ?_
  refine r_regd (by kernel_rfl) (by kernel_rfl) ?_
  refine p_run 4 (by kernel_rfl) ?_
  obtain ⟨r1, h1, h⟩ := o_bind h
  refine p_call (d_cmp_Compare_int_ok _ _ r1 h1) (by kernel_rfl) (by kernel_rfl) ?_
  refine p_run 4 (by kernel_rfl) ?_
  obtain ⟨r2, h2, h⟩ := o_bind h
  refine p_call (d_cmp_Compare_int_ok _ _ r2 h2) (by kernel_rfl) (by kernel_rfl) ?_
  refine p_run 1 (by kernel_rfl) ?_
  obtain ⟨r3, h3, h⟩ := o_bind h
  refine p_call (d_cmp_Or_int_ok _ r3 h3) (by kernel_rfl) (by kernel_rfl) ?_
  refine e_end (by kernel_rfl) ?_
  refine q_next ?_
  refine pwp_ret ?_
  cases h
  exact q_ret (by kernel_rfl) (by kernel_rfl) (by kernel_rfl)

def cf_d_flank_Find_c1 (x y : T_api_Setting) : Int := if x.El < y.El then -1 else if y.El < x.El then 1 else if x.Pos < y.Pos then -1 else if y.Pos < x.Pos then 1 else 0
theorem lt_d_flank_Find_c1 (x y : T_api_Setting) : Go.Proofs.ltOf cf_d_flank_Find_c1 x y = decide (x.El < y.El ∨ (x.El = y.El ∧ x.Pos < y.Pos)) := by
  unfold Go.Proofs.ltOf cf_d_flank_Find_c1
  by_cases h1 : x.El < y.El
  · simp [h1]
  · by_cases h2 : y.El < x.El
    · have : x.El ≠ y.El := by omega
      simp [h1, h2, this]
    · have e : x.El = y.El := by omega
      by_cases h3 : x.Pos < y.Pos
      · simp [e, h3]
      · by_cases h4 : y.Pos < x.Pos <;> simp [e, h3, h4]
theorem swo_d_flank_Find_c1 : Go.Sort.SWO (Go.Proofs.ltOf cf_d_flank_Find_c1) where
  irrefl x := by rw [lt_d_flank_Find_c1]; simp
  trans x y z h1 h2 := by rw [lt_d_flank_Find_c1] at *; simp only [decide_eq_true_eq] at *; omega
  ntrans x y z h1 h2 := by rw [lt_d_flank_Find_c1] at *; simp only [decide_eq_false_iff_not] at *; omega
theorem tot_d_flank_Find_c1 (x y : T_api_Setting) (h1 : Go.Proofs.ltOf cf_d_flank_Find_c1 x y = false) (h2 : Go.Proofs.ltOf cf_d_flank_Find_c1 y x = false) : x = y := by
  rw [lt_d_flank_Find_c1] at h1 h2
  simp only [decide_eq_false_iff_not] at h1 h2
  obtain ⟨a, b⟩ := x
  obtain ⟨c, d⟩ := y
  simp only at h1 h2
  have e1 : a = c := by omega
  have e2 : b = d := by omega
  rw [e1, e2]
theorem cf_d_flank_Find_c1_eq (x y : T_api_Setting) : d_flank_Find_c1 x y = some (cf_d_flank_Find_c1 x y) := by
  unfold d_flank_Find_c1
  rw [d_cmp_Compare_int_eq, d_cmp_Compare_int_eq]
  simp only [Option.bind_some, d_cmp_Or_int_two]
  unfold cf_d_flank_Find_c1
  by_cases h1 : x.El < y.El
  · simp [h1]
  · by_cases h2 : y.El < x.El
    · simp [h1, h2]
    · simp [h1, h2]

/-! slices.SortFunc[[]api.Setting,api.Setting] (the shelf's contract) -/
noncomputable def d_slices_SortFunc_api_Setting__flank_Find_c1 (a0 : (List T_api_Setting)) : Option (List T_api_Setting) := some (a0.mergeSort fun x y => !(Go.Proofs.ltOf cf_d_flank_Find_c1 y x))
theorem d_slices_SortFunc_api_Setting__flank_Find_c1_xc (a0 : (List T_api_Setting)) (r : (List T_api_Setting)) (h : d_slices_SortFunc_api_Setting__flank_Find_c1 a0 = some r) : XCall Go.Proofs.Tryd.prog GlS 37 2 16 (a0.map cellsOf) [.fn 38 []] none (r.map cellsOf) := by
  cases h
  exact xcall_sort (α := T_api_Setting) Go.Proofs.Tryd.sort37 Go.Proofs.Tryd.isAgg40 Go.Proofs.Tryd.sizeOf40 (fun _ => rfl) (fun _ => rfl) (fun _ => rfl) (by decide) cf_d_flank_Find_c1 swo_d_flank_Find_c1 tot_d_flank_Find_c1 38 (fun x y => d_flank_Find_c1_ok x y _ (cf_d_flank_Find_c1_eq x y)) ⟨_, Go.Proofs.Tryd.func37, rfl, rfl⟩ a0

/-! slices.Compact[[]api.Setting,api.Setting] -/
noncomputable def d_slices_Compact_api_Setting_1 (a0 : (List T_api_Setting)) (p140 : Nat × Nat) : (Int × Int × (List T_api_Setting)) → Option ((Int × Int × (List T_api_Setting)) ⊕ (((List T_api_Setting) × Int) ⊕ (Int ⊕ (Unit ⊕ ((List T_api_Setting) × Nat))))) := fun (x159, x160, x161) =>
  bif decide (x160 < (((p140.2 - p140.1) : Nat) : Int)) then (
    onInl (α := ((List T_api_Setting) × Int)) (β := ((Int × Int × (List T_api_Setting)) ⊕ (((List T_api_Setting) × Int) ⊕ (Int ⊕ (Unit ⊕ ((List T_api_Setting) × Nat)))))) (
      (xixO (0 + p140.1) (p140.2 - p140.1) x160).bind fun j192 =>
      (xldO x161 (((a0 : (List T_api_Setting)).map cellsOf).length) j192).bind fun x193 =>
      (xixO (0 + p140.1) (p140.2 - p140.1) (w64 (x160 - 1))).bind fun j194 =>
      (xldO x161 (((a0 : (List T_api_Setting)).map cellsOf).length) j194).bind fun x195 =>
      bif (!(eq_T_api_Setting x193 x195)) then (
        (xixO (0 + p140.1) (p140.2 - p140.1) x160).bind fun j196 =>
        (xldO x161 (((a0 : (List T_api_Setting)).map cellsOf).length) j196).bind fun x197 =>
        (xixO 0 (((a0 : (List T_api_Setting)).map cellsOf).length) x159).bind fun j198 =>
        (xldO x161 (((a0 : (List T_api_Setting)).map cellsOf).length) j198).bind fun x199 =>
        some (.inl ((x161.set j198 x197), w64 (x159 + 1)))
      ) else (
        some (.inl (x161, x159))
      )
    ) fun (x190, x191) =>
    some (.inl (x191, w64 (x160 + 1), x190))
  ) else (
    some (.inr (.inl (x161, x159)))
  )

noncomputable def d_slices_Compact_api_Setting_0 (a0 : (List T_api_Setting)) : Int → Option (Int ⊕ (Unit ⊕ ((List T_api_Setting) × Nat))) := fun x68 =>
  bif decide (x68 < ((((a0 : (List T_api_Setting)).map cellsOf).length : Nat) : Int)) then (
    (xixO 0 (((a0 : (List T_api_Setting)).map cellsOf).length) x68).bind fun j136 =>
    (xldO a0 (((a0 : (List T_api_Setting)).map cellsOf).length) j136).bind fun x137 =>
    (xixO 0 (((a0 : (List T_api_Setting)).map cellsOf).length) (w64 (x68 - 1))).bind fun j138 =>
    (xldO a0 (((a0 : (List T_api_Setting)).map cellsOf).length) j138).bind fun x139 =>
    bif eq_T_api_Setting x137 x139 then (
      (xslO (((a0 : (List T_api_Setting)).map cellsOf).length) (some x68) none).bind fun p140 =>
      onInl (α := ((List T_api_Setting) × Int)) (β := (Int ⊕ (Unit ⊕ ((List T_api_Setting) × Nat)))) (loopO (d_slices_Compact_api_Setting_1 a0 p140) (x68, 1, a0)) fun (x180, x181) =>
      (xslO (((a0 : (List T_api_Setting)).map cellsOf).length) (some x181) none).bind fun p200 =>
      (xclrO x180 (((a0 : (List T_api_Setting)).map cellsOf).length) (0 + p200.1) (p200.2 - p200.1) ((T_api_Setting.mk 0 0) : T_api_Setting)).bind fun x201 =>
      (xslhO (((a0 : (List T_api_Setting)).map cellsOf).length) x181).bind fun m202 =>
      some (.inr (.inr (x201, m202)))
    ) else (
      some (.inl (w64 (x68 + 1)))
    )
  ) else (
    some (.inr (.inl ()))
  )

noncomputable def d_slices_Compact_api_Setting (a0 : (List T_api_Setting)) : Option ((List T_api_Setting) × Nat) :=
  bif decide (((((a0 : (List T_api_Setting)).map cellsOf).length : Nat) : Int) < 2) then (
    some (a0, ((a0 : (List T_api_Setting)).map cellsOf).length)
  ) else (
    onInl (α := Unit) (β := ((List T_api_Setting) × Nat)) (loopO (d_slices_Compact_api_Setting_0 a0) 1) fun _ =>
    some (a0, ((a0 : (List T_api_Setting)).map cellsOf).length)
  )
theorem d_slices_Compact_api_Setting_xc (a0 : (List T_api_Setting)) (r : ((List T_api_Setting) × Nat)) (h : d_slices_Compact_api_Setting a0 = some r) : XCall Go.Proofs.Tryd.prog GlS 41 2 16 (a0.map cellsOf) [] (some r.2) (r.1.map cellsOf) := by
  unfold d_slices_Compact_api_Setting at h
  refine xcall_of_pwp Go.Proofs.Tryd.func41 (by rfl) rfl Go.Proofs.Tryd.ntmps41 (by rfl) rfl ?_
  refine pwp_seq ?_
  refine r_reg ?_
  refine e_end (by kernel_rfl) ?_
  refine q_next ?_
  refine pwp_seq ?_
  refine pwp_seq ?_
  refine r_reg ?_
  refine e_end (by kernel_rfl) ?_
  refine q_next ?_
  rcases o_cond h with ⟨hb, h⟩ | ⟨hb, h⟩
  · refine r_cond_t hb (by kernel_rfl) ?_
    refine pwp_seq ?_
    refine r_reg ?_
    refine e_end (by kernel_rfl) ?_
    refine q_next ?_
    refine pwp_ret ?_
    refine q_seq_ret ?_
    cases h
    exact q_xret (by kernel_rfl)
  · refine r_cond_f hb (by kernel_rfl) ?_
    refine pwp_skip ?_
    refine q_next ?_
    refine pwp_seq ?_
    refine pwp_seq ?_
    refine r_reg ?_
    refine e_end (by kernel_rfl) ?_
    refine q_next ?_
    refine pwp_block ?_
    obtain ⟨o126, h126, h⟩ := o_inl h
    refine r_loop2 61 0 (fun x68 => ⟨[(0, .ex 1000000000 2 16 (((a0 : (List T_api_Setting)).map cellsOf).length) 0 (((a0 : (List T_api_Setting)).map cellsOf).length)), (3, .int .i64 x68)], [], [(1000000000, (((a0 : (List T_api_Setting)).map cellsOf).length, 0))], [(1000000000, (2, (16, (a0 : (List T_api_Setting)).map cellsOf)))]⟩) (fun (_ : Unit) => ⟨[(0, .ex 1000000000 2 16 (((a0 : (List T_api_Setting)).map cellsOf).length) 0 (((a0 : (List T_api_Setting)).map cellsOf).length))], [], [(1000000000, (((a0 : (List T_api_Setting)).map cellsOf).length, 0))], [(1000000000, (2, (16, (a0 : (List T_api_Setting)).map cellsOf)))]⟩) h126 (by kernel_rfl) (fun _ => by kernel_rfl) ?_ ?_
    · rintro x68 oh125 h125
      unfold d_slices_Compact_api_Setting_0 at h125
      refine pwp_seq ?_
      refine pwp_seq ?_
      refine r_reg ?_
      refine e_end (by kernel_rfl) ?_
      refine q_next ?_
      rcases o_cond h125 with ⟨hb, h125⟩ | ⟨hb, h125⟩
      · refine r_cond_t hb (by kernel_rfl) ?_
        refine pwp_skip ?_
        refine q_next ?_
        refine pwp_seq ?_
        refine pwp_block ?_
        refine pwp_seq ?_
        refine r_regd (by kernel_rfl) (by kernel_rfl) ?_
        refine p_run 2 (by kernel_rfl) ?_
        obtain ⟨j136, h127, h125⟩ := o_bind h125
        refine p_xix (tk := 1000000000) (k := 2) (N := ((a0 : (List T_api_Setting)).map cellsOf).length) h127 (by kernel_rfl) ?_
        obtain ⟨x137, h128, h125⟩ := o_bind h125
        refine p_xld (L := (a0 : (List T_api_Setting))) (N := ((a0 : (List T_api_Setting)).map cellsOf).length) (j := j136) (y := x137) (v := Enc.pv x137) h128 true 2 0 (by kernel_rfl) (by kernel_rfl) ?_
        refine p_run 3 (by kernel_rfl) ?_
        obtain ⟨j138, h129, h125⟩ := o_bind h125
        refine p_xix (tk := 1000000000) (k := 2) (N := ((a0 : (List T_api_Setting)).map cellsOf).length) h129 (by kernel_rfl) ?_
        obtain ⟨x139, h130, h125⟩ := o_bind h125
        refine p_xld (L := (a0 : (List T_api_Setting))) (N := ((a0 : (List T_api_Setting)).map cellsOf).length) (j := j138) (y := x139) (v := Enc.pv x139) h130 true 2 0 (by kernel_rfl) (by kernel_rfl) ?_
        refine e_end (by kernel_rfl) ?_
        refine q_next ?_
        rcases o_cond h125 with ⟨hb, h125⟩ | ⟨hb, h125⟩
        · refine r_cond_t hb (by kernel_rfl) ?_
          refine pwp_seq ?_
          refine r_reg ?_
          refine p_run 2 (by kernel_rfl) ?_
          obtain ⟨p140, h131, h125⟩ := o_bind h125
          refine p_xsl (tk := 1000000000) (k := 2) (b := 16) (N := ((a0 : (List T_api_Setting)).map cellsOf).length) (o := 0) (lo := (some x68)) (hi := none) h131 (by kernel_rfl) ?_
          refine e_end (by kernel_rfl) ?_
          refine q_next ?_
          refine pwp_seq ?_
          refine pwp_seq ?_
          refine r_reg ?_
          refine e_end (by kernel_rfl) ?_
          refine q_next ?_
          refine pwp_block ?_
          obtain ⟨o167, h167, h125⟩ := o_inl h125
          refine r_loop2 61 2 (fun (x159, x160, x161) => ⟨[(0, .ex 1000000000 2 16 (((a0 : (List T_api_Setting)).map cellsOf).length) 0 (((a0 : (List T_api_Setting)).map cellsOf).length)), (3, .int .i64 x159), (4, .ex 1000000000 2 16 (((a0 : (List T_api_Setting)).map cellsOf).length) (0 + p140.1) (p140.2 - p140.1)), (5, .int .i64 x160)], [], [(1000000000, (((a0 : (List T_api_Setting)).map cellsOf).length, 0))], [(1000000000, (2, (16, (x161 : (List T_api_Setting)).map cellsOf)))]⟩) (fun (x180, x181) => ⟨[(0, .ex 1000000000 2 16 (((a0 : (List T_api_Setting)).map cellsOf).length) 0 (((a0 : (List T_api_Setting)).map cellsOf).length)), (3, .int .i64 x181)], [], [(1000000000, (((a0 : (List T_api_Setting)).map cellsOf).length, 0))], [(1000000000, (2, (16, (x180 : (List T_api_Setting)).map cellsOf)))]⟩) h167 (by kernel_rfl) (fun _ => by kernel_rfl) ?_ ?_
          · rintro ⟨x159, x160, x161⟩ oh166 h166
            unfold d_slices_Compact_api_Setting_1 at h166
            refine pwp_seq ?_
            refine pwp_seq ?_
            refine r_reg ?_
            refine e_end (by kernel_rfl) ?_
            refine q_next ?_
            rcases o_cond h166 with ⟨hb, h166⟩ | ⟨hb, h166⟩
            · refine r_cond_t hb (by kernel_rfl) ?_
              refine pwp_skip ?_
              refine q_next ?_
              obtain ⟨o176, h176, h166⟩ := o_inl h166
              refine r_join (o := o176) 61 (fun (x190, x191) => ⟨[(0, .ex 1000000000 2 16 (((a0 : (List T_api_Setting)).map cellsOf).length) 0 (((a0 : (List T_api_Setting)).map cellsOf).length)), (3, .int .i64 x191), (4, .ex 1000000000 2 16 (((a0 : (List T_api_Setting)).map cellsOf).length) (0 + p140.1) (p140.2 - p140.1)), (5, .int .i64 x160)], [], [(1000000000, (((a0 : (List T_api_Setting)).map cellsOf).length, 0))], [(1000000000, (2, (16, (x190 : (List T_api_Setting)).map cellsOf)))]⟩) ?_ ?_
              · refine pwp_block ?_
                refine pwp_seq ?_
                refine r_regd (by kernel_rfl) (by kernel_rfl) ?_
                refine p_run 2 (by kernel_rfl) ?_
                obtain ⟨j192, h177, h176⟩ := o_bind h176
                refine p_xix (tk := 1000000000) (k := 2) (N := ((a0 : (List T_api_Setting)).map cellsOf).length) h177 (by kernel_rfl) ?_
                obtain ⟨x193, h178, h176⟩ := o_bind h176
                refine p_xld (L := (x161 : (List T_api_Setting))) (N := ((a0 : (List T_api_Setting)).map cellsOf).length) (j := j192) (y := x193) (v := Enc.pv x193) h178 true 2 0 (by kernel_rfl) (by kernel_rfl) ?_
                refine p_run 3 (by kernel_rfl) ?_
                obtain ⟨j194, h179, h176⟩ := o_bind h176
                refine p_xix (tk := 1000000000) (k := 2) (N := ((a0 : (List T_api_Setting)).map cellsOf).length) h179 (by kernel_rfl) ?_
                obtain ⟨x195, h180, h176⟩ := o_bind h176
                refine p_xld (L := (x161 : (List T_api_Setting))) (N := ((a0 : (List T_api_Setting)).map cellsOf).length) (j := j194) (y := x195) (v := Enc.pv x195) h180 true 2 0 (by kernel_rfl) (by kernel_rfl) ?_
                refine e_end (by kernel_rfl) ?_
                refine q_next ?_
                rcases o_cond h176 with ⟨hb, h176⟩ | ⟨hb, h176⟩
                · refine r_cond_t hb (by kernel_rfl) ?_
                  refine pwp_seq ?_
                  refine r_reg ?_
                  refine p_run 4 (by kernel_rfl) ?_
                  obtain ⟨j196, h181, h176⟩ := o_bind h176
                  refine p_xix (tk := 1000000000) (k := 2) (N := ((a0 : (List T_api_Setting)).map cellsOf).length) h181 (by kernel_rfl) ?_
                  obtain ⟨x197, h182, h176⟩ := o_bind h176
                  refine p_xld (L := (x161 : (List T_api_Setting))) (N := ((a0 : (List T_api_Setting)).map cellsOf).length) (j := j196) (y := x197) (v := Enc.pv x197) h182 true 2 0 (by kernel_rfl) (by kernel_rfl) ?_
                  obtain ⟨j198, h183, h176⟩ := o_bind h176
                  refine p_xix (tk := 1000000000) (k := 2) (N := ((a0 : (List T_api_Setting)).map cellsOf).length) h183 (by kernel_rfl) ?_
                  obtain ⟨x199, h184, h176⟩ := o_bind h176
                  refine p_xst (L := (x161 : (List T_api_Setting))) (tk := 1000000000) (N := ((a0 : (List T_api_Setting)).map cellsOf).length) (j := j198) (y := x199) (y' := x197) h184 0 2 [.int .i64 x197.El, .int .i64 x197.Pos] (by kernel_rfl) (by kernel_rfl) ?_
                  refine e_nil (by kernel_rfl) ?_
                  refine q_next ?_
                  refine r_reg ?_
                  refine e_end (by kernel_rfl) ?_
                  refine q_block ?_
                  cases h176
                  exact q_join (by kernel_rfl) (by kernel_rfl)
                · refine r_cond_f hb (by kernel_rfl) ?_
                  refine pwp_skip ?_
                  refine q_block ?_
                  cases h176
                  exact q_join (by kernel_rfl) (by kernel_rfl)
              · rintro ⟨x190, x191⟩ rfl
                have h166 := o_outl h166
                refine r_reg ?_
                refine e_end (by kernel_rfl) ?_
                cases h166
                exact q_lback (by kernel_rfl)
            · refine r_cond_f hb (by kernel_rfl) ?_
              refine pwp_exit ?_
              refine q_seq_exit ?_
              cases h166
              exact q_lexit (by kernel_rfl) (by kernel_rfl)
          · rintro ⟨x180, x181⟩ s' rfl hs
            have h125 := o_outl h125
            refine q_block_hit ?_
            refine q_next (pwp_wkr hs ?_)
            refine pwp_seq ?_
            refine r_reg ?_
            refine p_run 2 (by kernel_rfl) ?_
            obtain ⟨p200, h185, h125⟩ := o_bind h125
            refine p_xsl (tk := 1000000000) (k := 2) (b := 16) (N := ((a0 : (List T_api_Setting)).map cellsOf).length) (o := 0) (lo := (some x181)) (hi := none) h185 (by kernel_rfl) ?_
            obtain ⟨x201, h186, h125⟩ := o_bind h125
            refine p_xclr (L := (x180 : (List T_api_Setting))) (tk := 1000000000) (N := ((a0 : (List T_api_Setting)).map cellsOf).length) (z := ((T_api_Setting.mk 0 0) : T_api_Setting)) h186 (by kernel_rfl) (by kernel_rfl) (by kernel_rfl) rfl ?_
            refine e_nil (by kernel_rfl) ?_
            refine q_next ?_
            refine pwp_seq ?_
            refine r_reg ?_
            refine p_run 2 (by kernel_rfl) ?_
            obtain ⟨m202, h187, h125⟩ := o_bind h125
            refine p_xslh (tk := 1000000000) (k := 2) (b := 16) (N := ((a0 : (List T_api_Setting)).map cellsOf).length) (o := 0) h187 (by kernel_rfl) ?_
            refine e_end (by kernel_rfl) ?_
            refine q_next ?_
            refine pwp_ret ?_
            refine q_block_ret ?_
            refine q_seq_ret ?_
            cases h125
            refine q_lout_ret fun he => ?_
            subst he
            have h188 := o_outr h
            refine q_block_ret ?_
            refine q_seq_ret ?_
            cases h188
            exact q_xret (by kernel_rfl)
        · refine r_cond_f hb (by kernel_rfl) ?_
          refine pwp_skip ?_
          refine q_block ?_
          refine q_next ?_
          refine r_reg ?_
          refine e_end (by kernel_rfl) ?_
          cases h125
          exact q_lback (by kernel_rfl)
      · refine r_cond_f hb (by kernel_rfl) ?_
        refine pwp_exit ?_
        refine q_seq_exit ?_
        cases h125
        exact q_lexit (by kernel_rfl) (by kernel_rfl)
    · rintro _ s' rfl hs
      have h := o_outl h
      refine q_block_hit ?_
      refine q_next (pwp_wkr hs ?_)
      refine pwp_seq ?_
      refine r_reg ?_
      refine e_end (by kernel_rfl) ?_
      refine q_next ?_
      refine pwp_ret ?_
      cases h
      exact q_xret (by kernel_rfl)

/-! slices.Sort[[]int,int] (the shelf's contract) -/
noncomputable def d_slices_Sort_int (a0 : (List Int)) : Option (List Int) := some (a0.mergeSort fun x y => decide (x ≤ y))
theorem d_slices_Sort_int_xc (a0 : (List Int)) (r : (List Int)) (h : d_slices_Sort_int a0 = some r) : XCall Go.Proofs.Tryd.prog GlS 42 1 8 (a0.map cellsOf) [] none (r.map cellsOf) := by
  cases h
  exact xcall_sortI Go.Proofs.Tryd.sort42 ⟨_, Go.Proofs.Tryd.func42, rfl, rfl⟩ a0

/-! slices.Compact[[]int,int] -/
noncomputable def d_slices_Compact_int_1 (a0 : (List Int)) (p140 : Nat × Nat) : (Int × Int × (List Int)) → Option ((Int × Int × (List Int)) ⊕ (((List Int) × Int) ⊕ (Int ⊕ (Unit ⊕ ((List Int) × Nat))))) := fun (x159, x160, x161) =>
  bif decide (x160 < (((p140.2 - p140.1) : Nat) : Int)) then (
    onInl (α := ((List Int) × Int)) (β := ((Int × Int × (List Int)) ⊕ (((List Int) × Int) ⊕ (Int ⊕ (Unit ⊕ ((List Int) × Nat)))))) (
      (xixO (0 + p140.1) (p140.2 - p140.1) x160).bind fun j192 =>
      (xldO x161 (((a0 : (List Int)).map cellsOf).length) j192).bind fun x193 =>
      (xixO (0 + p140.1) (p140.2 - p140.1) (w64 (x160 - 1))).bind fun j194 =>
      (xldO x161 (((a0 : (List Int)).map cellsOf).length) j194).bind fun x195 =>
      bif (!(decide (x193 = x195))) then (
        (xixO (0 + p140.1) (p140.2 - p140.1) x160).bind fun j196 =>
        (xldO x161 (((a0 : (List Int)).map cellsOf).length) j196).bind fun x197 =>
        (xixO 0 (((a0 : (List Int)).map cellsOf).length) x159).bind fun j198 =>
        (xldO x161 (((a0 : (List Int)).map cellsOf).length) j198).bind fun x199 =>
        some (.inl ((x161.set j198 x197), w64 (x159 + 1)))
      ) else (
        some (.inl (x161, x159))
      )
    ) fun (x190, x191) =>
    some (.inl (x191, w64 (x160 + 1), x190))
  ) else (
    some (.inr (.inl (x161, x159)))
  )

noncomputable def d_slices_Compact_int_0 (a0 : (List Int)) : Int → Option (Int ⊕ (Unit ⊕ ((List Int) × Nat))) := fun x68 =>
  bif decide (x68 < ((((a0 : (List Int)).map cellsOf).length : Nat) : Int)) then (
    (xixO 0 (((a0 : (List Int)).map cellsOf).length) x68).bind fun j136 =>
    (xldO a0 (((a0 : (List Int)).map cellsOf).length) j136).bind fun x137 =>
    (xixO 0 (((a0 : (List Int)).map cellsOf).length) (w64 (x68 - 1))).bind fun j138 =>
    (xldO a0 (((a0 : (List Int)).map cellsOf).length) j138).bind fun x139 =>
    bif decide (x137 = x139) then (
      (xslO (((a0 : (List Int)).map cellsOf).length) (some x68) none).bind fun p140 =>
      onInl (α := ((List Int) × Int)) (β := (Int ⊕ (Unit ⊕ ((List Int) × Nat)))) (loopO (d_slices_Compact_int_1 a0 p140) (x68, 1, a0)) fun (x180, x181) =>
      (xslO (((a0 : (List Int)).map cellsOf).length) (some x181) none).bind fun p200 =>
      (xclrO x180 (((a0 : (List Int)).map cellsOf).length) (0 + p200.1) (p200.2 - p200.1) (0 : Int)).bind fun x201 =>
      (xslhO (((a0 : (List Int)).map cellsOf).length) x181).bind fun m202 =>
      some (.inr (.inr (x201, m202)))
    ) else (
      some (.inl (w64 (x68 + 1)))
    )
  ) else (
    some (.inr (.inl ()))
  )

noncomputable def d_slices_Compact_int (a0 : (List Int)) : Option ((List Int) × Nat) :=
  bif decide (((((a0 : (List Int)).map cellsOf).length : Nat) : Int) < 2) then (
    some (a0, ((a0 : (List Int)).map cellsOf).length)
  ) else (
    onInl (α := Unit) (β := ((List Int) × Nat)) (loopO (d_slices_Compact_int_0 a0) 1) fun _ =>
    some (a0, ((a0 : (List Int)).map cellsOf).length)
  )
theorem d_slices_Compact_int_xc (a0 : (List Int)) (r : ((List Int) × Nat)) (h : d_slices_Compact_int a0 = some r) : XCall Go.Proofs.Tryd.prog GlS 43 1 8 (a0.map cellsOf) [] (some r.2) (r.1.map cellsOf) := by
  unfold d_slices_Compact_int at h
  refine xcall_of_pwp Go.Proofs.Tryd.func43 (by rfl) rfl Go.Proofs.Tryd.ntmps43 (by rfl) rfl ?_
  refine pwp_seq ?_
  refine r_reg ?_
  refine e_end (by kernel_rfl) ?_
  refine q_next ?_
  refine pwp_seq ?_
  refine pwp_seq ?_
  refine r_reg ?_
  refine e_end (by kernel_rfl) ?_
  refine q_next ?_
  rcases o_cond h with ⟨hb, h⟩ | ⟨hb, h⟩
  · refine r_cond_t hb (by kernel_rfl) ?_
    refine pwp_seq ?_
    refine r_reg ?_
    refine e_end (by kernel_rfl) ?_
    refine q_next ?_
    refine pwp_ret ?_
    refine q_seq_ret ?_
    cases h
    exact q_xret (by kernel_rfl)
  · refine r_cond_f hb (by kernel_rfl) ?_
    refine pwp_skip ?_
    refine q_next ?_
    refine pwp_seq ?_
    refine pwp_seq ?_
    refine r_reg ?_
    refine e_end (by kernel_rfl) ?_
    refine q_next ?_
    refine pwp_block ?_
    obtain ⟨o126, h126, h⟩ := o_inl h
    refine r_loop2 61 0 (fun x68 => ⟨[(0, .ex 1000000000 1 8 (((a0 : (List Int)).map cellsOf).length) 0 (((a0 : (List Int)).map cellsOf).length)), (3, .int .i64 x68)], [], [(1000000000, (((a0 : (List Int)).map cellsOf).length, 0))], [(1000000000, (1, (8, (a0 : (List Int)).map cellsOf)))]⟩) (fun (_ : Unit) => ⟨[(0, .ex 1000000000 1 8 (((a0 : (List Int)).map cellsOf).length) 0 (((a0 : (List Int)).map cellsOf).length))], [], [(1000000000, (((a0 : (List Int)).map cellsOf).length, 0))], [(1000000000, (1, (8, (a0 : (List Int)).map cellsOf)))]⟩) h126 (by kernel_rfl) (fun _ => by kernel_rfl) ?_ ?_
    · rintro x68 oh125 h125
      unfold d_slices_Compact_int_0 at h125
      refine pwp_seq ?_
      refine pwp_seq ?_
      refine r_reg ?_
      refine e_end (by kernel_rfl) ?_
      refine q_next ?_
      rcases o_cond h125 with ⟨hb, h125⟩ | ⟨hb, h125⟩
      · refine r_cond_t hb (by kernel_rfl) ?_
        refine pwp_skip ?_
        refine q_next ?_
        refine pwp_seq ?_
        refine pwp_block ?_
        refine pwp_seq ?_
        refine r_regd (by kernel_rfl) (by kernel_rfl) ?_
        refine p_run 2 (by kernel_rfl) ?_
        obtain ⟨j136, h127, h125⟩ := o_bind h125
        refine p_xix (tk := 1000000000) (k := 1) (N := ((a0 : (List Int)).map cellsOf).length) h127 (by kernel_rfl) ?_
        obtain ⟨x137, h128, h125⟩ := o_bind h125
        refine p_xld (L := (a0 : (List Int))) (N := ((a0 : (List Int)).map cellsOf).length) (j := j136) (y := x137) (v := .int .i64 x137) h128 false 1 0 (by kernel_rfl) (by kernel_rfl) ?_
        refine p_run 3 (by kernel_rfl) ?_
        obtain ⟨j138, h129, h125⟩ := o_bind h125
        refine p_xix (tk := 1000000000) (k := 1) (N := ((a0 : (List Int)).map cellsOf).length) h129 (by kernel_rfl) ?_
        obtain ⟨x139, h130, h125⟩ := o_bind h125
        refine p_xld (L := (a0 : (List Int))) (N := ((a0 : (List Int)).map cellsOf).length) (j := j138) (y := x139) (v := .int .i64 x139) h130 false 1 0 (by kernel_rfl) (by kernel_rfl) ?_
        refine e_end (by kernel_rfl) ?_
        refine q_next ?_
        rcases o_cond h125 with ⟨hb, h125⟩ | ⟨hb, h125⟩
        · refine r_cond_t hb (by kernel_rfl) ?_
          refine pwp_seq ?_
          refine r_reg ?_
          refine p_run 2 (by kernel_rfl) ?_
          obtain ⟨p140, h131, h125⟩ := o_bind h125
          refine p_xsl (tk := 1000000000) (k := 1) (b := 8) (N := ((a0 : (List Int)).map cellsOf).length) (o := 0) (lo := (some x68)) (hi := none) h131 (by kernel_rfl) ?_
          refine e_end (by kernel_rfl) ?_
          refine q_next ?_
          refine pwp_seq ?_
          refine pwp_seq ?_
          refine r_reg ?_
          refine e_end (by kernel_rfl) ?_
          refine q_next ?_
          refine pwp_block ?_
          obtain ⟨o167, h167, h125⟩ := o_inl h125
          refine r_loop2 61 2 (fun (x159, x160, x161) => ⟨[(0, .ex 1000000000 1 8 (((a0 : (List Int)).map cellsOf).length) 0 (((a0 : (List Int)).map cellsOf).length)), (3, .int .i64 x159), (4, .ex 1000000000 1 8 (((a0 : (List Int)).map cellsOf).length) (0 + p140.1) (p140.2 - p140.1)), (5, .int .i64 x160)], [], [(1000000000, (((a0 : (List Int)).map cellsOf).length, 0))], [(1000000000, (1, (8, (x161 : (List Int)).map cellsOf)))]⟩) (fun (x180, x181) => ⟨[(0, .ex 1000000000 1 8 (((a0 : (List Int)).map cellsOf).length) 0 (((a0 : (List Int)).map cellsOf).length)), (3, .int .i64 x181)], [], [(1000000000, (((a0 : (List Int)).map cellsOf).length, 0))], [(1000000000, (1, (8, (x180 : (List Int)).map cellsOf)))]⟩) h167 (by kernel_rfl) (fun _ => by kernel_rfl) ?_ ?_
          · rintro ⟨x159, x160, x161⟩ oh166 h166
            unfold d_slices_Compact_int_1 at h166
            refine pwp_seq ?_
            refine pwp_seq ?_
            refine r_reg ?_
            refine e_end (by kernel_rfl) ?_
            refine q_next ?_
            rcases o_cond h166 with ⟨hb, h166⟩ | ⟨hb, h166⟩
            · refine r_cond_t hb (by kernel_rfl) ?_
              refine pwp_skip ?_
              refine q_next ?_
              obtain ⟨o176, h176, h166⟩ := o_inl h166
              refine r_join (o := o176) 61 (fun (x190, x191) => ⟨[(0, .ex 1000000000 1 8 (((a0 : (List Int)).map cellsOf).length) 0 (((a0 : (List Int)).map cellsOf).length)), (3, .int .i64 x191), (4, .ex 1000000000 1 8 (((a0 : (List Int)).map cellsOf).length) (0 + p140.1) (p140.2 - p140.1)), (5, .int .i64 x160)], [], [(1000000000, (((a0 : (List Int)).map cellsOf).length, 0))], [(1000000000, (1, (8, (x190 : (List Int)).map cellsOf)))]⟩) ?_ ?_
              · refine pwp_block ?_
                refine pwp_seq ?_
                refine r_regd (by kernel_rfl) (by kernel_rfl) ?_
                refine p_run 2 (by kernel_rfl) ?_
                obtain ⟨j192, h177, h176⟩ := o_bind h176
                refine p_xix (tk := 1000000000) (k := 1) (N := ((a0 : (List Int)).map cellsOf).length) h177 (by kernel_rfl) ?_
                obtain ⟨x193, h178, h176⟩ := o_bind h176
                refine p_xld (L := (x161 : (List Int))) (N := ((a0 : (List Int)).map cellsOf).length) (j := j192) (y := x193) (v := .int .i64 x193) h178 false 1 0 (by kernel_rfl) (by kernel_rfl) ?_
                refine p_run 3 (by kernel_rfl) ?_
                obtain ⟨j194, h179, h176⟩ := o_bind h176
                refine p_xix (tk := 1000000000) (k := 1) (N := ((a0 : (List Int)).map cellsOf).length) h179 (by kernel_rfl) ?_
                obtain ⟨x195, h180, h176⟩ := o_bind h176
                refine p_xld (L := (x161 : (List Int))) (N := ((a0 : (List Int)).map cellsOf).length) (j := j194) (y := x195) (v := .int .i64 x195) h180 false 1 0 (by kernel_rfl) (by kernel_rfl) ?_
                refine e_end (by kernel_rfl) ?_
                refine q_next ?_
                rcases o_cond h176 with ⟨hb, h176⟩ | ⟨hb, h176⟩
                · refine r_cond_t hb (by kernel_rfl) ?_
                  refine pwp_seq ?_
                  refine r_reg ?_
                  refine p_run 4 (by kernel_rfl) ?_
                  obtain ⟨j196, h181, h176⟩ := o_bind h176
                  refine p_xix (tk := 1000000000) (k := 1) (N := ((a0 : (List Int)).map cellsOf).length) h181 (by kernel_rfl) ?_
                  obtain ⟨x197, h182, h176⟩ := o_bind h176
                  refine p_xld (L := (x161 : (List Int))) (N := ((a0 : (List Int)).map cellsOf).length) (j := j196) (y := x197) (v := .int .i64 x197) h182 false 1 0 (by kernel_rfl) (by kernel_rfl) ?_
                  obtain ⟨j198, h183, h176⟩ := o_bind h176
                  refine p_xix (tk := 1000000000) (k := 1) (N := ((a0 : (List Int)).map cellsOf).length) h183 (by kernel_rfl) ?_
                  obtain ⟨x199, h184, h176⟩ := o_bind h176
                  refine p_xst (L := (x161 : (List Int))) (tk := 1000000000) (N := ((a0 : (List Int)).map cellsOf).length) (j := j198) (y := x199) (y' := x197) h184 0 1 [.int .i64 x197] (by kernel_rfl) (by kernel_rfl) ?_
                  refine e_nil (by kernel_rfl) ?_
                  refine q_next ?_
                  refine r_reg ?_
                  refine e_end (by kernel_rfl) ?_
                  refine q_block ?_
                  cases h176
                  exact q_join (by kernel_rfl) (by kernel_rfl)
                · refine r_cond_f hb (by kernel_rfl) ?_
                  refine pwp_skip ?_
                  refine q_block ?_
                  cases h176
                  exact q_join (by kernel_rfl) (by kernel_rfl)
              · rintro ⟨x190, x191⟩ rfl
                have h166 := o_outl h166
                refine r_reg ?_
                refine e_end (by kernel_rfl) ?_
                cases h166
                exact q_lback (by kernel_rfl)
            · refine r_cond_f hb (by kernel_rfl) ?_
              refine pwp_exit ?_
              refine q_seq_exit ?_
              cases h166
              exact q_lexit (by kernel_rfl) (by kernel_rfl)
          · rintro ⟨x180, x181⟩ s' rfl hs
            have h125 := o_outl h125
            refine q_block_hit ?_
            refine q_next (pwp_wkr hs ?_)
            refine pwp_seq ?_
            refine r_reg ?_
            refine p_run 2 (by kernel_rfl) ?_
            obtain ⟨p200, h185, h125⟩ := o_bind h125
            refine p_xsl (tk := 1000000000) (k := 1) (b := 8) (N := ((a0 : (List Int)).map cellsOf).length) (o := 0) (lo := (some x181)) (hi := none) h185 (by kernel_rfl) ?_
            obtain ⟨x201, h186, h125⟩ := o_bind h125
            refine p_xclr (L := (x180 : (List Int))) (tk := 1000000000) (N := ((a0 : (List Int)).map cellsOf).length) (z := (0 : Int)) h186 (by kernel_rfl) (by kernel_rfl) (by kernel_rfl) rfl ?_
            refine e_nil (by kernel_rfl) ?_
            refine q_next ?_
            refine pwp_seq ?_
            refine r_reg ?_
            refine p_run 2 (by kernel_rfl) ?_
            obtain ⟨m202, h187, h125⟩ := o_bind h125
            refine p_xslh (tk := 1000000000) (k := 1) (b := 8) (N := ((a0 : (List Int)).map cellsOf).length) (o := 0) h187 (by kernel_rfl) ?_
            refine e_end (by kernel_rfl) ?_
            refine q_next ?_
            refine pwp_ret ?_
            refine q_block_ret ?_
            refine q_seq_ret ?_
            cases h125
            refine q_lout_ret fun he => ?_
            subst he
            have h188 := o_outr h
            refine q_block_ret ?_
            refine q_seq_ret ?_
            cases h188
            exact q_xret (by kernel_rfl)
        · refine r_cond_f hb (by kernel_rfl) ?_
          refine pwp_skip ?_
          refine q_block ?_
          refine q_next ?_
          refine r_reg ?_
          refine e_end (by kernel_rfl) ?_
          cases h125
          exact q_lback (by kernel_rfl)
      · refine r_cond_f hb (by kernel_rfl) ?_
        refine pwp_exit ?_
        refine q_seq_exit ?_
        cases h125
        exact q_lexit (by kernel_rfl) (by kernel_rfl)
    · rintro _ s' rfl hs
      have h := o_outl h
      refine q_block_hit ?_
      refine q_next (pwp_wkr hs ?_)
      refine pwp_seq ?_
      refine r_reg ?_
      refine e_end (by kernel_rfl) ?_
      refine q_next ?_
      refine pwp_ret ?_
      cases h
      exact q_xret (by kernel_rfl)

end PM
