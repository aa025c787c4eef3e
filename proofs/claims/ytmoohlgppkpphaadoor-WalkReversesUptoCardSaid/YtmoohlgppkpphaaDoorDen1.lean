/-
  Plain functions for the program's functions, and the proofs that the program does them. Printed by den.py.
-/
import Derived.Test.YtmoohlgppkpphaaDoorDen0
namespace PM
open Go Go.RowKit
attribute [local irreducible] pops pwp

/-! walk.Reverse -/
noncomputable def d_walk_Reverse_0 (a0 : (List T_api_Step)) : ((List T_api_Step) × Int) → Option (((List T_api_Step) × Int) ⊕ ((List T_api_Step) ⊕ (List T_api_Step))) := fun (x6, x7) =>
  bif decide (0 ≤ x7) then (
    (ixO a0 x7).bind fun x13 =>
    (ixO a0 x7).bind fun x14 =>
    (ixO a0 x7).bind fun x15 =>
    (appO x6 [(T_api_Step.mk x13.El x14.Out x15.In)]).bind fun x16 =>
    some (.inl (x16, w64 (x7 - 1)))
  ) else (
    some (.inr (.inl x6))
  )

noncomputable def d_walk_Reverse (a0 : (List T_api_Step)) : Option (List T_api_Step) :=
  (mkO T_api_Step ((a0.length : Nat) : Int)).bind fun x1 =>
  onInl (α := (List T_api_Step)) (β := (List T_api_Step)) (loopO (d_walk_Reverse_0 a0) (x1, w64 (((a0.length : Nat) : Int) - 1))) fun x12 =>
  some x12
theorem d_walk_Reverse_ok (a0 : (List T_api_Step)) (r : (List T_api_Step)) (h : d_walk_Reverse a0 = some r) : PCall Go.Proofs.Tryd.prog GlS 35 [Enc.pv a0] (lstOf (.own 7) r) := by
  unfold d_walk_Reverse at h
  refine pcall_of_pwp Go.Proofs.Tryd.func35 (by rfl) rfl Go.Proofs.Tryd.ntmps35 (by rfl) rfl ?_
  refine pwp_seq ?_
  refine r_reg ?_
  refine e_end (by kernel_rfl) ?_
  refine q_next ?_
  refine pwp_seq ?_
  refine r_reg ?_
  refine p_run 1 (by kernel_rfl) ?_
  refine p_len (L := (a0 : (List T_api_Step))) (by kernel_rfl) ?_
  obtain ⟨x1, h1, h⟩ := o_bind h
  refine p_mks 7 h1 (by kernel_rfl) ?_
  refine e_end (by kernel_rfl) ?_
  refine q_next ?_
  refine pwp_seq ?_
  refine pwp_seq ?_
  refine r_reg ?_
  refine p_run 1 (by kernel_rfl) ?_
  refine p_len (L := (a0 : (List T_api_Step))) (by kernel_rfl) ?_
  refine e_end (by kernel_rfl) ?_
  refine q_next ?_
  refine pwp_block ?_
  obtain ⟨o11, h11, h⟩ := o_inl h
  refine r_loop2 35 0 (fun (x6, x7) => ⟨[(0, lstOf .frozen (a0 : (List T_api_Step))), (3, lstOf (.own 7) (x6 : (List T_api_Step))), (4, .int .i64 x7)], [], [(7, (((x6).map cellsOf).length, 3))], []⟩) (fun x12 => ⟨[(3, lstOf (.own 7) (x12 : (List T_api_Step)))], [], [(7, (((x12).map cellsOf).length, 3))], []⟩) h11 (by kernel_rfl) (fun _ => by kernel_rfl) ?_ ?_
  · rintro ⟨x6, x7⟩ oh10 h10
    unfold d_walk_Reverse_0 at h10
    refine pwp_seq ?_
    refine pwp_seq ?_
    refine r_reg ?_
    refine e_end (by kernel_rfl) ?_
    refine q_next ?_
    rcases o_cond h10 with ⟨hb, h10⟩ | ⟨hb, h10⟩
    · refine r_cond_t hb (by kernel_rfl) ?_
      refine pwp_skip ?_
      refine q_next ?_
      refine pwp_seq ?_
      refine pwp_block ?_
      refine r_regd (by kernel_rfl) (by kernel_rfl) ?_
      refine p_run 3 (by kernel_rfl) ?_
      obtain ⟨x13, h12, h10⟩ := o_bind h10
      refine p_ix h12 (by kernel_rfl) ?_
      refine p_run 4 (by kernel_rfl) ?_
      obtain ⟨x14, h13, h10⟩ := o_bind h10
      refine p_ix h13 (by kernel_rfl) ?_
      refine p_run 4 (by kernel_rfl) ?_
      obtain ⟨x15, h14, h10⟩ := o_bind h10
      refine p_ix h14 (by kernel_rfl) ?_
      refine p_run 4 (by kernel_rfl) ?_
      obtain ⟨x16, h15, h10⟩ := o_bind h10
      refine p_app (tk := 7) h15 (by kernel_rfl) (by kernel_rfl) ?_
      refine e_end (by kernel_rfl) ?_
      refine q_block ?_
      refine q_next ?_
      refine r_reg ?_
      refine e_end (by kernel_rfl) ?_
      cases h10
      exact q_lback (by kernel_rfl)
    · refine r_cond_f hb (by kernel_rfl) ?_
      refine pwp_exit ?_
      refine q_seq_exit ?_
      cases h10
      exact q_lexit (by kernel_rfl) (by kernel_rfl)
  · rintro x12 s' rfl hs
    have h := o_outl h
    refine q_block_hit ?_
    refine q_next (pwp_wkr hs ?_)
    refine pwp_seq ?_
    refine r_reg ?_
    refine e_end (by kernel_rfl) ?_
    refine q_next ?_
    refine pwp_ret ?_
    cases h
    exact q_ret (by kernel_rfl) (by kernel_rfl) (by kernel_rfl)
theorem d_walk_Reverse_fz (a0 : (List T_api_Step)) (r : (List T_api_Step)) (h : d_walk_Reverse a0 = some r) : PCall Go.Proofs.Tryd.prog GlS 35 [Enc.pv a0] (Enc.pv r) :=
  (d_walk_Reverse_ok a0 r h).freeze (by kernel_rfl) (by kernel_rfl) (by kernel_rfl)

/-! signallingref09.SameSteps -/
noncomputable def d_ref09_SameSteps_0 (a0 : (List T_api_Step)) (a1 : (List T_api_Step)) : Int → Option (Int ⊕ (Unit ⊕ Bool)) := fun x3 =>
  bif decide (x3 < ((a0.length : Nat) : Int)) then (
    (ixO a0 x3).bind fun x6 =>
    (ixO a1 x3).bind fun x7 =>
    bif (!(eq_T_api_Step x6 x7)) then (
      some (.inr (.inr false))
    ) else (
      some (.inl (w64 (x3 + 1)))
    )
  ) else (
    some (.inr (.inl ()))
  )

noncomputable def d_ref09_SameSteps (a0 : (List T_api_Step)) (a1 : (List T_api_Step)) : Option Bool :=
  bif (!(decide (((a0.length : Nat) : Int) = ((a1.length : Nat) : Int)))) then (
    some false
  ) else (
    onInl (α := Unit) (β := Bool) (loopO (d_ref09_SameSteps_0 a0 a1) 0) fun _ =>
    some true
  )
theorem d_ref09_SameSteps_ok (a0 : (List T_api_Step)) (a1 : (List T_api_Step)) (r : Bool) (h : d_ref09_SameSteps a0 a1 = some r) : PCall Go.Proofs.Tryd.prog GlS 34 [Enc.pv a0, Enc.pv a1] (Enc.pv r) := by
  unfold d_ref09_SameSteps at h
  refine pcall_of_pwp Go.Proofs.Tryd.func34 (by rfl) rfl Go.Proofs.Tryd.ntmps34 (by rfl) rfl ?_
  refine pwp_seq ?_
  refine r_reg ?_
  refine e_end (by kernel_rfl) ?_
  refine q_next ?_
  refine pwp_seq ?_
  refine pwp_seq ?_
  refine r_reg ?_
  refine p_run 1 (by kernel_rfl) ?_
  refine p_len (L := (a0 : (List T_api_Step))) (by kernel_rfl) ?_
  refine p_run 1 (by kernel_rfl) ?_
  refine p_len (L := (a1 : (List T_api_Step))) (by kernel_rfl) ?_
  refine e_end (by kernel_rfl) ?_
  refine q_next ?_
  rcases o_cond h with ⟨hb, h⟩ | ⟨hb, h⟩
  · refine r_cond_t hb (by kernel_rfl) ?_
    refine pwp_seq ?_
    refine r_reg ?_
    refine e_end (by kernel_rfl) ?_
    refine q_next ?_
    refine pwp_ret ?_
    refine q_seq_ret ?_
    cases h
    exact q_ret (by kernel_rfl) (by kernel_rfl) (by kernel_rfl)
  · refine r_cond_f hb (by kernel_rfl) ?_
    refine pwp_skip ?_
    refine q_next ?_
    refine pwp_seq ?_
    refine pwp_seq ?_
    refine r_reg ?_
    refine e_end (by kernel_rfl) ?_
    refine q_next ?_
    refine pwp_block ?_
    obtain ⟨o8, h8, h⟩ := o_inl h
    refine r_loop2 26 0 (fun x3 => ⟨[(0, lstOf .frozen (a0 : (List T_api_Step))), (1, lstOf .frozen (a1 : (List T_api_Step))), (5, .int .i64 x3)], [], [], []⟩) (fun (_ : Unit) => ⟨[], [], [], []⟩) h8 (by kernel_rfl) (fun _ => by kernel_rfl) ?_ ?_
    · rintro x3 oh7 h7
      unfold d_ref09_SameSteps_0 at h7
      refine pwp_seq ?_
      refine pwp_seq ?_
      refine r_reg ?_
      refine p_run 2 (by kernel_rfl) ?_
      refine p_len (L := (a0 : (List T_api_Step))) (by kernel_rfl) ?_
      refine e_end (by kernel_rfl) ?_
      refine q_next ?_
      rcases o_cond h7 with ⟨hb, h7⟩ | ⟨hb, h7⟩
      · refine r_cond_t hb (by kernel_rfl) ?_
        refine pwp_skip ?_
        refine q_next ?_
        refine pwp_seq ?_
        refine pwp_block ?_
        refine pwp_seq ?_
        refine r_regd (by kernel_rfl) (by kernel_rfl) ?_
        refine p_run 2 (by kernel_rfl) ?_
        obtain ⟨x6, h9, h7⟩ := o_bind h7
        refine p_ix h9 (by kernel_rfl) ?_
        refine p_run 3 (by kernel_rfl) ?_
        obtain ⟨x7, h10, h7⟩ := o_bind h7
        refine p_ix h10 (by kernel_rfl) ?_
        refine e_end (by kernel_rfl) ?_
        refine q_next ?_
        rcases o_cond h7 with ⟨hb, h7⟩ | ⟨hb, h7⟩
        · refine r_cond_t hb (by kernel_rfl) ?_
          refine pwp_seq ?_
          refine r_reg ?_
          refine e_end (by kernel_rfl) ?_
          refine q_next ?_
          refine pwp_ret ?_
          refine q_block_ret ?_
          refine q_seq_ret ?_
          cases h7
          refine q_lout_ret fun he => ?_
          subst he
          have h11 := o_outr h
          refine q_block_ret ?_
          refine q_seq_ret ?_
          cases h11
          exact q_ret (by kernel_rfl) (by kernel_rfl) (by kernel_rfl)
        · refine r_cond_f hb (by kernel_rfl) ?_
          refine pwp_skip ?_
          refine q_block ?_
          refine q_next ?_
          refine r_reg ?_
          refine e_end (by kernel_rfl) ?_
          cases h7
          exact q_lback (by kernel_rfl)
      · refine r_cond_f hb (by kernel_rfl) ?_
        refine pwp_exit ?_
        refine q_seq_exit ?_
        cases h7
        exact q_lexit (by kernel_rfl) (by kernel_rfl)
    · rintro _ s' rfl hs
      have h := o_outl h
      refine q_block_hit ?_
      refine q_next (pwp_wkr hs ?_)
      refine pwp_seq ?_
      refine r_reg ?_
      refine e_end (by kernel_rfl) ?_
      refine q_next ?_
      refine pwp_ret ?_
      cases h
      exact q_ret (by kernel_rfl) (by kernel_rfl) (by kernel_rfl)

/-! rail.Need -/
noncomputable def d_rail_Need_0 (a0 : Int) (a1 : Int) (a2 : Int) : Int → Option (Int ⊕ (Unit ⊕ (Int × Bool))) := fun x2 =>
  bif decide (x2 < 10) then (
    (ixO tab_rail_passages x2).bind fun x4 =>
    bif (((decide (x4.kind_ = a0)) && (decide (x4.in_ = a1))) && (decide (x4.out_ = a2))) then (
      some (.inr (.inr (x4.need_, true)))
    ) else (
      some (.inl (w64 (x2 + 1)))
    )
  ) else (
    some (.inr (.inl ()))
  )

noncomputable def d_rail_Need (a0 : Int) (a1 : Int) (a2 : Int) : Option (Int × Bool) :=
  onInl (α := Unit) (β := (Int × Bool)) (loopO (d_rail_Need_0 a0 a1 a2) 0) fun _ =>
  some (0, false)
theorem d_rail_Need_ok (a0 : Int) (a1 : Int) (a2 : Int) (r : (Int × Bool)) (h : d_rail_Need a0 a1 a2 = some r) : PCall Go.Proofs.Tryd.prog GlS 77 [Enc.pv a0, Enc.pv a1, Enc.pv a2] (.tup [Enc.pv r.1, Enc.pv r.2]) := by
  unfold d_rail_Need at h
  refine pcall_of_pwp Go.Proofs.Tryd.func77 (by rfl) rfl Go.Proofs.Tryd.ntmps77 (by rfl) rfl ?_
  refine pwp_seq ?_
  refine r_reg ?_
  refine e_end (by kernel_rfl) ?_
  refine q_next ?_
  refine pwp_seq ?_
  refine pwp_seq ?_
  refine r_reg ?_
  refine e_end (by kernel_rfl) ?_
  refine q_next ?_
  refine pwp_block ?_
  obtain ⟨o6, h6, h⟩ := o_inl h
  refine r_loop2 33 0 (fun x2 => ⟨[(0, .int .i64 a0), (1, .int .i64 a1), (2, .int .i64 a2), (10, .agg (tab_rail_passages.flatMap cellsOf)), (11, .int .i64 x2)], [], [], []⟩) (fun (_ : Unit) => ⟨[], [], [], []⟩) h6 (by kernel_rfl) (fun _ => by kernel_rfl) ?_ ?_
  · rintro x2 oh5 h5
    unfold d_rail_Need_0 at h5
    refine pwp_seq ?_
    refine r_reg ?_
    refine e_end (by kernel_rfl) ?_
    refine q_next ?_
    refine pwp_seq ?_
    rcases o_cond h5 with ⟨hb, h5⟩ | ⟨hb, h5⟩
    · refine r_cond_t hb (by kernel_rfl) ?_
      refine pwp_skip ?_
      refine q_next ?_
      refine pwp_seq ?_
      refine pwp_block ?_
      refine pwp_seq ?_
      refine r_reg ?_
      obtain ⟨x4, h7, h5⟩ := o_bind h5
      refine p_tix (tab := tab_rail_passages) h7 true 10 4 (by kernel_rfl) (by kernel_rfl) (by kernel_rfl) (by kernel_rfl) ?_
      refine e_end (by kernel_rfl) ?_
      refine q_next ?_
      refine pwp_seq ?_
      refine r_reg ?_
      refine p_run 5 (by kernel_rfl) ?_
      refine e_segb 5 23 ((decide (x4.kind_ = a0)) && (decide (x4.in_ = a1))) (fun x hx => ?_) ?_
      · rcases b_and hx with ⟨hb, hx⟩ | ⟨hb, hx⟩
        · refine p_settle 18 hb (by kernel_rfl) (by kernel_rfl) ?_
          subst hx
          exact f_end (by kernel_rfl) (by kernel_rfl)
        · refine p_settle 18 hb (by kernel_rfl) (by kernel_rfl) ?_
          subst hx
          exact f_end (by kernel_rfl) (by kernel_rfl)
      · refine p_run 1 (by kernel_rfl) ?_
        refine e_segb 5 29 (((decide (x4.kind_ = a0)) && (decide (x4.in_ = a1))) && (decide (x4.out_ = a2))) (fun x hx => ?_) ?_
        · rcases b_and hx with ⟨hb, hx⟩ | ⟨hb, hx⟩
          · refine p_settle 24 hb (by kernel_rfl) (by kernel_rfl) ?_
            subst hx
            exact f_end (by kernel_rfl) (by kernel_rfl)
          · refine p_settle 24 hb (by kernel_rfl) (by kernel_rfl) ?_
            subst hx
            exact f_end (by kernel_rfl) (by kernel_rfl)
        · refine e_nil (by kernel_rfl) ?_
          refine q_next ?_
          rcases o_cond h5 with ⟨hb, h5⟩ | ⟨hb, h5⟩
          · refine r_cond_t hb (by kernel_rfl) ?_
            refine pwp_seq ?_
            refine r_reg ?_
            refine e_end (by kernel_rfl) ?_
            refine q_next ?_
            refine pwp_ret ?_
            refine q_block_ret ?_
            refine q_seq_ret ?_
            cases h5
            refine q_lout_ret fun he => ?_
            subst he
            have h8 := o_outr h
            refine q_block_ret ?_
            refine q_seq_ret ?_
            cases h8
            exact q_ret (by kernel_rfl) (by kernel_rfl) (by kernel_rfl)
          · refine r_cond_f hb (by kernel_rfl) ?_
            refine pwp_skip ?_
            refine q_block ?_
            refine q_next ?_
            refine r_reg ?_
            refine e_end (by kernel_rfl) ?_
            cases h5
            exact q_lback (by kernel_rfl)
    · refine r_cond_f hb (by kernel_rfl) ?_
      refine pwp_exit ?_
      refine q_seq_exit ?_
      cases h5
      exact q_lexit (by kernel_rfl) (by kernel_rfl)
  · rintro _ s' rfl hs
    have h := o_outl h
    refine q_block_hit ?_
    refine q_next (pwp_wkr hs ?_)
    refine pwp_seq ?_
    refine r_reg ?_
    refine e_end (by kernel_rfl) ?_
    refine q_next ?_
    refine pwp_ret ?_
    cases h
    exact q_ret (by kernel_rfl) (by kernel_rfl) (by kernel_rfl)

/-! walk.possible -/
noncomputable def d_walk_possible (a0 : T_api_Layout) (a1 : T_api_Step) : Option (Int × Bool) :=
  (d_walk_exists a0 a1.El).bind fun r1 =>
  bif (!r1) then (
    some (0, false)
  ) else (
    (ixO a0.Elements a1.El).bind fun x2 =>
    (d_rail_Need x2.Kind a1.In a1.Out).bind fun r3 =>
    some (r3.1, r3.2)
  )
theorem d_walk_possible_ok (a0 : T_api_Layout) (a1 : T_api_Step) (r : (Int × Bool)) (h : d_walk_possible a0 a1 = some r) : PCall Go.Proofs.Tryd.prog GlS 58 [Enc.pv a0, Enc.pv a1] (.tup [Enc.pv r.1, Enc.pv r.2]) := by
  unfold d_walk_possible at h
  refine pcall_of_pwp Go.Proofs.Tryd.func58 (by rfl) rfl Go.Proofs.Tryd.ntmps58 (by rfl) rfl ?_
  refine pwp_seq ?_
  refine r_reg ?_
  refine e_end (by kernel_rfl) ?_
  refine q_next ?_
  refine pwp_seq ?_
  refine pwp_seq ?_
  refine r_reg ?_
  refine p_run 3 (by kernel_rfl) ?_
  obtain ⟨r1, h1, h⟩ := o_bind h
  refine p_call (d_walk_exists_ok _ _ r1 h1) (by kernel_rfl) (by kernel_rfl) ?_
  refine e_end (by kernel_rfl) ?_
  refine q_next ?_
  rcases o_cond h with ⟨hb, h⟩ | ⟨hb, h⟩
  · refine r_cond_t hb (by kernel_rfl) ?_
    refine pwp_seq ?_
    refine r_reg ?_
    refine e_end (by kernel_rfl) ?_
    refine q_next ?_
    refine pwp_ret ?_
    refine q_seq_ret ?_
    cases h
    exact q_ret (by kernel_rfl) (by kernel_rfl) (by kernel_rfl)
  · refine r_cond_f hb (by kernel_rfl) ?_
    refine pwp_skip ?_
    refine q_next ?_
    refine pwp_seq ?_
    refine r_regd (by kernel_rfl) (by kernel_rfl) ?_
    refine p_run 4 (by kernel_rfl) ?_
    obtain ⟨x2, h2, h⟩ := o_bind h
    refine p_ix h2 (by kernel_rfl) ?_
    refine p_run 6 (by kernel_rfl) ?_
    obtain ⟨r3, h3, h⟩ := o_bind h
    refine p_call (d_rail_Need_ok _ _ _ r3 h3) (by kernel_rfl) (by kernel_rfl) ?_
    refine e_end (by kernel_rfl) ?_
    refine q_next ?_
    refine pwp_ret ?_
    cases h
    exact q_ret (by kernel_rfl) (by kernel_rfl) (by kernel_rfl)

/-! walk.Valid -/
noncomputable def d_walk_Valid_1 (x49 : T_api_Step) (x51 : (List T_api_Step)) : Int → Option (Int ⊕ (Unit ⊕ (Unit ⊕ (Int ⊕ (Unit ⊕ Bool))))) := fun x53 =>
  bif decide (x53 < ((x51.length : Nat) : Int)) then (
    (ixO x51 x53).bind fun x55 =>
    bif decide (x55.El = x49.El) then (
      some (.inr (.inr (.inr (.inr (.inr false)))))
    ) else (
      some (.inl (w64 (x53 + 1)))
    )
  ) else (
    some (.inr (.inl ()))
  )

noncomputable def d_walk_Valid_0 (a0 : T_api_Layout) (a1 : (List T_api_Step)) (r2 : T_api_Layout) : Int → Option (Int ⊕ (Unit ⊕ Bool)) := fun x21 =>
  bif decide (x21 < ((a1.length : Nat) : Int)) then (
    onInl (α := Unit) (β := (Int ⊕ (Unit ⊕ Bool))) (
      (ixO a1 x21).bind fun x49 =>
      (d_walk_possible a0 x49).bind fun r50 =>
      bif (!r50.2) then (
        some (.inr (.inr (.inr false)))
      ) else (
        (slO a1 none (some x21) none).bind fun x51 =>
        onInl (α := Unit) (β := (Unit ⊕ (Int ⊕ (Unit ⊕ Bool)))) (loopO (d_walk_Valid_1 x49 x51) 0) fun _ =>
        bif decide (x21 = 0) then (
          some (.inl ())
        ) else (
          (ixO a1 (w64 (x21 - 1))).bind fun x56 =>
          (d_walk_passage_1 x56 r2).bind fun r57 =>
          bif (((!r57.2) || (!(decide (r57.1.El = x49.El)))) || (!(decide (r57.1.Side = x49.In)))) then (
            some (.inr (.inr (.inr false)))
          ) else (
            some (.inl ())
          )
        )
      )
    ) fun _ =>
    some (.inl (w64 (x21 + 1)))
  ) else (
    some (.inr (.inl ()))
  )

noncomputable def d_walk_Valid (a0 : T_api_Layout) (a1 : (List T_api_Step)) : Option Bool :=
  ((bif decide (((a1.length : Nat) : Int) = 0) then some true else (
    some (decide (64 < ((a1.length : Nat) : Int)))
  )) : Option Bool).bind fun b1 =>
  bif b1 then (
    some false
  ) else (
    (d_walk_passage a0).bind fun r2 =>
    onInl (α := Unit) (β := Bool) (loopO (d_walk_Valid_0 a0 a1 r2) 0) fun _ =>
    some true
  )
theorem d_walk_Valid_ok (a0 : T_api_Layout) (a1 : (List T_api_Step)) (r : Bool) (h : d_walk_Valid a0 a1 = some r) : PCall Go.Proofs.Tryd.prog GlS 26 [Enc.pv a0, Enc.pv a1] (Enc.pv r) := by
  unfold d_walk_Valid at h
  refine pcall_of_pwp Go.Proofs.Tryd.func26 (by rfl) rfl Go.Proofs.Tryd.ntmps26 (by rfl) rfl ?_
  refine pwp_seq ?_
  refine r_reg ?_
  refine e_end (by kernel_rfl) ?_
  refine q_next ?_
  refine pwp_seq ?_
  refine pwp_seq ?_
  refine r_reg ?_
  refine p_run 1 (by kernel_rfl) ?_
  refine p_len (L := (a1 : (List T_api_Step))) (by kernel_rfl) ?_
  obtain ⟨b1, h1, h⟩ := o_bind h
  refine p_run 2 (by kernel_rfl) ?_
  refine e_seg 4 21 (.bool b1) ?_ ?_
  · rcases o_cond h1 with ⟨hb, h1⟩ | ⟨hb, h1⟩
    · refine p_settle 17 hb (by kernel_rfl) (by kernel_rfl) ?_
      cases h1
      exact f_end (by kernel_rfl) (by kernel_rfl)
    · refine p_settle 17 hb (by kernel_rfl) (by kernel_rfl) ?_
      refine p_run 1 (by kernel_rfl) ?_
      refine p_len (L := (a1 : (List T_api_Step))) (by kernel_rfl) ?_
      cases h1
      exact f_end (by kernel_rfl) (by kernel_rfl)
  · refine e_nil (by kernel_rfl) ?_
    refine q_next ?_
    rcases o_cond h with ⟨hb, h⟩ | ⟨hb, h⟩
    · refine r_cond_t hb (by kernel_rfl) ?_
      refine pwp_seq ?_
      refine r_reg ?_
      refine e_end (by kernel_rfl) ?_
      refine q_next ?_
      refine pwp_ret ?_
      refine q_seq_ret ?_
      cases h
      exact q_ret (by kernel_rfl) (by kernel_rfl) (by kernel_rfl)
    · refine r_cond_f hb (by kernel_rfl) ?_
      refine pwp_skip ?_
      refine q_next ?_
      refine pwp_seq ?_
      refine r_reg ?_
      refine p_run 1 (by kernel_rfl) ?_
      obtain ⟨r2, h2, h⟩ := o_bind h
      refine p_call (d_walk_passage_ok _ r2 h2) (by kernel_rfl) (by kernel_rfl) ?_
      refine e_end (by kernel_rfl) ?_
      refine q_next ?_
      refine pwp_seq ?_
      refine pwp_seq ?_
      refine r_reg ?_
      refine p_run 1 (by kernel_rfl) ?_
      refine p_len (L := (a1 : (List T_api_Step))) (by kernel_rfl) ?_
      refine e_end (by kernel_rfl) ?_
      refine q_next ?_
      refine pwp_block ?_
      obtain ⟨o98, h98, h⟩ := o_inl h
      refine r_loop2 82 0 (fun x21 => ⟨[(1, lstOf .frozen (a1 : (List T_api_Step))), (2, .ref 2 0), (5, .fn 75 [.cptr (cellsOf r2)]), (24, lstOf .frozen (a1 : (List T_api_Step))), (25, .int .i64 ((a1.length : Nat) : Int)), (26, .int .i64 x21)], [(2, .cells (cellsOf a0))], [], []⟩) (fun (_ : Unit) => ⟨[], [], [], []⟩) h98 (by kernel_rfl) (fun _ => by kernel_rfl) ?_ ?_
      · rintro x21 oh97 h97
        unfold d_walk_Valid_0 at h97
        refine pwp_seq ?_
        refine r_reg ?_
        refine e_end (by kernel_rfl) ?_
        refine q_next ?_
        refine pwp_seq ?_
        rcases o_cond h97 with ⟨hb, h97⟩ | ⟨hb, h97⟩
        · refine r_cond_t hb (by kernel_rfl) ?_
          refine pwp_skip ?_
          refine q_next ?_
          obtain ⟨o122, h122, h97⟩ := o_inl h97
          refine r_join (o := o122) 82 (fun (_ : Unit) => ⟨[(1, lstOf .frozen (a1 : (List T_api_Step))), (2, .ref 2 0), (5, .fn 75 [.cptr (cellsOf r2)]), (24, lstOf .frozen (a1 : (List T_api_Step))), (25, .int .i64 ((a1.length : Nat) : Int)), (26, .int .i64 x21)], [(2, .cells (cellsOf a0))], [], []⟩) ?_ ?_
          · refine pwp_block ?_
            refine pwp_seq ?_
            refine r_reg ?_
            refine p_run 1 (by kernel_rfl) ?_
            obtain ⟨x49, h123, h122⟩ := o_bind h122
            refine p_ix h123 (by kernel_rfl) ?_
            refine e_end (by kernel_rfl) ?_
            refine q_next ?_
            refine pwp_seq ?_
            refine pwp_seq ?_
            refine r_reg ?_
            refine p_run 2 (by kernel_rfl) ?_
            obtain ⟨r50, h124, h122⟩ := o_bind h122
            refine p_call (d_walk_possible_ok _ _ r50 h124) (by kernel_rfl) (by kernel_rfl) ?_
            refine e_end (by kernel_rfl) ?_
            refine q_next ?_
            refine pwp_seq ?_
            refine r_reg ?_
            refine e_end (by kernel_rfl) ?_
            refine q_next ?_
            rcases o_cond h122 with ⟨hb, h122⟩ | ⟨hb, h122⟩
            · refine r_cond_t hb (by kernel_rfl) ?_
              refine pwp_seq ?_
              refine r_reg ?_
              refine e_end (by kernel_rfl) ?_
              refine q_next ?_
              refine pwp_ret ?_
              refine q_seq_ret ?_
              refine q_block_ret ?_
              cases h122
              refine q_jout_ret ?_
              have h125 := o_outr h97
              cases h125
              refine q_lout_ret fun he => ?_
              subst he
              have h126 := o_outr h
              refine q_block_ret ?_
              refine q_seq_ret ?_
              cases h126
              exact q_ret (by kernel_rfl) (by kernel_rfl) (by kernel_rfl)
            · refine r_cond_f hb (by kernel_rfl) ?_
              refine pwp_skip ?_
              refine q_next ?_
              refine pwp_seq ?_
              refine pwp_seq ?_
              refine r_reg ?_
              refine p_run 2 (by kernel_rfl) ?_
              obtain ⟨x51, h127, h122⟩ := o_bind h122
              refine p_sl h127 .frozen (by kernel_rfl) (by kernel_rfl) (by kernel_rfl) ?_
              refine p_len (L := (x51 : (List T_api_Step))) (by kernel_rfl) ?_
              refine e_end (by kernel_rfl) ?_
              refine q_next ?_
              refine pwp_block ?_
              obtain ⟨o137, h137, h122⟩ := o_inl h122
              refine r_loop2 82 2 (fun x53 => ⟨[(1, lstOf .frozen (a1 : (List T_api_Step))), (2, .ref 2 0), (5, .fn 75 [.cptr (cellsOf r2)]), (6, .int .i64 x21), (7, .ref 7 0), (24, lstOf .frozen (a1 : (List T_api_Step))), (25, .int .i64 ((a1.length : Nat) : Int)), (26, .int .i64 x21), (41, lstOf .frozen (x51 : (List T_api_Step))), (42, .int .i64 ((x51.length : Nat) : Int)), (43, .int .i64 x53)], [(2, .cells (cellsOf a0)), (7, .cells (cellsOf x49))], [], []⟩) (fun (_ : Unit) => ⟨[(1, lstOf .frozen (a1 : (List T_api_Step))), (2, .ref 2 0), (5, .fn 75 [.cptr (cellsOf r2)]), (6, .int .i64 x21), (7, .ref 7 0), (24, lstOf .frozen (a1 : (List T_api_Step))), (25, .int .i64 ((a1.length : Nat) : Int)), (26, .int .i64 x21)], [(2, .cells (cellsOf a0)), (7, .cells (cellsOf x49))], [], []⟩) h137 (by kernel_rfl) (fun _ => by kernel_rfl) ?_ ?_
              · rintro x53 oh136 h136
                unfold d_walk_Valid_1 at h136
                refine pwp_seq ?_
                refine r_reg ?_
                refine e_end (by kernel_rfl) ?_
                refine q_next ?_
                refine pwp_seq ?_
                rcases o_cond h136 with ⟨hb, h136⟩ | ⟨hb, h136⟩
                · refine r_cond_t hb (by kernel_rfl) ?_
                  refine pwp_skip ?_
                  refine q_next ?_
                  refine pwp_seq ?_
                  refine pwp_block ?_
                  refine pwp_seq ?_
                  refine r_reg ?_
                  obtain ⟨x55, h138, h136⟩ := o_bind h136
                  refine p_ix h138 (by kernel_rfl) ?_
                  refine e_end (by kernel_rfl) ?_
                  refine q_next ?_
                  refine pwp_seq ?_
                  refine r_reg ?_
                  refine e_end (by kernel_rfl) ?_
                  refine q_next ?_
                  rcases o_cond h136 with ⟨hb, h136⟩ | ⟨hb, h136⟩
                  · refine r_cond_t hb (by kernel_rfl) ?_
                    refine pwp_seq ?_
                    refine r_reg ?_
                    refine e_end (by kernel_rfl) ?_
                    refine q_next ?_
                    refine pwp_ret ?_
                    refine q_block_ret ?_
                    refine q_seq_ret ?_
                    cases h136
                    refine q_lout_ret fun he => ?_
                    subst he
                    have h139 := o_outr h122
                    refine q_block_ret ?_
                    refine q_seq_ret ?_
                    refine q_block_ret ?_
                    cases h139
                    refine q_jout_ret ?_
                    have h140 := o_outr h97
                    cases h140
                    refine q_lout_ret fun he => ?_
                    subst he
                    have h141 := o_outr h
                    refine q_block_ret ?_
                    refine q_seq_ret ?_
                    cases h141
                    exact q_ret (by kernel_rfl) (by kernel_rfl) (by kernel_rfl)
                  · refine r_cond_f hb (by kernel_rfl) ?_
                    refine pwp_skip ?_
                    refine q_block ?_
                    refine q_next ?_
                    refine r_reg ?_
                    refine e_end (by kernel_rfl) ?_
                    cases h136
                    exact q_lback (by kernel_rfl)
                · refine r_cond_f hb (by kernel_rfl) ?_
                  refine pwp_exit ?_
                  refine q_seq_exit ?_
                  cases h136
                  exact q_lexit (by kernel_rfl) (by kernel_rfl)
              · rintro _ s' rfl hs
                have h122 := o_outl h122
                refine q_block_hit ?_
                refine q_next (pwp_wkr hs ?_)
                refine pwp_seq ?_
                refine pwp_seq ?_
                refine r_reg ?_
                refine e_end (by kernel_rfl) ?_
                refine q_next ?_
                rcases o_cond h122 with ⟨hb, h122⟩ | ⟨hb, h122⟩
                · refine r_cond_t hb (by kernel_rfl) ?_
                  refine pwp_exit ?_
                  refine q_seq_exit ?_
                  refine q_block_hit ?_
                  cases h122
                  exact q_join (by kernel_rfl) (by kernel_rfl)
                · refine r_cond_f hb (by kernel_rfl) ?_
                  refine pwp_skip ?_
                  refine q_next ?_
                  refine pwp_seq ?_
                  refine r_reg ?_
                  refine p_run 4 (by kernel_rfl) ?_
                  obtain ⟨x56, h142, h122⟩ := o_bind h122
                  refine p_ix h142 (by kernel_rfl) ?_
                  refine p_run 1 (by kernel_rfl) ?_
                  obtain ⟨r57, h143, h122⟩ := o_bind h122
                  refine p_call (d_walk_passage_1_ok _ _ r57 h143) (by kernel_rfl) (by kernel_rfl) ?_
                  refine e_end (by kernel_rfl) ?_
                  refine q_next ?_
                  refine pwp_seq ?_
                  refine r_reg ?_
                  refine p_run 3 (by kernel_rfl) ?_
                  refine e_segb 6 73 ((!r57.2) || (!(decide (r57.1.El = x49.El)))) (fun x hx => ?_) ?_
                  · rcases b_or hx with ⟨hb, hx⟩ | ⟨hb, hx⟩
                    · refine p_settle 67 hb (by kernel_rfl) (by kernel_rfl) ?_
                      subst hx
                      exact f_end (by kernel_rfl) (by kernel_rfl)
                    · refine p_settle 67 hb (by kernel_rfl) (by kernel_rfl) ?_
                      subst hx
                      exact f_end (by kernel_rfl) (by kernel_rfl)
                  · refine p_run 1 (by kernel_rfl) ?_
                    refine e_segb 6 80 (((!r57.2) || (!(decide (r57.1.El = x49.El)))) || (!(decide (r57.1.Side = x49.In)))) (fun x hx => ?_) ?_
                    · rcases b_or hx with ⟨hb, hx⟩ | ⟨hb, hx⟩
                      · refine p_settle 74 hb (by kernel_rfl) (by kernel_rfl) ?_
                        subst hx
                        exact f_end (by kernel_rfl) (by kernel_rfl)
                      · refine p_settle 74 hb (by kernel_rfl) (by kernel_rfl) ?_
                        subst hx
                        exact f_end (by kernel_rfl) (by kernel_rfl)
                    · refine e_nil (by kernel_rfl) ?_
                      refine q_next ?_
                      rcases o_cond h122 with ⟨hb, h122⟩ | ⟨hb, h122⟩
                      · refine r_cond_t hb (by kernel_rfl) ?_
                        refine pwp_seq ?_
                        refine r_reg ?_
                        refine e_end (by kernel_rfl) ?_
                        refine q_next ?_
                        refine pwp_ret ?_
                        refine q_block_ret ?_
                        cases h122
                        refine q_jout_ret ?_
                        have h144 := o_outr h97
                        cases h144
                        refine q_lout_ret fun he => ?_
                        subst he
                        have h145 := o_outr h
                        refine q_block_ret ?_
                        refine q_seq_ret ?_
                        cases h145
                        exact q_ret (by kernel_rfl) (by kernel_rfl) (by kernel_rfl)
                      · refine r_cond_f hb (by kernel_rfl) ?_
                        refine pwp_skip ?_
                        refine q_block ?_
                        cases h122
                        exact q_join (by kernel_rfl) (by kernel_rfl)
          · rintro _ rfl
            have h97 := o_outl h97
            refine r_reg ?_
            refine e_end (by kernel_rfl) ?_
            cases h97
            exact q_lback (by kernel_rfl)
        · refine r_cond_f hb (by kernel_rfl) ?_
          refine pwp_exit ?_
          refine q_seq_exit ?_
          cases h97
          exact q_lexit (by kernel_rfl) (by kernel_rfl)
      · rintro _ s' rfl hs
        have h := o_outl h
        refine q_block_hit ?_
        refine q_next (pwp_wkr hs ?_)
        refine pwp_seq ?_
        refine r_reg ?_
        refine e_end (by kernel_rfl) ?_
        refine q_next ?_
        refine pwp_ret ?_
        cases h
        exact q_ret (by kernel_rfl) (by kernel_rfl) (by kernel_rfl)

/-! walk.Length -/
noncomputable def d_walk_Length_0 (a0 : T_api_Layout) (a1 : (List T_api_Step)) : (Int × Int) → Option ((Int × Int) ⊕ (Int ⊕ Int)) := fun (x8, x9) =>
  bif decide (x9 < ((a1.length : Nat) : Int)) then (
    onInl (α := Int) (β := ((Int × Int) ⊕ (Int ⊕ Int))) (
      (ixO a1 x9).bind fun x22 =>
      (d_walk_exists a0 x22.El).bind fun r23 =>
      bif r23 then (
        (ixO a0.Elements x22.El).bind fun x24 =>
        some (.inl (w64 (x8 + x24.Length)))
      ) else (
        some (.inl x8)
      )
    ) fun x21 =>
    some (.inl (x21, w64 (x9 + 1)))
  ) else (
    some (.inr (.inl x8))
  )

noncomputable def d_walk_Length (a0 : T_api_Layout) (a1 : (List T_api_Step)) : Option Int :=
  onInl (α := Int) (β := Int) (loopO (d_walk_Length_0 a0 a1) (0, 0)) fun x17 =>
  some x17
theorem d_walk_Length_ok (a0 : T_api_Layout) (a1 : (List T_api_Step)) (r : Int) (h : d_walk_Length a0 a1 = some r) : PCall Go.Proofs.Tryd.prog GlS 27 [Enc.pv a0, Enc.pv a1] (Enc.pv r) := by
  unfold d_walk_Length at h
  refine pcall_of_pwp Go.Proofs.Tryd.func27 (by rfl) rfl Go.Proofs.Tryd.ntmps27 (by rfl) rfl ?_
  refine pwp_seq ?_
  refine r_reg ?_
  refine e_end (by kernel_rfl) ?_
  refine q_next ?_
  refine pwp_seq ?_
  refine r_reg ?_
  refine e_end (by kernel_rfl) ?_
  refine q_next ?_
  refine pwp_seq ?_
  refine pwp_seq ?_
  refine r_reg ?_
  refine p_run 1 (by kernel_rfl) ?_
  refine p_len (L := (a1 : (List T_api_Step))) (by kernel_rfl) ?_
  refine e_end (by kernel_rfl) ?_
  refine q_next ?_
  refine pwp_block ?_
  obtain ⟨o16, h16, h⟩ := o_inl h
  refine r_loop2 29 0 (fun (x8, x9) => ⟨[(2, .ref 2 0), (5, .int .i64 x8), (8, lstOf .frozen (a1 : (List T_api_Step))), (9, .int .i64 ((a1.length : Nat) : Int)), (10, .int .i64 x9)], [(2, .cells (cellsOf a0))], [], []⟩) (fun x17 => ⟨[(5, .int .i64 x17)], [], [], []⟩) h16 (by kernel_rfl) (fun _ => by kernel_rfl) ?_ ?_
  · rintro ⟨x8, x9⟩ oh15 h15
    unfold d_walk_Length_0 at h15
    refine pwp_seq ?_
    refine r_reg ?_
    refine e_end (by kernel_rfl) ?_
    refine q_next ?_
    refine pwp_seq ?_
    rcases o_cond h15 with ⟨hb, h15⟩ | ⟨hb, h15⟩
    · refine r_cond_t hb (by kernel_rfl) ?_
      refine pwp_skip ?_
      refine q_next ?_
      obtain ⟨o20, h20, h15⟩ := o_inl h15
      refine r_join (o := o20) 29 (fun x21 => ⟨[(2, .ref 2 0), (5, .int .i64 x21), (8, lstOf .frozen (a1 : (List T_api_Step))), (9, .int .i64 ((a1.length : Nat) : Int)), (10, .int .i64 x9)], [(2, .cells (cellsOf a0))], [], []⟩) ?_ ?_
      · refine pwp_block ?_
        refine pwp_seq ?_
        refine r_reg ?_
        obtain ⟨x22, h21, h20⟩ := o_bind h20
        refine p_ix h21 (by kernel_rfl) ?_
        refine e_end (by kernel_rfl) ?_
        refine q_next ?_
        refine pwp_seq ?_
        refine r_reg ?_
        refine p_run 3 (by kernel_rfl) ?_
        obtain ⟨r23, h22, h20⟩ := o_bind h20
        refine p_call (d_walk_exists_ok _ _ r23 h22) (by kernel_rfl) (by kernel_rfl) ?_
        refine e_nil (by kernel_rfl) ?_
        refine q_next ?_
        rcases o_cond h20 with ⟨hb, h20⟩ | ⟨hb, h20⟩
        · refine r_cond_t hb (by kernel_rfl) ?_
          refine r_reg ?_
          refine p_run 5 (by kernel_rfl) ?_
          obtain ⟨x24, h23, h20⟩ := o_bind h20
          refine p_ix h23 (by kernel_rfl) ?_
          refine e_end (by kernel_rfl) ?_
          refine q_block ?_
          cases h20
          exact q_join (by kernel_rfl) (by kernel_rfl)
        · refine r_cond_f hb (by kernel_rfl) ?_
          refine pwp_skip ?_
          refine q_block ?_
          cases h20
          exact q_join (by kernel_rfl) (by kernel_rfl)
      · rintro x21 rfl
        have h15 := o_outl h15
        refine r_reg ?_
        refine e_end (by kernel_rfl) ?_
        cases h15
        exact q_lback (by kernel_rfl)
    · refine r_cond_f hb (by kernel_rfl) ?_
      refine pwp_exit ?_
      refine q_seq_exit ?_
      cases h15
      exact q_lexit (by kernel_rfl) (by kernel_rfl)
  · rintro x17 s' rfl hs
    have h := o_outl h
    refine q_block_hit ?_
    refine q_next (pwp_wkr hs ?_)
    refine pwp_seq ?_
    refine r_reg ?_
    refine e_end (by kernel_rfl) ?_
    refine q_next ?_
    refine pwp_ret ?_
    cases h
    exact q_ret (by kernel_rfl) (by kernel_rfl) (by kernel_rfl)

/-! walk.Sections -/
noncomputable def d_walk_Sections_0 (a0 : T_api_Layout) (a1 : (List T_api_Step)) : (Int × (List (Int × Bool)) × (List Int)) → Option ((Int × (List (Int × Bool)) × (List Int)) ⊕ ((List Int) ⊕ (List Int))) := fun (x23, x24, x25) =>
  bif decide (x23 < ((a1.length : Nat) : Int)) then (
    onInl (α := ((List Int) × (List (Int × Bool)))) (β := ((Int × (List (Int × Bool)) × (List Int)) ⊕ ((List Int) ⊕ (List Int)))) (
      (ixO a1 x23).bind fun x43 =>
      (d_walk_exists a0 x43.El).bind fun r44 =>
      bif (!r44) then (
        some (.inl (x25, x24))
      ) else (
        (ixO a0.Elements x43.El).bind fun x45 =>
        bif (!((mget (x24 : (List (Int × Bool))) x45.Section).getD false)) then (
          (appO x25 [x45.Section]).bind fun x46 =>
          some (.inl (x46, (mset x45.Section true x24)))
        ) else (
          some (.inl (x25, x24))
        )
      )
    ) fun (x41, x42) =>
    some (.inl (w64 (x23 + 1), x42, x41))
  ) else (
    some (.inr (.inl x25))
  )

noncomputable def d_walk_Sections (a0 : T_api_Layout) (a1 : (List T_api_Step)) : Option (List Int) :=
  onInl (α := (List Int)) (β := (List Int)) (loopO (d_walk_Sections_0 a0 a1) (0, ([] : (List (Int × Bool))), ([] : (List Int)))) fun x36 =>
  some x36
theorem d_walk_Sections_ok (a0 : T_api_Layout) (a1 : (List T_api_Step)) (r : (List Int)) (h : d_walk_Sections a0 a1 = some r) : PCall Go.Proofs.Tryd.prog GlS 29 [Enc.pv a0, Enc.pv a1] (lstOf (.own 100005) r) := by
  unfold d_walk_Sections at h
  refine pcall_of_pwp Go.Proofs.Tryd.func29 (by rfl) rfl Go.Proofs.Tryd.ntmps29 (by rfl) rfl ?_
  refine pwp_seq ?_
  refine r_reg ?_
  refine e_end (by kernel_rfl) ?_
  refine q_next ?_
  refine pwp_seq ?_
  refine r_reg ?_
  refine e_end (by kernel_rfl) ?_
  refine q_next ?_
  refine pwp_seq ?_
  refine r_reg ?_
  refine e_end (by kernel_rfl) ?_
  refine q_next ?_
  refine pwp_seq ?_
  refine pwp_seq ?_
  refine r_reg ?_
  refine p_run 1 (by kernel_rfl) ?_
  refine p_len (L := (a1 : (List T_api_Step))) (by kernel_rfl) ?_
  refine e_end (by kernel_rfl) ?_
  refine q_next ?_
  refine pwp_block ?_
  refine g_nil 5 100005 1 8 (by kernel_rfl) (by kernel_rfl) ?_
  obtain ⟨o29, h29, h⟩ := o_inl h
  refine r_loop2 41 0 (fun (x23, x24, x25) => ⟨[(2, .ref 2 0), (5, lstOf (.own 100005) (x25 : (List Int))), (6, .mp 10), (11, lstOf .frozen (a1 : (List T_api_Step))), (12, .int .i64 ((a1.length : Nat) : Int)), (13, .int .i64 x23)], [(2, .cells (cellsOf a0)), (10, .map (mpOf (x24 : (List (Int × Bool)))))], [(100005, (((x25).map cellsOf).length, 1))], []⟩) (fun x36 => ⟨[(5, lstOf (.own 100005) (x36 : (List Int)))], [], [(100005, (((x36).map cellsOf).length, 1))], []⟩) h29 (by kernel_rfl) (fun _ => by kernel_rfl) ?_ ?_
  · rintro ⟨x23, x24, x25⟩ oh28 h28
    unfold d_walk_Sections_0 at h28
    refine pwp_seq ?_
    refine r_reg ?_
    refine e_end (by kernel_rfl) ?_
    refine q_next ?_
    refine pwp_seq ?_
    rcases o_cond h28 with ⟨hb, h28⟩ | ⟨hb, h28⟩
    · refine r_cond_t hb (by kernel_rfl) ?_
      refine pwp_skip ?_
      refine q_next ?_
      obtain ⟨o34, h34, h28⟩ := o_inl h28
      refine r_join (o := o34) 41 (fun (x41, x42) => ⟨[(2, .ref 2 0), (5, lstOf (.own 100005) (x41 : (List Int))), (6, .mp 10), (11, lstOf .frozen (a1 : (List T_api_Step))), (12, .int .i64 ((a1.length : Nat) : Int)), (13, .int .i64 x23)], [(2, .cells (cellsOf a0)), (10, .map (mpOf (x42 : (List (Int × Bool)))))], [(100005, (((x41).map cellsOf).length, 1))], []⟩) ?_ ?_
      · refine pwp_block ?_
        refine pwp_seq ?_
        refine r_reg ?_
        obtain ⟨x43, h35, h34⟩ := o_bind h34
        refine p_ix h35 (by kernel_rfl) ?_
        refine e_end (by kernel_rfl) ?_
        refine q_next ?_
        refine pwp_seq ?_
        refine pwp_seq ?_
        refine r_reg ?_
        refine p_run 3 (by kernel_rfl) ?_
        obtain ⟨r44, h36, h34⟩ := o_bind h34
        refine p_call (d_walk_exists_ok _ _ r44 h36) (by kernel_rfl) (by kernel_rfl) ?_
        refine e_end (by kernel_rfl) ?_
        refine q_next ?_
        rcases o_cond h34 with ⟨hb, h34⟩ | ⟨hb, h34⟩
        · refine r_cond_t hb (by kernel_rfl) ?_
          refine pwp_exit ?_
          refine q_seq_exit ?_
          refine q_block_hit ?_
          cases h34
          exact q_join (by kernel_rfl) (by kernel_rfl)
        · refine r_cond_f hb (by kernel_rfl) ?_
          refine pwp_skip ?_
          refine q_next ?_
          refine pwp_seq ?_
          refine r_reg ?_
          refine p_run 4 (by kernel_rfl) ?_
          obtain ⟨x45, h37, h34⟩ := o_bind h34
          refine p_ix h37 (by kernel_rfl) ?_
          refine e_end (by kernel_rfl) ?_
          refine q_next ?_
          refine pwp_seq ?_
          refine r_reg ?_
          refine p_run 2 (by kernel_rfl) ?_
          refine p_lookup (m := (x24 : (List (Int × Bool)))) (k := x45.Section) false 10 (by kernel_rfl) (by kernel_rfl) ?_
          refine e_end (by kernel_rfl) ?_
          refine q_next ?_
          rcases o_cond h34 with ⟨hb, h34⟩ | ⟨hb, h34⟩
          · refine r_cond_t hb (by kernel_rfl) ?_
            refine pwp_seq ?_
            refine r_reg ?_
            refine p_run 2 (by kernel_rfl) ?_
            refine p_mset (m := (x24 : (List (Int × Bool)))) (k := x45.Section) (v := true) 10 (by kernel_rfl) (by kernel_rfl) (by kernel_rfl) ?_
            refine e_nil (by kernel_rfl) ?_
            refine q_next ?_
            refine r_reg ?_
            refine p_run 3 (by kernel_rfl) ?_
            obtain ⟨x46, h38, h34⟩ := o_bind h34
            refine p_app (tk := 100005) h38 (by kernel_rfl) (by kernel_rfl) ?_
            refine e_end (by kernel_rfl) ?_
            refine q_block ?_
            cases h34
            exact q_join (by kernel_rfl) (by kernel_rfl)
          · refine r_cond_f hb (by kernel_rfl) ?_
            refine pwp_skip ?_
            refine q_block ?_
            cases h34
            exact q_join (by kernel_rfl) (by kernel_rfl)
      · rintro ⟨x41, x42⟩ rfl
        have h28 := o_outl h28
        refine r_reg ?_
        refine e_end (by kernel_rfl) ?_
        cases h28
        exact q_lback (by kernel_rfl)
    · refine r_cond_f hb (by kernel_rfl) ?_
      refine pwp_exit ?_
      refine q_seq_exit ?_
      cases h28
      exact q_lexit (by kernel_rfl) (by kernel_rfl)
  · rintro x36 s' rfl hs
    have h := o_outl h
    refine q_block_hit ?_
    refine q_next (pwp_wkr hs ?_)
    refine pwp_seq ?_
    refine r_reg ?_
    refine e_end (by kernel_rfl) ?_
    refine q_next ?_
    refine pwp_ret ?_
    cases h
    exact q_ret (by kernel_rfl) (by kernel_rfl) (by kernel_rfl)
theorem d_walk_Sections_fz (a0 : T_api_Layout) (a1 : (List T_api_Step)) (r : (List Int)) (h : d_walk_Sections a0 a1 = some r) : PCall Go.Proofs.Tryd.prog GlS 29 [Enc.pv a0, Enc.pv a1] (Enc.pv r) :=
  (d_walk_Sections_ok a0 a1 r h).freeze (by kernel_rfl) (by kernel_rfl) (by kernel_rfl)

/-! signallingref09.SameInts -/
noncomputable def d_ref09_SameInts_0 (a0 : (List Int)) (a1 : (List Int)) : Int → Option (Int ⊕ (Unit ⊕ Bool)) := fun x3 =>
  bif decide (x3 < ((a0.length : Nat) : Int)) then (
    (ixO a0 x3).bind fun x6 =>
    (ixO a1 x3).bind fun x7 =>
    bif (!(decide (x6 = x7))) then (
      some (.inr (.inr false))
    ) else (
      some (.inl (w64 (x3 + 1)))
    )
  ) else (
    some (.inr (.inl ()))
  )

noncomputable def d_ref09_SameInts (a0 : (List Int)) (a1 : (List Int)) : Option Bool :=
  bif (!(decide (((a0.length : Nat) : Int) = ((a1.length : Nat) : Int)))) then (
    some false
  ) else (
    onInl (α := Unit) (β := Bool) (loopO (d_ref09_SameInts_0 a0 a1) 0) fun _ =>
    some true
  )
theorem d_ref09_SameInts_ok (a0 : (List Int)) (a1 : (List Int)) (r : Bool) (h : d_ref09_SameInts a0 a1 = some r) : PCall Go.Proofs.Tryd.prog GlS 28 [Enc.pv a0, Enc.pv a1] (Enc.pv r) := by
  unfold d_ref09_SameInts at h
  refine pcall_of_pwp Go.Proofs.Tryd.func28 (by rfl) rfl Go.Proofs.Tryd.ntmps28 (by rfl) rfl ?_
  refine pwp_seq ?_
  refine r_reg ?_
  refine e_end (by kernel_rfl) ?_
  refine q_next ?_
  refine pwp_seq ?_
  refine pwp_seq ?_
  refine r_reg ?_
  refine p_run 1 (by kernel_rfl) ?_
  refine p_len (L := (a0 : (List Int))) (by kernel_rfl) ?_
  refine p_run 1 (by kernel_rfl) ?_
  refine p_len (L := (a1 : (List Int))) (by kernel_rfl) ?_
  refine e_end (by kernel_rfl) ?_
  refine q_next ?_
  rcases o_cond h with ⟨hb, h⟩ | ⟨hb, h⟩
  · refine r_cond_t hb (by kernel_rfl) ?_
    refine pwp_seq ?_
    refine r_reg ?_
    refine e_end (by kernel_rfl) ?_
    refine q_next ?_
    refine pwp_ret ?_
    refine q_seq_ret ?_
    cases h
    exact q_ret (by kernel_rfl) (by kernel_rfl) (by kernel_rfl)
  · refine r_cond_f hb (by kernel_rfl) ?_
    refine pwp_skip ?_
    refine q_next ?_
    refine pwp_seq ?_
    refine pwp_seq ?_
    refine r_reg ?_
    refine e_end (by kernel_rfl) ?_
    refine q_next ?_
    refine pwp_block ?_
    obtain ⟨o8, h8, h⟩ := o_inl h
    refine r_loop2 26 0 (fun x3 => ⟨[(0, lstOf .frozen (a0 : (List Int))), (1, lstOf .frozen (a1 : (List Int))), (5, .int .i64 x3)], [], [], []⟩) (fun (_ : Unit) => ⟨[], [], [], []⟩) h8 (by kernel_rfl) (fun _ => by kernel_rfl) ?_ ?_
    · rintro x3 oh7 h7
      unfold d_ref09_SameInts_0 at h7
      refine pwp_seq ?_
      refine pwp_seq ?_
      refine r_reg ?_
      refine p_run 2 (by kernel_rfl) ?_
      refine p_len (L := (a0 : (List Int))) (by kernel_rfl) ?_
      refine e_end (by kernel_rfl) ?_
      refine q_next ?_
      rcases o_cond h7 with ⟨hb, h7⟩ | ⟨hb, h7⟩
      · refine r_cond_t hb (by kernel_rfl) ?_
        refine pwp_skip ?_
        refine q_next ?_
        refine pwp_seq ?_
        refine pwp_block ?_
        refine pwp_seq ?_
        refine r_regd (by kernel_rfl) (by kernel_rfl) ?_
        refine p_run 2 (by kernel_rfl) ?_
        obtain ⟨x6, h9, h7⟩ := o_bind h7
        refine p_ix h9 (by kernel_rfl) ?_
        refine p_run 3 (by kernel_rfl) ?_
        obtain ⟨x7, h10, h7⟩ := o_bind h7
        refine p_ix h10 (by kernel_rfl) ?_
        refine e_end (by kernel_rfl) ?_
        refine q_next ?_
        rcases o_cond h7 with ⟨hb, h7⟩ | ⟨hb, h7⟩
        · refine r_cond_t hb (by kernel_rfl) ?_
          refine pwp_seq ?_
          refine r_reg ?_
          refine e_end (by kernel_rfl) ?_
          refine q_next ?_
          refine pwp_ret ?_
          refine q_block_ret ?_
          refine q_seq_ret ?_
          cases h7
          refine q_lout_ret fun he => ?_
          subst he
          have h11 := o_outr h
          refine q_block_ret ?_
          refine q_seq_ret ?_
          cases h11
          exact q_ret (by kernel_rfl) (by kernel_rfl) (by kernel_rfl)
        · refine r_cond_f hb (by kernel_rfl) ?_
          refine pwp_skip ?_
          refine q_block ?_
          refine q_next ?_
          refine r_reg ?_
          refine e_end (by kernel_rfl) ?_
          cases h7
          exact q_lback (by kernel_rfl)
      · refine r_cond_f hb (by kernel_rfl) ?_
        refine pwp_exit ?_
        refine q_seq_exit ?_
        cases h7
        exact q_lexit (by kernel_rfl) (by kernel_rfl)
    · rintro _ s' rfl hs
      have h := o_outl h
      refine q_block_hit ?_
      refine q_next (pwp_wkr hs ?_)
      refine pwp_seq ?_
      refine r_reg ?_
      refine e_end (by kernel_rfl) ?_
      refine q_next ?_
      refine pwp_ret ?_
      cases h
      exact q_ret (by kernel_rfl) (by kernel_rfl) (by kernel_rfl)

/-! signallinglaw09.alive -/
noncomputable def d_law09_alive : Option Bool :=
  (d_law09_line ).bind fun r1 =>
  (ixO [(T_api_Step.mk 0 0 1), (T_api_Step.mk 1 0 1)] 0).bind fun x2 =>
  (d_walk_Next r1 x2).bind fun r3 =>
  (d_walk_Next r1 (T_api_Step.mk 2 0 1)).bind fun r4 =>
  (d_walk_Branches r1 (T_api_End.mk 1 0)).bind fun r5 =>
  (d_walk_Reverse [(T_api_Step.mk 0 0 1), (T_api_Step.mk 1 0 1)]).bind fun r6 =>
  ((bif (((eq_T_api_End r3.1 (T_api_End.mk 1 0)) && r3.2) && (!r4.2)) then (
    (slO [(T_api_Step.mk 0 0 1), (T_api_Step.mk 1 0 1)] (some 1) none none).bind fun x8 =>
    (d_ref09_SameSteps r5 x8).bind fun r9 =>
    some r9
  ) else some false) : Option Bool).bind fun b7 =>
  ((bif b7 then (
    (d_walk_Valid r1 [(T_api_Step.mk 0 0 1), (T_api_Step.mk 1 0 1)]).bind fun r11 =>
    some r11
  ) else some false) : Option Bool).bind fun b10 =>
  ((bif b10 then (
    (d_walk_Valid r1 [(T_api_Step.mk 0 0 1), (T_api_Step.mk 2 0 1)]).bind fun r13 =>
    some (!r13)
  ) else some false) : Option Bool).bind fun b12 =>
  ((bif b12 then (
    (d_walk_Length r1 [(T_api_Step.mk 0 0 1), (T_api_Step.mk 1 0 1)]).bind fun r15 =>
    some (decide (r15 = 40000))
  ) else some false) : Option Bool).bind fun b14 =>
  ((bif b14 then (
    (d_walk_Sections r1 [(T_api_Step.mk 0 0 1), (T_api_Step.mk 1 0 1)]).bind fun r17 =>
    (d_ref09_SameInts r17 [0, 1]).bind fun r18 =>
    some r18
  ) else some false) : Option Bool).bind fun b16 =>
  ((bif b16 then (
    some (decide (((r6.length : Nat) : Int) = 2))
  ) else some false) : Option Bool).bind fun b19 =>
  ((bif b19 then (
    (ixO r6 0).bind fun x21 =>
    some (eq_T_api_Step x21 (T_api_Step.mk 1 1 0))
  ) else some false) : Option Bool).bind fun b20 =>
  some b20
theorem d_law09_alive_ok (r : Bool) (h : d_law09_alive  = some r) : PCall Go.Proofs.Tryd.prog GlS 25 [] (Enc.pv r) := by
  unfold d_law09_alive at h
  refine pcall_of_pwp Go.Proofs.Tryd.func25 (by rfl) rfl Go.Proofs.Tryd.ntmps25 (by rfl) rfl ?_
  refine pwp_seq ?_
  refine r_reg ?_
  refine e_end (by kernel_rfl) ?_
  refine q_next ?_
  refine pwp_seq ?_
  refine r_reg ?_
  obtain ⟨r1, h1, h⟩ := o_bind h
  refine p_call (d_law09_line_ok  r1 h1) (by kernel_rfl) (by kernel_rfl) ?_
  refine e_end (by kernel_rfl) ?_
  refine q_next ?_
  refine pwp_seq ?_
  refine r_reg ?_
  refine e_end (by kernel_rfl) ?_
  refine q_next ?_
  refine pwp_seq ?_
  refine r_regd (by kernel_rfl) (by kernel_rfl) ?_
  refine p_run 2 (by kernel_rfl) ?_
  obtain ⟨x2, h2, h⟩ := o_bind h
  refine p_ix h2 (by kernel_rfl) ?_
  refine p_run 1 (by kernel_rfl) ?_
  obtain ⟨r3, h3, h⟩ := o_bind h
  refine p_call (d_walk_Next_ok _ _ r3 h3) (by kernel_rfl) (by kernel_rfl) ?_
  refine e_end (by kernel_rfl) ?_
  refine q_next ?_
  refine pwp_seq ?_
  refine r_reg ?_
  refine p_run 2 (by kernel_rfl) ?_
  obtain ⟨r4, h4, h⟩ := o_bind h
  refine p_call (d_walk_Next_ok _ _ r4 h4) (by kernel_rfl) (by kernel_rfl) ?_
  refine e_end (by kernel_rfl) ?_
  refine q_next ?_
  refine pwp_seq ?_
  refine r_reg ?_
  refine p_run 2 (by kernel_rfl) ?_
  obtain ⟨r5, h5, h⟩ := o_bind h
  refine p_call (d_walk_Branches_ok _ _ r5 h5) (by kernel_rfl) (by kernel_rfl) ?_
  refine e_end (by kernel_rfl) ?_
  refine q_next ?_
  refine pwp_seq ?_
  refine r_reg ?_
  refine p_run 1 (by kernel_rfl) ?_
  obtain ⟨r6, h6, h⟩ := o_bind h
  refine p_call (d_walk_Reverse_ok _ r6 h6) (by kernel_rfl) (by kernel_rfl) ?_
  refine e_end (by kernel_rfl) ?_
  refine q_next ?_
  refine pwp_seq ?_
  refine r_reg ?_
  refine p_run 4 (by kernel_rfl) ?_
  refine e_segb 2 37 ((eq_T_api_End r3.1 (T_api_End.mk 1 0)) && r3.2) (fun x hx => ?_) ?_
  · rcases b_and hx with ⟨hb, hx⟩ | ⟨hb, hx⟩
    · refine p_settle 35 hb (by kernel_rfl) (by kernel_rfl) ?_
      subst hx
      exact f_end (by kernel_rfl) (by kernel_rfl)
    · refine p_settle 35 hb (by kernel_rfl) (by kernel_rfl) ?_
      subst hx
      exact f_end (by kernel_rfl) (by kernel_rfl)
  · refine p_run 1 (by kernel_rfl) ?_
    refine e_segb 3 41 (((eq_T_api_End r3.1 (T_api_End.mk 1 0)) && r3.2) && (!r4.2)) (fun x hx => ?_) ?_
    · rcases b_and hx with ⟨hb, hx⟩ | ⟨hb, hx⟩
      · refine p_settle 38 hb (by kernel_rfl) (by kernel_rfl) ?_
        subst hx
        exact f_end (by kernel_rfl) (by kernel_rfl)
      · refine p_settle 38 hb (by kernel_rfl) (by kernel_rfl) ?_
        subst hx
        exact f_end (by kernel_rfl) (by kernel_rfl)
    · obtain ⟨b7, h7, h⟩ := o_bind h
      refine p_run 1 (by kernel_rfl) ?_
      refine e_seg 5 47 (.bool b7) ?_ ?_
      · rcases o_cond h7 with ⟨hb, h7⟩ | ⟨hb, h7⟩
        · refine p_settle 42 hb (by kernel_rfl) (by kernel_rfl) ?_
          refine p_run 2 (by kernel_rfl) ?_
          obtain ⟨x8, h8, h7⟩ := o_bind h7
          refine p_slf h8 .full (by kernel_rfl) (by kernel_rfl) (.inr ⟨rfl, rfl⟩) ?_
          obtain ⟨r9, h9, h7⟩ := o_bind h7
          refine p_call (d_ref09_SameSteps_ok _ _ r9 h9) (by kernel_rfl) (by kernel_rfl) ?_
          cases h7
          exact f_end (by kernel_rfl) (by kernel_rfl)
        · refine p_settle 42 hb (by kernel_rfl) (by kernel_rfl) ?_
          cases h7
          exact f_end (by kernel_rfl) (by kernel_rfl)
      · obtain ⟨b10, h10, h⟩ := o_bind h
        refine p_run 1 (by kernel_rfl) ?_
        refine e_seg 4 52 (.bool b10) ?_ ?_
        · rcases o_cond h10 with ⟨hb, h10⟩ | ⟨hb, h10⟩
          · refine p_settle 48 hb (by kernel_rfl) (by kernel_rfl) ?_
            refine p_run 2 (by kernel_rfl) ?_
            obtain ⟨r11, h11, h10⟩ := o_bind h10
            refine p_call (d_walk_Valid_ok _ _ r11 h11) (by kernel_rfl) (by kernel_rfl) ?_
            cases h10
            exact f_end (by kernel_rfl) (by kernel_rfl)
          · refine p_settle 48 hb (by kernel_rfl) (by kernel_rfl) ?_
            cases h10
            exact f_end (by kernel_rfl) (by kernel_rfl)
        · obtain ⟨b12, h12, h⟩ := o_bind h
          refine p_run 1 (by kernel_rfl) ?_
          refine e_seg 7 60 (.bool b12) ?_ ?_
          · rcases o_cond h12 with ⟨hb, h12⟩ | ⟨hb, h12⟩
            · refine p_settle 53 hb (by kernel_rfl) (by kernel_rfl) ?_
              refine p_run 4 (by kernel_rfl) ?_
              obtain ⟨r13, h13, h12⟩ := o_bind h12
              refine p_call (d_walk_Valid_ok _ _ r13 h13) (by kernel_rfl) (by kernel_rfl) ?_
              cases h12
              exact f_end (by kernel_rfl) (by kernel_rfl)
            · refine p_settle 53 hb (by kernel_rfl) (by kernel_rfl) ?_
              cases h12
              exact f_end (by kernel_rfl) (by kernel_rfl)
          · obtain ⟨b14, h14, h⟩ := o_bind h
            refine p_run 1 (by kernel_rfl) ?_
            refine e_seg 5 66 (.bool b14) ?_ ?_
            · rcases o_cond h14 with ⟨hb, h14⟩ | ⟨hb, h14⟩
              · refine p_settle 61 hb (by kernel_rfl) (by kernel_rfl) ?_
                refine p_run 2 (by kernel_rfl) ?_
                obtain ⟨r15, h15, h14⟩ := o_bind h14
                refine p_call (d_walk_Length_ok _ _ r15 h15) (by kernel_rfl) (by kernel_rfl) ?_
                cases h14
                exact f_end (by kernel_rfl) (by kernel_rfl)
              · refine p_settle 61 hb (by kernel_rfl) (by kernel_rfl) ?_
                cases h14
                exact f_end (by kernel_rfl) (by kernel_rfl)
            · obtain ⟨b16, h16, h⟩ := o_bind h
              refine p_run 1 (by kernel_rfl) ?_
              refine e_seg 6 73 (.bool b16) ?_ ?_
              · rcases o_cond h16 with ⟨hb, h16⟩ | ⟨hb, h16⟩
                · refine p_settle 67 hb (by kernel_rfl) (by kernel_rfl) ?_
                  refine p_run 2 (by kernel_rfl) ?_
                  obtain ⟨r17, h17, h16⟩ := o_bind h16
                  refine p_call (d_walk_Sections_fz _ _ r17 h17) (by kernel_rfl) (by kernel_rfl) ?_
                  refine p_run 1 (by kernel_rfl) ?_
                  obtain ⟨r18, h18, h16⟩ := o_bind h16
                  refine p_call (d_ref09_SameInts_ok _ _ r18 h18) (by kernel_rfl) (by kernel_rfl) ?_
                  cases h16
                  exact f_end (by kernel_rfl) (by kernel_rfl)
                · refine p_settle 67 hb (by kernel_rfl) (by kernel_rfl) ?_
                  cases h16
                  exact f_end (by kernel_rfl) (by kernel_rfl)
              · obtain ⟨b19, h19, h⟩ := o_bind h
                refine p_run 1 (by kernel_rfl) ?_
                refine e_seg 4 78 (.bool b19) ?_ ?_
                · rcases o_cond h19 with ⟨hb, h19⟩ | ⟨hb, h19⟩
                  · refine p_settle 74 hb (by kernel_rfl) (by kernel_rfl) ?_
                    refine p_run 1 (by kernel_rfl) ?_
                    refine p_len (L := (r6 : (List T_api_Step))) (by kernel_rfl) ?_
                    cases h19
                    exact f_end (by kernel_rfl) (by kernel_rfl)
                  · refine p_settle 74 hb (by kernel_rfl) (by kernel_rfl) ?_
                    cases h19
                    exact f_end (by kernel_rfl) (by kernel_rfl)
                · obtain ⟨b20, h20, h⟩ := o_bind h
                  refine p_run 1 (by kernel_rfl) ?_
                  refine e_seg 6 85 (.bool b20) ?_ ?_
                  · rcases o_cond h20 with ⟨hb, h20⟩ | ⟨hb, h20⟩
                    · refine p_settle 79 hb (by kernel_rfl) (by kernel_rfl) ?_
                      refine p_run 1 (by kernel_rfl) ?_
                      obtain ⟨x21, h21, h20⟩ := o_bind h20
                      refine p_ix h21 (by kernel_rfl) ?_
                      cases h20
                      exact f_end (by kernel_rfl) (by kernel_rfl)
                    · refine p_settle 79 hb (by kernel_rfl) (by kernel_rfl) ?_
                      cases h20
                      exact f_end (by kernel_rfl) (by kernel_rfl)
                  · refine e_end (by kernel_rfl) ?_
                    refine q_next ?_
                    refine pwp_ret ?_
                    cases h
                    exact q_ret (by kernel_rfl) (by kernel_rfl) (by kernel_rfl)

/-! signallingref09.exists -/
noncomputable def d_ref09_exists (a0 : T_api_Layout) (a1 : Int) : Option Bool :=
  ((bif decide (0 ≤ a1) then (
    some (decide (a1 < ((a0.Elements.length : Nat) : Int)))
  ) else some false) : Option Bool).bind fun b1 =>
  some b1
theorem d_ref09_exists_ok (a0 : T_api_Layout) (a1 : Int) (r : Bool) (h : d_ref09_exists a0 a1 = some r) : PCall Go.Proofs.Tryd.prog GlS 53 [Enc.pv a0, Enc.pv a1] (Enc.pv r) := by
  unfold d_ref09_exists at h
  refine pcall_of_pwp Go.Proofs.Tryd.func53 (by rfl) rfl Go.Proofs.Tryd.ntmps53 (by rfl) rfl ?_
  refine pwp_seq ?_
  refine r_reg ?_
  refine e_end (by kernel_rfl) ?_
  refine q_next ?_
  refine pwp_seq ?_
  refine r_reg ?_
  obtain ⟨b1, h1, h⟩ := o_bind h
  refine p_run 3 (by kernel_rfl) ?_
  refine e_seg 6 13 (.bool b1) ?_ ?_
  · rcases o_cond h1 with ⟨hb, h1⟩ | ⟨hb, h1⟩
    · refine p_settle 7 hb (by kernel_rfl) (by kernel_rfl) ?_
      refine p_run 3 (by kernel_rfl) ?_
      refine p_len (L := (a0.Elements : (List T_api_Element))) (by kernel_rfl) ?_
      cases h1
      exact f_end (by kernel_rfl) (by kernel_rfl)
    · refine p_settle 7 hb (by kernel_rfl) (by kernel_rfl) ?_
      cases h1
      exact f_end (by kernel_rfl) (by kernel_rfl)
  · refine e_end (by kernel_rfl) ?_
    refine q_next ?_
    refine pwp_ret ?_
    cases h
    exact q_ret (by kernel_rfl) (by kernel_rfl) (by kernel_rfl)

/-! signallingref06.Need -/
noncomputable def d_ref06_Need (a0 : Int) (a1 : Int) (a2 : Int) : Option (Int × Bool) :=
  bif ((decide (a0 = 1)) || (decide (a0 = 3))) then (
    some (0, (((decide ((min a1 a2) = 0)) && (decide ((max a1 a2) = 1))) || (((decide (a0 = 3)) && (decide ((min a1 a2) = 2))) && (decide ((max a1 a2) = 3)))))
  ) else (
    bif (((decide (a0 = 2)) && (decide ((min a1 a2) = 0))) && (decide ((max a1 a2) = 1))) then (
      some (1, true)
    ) else (
      bif (((decide (a0 = 2)) && (decide ((min a1 a2) = 0))) && (decide ((max a1 a2) = 2))) then (
        some (2, true)
      ) else (
        some (0, false)
      )
    )
  )
theorem d_ref06_Need_ok (a0 : Int) (a1 : Int) (a2 : Int) (r : (Int × Bool)) (h : d_ref06_Need a0 a1 a2 = some r) : PCall Go.Proofs.Tryd.prog GlS 72 [Enc.pv a0, Enc.pv a1, Enc.pv a2] (.tup [Enc.pv r.1, Enc.pv r.2]) := by
  unfold d_ref06_Need at h
  refine pcall_of_pwp Go.Proofs.Tryd.func72 (by rfl) rfl Go.Proofs.Tryd.ntmps72 (by rfl) rfl ?_
  refine pwp_seq ?_
  refine r_reg ?_
  refine e_end (by kernel_rfl) ?_
  refine q_next ?_
  refine pwp_seq ?_
  refine r_reg ?_
  refine e_end (by kernel_rfl) ?_
  refine q_next ?_
  refine pwp_seq ?_
  refine r_reg ?_
  refine e_end (by kernel_rfl) ?_
  refine q_next ?_
  refine pwp_seq ?_
  refine pwp_seq ?_
  refine r_reg ?_
  refine p_run 3 (by kernel_rfl) ?_
  refine e_segb 3 21 ((decide (a0 = 1)) || (decide (a0 = 3))) (fun x hx => ?_) ?_
  · rcases b_or hx with ⟨hb, hx⟩ | ⟨hb, hx⟩
    · refine p_settle 18 hb (by kernel_rfl) (by kernel_rfl) ?_
      subst hx
      exact f_end (by kernel_rfl) (by kernel_rfl)
    · refine p_settle 18 hb (by kernel_rfl) (by kernel_rfl) ?_
      subst hx
      exact f_end (by kernel_rfl) (by kernel_rfl)
  · refine e_nil (by kernel_rfl) ?_
    refine q_next ?_
    rcases o_cond h with ⟨hb, h⟩ | ⟨hb, h⟩
    · refine r_cond_t hb (by kernel_rfl) ?_
      refine pwp_seq ?_
      refine r_reg ?_
      refine p_run 3 (by kernel_rfl) ?_
      refine e_segb 3 27 ((decide ((min a1 a2) = 0)) && (decide ((max a1 a2) = 1))) (fun x hx => ?_) ?_
      · rcases b_and hx with ⟨hb, hx⟩ | ⟨hb, hx⟩
        · refine p_settle 24 hb (by kernel_rfl) (by kernel_rfl) ?_
          subst hx
          exact f_end (by kernel_rfl) (by kernel_rfl)
        · refine p_settle 24 hb (by kernel_rfl) (by kernel_rfl) ?_
          subst hx
          exact f_end (by kernel_rfl) (by kernel_rfl)
      · refine p_run 1 (by kernel_rfl) ?_
        refine e_segb 11 39 (((decide ((min a1 a2) = 0)) && (decide ((max a1 a2) = 1))) || (((decide (a0 = 3)) && (decide ((min a1 a2) = 2))) && (decide ((max a1 a2) = 3)))) (fun x hx => ?_) ?_
        · rcases b_or hx with ⟨hb, hx⟩ | ⟨hb, hx⟩
          · refine p_settle 28 hb (by kernel_rfl) (by kernel_rfl) ?_
            subst hx
            exact f_end (by kernel_rfl) (by kernel_rfl)
          · refine p_settle 28 hb (by kernel_rfl) (by kernel_rfl) ?_
            refine p_run 3 (by kernel_rfl) ?_
            refine f_segb 3 34 ((decide (a0 = 3)) && (decide ((min a1 a2) = 2))) (fun x hx => ?_) ?_
            · rcases b_and hx with ⟨hb, hx⟩ | ⟨hb, hx⟩
              · refine p_settle 31 hb (by kernel_rfl) (by kernel_rfl) ?_
                subst hx
                exact f_end (by kernel_rfl) (by kernel_rfl)
              · refine p_settle 31 hb (by kernel_rfl) (by kernel_rfl) ?_
                subst hx
                exact f_end (by kernel_rfl) (by kernel_rfl)
            · refine p_run 1 (by kernel_rfl) ?_
              refine f_segb 3 38 (((decide (a0 = 3)) && (decide ((min a1 a2) = 2))) && (decide ((max a1 a2) = 3))) (fun x hx => ?_) ?_
              · rcases b_and hx with ⟨hb, hx⟩ | ⟨hb, hx⟩
                · refine p_settle 35 hb (by kernel_rfl) (by kernel_rfl) ?_
                  subst hx
                  exact f_end (by kernel_rfl) (by kernel_rfl)
                · refine p_settle 35 hb (by kernel_rfl) (by kernel_rfl) ?_
                  subst hx
                  exact f_end (by kernel_rfl) (by kernel_rfl)
              · subst hx
                exact f_end (by kernel_rfl) (by kernel_rfl)
        · refine e_end (by kernel_rfl) ?_
          refine q_next ?_
          refine pwp_ret ?_
          refine q_seq_ret ?_
          cases h
          exact q_ret (by kernel_rfl) (by kernel_rfl) (by kernel_rfl)
    · refine r_cond_f hb (by kernel_rfl) ?_
      refine pwp_skip ?_
      refine q_next ?_
      refine pwp_seq ?_
      refine pwp_seq ?_
      refine r_reg ?_
      refine p_run 3 (by kernel_rfl) ?_
      refine e_segb 3 45 ((decide (a0 = 2)) && (decide ((min a1 a2) = 0))) (fun x hx => ?_) ?_
      · rcases b_and hx with ⟨hb, hx⟩ | ⟨hb, hx⟩
        · refine p_settle 42 hb (by kernel_rfl) (by kernel_rfl) ?_
          subst hx
          exact f_end (by kernel_rfl) (by kernel_rfl)
        · refine p_settle 42 hb (by kernel_rfl) (by kernel_rfl) ?_
          subst hx
          exact f_end (by kernel_rfl) (by kernel_rfl)
      · refine p_run 1 (by kernel_rfl) ?_
        refine e_segb 3 49 (((decide (a0 = 2)) && (decide ((min a1 a2) = 0))) && (decide ((max a1 a2) = 1))) (fun x hx => ?_) ?_
        · rcases b_and hx with ⟨hb, hx⟩ | ⟨hb, hx⟩
          · refine p_settle 46 hb (by kernel_rfl) (by kernel_rfl) ?_
            subst hx
            exact f_end (by kernel_rfl) (by kernel_rfl)
          · refine p_settle 46 hb (by kernel_rfl) (by kernel_rfl) ?_
            subst hx
            exact f_end (by kernel_rfl) (by kernel_rfl)
        · refine e_nil (by kernel_rfl) ?_
          refine q_next ?_
          rcases o_cond h with ⟨hb, h⟩ | ⟨hb, h⟩
          · refine r_cond_t hb (by kernel_rfl) ?_
            refine pwp_seq ?_
            refine r_reg ?_
            refine e_end (by kernel_rfl) ?_
            refine q_next ?_
            refine pwp_ret ?_
            refine q_seq_ret ?_
            cases h
            exact q_ret (by kernel_rfl) (by kernel_rfl) (by kernel_rfl)
          · refine r_cond_f hb (by kernel_rfl) ?_
            refine pwp_skip ?_
            refine q_next ?_
            refine pwp_seq ?_
            refine pwp_seq ?_
            refine r_reg ?_
            refine p_run 3 (by kernel_rfl) ?_
            refine e_segb 3 55 ((decide (a0 = 2)) && (decide ((min a1 a2) = 0))) (fun x hx => ?_) ?_
            · rcases b_and hx with ⟨hb, hx⟩ | ⟨hb, hx⟩
              · refine p_settle 52 hb (by kernel_rfl) (by kernel_rfl) ?_
                subst hx
                exact f_end (by kernel_rfl) (by kernel_rfl)
              · refine p_settle 52 hb (by kernel_rfl) (by kernel_rfl) ?_
                subst hx
                exact f_end (by kernel_rfl) (by kernel_rfl)
            · refine p_run 1 (by kernel_rfl) ?_
              refine e_segb 3 59 (((decide (a0 = 2)) && (decide ((min a1 a2) = 0))) && (decide ((max a1 a2) = 2))) (fun x hx => ?_) ?_
              · rcases b_and hx with ⟨hb, hx⟩ | ⟨hb, hx⟩
                · refine p_settle 56 hb (by kernel_rfl) (by kernel_rfl) ?_
                  subst hx
                  exact f_end (by kernel_rfl) (by kernel_rfl)
                · refine p_settle 56 hb (by kernel_rfl) (by kernel_rfl) ?_
                  subst hx
                  exact f_end (by kernel_rfl) (by kernel_rfl)
              · refine e_nil (by kernel_rfl) ?_
                refine q_next ?_
                rcases o_cond h with ⟨hb, h⟩ | ⟨hb, h⟩
                · refine r_cond_t hb (by kernel_rfl) ?_
                  refine pwp_seq ?_
                  refine r_reg ?_
                  refine e_end (by kernel_rfl) ?_
                  refine q_next ?_
                  refine pwp_ret ?_
                  refine q_seq_ret ?_
                  cases h
                  exact q_ret (by kernel_rfl) (by kernel_rfl) (by kernel_rfl)
                · refine r_cond_f hb (by kernel_rfl) ?_
                  refine pwp_skip ?_
                  refine q_next ?_
                  refine pwp_seq ?_
                  refine r_reg ?_
                  refine e_end (by kernel_rfl) ?_
                  refine q_next ?_
                  refine pwp_ret ?_
                  cases h
                  exact q_ret (by kernel_rfl) (by kernel_rfl) (by kernel_rfl)

/-! signallingref09.need -/
noncomputable def d_ref09_need (a0 : T_api_Layout) (a1 : T_api_Step) : Option (Int × Bool) :=
  (d_ref09_exists a0 a1.El).bind fun r1 =>
  bif (!r1) then (
    some (0, false)
  ) else (
    (ixO a0.Elements a1.El).bind fun x2 =>
    (d_ref06_Need x2.Kind a1.In a1.Out).bind fun r3 =>
    some (r3.1, r3.2)
  )
theorem d_ref09_need_ok (a0 : T_api_Layout) (a1 : T_api_Step) (r : (Int × Bool)) (h : d_ref09_need a0 a1 = some r) : PCall Go.Proofs.Tryd.prog GlS 51 [Enc.pv a0, Enc.pv a1] (.tup [Enc.pv r.1, Enc.pv r.2]) := by
  unfold d_ref09_need at h
  refine pcall_of_pwp Go.Proofs.Tryd.func51 (by rfl) rfl Go.Proofs.Tryd.ntmps51 (by rfl) rfl ?_
  refine pwp_seq ?_
  refine r_reg ?_
  refine e_end (by kernel_rfl) ?_
  refine q_next ?_
  refine pwp_seq ?_
  refine pwp_seq ?_
  refine r_reg ?_
  refine p_run 3 (by kernel_rfl) ?_
  obtain ⟨r1, h1, h⟩ := o_bind h
  refine p_call (d_ref09_exists_ok _ _ r1 h1) (by kernel_rfl) (by kernel_rfl) ?_
  refine e_end (by kernel_rfl) ?_
  refine q_next ?_
  rcases o_cond h with ⟨hb, h⟩ | ⟨hb, h⟩
  · refine r_cond_t hb (by kernel_rfl) ?_
    refine pwp_seq ?_
    refine r_reg ?_
    refine e_end (by kernel_rfl) ?_
    refine q_next ?_
    refine pwp_ret ?_
    refine q_seq_ret ?_
    cases h
    exact q_ret (by kernel_rfl) (by kernel_rfl) (by kernel_rfl)
  · refine r_cond_f hb (by kernel_rfl) ?_
    refine pwp_skip ?_
    refine q_next ?_
    refine pwp_seq ?_
    refine r_regd (by kernel_rfl) (by kernel_rfl) ?_
    refine p_run 4 (by kernel_rfl) ?_
    obtain ⟨x2, h2, h⟩ := o_bind h
    refine p_ix h2 (by kernel_rfl) ?_
    refine p_run 6 (by kernel_rfl) ?_
    obtain ⟨r3, h3, h⟩ := o_bind h
    refine p_call (d_ref06_Need_ok _ _ _ r3 h3) (by kernel_rfl) (by kernel_rfl) ?_
    refine e_end (by kernel_rfl) ?_
    refine q_next ?_
    refine pwp_ret ?_
    cases h
    exact q_ret (by kernel_rfl) (by kernel_rfl) (by kernel_rfl)

/-! signallingref09.Next -/
noncomputable def d_ref09_Next (a0 : T_api_Layout) (a1 : T_api_Step) : Option (T_api_End × Bool) :=
  (d_ref07_Joined a0 (T_api_End.mk a1.El a1.Out)).bind fun r1 =>
  some (r1.1, r1.2)
theorem d_ref09_Next_ok (a0 : T_api_Layout) (a1 : T_api_Step) (r : (T_api_End × Bool)) (h : d_ref09_Next a0 a1 = some r) : PCall Go.Proofs.Tryd.prog GlS 52 [Enc.pv a0, Enc.pv a1] (.tup [Enc.pv r.1, Enc.pv r.2]) := by
  unfold d_ref09_Next at h
  refine pcall_of_pwp Go.Proofs.Tryd.func52 (by rfl) rfl Go.Proofs.Tryd.ntmps52 (by rfl) rfl ?_
  refine pwp_seq ?_
  refine r_reg ?_
  refine e_end (by kernel_rfl) ?_
  refine q_next ?_
  refine pwp_seq ?_
  refine r_reg ?_
  refine p_run 6 (by kernel_rfl) ?_
  obtain ⟨r1, h1, h⟩ := o_bind h
  refine p_call (d_ref07_Joined_ok _ _ r1 h1) (by kernel_rfl) (by kernel_rfl) ?_
  refine e_end (by kernel_rfl) ?_
  refine q_next ?_
  refine pwp_ret ?_
  cases h
  exact q_ret (by kernel_rfl) (by kernel_rfl) (by kernel_rfl)

/-! signallingref09.Valid -/
noncomputable def d_ref09_Valid_1 (a1 : (List T_api_Step)) (x23 : Int) : Int → Option (Int ⊕ (Unit ⊕ (Int ⊕ (Unit ⊕ Bool)))) := fun x61 =>
  bif decide (x61 < x23) then (
    (ixO a1 x61).bind fun x64 =>
    (ixO a1 x23).bind fun x65 =>
    bif decide (x64.El = x65.El) then (
      some (.inr (.inr (.inr (.inr false))))
    ) else (
      some (.inl (w64 (x61 + 1)))
    )
  ) else (
    some (.inr (.inl ()))
  )

noncomputable def d_ref09_Valid_0 (a0 : T_api_Layout) (a1 : (List T_api_Step)) : Int → Option (Int ⊕ (Unit ⊕ Bool)) := fun x23 =>
  bif decide (x23 < ((a1.length : Nat) : Int)) then (
    (ixO a1 x23).bind fun x45 =>
    (d_ref09_need a0 x45).bind fun r46 =>
    bif (!r46.2) then (
      some (.inr (.inr false))
    ) else (
      onInl (α := Unit) (β := (Int ⊕ (Unit ⊕ Bool))) (
        bif decide (0 < x23) then (
          (ixO a1 (w64 (x23 - 1))).bind fun x53 =>
          (d_ref09_Next a0 x53).bind fun r54 =>
          ((bif (!r54.2) then some true else (
            (ixO a1 x23).bind fun x56 =>
            some (!(decide (r54.1.El = x56.El)))
          )) : Option Bool).bind fun b55 =>
          ((bif b55 then some true else (
            (ixO a1 x23).bind fun x58 =>
            some (!(decide (r54.1.Side = x58.In)))
          )) : Option Bool).bind fun b57 =>
          bif b57 then (
            some (.inr (.inr (.inr false)))
          ) else (
            some (.inl ())
          )
        ) else (
          some (.inl ())
        )
      ) fun _ =>
      onInl (α := Unit) (β := (Int ⊕ (Unit ⊕ Bool))) (loopO (d_ref09_Valid_1 a1 x23) 0) fun _ =>
      some (.inl (w64 (x23 + 1)))
    )
  ) else (
    some (.inr (.inl ()))
  )

noncomputable def d_ref09_Valid (a0 : T_api_Layout) (a1 : (List T_api_Step)) : Option Bool :=
  ((bif decide (((a1.length : Nat) : Int) = 0) then some true else (
    some (decide (64 < ((a1.length : Nat) : Int)))
  )) : Option Bool).bind fun b1 =>
  bif b1 then (
    some false
  ) else (
    onInl (α := Unit) (β := Bool) (loopO (d_ref09_Valid_0 a0 a1) 0) fun _ =>
    some true
  )
theorem d_ref09_Valid_ok (a0 : T_api_Layout) (a1 : (List T_api_Step)) (r : Bool) (h : d_ref09_Valid a0 a1 = some r) : PCall Go.Proofs.Tryd.prog GlS 21 [Enc.pv a0, Enc.pv a1] (Enc.pv r) := by
  unfold d_ref09_Valid at h
  refine pcall_of_pwp Go.Proofs.Tryd.func21 (by rfl) rfl Go.Proofs.Tryd.ntmps21 (by rfl) rfl ?_
  refine pwp_seq ?_
  refine r_reg ?_
  refine e_end (by kernel_rfl) ?_
  refine q_next ?_
  refine pwp_seq ?_
  refine pwp_seq ?_
  refine r_reg ?_
  refine p_run 1 (by kernel_rfl) ?_
  refine p_len (L := (a1 : (List T_api_Step))) (by kernel_rfl) ?_
  obtain ⟨b1, h1, h⟩ := o_bind h
  refine p_run 2 (by kernel_rfl) ?_
  refine e_seg 4 18 (.bool b1) ?_ ?_
  · rcases o_cond h1 with ⟨hb, h1⟩ | ⟨hb, h1⟩
    · refine p_settle 14 hb (by kernel_rfl) (by kernel_rfl) ?_
      cases h1
      exact f_end (by kernel_rfl) (by kernel_rfl)
    · refine p_settle 14 hb (by kernel_rfl) (by kernel_rfl) ?_
      refine p_run 1 (by kernel_rfl) ?_
      refine p_len (L := (a1 : (List T_api_Step))) (by kernel_rfl) ?_
      cases h1
      exact f_end (by kernel_rfl) (by kernel_rfl)
  · refine e_nil (by kernel_rfl) ?_
    refine q_next ?_
    rcases o_cond h with ⟨hb, h⟩ | ⟨hb, h⟩
    · refine r_cond_t hb (by kernel_rfl) ?_
      refine pwp_seq ?_
      refine r_reg ?_
      refine e_end (by kernel_rfl) ?_
      refine q_next ?_
      refine pwp_ret ?_
      refine q_seq_ret ?_
      cases h
      exact q_ret (by kernel_rfl) (by kernel_rfl) (by kernel_rfl)
    · refine r_cond_f hb (by kernel_rfl) ?_
      refine pwp_skip ?_
      refine q_next ?_
      refine pwp_seq ?_
      refine pwp_seq ?_
      refine r_reg ?_
      refine e_end (by kernel_rfl) ?_
      refine q_next ?_
      refine pwp_block ?_
      obtain ⟨o71, h71, h⟩ := o_inl h
      refine r_loop2 86 0 (fun x23 => ⟨[(1, lstOf .frozen (a1 : (List T_api_Step))), (2, .ref 2 0), (5, .int .i64 x23)], [(2, .cells (cellsOf a0))], [], []⟩) (fun (_ : Unit) => ⟨[], [], [], []⟩) h71 (by kernel_rfl) (fun _ => by kernel_rfl) ?_ ?_
      · rintro x23 oh70 h70
        unfold d_ref09_Valid_0 at h70
        refine pwp_seq ?_
        refine pwp_seq ?_
        refine r_reg ?_
        refine p_run 2 (by kernel_rfl) ?_
        refine p_len (L := (a1 : (List T_api_Step))) (by kernel_rfl) ?_
        refine e_end (by kernel_rfl) ?_
        refine q_next ?_
        rcases o_cond h70 with ⟨hb, h70⟩ | ⟨hb, h70⟩
        · refine r_cond_t hb (by kernel_rfl) ?_
          refine pwp_skip ?_
          refine q_next ?_
          refine pwp_seq ?_
          refine pwp_block ?_
          refine pwp_seq ?_
          refine r_regd (by kernel_rfl) (by kernel_rfl) ?_
          refine p_run 3 (by kernel_rfl) ?_
          obtain ⟨x45, h72, h70⟩ := o_bind h70
          refine p_ix h72 (by kernel_rfl) ?_
          refine p_run 1 (by kernel_rfl) ?_
          obtain ⟨r46, h73, h70⟩ := o_bind h70
          refine p_call (d_ref09_need_ok _ _ r46 h73) (by kernel_rfl) (by kernel_rfl) ?_
          refine e_end (by kernel_rfl) ?_
          refine q_next ?_
          refine pwp_seq ?_
          refine pwp_seq ?_
          refine r_reg ?_
          refine e_end (by kernel_rfl) ?_
          refine q_next ?_
          rcases o_cond h70 with ⟨hb, h70⟩ | ⟨hb, h70⟩
          · refine r_cond_t hb (by kernel_rfl) ?_
            refine pwp_seq ?_
            refine r_reg ?_
            refine e_end (by kernel_rfl) ?_
            refine q_next ?_
            refine pwp_ret ?_
            refine q_seq_ret ?_
            refine q_block_ret ?_
            refine q_seq_ret ?_
            cases h70
            refine q_lout_ret fun he => ?_
            subst he
            have h74 := o_outr h
            refine q_block_ret ?_
            refine q_seq_ret ?_
            cases h74
            exact q_ret (by kernel_rfl) (by kernel_rfl) (by kernel_rfl)
          · refine r_cond_f hb (by kernel_rfl) ?_
            refine pwp_skip ?_
            refine q_next ?_
            obtain ⟨o83, h83, h70⟩ := o_inl h70
            refine r_join (o := o83) 86 (fun (_ : Unit) => ⟨[(1, lstOf .frozen (a1 : (List T_api_Step))), (2, .ref 2 0), (5, .int .i64 x23)], [(2, .cells (cellsOf a0))], [], []⟩) ?_ ?_
            · refine pwp_seq ?_
              refine r_reg ?_
              refine e_end (by kernel_rfl) ?_
              refine q_next ?_
              rcases o_cond h83 with ⟨hb, h83⟩ | ⟨hb, h83⟩
              · refine r_cond_t hb (by kernel_rfl) ?_
                refine pwp_seq ?_
                refine r_regd (by kernel_rfl) (by kernel_rfl) ?_
                refine p_run 4 (by kernel_rfl) ?_
                obtain ⟨x53, h84, h83⟩ := o_bind h83
                refine p_ix h84 (by kernel_rfl) ?_
                refine p_run 1 (by kernel_rfl) ?_
                obtain ⟨r54, h85, h83⟩ := o_bind h83
                refine p_call (d_ref09_Next_ok _ _ r54 h85) (by kernel_rfl) (by kernel_rfl) ?_
                refine e_end (by kernel_rfl) ?_
                refine q_next ?_
                refine pwp_seq ?_
                refine r_regd (by kernel_rfl) (by kernel_rfl) ?_
                obtain ⟨b55, h86, h83⟩ := o_bind h83
                refine p_run 3 (by kernel_rfl) ?_
                refine e_seg 9 59 (.bool b55) ?_ ?_
                · rcases o_cond h86 with ⟨hb, h86⟩ | ⟨hb, h86⟩
                  · refine p_settle 50 hb (by kernel_rfl) (by kernel_rfl) ?_
                    cases h86
                    exact f_end (by kernel_rfl) (by kernel_rfl)
                  · refine p_settle 50 hb (by kernel_rfl) (by kernel_rfl) ?_
                    refine p_run 4 (by kernel_rfl) ?_
                    obtain ⟨x56, h87, h86⟩ := o_bind h86
                    refine p_ix h87 (by kernel_rfl) ?_
                    cases h86
                    exact f_end (by kernel_rfl) (by kernel_rfl)
                · obtain ⟨b57, h88, h83⟩ := o_bind h83
                  refine p_run 1 (by kernel_rfl) ?_
                  refine e_seg 9 69 (.bool b57) ?_ ?_
                  · rcases o_cond h88 with ⟨hb, h88⟩ | ⟨hb, h88⟩
                    · refine p_settle 60 hb (by kernel_rfl) (by kernel_rfl) ?_
                      cases h88
                      exact f_end (by kernel_rfl) (by kernel_rfl)
                    · refine p_settle 60 hb (by kernel_rfl) (by kernel_rfl) ?_
                      refine p_run 4 (by kernel_rfl) ?_
                      obtain ⟨x58, h89, h88⟩ := o_bind h88
                      refine p_ix h89 (by kernel_rfl) ?_
                      cases h88
                      exact f_end (by kernel_rfl) (by kernel_rfl)
                  · refine e_nil (by kernel_rfl) ?_
                    refine q_next ?_
                    rcases o_cond h83 with ⟨hb, h83⟩ | ⟨hb, h83⟩
                    · refine r_cond_t hb (by kernel_rfl) ?_
                      refine pwp_seq ?_
                      refine r_reg ?_
                      refine e_end (by kernel_rfl) ?_
                      refine q_next ?_
                      refine pwp_ret ?_
                      cases h83
                      refine q_jout_ret ?_
                      have h90 := o_outr h70
                      refine q_block_ret ?_
                      refine q_seq_ret ?_
                      cases h90
                      refine q_lout_ret fun he => ?_
                      subst he
                      have h91 := o_outr h
                      refine q_block_ret ?_
                      refine q_seq_ret ?_
                      cases h91
                      exact q_ret (by kernel_rfl) (by kernel_rfl) (by kernel_rfl)
                    · refine r_cond_f hb (by kernel_rfl) ?_
                      refine pwp_skip ?_
                      cases h83
                      exact q_join (by kernel_rfl) (by kernel_rfl)
              · refine r_cond_f hb (by kernel_rfl) ?_
                refine pwp_skip ?_
                cases h83
                exact q_join (by kernel_rfl) (by kernel_rfl)
            · rintro _ rfl
              have h70 := o_outl h70
              refine pwp_seq ?_
              refine r_reg ?_
              refine e_end (by kernel_rfl) ?_
              refine q_next ?_
              refine pwp_block ?_
              obtain ⟨o101, h101, h70⟩ := o_inl h70
              refine r_loop2 86 2 (fun x61 => ⟨[(1, lstOf .frozen (a1 : (List T_api_Step))), (2, .ref 2 0), (5, .int .i64 x23), (10, .int .i64 x61)], [(2, .cells (cellsOf a0))], [], []⟩) (fun (_ : Unit) => ⟨[(1, lstOf .frozen (a1 : (List T_api_Step))), (2, .ref 2 0), (5, .int .i64 x23)], [(2, .cells (cellsOf a0))], [], []⟩) h101 (by kernel_rfl) (fun _ => by kernel_rfl) ?_ ?_
              · rintro x61 oh100 h100
                unfold d_ref09_Valid_1 at h100
                refine pwp_seq ?_
                refine pwp_seq ?_
                refine r_reg ?_
                refine e_end (by kernel_rfl) ?_
                refine q_next ?_
                rcases o_cond h100 with ⟨hb, h100⟩ | ⟨hb, h100⟩
                · refine r_cond_t hb (by kernel_rfl) ?_
                  refine pwp_skip ?_
                  refine q_next ?_
                  refine pwp_seq ?_
                  refine pwp_block ?_
                  refine pwp_seq ?_
                  refine r_regd (by kernel_rfl) (by kernel_rfl) ?_
                  refine p_run 2 (by kernel_rfl) ?_
                  obtain ⟨x64, h102, h100⟩ := o_bind h100
                  refine p_ix h102 (by kernel_rfl) ?_
                  refine p_run 4 (by kernel_rfl) ?_
                  obtain ⟨x65, h103, h100⟩ := o_bind h100
                  refine p_ix h103 (by kernel_rfl) ?_
                  refine e_end (by kernel_rfl) ?_
                  refine q_next ?_
                  rcases o_cond h100 with ⟨hb, h100⟩ | ⟨hb, h100⟩
                  · refine r_cond_t hb (by kernel_rfl) ?_
                    refine pwp_seq ?_
                    refine r_reg ?_
                    refine e_end (by kernel_rfl) ?_
                    refine q_next ?_
                    refine pwp_ret ?_
                    refine q_block_ret ?_
                    refine q_seq_ret ?_
                    cases h100
                    refine q_lout_ret fun he => ?_
                    subst he
                    have h104 := o_outr h70
                    refine q_block_ret ?_
                    refine q_block_ret ?_
                    refine q_seq_ret ?_
                    cases h104
                    refine q_lout_ret fun he => ?_
                    subst he
                    have h105 := o_outr h
                    refine q_block_ret ?_
                    refine q_seq_ret ?_
                    cases h105
                    exact q_ret (by kernel_rfl) (by kernel_rfl) (by kernel_rfl)
                  · refine r_cond_f hb (by kernel_rfl) ?_
                    refine pwp_skip ?_
                    refine q_block ?_
                    refine q_next ?_
                    refine r_reg ?_
                    refine e_end (by kernel_rfl) ?_
                    cases h100
                    exact q_lback (by kernel_rfl)
                · refine r_cond_f hb (by kernel_rfl) ?_
                  refine pwp_exit ?_
                  refine q_seq_exit ?_
                  cases h100
                  exact q_lexit (by kernel_rfl) (by kernel_rfl)
              · rintro _ s' rfl hs
                have h70 := o_outl h70
                refine q_block_hit ?_
                refine q_block ?_
                refine q_next (pwp_wkr hs ?_)
                refine r_reg ?_
                refine e_end (by kernel_rfl) ?_
                cases h70
                exact q_lback (by kernel_rfl)
        · refine r_cond_f hb (by kernel_rfl) ?_
          refine pwp_exit ?_
          refine q_seq_exit ?_
          cases h70
          exact q_lexit (by kernel_rfl) (by kernel_rfl)
      · rintro _ s' rfl hs
        have h := o_outl h
        refine q_block_hit ?_
        refine q_next (pwp_wkr hs ?_)
        refine pwp_seq ?_
        refine r_reg ?_
        refine e_end (by kernel_rfl) ?_
        refine q_next ?_
        refine pwp_ret ?_
        cases h
        exact q_ret (by kernel_rfl) (by kernel_rfl) (by kernel_rfl)

/-! signallingref09.Length -/
noncomputable def d_ref09_Length_0 (a0 : T_api_Layout) (a1 : (List T_api_Step)) : (Int × Int) → Option ((Int × Int) ⊕ (Int ⊕ Int)) := fun (x10, x11) =>
  bif decide (x11 < ((a1.length : Nat) : Int)) then (
    onInl (α := Int) (β := ((Int × Int) ⊕ (Int ⊕ Int))) (
      (ixO a1 x11).bind fun x27 =>
      (d_ref09_exists a0 x27.El).bind fun r28 =>
      bif r28 then (
        (ixO a1 x11).bind fun x29 =>
        (ixO a0.Elements x29.El).bind fun x30 =>
        some (.inl (w64 (x10 + x30.Length)))
      ) else (
        some (.inl x10)
      )
    ) fun x26 =>
    some (.inl (x26, w64 (x11 + 1)))
  ) else (
    some (.inr (.inl x10))
  )

noncomputable def d_ref09_Length (a0 : T_api_Layout) (a1 : (List T_api_Step)) : Option Int :=
  onInl (α := Int) (β := Int) (loopO (d_ref09_Length_0 a0 a1) (0, 0)) fun x21 =>
  some x21
theorem d_ref09_Length_ok (a0 : T_api_Layout) (a1 : (List T_api_Step)) (r : Int) (h : d_ref09_Length a0 a1 = some r) : PCall Go.Proofs.Tryd.prog GlS 22 [Enc.pv a0, Enc.pv a1] (Enc.pv r) := by
  unfold d_ref09_Length at h
  refine pcall_of_pwp Go.Proofs.Tryd.func22 (by rfl) rfl Go.Proofs.Tryd.ntmps22 (by rfl) rfl ?_
  refine pwp_seq ?_
  refine r_reg ?_
  refine e_end (by kernel_rfl) ?_
  refine q_next ?_
  refine pwp_seq ?_
  refine r_reg ?_
  refine e_end (by kernel_rfl) ?_
  refine q_next ?_
  refine pwp_seq ?_
  refine pwp_seq ?_
  refine r_reg ?_
  refine e_end (by kernel_rfl) ?_
  refine q_next ?_
  refine pwp_block ?_
  obtain ⟨o20, h20, h⟩ := o_inl h
  refine r_loop2 33 0 (fun (x10, x11) => ⟨[(1, lstOf .frozen (a1 : (List T_api_Step))), (2, .ref 2 0), (5, .int .i64 x10), (6, .int .i64 x11)], [(2, .cells (cellsOf a0))], [], []⟩) (fun x21 => ⟨[(5, .int .i64 x21)], [], [], []⟩) h20 (by kernel_rfl) (fun _ => by kernel_rfl) ?_ ?_
  · rintro ⟨x10, x11⟩ oh19 h19
    unfold d_ref09_Length_0 at h19
    refine pwp_seq ?_
    refine pwp_seq ?_
    refine r_reg ?_
    refine p_run 2 (by kernel_rfl) ?_
    refine p_len (L := (a1 : (List T_api_Step))) (by kernel_rfl) ?_
    refine e_end (by kernel_rfl) ?_
    refine q_next ?_
    rcases o_cond h19 with ⟨hb, h19⟩ | ⟨hb, h19⟩
    · refine r_cond_t hb (by kernel_rfl) ?_
      refine pwp_skip ?_
      refine q_next ?_
      obtain ⟨o25, h25, h19⟩ := o_inl h19
      refine r_join (o := o25) 33 (fun x26 => ⟨[(1, lstOf .frozen (a1 : (List T_api_Step))), (2, .ref 2 0), (5, .int .i64 x26), (6, .int .i64 x11)], [(2, .cells (cellsOf a0))], [], []⟩) ?_ ?_
      · refine pwp_block ?_
        refine pwp_seq ?_
        refine r_regd (by kernel_rfl) (by kernel_rfl) ?_
        refine p_run 3 (by kernel_rfl) ?_
        obtain ⟨x27, h26, h25⟩ := o_bind h25
        refine p_ix h26 (by kernel_rfl) ?_
        refine p_run 2 (by kernel_rfl) ?_
        obtain ⟨r28, h27, h25⟩ := o_bind h25
        refine p_call (d_ref09_exists_ok _ _ r28 h27) (by kernel_rfl) (by kernel_rfl) ?_
        refine e_nil (by kernel_rfl) ?_
        refine q_next ?_
        rcases o_cond h25 with ⟨hb, h25⟩ | ⟨hb, h25⟩
        · refine r_cond_t hb (by kernel_rfl) ?_
          refine r_regd (by kernel_rfl) (by kernel_rfl) ?_
          refine p_run 5 (by kernel_rfl) ?_
          obtain ⟨x29, h28, h25⟩ := o_bind h25
          refine p_ix h28 (by kernel_rfl) ?_
          refine p_run 2 (by kernel_rfl) ?_
          obtain ⟨x30, h29, h25⟩ := o_bind h25
          refine p_ix h29 (by kernel_rfl) ?_
          refine e_end (by kernel_rfl) ?_
          refine q_block ?_
          cases h25
          exact q_join (by kernel_rfl) (by kernel_rfl)
        · refine r_cond_f hb (by kernel_rfl) ?_
          refine pwp_skip ?_
          refine q_block ?_
          cases h25
          exact q_join (by kernel_rfl) (by kernel_rfl)
      · rintro x26 rfl
        have h19 := o_outl h19
        refine r_reg ?_
        refine e_end (by kernel_rfl) ?_
        cases h19
        exact q_lback (by kernel_rfl)
    · refine r_cond_f hb (by kernel_rfl) ?_
      refine pwp_exit ?_
      refine q_seq_exit ?_
      cases h19
      exact q_lexit (by kernel_rfl) (by kernel_rfl)
  · rintro x21 s' rfl hs
    have h := o_outl h
    refine q_block_hit ?_
    refine q_next (pwp_wkr hs ?_)
    refine pwp_seq ?_
    refine r_reg ?_
    refine e_end (by kernel_rfl) ?_
    refine q_next ?_
    refine pwp_ret ?_
    cases h
    exact q_ret (by kernel_rfl) (by kernel_rfl) (by kernel_rfl)

/-! signallingref09.has -/
noncomputable def d_ref09_has_0 (a0 : (List Int)) (a1 : Int) : Int → Option (Int ⊕ (Unit ⊕ Bool)) := fun x2 =>
  bif decide (x2 < ((a0.length : Nat) : Int)) then (
    (ixO a0 x2).bind fun x4 =>
    bif decide (x4 = a1) then (
      some (.inr (.inr true))
    ) else (
      some (.inl (w64 (x2 + 1)))
    )
  ) else (
    some (.inr (.inl ()))
  )

noncomputable def d_ref09_has (a0 : (List Int)) (a1 : Int) : Option Bool :=
  onInl (α := Unit) (β := Bool) (loopO (d_ref09_has_0 a0 a1) 0) fun _ =>
  some false
theorem d_ref09_has_ok (a0 : (List Int)) (a1 : Int) (r : Bool) (h : d_ref09_has a0 a1 = some r) : PCall Go.Proofs.Tryd.prog GlS 60 [Enc.pv a0, Enc.pv a1] (Enc.pv r) := by
  unfold d_ref09_has at h
  refine pcall_of_pwp Go.Proofs.Tryd.func60 (by rfl) rfl Go.Proofs.Tryd.ntmps60 (by rfl) rfl ?_
  refine pwp_seq ?_
  refine r_reg ?_
  refine e_end (by kernel_rfl) ?_
  refine q_next ?_
  refine pwp_seq ?_
  refine pwp_seq ?_
  refine r_reg ?_
  refine e_end (by kernel_rfl) ?_
  refine q_next ?_
  refine pwp_block ?_
  obtain ⟨o6, h6, h⟩ := o_inl h
  refine r_loop2 18 0 (fun x2 => ⟨[(0, lstOf .frozen (a0 : (List Int))), (1, .int .i64 a1), (5, .int .i64 x2)], [], [], []⟩) (fun (_ : Unit) => ⟨[], [], [], []⟩) h6 (by kernel_rfl) (fun _ => by kernel_rfl) ?_ ?_
  · rintro x2 oh5 h5
    unfold d_ref09_has_0 at h5
    refine pwp_seq ?_
    refine pwp_seq ?_
    refine r_reg ?_
    refine p_run 2 (by kernel_rfl) ?_
    refine p_len (L := (a0 : (List Int))) (by kernel_rfl) ?_
    refine e_end (by kernel_rfl) ?_
    refine q_next ?_
    rcases o_cond h5 with ⟨hb, h5⟩ | ⟨hb, h5⟩
    · refine r_cond_t hb (by kernel_rfl) ?_
      refine pwp_skip ?_
      refine q_next ?_
      refine pwp_seq ?_
      refine pwp_block ?_
      refine pwp_seq ?_
      refine r_reg ?_
      refine p_run 2 (by kernel_rfl) ?_
      obtain ⟨x4, h7, h5⟩ := o_bind h5
      refine p_ix h7 (by kernel_rfl) ?_
      refine e_end (by kernel_rfl) ?_
      refine q_next ?_
      rcases o_cond h5 with ⟨hb, h5⟩ | ⟨hb, h5⟩
      · refine r_cond_t hb (by kernel_rfl) ?_
        refine pwp_seq ?_
        refine r_reg ?_
        refine e_end (by kernel_rfl) ?_
        refine q_next ?_
        refine pwp_ret ?_
        refine q_block_ret ?_
        refine q_seq_ret ?_
        cases h5
        refine q_lout_ret fun he => ?_
        subst he
        have h8 := o_outr h
        refine q_block_ret ?_
        refine q_seq_ret ?_
        cases h8
        exact q_ret (by kernel_rfl) (by kernel_rfl) (by kernel_rfl)
      · refine r_cond_f hb (by kernel_rfl) ?_
        refine pwp_skip ?_
        refine q_block ?_
        refine q_next ?_
        refine r_reg ?_
        refine e_end (by kernel_rfl) ?_
        cases h5
        exact q_lback (by kernel_rfl)
    · refine r_cond_f hb (by kernel_rfl) ?_
      refine pwp_exit ?_
      refine q_seq_exit ?_
      cases h5
      exact q_lexit (by kernel_rfl) (by kernel_rfl)
  · rintro _ s' rfl hs
    have h := o_outl h
    refine q_block_hit ?_
    refine q_next (pwp_wkr hs ?_)
    refine pwp_seq ?_
    refine r_reg ?_
    refine e_end (by kernel_rfl) ?_
    refine q_next ?_
    refine pwp_ret ?_
    cases h
    exact q_ret (by kernel_rfl) (by kernel_rfl) (by kernel_rfl)

/-! signallingref09.Sections -/
noncomputable def d_ref09_Sections_0 (a0 : T_api_Layout) (a1 : (List T_api_Step)) : (Int × (List Int)) → Option ((Int × (List Int)) ⊕ ((List Int) ⊕ (List Int))) := fun (x40, x41) =>
  bif decide (x40 < ((a1.length : Nat) : Int)) then (
    onInl (α := (List Int)) (β := ((Int × (List Int)) ⊕ ((List Int) ⊕ (List Int)))) (
      (ixO a1 x40).bind fun x72 =>
      (d_ref09_exists a0 x72.El).bind fun r73 =>
      ((bif r73 then (
        (ixO a1 x40).bind fun x75 =>
        (ixO a0.Elements x75.El).bind fun x76 =>
        (d_ref09_has x41 x76.Section).bind fun r77 =>
        some (!r77)
      ) else some false) : Option Bool).bind fun b74 =>
      bif b74 then (
        (ixO a1 x40).bind fun x78 =>
        (ixO a0.Elements x78.El).bind fun x79 =>
        (appO x41 [x79.Section]).bind fun x80 =>
        some (.inl x80)
      ) else (
        some (.inl x41)
      )
    ) fun x71 =>
    some (.inl (w64 (x40 + 1), x71))
  ) else (
    some (.inr (.inl x41))
  )

noncomputable def d_ref09_Sections (a0 : T_api_Layout) (a1 : (List T_api_Step)) : Option (List Int) :=
  onInl (α := (List Int)) (β := (List Int)) (loopO (d_ref09_Sections_0 a0 a1) (0, ([] : (List Int)))) fun x61 =>
  some x61
theorem d_ref09_Sections_ok (a0 : T_api_Layout) (a1 : (List T_api_Step)) (r : (List Int)) (h : d_ref09_Sections a0 a1 = some r) : PCall Go.Proofs.Tryd.prog GlS 30 [Enc.pv a0, Enc.pv a1] (lstOf (.own 100005) r) := by
  unfold d_ref09_Sections at h
  refine pcall_of_pwp Go.Proofs.Tryd.func30 (by rfl) rfl Go.Proofs.Tryd.ntmps30 (by rfl) rfl ?_
  refine pwp_seq ?_
  refine r_reg ?_
  refine e_end (by kernel_rfl) ?_
  refine q_next ?_
  refine pwp_seq ?_
  refine r_reg ?_
  refine e_end (by kernel_rfl) ?_
  refine q_next ?_
  refine pwp_seq ?_
  refine pwp_seq ?_
  refine r_reg ?_
  refine e_end (by kernel_rfl) ?_
  refine q_next ?_
  refine pwp_block ?_
  refine g_nil 5 100005 1 8 (by kernel_rfl) (by kernel_rfl) ?_
  obtain ⟨o59, h59, h⟩ := o_inl h
  refine r_loop2 49 0 (fun (x40, x41) => ⟨[(1, lstOf .frozen (a1 : (List T_api_Step))), (2, .ref 2 0), (5, lstOf (.own 100005) (x41 : (List Int))), (6, .int .i64 x40)], [(2, .cells (cellsOf a0))], [(100005, (((x41).map cellsOf).length, 1))], []⟩) (fun x61 => ⟨[(5, lstOf (.own 100005) (x61 : (List Int)))], [], [(100005, (((x61).map cellsOf).length, 1))], []⟩) h59 (by kernel_rfl) (fun _ => by kernel_rfl) ?_ ?_
  · rintro ⟨x40, x41⟩ oh58 h58
    unfold d_ref09_Sections_0 at h58
    refine pwp_seq ?_
    refine pwp_seq ?_
    refine r_reg ?_
    refine p_run 2 (by kernel_rfl) ?_
    refine p_len (L := (a1 : (List T_api_Step))) (by kernel_rfl) ?_
    refine e_end (by kernel_rfl) ?_
    refine q_next ?_
    rcases o_cond h58 with ⟨hb, h58⟩ | ⟨hb, h58⟩
    · refine r_cond_t hb (by kernel_rfl) ?_
      refine pwp_skip ?_
      refine q_next ?_
      obtain ⟨o69, h69, h58⟩ := o_inl h58
      refine r_join (o := o69) 49 (fun x71 => ⟨[(1, lstOf .frozen (a1 : (List T_api_Step))), (2, .ref 2 0), (5, lstOf (.own 100005) (x71 : (List Int))), (6, .int .i64 x40)], [(2, .cells (cellsOf a0))], [(100005, (((x71).map cellsOf).length, 1))], []⟩) ?_ ?_
      · refine pwp_block ?_
        refine pwp_seq ?_
        refine r_regd (by kernel_rfl) (by kernel_rfl) ?_
        refine p_run 3 (by kernel_rfl) ?_
        obtain ⟨x72, h70, h69⟩ := o_bind h69
        refine p_ix h70 (by kernel_rfl) ?_
        refine p_run 2 (by kernel_rfl) ?_
        obtain ⟨r73, h71, h69⟩ := o_bind h69
        refine p_call (d_ref09_exists_ok _ _ r73 h71) (by kernel_rfl) (by kernel_rfl) ?_
        obtain ⟨b74, h72, h69⟩ := o_bind h69
        refine p_run 1 (by kernel_rfl) ?_
        refine e_seg 14 34 (.bool b74) ?_ ?_
        · rcases o_cond h72 with ⟨hb, h72⟩ | ⟨hb, h72⟩
          · refine p_settle 20 hb (by kernel_rfl) (by kernel_rfl) ?_
            refine p_run 5 (by kernel_rfl) ?_
            obtain ⟨x75, h73, h72⟩ := o_bind h72
            refine p_ix h73 (by kernel_rfl) ?_
            refine p_run 2 (by kernel_rfl) ?_
            obtain ⟨x76, h74, h72⟩ := o_bind h72
            refine p_ix h74 (by kernel_rfl) ?_
            refine p_run 2 (by kernel_rfl) ?_
            obtain ⟨r77, h75, h72⟩ := o_bind h72
            refine p_call (d_ref09_has_ok _ _ r77 h75) (by kernel_rfl) (by kernel_rfl) ?_
            cases h72
            exact f_end (by kernel_rfl) (by kernel_rfl)
          · refine p_settle 20 hb (by kernel_rfl) (by kernel_rfl) ?_
            cases h72
            exact f_end (by kernel_rfl) (by kernel_rfl)
        · refine e_nil (by kernel_rfl) ?_
          refine q_next ?_
          rcases o_cond h69 with ⟨hb, h69⟩ | ⟨hb, h69⟩
          · refine r_cond_t hb (by kernel_rfl) ?_
            refine r_regd (by kernel_rfl) (by kernel_rfl) ?_
            refine p_run 5 (by kernel_rfl) ?_
            obtain ⟨x78, h76, h69⟩ := o_bind h69
            refine p_ix h76 (by kernel_rfl) ?_
            refine p_run 2 (by kernel_rfl) ?_
            obtain ⟨x79, h77, h69⟩ := o_bind h69
            refine p_ix h77 (by kernel_rfl) ?_
            refine p_run 3 (by kernel_rfl) ?_
            obtain ⟨x80, h78, h69⟩ := o_bind h69
            refine p_app (tk := 100005) h78 (by kernel_rfl) (by kernel_rfl) ?_
            refine e_end (by kernel_rfl) ?_
            refine q_block ?_
            cases h69
            exact q_join (by kernel_rfl) (by kernel_rfl)
          · refine r_cond_f hb (by kernel_rfl) ?_
            refine pwp_skip ?_
            refine q_block ?_
            cases h69
            exact q_join (by kernel_rfl) (by kernel_rfl)
      · rintro x71 rfl
        have h58 := o_outl h58
        refine r_reg ?_
        refine e_end (by kernel_rfl) ?_
        cases h58
        exact q_lback (by kernel_rfl)
    · refine r_cond_f hb (by kernel_rfl) ?_
      refine pwp_exit ?_
      refine q_seq_exit ?_
      cases h58
      exact q_lexit (by kernel_rfl) (by kernel_rfl)
  · rintro x61 s' rfl hs
    have h := o_outl h
    refine q_block_hit ?_
    refine q_next (pwp_wkr hs ?_)
    refine pwp_seq ?_
    refine r_reg ?_
    refine e_end (by kernel_rfl) ?_
    refine q_next ?_
    refine pwp_ret ?_
    cases h
    exact q_ret (by kernel_rfl) (by kernel_rfl) (by kernel_rfl)
theorem d_ref09_Sections_fz (a0 : T_api_Layout) (a1 : (List T_api_Step)) (r : (List Int)) (h : d_ref09_Sections a0 a1 = some r) : PCall Go.Proofs.Tryd.prog GlS 30 [Enc.pv a0, Enc.pv a1] (Enc.pv r) :=
  (d_ref09_Sections_ok a0 a1 r h).freeze (by kernel_rfl) (by kernel_rfl) (by kernel_rfl)

/-! cmp.isNaN[int] -/
noncomputable def d_cmp_isNaN_int (a0 : Int) : Option Bool :=
  some (!(decide (a0 = a0)))
theorem d_cmp_isNaN_int_ok (a0 : Int) (r : Bool) (h : d_cmp_isNaN_int a0 = some r) : PCall Go.Proofs.Tryd.prog GlS 70 [Enc.pv a0] (Enc.pv r) := by
  unfold d_cmp_isNaN_int at h
  refine pcall_of_pwp Go.Proofs.Tryd.func70 (by rfl) rfl Go.Proofs.Tryd.ntmps70 (by rfl) rfl ?_
  refine pwp_seq ?_
  refine r_reg ?_
  refine e_end (by kernel_rfl) ?_
  refine q_next ?_
  refine pwp_seq ?_
  refine r_reg ?_
  refine e_end (by kernel_rfl) ?_
  refine q_next ?_
  refine pwp_ret ?_
  cases h
  exact q_ret (by kernel_rfl) (by kernel_rfl) (by kernel_rfl)

/-! cmp.Compare[int] -/
noncomputable def d_cmp_Compare_int (a0 : Int) (a1 : Int) : Option Int :=
  (d_cmp_isNaN_int a0).bind fun r1 =>
  (d_cmp_isNaN_int a1).bind fun r2 =>
  bif r1 then (
    bif r2 then (
      some 0
    ) else (
      some (-1)
    )
  ) else (
    bif r2 then (
      some 1
    ) else (
      bif decide (a0 < a1) then (
        some (-1)
      ) else (
        bif decide (a1 < a0) then (
          some 1
        ) else (
          some 0
        )
      )
    )
  )
theorem d_cmp_Compare_int_ok (a0 : Int) (a1 : Int) (r : Int) (h : d_cmp_Compare_int a0 a1 = some r) : PCall Go.Proofs.Tryd.prog GlS 44 [Enc.pv a0, Enc.pv a1] (Enc.pv r) := by
  unfold d_cmp_Compare_int at h
  refine pcall_of_pwp Go.Proofs.Tryd.func44 (by rfl) rfl Go.Proofs.Tryd.ntmps44 (by rfl) rfl ?_
  refine pwp_seq ?_
  refine r_reg ?_
  refine e_end (by kernel_rfl) ?_
  refine q_next ?_
  refine pwp_seq ?_
  refine r_reg ?_
  refine p_run 1 (by kernel_rfl) ?_
  obtain ⟨r1, h1, h⟩ := o_bind h
  refine p_call (d_cmp_isNaN_int_ok _ r1 h1) (by kernel_rfl) (by kernel_rfl) ?_
  refine e_end (by kernel_rfl) ?_
  refine q_next ?_
  refine pwp_seq ?_
  refine r_reg ?_
  refine p_run 1 (by kernel_rfl) ?_
  obtain ⟨r2, h2, h⟩ := o_bind h
  refine p_call (d_cmp_isNaN_int_ok _ r2 h2) (by kernel_rfl) (by kernel_rfl) ?_
  refine e_end (by kernel_rfl) ?_
  refine q_next ?_
  refine pwp_seq ?_
  refine pwp_seq ?_
  refine r_reg ?_
  refine e_end (by kernel_rfl) ?_
  refine q_next ?_
  rcases o_cond h with ⟨hb, h⟩ | ⟨hb, h⟩
  · refine r_cond_t hb (by kernel_rfl) ?_
    refine pwp_seq ?_
    refine pwp_seq ?_
    refine r_reg ?_
    refine e_end (by kernel_rfl) ?_
    refine q_next ?_
    rcases o_cond h with ⟨hb, h⟩ | ⟨hb, h⟩
    · refine r_cond_t hb (by kernel_rfl) ?_
      refine pwp_seq ?_
      refine r_reg ?_
      refine e_end (by kernel_rfl) ?_
      refine q_next ?_
      refine pwp_ret ?_
      refine q_seq_ret ?_
      refine q_seq_ret ?_
      cases h
      exact q_ret (by kernel_rfl) (by kernel_rfl) (by kernel_rfl)
    · refine r_cond_f hb (by kernel_rfl) ?_
      refine pwp_skip ?_
      refine q_next ?_
      refine pwp_seq ?_
      refine r_reg ?_
      refine e_end (by kernel_rfl) ?_
      refine q_next ?_
      refine pwp_ret ?_
      refine q_seq_ret ?_
      cases h
      exact q_ret (by kernel_rfl) (by kernel_rfl) (by kernel_rfl)
  · refine r_cond_f hb (by kernel_rfl) ?_
    refine pwp_skip ?_
    refine q_next ?_
    refine pwp_seq ?_
    refine pwp_seq ?_
    refine r_reg ?_
    refine e_end (by kernel_rfl) ?_
    refine q_next ?_
    rcases o_cond h with ⟨hb, h⟩ | ⟨hb, h⟩
    · refine r_cond_t hb (by kernel_rfl) ?_
      refine pwp_seq ?_
      refine r_reg ?_
      refine e_end (by kernel_rfl) ?_
      refine q_next ?_
      refine pwp_ret ?_
      refine q_seq_ret ?_
      cases h
      exact q_ret (by kernel_rfl) (by kernel_rfl) (by kernel_rfl)
    · refine r_cond_f hb (by kernel_rfl) ?_
      refine pwp_skip ?_
      refine q_next ?_
      refine pwp_seq ?_
      refine pwp_seq ?_
      refine r_reg ?_
      refine e_end (by kernel_rfl) ?_
      refine q_next ?_
      rcases o_cond h with ⟨hb, h⟩ | ⟨hb, h⟩
      · refine r_cond_t hb (by kernel_rfl) ?_
        refine pwp_seq ?_
        refine r_reg ?_
        refine e_end (by kernel_rfl) ?_
        refine q_next ?_
        refine pwp_ret ?_
        refine q_seq_ret ?_
        cases h
        exact q_ret (by kernel_rfl) (by kernel_rfl) (by kernel_rfl)
      · refine r_cond_f hb (by kernel_rfl) ?_
        refine pwp_skip ?_
        refine q_next ?_
        refine pwp_seq ?_
        refine pwp_seq ?_
        refine r_reg ?_
        refine e_end (by kernel_rfl) ?_
        refine q_next ?_
        rcases o_cond h with ⟨hb, h⟩ | ⟨hb, h⟩
        · refine r_cond_t hb (by kernel_rfl) ?_
          refine pwp_seq ?_
          refine r_reg ?_
          refine e_end (by kernel_rfl) ?_
          refine q_next ?_
          refine pwp_ret ?_
          refine q_seq_ret ?_
          cases h
          exact q_ret (by kernel_rfl) (by kernel_rfl) (by kernel_rfl)
        · refine r_cond_f hb (by kernel_rfl) ?_
          refine pwp_skip ?_
          refine q_next ?_
          refine pwp_seq ?_
          refine r_reg ?_
          refine e_end (by kernel_rfl) ?_
          refine q_next ?_
          refine pwp_ret ?_
          cases h
          exact q_ret (by kernel_rfl) (by kernel_rfl) (by kernel_rfl)

theorem d_cmp_Compare_int_eq (a b : Int) : d_cmp_Compare_int a b = some (if a < b then -1 else if b < a then 1 else 0) := by
  unfold d_cmp_Compare_int d_cmp_isNaN_int
  by_cases h1 : a < b
  · simp [h1]
  · by_cases h2 : b < a <;> simp [h1, h2]

/-! cmp.Or[int] -/
noncomputable def d_cmp_Or_int_0 (a0 : (List Int)) : Int → Option (Int ⊕ (Unit ⊕ Int)) := fun x2 =>
  bif decide (x2 < ((a0.length : Nat) : Int)) then (
    (ixO a0 x2).bind fun x4 =>
    bif (!(decide (x4 = 0))) then (
      some (.inr (.inr x4))
    ) else (
      some (.inl (w64 (x2 + 1)))
    )
  ) else (
    some (.inr (.inl ()))
  )

noncomputable def d_cmp_Or_int (a0 : (List Int)) : Option Int :=
  onInl (α := Unit) (β := Int) (loopO (d_cmp_Or_int_0 a0) 0) fun _ =>
  some 0
theorem d_cmp_Or_int_ok (a0 : (List Int)) (r : Int) (h : d_cmp_Or_int a0 = some r) : PCall Go.Proofs.Tryd.prog GlS 43 [Enc.pv a0] (Enc.pv r) := by
  unfold d_cmp_Or_int at h
  refine pcall_of_pwp Go.Proofs.Tryd.func43 (by rfl) rfl Go.Proofs.Tryd.ntmps43 (by rfl) rfl ?_
  refine pwp_seq ?_
  refine r_reg ?_
  refine e_end (by kernel_rfl) ?_
  refine q_next ?_
  refine pwp_seq ?_
  refine r_reg ?_
  refine e_end (by kernel_rfl) ?_
  refine q_next ?_
  refine pwp_seq ?_
  refine pwp_seq ?_
  refine r_reg ?_
  refine p_run 1 (by kernel_rfl) ?_
  refine p_len (L := (a0 : (List Int))) (by kernel_rfl) ?_
  refine e_end (by kernel_rfl) ?_
  refine q_next ?_
  refine pwp_block ?_
  obtain ⟨o6, h6, h⟩ := o_inl h
  refine r_loop2 18 0 (fun x2 => ⟨[(3, .int .i64 0), (6, lstOf .frozen (a0 : (List Int))), (7, .int .i64 ((a0.length : Nat) : Int)), (8, .int .i64 x2)], [], [], []⟩) (fun (_ : Unit) => ⟨[(3, .int .i64 0)], [], [], []⟩) h6 (by kernel_rfl) (fun _ => by kernel_rfl) ?_ ?_
  · rintro x2 oh5 h5
    unfold d_cmp_Or_int_0 at h5
    refine pwp_seq ?_
    refine r_reg ?_
    refine e_end (by kernel_rfl) ?_
    refine q_next ?_
    refine pwp_seq ?_
    rcases o_cond h5 with ⟨hb, h5⟩ | ⟨hb, h5⟩
    · refine r_cond_t hb (by kernel_rfl) ?_
      refine pwp_skip ?_
      refine q_next ?_
      refine pwp_seq ?_
      refine pwp_block ?_
      refine pwp_seq ?_
      refine r_reg ?_
      obtain ⟨x4, h7, h5⟩ := o_bind h5
      refine p_ix h7 (by kernel_rfl) ?_
      refine e_end (by kernel_rfl) ?_
      refine q_next ?_
      refine pwp_seq ?_
      refine r_reg ?_
      refine e_end (by kernel_rfl) ?_
      refine q_next ?_
      rcases o_cond h5 with ⟨hb, h5⟩ | ⟨hb, h5⟩
      · refine r_cond_t hb (by kernel_rfl) ?_
        refine pwp_seq ?_
        refine r_reg ?_
        refine e_end (by kernel_rfl) ?_
        refine q_next ?_
        refine pwp_ret ?_
        refine q_block_ret ?_
        refine q_seq_ret ?_
        cases h5
        refine q_lout_ret fun he => ?_
        subst he
        have h8 := o_outr h
        refine q_block_ret ?_
        refine q_seq_ret ?_
        cases h8
        exact q_ret (by kernel_rfl) (by kernel_rfl) (by kernel_rfl)
      · refine r_cond_f hb (by kernel_rfl) ?_
        refine pwp_skip ?_
        refine q_block ?_
        refine q_next ?_
        refine r_reg ?_
        refine e_end (by kernel_rfl) ?_
        cases h5
        exact q_lback (by kernel_rfl)
    · refine r_cond_f hb (by kernel_rfl) ?_
      refine pwp_exit ?_
      refine q_seq_exit ?_
      cases h5
      exact q_lexit (by kernel_rfl) (by kernel_rfl)
  · rintro _ s' rfl hs
    have h := o_outl h
    refine q_block_hit ?_
    refine q_next (pwp_wkr hs ?_)
    refine pwp_seq ?_
    refine r_reg ?_
    refine e_end (by kernel_rfl) ?_
    refine q_next ?_
    refine pwp_ret ?_
    cases h
    exact q_ret (by kernel_rfl) (by kernel_rfl) (by kernel_rfl)

theorem d_cmp_Or_int_two (a b : Int) : d_cmp_Or_int [a, b] = some (if a = 0 then b else a) := by
  unfold d_cmp_Or_int
  rw [loopO_unroll 3]
  by_cases h1 : a = 0
  · subst h1
    by_cases h2 : b = 0
    · subst h2; rfl
    · simp [unroll, d_cmp_Or_int_0, ixO, w64, onInl, onOut, IntKind.wrap, IntKind.bits, IntKind.signed, h2]
  · simp [unroll, d_cmp_Or_int_0, ixO, w64, onInl, onOut, IntKind.wrap, IntKind.bits, IntKind.signed, h1]

/-! walk.Settings$1 -/
noncomputable def d_walk_Settings_1 (a0 : T_api_Setting) (a1 : T_api_Setting) : Option Int :=
  (d_cmp_Compare_int a0.El a1.El).bind fun r1 =>
  (d_cmp_Compare_int a0.Pos a1.Pos).bind fun r2 =>
  (d_cmp_Or_int [r1, r2]).bind fun r3 =>
  some r3
theorem d_walk_Settings_1_ok (a0 : T_api_Setting) (a1 : T_api_Setting) (r : Int) (h : d_walk_Settings_1 a0 a1 = some r) : PCall Go.Proofs.Tryd.prog GlS 62 [Enc.pv a0, Enc.pv a1] (Enc.pv r) := by
  unfold d_walk_Settings_1 at h
  refine pcall_of_pwp Go.Proofs.Tryd.func62 (by rfl) rfl Go.Proofs.Tryd.ntmps62 (by rfl) rfl ?_
  refine pwp_seq ?_
  refine r_reg ?_
  refine e_end (by kernel_rfl) ?_
  refine q_next ?_
  refine pwp_seq ?_
  refine r_regd (by kernel_rfl) (by kernel_rfl) ?_
  refine p_run 4 (by kernel_rfl) ?_
  obtain ⟨r1, h1, h⟩ := o_bind h
  refine p_call (d_cmp_Compare_int_ok _ _ r1 h1) (by kernel_rfl) (by kernel_rfl) ?_
  refine p_run 4 (by kernel_rfl) ?_
  obtain ⟨r2, h2, h⟩ := o_bind h
  refine p_call (d_cmp_Compare_int_ok _ _ r2 h2) (by kernel_rfl) (by kernel_rfl) ?_
  refine p_run 1 (by kernel_rfl) ?_
  obtain ⟨r3, h3, h⟩ := o_bind h
  refine p_call (d_cmp_Or_int_ok _ r3 h3) (by kernel_rfl) (by kernel_rfl) ?_
  refine e_end (by kernel_rfl) ?_
  refine q_next ?_
  refine pwp_ret ?_
  cases h
  exact q_ret (by kernel_rfl) (by kernel_rfl) (by kernel_rfl)

def cf_d_walk_Settings_1 (x y : T_api_Setting) : Int := if x.El < y.El then -1 else if y.El < x.El then 1 else if x.Pos < y.Pos then -1 else if y.Pos < x.Pos then 1 else 0
theorem lt_d_walk_Settings_1 (x y : T_api_Setting) : Go.Proofs.ltOf cf_d_walk_Settings_1 x y = decide (x.El < y.El ∨ (x.El = y.El ∧ x.Pos < y.Pos)) := by
  unfold Go.Proofs.ltOf cf_d_walk_Settings_1
  by_cases h1 : x.El < y.El
  · simp [h1]
  · by_cases h2 : y.El < x.El
    · have : x.El ≠ y.El := by omega
      simp [h1, h2, this]
    · have e : x.El = y.El := by omega
      by_cases h3 : x.Pos < y.Pos
      · simp [e, h3]
      · by_cases h4 : y.Pos < x.Pos <;> simp [e, h3, h4]
theorem swo_d_walk_Settings_1 : Go.Sort.SWO (Go.Proofs.ltOf cf_d_walk_Settings_1) where
  irrefl x := by rw [lt_d_walk_Settings_1]; simp
  trans x y z h1 h2 := by rw [lt_d_walk_Settings_1] at *; simp only [decide_eq_true_eq] at *; omega
  ntrans x y z h1 h2 := by rw [lt_d_walk_Settings_1] at *; simp only [decide_eq_false_iff_not] at *; omega
theorem tot_d_walk_Settings_1 (x y : T_api_Setting) (h1 : Go.Proofs.ltOf cf_d_walk_Settings_1 x y = false) (h2 : Go.Proofs.ltOf cf_d_walk_Settings_1 y x = false) : x = y := by
  rw [lt_d_walk_Settings_1] at h1 h2
  simp only [decide_eq_false_iff_not] at h1 h2
  obtain ⟨a, b⟩ := x
  obtain ⟨c, d⟩ := y
  simp only at h1 h2
  have e1 : a = c := by omega
  have e2 : b = d := by omega
  rw [e1, e2]
theorem cf_d_walk_Settings_1_eq (x y : T_api_Setting) : d_walk_Settings_1 x y = some (cf_d_walk_Settings_1 x y) := by
  unfold d_walk_Settings_1
  rw [d_cmp_Compare_int_eq, d_cmp_Compare_int_eq]
  simp only [Option.bind_some, d_cmp_Or_int_two]
  unfold cf_d_walk_Settings_1
  by_cases h1 : x.El < y.El
  · simp [h1]
  · by_cases h2 : y.El < x.El
    · simp [h1, h2]
    · simp [h1, h2]

/-! slices.SortFunc[[]api.Setting,api.Setting] (the shelf's contract) -/
noncomputable def d_slices_SortFunc_api_Setting__walk_Settings_1 (a0 : (List T_api_Setting)) : Option (List T_api_Setting) := some (a0.mergeSort fun x y => !(Go.Proofs.ltOf cf_d_walk_Settings_1 y x))
theorem d_slices_SortFunc_api_Setting__walk_Settings_1_xc (a0 : (List T_api_Setting)) (r : (List T_api_Setting)) (h : d_slices_SortFunc_api_Setting__walk_Settings_1 a0 = some r) : XCall Go.Proofs.Tryd.prog GlS 61 2 16 (a0.map cellsOf) [.fn 62 []] none (r.map cellsOf) := by
  cases h
  exact xcall_sort (α := T_api_Setting) Go.Proofs.Tryd.sort61 Go.Proofs.Tryd.isAgg58 Go.Proofs.Tryd.sizeOf58 (fun _ => rfl) (fun _ => rfl) (fun _ => rfl) (by decide) cf_d_walk_Settings_1 swo_d_walk_Settings_1 tot_d_walk_Settings_1 62 (fun x y => d_walk_Settings_1_ok x y _ (cf_d_walk_Settings_1_eq x y)) ⟨_, Go.Proofs.Tryd.func61, rfl, rfl⟩ a0

/-! slices.Compact[[]api.Setting,api.Setting] -/
noncomputable def d_slices_Compact_api_Setting_1 (a0 : (List T_api_Setting)) (p140 : Nat × Nat) : (Int × Int × (List T_api_Setting)) → Option ((Int × Int × (List T_api_Setting)) ⊕ (((List T_api_Setting) × Int) ⊕ (Int ⊕ (Unit ⊕ ((List T_api_Setting) × Nat))))) := fun (x159, x160, x161) =>
  bif decide (x160 < (((p140.2 - p140.1) : Nat) : Int)) then (
    onInl (α := ((List T_api_Setting) × Int)) (β := ((Int × Int × (List T_api_Setting)) ⊕ (((List T_api_Setting) × Int) ⊕ (Int ⊕ (Unit ⊕ ((List T_api_Setting) × Nat)))))) (
      (xixO (0 + p140.1) (p140.2 - p140.1) x160).bind fun j192 =>
      (xldO x161 (((a0 : (List T_api_Setting)).map cellsOf).length) j192).bind fun x193 =>
      (xixO (0 + p140.1) (p140.2 - p140.1) (w64 (x160 - 1))).bind fun j194 =>
      (xldO x161 (((a0 : (List T_api_Setting)).map cellsOf).length) j194).bind fun x195 =>
      bif (!(eq_T_api_Setting x193 x195)) then (
        (xixO (0 + p140.1) (p140.2 - p140.1) x160).bind fun j196 =>
        (xldO x161 (((a0 : (List T_api_Setting)).map cellsOf).length) j196).bind fun x197 =>
        (xixO 0 (((a0 : (List T_api_Setting)).map cellsOf).length) x159).bind fun j198 =>
        (xldO x161 (((a0 : (List T_api_Setting)).map cellsOf).length) j198).bind fun x199 =>
        some (.inl ((x161.set j198 x197), w64 (x159 + 1)))
      ) else (
        some (.inl (x161, x159))
      )
    ) fun (x190, x191) =>
    some (.inl (x191, w64 (x160 + 1), x190))
  ) else (
    some (.inr (.inl (x161, x159)))
  )

noncomputable def d_slices_Compact_api_Setting_0 (a0 : (List T_api_Setting)) : Int → Option (Int ⊕ (Unit ⊕ ((List T_api_Setting) × Nat))) := fun x68 =>
  bif decide (x68 < ((((a0 : (List T_api_Setting)).map cellsOf).length : Nat) : Int)) then (
    (xixO 0 (((a0 : (List T_api_Setting)).map cellsOf).length) x68).bind fun j136 =>
    (xldO a0 (((a0 : (List T_api_Setting)).map cellsOf).length) j136).bind fun x137 =>
    (xixO 0 (((a0 : (List T_api_Setting)).map cellsOf).length) (w64 (x68 - 1))).bind fun j138 =>
    (xldO a0 (((a0 : (List T_api_Setting)).map cellsOf).length) j138).bind fun x139 =>
    bif eq_T_api_Setting x137 x139 then (
      (xslO (((a0 : (List T_api_Setting)).map cellsOf).length) (some x68) none).bind fun p140 =>
      onInl (α := ((List T_api_Setting) × Int)) (β := (Int ⊕ (Unit ⊕ ((List T_api_Setting) × Nat)))) (loopO (d_slices_Compact_api_Setting_1 a0 p140) (x68, 1, a0)) fun (x180, x181) =>
      (xslO (((a0 : (List T_api_Setting)).map cellsOf).length) (some x181) none).bind fun p200 =>
      (xclrO x180 (((a0 : (List T_api_Setting)).map cellsOf).length) (0 + p200.1) (p200.2 - p200.1) ((T_api_Setting.mk 0 0) : T_api_Setting)).bind fun x201 =>
      (xslhO (((a0 : (List T_api_Setting)).map cellsOf).length) x181).bind fun m202 =>
      some (.inr (.inr (x201, m202)))
    ) else (
      some (.inl (w64 (x68 + 1)))
    )
  ) else (
    some (.inr (.inl ()))
  )

noncomputable def d_slices_Compact_api_Setting (a0 : (List T_api_Setting)) : Option ((List T_api_Setting) × Nat) :=
  bif decide (((((a0 : (List T_api_Setting)).map cellsOf).length : Nat) : Int) < 2) then (
    some (a0, ((a0 : (List T_api_Setting)).map cellsOf).length)
  ) else (
    onInl (α := Unit) (β := ((List T_api_Setting) × Nat)) (loopO (d_slices_Compact_api_Setting_0 a0) 1) fun _ =>
    some (a0, ((a0 : (List T_api_Setting)).map cellsOf).length)
  )
theorem d_slices_Compact_api_Setting_xc (a0 : (List T_api_Setting)) (r : ((List T_api_Setting) × Nat)) (h : d_slices_Compact_api_Setting a0 = some r) : XCall Go.Proofs.Tryd.prog GlS 63 2 16 (a0.map cellsOf) [] (some r.2) (r.1.map cellsOf) := by
  unfold d_slices_Compact_api_Setting at h
  refine xcall_of_pwp Go.Proofs.Tryd.func63 (by rfl) rfl Go.Proofs.Tryd.ntmps63 (by rfl) rfl ?_
  refine pwp_seq ?_
  refine r_reg ?_
  refine e_end (by kernel_rfl) ?_
  refine q_next ?_
  refine pwp_seq ?_
  refine pwp_seq ?_
  refine r_reg ?_
  refine e_end (by kernel_rfl) ?_
  refine q_next ?_
  rcases o_cond h with ⟨hb, h⟩ | ⟨hb, h⟩
  · refine r_cond_t hb (by kernel_rfl) ?_
    refine pwp_seq ?_
    refine r_reg ?_
    refine e_end (by kernel_rfl) ?_
    refine q_next ?_
    refine pwp_ret ?_
    refine q_seq_ret ?_
    cases h
    exact q_xret (by kernel_rfl)
  · refine r_cond_f hb (by kernel_rfl) ?_
    refine pwp_skip ?_
    refine q_next ?_
    refine pwp_seq ?_
    refine pwp_seq ?_
    refine r_reg ?_
    refine e_end (by kernel_rfl) ?_
    refine q_next ?_
    refine pwp_block ?_
    obtain ⟨o126, h126, h⟩ := o_inl h
    refine r_loop2 61 0 (fun x68 => ⟨[(0, .ex 1000000000 2 16 (((a0 : (List T_api_Setting)).map cellsOf).length) 0 (((a0 : (List T_api_Setting)).map cellsOf).length)), (3, .int .i64 x68)], [], [(1000000000, (((a0 : (List T_api_Setting)).map cellsOf).length, 0))], [(1000000000, (2, (16, (a0 : (List T_api_Setting)).map cellsOf)))]⟩) (fun (_ : Unit) => ⟨[(0, .ex 1000000000 2 16 (((a0 : (List T_api_Setting)).map cellsOf).length) 0 (((a0 : (List T_api_Setting)).map cellsOf).length))], [], [(1000000000, (((a0 : (List T_api_Setting)).map cellsOf).length, 0))], [(1000000000, (2, (16, (a0 : (List T_api_Setting)).map cellsOf)))]⟩) h126 (by kernel_rfl) (fun _ => by kernel_rfl) ?_ ?_
    · rintro x68 oh125 h125
      unfold d_slices_Compact_api_Setting_0 at h125
      refine pwp_seq ?_
      refine pwp_seq ?_
      refine r_reg ?_
      refine e_end (by kernel_rfl) ?_
      refine q_next ?_
      rcases o_cond h125 with ⟨hb, h125⟩ | ⟨hb, h125⟩
      · refine r_cond_t hb (by kernel_rfl) ?_
        refine pwp_skip ?_
        refine q_next ?_
        refine pwp_seq ?_
        refine pwp_block ?_
        refine pwp_seq ?_
        refine r_regd (by kernel_rfl) (by kernel_rfl) ?_
        refine p_run 2 (by kernel_rfl) ?_
        obtain ⟨j136, h127, h125⟩ := o_bind h125
        refine p_xix (tk := 1000000000) (k := 2) (N := ((a0 : (List T_api_Setting)).map cellsOf).length) h127 (by kernel_rfl) ?_
        obtain ⟨x137, h128, h125⟩ := o_bind h125
        refine p_xld (L := (a0 : (List T_api_Setting))) (N := ((a0 : (List T_api_Setting)).map cellsOf).length) (j := j136) (y := x137) (v := Enc.pv x137) h128 true 2 0 (by kernel_rfl) (by kernel_rfl) ?_
        refine p_run 3 (by kernel_rfl) ?_
        obtain ⟨j138, h129, h125⟩ := o_bind h125
        refine p_xix (tk := 1000000000) (k := 2) (N := ((a0 : (List T_api_Setting)).map cellsOf).length) h129 (by kernel_rfl) ?_
        obtain ⟨x139, h130, h125⟩ := o_bind h125
        refine p_xld (L := (a0 : (List T_api_Setting))) (N := ((a0 : (List T_api_Setting)).map cellsOf).length) (j := j138) (y := x139) (v := Enc.pv x139) h130 true 2 0 (by kernel_rfl) (by kernel_rfl) ?_
        refine e_end (by kernel_rfl) ?_
        refine q_next ?_
        rcases o_cond h125 with ⟨hb, h125⟩ | ⟨hb, h125⟩
        · refine r_cond_t hb (by kernel_rfl) ?_
          refine pwp_seq ?_
          refine r_reg ?_
          refine p_run 2 (by kernel_rfl) ?_
          obtain ⟨p140, h131, h125⟩ := o_bind h125
          refine p_xsl (tk := 1000000000) (k := 2) (b := 16) (N := ((a0 : (List T_api_Setting)).map cellsOf).length) (o := 0) (lo := (some x68)) (hi := none) h131 (by kernel_rfl) ?_
          refine e_end (by kernel_rfl) ?_
          refine q_next ?_
          refine pwp_seq ?_
          refine pwp_seq ?_
          refine r_reg ?_
          refine e_end (by kernel_rfl) ?_
          refine q_next ?_
          refine pwp_block ?_
          obtain ⟨o167, h167, h125⟩ := o_inl h125
          refine r_loop2 61 2 (fun (x159, x160, x161) => ⟨[(0, .ex 1000000000 2 16 (((a0 : (List T_api_Setting)).map cellsOf).length) 0 (((a0 : (List T_api_Setting)).map cellsOf).length)), (3, .int .i64 x159), (4, .ex 1000000000 2 16 (((a0 : (List T_api_Setting)).map cellsOf).length) (0 + p140.1) (p140.2 - p140.1)), (5, .int .i64 x160)], [], [(1000000000, (((a0 : (List T_api_Setting)).map cellsOf).length, 0))], [(1000000000, (2, (16, (x161 : (List T_api_Setting)).map cellsOf)))]⟩) (fun (x180, x181) => ⟨[(0, .ex 1000000000 2 16 (((a0 : (List T_api_Setting)).map cellsOf).length) 0 (((a0 : (List T_api_Setting)).map cellsOf).length)), (3, .int .i64 x181)], [], [(1000000000, (((a0 : (List T_api_Setting)).map cellsOf).length, 0))], [(1000000000, (2, (16, (x180 : (List T_api_Setting)).map cellsOf)))]⟩) h167 (by kernel_rfl) (fun _ => by kernel_rfl) ?_ ?_
          · rintro ⟨x159, x160, x161⟩ oh166 h166
            unfold d_slices_Compact_api_Setting_1 at h166
            refine pwp_seq ?_
            refine pwp_seq ?_
            refine r_reg ?_
            refine e_end (by kernel_rfl) ?_
            refine q_next ?_
            rcases o_cond h166 with ⟨hb, h166⟩ | ⟨hb, h166⟩
            · refine r_cond_t hb (by kernel_rfl) ?_
              refine pwp_skip ?_
              refine q_next ?_
              obtain ⟨o176, h176, h166⟩ := o_inl h166
              refine r_join (o := o176) 61 (fun (x190, x191) => ⟨[(0, .ex 1000000000 2 16 (((a0 : (List T_api_Setting)).map cellsOf).length) 0 (((a0 : (List T_api_Setting)).map cellsOf).length)), (3, .int .i64 x191), (4, .ex 1000000000 2 16 (((a0 : (List T_api_Setting)).map cellsOf).length) (0 + p140.1) (p140.2 - p140.1)), (5, .int .i64 x160)], [], [(1000000000, (((a0 : (List T_api_Setting)).map cellsOf).length, 0))], [(1000000000, (2, (16, (x190 : (List T_api_Setting)).map cellsOf)))]⟩) ?_ ?_
              · refine pwp_block ?_
                refine pwp_seq ?_
                refine r_regd (by kernel_rfl) (by kernel_rfl) ?_
                refine p_run 2 (by kernel_rfl) ?_
                obtain ⟨j192, h177, h176⟩ := o_bind h176
                refine p_xix (tk := 1000000000) (k := 2) (N := ((a0 : (List T_api_Setting)).map cellsOf).length) h177 (by kernel_rfl) ?_
                obtain ⟨x193, h178, h176⟩ := o_bind h176
                refine p_xld (L := (x161 : (List T_api_Setting))) (N := ((a0 : (List T_api_Setting)).map cellsOf).length) (j := j192) (y := x193) (v := Enc.pv x193) h178 true 2 0 (by kernel_rfl) (by kernel_rfl) ?_
                refine p_run 3 (by kernel_rfl) ?_
                obtain ⟨j194, h179, h176⟩ := o_bind h176
                refine p_xix (tk := 1000000000) (k := 2) (N := ((a0 : (List T_api_Setting)).map cellsOf).length) h179 (by kernel_rfl) ?_
                obtain ⟨x195, h180, h176⟩ := o_bind h176
                refine p_xld (L := (x161 : (List T_api_Setting))) (N := ((a0 : (List T_api_Setting)).map cellsOf).length) (j := j194) (y := x195) (v := Enc.pv x195) h180 true 2 0 (by kernel_rfl) (by kernel_rfl) ?_
                refine e_end (by kernel_rfl) ?_
                refine q_next ?_
                rcases o_cond h176 with ⟨hb, h176⟩ | ⟨hb, h176⟩
                · refine r_cond_t hb (by kernel_rfl) ?_
                  refine pwp_seq ?_
                  refine r_reg ?_
                  refine p_run 4 (by kernel_rfl) ?_
                  obtain ⟨j196, h181, h176⟩ := o_bind h176
                  refine p_xix (tk := 1000000000) (k := 2) (N := ((a0 : (List T_api_Setting)).map cellsOf).length) h181 (by kernel_rfl) ?_
                  obtain ⟨x197, h182, h176⟩ := o_bind h176
                  refine p_xld (L := (x161 : (List T_api_Setting))) (N := ((a0 : (List T_api_Setting)).map cellsOf).length) (j := j196) (y := x197) (v := Enc.pv x197) h182 true 2 0 (by kernel_rfl) (by kernel_rfl) ?_
                  obtain ⟨j198, h183, h176⟩ := o_bind h176
                  refine p_xix (tk := 1000000000) (k := 2) (N := ((a0 : (List T_api_Setting)).map cellsOf).length) h183 (by kernel_rfl) ?_
                  obtain ⟨x199, h184, h176⟩ := o_bind h176
                  refine p_xst (L := (x161 : (List T_api_Setting))) (tk := 1000000000) (N := ((a0 : (List T_api_Setting)).map cellsOf).length) (j := j198) (y := x199) (y' := x197) h184 0 2 [.int .i64 x197.El, .int .i64 x197.Pos] (by kernel_rfl) (by kernel_rfl) ?_
                  refine e_nil (by kernel_rfl) ?_
                  refine q_next ?_
                  refine r_reg ?_
                  refine e_end (by kernel_rfl) ?_
                  refine q_block ?_
                  cases h176
                  exact q_join (by kernel_rfl) (by kernel_rfl)
                · refine r_cond_f hb (by kernel_rfl) ?_
                  refine pwp_skip ?_
                  refine q_block ?_
                  cases h176
                  exact q_join (by kernel_rfl) (by kernel_rfl)
              · rintro ⟨x190, x191⟩ rfl
                have h166 := o_outl h166
                refine r_reg ?_
                refine e_end (by kernel_rfl) ?_
                cases h166
                exact q_lback (by kernel_rfl)
            · refine r_cond_f hb (by kernel_rfl) ?_
              refine pwp_exit ?_
              refine q_seq_exit ?_
              cases h166
              exact q_lexit (by kernel_rfl) (by kernel_rfl)
          · rintro ⟨x180, x181⟩ s' rfl hs
            have h125 := o_outl h125
            refine q_block_hit ?_
            refine q_next (pwp_wkr hs ?_)
            refine pwp_seq ?_
            refine r_reg ?_
            refine p_run 2 (by kernel_rfl) ?_
            obtain ⟨p200, h185, h125⟩ := o_bind h125
            refine p_xsl (tk := 1000000000) (k := 2) (b := 16) (N := ((a0 : (List T_api_Setting)).map cellsOf).length) (o := 0) (lo := (some x181)) (hi := none) h185 (by kernel_rfl) ?_
            obtain ⟨x201, h186, h125⟩ := o_bind h125
            refine p_xclr (L := (x180 : (List T_api_Setting))) (tk := 1000000000) (N := ((a0 : (List T_api_Setting)).map cellsOf).length) (z := ((T_api_Setting.mk 0 0) : T_api_Setting)) h186 (by kernel_rfl) (by kernel_rfl) (by kernel_rfl) rfl ?_
            refine e_nil (by kernel_rfl) ?_
            refine q_next ?_
            refine pwp_seq ?_
            refine r_reg ?_
            refine p_run 2 (by kernel_rfl) ?_
            obtain ⟨m202, h187, h125⟩ := o_bind h125
            refine p_xslh (tk := 1000000000) (k := 2) (b := 16) (N := ((a0 : (List T_api_Setting)).map cellsOf).length) (o := 0) h187 (by kernel_rfl) ?_
            refine e_end (by kernel_rfl) ?_
            refine q_next ?_
            refine pwp_ret ?_
            refine q_block_ret ?_
            refine q_seq_ret ?_
            cases h125
            refine q_lout_ret fun he => ?_
            subst he
            have h188 := o_outr h
            refine q_block_ret ?_
            refine q_seq_ret ?_
            cases h188
            exact q_xret (by kernel_rfl)
        · refine r_cond_f hb (by kernel_rfl) ?_
          refine pwp_skip ?_
          refine q_block ?_
          refine q_next ?_
          refine r_reg ?_
          refine e_end (by kernel_rfl) ?_
          cases h125
          exact q_lback (by kernel_rfl)
      · refine r_cond_f hb (by kernel_rfl) ?_
        refine pwp_exit ?_
        refine q_seq_exit ?_
        cases h125
        exact q_lexit (by kernel_rfl) (by kernel_rfl)
    · rintro _ s' rfl hs
      have h := o_outl h
      refine q_block_hit ?_
      refine q_next (pwp_wkr hs ?_)
      refine pwp_seq ?_
      refine r_reg ?_
      refine e_end (by kernel_rfl) ?_
      refine q_next ?_
      refine pwp_ret ?_
      cases h
      exact q_xret (by kernel_rfl)

/-! walk.Settings -/
noncomputable def d_walk_Settings_0 (a0 : T_api_Layout) (a1 : (List T_api_Step)) : (Int × (List T_api_Setting)) → Option ((Int × (List T_api_Setting)) ⊕ ((List T_api_Setting) ⊕ (List T_api_Setting))) := fun (x24, x25) =>
  bif decide (x24 < ((a1.length : Nat) : Int)) then (
    onInl (α := (List T_api_Setting)) (β := ((Int × (List T_api_Setting)) ⊕ ((List T_api_Setting) ⊕ (List T_api_Setting)))) (
      (ixO a1 x24).bind fun x44 =>
      (d_walk_possible a0 x44).bind fun r45 =>
      ((bif r45.2 then (
        (ixO a0.Elements x44.El).bind fun x47 =>
        some (decide (x47.Kind = 2))
      ) else some false) : Option Bool).bind fun b46 =>
      bif b46 then (
        (appO x25 [(T_api_Setting.mk x44.El r45.1)]).bind fun x48 =>
        some (.inl x48)
      ) else (
        some (.inl x25)
      )
    ) fun x43 =>
    some (.inl (w64 (x24 + 1), x43))
  ) else (
    some (.inr (.inl x25))
  )

noncomputable def d_walk_Settings (a0 : T_api_Layout) (a1 : (List T_api_Step)) : Option (List T_api_Setting) :=
  onInl (α := (List T_api_Setting)) (β := (List T_api_Setting)) (loopO (d_walk_Settings_0 a0 a1) (0, ([] : (List T_api_Setting)))) fun x37 =>
  (d_slices_SortFunc_api_Setting__walk_Settings_1 x37).bind fun r49 =>
  (d_slices_Compact_api_Setting r49).bind fun r50 =>
  some (r50.1.take r50.2)
theorem d_walk_Settings_ok (a0 : T_api_Layout) (a1 : (List T_api_Step)) (r : (List T_api_Setting)) (h : d_walk_Settings a0 a1 = some r) : PCall Go.Proofs.Tryd.prog GlS 32 [Enc.pv a0, Enc.pv a1] (Enc.pv r) := by
  unfold d_walk_Settings at h
  refine pcall_of_pwp Go.Proofs.Tryd.func32 (by rfl) rfl Go.Proofs.Tryd.ntmps32 (by rfl) rfl ?_
  refine pwp_seq ?_
  refine r_reg ?_
  refine e_end (by kernel_rfl) ?_
  refine q_next ?_
  refine pwp_seq ?_
  refine r_reg ?_
  refine e_end (by kernel_rfl) ?_
  refine q_next ?_
  refine pwp_seq ?_
  refine pwp_seq ?_
  refine r_reg ?_
  refine p_run 1 (by kernel_rfl) ?_
  refine p_len (L := (a1 : (List T_api_Step))) (by kernel_rfl) ?_
  refine e_end (by kernel_rfl) ?_
  refine q_next ?_
  refine pwp_block ?_
  refine pwp_wkr (wkr_nilX 5 100005 2 16 (by kernel_rfl) (by kernel_rfl)) ?_
  obtain ⟨o35, h35, h⟩ := o_inl h
  refine r_loop2 45 0 (fun (x24, x25) => ⟨[(2, .ref 2 0), (5, .ex 100005 2 16 (((x25 : (List T_api_Setting)).map cellsOf).length) 0 (((x25 : (List T_api_Setting)).map cellsOf).length)), (10, lstOf .frozen (a1 : (List T_api_Step))), (11, .int .i64 ((a1.length : Nat) : Int)), (12, .int .i64 x24)], [(2, .cells (cellsOf a0))], [(100005, (((x25 : (List T_api_Setting)).map cellsOf).length, 0))], [(100005, (2, (16, (x25 : (List T_api_Setting)).map cellsOf)))]⟩) (fun x37 => ⟨[(5, .ex 100005 2 16 (((x37 : (List T_api_Setting)).map cellsOf).length) 0 (((x37 : (List T_api_Setting)).map cellsOf).length))], [], [(100005, (((x37 : (List T_api_Setting)).map cellsOf).length, 0))], [(100005, (2, (16, (x37 : (List T_api_Setting)).map cellsOf)))]⟩) h35 (by kernel_rfl) (fun _ => by kernel_rfl) ?_ ?_
  · rintro ⟨x24, x25⟩ oh34 h34
    unfold d_walk_Settings_0 at h34
    refine pwp_seq ?_
    refine r_reg ?_
    refine e_end (by kernel_rfl) ?_
    refine q_next ?_
    refine pwp_seq ?_
    rcases o_cond h34 with ⟨hb, h34⟩ | ⟨hb, h34⟩
    · refine r_cond_t hb (by kernel_rfl) ?_
      refine pwp_skip ?_
      refine q_next ?_
      obtain ⟨o41, h41, h34⟩ := o_inl h34
      refine r_join (o := o41) 45 (fun x43 => ⟨[(2, .ref 2 0), (5, .ex 100005 2 16 (((x43 : (List T_api_Setting)).map cellsOf).length) 0 (((x43 : (List T_api_Setting)).map cellsOf).length)), (10, lstOf .frozen (a1 : (List T_api_Step))), (11, .int .i64 ((a1.length : Nat) : Int)), (12, .int .i64 x24)], [(2, .cells (cellsOf a0))], [(100005, (((x43 : (List T_api_Setting)).map cellsOf).length, 0))], [(100005, (2, (16, (x43 : (List T_api_Setting)).map cellsOf)))]⟩) ?_ ?_
      · refine pwp_block ?_
        refine pwp_seq ?_
        refine r_reg ?_
        obtain ⟨x44, h42, h41⟩ := o_bind h41
        refine p_ix h42 (by kernel_rfl) ?_
        refine e_end (by kernel_rfl) ?_
        refine q_next ?_
        refine pwp_seq ?_
        refine r_reg ?_
        refine p_run 2 (by kernel_rfl) ?_
        obtain ⟨r45, h43, h41⟩ := o_bind h41
        refine p_call (d_walk_possible_ok _ _ r45 h43) (by kernel_rfl) (by kernel_rfl) ?_
        refine e_end (by kernel_rfl) ?_
        refine q_next ?_
        refine pwp_seq ?_
        refine r_reg ?_
        obtain ⟨b46, h44, h41⟩ := o_bind h41
        refine p_run 2 (by kernel_rfl) ?_
        refine e_seg 9 32 (.bool b46) ?_ ?_
        · rcases o_cond h44 with ⟨hb, h44⟩ | ⟨hb, h44⟩
          · refine p_settle 23 hb (by kernel_rfl) (by kernel_rfl) ?_
            refine p_run 4 (by kernel_rfl) ?_
            obtain ⟨x47, h45, h44⟩ := o_bind h44
            refine p_ix h45 (by kernel_rfl) ?_
            cases h44
            exact f_end (by kernel_rfl) (by kernel_rfl)
          · refine p_settle 23 hb (by kernel_rfl) (by kernel_rfl) ?_
            cases h44
            exact f_end (by kernel_rfl) (by kernel_rfl)
        · refine e_nil (by kernel_rfl) ?_
          refine q_next ?_
          rcases o_cond h41 with ⟨hb, h41⟩ | ⟨hb, h41⟩
          · refine r_cond_t hb (by kernel_rfl) ?_
            refine r_reg ?_
            refine p_run 6 (by kernel_rfl) ?_
            obtain ⟨x48, h46, h41⟩ := o_bind h41
            refine p_xapp (tk := 100005) (N := ((x25 : (List T_api_Setting)).map cellsOf).length) h46 (by kernel_rfl) (by kernel_rfl) (by kernel_rfl) ?_
            refine e_end (by kernel_rfl) ?_
            refine q_block ?_
            cases h41
            exact q_join (by kernel_rfl) (by kernel_rfl)
          · refine r_cond_f hb (by kernel_rfl) ?_
            refine pwp_skip ?_
            refine q_block ?_
            cases h41
            exact q_join (by kernel_rfl) (by kernel_rfl)
      · rintro x43 rfl
        have h34 := o_outl h34
        refine r_reg ?_
        refine e_end (by kernel_rfl) ?_
        cases h34
        exact q_lback (by kernel_rfl)
    · refine r_cond_f hb (by kernel_rfl) ?_
      refine pwp_exit ?_
      refine q_seq_exit ?_
      cases h34
      exact q_lexit (by kernel_rfl) (by kernel_rfl)
  · rintro x37 s' rfl hs
    have h := o_outl h
    refine q_block_hit ?_
    refine q_next (pwp_wkr hs ?_)
    refine pwp_seq ?_
    refine r_reg ?_
    refine p_run 1 (by kernel_rfl) ?_
    obtain ⟨r49, h47, h⟩ := o_bind h
    refine p_xcall (t := 100005) (L := (x37 : (List T_api_Setting))) (L' := (r49 : (List T_api_Setting))) (N := ((x37 : (List T_api_Setting)).map cellsOf).length) (by kernel_rfl) (by kernel_rfl) (by kernel_rfl) (d_slices_SortFunc_api_Setting__walk_Settings_1_xc _ r49 h47) ?_
    refine e_nil (by kernel_rfl) ?_
    refine q_next ?_
    refine pwp_seq ?_
    refine r_reg ?_
    refine p_run 1 (by kernel_rfl) ?_
    obtain ⟨r50, h48, h⟩ := o_bind h
    refine p_xcallS (t := 100005) (L := (r49 : (List T_api_Setting))) (L' := (r50.1 : (List T_api_Setting))) (m := r50.2) (N := ((x37 : (List T_api_Setting)).map cellsOf).length) (by kernel_rfl) (by kernel_rfl) (by kernel_rfl) (d_slices_Compact_api_Setting_xc _ r50 h48) ?_
    refine e_end (by kernel_rfl) ?_
    refine q_next ?_
    refine pwp_ret ?_
    cases h
    exact q_ret (by kernel_rfl) (by kernel_rfl) (by kernel_rfl)

end PM
