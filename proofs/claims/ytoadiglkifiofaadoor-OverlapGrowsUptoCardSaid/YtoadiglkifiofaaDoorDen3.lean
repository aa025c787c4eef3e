/-
  Plain functions for the program's functions, and the proofs that the program does them. Printed by den.py.
-/
import Derived.Test.YtoadiglkifiofaaDoorDen2
namespace PM
open Go Go.RowKit
attribute [local irreducible] pops pwp

noncomputable def d_ref09_exists (a0 : T_api_Layout) (a1 : Int) : Option Bool :=
  ((bif decide (0 ≤ a1) then (
    some (decide (a1 < ((a0.Elements.length : Nat) : Int)))
  ) else some false) : Option Bool).bind fun b1 =>
  some b1
theorem d_ref09_exists_ok (a0 : T_api_Layout) (a1 : Int) (r : Bool) (h : d_ref09_exists a0 a1 = some r) : PCall Go.Proofs.Tryd.prog GlS 72 [Enc.pv a0, Enc.pv a1] (Enc.pv r) := by
  unfold d_ref09_exists at h
  refine pcall_of_pwp Go.Proofs.Tryd.func72 (by rfl) rfl Go.Proofs.Tryd.ntmps72 (by rfl) rfl ?_
  refine pwp_seq (r_reg ?_)
  refine e_end (by kernel_rfl) ?_
  refine q_next (pwp_seq (r_reg ?_))
  obtain ⟨b1, h1, h⟩ := o_bind h
  refine p_run 3 (by kernel_rfl) ?_
  refine e_seg 6 13 (.bool b1) ?_ ?_
  · rcases o_cond h1 with ⟨hb, h1⟩ | ⟨hb, h1⟩
    · refine p_settle 7 hb (by kernel_rfl) (by kernel_rfl) ?_
      refine p_run 3 (by kernel_rfl) ?_
      refine p_len (L := (a0.Elements : (List T_api_Element))) (by kernel_rfl) ?_
      cases h1
      exact f_end (by kernel_rfl) (by kernel_rfl)
    refine p_settle 7 hb (by kernel_rfl) (by kernel_rfl) ?_
    cases h1
    exact f_end (by kernel_rfl) (by kernel_rfl)
  refine e_end (by kernel_rfl) ?_
  refine q_next (pwp_ret ?_)
  cases h
  exact q_ret (by kernel_rfl) (by kernel_rfl) (by kernel_rfl)

noncomputable def d_ref06_Need (a0 : Int) (a1 : Int) (a2 : Int) : Option (Int × Bool) :=
  bif ((decide (a0 = 1)) || (decide (a0 = 3))) then (
    some (0, (((decide ((min a1 a2) = 0)) && (decide ((max a1 a2) = 1))) || (((decide (a0 = 3)) && (decide ((min a1 a2) = 2))) && (decide ((max a1 a2) = 3)))))
  ) else (
    bif (((decide (a0 = 2)) && (decide ((min a1 a2) = 0))) && (decide ((max a1 a2) = 1))) then (
      some (1, true)
    ) else (
      bif (((decide (a0 = 2)) && (decide ((min a1 a2) = 0))) && (decide ((max a1 a2) = 2))) then (
        some (2, true)
      ) else (
        some (0, false)
      )
    )
  )
theorem d_ref06_Need_ok (a0 : Int) (a1 : Int) (a2 : Int) (r : (Int × Bool)) (h : d_ref06_Need a0 a1 a2 = some r) : PCall Go.Proofs.Tryd.prog GlS 83 [Enc.pv a0, Enc.pv a1, Enc.pv a2] (.tup [Enc.pv r.1, Enc.pv r.2]) := by
  unfold d_ref06_Need at h
  refine pcall_of_pwp Go.Proofs.Tryd.func83 (by rfl) rfl Go.Proofs.Tryd.ntmps83 (by rfl) rfl ?_
  refine pwp_seq (r_reg ?_)
  refine e_end (by kernel_rfl) ?_
  refine q_next (pwp_seq (r_reg ?_))
  refine e_end (by kernel_rfl) ?_
  refine q_next (pwp_seq (r_reg ?_))
  refine e_end (by kernel_rfl) ?_
  refine q_next (pwp_seq (pwp_seq (r_reg ?_)))
  refine p_run 3 (by kernel_rfl) ?_
  refine e_segb 3 21 ((decide (a0 = 1)) || (decide (a0 = 3))) (fun x hx => ?_) ?_
  · rcases b_or hx with ⟨hb, hx⟩ | ⟨hb, hx⟩
    · refine p_settle 18 hb (by kernel_rfl) (by kernel_rfl) ?_
      subst hx
      exact f_end (by kernel_rfl) (by kernel_rfl)
    refine p_settle 18 hb (by kernel_rfl) (by kernel_rfl) ?_
    subst hx
    exact f_end (by kernel_rfl) (by kernel_rfl)
  refine e_nil (by kernel_rfl) ?_
  refine q_next ?_
  rcases o_cond h with ⟨hb, h⟩ | ⟨hb, h⟩
  · refine r_cond_t hb (by kernel_rfl) ?_
    refine pwp_seq (r_reg ?_)
    refine p_run 3 (by kernel_rfl) ?_
    refine e_segb 3 27 ((decide ((min a1 a2) = 0)) && (decide ((max a1 a2) = 1))) (fun x hx => ?_) ?_
    · rcases b_and hx with ⟨hb, hx⟩ | ⟨hb, hx⟩
      · refine p_settle 24 hb (by kernel_rfl) (by kernel_rfl) ?_
        subst hx
        exact f_end (by kernel_rfl) (by kernel_rfl)
      refine p_settle 24 hb (by kernel_rfl) (by kernel_rfl) ?_
      subst hx
      exact f_end (by kernel_rfl) (by kernel_rfl)
    refine p_run 1 (by kernel_rfl) ?_
    refine e_segb 11 39 (((decide ((min a1 a2) = 0)) && (decide ((max a1 a2) = 1))) || (((decide (a0 = 3)) && (decide ((min a1 a2) = 2))) && (decide ((max a1 a2) = 3)))) (fun x hx => ?_) ?_
    · rcases b_or hx with ⟨hb, hx⟩ | ⟨hb, hx⟩
      · refine p_settle 28 hb (by kernel_rfl) (by kernel_rfl) ?_
        subst hx
        exact f_end (by kernel_rfl) (by kernel_rfl)
      refine p_settle 28 hb (by kernel_rfl) (by kernel_rfl) ?_
      refine p_run 3 (by kernel_rfl) ?_
      refine f_segb 3 34 ((decide (a0 = 3)) && (decide ((min a1 a2) = 2))) (fun x hx => ?_) ?_
      · rcases b_and hx with ⟨hb, hx⟩ | ⟨hb, hx⟩
        · refine p_settle 31 hb (by kernel_rfl) (by kernel_rfl) ?_
          subst hx
          exact f_end (by kernel_rfl) (by kernel_rfl)
        refine p_settle 31 hb (by kernel_rfl) (by kernel_rfl) ?_
        subst hx
        exact f_end (by kernel_rfl) (by kernel_rfl)
      refine p_run 1 (by kernel_rfl) ?_
      refine f_segb 3 38 (((decide (a0 = 3)) && (decide ((min a1 a2) = 2))) && (decide ((max a1 a2) = 3))) (fun x hx => ?_) ?_
      · rcases b_and hx with ⟨hb, hx⟩ | ⟨hb, hx⟩
        · refine p_settle 35 hb (by kernel_rfl) (by kernel_rfl) ?_
          subst hx
          exact f_end (by kernel_rfl) (by kernel_rfl)
        refine p_settle 35 hb (by kernel_rfl) (by kernel_rfl) ?_
        subst hx
        exact f_end (by kernel_rfl) (by kernel_rfl)
      subst hx
      exact f_end (by kernel_rfl) (by kernel_rfl)
    refine e_end (by kernel_rfl) ?_
    refine q_next (pwp_ret (q_seq_ret ?_))
    cases h
    exact q_ret (by kernel_rfl) (by kernel_rfl) (by kernel_rfl)
  refine r_cond_f hb (by kernel_rfl) ?_
  refine pwp_skip (q_next (pwp_seq (pwp_seq (r_reg ?_))))
  refine p_run 3 (by kernel_rfl) ?_
  refine e_segb 3 45 ((decide (a0 = 2)) && (decide ((min a1 a2) = 0))) (fun x hx => ?_) ?_
  · rcases b_and hx with ⟨hb, hx⟩ | ⟨hb, hx⟩
    · refine p_settle 42 hb (by kernel_rfl) (by kernel_rfl) ?_
      subst hx
      exact f_end (by kernel_rfl) (by kernel_rfl)
    refine p_settle 42 hb (by kernel_rfl) (by kernel_rfl) ?_
    subst hx
    exact f_end (by kernel_rfl) (by kernel_rfl)
  refine p_run 1 (by kernel_rfl) ?_
  refine e_segb 3 49 (((decide (a0 = 2)) && (decide ((min a1 a2) = 0))) && (decide ((max a1 a2) = 1))) (fun x hx => ?_) ?_
  · rcases b_and hx with ⟨hb, hx⟩ | ⟨hb, hx⟩
    · refine p_settle 46 hb (by kernel_rfl) (by kernel_rfl) ?_
      subst hx
      exact f_end (by kernel_rfl) (by kernel_rfl)
    refine p_settle 46 hb (by kernel_rfl) (by kernel_rfl) ?_
    subst hx
    exact f_end (by kernel_rfl) (by kernel_rfl)
  refine e_nil (by kernel_rfl) ?_
  refine q_next ?_
  rcases o_cond h with ⟨hb, h⟩ | ⟨hb, h⟩
  · refine r_cond_t hb (by kernel_rfl) ?_
    refine pwp_seq (r_reg ?_)
    refine e_end (by kernel_rfl) ?_
    refine q_next (pwp_ret (q_seq_ret ?_))
    cases h
    exact q_ret (by kernel_rfl) (by kernel_rfl) (by kernel_rfl)
  refine r_cond_f hb (by kernel_rfl) ?_
  refine pwp_skip (q_next (pwp_seq (pwp_seq (r_reg ?_))))
  refine p_run 3 (by kernel_rfl) ?_
  refine e_segb 3 55 ((decide (a0 = 2)) && (decide ((min a1 a2) = 0))) (fun x hx => ?_) ?_
  · rcases b_and hx with ⟨hb, hx⟩ | ⟨hb, hx⟩
    · refine p_settle 52 hb (by kernel_rfl) (by kernel_rfl) ?_
      subst hx
      exact f_end (by kernel_rfl) (by kernel_rfl)
    refine p_settle 52 hb (by kernel_rfl) (by kernel_rfl) ?_
    subst hx
    exact f_end (by kernel_rfl) (by kernel_rfl)
  refine p_run 1 (by kernel_rfl) ?_
  refine e_segb 3 59 (((decide (a0 = 2)) && (decide ((min a1 a2) = 0))) && (decide ((max a1 a2) = 2))) (fun x hx => ?_) ?_
  · rcases b_and hx with ⟨hb, hx⟩ | ⟨hb, hx⟩
    · refine p_settle 56 hb (by kernel_rfl) (by kernel_rfl) ?_
      subst hx
      exact f_end (by kernel_rfl) (by kernel_rfl)
    refine p_settle 56 hb (by kernel_rfl) (by kernel_rfl) ?_
    subst hx
    exact f_end (by kernel_rfl) (by kernel_rfl)
  refine e_nil (by kernel_rfl) ?_
  refine q_next ?_
  rcases o_cond h with ⟨hb, h⟩ | ⟨hb, h⟩
  · refine r_cond_t hb (by kernel_rfl) ?_
    refine pwp_seq (r_reg ?_)
    refine e_end (by kernel_rfl) ?_
    refine q_next (pwp_ret (q_seq_ret ?_))
    cases h
    exact q_ret (by kernel_rfl) (by kernel_rfl) (by kernel_rfl)
  refine r_cond_f hb (by kernel_rfl) ?_
  refine pwp_skip (q_next (pwp_seq (r_reg ?_)))
  refine e_end (by kernel_rfl) ?_
  refine q_next (pwp_ret ?_)
  cases h
  exact q_ret (by kernel_rfl) (by kernel_rfl) (by kernel_rfl)

noncomputable def d_ref06_Legs_0 (a0 : Int) (a1 : Int) : (Int × (List Int)) → Option ((Int × (List Int)) ⊕ ((List Int) ⊕ (List Int))) := fun (x12, x13) =>
  bif decide (x12 < 4) then (
    onInl (α := (List Int)) (β := ((Int × (List Int)) ⊕ ((List Int) ⊕ (List Int)))) (
      (d_ref06_Need a0 a1 x12).bind fun r23 =>
      bif r23.2 then (
        (appO x13 [x12]).bind fun x24 =>
        some (.inl x24)
      ) else (
        some (.inl x13)
      )
    ) fun x22 =>
    some (.inl (w64 (x12 + 1), x22))
  ) else (
    some (.inr (.inl x13))
  )

noncomputable def d_ref06_Legs (a0 : Int) (a1 : Int) : Option (List Int) :=
  onInl (α := (List Int)) (β := (List Int)) (loopO (d_ref06_Legs_0 a0 a1) (0, ([] : (List Int)))) fun x19 =>
  some x19
theorem d_ref06_Legs_ok (a0 : Int) (a1 : Int) (r : (List Int)) (h : d_ref06_Legs a0 a1 = some r) : PCall Go.Proofs.Tryd.prog GlS 85 [Enc.pv a0, Enc.pv a1] (lstOf (.own 100005) r) := by
  unfold d_ref06_Legs at h
  refine pcall_of_pwp Go.Proofs.Tryd.func85 (by rfl) rfl Go.Proofs.Tryd.ntmps85 (by rfl) rfl ?_
  refine pwp_seq (r_reg ?_)
  refine e_end (by kernel_rfl) ?_
  refine q_next (pwp_seq (r_reg ?_))
  refine e_end (by kernel_rfl) ?_
  refine q_next (pwp_seq (pwp_seq (r_reg ?_)))
  refine e_end (by kernel_rfl) ?_
  refine q_next (pwp_block ?_)
  refine g_nil 5 100005 1 8 (by kernel_rfl) (by kernel_rfl) ?_
  obtain ⟨o17, h17, h⟩ := o_inl h
  refine r_loop2 26 0 (fun (x12, x13) => ⟨[(0, .int .i64 a0), (1, .int .i64 a1), (5, lstOf (.own 100005) (x13 : (List Int))), (6, .int .i64 x12)], [], [(100005, (((x13).map cellsOf).length, 1))], []⟩) (fun x19 => ⟨[(5, lstOf (.own 100005) (x19 : (List Int)))], [], [(100005, (((x19).map cellsOf).length, 1))], []⟩) h17 (by kernel_rfl) (fun _ => by kernel_rfl) ?_ ?_
  · rintro ⟨x12, x13⟩ oh16 h16
    unfold d_ref06_Legs_0 at h16
    refine pwp_seq (pwp_seq (r_reg ?_))
    refine e_end (by kernel_rfl) ?_
    refine q_next ?_
    rcases o_cond h16 with ⟨hb, h16⟩ | ⟨hb, h16⟩
    · refine r_cond_t hb (by kernel_rfl) ?_
      refine pwp_skip (q_next ?_)
      obtain ⟨o20, h20, h16⟩ := o_inl h16
      refine r_join (o := o20) 26 (fun x22 => ⟨[(0, .int .i64 a0), (1, .int .i64 a1), (5, lstOf (.own 100005) (x22 : (List Int))), (6, .int .i64 x12)], [], [(100005, (((x22).map cellsOf).length, 1))], []⟩) ?_ ?_
      · refine pwp_block (pwp_seq (r_reg ?_))
        refine p_run 3 (by kernel_rfl) ?_
        obtain ⟨r23, h21, h20⟩ := o_bind h20
        refine p_call (d_ref06_Need_ok _ _ _ r23 h21) (by kernel_rfl) (by kernel_rfl) ?_
        refine e_end (by kernel_rfl) ?_
        refine q_next (pwp_seq (r_reg ?_))
        refine e_end (by kernel_rfl) ?_
        refine q_next ?_
        rcases o_cond h20 with ⟨hb, h20⟩ | ⟨hb, h20⟩
        · refine r_cond_t hb (by kernel_rfl) ?_
          refine r_reg ?_
          refine p_run 3 (by kernel_rfl) ?_
          obtain ⟨x24, h22, h20⟩ := o_bind h20
          refine p_app (tk := 100005) h22 (by kernel_rfl) (by kernel_rfl) ?_
          refine e_end (by kernel_rfl) ?_
          refine q_block ?_
          cases h20
          exact q_join (by kernel_rfl) (by kernel_rfl)
        refine r_cond_f hb (by kernel_rfl) ?_
        refine pwp_skip (q_block ?_)
        cases h20
        exact q_join (by kernel_rfl) (by kernel_rfl)
      rintro x22 rfl
      have h16 := o_outl h16
      refine r_reg ?_
      refine e_end (by kernel_rfl) ?_
      cases h16
      exact q_lback (by kernel_rfl)
    refine r_cond_f hb (by kernel_rfl) ?_
    refine pwp_exit (q_seq_exit ?_)
    cases h16
    exact q_lexit (by kernel_rfl) (by kernel_rfl)
  rintro x19 s' rfl hs
  have h := o_outl h
  refine q_block_hit ?_
  refine q_next (pwp_wkr hs ?_)
  refine pwp_seq (r_reg ?_)
  refine e_end (by kernel_rfl) ?_
  refine q_next (pwp_ret ?_)
  cases h
  exact q_ret (by kernel_rfl) (by kernel_rfl) (by kernel_rfl)
theorem d_ref06_Legs_fz (a0 : Int) (a1 : Int) (r : (List Int)) (h : d_ref06_Legs a0 a1 = some r) : PCall Go.Proofs.Tryd.prog GlS 85 [Enc.pv a0, Enc.pv a1] (Enc.pv r) :=
  (d_ref06_Legs_ok a0 a1 r h).freeze (by kernel_rfl) (by kernel_rfl) (by kernel_rfl)

noncomputable def d_ref09_Branches_0 (a1 : T_api_End) (r3 : (List Int)) : (Int × (List T_api_Step)) → Option ((Int × (List T_api_Step)) ⊕ ((List T_api_Step) ⊕ (List T_api_Step))) := fun (x9, x10) =>
  bif decide (x9 < ((r3.length : Nat) : Int)) then (
    (ixO r3 x9).bind fun x14 =>
    (appO x10 [(T_api_Step.mk a1.El a1.Side x14)]).bind fun x15 =>
    some (.inl (w64 (x9 + 1), x15))
  ) else (
    some (.inr (.inl x10))
  )

noncomputable def d_ref09_Branches (a0 : T_api_Layout) (a1 : T_api_End) : Option (List T_api_Step) :=
  (d_ref09_exists a0 a1.El).bind fun r1 =>
  bif (!r1) then (
    some ([] : (List T_api_Step))
  ) else (
    (ixO a0.Elements a1.El).bind fun x2 =>
    (d_ref06_Legs x2.Kind a1.Side).bind fun r3 =>
    onInl (α := (List T_api_Step)) (β := (List T_api_Step)) (loopO (d_ref09_Branches_0 a1 r3) (0, ([] : (List T_api_Step)))) fun x13 =>
    some x13
  )
theorem d_ref09_Branches_ok (a0 : T_api_Layout) (a1 : T_api_End) (r : (List T_api_Step)) (h : d_ref09_Branches a0 a1 = some r) : PCall Go.Proofs.Tryd.prog GlS 68 [Enc.pv a0, Enc.pv a1] (lstOf (.own 100006) r) := by
  unfold d_ref09_Branches at h
  refine pcall_of_pwp Go.Proofs.Tryd.func68 (by rfl) rfl Go.Proofs.Tryd.ntmps68 (by rfl) rfl ?_
  refine pwp_seq (r_reg ?_)
  refine e_end (by kernel_rfl) ?_
  refine q_next (pwp_seq (pwp_seq (r_reg ?_)))
  refine p_run 3 (by kernel_rfl) ?_
  obtain ⟨r1, h1, h⟩ := o_bind h
  refine p_call (d_ref09_exists_ok _ _ r1 h1) (by kernel_rfl) (by kernel_rfl) ?_
  refine e_end (by kernel_rfl) ?_
  refine q_next ?_
  rcases o_cond h with ⟨hb, h⟩ | ⟨hb, h⟩
  · refine r_cond_t hb (by kernel_rfl) ?_
    refine pwp_seq (r_reg ?_)
    refine e_end (by kernel_rfl) ?_
    refine q_next ?_
    refine g_nil 4 100006 3 24 (by kernel_rfl) (by kernel_rfl) ?_
    refine pwp_ret (q_seq_ret ?_)
    cases h
    exact q_ret (by kernel_rfl) (by kernel_rfl) (by kernel_rfl)
  refine r_cond_f hb (by kernel_rfl) ?_
  refine pwp_skip (q_next (pwp_seq ?_))
  refine r_regd (by kernel_rfl) (by kernel_rfl) ?_
  refine p_run 4 (by kernel_rfl) ?_
  obtain ⟨x2, h2, h⟩ := o_bind h
  refine p_ix h2 (by kernel_rfl) ?_
  refine p_run 4 (by kernel_rfl) ?_
  obtain ⟨r3, h3, h⟩ := o_bind h
  refine p_call (d_ref06_Legs_fz _ _ r3 h3) (by kernel_rfl) (by kernel_rfl) ?_
  refine e_end (by kernel_rfl) ?_
  refine q_next (pwp_seq (r_reg ?_))
  refine e_end (by kernel_rfl) ?_
  refine q_next (pwp_seq (pwp_seq (r_reg ?_)))
  refine e_end (by kernel_rfl) ?_
  refine q_next (pwp_block ?_)
  refine g_nil 6 100006 3 24 (by kernel_rfl) (by kernel_rfl) ?_
  obtain ⟨o11, h11, h⟩ := o_inl h
  refine r_loop2 42 0 (fun (x9, x10) => ⟨[(3, .ref 3 0), (5, lstOf .frozen (r3 : (List Int))), (6, lstOf (.own 100006) (x10 : (List T_api_Step))), (7, .int .i64 x9)], [(3, .cells (cellsOf a1))], [(100006, (((x10).map cellsOf).length, 3))], []⟩) (fun x13 => ⟨[(6, lstOf (.own 100006) (x13 : (List T_api_Step)))], [], [(100006, (((x13).map cellsOf).length, 3))], []⟩) h11 (by kernel_rfl) (fun _ => by kernel_rfl) ?_ ?_
  · rintro ⟨x9, x10⟩ oh10 h10
    unfold d_ref09_Branches_0 at h10
    refine pwp_seq (pwp_seq (r_reg ?_))
    refine p_run 2 (by kernel_rfl) ?_
    refine p_len (L := (r3 : (List Int))) (by kernel_rfl) ?_
    refine e_end (by kernel_rfl) ?_
    refine q_next ?_
    rcases o_cond h10 with ⟨hb, h10⟩ | ⟨hb, h10⟩
    · refine r_cond_t hb (by kernel_rfl) ?_
      refine pwp_skip (q_next (pwp_seq (pwp_block ?_)))
      refine r_regd (by kernel_rfl) (by kernel_rfl) ?_
      refine p_run 7 (by kernel_rfl) ?_
      obtain ⟨x14, h12, h10⟩ := o_bind h10
      refine p_ix h12 (by kernel_rfl) ?_
      refine p_run 3 (by kernel_rfl) ?_
      obtain ⟨x15, h13, h10⟩ := o_bind h10
      refine p_app (tk := 100006) h13 (by kernel_rfl) (by kernel_rfl) ?_
      refine e_end (by kernel_rfl) ?_
      refine q_block (q_next (r_reg ?_))
      refine e_end (by kernel_rfl) ?_
      cases h10
      exact q_lback (by kernel_rfl)
    refine r_cond_f hb (by kernel_rfl) ?_
    refine pwp_exit (q_seq_exit ?_)
    cases h10
    exact q_lexit (by kernel_rfl) (by kernel_rfl)
  rintro x13 s' rfl hs
  have h := o_outl h
  refine q_block_hit ?_
  refine q_next (pwp_wkr hs ?_)
  refine pwp_seq (r_reg ?_)
  refine e_end (by kernel_rfl) ?_
  refine q_next (pwp_ret ?_)
  cases h
  exact q_ret (by kernel_rfl) (by kernel_rfl) (by kernel_rfl)
noncomputable def d_ref09_need (a0 : T_api_Layout) (a1 : T_api_Step) : Option (Int × Bool) :=
  (d_ref09_exists a0 a1.El).bind fun r1 =>
  bif (!r1) then (
    some (0, false)
  ) else (
    (ixO a0.Elements a1.El).bind fun x2 =>
    (d_ref06_Need x2.Kind a1.In a1.Out).bind fun r3 =>
    some (r3.1, r3.2)
  )
theorem d_ref09_need_ok (a0 : T_api_Layout) (a1 : T_api_Step) (r : (Int × Bool)) (h : d_ref09_need a0 a1 = some r) : PCall Go.Proofs.Tryd.prog GlS 59 [Enc.pv a0, Enc.pv a1] (.tup [Enc.pv r.1, Enc.pv r.2]) := by
  unfold d_ref09_need at h
  refine pcall_of_pwp Go.Proofs.Tryd.func59 (by rfl) rfl Go.Proofs.Tryd.ntmps59 (by rfl) rfl ?_
  refine pwp_seq (r_reg ?_)
  refine e_end (by kernel_rfl) ?_
  refine q_next (pwp_seq (pwp_seq (r_reg ?_)))
  refine p_run 3 (by kernel_rfl) ?_
  obtain ⟨r1, h1, h⟩ := o_bind h
  refine p_call (d_ref09_exists_ok _ _ r1 h1) (by kernel_rfl) (by kernel_rfl) ?_
  refine e_end (by kernel_rfl) ?_
  refine q_next ?_
  rcases o_cond h with ⟨hb, h⟩ | ⟨hb, h⟩
  · refine r_cond_t hb (by kernel_rfl) ?_
    refine pwp_seq (r_reg ?_)
    refine e_end (by kernel_rfl) ?_
    refine q_next (pwp_ret (q_seq_ret ?_))
    cases h
    exact q_ret (by kernel_rfl) (by kernel_rfl) (by kernel_rfl)
  refine r_cond_f hb (by kernel_rfl) ?_
  refine pwp_skip (q_next (pwp_seq ?_))
  refine r_regd (by kernel_rfl) (by kernel_rfl) ?_
  refine p_run 4 (by kernel_rfl) ?_
  obtain ⟨x2, h2, h⟩ := o_bind h
  refine p_ix h2 (by kernel_rfl) ?_
  refine p_run 6 (by kernel_rfl) ?_
  obtain ⟨r3, h3, h⟩ := o_bind h
  refine p_call (d_ref06_Need_ok _ _ _ r3 h3) (by kernel_rfl) (by kernel_rfl) ?_
  refine e_end (by kernel_rfl) ?_
  refine q_next (pwp_ret ?_)
  cases h
  exact q_ret (by kernel_rfl) (by kernel_rfl) (by kernel_rfl)

noncomputable def d_ref09_Next (a0 : T_api_Layout) (a1 : T_api_Step) : Option (T_api_End × Bool) :=
  (d_ref07_Joined a0 (T_api_End.mk a1.El a1.Out)).bind fun r1 =>
  some (r1.1, r1.2)
theorem d_ref09_Next_ok (a0 : T_api_Layout) (a1 : T_api_Step) (r : (T_api_End × Bool)) (h : d_ref09_Next a0 a1 = some r) : PCall Go.Proofs.Tryd.prog GlS 13 [Enc.pv a0, Enc.pv a1] (.tup [Enc.pv r.1, Enc.pv r.2]) := by
  unfold d_ref09_Next at h
  refine pcall_of_pwp Go.Proofs.Tryd.func13 (by rfl) rfl Go.Proofs.Tryd.ntmps13 (by rfl) rfl ?_
  refine pwp_seq (r_reg ?_)
  refine e_end (by kernel_rfl) ?_
  refine q_next (pwp_seq (r_reg ?_))
  refine p_run 6 (by kernel_rfl) ?_
  obtain ⟨r1, h1, h⟩ := o_bind h
  refine p_call (d_ref07_Joined_ok _ _ r1 h1) (by kernel_rfl) (by kernel_rfl) ?_
  refine e_end (by kernel_rfl) ?_
  refine q_next (pwp_ret ?_)
  cases h
  exact q_ret (by kernel_rfl) (by kernel_rfl) (by kernel_rfl)

noncomputable def d_ref09_Valid_1 (a1 : (List T_api_Step)) (x23 : Int) : Int → Option (Int ⊕ (Unit ⊕ (Int ⊕ (Unit ⊕ Bool)))) := fun x61 =>
  bif decide (x61 < x23) then (
    (ixO a1 x61).bind fun x64 =>
    (ixO a1 x23).bind fun x65 =>
    bif decide (x64.El = x65.El) then (
      some (.inr (.inr (.inr (.inr false))))
    ) else (
      some (.inl (w64 (x61 + 1)))
    )
  ) else (
    some (.inr (.inl ()))
  )

noncomputable def d_ref09_Valid_0 (a0 : T_api_Layout) (a1 : (List T_api_Step)) : Int → Option (Int ⊕ (Unit ⊕ Bool)) := fun x23 =>
  bif decide (x23 < ((a1.length : Nat) : Int)) then (
    (ixO a1 x23).bind fun x45 =>
    (d_ref09_need a0 x45).bind fun r46 =>
    bif (!r46.2) then (
      some (.inr (.inr false))
    ) else (
      onInl (α := Unit) (β := (Int ⊕ (Unit ⊕ Bool))) (
        bif decide (0 < x23) then (
          (ixO a1 (w64 (x23 - 1))).bind fun x53 =>
          (d_ref09_Next a0 x53).bind fun r54 =>
          ((bif (!r54.2) then some true else (
            (ixO a1 x23).bind fun x56 =>
            some (!(decide (r54.1.El = x56.El)))
          )) : Option Bool).bind fun b55 =>
          ((bif b55 then some true else (
            (ixO a1 x23).bind fun x58 =>
            some (!(decide (r54.1.Side = x58.In)))
          )) : Option Bool).bind fun b57 =>
          bif b57 then (
            some (.inr (.inr (.inr false)))
          ) else (
            some (.inl ())
          )
        ) else (
          some (.inl ())
        )
      ) fun _ =>
      onInl (α := Unit) (β := (Int ⊕ (Unit ⊕ Bool))) (loopO (d_ref09_Valid_1 a1 x23) 0) fun _ =>
      some (.inl (w64 (x23 + 1)))
    )
  ) else (
    some (.inr (.inl ()))
  )

noncomputable def d_ref09_Valid (a0 : T_api_Layout) (a1 : (List T_api_Step)) : Option Bool :=
  ((bif decide (((a1.length : Nat) : Int) = 0) then some true else (
    some (decide (64 < ((a1.length : Nat) : Int)))
  )) : Option Bool).bind fun b1 =>
  bif b1 then (
    some false
  ) else (
    onInl (α := Unit) (β := Bool) (loopO (d_ref09_Valid_0 a0 a1) 0) fun _ =>
    some true
  )
theorem d_ref09_Valid_ok (a0 : T_api_Layout) (a1 : (List T_api_Step)) (r : Bool) (h : d_ref09_Valid a0 a1 = some r) : PCall Go.Proofs.Tryd.prog GlS 31 [Enc.pv a0, Enc.pv a1] (Enc.pv r) := by
  unfold d_ref09_Valid at h
  refine pcall_of_pwp Go.Proofs.Tryd.func31 (by rfl) rfl Go.Proofs.Tryd.ntmps31 (by rfl) rfl ?_
  refine pwp_seq (r_reg ?_)
  refine e_end (by kernel_rfl) ?_
  refine q_next (pwp_seq (pwp_seq (r_reg ?_)))
  refine p_run 1 (by kernel_rfl) ?_
  refine p_len (L := (a1 : (List T_api_Step))) (by kernel_rfl) ?_
  obtain ⟨b1, h1, h⟩ := o_bind h
  refine p_run 2 (by kernel_rfl) ?_
  refine e_seg 4 18 (.bool b1) ?_ ?_
  · rcases o_cond h1 with ⟨hb, h1⟩ | ⟨hb, h1⟩
    · refine p_settle 14 hb (by kernel_rfl) (by kernel_rfl) ?_
      cases h1
      exact f_end (by kernel_rfl) (by kernel_rfl)
    refine p_settle 14 hb (by kernel_rfl) (by kernel_rfl) ?_
    refine p_run 1 (by kernel_rfl) ?_
    refine p_len (L := (a1 : (List T_api_Step))) (by kernel_rfl) ?_
    cases h1
    exact f_end (by kernel_rfl) (by kernel_rfl)
  refine e_nil (by kernel_rfl) ?_
  refine q_next ?_
  rcases o_cond h with ⟨hb, h⟩ | ⟨hb, h⟩
  · refine r_cond_t hb (by kernel_rfl) ?_
    refine pwp_seq (r_reg ?_)
    refine e_end (by kernel_rfl) ?_
    refine q_next (pwp_ret (q_seq_ret ?_))
    cases h
    exact q_ret (by kernel_rfl) (by kernel_rfl) (by kernel_rfl)
  refine r_cond_f hb (by kernel_rfl) ?_
  refine pwp_skip (q_next (pwp_seq (pwp_seq (r_reg ?_))))
  refine e_end (by kernel_rfl) ?_
  refine q_next (pwp_block ?_)
  obtain ⟨o71, h71, h⟩ := o_inl h
  refine r_loop2 86 0 (fun x23 => ⟨[(1, lstOf .frozen (a1 : (List T_api_Step))), (2, .ref 2 0), (5, .int .i64 x23)], [(2, .cells (cellsOf a0))], [], []⟩) (fun (_ : Unit) => ⟨[], [], [], []⟩) h71 (by kernel_rfl) (fun _ => by kernel_rfl) ?_ ?_
  · rintro x23 oh70 h70
    unfold d_ref09_Valid_0 at h70
    refine pwp_seq (pwp_seq (r_reg ?_))
    refine p_run 2 (by kernel_rfl) ?_
    refine p_len (L := (a1 : (List T_api_Step))) (by kernel_rfl) ?_
    refine e_end (by kernel_rfl) ?_
    refine q_next ?_
    rcases o_cond h70 with ⟨hb, h70⟩ | ⟨hb, h70⟩
    · refine r_cond_t hb (by kernel_rfl) ?_
      refine pwp_skip (q_next (pwp_seq (pwp_block (pwp_seq ?_))))
      refine r_regd (by kernel_rfl) (by kernel_rfl) ?_
      refine p_run 3 (by kernel_rfl) ?_
      obtain ⟨x45, h72, h70⟩ := o_bind h70
      refine p_ix h72 (by kernel_rfl) ?_
      refine p_run 1 (by kernel_rfl) ?_
      obtain ⟨r46, h73, h70⟩ := o_bind h70
      refine p_call (d_ref09_need_ok _ _ r46 h73) (by kernel_rfl) (by kernel_rfl) ?_
      refine e_end (by kernel_rfl) ?_
      refine q_next (pwp_seq (pwp_seq (r_reg ?_)))
      refine e_end (by kernel_rfl) ?_
      refine q_next ?_
      rcases o_cond h70 with ⟨hb, h70⟩ | ⟨hb, h70⟩
      · refine r_cond_t hb (by kernel_rfl) ?_
        refine pwp_seq (r_reg ?_)
        refine e_end (by kernel_rfl) ?_
        refine q_next (pwp_ret (q_seq_ret (q_block_ret (q_seq_ret ?_))))
        cases h70
        refine q_lout_ret fun he => ?_
        subst he
        have h74 := o_outr h
        refine q_block_ret (q_seq_ret ?_)
        cases h74
        exact q_ret (by kernel_rfl) (by kernel_rfl) (by kernel_rfl)
      refine r_cond_f hb (by kernel_rfl) ?_
      refine pwp_skip (q_next ?_)
      obtain ⟨o83, h83, h70⟩ := o_inl h70
      refine r_join (o := o83) 86 (fun (_ : Unit) => ⟨[(1, lstOf .frozen (a1 : (List T_api_Step))), (2, .ref 2 0), (5, .int .i64 x23)], [(2, .cells (cellsOf a0))], [], []⟩) ?_ ?_
      · refine pwp_seq (r_reg ?_)
        refine e_end (by kernel_rfl) ?_
        refine q_next ?_
        rcases o_cond h83 with ⟨hb, h83⟩ | ⟨hb, h83⟩
        · refine r_cond_t hb (by kernel_rfl) ?_
          refine pwp_seq ?_
          refine r_regd (by kernel_rfl) (by kernel_rfl) ?_
          refine p_run 4 (by kernel_rfl) ?_
          obtain ⟨x53, h84, h83⟩ := o_bind h83
          refine p_ix h84 (by kernel_rfl) ?_
          refine p_run 1 (by kernel_rfl) ?_
          obtain ⟨r54, h85, h83⟩ := o_bind h83
          refine p_call (d_ref09_Next_ok _ _ r54 h85) (by kernel_rfl) (by kernel_rfl) ?_
          refine e_end (by kernel_rfl) ?_
          refine q_next (pwp_seq ?_)
          refine r_regd (by kernel_rfl) (by kernel_rfl) ?_
          obtain ⟨b55, h86, h83⟩ := o_bind h83
          refine p_run 3 (by kernel_rfl) ?_
          refine e_seg 9 59 (.bool b55) ?_ ?_
          · rcases o_cond h86 with ⟨hb, h86⟩ | ⟨hb, h86⟩
            · refine p_settle 50 hb (by kernel_rfl) (by kernel_rfl) ?_
              cases h86
              exact f_end (by kernel_rfl) (by kernel_rfl)
            refine p_settle 50 hb (by kernel_rfl) (by kernel_rfl) ?_
            refine p_run 4 (by kernel_rfl) ?_
            obtain ⟨x56, h87, h86⟩ := o_bind h86
            refine p_ix h87 (by kernel_rfl) ?_
            cases h86
            exact f_end (by kernel_rfl) (by kernel_rfl)
          obtain ⟨b57, h88, h83⟩ := o_bind h83
          refine p_run 1 (by kernel_rfl) ?_
          refine e_seg 9 69 (.bool b57) ?_ ?_
          · rcases o_cond h88 with ⟨hb, h88⟩ | ⟨hb, h88⟩
            · refine p_settle 60 hb (by kernel_rfl) (by kernel_rfl) ?_
              cases h88
              exact f_end (by kernel_rfl) (by kernel_rfl)
            refine p_settle 60 hb (by kernel_rfl) (by kernel_rfl) ?_
            refine p_run 4 (by kernel_rfl) ?_
            obtain ⟨x58, h89, h88⟩ := o_bind h88
            refine p_ix h89 (by kernel_rfl) ?_
            cases h88
            exact f_end (by kernel_rfl) (by kernel_rfl)
          refine e_nil (by kernel_rfl) ?_
          refine q_next ?_
          rcases o_cond h83 with ⟨hb, h83⟩ | ⟨hb, h83⟩
          · refine r_cond_t hb (by kernel_rfl) ?_
            refine pwp_seq (r_reg ?_)
            refine e_end (by kernel_rfl) ?_
            refine q_next (pwp_ret ?_)
            cases h83
            refine q_jout_ret ?_
            have h90 := o_outr h70
            refine q_block_ret (q_seq_ret ?_)
            cases h90
            refine q_lout_ret fun he => ?_
            subst he
            have h91 := o_outr h
            refine q_block_ret (q_seq_ret ?_)
            cases h91
            exact q_ret (by kernel_rfl) (by kernel_rfl) (by kernel_rfl)
          refine r_cond_f hb (by kernel_rfl) ?_
          refine pwp_skip ?_
          cases h83
          exact q_join (by kernel_rfl) (by kernel_rfl)
        refine r_cond_f hb (by kernel_rfl) ?_
        refine pwp_skip ?_
        cases h83
        exact q_join (by kernel_rfl) (by kernel_rfl)
      rintro _ rfl
      have h70 := o_outl h70
      refine pwp_seq (r_reg ?_)
      refine e_end (by kernel_rfl) ?_
      refine q_next (pwp_block ?_)
      obtain ⟨o101, h101, h70⟩ := o_inl h70
      refine r_loop2 86 2 (fun x61 => ⟨[(1, lstOf .frozen (a1 : (List T_api_Step))), (2, .ref 2 0), (5, .int .i64 x23), (10, .int .i64 x61)], [(2, .cells (cellsOf a0))], [], []⟩) (fun (_ : Unit) => ⟨[(1, lstOf .frozen (a1 : (List T_api_Step))), (2, .ref 2 0), (5, .int .i64 x23)], [(2, .cells (cellsOf a0))], [], []⟩) h101 (by kernel_rfl) (fun _ => by kernel_rfl) ?_ ?_
      · rintro x61 oh100 h100
        unfold d_ref09_Valid_1 at h100
        refine pwp_seq (pwp_seq (r_reg ?_))
        refine e_end (by kernel_rfl) ?_
        refine q_next ?_
        rcases o_cond h100 with ⟨hb, h100⟩ | ⟨hb, h100⟩
        · refine r_cond_t hb (by kernel_rfl) ?_
          refine pwp_skip (q_next (pwp_seq (pwp_block (pwp_seq ?_))))
          refine r_regd (by kernel_rfl) (by kernel_rfl) ?_
          refine p_run 2 (by kernel_rfl) ?_
          obtain ⟨x64, h102, h100⟩ := o_bind h100
          refine p_ix h102 (by kernel_rfl) ?_
          refine p_run 4 (by kernel_rfl) ?_
          obtain ⟨x65, h103, h100⟩ := o_bind h100
          refine p_ix h103 (by kernel_rfl) ?_
          refine e_end (by kernel_rfl) ?_
          refine q_next ?_
          rcases o_cond h100 with ⟨hb, h100⟩ | ⟨hb, h100⟩
          · refine r_cond_t hb (by kernel_rfl) ?_
            refine pwp_seq (r_reg ?_)
            refine e_end (by kernel_rfl) ?_
            refine q_next (pwp_ret (q_block_ret (q_seq_ret ?_)))
            cases h100
            refine q_lout_ret fun he => ?_
            subst he
            have h104 := o_outr h70
            refine q_block_ret (q_block_ret (q_seq_ret ?_))
            cases h104
            refine q_lout_ret fun he => ?_
            subst he
            have h105 := o_outr h
            refine q_block_ret (q_seq_ret ?_)
            cases h105
            exact q_ret (by kernel_rfl) (by kernel_rfl) (by kernel_rfl)
          refine r_cond_f hb (by kernel_rfl) ?_
          refine pwp_skip (q_block (q_next (r_reg ?_)))
          refine e_end (by kernel_rfl) ?_
          cases h100
          exact q_lback (by kernel_rfl)
        refine r_cond_f hb (by kernel_rfl) ?_
        refine pwp_exit (q_seq_exit ?_)
        cases h100
        exact q_lexit (by kernel_rfl) (by kernel_rfl)
      rintro _ s' rfl hs
      have h70 := o_outl h70
      refine q_block_hit (q_block ?_)
      refine q_next (pwp_wkr hs ?_)
      refine r_reg ?_
      refine e_end (by kernel_rfl) ?_
      cases h70
      exact q_lback (by kernel_rfl)
    refine r_cond_f hb (by kernel_rfl) ?_
    refine pwp_exit (q_seq_exit ?_)
    cases h70
    exact q_lexit (by kernel_rfl) (by kernel_rfl)
  rintro _ s' rfl hs
  have h := o_outl h
  refine q_block_hit ?_
  refine q_next (pwp_wkr hs ?_)
  refine pwp_seq (r_reg ?_)
  refine e_end (by kernel_rfl) ?_
  refine q_next (pwp_ret ?_)
  cases h
  exact q_ret (by kernel_rfl) (by kernel_rfl) (by kernel_rfl)

noncomputable def d_ref07_Section (a0 : T_api_Layout) (a1 : Int) : Option Int :=
  ((bif decide (a1 < 0) then some true else (
    some (decide (((a0.Elements.length : Nat) : Int) ≤ a1))
  )) : Option Bool).bind fun b1 =>
  bif b1 then (
    some (-1)
  ) else (
    (ixO a0.Elements a1).bind fun x2 =>
    some x2.Section
  )
theorem d_ref07_Section_ok (a0 : T_api_Layout) (a1 : Int) (r : Int) (h : d_ref07_Section a0 a1 = some r) : PCall Go.Proofs.Tryd.prog GlS 30 [Enc.pv a0, Enc.pv a1] (Enc.pv r) := by
  unfold d_ref07_Section at h
  refine pcall_of_pwp Go.Proofs.Tryd.func30 (by rfl) rfl Go.Proofs.Tryd.ntmps30 (by rfl) rfl ?_
  refine pwp_seq (r_reg ?_)
  refine e_end (by kernel_rfl) ?_
  refine q_next (pwp_seq (pwp_seq (r_reg ?_)))
  obtain ⟨b1, h1, h⟩ := o_bind h
  refine p_run 3 (by kernel_rfl) ?_
  refine e_seg 6 13 (.bool b1) ?_ ?_
  · rcases o_cond h1 with ⟨hb, h1⟩ | ⟨hb, h1⟩
    · refine p_settle 7 hb (by kernel_rfl) (by kernel_rfl) ?_
      cases h1
      exact f_end (by kernel_rfl) (by kernel_rfl)
    refine p_settle 7 hb (by kernel_rfl) (by kernel_rfl) ?_
    refine p_run 3 (by kernel_rfl) ?_
    refine p_len (L := (a0.Elements : (List T_api_Element))) (by kernel_rfl) ?_
    cases h1
    exact f_end (by kernel_rfl) (by kernel_rfl)
  refine e_nil (by kernel_rfl) ?_
  refine q_next ?_
  rcases o_cond h with ⟨hb, h⟩ | ⟨hb, h⟩
  · refine r_cond_t hb (by kernel_rfl) ?_
    refine pwp_seq (r_reg ?_)
    refine e_end (by kernel_rfl) ?_
    refine q_next (pwp_ret (q_seq_ret ?_))
    cases h
    exact q_ret (by kernel_rfl) (by kernel_rfl) (by kernel_rfl)
  refine r_cond_f hb (by kernel_rfl) ?_
  refine pwp_skip (q_next (pwp_seq (r_reg ?_)))
  refine p_run 3 (by kernel_rfl) ?_
  obtain ⟨x2, h2, h⟩ := o_bind h
  refine p_ix h2 (by kernel_rfl) ?_
  refine e_end (by kernel_rfl) ?_
  refine q_next (pwp_ret ?_)
  cases h
  exact q_ret (by kernel_rfl) (by kernel_rfl) (by kernel_rfl)

noncomputable def d_ref09_has_0 (a0 : (List Int)) (a1 : Int) : Int → Option (Int ⊕ (Unit ⊕ Bool)) := fun x2 =>
  bif decide (x2 < ((a0.length : Nat) : Int)) then (
    (ixO a0 x2).bind fun x4 =>
    bif decide (x4 = a1) then (
      some (.inr (.inr true))
    ) else (
      some (.inl (w64 (x2 + 1)))
    )
  ) else (
    some (.inr (.inl ()))
  )

noncomputable def d_ref09_has (a0 : (List Int)) (a1 : Int) : Option Bool :=
  onInl (α := Unit) (β := Bool) (loopO (d_ref09_has_0 a0 a1) 0) fun _ =>
  some false
theorem d_ref09_has_ok (a0 : (List Int)) (a1 : Int) (r : Bool) (h : d_ref09_has a0 a1 = some r) : PCall Go.Proofs.Tryd.prog GlS 73 [Enc.pv a0, Enc.pv a1] (Enc.pv r) := by
  unfold d_ref09_has at h
  refine pcall_of_pwp Go.Proofs.Tryd.func73 (by rfl) rfl Go.Proofs.Tryd.ntmps73 (by rfl) rfl ?_
  refine pwp_seq (r_reg ?_)
  refine e_end (by kernel_rfl) ?_
  refine q_next (pwp_seq (pwp_seq (r_reg ?_)))
  refine e_end (by kernel_rfl) ?_
  refine q_next (pwp_block ?_)
  obtain ⟨o6, h6, h⟩ := o_inl h
  refine r_loop2 18 0 (fun x2 => ⟨[(0, lstOf .frozen (a0 : (List Int))), (1, .int .i64 a1), (5, .int .i64 x2)], [], [], []⟩) (fun (_ : Unit) => ⟨[], [], [], []⟩) h6 (by kernel_rfl) (fun _ => by kernel_rfl) ?_ ?_
  · rintro x2 oh5 h5
    unfold d_ref09_has_0 at h5
    refine pwp_seq (pwp_seq (r_reg ?_))
    refine p_run 2 (by kernel_rfl) ?_
    refine p_len (L := (a0 : (List Int))) (by kernel_rfl) ?_
    refine e_end (by kernel_rfl) ?_
    refine q_next ?_
    rcases o_cond h5 with ⟨hb, h5⟩ | ⟨hb, h5⟩
    · refine r_cond_t hb (by kernel_rfl) ?_
      refine pwp_skip (q_next (pwp_seq (pwp_block (pwp_seq (r_reg ?_)))))
      refine p_run 2 (by kernel_rfl) ?_
      obtain ⟨x4, h7, h5⟩ := o_bind h5
      refine p_ix h7 (by kernel_rfl) ?_
      refine e_end (by kernel_rfl) ?_
      refine q_next ?_
      rcases o_cond h5 with ⟨hb, h5⟩ | ⟨hb, h5⟩
      · refine r_cond_t hb (by kernel_rfl) ?_
        refine pwp_seq (r_reg ?_)
        refine e_end (by kernel_rfl) ?_
        refine q_next (pwp_ret (q_block_ret (q_seq_ret ?_)))
        cases h5
        refine q_lout_ret fun he => ?_
        subst he
        have h8 := o_outr h
        refine q_block_ret (q_seq_ret ?_)
        cases h8
        exact q_ret (by kernel_rfl) (by kernel_rfl) (by kernel_rfl)
      refine r_cond_f hb (by kernel_rfl) ?_
      refine pwp_skip (q_block (q_next (r_reg ?_)))
      refine e_end (by kernel_rfl) ?_
      cases h5
      exact q_lback (by kernel_rfl)
    refine r_cond_f hb (by kernel_rfl) ?_
    refine pwp_exit (q_seq_exit ?_)
    cases h5
    exact q_lexit (by kernel_rfl) (by kernel_rfl)
  rintro _ s' rfl hs
  have h := o_outl h
  refine q_block_hit ?_
  refine q_next (pwp_wkr hs ?_)
  refine pwp_seq (r_reg ?_)
  refine e_end (by kernel_rfl) ?_
  refine q_next (pwp_ret ?_)
  cases h
  exact q_ret (by kernel_rfl) (by kernel_rfl) (by kernel_rfl)

noncomputable def d_ref09_Sections_0 (a0 : T_api_Layout) (a1 : (List T_api_Step)) : (Int × (List Int)) → Option ((Int × (List Int)) ⊕ ((List Int) ⊕ (List Int))) := fun (x40, x41) =>
  bif decide (x40 < ((a1.length : Nat) : Int)) then (
    onInl (α := (List Int)) (β := ((Int × (List Int)) ⊕ ((List Int) ⊕ (List Int)))) (
      (ixO a1 x40).bind fun x72 =>
      (d_ref09_exists a0 x72.El).bind fun r73 =>
      ((bif r73 then (
        (ixO a1 x40).bind fun x75 =>
        (ixO a0.Elements x75.El).bind fun x76 =>
        (d_ref09_has x41 x76.Section).bind fun r77 =>
        some (!r77)
      ) else some false) : Option Bool).bind fun b74 =>
      bif b74 then (
        (ixO a1 x40).bind fun x78 =>
        (ixO a0.Elements x78.El).bind fun x79 =>
        (appO x41 [x79.Section]).bind fun x80 =>
        some (.inl x80)
      ) else (
        some (.inl x41)
      )
    ) fun x71 =>
    some (.inl (w64 (x40 + 1), x71))
  ) else (
    some (.inr (.inl x41))
  )

noncomputable def d_ref09_Sections (a0 : T_api_Layout) (a1 : (List T_api_Step)) : Option (List Int) :=
  onInl (α := (List Int)) (β := (List Int)) (loopO (d_ref09_Sections_0 a0 a1) (0, ([] : (List Int)))) fun x61 =>
  some x61
theorem d_ref09_Sections_ok (a0 : T_api_Layout) (a1 : (List T_api_Step)) (r : (List Int)) (h : d_ref09_Sections a0 a1 = some r) : PCall Go.Proofs.Tryd.prog GlS 43 [Enc.pv a0, Enc.pv a1] (lstOf (.own 100005) r) := by
  unfold d_ref09_Sections at h
  refine pcall_of_pwp Go.Proofs.Tryd.func43 (by rfl) rfl Go.Proofs.Tryd.ntmps43 (by rfl) rfl ?_
  refine pwp_seq (r_reg ?_)
  refine e_end (by kernel_rfl) ?_
  refine q_next (pwp_seq (r_reg ?_))
  refine e_end (by kernel_rfl) ?_
  refine q_next (pwp_seq (pwp_seq (r_reg ?_)))
  refine e_end (by kernel_rfl) ?_
  refine q_next (pwp_block ?_)
  refine g_nil 5 100005 1 8 (by kernel_rfl) (by kernel_rfl) ?_
  obtain ⟨o59, h59, h⟩ := o_inl h
  refine r_loop2 49 0 (fun (x40, x41) => ⟨[(1, lstOf .frozen (a1 : (List T_api_Step))), (2, .ref 2 0), (5, lstOf (.own 100005) (x41 : (List Int))), (6, .int .i64 x40)], [(2, .cells (cellsOf a0))], [(100005, (((x41).map cellsOf).length, 1))], []⟩) (fun x61 => ⟨[(5, lstOf (.own 100005) (x61 : (List Int)))], [], [(100005, (((x61).map cellsOf).length, 1))], []⟩) h59 (by kernel_rfl) (fun _ => by kernel_rfl) ?_ ?_
  · rintro ⟨x40, x41⟩ oh58 h58
    unfold d_ref09_Sections_0 at h58
    refine pwp_seq (pwp_seq (r_reg ?_))
    refine p_run 2 (by kernel_rfl) ?_
    refine p_len (L := (a1 : (List T_api_Step))) (by kernel_rfl) ?_
    refine e_end (by kernel_rfl) ?_
    refine q_next ?_
    rcases o_cond h58 with ⟨hb, h58⟩ | ⟨hb, h58⟩
    · refine r_cond_t hb (by kernel_rfl) ?_
      refine pwp_skip (q_next ?_)
      obtain ⟨o69, h69, h58⟩ := o_inl h58
      refine r_join (o := o69) 49 (fun x71 => ⟨[(1, lstOf .frozen (a1 : (List T_api_Step))), (2, .ref 2 0), (5, lstOf (.own 100005) (x71 : (List Int))), (6, .int .i64 x40)], [(2, .cells (cellsOf a0))], [(100005, (((x71).map cellsOf).length, 1))], []⟩) ?_ ?_
      · refine pwp_block (pwp_seq ?_)
        refine r_regd (by kernel_rfl) (by kernel_rfl) ?_
        refine p_run 3 (by kernel_rfl) ?_
        obtain ⟨x72, h70, h69⟩ := o_bind h69
        refine p_ix h70 (by kernel_rfl) ?_
        refine p_run 2 (by kernel_rfl) ?_
        obtain ⟨r73, h71, h69⟩ := o_bind h69
        refine p_call (d_ref09_exists_ok _ _ r73 h71) (by kernel_rfl) (by kernel_rfl) ?_
        obtain ⟨b74, h72, h69⟩ := o_bind h69
        refine p_run 1 (by kernel_rfl) ?_
        refine e_seg 14 34 (.bool b74) ?_ ?_
        · rcases o_cond h72 with ⟨hb, h72⟩ | ⟨hb, h72⟩
          · refine p_settle 20 hb (by kernel_rfl) (by kernel_rfl) ?_
            refine p_run 5 (by kernel_rfl) ?_
            obtain ⟨x75, h73, h72⟩ := o_bind h72
            refine p_ix h73 (by kernel_rfl) ?_
            refine p_run 2 (by kernel_rfl) ?_
            obtain ⟨x76, h74, h72⟩ := o_bind h72
            refine p_ix h74 (by kernel_rfl) ?_
            refine p_run 2 (by kernel_rfl) ?_
            obtain ⟨r77, h75, h72⟩ := o_bind h72
            refine p_call (d_ref09_has_ok _ _ r77 h75) (by kernel_rfl) (by kernel_rfl) ?_
            cases h72
            exact f_end (by kernel_rfl) (by kernel_rfl)
          refine p_settle 20 hb (by kernel_rfl) (by kernel_rfl) ?_
          cases h72
          exact f_end (by kernel_rfl) (by kernel_rfl)
        refine e_nil (by kernel_rfl) ?_
        refine q_next ?_
        rcases o_cond h69 with ⟨hb, h69⟩ | ⟨hb, h69⟩
        · refine r_cond_t hb (by kernel_rfl) ?_
          refine r_regd (by kernel_rfl) (by kernel_rfl) ?_
          refine p_run 5 (by kernel_rfl) ?_
          obtain ⟨x78, h76, h69⟩ := o_bind h69
          refine p_ix h76 (by kernel_rfl) ?_
          refine p_run 2 (by kernel_rfl) ?_
          obtain ⟨x79, h77, h69⟩ := o_bind h69
          refine p_ix h77 (by kernel_rfl) ?_
          refine p_run 3 (by kernel_rfl) ?_
          obtain ⟨x80, h78, h69⟩ := o_bind h69
          refine p_app (tk := 100005) h78 (by kernel_rfl) (by kernel_rfl) ?_
          refine e_end (by kernel_rfl) ?_
          refine q_block ?_
          cases h69
          exact q_join (by kernel_rfl) (by kernel_rfl)
        refine r_cond_f hb (by kernel_rfl) ?_
        refine pwp_skip (q_block ?_)
        cases h69
        exact q_join (by kernel_rfl) (by kernel_rfl)
      rintro x71 rfl
      have h58 := o_outl h58
      refine r_reg ?_
      refine e_end (by kernel_rfl) ?_
      cases h58
      exact q_lback (by kernel_rfl)
    refine r_cond_f hb (by kernel_rfl) ?_
    refine pwp_exit (q_seq_exit ?_)
    cases h58
    exact q_lexit (by kernel_rfl) (by kernel_rfl)
  rintro x61 s' rfl hs
  have h := o_outl h
  refine q_block_hit ?_
  refine q_next (pwp_wkr hs ?_)
  refine pwp_seq (r_reg ?_)
  refine e_end (by kernel_rfl) ?_
  refine q_next (pwp_ret ?_)
  cases h
  exact q_ret (by kernel_rfl) (by kernel_rfl) (by kernel_rfl)
theorem d_ref09_Sections_fz (a0 : T_api_Layout) (a1 : (List T_api_Step)) (r : (List Int)) (h : d_ref09_Sections a0 a1 = some r) : PCall Go.Proofs.Tryd.prog GlS 43 [Enc.pv a0, Enc.pv a1] (Enc.pv r) :=
  (d_ref09_Sections_ok a0 a1 r h).freeze (by kernel_rfl) (by kernel_rfl) (by kernel_rfl)

noncomputable def d_ref12_Fits_0 (a0 : T_api_Layout) (a2 : (List T_api_Step)) : (Int × Int) → Option ((Int × Int) ⊕ (Int ⊕ Bool)) := fun (x17, x18) =>
  bif decide (x18 < ((a2.length : Nat) : Int)) then (
    onInl (α := Int) (β := ((Int × Int) ⊕ (Int ⊕ Bool))) (
      (ixO a2 x18).bind fun x34 =>
      (d_ref07_Section a0 x34.El).bind fun r35 =>
      (ixO a2 (w64 (x18 - 1))).bind fun x36 =>
      (d_ref07_Section a0 x36.El).bind fun r37 =>
      bif (!(decide (r35 = r37))) then (
        some (.inl (w64 (x17 + 1)))
      ) else (
        some (.inl x17)
      )
    ) fun x33 =>
    some (.inl (x33, w64 (x18 + 1)))
  ) else (
    some (.inr (.inl x17))
  )

noncomputable def d_ref12_Fits (a0 : T_api_Layout) (a1 : T_api_End) (a2 : (List T_api_Step)) : Option Bool :=
  ((bif decide (((a2.length : Nat) : Int) = 0) then some true else (
    some (decide (12 < ((a2.length : Nat) : Int)))
  )) : Option Bool).bind fun b1 =>
  ((bif b1 then some true else (
    (ixO a2 0).bind fun x3 =>
    some (!(decide (x3.El = a1.El)))
  )) : Option Bool).bind fun b2 =>
  ((bif b2 then some true else (
    (ixO a2 0).bind fun x5 =>
    some (!(decide (x5.In = a1.Side)))
  )) : Option Bool).bind fun b4 =>
  ((bif b4 then some true else (
    (d_ref09_Valid a0 a2).bind fun r7 =>
    some (!r7)
  )) : Option Bool).bind fun b6 =>
  bif b6 then (
    some false
  ) else (
    onInl (α := Int) (β := Bool) (loopO (d_ref12_Fits_0 a0 a2) (1, 1)) fun x28 =>
    (d_ref09_Sections a0 a2).bind fun r38 =>
    some (decide (x28 = ((r38.length : Nat) : Int)))
  )
theorem d_ref12_Fits_ok (a0 : T_api_Layout) (a1 : T_api_End) (a2 : (List T_api_Step)) (r : Bool) (h : d_ref12_Fits a0 a1 a2 = some r) : PCall Go.Proofs.Tryd.prog GlS 69 [Enc.pv a0, Enc.pv a1, Enc.pv a2] (Enc.pv r) := by
  unfold d_ref12_Fits at h
  refine pcall_of_pwp Go.Proofs.Tryd.func69 (by rfl) rfl Go.Proofs.Tryd.ntmps69 (by rfl) rfl ?_
  refine pwp_seq (r_reg ?_)
  refine e_end (by kernel_rfl) ?_
  refine q_next (pwp_seq (pwp_seq ?_))
  refine r_regd (by kernel_rfl) (by kernel_rfl) ?_
  refine p_run 1 (by kernel_rfl) ?_
  refine p_len (L := (a2 : (List T_api_Step))) (by kernel_rfl) ?_
  obtain ⟨b1, h1, h⟩ := o_bind h
  refine p_run 2 (by kernel_rfl) ?_
  refine e_seg 4 16 (.bool b1) ?_ ?_
  · rcases o_cond h1 with ⟨hb, h1⟩ | ⟨hb, h1⟩
    · refine p_settle 12 hb (by kernel_rfl) (by kernel_rfl) ?_
      cases h1
      exact f_end (by kernel_rfl) (by kernel_rfl)
    refine p_settle 12 hb (by kernel_rfl) (by kernel_rfl) ?_
    refine p_run 1 (by kernel_rfl) ?_
    refine p_len (L := (a2 : (List T_api_Step))) (by kernel_rfl) ?_
    cases h1
    exact f_end (by kernel_rfl) (by kernel_rfl)
  obtain ⟨b2, h2, h⟩ := o_bind h
  refine p_run 1 (by kernel_rfl) ?_
  refine e_seg 8 25 (.bool b2) ?_ ?_
  · rcases o_cond h2 with ⟨hb, h2⟩ | ⟨hb, h2⟩
    · refine p_settle 17 hb (by kernel_rfl) (by kernel_rfl) ?_
      cases h2
      exact f_end (by kernel_rfl) (by kernel_rfl)
    refine p_settle 17 hb (by kernel_rfl) (by kernel_rfl) ?_
    refine p_run 1 (by kernel_rfl) ?_
    obtain ⟨x3, h3, h2⟩ := o_bind h2
    refine p_ix h3 (by kernel_rfl) ?_
    cases h2
    exact f_end (by kernel_rfl) (by kernel_rfl)
  obtain ⟨b4, h4, h⟩ := o_bind h
  refine p_run 1 (by kernel_rfl) ?_
  refine e_seg 8 34 (.bool b4) ?_ ?_
  · rcases o_cond h4 with ⟨hb, h4⟩ | ⟨hb, h4⟩
    · refine p_settle 26 hb (by kernel_rfl) (by kernel_rfl) ?_
      cases h4
      exact f_end (by kernel_rfl) (by kernel_rfl)
    refine p_settle 26 hb (by kernel_rfl) (by kernel_rfl) ?_
    refine p_run 1 (by kernel_rfl) ?_
    obtain ⟨x5, h5, h4⟩ := o_bind h4
    refine p_ix h5 (by kernel_rfl) ?_
    cases h4
    exact f_end (by kernel_rfl) (by kernel_rfl)
  obtain ⟨b6, h6, h⟩ := o_bind h
  refine p_run 1 (by kernel_rfl) ?_
  refine e_seg 5 40 (.bool b6) ?_ ?_
  · rcases o_cond h6 with ⟨hb, h6⟩ | ⟨hb, h6⟩
    · refine p_settle 35 hb (by kernel_rfl) (by kernel_rfl) ?_
      cases h6
      exact f_end (by kernel_rfl) (by kernel_rfl)
    refine p_settle 35 hb (by kernel_rfl) (by kernel_rfl) ?_
    refine p_run 2 (by kernel_rfl) ?_
    obtain ⟨r7, h7, h6⟩ := o_bind h6
    refine p_call (d_ref09_Valid_ok _ _ r7 h7) (by kernel_rfl) (by kernel_rfl) ?_
    cases h6
    exact f_end (by kernel_rfl) (by kernel_rfl)
  refine e_nil (by kernel_rfl) ?_
  refine q_next ?_
  rcases o_cond h with ⟨hb, h⟩ | ⟨hb, h⟩
  · refine r_cond_t hb (by kernel_rfl) ?_
    refine pwp_seq (r_reg ?_)
    refine e_end (by kernel_rfl) ?_
    refine q_next (pwp_ret (q_seq_ret ?_))
    cases h
    exact q_ret (by kernel_rfl) (by kernel_rfl) (by kernel_rfl)
  refine r_cond_f hb (by kernel_rfl) ?_
  refine pwp_skip (q_next (pwp_seq (r_reg ?_)))
  refine e_end (by kernel_rfl) ?_
  refine q_next (pwp_seq (pwp_seq (r_reg ?_)))
  refine e_end (by kernel_rfl) ?_
  refine q_next (pwp_block ?_)
  obtain ⟨o27, h27, h⟩ := o_inl h
  refine r_loop2 71 0 (fun (x17, x18) => ⟨[(2, lstOf .frozen (a2 : (List T_api_Step))), (3, .ref 3 0), (7, .int .i64 x17), (8, .int .i64 x18)], [(3, .cells (cellsOf a0))], [], []⟩) (fun x28 => ⟨[(2, lstOf .frozen (a2 : (List T_api_Step))), (3, .ref 3 0), (7, .int .i64 x28)], [(3, .cells (cellsOf a0))], [], []⟩) h27 (by kernel_rfl) (fun _ => by kernel_rfl) ?_ ?_
  · rintro ⟨x17, x18⟩ oh26 h26
    unfold d_ref12_Fits_0 at h26
    refine pwp_seq (pwp_seq (r_reg ?_))
    refine p_run 2 (by kernel_rfl) ?_
    refine p_len (L := (a2 : (List T_api_Step))) (by kernel_rfl) ?_
    refine e_end (by kernel_rfl) ?_
    refine q_next ?_
    rcases o_cond h26 with ⟨hb, h26⟩ | ⟨hb, h26⟩
    · refine r_cond_t hb (by kernel_rfl) ?_
      refine pwp_skip (q_next ?_)
      obtain ⟨o32, h32, h26⟩ := o_inl h26
      refine r_join (o := o32) 71 (fun x33 => ⟨[(2, lstOf .frozen (a2 : (List T_api_Step))), (3, .ref 3 0), (7, .int .i64 x33), (8, .int .i64 x18)], [(3, .cells (cellsOf a0))], [], []⟩) ?_ ?_
      · refine pwp_block (pwp_seq ?_)
        refine r_regd (by kernel_rfl) (by kernel_rfl) ?_
        refine p_run 3 (by kernel_rfl) ?_
        obtain ⟨x34, h33, h32⟩ := o_bind h32
        refine p_ix h33 (by kernel_rfl) ?_
        refine p_run 2 (by kernel_rfl) ?_
        obtain ⟨r35, h34, h32⟩ := o_bind h32
        refine p_call (d_ref07_Section_ok _ _ r35 h34) (by kernel_rfl) (by kernel_rfl) ?_
        refine p_run 4 (by kernel_rfl) ?_
        obtain ⟨x36, h35, h32⟩ := o_bind h32
        refine p_ix h35 (by kernel_rfl) ?_
        refine p_run 2 (by kernel_rfl) ?_
        obtain ⟨r37, h36, h32⟩ := o_bind h32
        refine p_call (d_ref07_Section_ok _ _ r37 h36) (by kernel_rfl) (by kernel_rfl) ?_
        refine e_end (by kernel_rfl) ?_
        refine q_next ?_
        rcases o_cond h32 with ⟨hb, h32⟩ | ⟨hb, h32⟩
        · refine r_cond_t hb (by kernel_rfl) ?_
          refine r_reg ?_
          refine e_end (by kernel_rfl) ?_
          refine q_block ?_
          cases h32
          exact q_join (by kernel_rfl) (by kernel_rfl)
        refine r_cond_f hb (by kernel_rfl) ?_
        refine pwp_skip (q_block ?_)
        cases h32
        exact q_join (by kernel_rfl) (by kernel_rfl)
      rintro x33 rfl
      have h26 := o_outl h26
      refine r_reg ?_
      refine e_end (by kernel_rfl) ?_
      cases h26
      exact q_lback (by kernel_rfl)
    refine r_cond_f hb (by kernel_rfl) ?_
    refine pwp_exit (q_seq_exit ?_)
    cases h26
    exact q_lexit (by kernel_rfl) (by kernel_rfl)
  rintro x28 s' rfl hs
  have h := o_outl h
  refine q_block_hit ?_
  refine q_next (pwp_wkr hs ?_)
  refine pwp_seq (r_reg ?_)
  refine p_run 3 (by kernel_rfl) ?_
  obtain ⟨r38, h37, h⟩ := o_bind h
  refine p_call (d_ref09_Sections_ok _ _ r38 h37) (by kernel_rfl) (by kernel_rfl) ?_
  refine p_len (L := (r38 : (List Int))) (by kernel_rfl) ?_
  refine e_end (by kernel_rfl) ?_
  refine q_next (pwp_ret ?_)
  cases h
  exact q_ret (by kernel_rfl) (by kernel_rfl) (by kernel_rfl)

noncomputable def d_ref07_Signal_0 (a0 : T_api_Layout) (a1 : T_api_End) : Int → Option (Int ⊕ (Unit ⊕ Int)) := fun x2 =>
  bif decide (x2 < ((a0.Signals.length : Nat) : Int)) then (
    (ixO a0.Signals x2).bind fun x4 =>
    bif eq_T_api_End x4.At a1 then (
      some (.inr (.inr x2))
    ) else (
      some (.inl (w64 (x2 + 1)))
    )
  ) else (
    some (.inr (.inl ()))
  )

noncomputable def d_ref07_Signal (a0 : T_api_Layout) (a1 : T_api_End) : Option Int :=
  onInl (α := Unit) (β := Int) (loopO (d_ref07_Signal_0 a0 a1) 0) fun _ =>
  some (-1)
theorem d_ref07_Signal_ok (a0 : T_api_Layout) (a1 : T_api_End) (r : Int) (h : d_ref07_Signal a0 a1 = some r) : PCall Go.Proofs.Tryd.prog GlS 70 [Enc.pv a0, Enc.pv a1] (Enc.pv r) := by
  unfold d_ref07_Signal at h
  refine pcall_of_pwp Go.Proofs.Tryd.func70 (by rfl) rfl Go.Proofs.Tryd.ntmps70 (by rfl) rfl ?_
  refine pwp_seq (r_reg ?_)
  refine e_end (by kernel_rfl) ?_
  refine q_next (pwp_seq (pwp_seq (r_reg ?_)))
  refine p_run 2 (by kernel_rfl) ?_
  refine p_len (L := (a0.Signals : (List T_api_Signal))) (by kernel_rfl) ?_
  refine e_end (by kernel_rfl) ?_
  refine q_next (pwp_block ?_)
  obtain ⟨o6, h6, h⟩ := o_inl h
  refine r_loop2 21 0 (fun x2 => ⟨[(3, .ref 3 0), (8, lstOf .frozen (a0.Signals : (List T_api_Signal))), (9, .int .i64 ((a0.Signals.length : Nat) : Int)), (10, .int .i64 x2)], [(3, .cells (cellsOf a1))], [], []⟩) (fun (_ : Unit) => ⟨[], [], [], []⟩) h6 (by kernel_rfl) (fun _ => by kernel_rfl) ?_ ?_
  · rintro x2 oh5 h5
    unfold d_ref07_Signal_0 at h5
    refine pwp_seq (r_reg ?_)
    refine e_end (by kernel_rfl) ?_
    refine q_next (pwp_seq ?_)
    rcases o_cond h5 with ⟨hb, h5⟩ | ⟨hb, h5⟩
    · refine r_cond_t hb (by kernel_rfl) ?_
      refine pwp_skip (q_next (pwp_seq (pwp_block (pwp_seq (r_reg ?_)))))
      refine p_run 1 (by kernel_rfl) ?_
      obtain ⟨x4, h7, h5⟩ := o_bind h5
      refine p_ix h7 (by kernel_rfl) ?_
      refine e_end (by kernel_rfl) ?_
      refine q_next (pwp_seq (r_reg ?_))
      refine e_end (by kernel_rfl) ?_
      refine q_next ?_
      rcases o_cond h5 with ⟨hb, h5⟩ | ⟨hb, h5⟩
      · refine r_cond_t hb (by kernel_rfl) ?_
        refine pwp_seq (r_reg ?_)
        refine e_end (by kernel_rfl) ?_
        refine q_next (pwp_ret (q_block_ret (q_seq_ret ?_)))
        cases h5
        refine q_lout_ret fun he => ?_
        subst he
        have h8 := o_outr h
        refine q_block_ret (q_seq_ret ?_)
        cases h8
        exact q_ret (by kernel_rfl) (by kernel_rfl) (by kernel_rfl)
      refine r_cond_f hb (by kernel_rfl) ?_
      refine pwp_skip (q_block (q_next (r_reg ?_)))
      refine e_end (by kernel_rfl) ?_
      cases h5
      exact q_lback (by kernel_rfl)
    refine r_cond_f hb (by kernel_rfl) ?_
    refine pwp_exit (q_seq_exit ?_)
    cases h5
    exact q_lexit (by kernel_rfl) (by kernel_rfl)
  rintro _ s' rfl hs
  have h := o_outl h
  refine q_block_hit ?_
  refine q_next (pwp_wkr hs ?_)
  refine pwp_seq (r_reg ?_)
  refine e_end (by kernel_rfl) ?_
  refine q_next (pwp_ret ?_)
  cases h
  exact q_ret (by kernel_rfl) (by kernel_rfl) (by kernel_rfl)

noncomputable def d_ref12_Ends (a0 : T_api_Layout) (a1 : T_api_Step) : Option (Int × Bool) :=
  (d_ref07_Signal a0 (T_api_End.mk a1.El a1.Out)).bind fun r1 =>
  (d_ref09_Next a0 a1).bind fun r2 =>
  some (r1, ((decide (0 ≤ r1)) || (!r2.2)))
theorem d_ref12_Ends_ok (a0 : T_api_Layout) (a1 : T_api_Step) (r : (Int × Bool)) (h : d_ref12_Ends a0 a1 = some r) : PCall Go.Proofs.Tryd.prog GlS 40 [Enc.pv a0, Enc.pv a1] (.tup [Enc.pv r.1, Enc.pv r.2]) := by
  unfold d_ref12_Ends at h
  refine pcall_of_pwp Go.Proofs.Tryd.func40 (by rfl) rfl Go.Proofs.Tryd.ntmps40 (by rfl) rfl ?_
  refine pwp_seq (r_reg ?_)
  refine e_end (by kernel_rfl) ?_
  refine q_next (pwp_seq (r_reg ?_))
  refine p_run 6 (by kernel_rfl) ?_
  obtain ⟨r1, h1, h⟩ := o_bind h
  refine p_call (d_ref07_Signal_ok _ _ r1 h1) (by kernel_rfl) (by kernel_rfl) ?_
  refine e_end (by kernel_rfl) ?_
  refine q_next (pwp_seq (r_reg ?_))
  refine p_run 2 (by kernel_rfl) ?_
  obtain ⟨r2, h2, h⟩ := o_bind h
  refine p_call (d_ref09_Next_ok _ _ r2 h2) (by kernel_rfl) (by kernel_rfl) ?_
  refine e_end (by kernel_rfl) ?_
  refine q_next (pwp_seq (r_reg ?_))
  refine p_run 4 (by kernel_rfl) ?_
  refine e_segb 3 28 ((decide (0 ≤ r1)) || (!r2.2)) (fun x hx => ?_) ?_
  · rcases b_or hx with ⟨hb, hx⟩ | ⟨hb, hx⟩
    · refine p_settle 25 hb (by kernel_rfl) (by kernel_rfl) ?_
      subst hx
      exact f_end (by kernel_rfl) (by kernel_rfl)
    refine p_settle 25 hb (by kernel_rfl) (by kernel_rfl) ?_
    subst hx
    exact f_end (by kernel_rfl) (by kernel_rfl)
  refine e_end (by kernel_rfl) ?_
  refine q_next (pwp_ret ?_)
  cases h
  exact q_ret (by kernel_rfl) (by kernel_rfl) (by kernel_rfl)

noncomputable def d_ref12_Paths_search_0 (rc_d_ref12_Paths_search : T_signallingref12_Paths → T_api_Layout → T_api_End → T_api_End → (List T_api_Step) → Option T_signallingref12_Paths) (a1 : T_api_Layout) (a2 : T_api_End) (a4 : (List T_api_Step)) (r1 : (List T_api_Step)) : (Int × (List (List T_api_Step))) → Option ((Int × (List (List T_api_Step))) ⊕ ((List (List T_api_Step)) ⊕ T_signallingref12_Paths)) := fun (x23, x24) =>
  bif decide (x23 < ((r1.length : Nat) : Int)) then (
    onInl (α := (List (List T_api_Step))) (β := ((Int × (List (List T_api_Step))) ⊕ ((List (List T_api_Step)) ⊕ T_signallingref12_Paths))) (
      (appO ([] : (List T_api_Step)) a4).bind fun x58 =>
      (ixO r1 x23).bind fun x59 =>
      (appO x58 [x59]).bind fun x60 =>
      (d_ref12_Fits a1 a2 x60).bind fun r61 =>
      bif (!r61) then (
        some (.inl x24)
      ) else (
        (ixO r1 x23).bind fun x62 =>
        (d_ref12_Ends a1 x62).bind fun r63 =>
        bif r63.2 then (
          (appO x24 [x60]).bind fun x64 =>
          some (.inl x64)
        ) else (
          (ixO r1 x23).bind fun x65 =>
          (d_ref09_Next a1 x65).bind fun r66 =>
          (rc_d_ref12_Paths_search (T_signallingref12_Paths.mk x24) a1 a2 r66.1 x60).bind fun r67 =>
          some (.inl r67.L)
        )
      )
    ) fun x57 =>
    some (.inl (w64 (x23 + 1), x57))
  ) else (
    some (.inr (.inl x24))
  )

noncomputable def d_ref12_Paths_search_F (rc_d_ref12_Paths_search : T_signallingref12_Paths → T_api_Layout → T_api_End → T_api_End → (List T_api_Step) → Option T_signallingref12_Paths) (a0 : T_signallingref12_Paths) (a1 : T_api_Layout) (a2 : T_api_End) (a3 : T_api_End) (a4 : (List T_api_Step)) : Option T_signallingref12_Paths :=
  (d_ref09_Branches a1 a3).bind fun r1 =>
  onInl (α := (List (List T_api_Step))) (β := T_signallingref12_Paths) (loopO (d_ref12_Paths_search_0 rc_d_ref12_Paths_search a1 a2 a4 r1) (0, a0.L)) fun x46 =>
  some (T_signallingref12_Paths.mk x46)
theorem d_ref12_Paths_search_F_oc (rc_d_ref12_Paths_search : T_signallingref12_Paths → T_api_Layout → T_api_End → T_api_End → (List T_api_Step) → Option T_signallingref12_Paths) (hrc_d_ref12_Paths_search : ∀ (a0 : T_signallingref12_Paths) (a1 : T_api_Layout) (a2 : T_api_End) (a3 : T_api_End) (a4 : (List T_api_Step)) (r : T_signallingref12_Paths), rc_d_ref12_Paths_search a0 a1 a2 a3 a4 = some r → OCall Go.Proofs.Tryd.prog GlS 39 (some (.cells [.ex 1000000000 1 24 (((a0.L : (List (List T_api_Step))).map cellsOf).length) 0 (((a0.L : (List (List T_api_Step))).map cellsOf).length)])) [(1, 24, (a0.L : (List (List T_api_Step))).map cellsOf)] [.ref 1000000 0, Enc.pv a1, Enc.pv a2, Enc.pv a3, Enc.pv a4] (.tup []) (some (.cells [.ex 1000000000 1 24 (((r.L : (List (List T_api_Step))).map cellsOf).length) 0 (((r.L : (List (List T_api_Step))).map cellsOf).length)])) [(1, 24, (r.L : (List (List T_api_Step))).map cellsOf)]) (a0 : T_signallingref12_Paths) (a1 : T_api_Layout) (a2 : T_api_End) (a3 : T_api_End) (a4 : (List T_api_Step)) (r : T_signallingref12_Paths) (h : d_ref12_Paths_search_F rc_d_ref12_Paths_search a0 a1 a2 a3 a4 = some r) : OCall Go.Proofs.Tryd.prog GlS 39 (some (.cells [.ex 1000000000 1 24 (((a0.L : (List (List T_api_Step))).map cellsOf).length) 0 (((a0.L : (List (List T_api_Step))).map cellsOf).length)])) [(1, 24, (a0.L : (List (List T_api_Step))).map cellsOf)] [.ref 1000000 0, Enc.pv a1, Enc.pv a2, Enc.pv a3, Enc.pv a4] (.tup []) (some (.cells [.ex 1000000000 1 24 (((r.L : (List (List T_api_Step))).map cellsOf).length) 0 (((r.L : (List (List T_api_Step))).map cellsOf).length)])) [(1, 24, (r.L : (List (List T_api_Step))).map cellsOf)] := by
  unfold d_ref12_Paths_search_F at h
  refine ocall_of_pwp Go.Proofs.Tryd.func39 (by rfl) rfl Go.Proofs.Tryd.ntmps39 (by rfl) rfl rfl (of_decide_eq_true rfl) (by kernel_rfl) ?_
  refine pwp_seq (r_reg ?_)
  refine e_end (by kernel_rfl) ?_
  refine q_next (pwp_seq (r_reg ?_))
  refine p_run 2 (by kernel_rfl) ?_
  obtain ⟨r1, h1, h⟩ := o_bind h
  refine p_call (d_ref09_Branches_ok _ _ r1 h1) (by kernel_rfl) (by kernel_rfl) ?_
  refine e_end (by kernel_rfl) ?_
  refine q_next (pwp_seq (r_reg ?_))
  refine e_end (by kernel_rfl) ?_
  refine q_next (pwp_block ?_)
  obtain ⟨o45, h45, h⟩ := o_inl h
  refine r_loop2 76 0 (fun (x23, x24) => ⟨[(0, .ref 1000000 0), (4, lstOf .frozen (a4 : (List T_api_Step))), (6, .ref 6 0), (7, .ref 7 0), (10, lstOf (.own 119006) (r1 : (List T_api_Step))), (11, .int .i64 x23)], [(6, .cells (cellsOf a1)), (7, .cells (cellsOf a2)), (1000000, .cells ([.ex 1000000000 1 24 (((x24 : (List (List T_api_Step))).map cellsOf).length) 0 (((x24 : (List (List T_api_Step))).map cellsOf).length)]))], [(119006, (((r1).map cellsOf).length, 3)), (1000000000, (((x24 : (List (List T_api_Step))).map cellsOf).length, 0))], [(1000000000, (1, (24, (x24 : (List (List T_api_Step))).map cellsOf)))]⟩) (fun x46 => ⟨[], [(1000000, .cells ([.ex 1000000000 1 24 (((x46 : (List (List T_api_Step))).map cellsOf).length) 0 (((x46 : (List (List T_api_Step))).map cellsOf).length)]))], [(1000000000, (((x46 : (List (List T_api_Step))).map cellsOf).length, 0))], [(1000000000, (1, (24, (x46 : (List (List T_api_Step))).map cellsOf)))]⟩) h45 (by kernel_rfl) (fun _ => by kernel_rfl) ?_ ?_
  · rintro ⟨x23, x24⟩ oh44 h44
    unfold d_ref12_Paths_search_0 at h44
    refine pwp_seq (pwp_seq (r_reg ?_))
    refine p_run 2 (by kernel_rfl) ?_
    refine p_len (L := (r1 : (List T_api_Step))) (by kernel_rfl) ?_
    refine e_end (by kernel_rfl) ?_
    refine q_next ?_
    rcases o_cond h44 with ⟨hb, h44⟩ | ⟨hb, h44⟩
    · refine r_cond_t hb (by kernel_rfl) ?_
      refine pwp_skip (q_next ?_)
      obtain ⟨o56, h56, h44⟩ := o_inl h44
      refine r_join (o := o56) 76 (fun x57 => ⟨[(0, .ref 1000000 0), (4, lstOf .frozen (a4 : (List T_api_Step))), (6, .ref 6 0), (7, .ref 7 0), (10, lstOf (.own 119006) (r1 : (List T_api_Step))), (11, .int .i64 x23)], [(6, .cells (cellsOf a1)), (7, .cells (cellsOf a2)), (1000000, .cells ([.ex 1000000000 1 24 (((x57 : (List (List T_api_Step))).map cellsOf).length) 0 (((x57 : (List (List T_api_Step))).map cellsOf).length)]))], [(119006, (((r1).map cellsOf).length, 3)), (1000000000, (((x57 : (List (List T_api_Step))).map cellsOf).length, 0))], [(1000000000, (1, (24, (x57 : (List (List T_api_Step))).map cellsOf)))]⟩) ?_ ?_
      · refine pwp_block (pwp_seq (r_reg ?_))
        refine e_end (by kernel_rfl) ?_
        refine q_next (pwp_seq (r_reg ?_))
        refine p_run 2 (by kernel_rfl) ?_
        obtain ⟨x58, h57, h56⟩ := o_bind h56
        refine p_appn (tk := 28) h57 (by kernel_rfl) ?_
        refine e_end (by kernel_rfl) ?_
        refine q_next (pwp_seq (r_reg ?_))
        refine p_run 3 (by kernel_rfl) ?_
        obtain ⟨x59, h58, h56⟩ := o_bind h56
        refine p_ix h58 (by kernel_rfl) ?_
        refine p_run 2 (by kernel_rfl) ?_
        obtain ⟨x60, h59, h56⟩ := o_bind h56
        refine p_app (tk := 28) h59 (by kernel_rfl) (by kernel_rfl) ?_
        refine e_end (by kernel_rfl) ?_
        refine q_next (pwp_seq (pwp_seq (r_reg ?_)))
        refine p_run 3 (by kernel_rfl) ?_
        obtain ⟨r61, h60, h56⟩ := o_bind h56
        refine p_call (d_ref12_Fits_ok _ _ _ r61 h60) (by kernel_rfl) (by kernel_rfl) ?_
        refine e_end (by kernel_rfl) ?_
        refine q_next ?_
        rcases o_cond h56 with ⟨hb, h56⟩ | ⟨hb, h56⟩
        · refine r_cond_t hb (by kernel_rfl) ?_
          refine pwp_exit (q_seq_exit (q_block_hit ?_))
          cases h56
          exact q_join (by kernel_rfl) (by kernel_rfl)
        refine r_cond_f hb (by kernel_rfl) ?_
        refine pwp_skip (q_next (pwp_seq ?_))
        refine r_regd (by kernel_rfl) (by kernel_rfl) ?_
        refine p_run 3 (by kernel_rfl) ?_
        obtain ⟨x62, h61, h56⟩ := o_bind h56
        refine p_ix h61 (by kernel_rfl) ?_
        refine p_run 1 (by kernel_rfl) ?_
        obtain ⟨r63, h62, h56⟩ := o_bind h56
        refine p_call (d_ref12_Ends_ok _ _ r63 h62) (by kernel_rfl) (by kernel_rfl) ?_
        refine e_end (by kernel_rfl) ?_
        refine q_next (pwp_seq (pwp_seq (r_reg ?_)))
        refine e_end (by kernel_rfl) ?_
        refine q_next ?_
        rcases o_cond h56 with ⟨hb, h56⟩ | ⟨hb, h56⟩
        · refine r_cond_t hb (by kernel_rfl) ?_
          refine pwp_seq (r_reg ?_)
          refine p_run 7 (by kernel_rfl) ?_
          obtain ⟨x64, h63, h56⟩ := o_bind h56
          refine p_xapp (tk := 1000000000) (N := ((x24 : (List (List T_api_Step))).map cellsOf).length) h63 (by kernel_rfl) (by kernel_rfl) (by kernel_rfl) ?_
          refine e_end (by kernel_rfl) ?_
          refine q_next (pwp_exit (q_seq_exit (q_block_hit ?_)))
          cases h56
          exact q_join (by kernel_rfl) (by kernel_rfl)
        refine r_cond_f hb (by kernel_rfl) ?_
        refine pwp_skip (q_next (pwp_seq ?_))
        refine r_regd (by kernel_rfl) (by kernel_rfl) ?_
        refine p_run 3 (by kernel_rfl) ?_
        obtain ⟨x65, h64, h56⟩ := o_bind h56
        refine p_ix h64 (by kernel_rfl) ?_
        refine p_run 1 (by kernel_rfl) ?_
        obtain ⟨r66, h65, h56⟩ := o_bind h56
        refine p_call (d_ref09_Next_ok _ _ r66 h65) (by kernel_rfl) (by kernel_rfl) ?_
        refine e_end (by kernel_rfl) ?_
        refine q_next (r_reg ?_)
        refine p_run 5 (by kernel_rfl) ?_
        obtain ⟨r67, h66, h56⟩ := o_bind h56
        refine p_ocall (some 1000000) [1000000000] [] none (hrc_d_ref12_Paths_search _ _ _ _ _ r67 h66) (by kernel_rfl) (by kernel_rfl) (by kernel_rfl) (by kernel_rfl) (by kernel_rfl) ?_
        refine e_nil (by kernel_rfl) ?_
        refine q_block ?_
        cases h56
        exact q_join (by kernel_rfl) (by kernel_rfl)
      rintro x57 rfl
      have h44 := o_outl h44
      refine r_reg ?_
      refine e_end (by kernel_rfl) ?_
      cases h44
      exact q_lback (by kernel_rfl)
    refine r_cond_f hb (by kernel_rfl) ?_
    refine pwp_exit (q_seq_exit ?_)
    cases h44
    exact q_lexit (by kernel_rfl) (by kernel_rfl)
  rintro x46 s' rfl hs
  have h := o_outl h
  refine q_block_hit ?_
  cases h
  exact q_oret_w hs (by kernel_rfl) (by kernel_rfl) (by kernel_rfl)
noncomputable def d_ref12_Paths_search_N (n : Nat) : T_signallingref12_Paths → T_api_Layout → T_api_End → T_api_End → (List T_api_Step) → Option T_signallingref12_Paths := Nat.rec (fun _ _ _ _ _ => none) (fun _ ih => d_ref12_Paths_search_F ih) n
theorem d_ref12_Paths_search_N_oc : ∀ (n : Nat) (a0 : T_signallingref12_Paths) (a1 : T_api_Layout) (a2 : T_api_End) (a3 : T_api_End) (a4 : (List T_api_Step)) (r : T_signallingref12_Paths), d_ref12_Paths_search_N n a0 a1 a2 a3 a4 = some r → OCall Go.Proofs.Tryd.prog GlS 39 (some (.cells [.ex 1000000000 1 24 (((a0.L : (List (List T_api_Step))).map cellsOf).length) 0 (((a0.L : (List (List T_api_Step))).map cellsOf).length)])) [(1, 24, (a0.L : (List (List T_api_Step))).map cellsOf)] [.ref 1000000 0, Enc.pv a1, Enc.pv a2, Enc.pv a3, Enc.pv a4] (.tup []) (some (.cells [.ex 1000000000 1 24 (((r.L : (List (List T_api_Step))).map cellsOf).length) 0 (((r.L : (List (List T_api_Step))).map cellsOf).length)])) [(1, 24, (r.L : (List (List T_api_Step))).map cellsOf)]
  | 0, _, _, _, _, _, _, h => by cases h
  | n + 1, a0, a1, a2, a3, a4, r, h => d_ref12_Paths_search_F_oc (d_ref12_Paths_search_N n) (d_ref12_Paths_search_N_oc n) a0 a1 a2 a3 a4 r h
noncomputable def d_ref12_Paths_search (a0 : T_signallingref12_Paths) (a1 : T_api_Layout) (a2 : T_api_End) (a3 : T_api_End) (a4 : (List T_api_Step)) : Option T_signallingref12_Paths := d_ref12_Paths_search_F (d_ref12_Paths_search_N recFuel) a0 a1 a2 a3 a4
theorem d_ref12_Paths_search_oc (a0 : T_signallingref12_Paths) (a1 : T_api_Layout) (a2 : T_api_End) (a3 : T_api_End) (a4 : (List T_api_Step)) (r : T_signallingref12_Paths) (h : d_ref12_Paths_search a0 a1 a2 a3 a4 = some r) : OCall Go.Proofs.Tryd.prog GlS 39 (some (.cells [.ex 1000000000 1 24 (((a0.L : (List (List T_api_Step))).map cellsOf).length) 0 (((a0.L : (List (List T_api_Step))).map cellsOf).length)])) [(1, 24, (a0.L : (List (List T_api_Step))).map cellsOf)] [.ref 1000000 0, Enc.pv a1, Enc.pv a2, Enc.pv a3, Enc.pv a4] (.tup []) (some (.cells [.ex 1000000000 1 24 (((r.L : (List (List T_api_Step))).map cellsOf).length) 0 (((r.L : (List (List T_api_Step))).map cellsOf).length)])) [(1, 24, (r.L : (List (List T_api_Step))).map cellsOf)] := d_ref12_Paths_search_F_oc (d_ref12_Paths_search_N recFuel) (d_ref12_Paths_search_N_oc recFuel) a0 a1 a2 a3 a4 r h

noncomputable def d_ref12_text (a0 : T_api_Layout) (a1 : Int) (a2 : Int) : Option ByteArray :=
  bif decide (a2 < 0) then (
    (ixO a0.Signals a1).bind fun x1 =>
    (saddO x1.Name (ByteArray.mk #[45, 101, 110, 100])).bind fun x2 =>
    some x2
  ) else (
    (ixO a0.Signals a1).bind fun x3 =>
    (saddO x3.Name (ByteArray.mk #[45])).bind fun x4 =>
    (ixO a0.Signals a2).bind fun x5 =>
    (saddO x4 x5.Name).bind fun x6 =>
    some x6
  )
theorem d_ref12_text_ok (a0 : T_api_Layout) (a1 : Int) (a2 : Int) (r : ByteArray) (h : d_ref12_text a0 a1 a2 = some r) : PCall Go.Proofs.Tryd.prog GlS 41 [Enc.pv a0, Enc.pv a1, Enc.pv a2] (Enc.pv r) := by
  unfold d_ref12_text at h
  refine pcall_of_pwp Go.Proofs.Tryd.func41 (by rfl) rfl Go.Proofs.Tryd.ntmps41 (by rfl) rfl ?_
  refine pwp_seq (r_reg ?_)
  refine e_end (by kernel_rfl) ?_
  refine q_next (pwp_seq (pwp_seq (r_reg ?_)))
  refine e_end (by kernel_rfl) ?_
  refine q_next ?_
  rcases o_cond h with ⟨hb, h⟩ | ⟨hb, h⟩
  · refine r_cond_t hb (by kernel_rfl) ?_
    refine pwp_seq (r_reg ?_)
    refine p_run 3 (by kernel_rfl) ?_
    obtain ⟨x1, h1, h⟩ := o_bind h
    refine p_ix h1 (by kernel_rfl) ?_
    refine p_run 2 (by kernel_rfl) ?_
    obtain ⟨x2, h2, h⟩ := o_bind h
    refine p_sadd h2 (by kernel_rfl) ?_
    refine e_end (by kernel_rfl) ?_
    refine q_next (pwp_ret (q_seq_ret ?_))
    cases h
    exact q_ret (by kernel_rfl) (by kernel_rfl) (by kernel_rfl)
  refine r_cond_f hb (by kernel_rfl) ?_
  refine pwp_skip (q_next (pwp_seq ?_))
  refine r_regd (by kernel_rfl) (by kernel_rfl) ?_
  refine p_run 3 (by kernel_rfl) ?_
  obtain ⟨x3, h3, h⟩ := o_bind h
  refine p_ix h3 (by kernel_rfl) ?_
  refine p_run 2 (by kernel_rfl) ?_
  obtain ⟨x4, h4, h⟩ := o_bind h
  refine p_sadd h4 (by kernel_rfl) ?_
  refine p_run 3 (by kernel_rfl) ?_
  obtain ⟨x5, h5, h⟩ := o_bind h
  refine p_ix h5 (by kernel_rfl) ?_
  refine p_run 2 (by kernel_rfl) ?_
  obtain ⟨x6, h6, h⟩ := o_bind h
  refine p_sadd h6 (by kernel_rfl) ?_
  refine e_end (by kernel_rfl) ?_
  refine q_next (pwp_ret ?_)
  cases h
  exact q_ret (by kernel_rfl) (by kernel_rfl) (by kernel_rfl)

noncomputable def d_ref09_insert_0 (a0 : (List T_api_Setting)) (a1 : T_api_Setting) : (Int × (List T_api_Setting)) → Option ((Int × (List T_api_Setting)) ⊕ (((List T_api_Setting) × Int) ⊕ (List T_api_Setting))) := fun (x18, x19) =>
  ((bif decide (x18 < ((a0.length : Nat) : Int)) then (
    (ixO a0 x18).bind fun x31 =>
    ((bif decide (x31.El < a1.El) then some true else (
      (ixO a0 x18).bind fun x33 =>
      ((bif decide (x33.El = a1.El) then (
        (ixO a0 x18).bind fun x35 =>
        some (decide (x35.Pos < a1.Pos))
      ) else some false) : Option Bool).bind fun b34 =>
      some b34
    )) : Option Bool).bind fun b32 =>
    some b32
  ) else some false) : Option Bool).bind fun b30 =>
  bif b30 then (
    (ixO a0 x18).bind fun x36 =>
    (appO x19 [x36]).bind fun x37 =>
    some (.inl (w64 (x18 + 1), x37))
  ) else (
    some (.inr (.inl (x19, x18)))
  )

noncomputable def d_ref09_insert (a0 : (List T_api_Setting)) (a1 : T_api_Setting) : Option (List T_api_Setting) :=
  onInl (α := ((List T_api_Setting) × Int)) (β := (List T_api_Setting)) (loopO (d_ref09_insert_0 a0 a1) (0, ([] : (List T_api_Setting)))) fun (x28, x29) =>
  onInl (α := (List T_api_Setting)) (β := (List T_api_Setting)) (
    ((bif decide (x29 = ((a0.length : Nat) : Int)) then some true else (
      (ixO a0 x29).bind fun x43 =>
      some (!(eq_T_api_Setting x43 a1))
    )) : Option Bool).bind fun b42 =>
    bif b42 then (
      (appO x28 [a1]).bind fun x44 =>
      some (.inl x44)
    ) else (
      some (.inl x28)
    )
  ) fun x41 =>
  (slO a0 (some x29) none none).bind fun x45 =>
  (appO x41 x45).bind fun x46 =>
  some x46
theorem d_ref09_insert_ok (a0 : (List T_api_Setting)) (a1 : T_api_Setting) (r : (List T_api_Setting)) (h : d_ref09_insert a0 a1 = some r) : PCall Go.Proofs.Tryd.prog GlS 71 [Enc.pv a0, Enc.pv a1] (lstOf (.own 100005) r) := by
  unfold d_ref09_insert at h
  refine pcall_of_pwp Go.Proofs.Tryd.func71 (by rfl) rfl Go.Proofs.Tryd.ntmps71 (by rfl) rfl ?_
  refine pwp_seq (r_reg ?_)
  refine e_end (by kernel_rfl) ?_
  refine q_next (pwp_seq (r_reg ?_))
  refine e_end (by kernel_rfl) ?_
  refine q_next (pwp_seq (r_reg ?_))
  refine e_end (by kernel_rfl) ?_
  refine q_next (pwp_seq (pwp_block ?_))
  refine g_nil 5 100005 2 16 (by kernel_rfl) (by kernel_rfl) ?_
  obtain ⟨o26, h26, h⟩ := o_inl h
  refine r_loop2 72 0 (fun (x18, x19) => ⟨[(0, lstOf .frozen (a0 : (List T_api_Setting))), (3, .ref 3 0), (5, lstOf (.own 100005) (x19 : (List T_api_Setting))), (6, .int .i64 x18)], [(3, .cells (cellsOf a1))], [(100005, (((x19).map cellsOf).length, 2))], []⟩) (fun (x28, x29) => ⟨[(0, lstOf .frozen (a0 : (List T_api_Setting))), (3, .ref 3 0), (5, lstOf (.own 100005) (x28 : (List T_api_Setting))), (6, .int .i64 x29)], [(3, .cells (cellsOf a1))], [(100005, (((x28).map cellsOf).length, 2))], []⟩) h26 (by kernel_rfl) (fun _ => by kernel_rfl) ?_ ?_
  · rintro ⟨x18, x19⟩ oh25 h25
    unfold d_ref09_insert_0 at h25
    refine pwp_seq (pwp_seq ?_)
    refine r_regd (by kernel_rfl) (by kernel_rfl) ?_
    refine p_run 2 (by kernel_rfl) ?_
    refine p_len (L := (a0 : (List T_api_Setting))) (by kernel_rfl) ?_
    obtain ⟨b30, h27, h25⟩ := o_bind h25
    refine p_run 2 (by kernel_rfl) ?_
    refine e_seg 29 40 (.bool b30) ?_ ?_
    · rcases o_cond h27 with ⟨hb, h27⟩ | ⟨hb, h27⟩
      · refine p_settle 11 hb (by kernel_rfl) (by kernel_rfl) ?_
        refine p_run 2 (by kernel_rfl) ?_
        obtain ⟨x31, h28, h27⟩ := o_bind h27
        refine p_ix h28 (by kernel_rfl) ?_
        obtain ⟨b32, h29, h27⟩ := o_bind h27
        refine p_run 6 (by kernel_rfl) ?_
        refine f_seg 19 39 (.bool b32) ?_ ?_
        · rcases o_cond h29 with ⟨hb, h29⟩ | ⟨hb, h29⟩
          · refine p_settle 20 hb (by kernel_rfl) (by kernel_rfl) ?_
            cases h29
            exact f_end (by kernel_rfl) (by kernel_rfl)
          refine p_settle 20 hb (by kernel_rfl) (by kernel_rfl) ?_
          refine p_run 2 (by kernel_rfl) ?_
          obtain ⟨x33, h30, h29⟩ := o_bind h29
          refine p_ix h30 (by kernel_rfl) ?_
          obtain ⟨b34, h31, h29⟩ := o_bind h29
          refine p_run 6 (by kernel_rfl) ?_
          refine f_seg 9 38 (.bool b34) ?_ ?_
          · rcases o_cond h31 with ⟨hb, h31⟩ | ⟨hb, h31⟩
            · refine p_settle 29 hb (by kernel_rfl) (by kernel_rfl) ?_
              refine p_run 2 (by kernel_rfl) ?_
              obtain ⟨x35, h32, h31⟩ := o_bind h31
              refine p_ix h32 (by kernel_rfl) ?_
              cases h31
              exact f_end (by kernel_rfl) (by kernel_rfl)
            refine p_settle 29 hb (by kernel_rfl) (by kernel_rfl) ?_
            cases h31
            exact f_end (by kernel_rfl) (by kernel_rfl)
          cases h29
          exact f_end (by kernel_rfl) (by kernel_rfl)
        cases h27
        exact f_end (by kernel_rfl) (by kernel_rfl)
      refine p_settle 11 hb (by kernel_rfl) (by kernel_rfl) ?_
      cases h27
      exact f_end (by kernel_rfl) (by kernel_rfl)
    refine e_nil (by kernel_rfl) ?_
    refine q_next ?_
    rcases o_cond h25 with ⟨hb, h25⟩ | ⟨hb, h25⟩
    · refine r_cond_t hb (by kernel_rfl) ?_
      refine pwp_skip (q_next (pwp_block (pwp_seq (r_reg ?_))))
      refine p_run 3 (by kernel_rfl) ?_
      obtain ⟨x36, h33, h25⟩ := o_bind h25
      refine p_ix h33 (by kernel_rfl) ?_
      refine p_run 2 (by kernel_rfl) ?_
      obtain ⟨x37, h34, h25⟩ := o_bind h25
      refine p_app (tk := 100005) h34 (by kernel_rfl) (by kernel_rfl) ?_
      refine e_end (by kernel_rfl) ?_
      refine q_next (r_reg ?_)
      refine e_end (by kernel_rfl) ?_
      refine q_block ?_
      cases h25
      exact q_lback (by kernel_rfl)
    refine r_cond_f hb (by kernel_rfl) ?_
    refine pwp_exit (q_seq_exit ?_)
    cases h25
    exact q_lexit (by kernel_rfl) (by kernel_rfl)
  rintro ⟨x28, x29⟩ s' rfl hs
  have h := o_outl h
  refine q_block_hit ?_
  refine q_next (pwp_wkr hs ?_)
  obtain ⟨o38, h38, h⟩ := o_inl h
  refine r_join (o := o38) 72 (fun x41 => ⟨[(0, lstOf .frozen (a0 : (List T_api_Setting))), (5, lstOf (.own 100005) (x41 : (List T_api_Setting))), (6, .int .i64 x29)], [], [(100005, (((x41).map cellsOf).length, 2))], []⟩) ?_ ?_
  · refine pwp_seq ?_
    refine r_regd (by kernel_rfl) (by kernel_rfl) ?_
    refine p_run 2 (by kernel_rfl) ?_
    refine p_len (L := (a0 : (List T_api_Setting))) (by kernel_rfl) ?_
    obtain ⟨b42, h39, h38⟩ := o_bind h38
    refine p_run 2 (by kernel_rfl) ?_
    refine e_seg 7 61 (.bool b42) ?_ ?_
    · rcases o_cond h39 with ⟨hb, h39⟩ | ⟨hb, h39⟩
      · refine p_settle 54 hb (by kernel_rfl) (by kernel_rfl) ?_
        cases h39
        exact f_end (by kernel_rfl) (by kernel_rfl)
      refine p_settle 54 hb (by kernel_rfl) (by kernel_rfl) ?_
      refine p_run 2 (by kernel_rfl) ?_
      obtain ⟨x43, h40, h39⟩ := o_bind h39
      refine p_ix h40 (by kernel_rfl) ?_
      cases h39
      exact f_end (by kernel_rfl) (by kernel_rfl)
    refine e_nil (by kernel_rfl) ?_
    refine q_next ?_
    rcases o_cond h38 with ⟨hb, h38⟩ | ⟨hb, h38⟩
    · refine r_cond_t hb (by kernel_rfl) ?_
      refine r_reg ?_
      refine p_run 3 (by kernel_rfl) ?_
      obtain ⟨x44, h41, h38⟩ := o_bind h38
      refine p_app (tk := 100005) h41 (by kernel_rfl) (by kernel_rfl) ?_
      refine e_end (by kernel_rfl) ?_
      cases h38
      exact q_join (by kernel_rfl) (by kernel_rfl)
    refine r_cond_f hb (by kernel_rfl) ?_
    refine pwp_skip ?_
    cases h38
    exact q_join (by kernel_rfl) (by kernel_rfl)
  rintro x41 rfl
  have h := o_outl h
  refine pwp_seq (r_reg ?_)
  refine p_run 3 (by kernel_rfl) ?_
  obtain ⟨x45, h42, h⟩ := o_bind h
  refine p_sl h42 .frozen (by kernel_rfl) (by kernel_rfl) (by kernel_rfl) ?_
  obtain ⟨x46, h43, h⟩ := o_bind h
  refine p_app (tk := 100005) h43 (by kernel_rfl) (by kernel_rfl) ?_
  refine e_end (by kernel_rfl) ?_
  refine q_next (pwp_seq (r_reg ?_))
  refine e_end (by kernel_rfl) ?_
  refine q_next (pwp_ret ?_)
  cases h
  exact q_ret (by kernel_rfl) (by kernel_rfl) (by kernel_rfl)
noncomputable def d_ref09_Settings_0 (a0 : T_api_Layout) (a1 : (List T_api_Step)) : (Int × (List T_api_Setting)) → Option ((Int × (List T_api_Setting)) ⊕ ((List T_api_Setting) ⊕ (List T_api_Setting))) := fun (x20, x21) =>
  bif decide (x20 < ((a1.length : Nat) : Int)) then (
    onInl (α := (List T_api_Setting)) (β := ((Int × (List T_api_Setting)) ⊕ ((List T_api_Setting) ⊕ (List T_api_Setting)))) (
      (ixO a1 x20).bind fun x37 =>
      (d_ref09_need a0 x37).bind fun r38 =>
      bif (r38.2 && (!(decide (r38.1 = 0)))) then (
        (ixO a1 x20).bind fun x39 =>
        (d_ref09_insert x21 (T_api_Setting.mk x39.El r38.1)).bind fun r40 =>
        some (.inl r40)
      ) else (
        some (.inl x21)
      )
    ) fun x36 =>
    some (.inl (w64 (x20 + 1), x36))
  ) else (
    some (.inr (.inl x21))
  )

noncomputable def d_ref09_Settings (a0 : T_api_Layout) (a1 : (List T_api_Step)) : Option (List T_api_Setting) :=
  onInl (α := (List T_api_Setting)) (β := (List T_api_Setting)) (loopO (d_ref09_Settings_0 a0 a1) (0, ([] : (List T_api_Setting)))) fun x31 =>
  some x31
theorem d_ref09_Settings_ok (a0 : T_api_Layout) (a1 : (List T_api_Step)) (r : (List T_api_Setting)) (h : d_ref09_Settings a0 a1 = some r) : PCall Go.Proofs.Tryd.prog GlS 42 [Enc.pv a0, Enc.pv a1] (Enc.pv r) := by
  unfold d_ref09_Settings at h
  refine pcall_of_pwp Go.Proofs.Tryd.func42 (by rfl) rfl Go.Proofs.Tryd.ntmps42 (by rfl) rfl ?_
  refine pwp_seq (r_reg ?_)
  refine e_end (by kernel_rfl) ?_
  refine q_next (pwp_seq (r_reg ?_))
  refine e_end (by kernel_rfl) ?_
  refine q_next (pwp_seq (pwp_seq (r_reg ?_)))
  refine e_end (by kernel_rfl) ?_
  refine q_next (pwp_block ?_)
  obtain ⟨o29, h29, h⟩ := o_inl h
  refine r_loop2 39 0 (fun (x20, x21) => ⟨[(1, lstOf .frozen (a1 : (List T_api_Step))), (2, .ref 2 0), (5, lstOf .frozen (x21 : (List T_api_Setting))), (6, .int .i64 x20)], [(2, .cells (cellsOf a0))], [], []⟩) (fun x31 => ⟨[(5, lstOf .frozen (x31 : (List T_api_Setting)))], [], [], []⟩) h29 (by kernel_rfl) (fun _ => by kernel_rfl) ?_ ?_
  · rintro ⟨x20, x21⟩ oh28 h28
    unfold d_ref09_Settings_0 at h28
    refine pwp_seq (pwp_seq (r_reg ?_))
    refine p_run 2 (by kernel_rfl) ?_
    refine p_len (L := (a1 : (List T_api_Step))) (by kernel_rfl) ?_
    refine e_end (by kernel_rfl) ?_
    refine q_next ?_
    rcases o_cond h28 with ⟨hb, h28⟩ | ⟨hb, h28⟩
    · refine r_cond_t hb (by kernel_rfl) ?_
      refine pwp_skip (q_next ?_)
      obtain ⟨o34, h34, h28⟩ := o_inl h28
      refine r_join (o := o34) 39 (fun x36 => ⟨[(1, lstOf .frozen (a1 : (List T_api_Step))), (2, .ref 2 0), (5, lstOf .frozen (x36 : (List T_api_Setting))), (6, .int .i64 x20)], [(2, .cells (cellsOf a0))], [], []⟩) ?_ ?_
      · refine pwp_block (pwp_seq ?_)
        refine r_regd (by kernel_rfl) (by kernel_rfl) ?_
        refine p_run 3 (by kernel_rfl) ?_
        obtain ⟨x37, h35, h34⟩ := o_bind h34
        refine p_ix h35 (by kernel_rfl) ?_
        refine p_run 1 (by kernel_rfl) ?_
        obtain ⟨r38, h36, h34⟩ := o_bind h34
        refine p_call (d_ref09_need_ok _ _ r38 h36) (by kernel_rfl) (by kernel_rfl) ?_
        refine e_end (by kernel_rfl) ?_
        refine q_next (pwp_seq (r_reg ?_))
        refine p_run 2 (by kernel_rfl) ?_
        refine e_segb 3 28 (r38.2 && (!(decide (r38.1 = 0)))) (fun x hx => ?_) ?_
        · rcases b_and hx with ⟨hb, hx⟩ | ⟨hb, hx⟩
          · refine p_settle 25 hb (by kernel_rfl) (by kernel_rfl) ?_
            subst hx
            exact f_end (by kernel_rfl) (by kernel_rfl)
          refine p_settle 25 hb (by kernel_rfl) (by kernel_rfl) ?_
          subst hx
          exact f_end (by kernel_rfl) (by kernel_rfl)
        refine e_nil (by kernel_rfl) ?_
        refine q_next ?_
        rcases o_cond h34 with ⟨hb, h34⟩ | ⟨hb, h34⟩
        · refine r_cond_t hb (by kernel_rfl) ?_
          refine r_reg ?_
          refine p_run 3 (by kernel_rfl) ?_
          obtain ⟨x39, h37, h34⟩ := o_bind h34
          refine p_ix h37 (by kernel_rfl) ?_
          refine p_run 4 (by kernel_rfl) ?_
          obtain ⟨r40, h38, h34⟩ := o_bind h34
          refine p_call (d_ref09_insert_ok _ _ r40 h38) (by kernel_rfl) (by kernel_rfl) ?_
          refine e_end (by kernel_rfl) ?_
          refine q_block ?_
          cases h34
          exact q_join (by kernel_rfl) (by kernel_rfl)
        refine r_cond_f hb (by kernel_rfl) ?_
        refine pwp_skip (q_block ?_)
        cases h34
        exact q_join (by kernel_rfl) (by kernel_rfl)
      rintro x36 rfl
      have h28 := o_outl h28
      refine r_reg ?_
      refine e_end (by kernel_rfl) ?_
      cases h28
      exact q_lback (by kernel_rfl)
    refine r_cond_f hb (by kernel_rfl) ?_
    refine pwp_exit (q_seq_exit ?_)
    cases h28
    exact q_lexit (by kernel_rfl) (by kernel_rfl)
  rintro x31 s' rfl hs
  have h := o_outl h
  refine q_block_hit ?_
  refine q_next (pwp_wkr hs ?_)
  refine pwp_seq (r_reg ?_)
  refine e_end (by kernel_rfl) ?_
  refine q_next (pwp_ret ?_)
  cases h
  exact q_ret (by kernel_rfl) (by kernel_rfl) (by kernel_rfl)

noncomputable def d_ref09_Length_0 (a0 : T_api_Layout) (a1 : (List T_api_Step)) : (Int × Int) → Option ((Int × Int) ⊕ (Int ⊕ Int)) := fun (x10, x11) =>
  bif decide (x11 < ((a1.length : Nat) : Int)) then (
    onInl (α := Int) (β := ((Int × Int) ⊕ (Int ⊕ Int))) (
      (ixO a1 x11).bind fun x27 =>
      (d_ref09_exists a0 x27.El).bind fun r28 =>
      bif r28 then (
        (ixO a1 x11).bind fun x29 =>
        (ixO a0.Elements x29.El).bind fun x30 =>
        some (.inl (w64 (x10 + x30.Length)))
      ) else (
        some (.inl x10)
      )
    ) fun x26 =>
    some (.inl (x26, w64 (x11 + 1)))
  ) else (
    some (.inr (.inl x10))
  )

noncomputable def d_ref09_Length (a0 : T_api_Layout) (a1 : (List T_api_Step)) : Option Int :=
  onInl (α := Int) (β := Int) (loopO (d_ref09_Length_0 a0 a1) (0, 0)) fun x21 =>
  some x21
theorem d_ref09_Length_ok (a0 : T_api_Layout) (a1 : (List T_api_Step)) (r : Int) (h : d_ref09_Length a0 a1 = some r) : PCall Go.Proofs.Tryd.prog GlS 44 [Enc.pv a0, Enc.pv a1] (Enc.pv r) := by
  unfold d_ref09_Length at h
  refine pcall_of_pwp Go.Proofs.Tryd.func44 (by rfl) rfl Go.Proofs.Tryd.ntmps44 (by rfl) rfl ?_
  refine pwp_seq (r_reg ?_)
  refine e_end (by kernel_rfl) ?_
  refine q_next (pwp_seq (r_reg ?_))
  refine e_end (by kernel_rfl) ?_
  refine q_next (pwp_seq (pwp_seq (r_reg ?_)))
  refine e_end (by kernel_rfl) ?_
  refine q_next (pwp_block ?_)
  obtain ⟨o20, h20, h⟩ := o_inl h
  refine r_loop2 33 0 (fun (x10, x11) => ⟨[(1, lstOf .frozen (a1 : (List T_api_Step))), (2, .ref 2 0), (5, .int .i64 x10), (6, .int .i64 x11)], [(2, .cells (cellsOf a0))], [], []⟩) (fun x21 => ⟨[(5, .int .i64 x21)], [], [], []⟩) h20 (by kernel_rfl) (fun _ => by kernel_rfl) ?_ ?_
  · rintro ⟨x10, x11⟩ oh19 h19
    unfold d_ref09_Length_0 at h19
    refine pwp_seq (pwp_seq (r_reg ?_))
    refine p_run 2 (by kernel_rfl) ?_
    refine p_len (L := (a1 : (List T_api_Step))) (by kernel_rfl) ?_
    refine e_end (by kernel_rfl) ?_
    refine q_next ?_
    rcases o_cond h19 with ⟨hb, h19⟩ | ⟨hb, h19⟩
    · refine r_cond_t hb (by kernel_rfl) ?_
      refine pwp_skip (q_next ?_)
      obtain ⟨o25, h25, h19⟩ := o_inl h19
      refine r_join (o := o25) 33 (fun x26 => ⟨[(1, lstOf .frozen (a1 : (List T_api_Step))), (2, .ref 2 0), (5, .int .i64 x26), (6, .int .i64 x11)], [(2, .cells (cellsOf a0))], [], []⟩) ?_ ?_
      · refine pwp_block (pwp_seq ?_)
        refine r_regd (by kernel_rfl) (by kernel_rfl) ?_
        refine p_run 3 (by kernel_rfl) ?_
        obtain ⟨x27, h26, h25⟩ := o_bind h25
        refine p_ix h26 (by kernel_rfl) ?_
        refine p_run 2 (by kernel_rfl) ?_
        obtain ⟨r28, h27, h25⟩ := o_bind h25
        refine p_call (d_ref09_exists_ok _ _ r28 h27) (by kernel_rfl) (by kernel_rfl) ?_
        refine e_nil (by kernel_rfl) ?_
        refine q_next ?_
        rcases o_cond h25 with ⟨hb, h25⟩ | ⟨hb, h25⟩
        · refine r_cond_t hb (by kernel_rfl) ?_
          refine r_regd (by kernel_rfl) (by kernel_rfl) ?_
          refine p_run 5 (by kernel_rfl) ?_
          obtain ⟨x29, h28, h25⟩ := o_bind h25
          refine p_ix h28 (by kernel_rfl) ?_
          refine p_run 2 (by kernel_rfl) ?_
          obtain ⟨x30, h29, h25⟩ := o_bind h25
          refine p_ix h29 (by kernel_rfl) ?_
          refine e_end (by kernel_rfl) ?_
          refine q_block ?_
          cases h25
          exact q_join (by kernel_rfl) (by kernel_rfl)
        refine r_cond_f hb (by kernel_rfl) ?_
        refine pwp_skip (q_block ?_)
        cases h25
        exact q_join (by kernel_rfl) (by kernel_rfl)
      rintro x26 rfl
      have h19 := o_outl h19
      refine r_reg ?_
      refine e_end (by kernel_rfl) ?_
      cases h19
      exact q_lback (by kernel_rfl)
    refine r_cond_f hb (by kernel_rfl) ?_
    refine pwp_exit (q_seq_exit ?_)
    cases h19
    exact q_lexit (by kernel_rfl) (by kernel_rfl)
  rintro x21 s' rfl hs
  have h := o_outl h
  refine q_block_hit ?_
  refine q_next (pwp_wkr hs ?_)
  refine pwp_seq (r_reg ?_)
  refine e_end (by kernel_rfl) ?_
  refine q_next (pwp_ret ?_)
  cases h
  exact q_ret (by kernel_rfl) (by kernel_rfl) (by kernel_rfl)

noncomputable def d_ref12_decimal_0 : (Int × ByteArray) → Option ((Int × ByteArray) ⊕ (ByteArray ⊕ ByteArray)) := fun (x2, x3) =>
  bif decide (0 < x2) then (
    (saddO (bytesOf [IntKind.u8.wrap (w64 (48 + (x2.tmod 10)))]) x3).bind fun x6 =>
    some (.inl (w64 (x2.tdiv 10), x6))
  ) else (
    some (.inr (.inl x3))
  )

noncomputable def d_ref12_decimal (a0 : Int) : Option ByteArray :=
  onInl (α := ByteArray) (β := ByteArray) (loopO (d_ref12_decimal_0) (a0, ByteArray.empty)) fun x5 =>
  some x5
theorem d_ref12_decimal_ok (a0 : Int) (r : ByteArray) (h : d_ref12_decimal a0 = some r) : PCall Go.Proofs.Tryd.prog GlS 45 [Enc.pv a0] (Enc.pv r) := by
  unfold d_ref12_decimal at h
  refine pcall_of_pwp Go.Proofs.Tryd.func45 (by rfl) rfl Go.Proofs.Tryd.ntmps45 (by rfl) rfl ?_
  refine pwp_seq (r_reg ?_)
  refine e_end (by kernel_rfl) ?_
  refine q_next (pwp_seq (r_reg ?_))
  refine e_end (by kernel_rfl) ?_
  refine q_next (pwp_seq (pwp_block ?_))
  obtain ⟨o4, h4, h⟩ := o_inl h
  refine r_loop2 17 0 (fun (x2, x3) => ⟨[(0, .int .i64 x2), (3, .str x3)], [], [], []⟩) (fun x5 => ⟨[(3, .str x5)], [], [], []⟩) h4 (by kernel_rfl) (fun _ => by kernel_rfl) ?_ ?_
  · rintro ⟨x2, x3⟩ oh3 h3
    unfold d_ref12_decimal_0 at h3
    refine pwp_seq (pwp_seq (r_reg ?_))
    refine e_end (by kernel_rfl) ?_
    refine q_next ?_
    rcases o_cond h3 with ⟨hb, h3⟩ | ⟨hb, h3⟩
    · refine r_cond_t hb (by kernel_rfl) ?_
      refine pwp_skip (q_next (pwp_block (pwp_seq (r_reg ?_))))
      refine p_run 5 (by kernel_rfl) ?_
      refine p_bstr (ns := [IntKind.u8.wrap (w64 (48 + (x2.tmod 10)))]) (by kernel_rfl) ?_
      refine p_run 1 (by kernel_rfl) ?_
      obtain ⟨x6, h5, h3⟩ := o_bind h3
      refine p_sadd h5 (by kernel_rfl) ?_
      refine e_end (by kernel_rfl) ?_
      refine q_next (r_reg ?_)
      refine e_end (by kernel_rfl) ?_
      refine q_block ?_
      cases h3
      exact q_lback (by kernel_rfl)
    refine r_cond_f hb (by kernel_rfl) ?_
    refine pwp_exit (q_seq_exit ?_)
    cases h3
    exact q_lexit (by kernel_rfl) (by kernel_rfl)
  rintro x5 s' rfl hs
  have h := o_outl h
  refine q_block_hit ?_
  refine q_next (pwp_wkr hs ?_)
  refine pwp_seq (r_reg ?_)
  refine e_end (by kernel_rfl) ?_
  refine q_next (pwp_ret ?_)
  cases h
  exact q_ret (by kernel_rfl) (by kernel_rfl) (by kernel_rfl)

noncomputable def d_ref12_From_1 (a0 : T_api_Layout) (a1 : Int) (r4 : T_signallingref12_Paths) (x150 : Int) (r228 : (Int × Bool)) : (Int × Int) → Option ((Int × Int) ⊕ (Int ⊕ ((Int × (List T_api_Route)) ⊕ ((List T_api_Route) ⊕ (List T_api_Route))))) := fun (x252, x253) =>
  bif decide (x253 < x150) then (
    onInl (α := Int) (β := ((Int × Int) ⊕ (Int ⊕ ((Int × (List T_api_Route)) ⊕ ((List T_api_Route) ⊕ (List T_api_Route)))))) (
      (xixO 0 (((r4.L : (List (List T_api_Step))).map cellsOf).length) x253).bind fun j281 =>
      (xldO r4.L (((r4.L : (List (List T_api_Step))).map cellsOf).length) j281).bind fun x282 =>
      (xixO 0 (((r4.L : (List (List T_api_Step))).map cellsOf).length) x253).bind fun j283 =>
      (xldO r4.L (((r4.L : (List (List T_api_Step))).map cellsOf).length) j283).bind fun x284 =>
      (ixO x282 (w64 (((x284.length : Nat) : Int) - 1))).bind fun x285 =>
      (d_ref12_Ends a0 x285).bind fun r286 =>
      (d_ref12_text a0 a1 r286.1).bind fun r287 =>
      (d_ref12_text a0 a1 r228.1).bind fun r288 =>
      bif decide (r287 = r288) then (
        some (.inl (w64 (x252 + 1)))
      ) else (
        some (.inl x252)
      )
    ) fun x280 =>
    some (.inl (x280, w64 (x253 + 1)))
  ) else (
    some (.inr (.inl x252))
  )

noncomputable def d_ref12_From_0 (a0 : T_api_Layout) (a1 : Int) (r4 : T_signallingref12_Paths) : (Int × (List T_api_Route)) → Option ((Int × (List T_api_Route)) ⊕ ((List T_api_Route) ⊕ (List T_api_Route))) := fun (x150, x151) =>
  bif decide (x150 < ((((r4.L : (List (List T_api_Step))).map cellsOf).length : Nat) : Int)) then (
    (xixO 0 (((r4.L : (List (List T_api_Step))).map cellsOf).length) x150).bind fun j225 =>
    (xldO r4.L (((r4.L : (List (List T_api_Step))).map cellsOf).length) j225).bind fun x226 =>
    (ixO x226 (w64 (((x226.length : Nat) : Int) - 1))).bind fun x227 =>
    (d_ref12_Ends a0 x227).bind fun r228 =>
    (d_ref12_text a0 a1 r228.1).bind fun r229 =>
    (d_ref09_Settings a0 x226).bind fun r230 =>
    (d_ref09_Sections a0 x226).bind fun r231 =>
    (d_ref09_Length a0 x226).bind fun r232 =>
    (ixO a0.Signals a1).bind fun x233 =>
    (d_ref07_Section a0 x233.At.El).bind fun r234 =>
    onInl (α := Int) (β := ((Int × (List T_api_Route)) ⊕ ((List T_api_Route) ⊕ (List T_api_Route)))) (loopO (d_ref12_From_1 a0 a1 r4 x150 r228) (1, 0)) fun x271 =>
    onInl (α := ByteArray) (β := ((Int × (List T_api_Route)) ⊕ ((List T_api_Route) ⊕ (List T_api_Route)))) (
      bif decide (1 < x271) then (
        (saddO r229 (ByteArray.mk #[46])).bind fun x293 =>
        (d_ref12_decimal x271).bind fun r294 =>
        (saddO x293 r294).bind fun x295 =>
        some (.inl x295)
      ) else (
        some (.inl r229)
      )
    ) fun x292 =>
    (appO x151 [(T_api_Route.mk x292 a1 r228.1 x226 r230 r231 r234 r232 ([] : (List T_api_Step)) ([] : (List T_api_Setting)) ([] : (List Int)) ([] : (List T_api_Setting)) ([] : (List Int)) ([] : (List T_api_End)))]).bind fun x296 =>
    some (.inl (w64 (x150 + 1), x296))
  ) else (
    some (.inr (.inl x151))
  )

noncomputable def d_ref12_From (a0 : T_api_Layout) (a1 : Int) : Option (List T_api_Route) :=
  ((bif decide (a1 < 0) then some true else (
    some (decide (((a0.Signals.length : Nat) : Int) ≤ a1))
  )) : Option Bool).bind fun b1 =>
  bif b1 then (
    some ([] : (List T_api_Route))
  ) else (
    (ixO a0.Signals a1).bind fun x2 =>
    (d_ref07_Joined a0 x2.At).bind fun r3 =>
    bif (!r3.2) then (
      some ([] : (List T_api_Route))
    ) else (
      (d_ref12_Paths_search (T_signallingref12_Paths.mk []) a0 r3.1 r3.1 ([] : (List T_api_Step))).bind fun r4 =>
      onInl (α := (List T_api_Route)) (β := (List T_api_Route)) (loopO (d_ref12_From_0 a0 a1 r4) (0, ([] : (List T_api_Route)))) fun x224 =>
      some x224
    )
  )
theorem d_ref12_From_ok (a0 : T_api_Layout) (a1 : Int) (r : (List T_api_Route)) (h : d_ref12_From a0 a1 = some r) : PCall Go.Proofs.Tryd.prog GlS 20 [Enc.pv a0, Enc.pv a1] (lstOf (.own 100008) r) := by
  unfold d_ref12_From at h
  refine pcall_of_pwp Go.Proofs.Tryd.func20 (by rfl) rfl Go.Proofs.Tryd.ntmps20 (by rfl) rfl ?_
  refine pwp_seq (r_reg ?_)
  refine e_end (by kernel_rfl) ?_
  refine q_next (pwp_seq (pwp_seq (r_reg ?_)))
  obtain ⟨b1, h1, h⟩ := o_bind h
  refine p_run 3 (by kernel_rfl) ?_
  refine e_seg 6 26 (.bool b1) ?_ ?_
  · rcases o_cond h1 with ⟨hb, h1⟩ | ⟨hb, h1⟩
    · refine p_settle 20 hb (by kernel_rfl) (by kernel_rfl) ?_
      cases h1
      exact f_end (by kernel_rfl) (by kernel_rfl)
    refine p_settle 20 hb (by kernel_rfl) (by kernel_rfl) ?_
    refine p_run 3 (by kernel_rfl) ?_
    refine p_len (L := (a0.Signals : (List T_api_Signal))) (by kernel_rfl) ?_
    cases h1
    exact f_end (by kernel_rfl) (by kernel_rfl)
  refine e_nil (by kernel_rfl) ?_
  refine q_next ?_
  rcases o_cond h with ⟨hb, h⟩ | ⟨hb, h⟩
  · refine r_cond_t hb (by kernel_rfl) ?_
    refine pwp_seq (r_reg ?_)
    refine e_end (by kernel_rfl) ?_
    refine q_next ?_
    refine g_nil 4 100008 14 264 (by kernel_rfl) (by kernel_rfl) ?_
    refine pwp_ret (q_seq_ret ?_)
    cases h
    exact q_ret (by kernel_rfl) (by kernel_rfl) (by kernel_rfl)
  refine r_cond_f hb (by kernel_rfl) ?_
  refine pwp_skip (q_next (pwp_seq ?_))
  refine r_regd (by kernel_rfl) (by kernel_rfl) ?_
  refine p_run 4 (by kernel_rfl) ?_
  obtain ⟨x2, h2, h⟩ := o_bind h
  refine p_ix h2 (by kernel_rfl) ?_
  refine p_run 2 (by kernel_rfl) ?_
  obtain ⟨r3, h3, h⟩ := o_bind h
  refine p_call (d_ref07_Joined_ok _ _ r3 h3) (by kernel_rfl) (by kernel_rfl) ?_
  refine e_end (by kernel_rfl) ?_
  refine q_next (pwp_seq (pwp_seq (r_reg ?_)))
  refine e_end (by kernel_rfl) ?_
  refine q_next ?_
  rcases o_cond h with ⟨hb, h⟩ | ⟨hb, h⟩
  · refine r_cond_t hb (by kernel_rfl) ?_
    refine pwp_seq (r_reg ?_)
    refine e_end (by kernel_rfl) ?_
    refine q_next ?_
    refine g_nil 4 100008 14 264 (by kernel_rfl) (by kernel_rfl) ?_
    refine pwp_ret (q_seq_ret ?_)
    cases h
    exact q_ret (by kernel_rfl) (by kernel_rfl) (by kernel_rfl)
  refine r_cond_f hb (by kernel_rfl) ?_
  refine pwp_skip (q_next (pwp_seq (r_reg ?_)))
  refine e_end (by kernel_rfl) ?_
  refine q_next (pwp_seq (r_reg ?_))
  refine p_run 4 (by kernel_rfl) ?_
  obtain ⟨r4, h4, h⟩ := o_bind h
  refine p_ocall (some 41) [304600] [(41, 0, 304600, 1, 24)] none (d_ref12_Paths_search_oc _ _ _ _ _ r4 h4) (by kernel_rfl) (by kernel_rfl) (by kernel_rfl) (by kernel_rfl) (by kernel_rfl) ?_
  refine e_nil (by kernel_rfl) ?_
  refine q_next (pwp_seq (r_reg ?_))
  refine e_end (by kernel_rfl) ?_
  refine q_next (pwp_seq (pwp_seq (r_reg ?_)))
  refine e_end (by kernel_rfl) ?_
  refine q_next (pwp_block ?_)
  refine g_nil 8 100008 14 264 (by kernel_rfl) (by kernel_rfl) ?_
  obtain ⟨o219, h219, h⟩ := o_inl h
  refine r_loop2 154 0 (fun (x150, x151) => ⟨[(1, .int .i64 a1), (2, .ref 2 0), (7, .ref 41 0), (8, lstOf (.own 100008) (x151 : (List T_api_Route))), (9, .int .i64 x150)], [(2, .cells (cellsOf a0)), (41, .cells ([.ex 304600 1 24 (((r4.L : (List (List T_api_Step))).map cellsOf).length) 0 (((r4.L : (List (List T_api_Step))).map cellsOf).length)]))], [(100008, (((x151).map cellsOf).length, 14)), (304600, (((r4.L : (List (List T_api_Step))).map cellsOf).length, 0))], [(304600, (1, (24, (r4.L : (List (List T_api_Step))).map cellsOf)))]⟩) (fun x224 => ⟨[(8, lstOf (.own 100008) (x224 : (List T_api_Route)))], [], [(100008, (((x224).map cellsOf).length, 14))], []⟩) h219 (by kernel_rfl) (fun _ => by kernel_rfl) ?_ ?_
  · rintro ⟨x150, x151⟩ oh218 h218
    unfold d_ref12_From_0 at h218
    refine pwp_seq (pwp_seq (r_reg ?_))
    refine e_end (by kernel_rfl) ?_
    refine q_next ?_
    rcases o_cond h218 with ⟨hb, h218⟩ | ⟨hb, h218⟩
    · refine r_cond_t hb (by kernel_rfl) ?_
      refine pwp_skip (q_next (pwp_seq (pwp_block (pwp_seq (r_reg ?_)))))
      refine p_run 5 (by kernel_rfl) ?_
      obtain ⟨j225, h220, h218⟩ := o_bind h218
      refine p_xix (tk := 304600) (k := 1) (N := ((r4.L : (List (List T_api_Step))).map cellsOf).length) h220 (by kernel_rfl) ?_
      obtain ⟨x226, h221, h218⟩ := o_bind h218
      refine p_xld (L := (r4.L : (List (List T_api_Step)))) (N := ((r4.L : (List (List T_api_Step))).map cellsOf).length) (j := j225) (y := x226) (v := lstOf .frozen (x226 : (List T_api_Step))) h221 false 1 0 (by kernel_rfl) (by kernel_rfl) ?_
      refine e_end (by kernel_rfl) ?_
      refine q_next (pwp_seq ?_)
      refine r_regd (by kernel_rfl) (by kernel_rfl) ?_
      refine p_run 3 (by kernel_rfl) ?_
      refine p_len (L := (x226 : (List T_api_Step))) (by kernel_rfl) ?_
      refine p_run 1 (by kernel_rfl) ?_
      obtain ⟨x227, h222, h218⟩ := o_bind h218
      refine p_ix h222 (by kernel_rfl) ?_
      refine p_run 1 (by kernel_rfl) ?_
      obtain ⟨r228, h223, h218⟩ := o_bind h218
      refine p_call (d_ref12_Ends_ok _ _ r228 h223) (by kernel_rfl) (by kernel_rfl) ?_
      refine e_end (by kernel_rfl) ?_
      refine q_next (pwp_seq ?_)
      refine r_regd (by kernel_rfl) (by kernel_rfl) ?_
      refine p_run 3 (by kernel_rfl) ?_
      obtain ⟨r229, h224, h218⟩ := o_bind h218
      refine p_call (d_ref12_text_ok _ _ _ r229 h224) (by kernel_rfl) (by kernel_rfl) ?_
      refine p_run 5 (by kernel_rfl) ?_
      obtain ⟨r230, h225, h218⟩ := o_bind h218
      refine p_call (d_ref09_Settings_ok _ _ r230 h225) (by kernel_rfl) (by kernel_rfl) ?_
      refine p_run 2 (by kernel_rfl) ?_
      obtain ⟨r231, h226, h218⟩ := o_bind h218
      refine p_call (d_ref09_Sections_fz _ _ r231 h226) (by kernel_rfl) (by kernel_rfl) ?_
      refine p_run 2 (by kernel_rfl) ?_
      obtain ⟨r232, h227, h218⟩ := o_bind h218
      refine p_call (d_ref09_Length_ok _ _ r232 h227) (by kernel_rfl) (by kernel_rfl) ?_
      refine e_end (by kernel_rfl) ?_
      refine q_next (pwp_seq ?_)
      refine r_regd (by kernel_rfl) (by kernel_rfl) ?_
      refine p_run 4 (by kernel_rfl) ?_
      obtain ⟨x233, h228, h218⟩ := o_bind h218
      refine p_ix h228 (by kernel_rfl) ?_
      refine p_run 3 (by kernel_rfl) ?_
      obtain ⟨r234, h229, h218⟩ := o_bind h218
      refine p_call (d_ref07_Section_ok _ _ r234 h229) (by kernel_rfl) (by kernel_rfl) ?_
      refine e_end (by kernel_rfl) ?_
      refine q_next (pwp_seq (r_reg ?_))
      refine e_end (by kernel_rfl) ?_
      refine q_next (pwp_seq (pwp_seq (r_reg ?_)))
      refine e_end (by kernel_rfl) ?_
      refine q_next (pwp_block ?_)
      obtain ⟨o265, h265, h218⟩ := o_inl h218
      refine r_loop2 154 2 (fun (x252, x253) => ⟨[(1, .int .i64 a1), (2, .ref 2 0), (7, .ref 41 0), (8, lstOf (.own 100008) (x151 : (List T_api_Route))), (9, .int .i64 x150), (11, .int .i64 r228.1), (13, .ref 13 0), (14, .int .i64 x252), (15, .int .i64 x253)], [(2, .cells (cellsOf a0)), (13, .cells ([.str r229, .int .i64 a1, .int .i64 r228.1, lstOf .frozen (x226 : (List T_api_Step)), lstOf .frozen (r230 : (List T_api_Setting)), lstOf .frozen (r231 : (List Int)), .int .i64 r234, .int .i64 r232, .nil, .nil, .nil, .nil, .nil, .nil])), (41, .cells ([.ex 304600 1 24 (((r4.L : (List (List T_api_Step))).map cellsOf).length) 0 (((r4.L : (List (List T_api_Step))).map cellsOf).length)]))], [(100008, (((x151).map cellsOf).length, 14)), (304600, (((r4.L : (List (List T_api_Step))).map cellsOf).length, 0))], [(304600, (1, (24, (r4.L : (List (List T_api_Step))).map cellsOf)))]⟩) (fun x271 => ⟨[(1, .int .i64 a1), (2, .ref 2 0), (7, .ref 41 0), (8, lstOf (.own 100008) (x151 : (List T_api_Route))), (9, .int .i64 x150), (13, .ref 13 0), (14, .int .i64 x271)], [(2, .cells (cellsOf a0)), (13, .cells ([.str r229, .int .i64 a1, .int .i64 r228.1, lstOf .frozen (x226 : (List T_api_Step)), lstOf .frozen (r230 : (List T_api_Setting)), lstOf .frozen (r231 : (List Int)), .int .i64 r234, .int .i64 r232, .nil, .nil, .nil, .nil, .nil, .nil])), (41, .cells ([.ex 304600 1 24 (((r4.L : (List (List T_api_Step))).map cellsOf).length) 0 (((r4.L : (List (List T_api_Step))).map cellsOf).length)]))], [(100008, (((x151).map cellsOf).length, 14)), (304600, (((r4.L : (List (List T_api_Step))).map cellsOf).length, 0))], [(304600, (1, (24, (r4.L : (List (List T_api_Step))).map cellsOf)))]⟩) h265 (by kernel_rfl) (fun _ => by kernel_rfl) ?_ ?_
      · rintro ⟨x252, x253⟩ oh264 h264
        unfold d_ref12_From_1 at h264
        refine pwp_seq (pwp_seq (r_reg ?_))
        refine e_end (by kernel_rfl) ?_
        refine q_next ?_
        rcases o_cond h264 with ⟨hb, h264⟩ | ⟨hb, h264⟩
        · refine r_cond_t hb (by kernel_rfl) ?_
          refine pwp_skip (q_next ?_)
          obtain ⟨o274, h274, h264⟩ := o_inl h264
          refine r_join (o := o274) 154 (fun x280 => ⟨[(1, .int .i64 a1), (2, .ref 2 0), (7, .ref 41 0), (8, lstOf (.own 100008) (x151 : (List T_api_Route))), (9, .int .i64 x150), (11, .int .i64 r228.1), (13, .ref 13 0), (14, .int .i64 x280), (15, .int .i64 x253)], [(2, .cells (cellsOf a0)), (13, .cells ([.str r229, .int .i64 a1, .int .i64 r228.1, lstOf .frozen (x226 : (List T_api_Step)), lstOf .frozen (r230 : (List T_api_Setting)), lstOf .frozen (r231 : (List Int)), .int .i64 r234, .int .i64 r232, .nil, .nil, .nil, .nil, .nil, .nil])), (41, .cells ([.ex 304600 1 24 (((r4.L : (List (List T_api_Step))).map cellsOf).length) 0 (((r4.L : (List (List T_api_Step))).map cellsOf).length)]))], [(100008, (((x151).map cellsOf).length, 14)), (304600, (((r4.L : (List (List T_api_Step))).map cellsOf).length, 0))], [(304600, (1, (24, (r4.L : (List (List T_api_Step))).map cellsOf)))]⟩) ?_ ?_
          · refine pwp_block (pwp_seq ?_)
            refine r_regd (by kernel_rfl) (by kernel_rfl) ?_
            refine p_run 6 (by kernel_rfl) ?_
            obtain ⟨j281, h275, h274⟩ := o_bind h274
            refine p_xix (tk := 304600) (k := 1) (N := ((r4.L : (List (List T_api_Step))).map cellsOf).length) h275 (by kernel_rfl) ?_
            obtain ⟨x282, h276, h274⟩ := o_bind h274
            refine p_xld (L := (r4.L : (List (List T_api_Step)))) (N := ((r4.L : (List (List T_api_Step))).map cellsOf).length) (j := j281) (y := x282) (v := lstOf .frozen (x282 : (List T_api_Step))) h276 false 1 0 (by kernel_rfl) (by kernel_rfl) ?_
            refine p_run 5 (by kernel_rfl) ?_
            obtain ⟨j283, h277, h274⟩ := o_bind h274
            refine p_xix (tk := 304600) (k := 1) (N := ((r4.L : (List (List T_api_Step))).map cellsOf).length) h277 (by kernel_rfl) ?_
            obtain ⟨x284, h278, h274⟩ := o_bind h274
            refine p_xld (L := (r4.L : (List (List T_api_Step)))) (N := ((r4.L : (List (List T_api_Step))).map cellsOf).length) (j := j283) (y := x284) (v := lstOf .frozen (x284 : (List T_api_Step))) h278 false 1 0 (by kernel_rfl) (by kernel_rfl) ?_
            refine p_len (L := (x284 : (List T_api_Step))) (by kernel_rfl) ?_
            refine p_run 1 (by kernel_rfl) ?_
            obtain ⟨x285, h279, h274⟩ := o_bind h274
            refine p_ix h279 (by kernel_rfl) ?_
            refine p_run 1 (by kernel_rfl) ?_
            obtain ⟨r286, h280, h274⟩ := o_bind h274
            refine p_call (d_ref12_Ends_ok _ _ r286 h280) (by kernel_rfl) (by kernel_rfl) ?_
            refine e_end (by kernel_rfl) ?_
            refine q_next (pwp_seq ?_)
            refine r_regd (by kernel_rfl) (by kernel_rfl) ?_
            refine p_run 3 (by kernel_rfl) ?_
            obtain ⟨r287, h281, h274⟩ := o_bind h274
            refine p_call (d_ref12_text_ok _ _ _ r287 h281) (by kernel_rfl) (by kernel_rfl) ?_
            refine p_run 3 (by kernel_rfl) ?_
            obtain ⟨r288, h282, h274⟩ := o_bind h274
            refine p_call (d_ref12_text_ok _ _ _ r288 h282) (by kernel_rfl) (by kernel_rfl) ?_
            refine e_end (by kernel_rfl) ?_
            refine q_next ?_
            rcases o_cond h274 with ⟨hb, h274⟩ | ⟨hb, h274⟩
            · refine r_cond_t hb (by kernel_rfl) ?_
              refine r_reg ?_
              refine e_end (by kernel_rfl) ?_
              refine q_block ?_
              cases h274
              exact q_join (by kernel_rfl) (by kernel_rfl)
            refine r_cond_f hb (by kernel_rfl) ?_
            refine pwp_skip (q_block ?_)
            cases h274
            exact q_join (by kernel_rfl) (by kernel_rfl)
          rintro x280 rfl
          have h264 := o_outl h264
          refine r_reg ?_
          refine e_end (by kernel_rfl) ?_
          cases h264
          exact q_lback (by kernel_rfl)
        refine r_cond_f hb (by kernel_rfl) ?_
        refine pwp_exit (q_seq_exit ?_)
        cases h264
        exact q_lexit (by kernel_rfl) (by kernel_rfl)
      rintro x271 s' rfl hs
      have h218 := o_outl h218
      refine q_block_hit ?_
      refine q_next (pwp_wkr hs ?_)
      obtain ⟨o286, h286, h218⟩ := o_inl h218
      refine r_join (o := o286) 154 (fun x292 => ⟨[(1, .int .i64 a1), (2, .ref 2 0), (7, .ref 41 0), (8, lstOf (.own 100008) (x151 : (List T_api_Route))), (9, .int .i64 x150), (13, .ref 13 0)], [(2, .cells (cellsOf a0)), (13, .cells ([.str x292, .int .i64 a1, .int .i64 r228.1, lstOf .frozen (x226 : (List T_api_Step)), lstOf .frozen (r230 : (List T_api_Setting)), lstOf .frozen (r231 : (List Int)), .int .i64 r234, .int .i64 r232, .nil, .nil, .nil, .nil, .nil, .nil])), (41, .cells ([.ex 304600 1 24 (((r4.L : (List (List T_api_Step))).map cellsOf).length) 0 (((r4.L : (List (List T_api_Step))).map cellsOf).length)]))], [(100008, (((x151).map cellsOf).length, 14)), (304600, (((r4.L : (List (List T_api_Step))).map cellsOf).length, 0))], [(304600, (1, (24, (r4.L : (List (List T_api_Step))).map cellsOf)))]⟩) ?_ ?_
      · refine pwp_seq (r_reg ?_)
        refine e_end (by kernel_rfl) ?_
        refine q_next ?_
        rcases o_cond h286 with ⟨hb, h286⟩ | ⟨hb, h286⟩
        · refine r_cond_t hb (by kernel_rfl) ?_
          refine r_regd (by kernel_rfl) (by kernel_rfl) ?_
          refine p_run 2 (by kernel_rfl) ?_
          obtain ⟨x293, h287, h286⟩ := o_bind h286
          refine p_sadd h287 (by kernel_rfl) ?_
          refine p_run 1 (by kernel_rfl) ?_
          obtain ⟨r294, h288, h286⟩ := o_bind h286
          refine p_call (d_ref12_decimal_ok _ r294 h288) (by kernel_rfl) (by kernel_rfl) ?_
          obtain ⟨x295, h289, h286⟩ := o_bind h286
          refine p_sadd h289 (by kernel_rfl) ?_
          refine e_end (by kernel_rfl) ?_
          cases h286
          exact q_join (by kernel_rfl) (by kernel_rfl)
        refine r_cond_f hb (by kernel_rfl) ?_
        refine pwp_skip ?_
        cases h286
        exact q_join (by kernel_rfl) (by kernel_rfl)
      rintro x292 rfl
      have h218 := o_outl h218
      refine pwp_wkr (Wkr.of (n := 154) (j := ⟨[(1, .int .i64 a1), (2, .ref 2 0), (7, .ref 41 0), (8, lstOf (.own 100008) (x151 : (List T_api_Route))), (9, .int .i64 x150), (13, .ref 13 0)], [(2, .cells (cellsOf a0)), (13, .cells ([.str x292, .int .i64 a1, .int .i64 r228.1, lstOf .frozen (x226 : (List T_api_Step)), lstOf .frozen (r230 : (List T_api_Setting)), lstOf .frozen (r231 : (List Int)), .int .i64 r234, .int .i64 r232, lstOf .frozen (([] : (List T_api_Step)) : (List T_api_Step)), lstOf .frozen (([] : (List T_api_Setting)) : (List T_api_Setting)), lstOf .frozen (([] : (List Int)) : (List Int)), lstOf .frozen (([] : (List T_api_Setting)) : (List T_api_Setting)), lstOf .frozen (([] : (List Int)) : (List Int)), lstOf .frozen (([] : (List T_api_End)) : (List T_api_End))])), (41, .cells ([.ex 304600 1 24 (((r4.L : (List (List T_api_Step))).map cellsOf).length) 0 (((r4.L : (List (List T_api_Step))).map cellsOf).length)]))], [(100008, (((x151).map cellsOf).length, 14)), (304600, (((r4.L : (List (List T_api_Step))).map cellsOf).length, 0))], [(304600, (1, (24, (r4.L : (List (List T_api_Step))).map cellsOf)))]⟩) (by kernel_rfl) (by kernel_rfl)) ?_
      refine r_reg ?_
      refine p_run 3 (by kernel_rfl) ?_
      obtain ⟨x296, h290, h218⟩ := o_bind h218
      refine p_app (tk := 100008) h290 (by kernel_rfl) (by kernel_rfl) ?_
      refine e_end (by kernel_rfl) ?_
      refine q_block (q_next (r_reg ?_))
      refine e_end (by kernel_rfl) ?_
      cases h218
      exact q_lback (by kernel_rfl)
    refine r_cond_f hb (by kernel_rfl) ?_
    refine pwp_exit (q_seq_exit ?_)
    cases h218
    exact q_lexit (by kernel_rfl) (by kernel_rfl)
  rintro x224 s' rfl hs
  have h := o_outl h
  refine q_block_hit ?_
  refine q_next (pwp_wkr hs ?_)
  refine pwp_seq (r_reg ?_)
  refine e_end (by kernel_rfl) ?_
  refine q_next (pwp_ret ?_)
  cases h
  exact q_ret (by kernel_rfl) (by kernel_rfl) (by kernel_rfl)
noncomputable def d_ref12_All_0 (a0 : T_api_Layout) : (Int × (List T_api_Route)) → Option ((Int × (List T_api_Route)) ⊕ ((List T_api_Route) ⊕ ((List T_api_Route) × Int))) := fun (x7, x8) =>
  bif decide (x7 < ((a0.Signals.length : Nat) : Int)) then (
    (d_ref12_From a0 x7).bind fun r12 =>
    (appO x8 r12).bind fun x13 =>
    some (.inl (w64 (x7 + 1), x13))
  ) else (
    some (.inr (.inl x8))
  )

noncomputable def d_ref12_All (a0 : T_api_Layout) : Option ((List T_api_Route) × Int) :=
  (d_ref07_Check a0).bind fun r1 =>
  bif (!(decide (r1 = 0))) then (
    some (([] : (List T_api_Route)), r1)
  ) else (
    onInl (α := (List T_api_Route)) (β := ((List T_api_Route) × Int)) (loopO (d_ref12_All_0 a0) (0, ([] : (List T_api_Route)))) fun x11 =>
    bif decide (48 < ((x11.length : Nat) : Int)) then (
      some (([] : (List T_api_Route)), 2)
    ) else (
      some (x11, 0)
    )
  )
theorem d_ref12_All_ok (a0 : T_api_Layout) (r : ((List T_api_Route) × Int)) (h : d_ref12_All a0 = some r) : PCall Go.Proofs.Tryd.prog GlS 7 [Enc.pv a0] (.tup [Enc.pv r.1, Enc.pv r.2]) := by
  unfold d_ref12_All at h
  refine pcall_of_pwp Go.Proofs.Tryd.func7 (by rfl) rfl Go.Proofs.Tryd.ntmps7 (by rfl) rfl ?_
  refine pwp_seq (r_reg ?_)
  refine e_end (by kernel_rfl) ?_
  refine q_next (pwp_seq (r_reg ?_))
  refine p_run 1 (by kernel_rfl) ?_
  obtain ⟨r1, h1, h⟩ := o_bind h
  refine p_call (d_ref07_Check_ok _ r1 h1) (by kernel_rfl) (by kernel_rfl) ?_
  refine e_end (by kernel_rfl) ?_
  refine q_next (pwp_seq (pwp_seq (r_reg ?_)))
  refine e_end (by kernel_rfl) ?_
  refine q_next ?_
  rcases o_cond h with ⟨hb, h⟩ | ⟨hb, h⟩
  · refine r_cond_t hb (by kernel_rfl) ?_
    refine pwp_seq (r_reg ?_)
    refine e_end (by kernel_rfl) ?_
    refine q_next (pwp_ret (q_seq_ret ?_))
    cases h
    exact q_ret (by kernel_rfl) (by kernel_rfl) (by kernel_rfl)
  refine r_cond_f hb (by kernel_rfl) ?_
  refine pwp_skip (q_next (pwp_seq (r_reg ?_)))
  refine e_end (by kernel_rfl) ?_
  refine q_next (pwp_seq (pwp_seq (r_reg ?_)))
  refine e_end (by kernel_rfl) ?_
  refine q_next (pwp_block ?_)
  refine g_nil 5 100005 14 264 (by kernel_rfl) (by kernel_rfl) ?_
  obtain ⟨o9, h9, h⟩ := o_inl h
  refine r_loop2 28 0 (fun (x7, x8) => ⟨[(1, .ref 1 0), (5, lstOf (.own 100005) (x8 : (List T_api_Route))), (6, .int .i64 x7)], [(1, .cells (cellsOf a0))], [(100005, (((x8).map cellsOf).length, 14))], []⟩) (fun x11 => ⟨[(5, lstOf (.own 100005) (x11 : (List T_api_Route)))], [], [(100005, (((x11).map cellsOf).length, 14))], []⟩) h9 (by kernel_rfl) (fun _ => by kernel_rfl) ?_ ?_
  · rintro ⟨x7, x8⟩ oh8 h8
    unfold d_ref12_All_0 at h8
    refine pwp_seq (pwp_seq (r_reg ?_))
    refine p_run 3 (by kernel_rfl) ?_
    refine p_len (L := (a0.Signals : (List T_api_Signal))) (by kernel_rfl) ?_
    refine e_end (by kernel_rfl) ?_
    refine q_next ?_
    rcases o_cond h8 with ⟨hb, h8⟩ | ⟨hb, h8⟩
    · refine r_cond_t hb (by kernel_rfl) ?_
      refine pwp_skip (q_next (pwp_seq (pwp_block (r_reg ?_))))
      refine p_run 3 (by kernel_rfl) ?_
      obtain ⟨r12, h10, h8⟩ := o_bind h8
      refine p_call (d_ref12_From_ok _ _ r12 h10) (by kernel_rfl) (by kernel_rfl) ?_
      obtain ⟨x13, h11, h8⟩ := o_bind h8
      refine p_app (tk := 100005) h11 (by kernel_rfl) (by kernel_rfl) ?_
      refine e_end (by kernel_rfl) ?_
      refine q_block (q_next (r_reg ?_))
      refine e_end (by kernel_rfl) ?_
      cases h8
      exact q_lback (by kernel_rfl)
    refine r_cond_f hb (by kernel_rfl) ?_
    refine pwp_exit (q_seq_exit ?_)
    cases h8
    exact q_lexit (by kernel_rfl) (by kernel_rfl)
  rintro x11 s' rfl hs
  have h := o_outl h
  refine q_block_hit ?_
  refine q_next (pwp_wkr hs ?_)
  refine pwp_seq (pwp_seq (r_reg ?_))
  refine p_run 1 (by kernel_rfl) ?_
  refine p_len (L := (x11 : (List T_api_Route))) (by kernel_rfl) ?_
  refine e_end (by kernel_rfl) ?_
  refine q_next ?_
  rcases o_cond h with ⟨hb, h⟩ | ⟨hb, h⟩
  · refine r_cond_t hb (by kernel_rfl) ?_
    refine pwp_seq (r_reg ?_)
    refine e_end (by kernel_rfl) ?_
    refine q_next (pwp_ret (q_seq_ret ?_))
    cases h
    exact q_ret (by kernel_rfl) (by kernel_rfl) (by kernel_rfl)
  refine r_cond_f hb (by kernel_rfl) ?_
  refine pwp_skip (q_next (pwp_seq (r_reg ?_)))
  refine e_end (by kernel_rfl) ?_
  refine q_next (pwp_ret ?_)
  cases h
  exact q_ret (by kernel_rfl) (by kernel_rfl) (by kernel_rfl)

noncomputable def d_walk_Branches_0 (a1 : T_api_End) (r3 : (List Int)) : (Int × (List T_api_Step)) → Option ((Int × (List T_api_Step)) ⊕ ((List T_api_Step) ⊕ (List T_api_Step))) := fun (x9, x10) =>
  bif decide (x9 < ((r3.length : Nat) : Int)) then (
    (ixO r3 x9).bind fun x14 =>
    (appO x10 [(T_api_Step.mk a1.El a1.Side x14)]).bind fun x15 =>
    some (.inl (w64 (x9 + 1), x15))
  ) else (
    some (.inr (.inl x10))
  )

noncomputable def d_walk_Branches (a0 : T_api_Layout) (a1 : T_api_End) : Option (List T_api_Step) :=
  (d_walk_exists a0 a1.El).bind fun r1 =>
  bif (!r1) then (
    some ([] : (List T_api_Step))
  ) else (
    (ixO a0.Elements a1.El).bind fun x2 =>
    (d_rail_Legs x2.Kind a1.Side).bind fun r3 =>
    onInl (α := (List T_api_Step)) (β := (List T_api_Step)) (loopO (d_walk_Branches_0 a1 r3) (0, ([] : (List T_api_Step)))) fun x13 =>
    some x13
  )
theorem d_walk_Branches_ok (a0 : T_api_Layout) (a1 : T_api_End) (r : (List T_api_Step)) (h : d_walk_Branches a0 a1 = some r) : PCall Go.Proofs.Tryd.prog GlS 50 [Enc.pv a0, Enc.pv a1] (lstOf (.own 100005) r) := by
  unfold d_walk_Branches at h
  refine pcall_of_pwp Go.Proofs.Tryd.func50 (by rfl) rfl Go.Proofs.Tryd.ntmps50 (by rfl) rfl ?_
  refine pwp_seq (r_reg ?_)
  refine e_end (by kernel_rfl) ?_
  refine q_next (pwp_seq (pwp_seq (r_reg ?_)))
  refine p_run 3 (by kernel_rfl) ?_
  obtain ⟨r1, h1, h⟩ := o_bind h
  refine p_call (d_walk_exists_ok _ _ r1 h1) (by kernel_rfl) (by kernel_rfl) ?_
  refine e_end (by kernel_rfl) ?_
  refine q_next ?_
  rcases o_cond h with ⟨hb, h⟩ | ⟨hb, h⟩
  · refine r_cond_t hb (by kernel_rfl) ?_
    refine pwp_seq (r_reg ?_)
    refine e_end (by kernel_rfl) ?_
    refine q_next ?_
    refine g_nil 4 100005 3 24 (by kernel_rfl) (by kernel_rfl) ?_
    refine pwp_ret (q_seq_ret ?_)
    cases h
    exact q_ret (by kernel_rfl) (by kernel_rfl) (by kernel_rfl)
  refine r_cond_f hb (by kernel_rfl) ?_
  refine pwp_skip (q_next (pwp_seq (r_reg ?_)))
  refine e_end (by kernel_rfl) ?_
  refine q_next (pwp_seq (pwp_seq ?_))
  refine r_regd (by kernel_rfl) (by kernel_rfl) ?_
  refine p_run 4 (by kernel_rfl) ?_
  obtain ⟨x2, h2, h⟩ := o_bind h
  refine p_ix h2 (by kernel_rfl) ?_
  refine p_run 4 (by kernel_rfl) ?_
  obtain ⟨r3, h3, h⟩ := o_bind h
  refine p_call (d_rail_Legs_fz _ _ r3 h3) (by kernel_rfl) (by kernel_rfl) ?_
  refine p_len (L := (r3 : (List Int))) (by kernel_rfl) ?_
  refine e_end (by kernel_rfl) ?_
  refine q_next (pwp_block ?_)
  refine g_nil 5 100005 3 24 (by kernel_rfl) (by kernel_rfl) ?_
  obtain ⟨o11, h11, h⟩ := o_inl h
  refine r_loop2 39 0 (fun (x9, x10) => ⟨[(3, .ref 3 0), (5, lstOf (.own 100005) (x10 : (List T_api_Step))), (22, lstOf .frozen (r3 : (List Int))), (23, .int .i64 ((r3.length : Nat) : Int)), (24, .int .i64 x9)], [(3, .cells (cellsOf a1))], [(100005, (((x10).map cellsOf).length, 3))], []⟩) (fun x13 => ⟨[(5, lstOf (.own 100005) (x13 : (List T_api_Step)))], [], [(100005, (((x13).map cellsOf).length, 3))], []⟩) h11 (by kernel_rfl) (fun _ => by kernel_rfl) ?_ ?_
  · rintro ⟨x9, x10⟩ oh10 h10
    unfold d_walk_Branches_0 at h10
    refine pwp_seq (r_reg ?_)
    refine e_end (by kernel_rfl) ?_
    refine q_next (pwp_seq ?_)
    rcases o_cond h10 with ⟨hb, h10⟩ | ⟨hb, h10⟩
    · refine r_cond_t hb (by kernel_rfl) ?_
      refine pwp_skip (q_next (pwp_seq (pwp_block (pwp_seq (r_reg ?_)))))
      obtain ⟨x14, h12, h10⟩ := o_bind h10
      refine p_ix h12 (by kernel_rfl) ?_
      refine e_end (by kernel_rfl) ?_
      refine q_next (r_reg ?_)
      refine p_run 8 (by kernel_rfl) ?_
      obtain ⟨x15, h13, h10⟩ := o_bind h10
      refine p_app (tk := 100005) h13 (by kernel_rfl) (by kernel_rfl) ?_
      refine e_end (by kernel_rfl) ?_
      refine q_block (q_next (r_reg ?_))
      refine e_end (by kernel_rfl) ?_
      cases h10
      exact q_lback (by kernel_rfl)
    refine r_cond_f hb (by kernel_rfl) ?_
    refine pwp_exit (q_seq_exit ?_)
    cases h10
    exact q_lexit (by kernel_rfl) (by kernel_rfl)
  rintro x13 s' rfl hs
  have h := o_outl h
  refine q_block_hit ?_
  refine q_next (pwp_wkr hs ?_)
  refine pwp_seq (r_reg ?_)
  refine e_end (by kernel_rfl) ?_
  refine q_next (pwp_ret ?_)
  cases h
  exact q_ret (by kernel_rfl) (by kernel_rfl) (by kernel_rfl)
noncomputable def d_overlap_steps_0 (a0 : T_api_Layout) (a1 : T_api_Route) (r1 : (T_api_Signal × Bool)) : (Bool × T_api_End × (List T_api_Step)) → Option ((Bool × T_api_End × (List T_api_Step)) ⊕ ((List T_api_Step) ⊕ (List T_api_Step))) := fun (x28, x29, x30) =>
  ((bif x28 then (
    (d_walk_Length a0 x30).bind fun r45 =>
    some (decide (r45 < r1.1.Overlap))
  ) else some false) : Option Bool).bind fun b44 =>
  ((bif b44 then (
    some (decide (((x30.length : Nat) : Int) < 12))
  ) else some false) : Option Bool).bind fun b46 =>
  bif b46 then (
    (d_overlap_covers x30 x29.El).bind fun r47 =>
    ((bif r47 then some true else (
      (d_layout_Section a0 x29.El).bind fun r49 =>
      (d_overlap_obstructed r49 a1.Sections).bind fun r50 =>
      some r50
    )) : Option Bool).bind fun b48 =>
    bif b48 then (
      some (.inr (.inl x30))
    ) else (
      (d_walk_Branches a0 x29).bind fun r51 =>
      bif decide (((r51.length : Nat) : Int) = 0) then (
        some (.inr (.inl x30))
      ) else (
        (ixO r51 0).bind fun x52 =>
        (appO x30 [x52]).bind fun x53 =>
        (ixO r51 0).bind fun x54 =>
        (d_walk_Next a0 x54).bind fun r55 =>
        some (.inl (r55.2, r55.1, x53))
      )
    )
  ) else (
    some (.inr (.inl x30))
  )

noncomputable def d_overlap_steps (a0 : T_api_Layout) (a1 : T_api_Route) : Option (List T_api_Step) :=
  (d_overlap_exitSignal a0 a1).bind fun r1 =>
  bif (!r1.2) then (
    some ([] : (List T_api_Step))
  ) else (
    (d_layout_Joined a0 r1.1.At).bind fun r2 =>
    onInl (α := (List T_api_Step)) (β := (List T_api_Step)) (loopO (d_overlap_steps_0 a0 a1 r1) (r2.2, r2.1, ([] : (List T_api_Step)))) fun x43 =>
    some x43
  )
theorem d_overlap_steps_ok (a0 : T_api_Layout) (a1 : T_api_Route) (r : (List T_api_Step)) (h : d_overlap_steps a0 a1 = some r) : PCall Go.Proofs.Tryd.prog GlS 21 [Enc.pv a0, Enc.pv a1] (lstOf (.own 100007) r) := by
  unfold d_overlap_steps at h
  refine pcall_of_pwp Go.Proofs.Tryd.func21 (by rfl) rfl Go.Proofs.Tryd.ntmps21 (by rfl) rfl ?_
  refine pwp_seq (r_reg ?_)
  refine e_end (by kernel_rfl) ?_
  refine q_next (pwp_seq (r_reg ?_))
  refine p_run 2 (by kernel_rfl) ?_
  obtain ⟨r1, h1, h⟩ := o_bind h
  refine p_call (d_overlap_exitSignal_ok _ _ r1 h1) (by kernel_rfl) (by kernel_rfl) ?_
  refine e_end (by kernel_rfl) ?_
  refine q_next (pwp_seq (pwp_seq (r_reg ?_)))
  refine e_end (by kernel_rfl) ?_
  refine q_next ?_
  rcases o_cond h with ⟨hb, h⟩ | ⟨hb, h⟩
  · refine r_cond_t hb (by kernel_rfl) ?_
    refine pwp_seq (r_reg ?_)
    refine e_end (by kernel_rfl) ?_
    refine q_next ?_
    refine g_nil 4 100007 3 24 (by kernel_rfl) (by kernel_rfl) ?_
    refine pwp_ret (q_seq_ret ?_)
    cases h
    exact q_ret (by kernel_rfl) (by kernel_rfl) (by kernel_rfl)
  refine r_cond_f hb (by kernel_rfl) ?_
  refine pwp_skip (q_next (pwp_seq (r_reg ?_)))
  refine e_end (by kernel_rfl) ?_
  refine q_next (pwp_seq (r_reg ?_))
  refine p_run 3 (by kernel_rfl) ?_
  obtain ⟨r2, h2, h⟩ := o_bind h
  refine p_call (d_layout_Joined_ok _ _ r2 h2) (by kernel_rfl) (by kernel_rfl) ?_
  refine e_end (by kernel_rfl) ?_
  refine q_next (pwp_seq (pwp_block ?_))
  refine g_nil 7 100007 3 24 (by kernel_rfl) (by kernel_rfl) ?_
  obtain ⟨o39, h39, h⟩ := o_inl h
  refine r_loop2 73 0 (fun (x28, x29, x30) => ⟨[(2, .ref 2 0), (3, .ref 3 0), (5, .ref 5 0), (6, .bool x28), (7, lstOf (.own 100007) (x30 : (List T_api_Step))), (8, .ref 8 0)], [(2, .cells (cellsOf a0)), (3, .cells (cellsOf a1)), (5, .cells (cellsOf r1.1)), (8, .cells (cellsOf x29))], [(100007, (((x30).map cellsOf).length, 3))], []⟩) (fun x43 => ⟨[(7, lstOf (.own 100007) (x43 : (List T_api_Step)))], [], [(100007, (((x43).map cellsOf).length, 3))], []⟩) h39 (by kernel_rfl) (fun _ => by kernel_rfl) ?_ ?_
  · rintro ⟨x28, x29, x30⟩ oh38 h38
    unfold d_overlap_steps_0 at h38
    refine pwp_seq (pwp_seq ?_)
    refine r_regd (by kernel_rfl) (by kernel_rfl) ?_
    obtain ⟨b44, h40, h38⟩ := o_bind h38
    refine p_run 2 (by kernel_rfl) ?_
    refine e_seg 7 33 (.bool b44) ?_ ?_
    · rcases o_cond h40 with ⟨hb, h40⟩ | ⟨hb, h40⟩
      · refine p_settle 26 hb (by kernel_rfl) (by kernel_rfl) ?_
        refine p_run 2 (by kernel_rfl) ?_
        obtain ⟨r45, h41, h40⟩ := o_bind h40
        refine p_call (d_walk_Length_ok _ _ r45 h41) (by kernel_rfl) (by kernel_rfl) ?_
        cases h40
        exact f_end (by kernel_rfl) (by kernel_rfl)
      refine p_settle 26 hb (by kernel_rfl) (by kernel_rfl) ?_
      cases h40
      exact f_end (by kernel_rfl) (by kernel_rfl)
    obtain ⟨b46, h42, h38⟩ := o_bind h38
    refine p_run 1 (by kernel_rfl) ?_
    refine e_seg 4 38 (.bool b46) ?_ ?_
    · rcases o_cond h42 with ⟨hb, h42⟩ | ⟨hb, h42⟩
      · refine p_settle 34 hb (by kernel_rfl) (by kernel_rfl) ?_
        refine p_run 1 (by kernel_rfl) ?_
        refine p_len (L := (x30 : (List T_api_Step))) (by kernel_rfl) ?_
        cases h42
        exact f_end (by kernel_rfl) (by kernel_rfl)
      refine p_settle 34 hb (by kernel_rfl) (by kernel_rfl) ?_
      cases h42
      exact f_end (by kernel_rfl) (by kernel_rfl)
    refine e_nil (by kernel_rfl) ?_
    refine q_next ?_
    rcases o_cond h38 with ⟨hb, h38⟩ | ⟨hb, h38⟩
    · refine r_cond_t hb (by kernel_rfl) ?_
      refine pwp_skip (q_next (pwp_block (pwp_seq (pwp_seq ?_))))
      refine r_regd (by kernel_rfl) (by kernel_rfl) ?_
      refine p_run 3 (by kernel_rfl) ?_
      obtain ⟨r47, h43, h38⟩ := o_bind h38
      refine p_call (d_overlap_covers_ok _ _ r47 h43) (by kernel_rfl) (by kernel_rfl) ?_
      obtain ⟨b48, h44, h38⟩ := o_bind h38
      refine p_run 1 (by kernel_rfl) ?_
      refine e_seg 8 51 (.bool b48) ?_ ?_
      · rcases o_cond h44 with ⟨hb, h44⟩ | ⟨hb, h44⟩
        · refine p_settle 43 hb (by kernel_rfl) (by kernel_rfl) ?_
          cases h44
          exact f_end (by kernel_rfl) (by kernel_rfl)
        refine p_settle 43 hb (by kernel_rfl) (by kernel_rfl) ?_
        refine p_run 3 (by kernel_rfl) ?_
        obtain ⟨r49, h45, h44⟩ := o_bind h44
        refine p_call (d_layout_Section_ok _ _ r49 h45) (by kernel_rfl) (by kernel_rfl) ?_
        refine p_run 2 (by kernel_rfl) ?_
        obtain ⟨r50, h46, h44⟩ := o_bind h44
        refine p_call (d_overlap_obstructed_ok _ _ r50 h46) (by kernel_rfl) (by kernel_rfl) ?_
        cases h44
        exact f_end (by kernel_rfl) (by kernel_rfl)
      refine e_nil (by kernel_rfl) ?_
      refine q_next ?_
      rcases o_cond h38 with ⟨hb, h38⟩ | ⟨hb, h38⟩
      · refine r_cond_t hb (by kernel_rfl) ?_
        refine pwp_exit (q_seq_exit ?_)
        refine q_block_miss rfl ?_
        cases h38
        exact q_lexit (by kernel_rfl) (by kernel_rfl)
      refine r_cond_f hb (by kernel_rfl) ?_
      refine pwp_skip (q_next (pwp_seq (r_reg ?_)))
      refine p_run 2 (by kernel_rfl) ?_
      obtain ⟨r51, h47, h38⟩ := o_bind h38
      refine p_call (d_walk_Branches_ok _ _ r51 h47) (by kernel_rfl) (by kernel_rfl) ?_
      refine e_end (by kernel_rfl) ?_
      refine q_next (pwp_seq (pwp_seq (r_reg ?_)))
      refine p_run 1 (by kernel_rfl) ?_
      refine p_len (L := (r51 : (List T_api_Step))) (by kernel_rfl) ?_
      refine e_end (by kernel_rfl) ?_
      refine q_next ?_
      rcases o_cond h38 with ⟨hb, h38⟩ | ⟨hb, h38⟩
      · refine r_cond_t hb (by kernel_rfl) ?_
        refine pwp_exit (q_seq_exit ?_)
        refine q_block_miss rfl ?_
        cases h38
        exact q_lexit (by kernel_rfl) (by kernel_rfl)
      refine r_cond_f hb (by kernel_rfl) ?_
      refine pwp_skip (q_next (pwp_seq (r_reg ?_)))
      refine p_run 2 (by kernel_rfl) ?_
      obtain ⟨x52, h48, h38⟩ := o_bind h38
      refine p_ix h48 (by kernel_rfl) ?_
      refine p_run 2 (by kernel_rfl) ?_
      obtain ⟨x53, h49, h38⟩ := o_bind h38
      refine p_app (tk := 100007) h49 (by kernel_rfl) (by kernel_rfl) ?_
      refine e_end (by kernel_rfl) ?_
      refine q_next ?_
      refine r_regd (by kernel_rfl) (by kernel_rfl) ?_
      refine p_run 2 (by kernel_rfl) ?_
      obtain ⟨x54, h50, h38⟩ := o_bind h38
      refine p_ix h50 (by kernel_rfl) ?_
      refine p_run 1 (by kernel_rfl) ?_
      obtain ⟨r55, h51, h38⟩ := o_bind h38
      refine p_call (d_walk_Next_ok _ _ r55 h51) (by kernel_rfl) (by kernel_rfl) ?_
      refine e_end (by kernel_rfl) ?_
      refine q_block ?_
      cases h38
      exact q_lback (by kernel_rfl)
    refine r_cond_f hb (by kernel_rfl) ?_
    refine pwp_exit (q_seq_exit ?_)
    cases h38
    exact q_lexit (by kernel_rfl) (by kernel_rfl)
  rintro x43 s' rfl hs
  have h := o_outl h
  refine q_block_hit ?_
  refine q_next (pwp_wkr hs ?_)
  refine pwp_seq (r_reg ?_)
  refine e_end (by kernel_rfl) ?_
  refine q_next (pwp_ret ?_)
  cases h
  exact q_ret (by kernel_rfl) (by kernel_rfl) (by kernel_rfl)
noncomputable def d_walk_Settings_0 (a0 : T_api_Layout) (a1 : (List T_api_Step)) : (Int × (List T_api_Setting)) → Option ((Int × (List T_api_Setting)) ⊕ ((List T_api_Setting) ⊕ (List T_api_Setting))) := fun (x24, x25) =>
  bif decide (x24 < ((a1.length : Nat) : Int)) then (
    onInl (α := (List T_api_Setting)) (β := ((Int × (List T_api_Setting)) ⊕ ((List T_api_Setting) ⊕ (List T_api_Setting)))) (
      (ixO a1 x24).bind fun x44 =>
      (d_walk_possible a0 x44).bind fun r45 =>
      ((bif r45.2 then (
        (ixO a0.Elements x44.El).bind fun x47 =>
        some (decide (x47.Kind = 2))
      ) else some false) : Option Bool).bind fun b46 =>
      bif b46 then (
        (appO x25 [(T_api_Setting.mk x44.El r45.1)]).bind fun x48 =>
        some (.inl x48)
      ) else (
        some (.inl x25)
      )
    ) fun x43 =>
    some (.inl (w64 (x24 + 1), x43))
  ) else (
    some (.inr (.inl x25))
  )

noncomputable def d_walk_Settings (a0 : T_api_Layout) (a1 : (List T_api_Step)) : Option (List T_api_Setting) :=
  onInl (α := (List T_api_Setting)) (β := (List T_api_Setting)) (loopO (d_walk_Settings_0 a0 a1) (0, ([] : (List T_api_Setting)))) fun x37 =>
  (d_slices_SortFunc_api_Setting__walk_Settings_1 x37).bind fun r49 =>
  (d_slices_Compact_api_Setting r49).bind fun r50 =>
  some (r50.1.take r50.2)
theorem d_walk_Settings_ok (a0 : T_api_Layout) (a1 : (List T_api_Step)) (r : (List T_api_Setting)) (h : d_walk_Settings a0 a1 = some r) : PCall Go.Proofs.Tryd.prog GlS 26 [Enc.pv a0, Enc.pv a1] (Enc.pv r) := by
  unfold d_walk_Settings at h
  refine pcall_of_pwp Go.Proofs.Tryd.func26 (by rfl) rfl Go.Proofs.Tryd.ntmps26 (by rfl) rfl ?_
  refine pwp_seq (r_reg ?_)
  refine e_end (by kernel_rfl) ?_
  refine q_next (pwp_seq (r_reg ?_))
  refine e_end (by kernel_rfl) ?_
  refine q_next (pwp_seq (pwp_seq (r_reg ?_)))
  refine p_run 1 (by kernel_rfl) ?_
  refine p_len (L := (a1 : (List T_api_Step))) (by kernel_rfl) ?_
  refine e_end (by kernel_rfl) ?_
  refine q_next (pwp_block ?_)
  refine pwp_wkr (wkr_nilX 5 100005 2 16 (by kernel_rfl) (by kernel_rfl)) ?_
  obtain ⟨o35, h35, h⟩ := o_inl h
  refine r_loop2 45 0 (fun (x24, x25) => ⟨[(2, .ref 2 0), (5, .ex 100005 2 16 (((x25 : (List T_api_Setting)).map cellsOf).length) 0 (((x25 : (List T_api_Setting)).map cellsOf).length)), (10, lstOf .frozen (a1 : (List T_api_Step))), (11, .int .i64 ((a1.length : Nat) : Int)), (12, .int .i64 x24)], [(2, .cells (cellsOf a0))], [(100005, (((x25 : (List T_api_Setting)).map cellsOf).length, 0))], [(100005, (2, (16, (x25 : (List T_api_Setting)).map cellsOf)))]⟩) (fun x37 => ⟨[(5, .ex 100005 2 16 (((x37 : (List T_api_Setting)).map cellsOf).length) 0 (((x37 : (List T_api_Setting)).map cellsOf).length))], [], [(100005, (((x37 : (List T_api_Setting)).map cellsOf).length, 0))], [(100005, (2, (16, (x37 : (List T_api_Setting)).map cellsOf)))]⟩) h35 (by kernel_rfl) (fun _ => by kernel_rfl) ?_ ?_
  · rintro ⟨x24, x25⟩ oh34 h34
    unfold d_walk_Settings_0 at h34
    refine pwp_seq (r_reg ?_)
    refine e_end (by kernel_rfl) ?_
    refine q_next (pwp_seq ?_)
    rcases o_cond h34 with ⟨hb, h34⟩ | ⟨hb, h34⟩
    · refine r_cond_t hb (by kernel_rfl) ?_
      refine pwp_skip (q_next ?_)
      obtain ⟨o41, h41, h34⟩ := o_inl h34
      refine r_join (o := o41) 45 (fun x43 => ⟨[(2, .ref 2 0), (5, .ex 100005 2 16 (((x43 : (List T_api_Setting)).map cellsOf).length) 0 (((x43 : (List T_api_Setting)).map cellsOf).length)), (10, lstOf .frozen (a1 : (List T_api_Step))), (11, .int .i64 ((a1.length : Nat) : Int)), (12, .int .i64 x24)], [(2, .cells (cellsOf a0))], [(100005, (((x43 : (List T_api_Setting)).map cellsOf).length, 0))], [(100005, (2, (16, (x43 : (List T_api_Setting)).map cellsOf)))]⟩) ?_ ?_
      · refine pwp_block (pwp_seq (r_reg ?_))
        obtain ⟨x44, h42, h41⟩ := o_bind h41
        refine p_ix h42 (by kernel_rfl) ?_
        refine e_end (by kernel_rfl) ?_
        refine q_next (pwp_seq (r_reg ?_))
        refine p_run 2 (by kernel_rfl) ?_
        obtain ⟨r45, h43, h41⟩ := o_bind h41
        refine p_call (d_walk_possible_ok _ _ r45 h43) (by kernel_rfl) (by kernel_rfl) ?_
        refine e_end (by kernel_rfl) ?_
        refine q_next (pwp_seq (r_reg ?_))
        obtain ⟨b46, h44, h41⟩ := o_bind h41
        refine p_run 2 (by kernel_rfl) ?_
        refine e_seg 9 32 (.bool b46) ?_ ?_
        · rcases o_cond h44 with ⟨hb, h44⟩ | ⟨hb, h44⟩
          · refine p_settle 23 hb (by kernel_rfl) (by kernel_rfl) ?_
            refine p_run 4 (by kernel_rfl) ?_
            obtain ⟨x47, h45, h44⟩ := o_bind h44
            refine p_ix h45 (by kernel_rfl) ?_
            cases h44
            exact f_end (by kernel_rfl) (by kernel_rfl)
          refine p_settle 23 hb (by kernel_rfl) (by kernel_rfl) ?_
          cases h44
          exact f_end (by kernel_rfl) (by kernel_rfl)
        refine e_nil (by kernel_rfl) ?_
        refine q_next ?_
        rcases o_cond h41 with ⟨hb, h41⟩ | ⟨hb, h41⟩
        · refine r_cond_t hb (by kernel_rfl) ?_
          refine r_reg ?_
          refine p_run 6 (by kernel_rfl) ?_
          obtain ⟨x48, h46, h41⟩ := o_bind h41
          refine p_xapp (tk := 100005) (N := ((x25 : (List T_api_Setting)).map cellsOf).length) h46 (by kernel_rfl) (by kernel_rfl) (by kernel_rfl) ?_
          refine e_end (by kernel_rfl) ?_
          refine q_block ?_
          cases h41
          exact q_join (by kernel_rfl) (by kernel_rfl)
        refine r_cond_f hb (by kernel_rfl) ?_
        refine pwp_skip (q_block ?_)
        cases h41
        exact q_join (by kernel_rfl) (by kernel_rfl)
      rintro x43 rfl
      have h34 := o_outl h34
      refine r_reg ?_
      refine e_end (by kernel_rfl) ?_
      cases h34
      exact q_lback (by kernel_rfl)
    refine r_cond_f hb (by kernel_rfl) ?_
    refine pwp_exit (q_seq_exit ?_)
    cases h34
    exact q_lexit (by kernel_rfl) (by kernel_rfl)
  rintro x37 s' rfl hs
  have h := o_outl h
  refine q_block_hit ?_
  refine q_next (pwp_wkr hs ?_)
  refine pwp_seq (r_reg ?_)
  refine p_run 1 (by kernel_rfl) ?_
  obtain ⟨r49, h47, h⟩ := o_bind h
  refine p_xcall (t := 100005) (L := (x37 : (List T_api_Setting))) (L' := (r49 : (List T_api_Setting))) (N := ((x37 : (List T_api_Setting)).map cellsOf).length) (by kernel_rfl) (by kernel_rfl) (by kernel_rfl) (d_slices_SortFunc_api_Setting__walk_Settings_1_xc _ r49 h47) ?_
  refine e_nil (by kernel_rfl) ?_
  refine q_next (pwp_seq (r_reg ?_))
  refine p_run 1 (by kernel_rfl) ?_
  obtain ⟨r50, h48, h⟩ := o_bind h
  refine p_xcallS (t := 100005) (L := (r49 : (List T_api_Setting))) (L' := (r50.1 : (List T_api_Setting))) (m := r50.2) (N := ((x37 : (List T_api_Setting)).map cellsOf).length) (by kernel_rfl) (by kernel_rfl) (by kernel_rfl) (d_slices_Compact_api_Setting_xc _ r50 h48) ?_
  refine e_end (by kernel_rfl) ?_
  refine q_next (pwp_ret ?_)
  cases h
  exact q_ret (by kernel_rfl) (by kernel_rfl) (by kernel_rfl)

end PM
