/-
  Plain functions for the program's functions, and the proofs that the program does them. Printed by den.py.
-/
import Derived.Test.YtmbcgmlgbcookaaDoorDen1
namespace PM
open Go Go.RowKit
attribute [local irreducible] pops pwp

/-! signallinglaw18.ExprReplaces -/
noncomputable def d_law18_ExprReplaces_0 (a1 : Int) (r14 : (List Int)) : (Bool × Int) → Option ((Bool × Int) ⊕ (Bool ⊕ Bool)) := fun (x16, x17) =>
  bif decide (x17 < ((r14.length : Nat) : Int)) then (
    (ixO r14 x17).bind fun x20 =>
    some (.inl ((x16 || (decide (x20 = a1))), w64 (x17 + 1)))
  ) else (
    some (.inr (.inl x16))
  )

noncomputable def d_law18_ExprReplaces (a0 : T_api_Expr) (a1 : Int) (a2 : T_api_Expr) (a3 : (List Bool)) : Option Bool :=
  (d_law18_modest a0).bind fun r1 =>
  ((bif (!r1) then some true else (
    (d_law18_modest a2).bind fun r3 =>
    some (!r3)
  )) : Option Bool).bind fun b2 =>
  ((bif ((b2 || (decide (a1 < 0))) || (decide (100 ≤ a1))) then some true else (
    some (decide (100 < ((a3.length : Nat) : Int)))
  )) : Option Bool).bind fun b4 =>
  bif b4 then (
    (d_law18_alive ).bind fun r5 =>
    some r5
  ) else (
    (mkxO 100 100 1 (false : Bool)).bind fun x6 =>
    (xcpO x6 (((x6 : (List Bool)).map cellsOf).length) a3).bind fun x7 =>
    (d_expr_Eval a2 a3).bind fun r8 =>
    (xixO 0 (((x6 : (List Bool)).map cellsOf).length) a1).bind fun j9 =>
    (xldO x7 (((x6 : (List Bool)).map cellsOf).length) j9).bind fun x10 =>
    (d_expr_Replace a0 a1 a2).bind fun r11 =>
    (d_expr_Eval r11 a3).bind fun r12 =>
    (d_expr_Eval a0 (x7.set j9 r8)).bind fun r13 =>
    bif (!(r12 == r13)) then (
      some false
    ) else (
      (d_expr_Vars a0).bind fun r14 =>
      onInl (α := Bool) (β := Bool) (loopO (d_law18_ExprReplaces_0 a1 r14) (false, 0)) fun x19 =>
      ((bif x19 then some true else (
        (d_expr_Eval a0 (x7.set j9 r8)).bind fun r22 =>
        (d_expr_Eval a0 a3).bind fun r23 =>
        some (r22 == r23)
      )) : Option Bool).bind fun b21 =>
      ((bif b21 then (
        (d_law18_alive ).bind fun r25 =>
        some r25
      ) else some false) : Option Bool).bind fun b24 =>
      some b24
    )
  )
set_option maxHeartbeats 1600000 in
theorem d_law18_ExprReplaces_ok (a0 : T_api_Expr) (a1 : Int) (a2 : T_api_Expr) (a3 : (List Bool)) (r : Bool) (h : d_law18_ExprReplaces a0 a1 a2 a3 = some r) : PCall Go.Proofs.Tryd.prog GlS 7 [Enc.pv a0, Enc.pv a1, Enc.pv a2, Enc.pv a3] (Enc.pv r) := by
  unfold d_law18_ExprReplaces at h
  refine pcall_of_pwp Go.Proofs.Tryd.func7 (by rfl) rfl Go.Proofs.Tryd.ntmps7 (by rfl) rfl ?_
  refine pwp_seq (r_reg ?_)
  refine e_end (by kernel_rfl) ?_
  refine q_next (pwp_seq (pwp_seq (r_reg ?_)))
  refine p_run 1 (by kernel_rfl) ?_
  obtain ⟨r1, h1, h⟩ := o_bind h
  refine p_call (d_law18_modest_ok _ r1 h1) (by kernel_rfl) (by kernel_rfl) ?_
  obtain ⟨b2, h2, h⟩ := o_bind h
  refine p_run 2 (by kernel_rfl) ?_
  refine e_seg 4 20 (.bool b2) ?_ ?_
  · rcases o_cond h2 with ⟨hb, h2⟩ | ⟨hb, h2⟩
    · refine p_settle 16 hb (by kernel_rfl) (by kernel_rfl) ?_
      cases h2
      exact f_end (by kernel_rfl) (by kernel_rfl)
    refine p_settle 16 hb (by kernel_rfl) (by kernel_rfl) ?_
    refine p_run 1 (by kernel_rfl) ?_
    obtain ⟨r3, h3, h2⟩ := o_bind h2
    refine p_call (d_law18_modest_ok _ r3 h3) (by kernel_rfl) (by kernel_rfl) ?_
    cases h2
    exact f_end (by kernel_rfl) (by kernel_rfl)
  refine p_run 1 (by kernel_rfl) ?_
  refine e_segb 3 24 (b2 || (decide (a1 < 0))) (fun x hx => ?_) ?_
  · rcases b_or hx with ⟨hb, hx⟩ | ⟨hb, hx⟩
    · refine p_settle 21 hb (by kernel_rfl) (by kernel_rfl) ?_
      subst hx
      exact f_end (by kernel_rfl) (by kernel_rfl)
    refine p_settle 21 hb (by kernel_rfl) (by kernel_rfl) ?_
    subst hx
    exact f_end (by kernel_rfl) (by kernel_rfl)
  refine p_run 1 (by kernel_rfl) ?_
  refine e_segb 3 28 ((b2 || (decide (a1 < 0))) || (decide (100 ≤ a1))) (fun x hx => ?_) ?_
  · rcases b_or hx with ⟨hb, hx⟩ | ⟨hb, hx⟩
    · refine p_settle 25 hb (by kernel_rfl) (by kernel_rfl) ?_
      subst hx
      exact f_end (by kernel_rfl) (by kernel_rfl)
    refine p_settle 25 hb (by kernel_rfl) (by kernel_rfl) ?_
    subst hx
    exact f_end (by kernel_rfl) (by kernel_rfl)
  obtain ⟨b4, h4, h⟩ := o_bind h
  refine p_run 1 (by kernel_rfl) ?_
  refine e_seg 4 33 (.bool b4) ?_ ?_
  · rcases o_cond h4 with ⟨hb, h4⟩ | ⟨hb, h4⟩
    · refine p_settle 29 hb (by kernel_rfl) (by kernel_rfl) ?_
      cases h4
      exact f_end (by kernel_rfl) (by kernel_rfl)
    refine p_settle 29 hb (by kernel_rfl) (by kernel_rfl) ?_
    refine p_run 1 (by kernel_rfl) ?_
    refine p_len (L := (a3 : (List Bool))) (by kernel_rfl) ?_
    cases h4
    exact f_end (by kernel_rfl) (by kernel_rfl)
  refine e_nil (by kernel_rfl) ?_
  refine q_next ?_
  rcases o_cond h with ⟨hb, h⟩ | ⟨hb, h⟩
  · refine r_cond_t hb (by kernel_rfl) ?_
    refine pwp_seq (r_reg ?_)
    obtain ⟨r5, h5, h⟩ := o_bind h
    refine p_call (d_law18_alive_ok  r5 h5) (by kernel_rfl) (by kernel_rfl) ?_
    refine e_end (by kernel_rfl) ?_
    refine q_next (pwp_ret (q_seq_ret ?_))
    cases h
    exact q_ret (by kernel_rfl) (by kernel_rfl) (by kernel_rfl)
  refine r_cond_f hb (by kernel_rfl) ?_
  refine pwp_skip (q_next (pwp_seq (r_reg ?_)))
  obtain ⟨x6, h6, h⟩ := o_bind h
  refine p_xmk (z := (false : Bool)) 35 h6 (by kernel_rfl) (by kernel_rfl) ?_
  refine e_end (by kernel_rfl) ?_
  refine q_next (pwp_seq (r_reg ?_))
  refine p_run 2 (by kernel_rfl) ?_
  obtain ⟨x7, h7, h⟩ := o_bind h
  refine p_xcp (L := (x6 : (List Bool))) (tk := 35) (N := ((x6 : (List Bool)).map cellsOf).length) h7 rfl (by kernel_rfl) (by kernel_rfl) (by kernel_rfl) ?_
  refine e_nil (by kernel_rfl) ?_
  refine q_next (pwp_seq (r_reg ?_))
  refine p_run 4 (by kernel_rfl) ?_
  obtain ⟨r8, h8, h⟩ := o_bind h
  refine p_call (d_expr_Eval_ok _ _ r8 h8) (by kernel_rfl) (by kernel_rfl) ?_
  obtain ⟨j9, h9, h⟩ := o_bind h
  refine p_xix (tk := 35) (k := 1) (N := ((x6 : (List Bool)).map cellsOf).length) h9 (by kernel_rfl) ?_
  obtain ⟨x10, h10, h⟩ := o_bind h
  refine p_xst (L := (x7 : (List Bool))) (tk := 35) (N := ((x6 : (List Bool)).map cellsOf).length) (j := j9) (y := x10) (y' := r8) h10 0 1 [.bool r8] (by kernel_rfl) (by kernel_rfl) ?_
  refine e_nil (by kernel_rfl) ?_
  refine q_next (pwp_seq (pwp_seq ?_))
  refine pwp_wkr (wkr_share (xss := ((x7.set j9 r8) : (List Bool)).map cellsOf) 35 1 1 (((x6 : (List Bool)).map cellsOf).length) [9, 35, 36, 39] [] (by kernel_rfl) (by kernel_rfl) (by kernel_rfl) (by kernel_rfl)) ?_
  refine r_regd (by kernel_rfl) (by kernel_rfl) ?_
  refine p_run 3 (by kernel_rfl) ?_
  obtain ⟨r11, h11, h⟩ := o_bind h
  refine p_call (d_expr_Replace_ok _ _ _ r11 h11) (by kernel_rfl) (by kernel_rfl) ?_
  refine p_run 1 (by kernel_rfl) ?_
  obtain ⟨r12, h12, h⟩ := o_bind h
  refine p_call (d_expr_Eval_ok _ _ r12 h12) (by kernel_rfl) (by kernel_rfl) ?_
  refine p_run 2 (by kernel_rfl) ?_
  obtain ⟨r13, h13, h⟩ := o_bind h
  refine p_call (d_expr_Eval_ok _ _ r13 h13) (by kernel_rfl) (by kernel_rfl) ?_
  refine e_end (by kernel_rfl) ?_
  refine q_next ?_
  rcases o_cond h with ⟨hb, h⟩ | ⟨hb, h⟩
  · refine r_cond_t hb (by kernel_rfl) ?_
    refine pwp_seq (r_reg ?_)
    refine e_end (by kernel_rfl) ?_
    refine q_next (pwp_ret (q_seq_ret ?_))
    cases h
    exact q_ret (by kernel_rfl) (by kernel_rfl) (by kernel_rfl)
  refine r_cond_f hb (by kernel_rfl) ?_
  refine pwp_skip (q_next (pwp_seq (r_reg ?_)))
  refine e_end (by kernel_rfl) ?_
  refine q_next (pwp_seq (pwp_seq (r_reg ?_)))
  refine p_run 1 (by kernel_rfl) ?_
  obtain ⟨r14, h14, h⟩ := o_bind h
  refine p_call (d_expr_Vars_ok _ r14 h14) (by kernel_rfl) (by kernel_rfl) ?_
  refine p_len (L := (r14 : (List Int))) (by kernel_rfl) ?_
  refine e_end (by kernel_rfl) ?_
  refine q_next (pwp_block ?_)
  obtain ⟨o18, h18, h⟩ := o_inl h
  refine r_loop2 82 0 (fun (x16, x17) => ⟨[(1, .int .i64 a1), (3, lstOf .frozen (a3 : (List Bool))), (4, .ref 4 0), (9, lstOf .frozen ((x7.set j9 r8) : (List Bool))), (10, .bool x16), (56, lstOf .frozen (r14 : (List Int))), (57, .int .i64 ((r14.length : Nat) : Int)), (58, .int .i64 x17)], [(4, .cells (cellsOf a0))], [], []⟩) (fun x19 => ⟨[(3, lstOf .frozen (a3 : (List Bool))), (4, .ref 4 0), (9, lstOf .frozen ((x7.set j9 r8) : (List Bool))), (10, .bool x19)], [(4, .cells (cellsOf a0))], [], []⟩) h18 (by kernel_rfl) (fun _ => by kernel_rfl) ?_ ?_
  · rintro ⟨x16, x17⟩ oh17 h17
    unfold d_law18_ExprReplaces_0 at h17
    refine pwp_seq (r_reg ?_)
    refine e_end (by kernel_rfl) ?_
    refine q_next (pwp_seq ?_)
    rcases o_cond h17 with ⟨hb, h17⟩ | ⟨hb, h17⟩
    · refine r_cond_t hb (by kernel_rfl) ?_
      refine pwp_skip (q_next (pwp_seq (pwp_block (pwp_seq (r_reg ?_)))))
      obtain ⟨x20, h19, h17⟩ := o_bind h17
      refine p_ix h19 (by kernel_rfl) ?_
      refine e_end (by kernel_rfl) ?_
      refine q_next (r_reg ?_)
      refine p_run 2 (by kernel_rfl) ?_
      refine e_segb 4 67 (x16 || (decide (x20 = a1))) (fun x hx => ?_) ?_
      · rcases b_or hx with ⟨hb, hx⟩ | ⟨hb, hx⟩
        · refine p_settle 63 hb (by kernel_rfl) (by kernel_rfl) ?_
          subst hx
          exact f_end (by kernel_rfl) (by kernel_rfl)
        refine p_settle 63 hb (by kernel_rfl) (by kernel_rfl) ?_
        subst hx
        exact f_end (by kernel_rfl) (by kernel_rfl)
      refine e_end (by kernel_rfl) ?_
      refine q_block (q_next (r_reg ?_))
      refine e_end (by kernel_rfl) ?_
      cases h17
      exact q_lback (by kernel_rfl)
    refine r_cond_f hb (by kernel_rfl) ?_
    refine pwp_exit (q_seq_exit ?_)
    cases h17
    exact q_lexit (by kernel_rfl) (by kernel_rfl)
  rintro x19 s' rfl hs
  have h := o_outl h
  refine q_block_hit ?_
  refine q_next (pwp_wkr hs ?_)
  refine pwp_seq ?_
  refine r_regd (by kernel_rfl) (by kernel_rfl) ?_
  obtain ⟨b21, h20, h⟩ := o_bind h
  refine p_run 2 (by kernel_rfl) ?_
  refine e_seg 8 78 (.bool b21) ?_ ?_
  · rcases o_cond h20 with ⟨hb, h20⟩ | ⟨hb, h20⟩
    · refine p_settle 70 hb (by kernel_rfl) (by kernel_rfl) ?_
      cases h20
      exact f_end (by kernel_rfl) (by kernel_rfl)
    refine p_settle 70 hb (by kernel_rfl) (by kernel_rfl) ?_
    refine p_run 2 (by kernel_rfl) ?_
    obtain ⟨r22, h21, h20⟩ := o_bind h20
    refine p_call (d_expr_Eval_ok _ _ r22 h21) (by kernel_rfl) (by kernel_rfl) ?_
    refine p_run 2 (by kernel_rfl) ?_
    obtain ⟨r23, h22, h20⟩ := o_bind h20
    refine p_call (d_expr_Eval_ok _ _ r23 h22) (by kernel_rfl) (by kernel_rfl) ?_
    cases h20
    exact f_end (by kernel_rfl) (by kernel_rfl)
  obtain ⟨b24, h23, h⟩ := o_bind h
  refine p_run 1 (by kernel_rfl) ?_
  refine e_seg 2 81 (.bool b24) ?_ ?_
  · rcases o_cond h23 with ⟨hb, h23⟩ | ⟨hb, h23⟩
    · refine p_settle 79 hb (by kernel_rfl) (by kernel_rfl) ?_
      obtain ⟨r25, h24, h23⟩ := o_bind h23
      refine p_call (d_law18_alive_ok  r25 h24) (by kernel_rfl) (by kernel_rfl) ?_
      cases h23
      exact f_end (by kernel_rfl) (by kernel_rfl)
    refine p_settle 79 hb (by kernel_rfl) (by kernel_rfl) ?_
    cases h23
    exact f_end (by kernel_rfl) (by kernel_rfl)
  refine e_end (by kernel_rfl) ?_
  refine q_next (pwp_ret ?_)
  cases h
  exact q_ret (by kernel_rfl) (by kernel_rfl) (by kernel_rfl)

/-! slices.EqualFunc[[]api.Expr,[]api.Expr,api.Expr,api.Expr] -/
noncomputable def d_slices_EqualFunc_api_Expr_0 (rc_d_expr_Same : T_api_Expr → T_api_Expr → Option Bool) (a0 : (List R_api_Expr)) (a1 : (List R_api_Expr)) : Int → Option (Int ⊕ (Unit ⊕ Bool)) := fun x6 =>
  bif decide (x6 < ((a0.length : Nat) : Int)) then (
    (ixO a0 x6).bind fun x12 =>
    (dec_T_api_Expr x12).bind fun x13 =>
    (ixO a1 x6).bind fun x14 =>
    (dec_T_api_Expr x14).bind fun x15 =>
    (rc_d_expr_Same x13 x15).bind fun r16 =>
    bif (!r16) then (
      some (.inr (.inr false))
    ) else (
      some (.inl (w64 (x6 + 1)))
    )
  ) else (
    some (.inr (.inl ()))
  )

noncomputable def d_slices_EqualFunc_api_Expr__expr_Same (rc_d_expr_Same : T_api_Expr → T_api_Expr → Option Bool) (a0 : (List R_api_Expr)) (a1 : (List R_api_Expr)) : Option Bool :=
  bif (!(decide (((a0.length : Nat) : Int) = ((a1.length : Nat) : Int)))) then (
    some false
  ) else (
    onInl (α := Unit) (β := Bool) (loopO (d_slices_EqualFunc_api_Expr_0 rc_d_expr_Same a0 a1) 0) fun _ =>
    some true
  )
theorem d_slices_EqualFunc_api_Expr__expr_Same_ok (rc_d_expr_Same : T_api_Expr → T_api_Expr → Option Bool) (hrc_d_expr_Same : ∀ (a0 : T_api_Expr) (a1 : T_api_Expr) (r : Bool), rc_d_expr_Same a0 a1 = some r → PCall Go.Proofs.Tryd.prog GlS 25 [Enc.pv a0, Enc.pv a1] (Enc.pv r)) (a0 : (List R_api_Expr)) (a1 : (List R_api_Expr)) (r : Bool) (h : d_slices_EqualFunc_api_Expr__expr_Same rc_d_expr_Same a0 a1 = some r) : PCall Go.Proofs.Tryd.prog GlS 40 [Enc.pv a0, Enc.pv a1, .fn 25 []] (Enc.pv r) := by
  unfold d_slices_EqualFunc_api_Expr__expr_Same at h
  refine pcall_of_pwp Go.Proofs.Tryd.func40 (by rfl) rfl Go.Proofs.Tryd.ntmps40 (by rfl) rfl ?_
  refine pwp_seq (r_reg ?_)
  refine e_end (by kernel_rfl) ?_
  refine q_next (pwp_seq (pwp_seq (r_reg ?_)))
  refine p_run 1 (by kernel_rfl) ?_
  refine p_len (L := (a0 : (List R_api_Expr))) (by kernel_rfl) ?_
  refine p_run 1 (by kernel_rfl) ?_
  refine p_len (L := (a1 : (List R_api_Expr))) (by kernel_rfl) ?_
  refine e_end (by kernel_rfl) ?_
  refine q_next ?_
  rcases o_cond h with ⟨hb, h⟩ | ⟨hb, h⟩
  · refine r_cond_t hb (by kernel_rfl) ?_
    refine pwp_seq (r_reg ?_)
    refine e_end (by kernel_rfl) ?_
    refine q_next (pwp_ret (q_seq_ret ?_))
    cases h
    exact q_ret (by kernel_rfl) (by kernel_rfl) (by kernel_rfl)
  refine r_cond_f hb (by kernel_rfl) ?_
  refine pwp_skip (q_next (pwp_seq (pwp_seq (r_reg ?_))))
  refine p_run 1 (by kernel_rfl) ?_
  refine p_len (L := (a0 : (List R_api_Expr))) (by kernel_rfl) ?_
  refine e_end (by kernel_rfl) ?_
  refine q_next (pwp_block ?_)
  obtain ⟨o14, h14, h⟩ := o_inl h
  refine r_loop2 32 0 (fun x6 => ⟨[(1, lstOf .frozen (a1 : (List R_api_Expr))), (2, .fn 25 []), (15, lstOf .frozen (a0 : (List R_api_Expr))), (16, .int .i64 ((a0.length : Nat) : Int)), (17, .int .i64 x6)], [], [], []⟩) (fun (_ : Unit) => ⟨[], [], [], []⟩) h14 (by kernel_rfl) (fun _ => by kernel_rfl) ?_ ?_
  · rintro x6 oh13 h13
    unfold d_slices_EqualFunc_api_Expr_0 at h13
    refine pwp_seq (r_reg ?_)
    refine e_end (by kernel_rfl) ?_
    refine q_next (pwp_seq ?_)
    rcases o_cond h13 with ⟨hb, h13⟩ | ⟨hb, h13⟩
    · refine r_cond_t hb (by kernel_rfl) ?_
      refine pwp_skip (q_next (pwp_seq (pwp_block (pwp_seq (r_reg ?_)))))
      refine p_run 1 (by kernel_rfl) ?_
      obtain ⟨x12, h15, h13⟩ := o_bind h13
      obtain ⟨x13, h16, h13⟩ := o_bind h13
      rw [dec_T_api_Expr_eq h16] at h15
      refine p_ix h15 (by kernel_rfl) ?_
      refine e_end (by kernel_rfl) ?_
      refine q_next (pwp_seq (r_reg ?_))
      refine p_run 2 (by kernel_rfl) ?_
      obtain ⟨x14, h17, h13⟩ := o_bind h13
      obtain ⟨x15, h18, h13⟩ := o_bind h13
      rw [dec_T_api_Expr_eq h18] at h17
      refine p_ix h17 (by kernel_rfl) ?_
      refine e_end (by kernel_rfl) ?_
      refine q_next (pwp_seq (r_reg ?_))
      refine p_run 3 (by kernel_rfl) ?_
      obtain ⟨r16, h19, h13⟩ := o_bind h13
      refine p_call (hrc_d_expr_Same _ _ r16 h19) (by kernel_rfl) (by kernel_rfl) ?_
      refine e_end (by kernel_rfl) ?_
      refine q_next ?_
      rcases o_cond h13 with ⟨hb, h13⟩ | ⟨hb, h13⟩
      · refine r_cond_t hb (by kernel_rfl) ?_
        refine pwp_seq (r_reg ?_)
        refine e_end (by kernel_rfl) ?_
        refine q_next (pwp_ret (q_block_ret (q_seq_ret ?_)))
        cases h13
        refine q_lout_ret fun he => ?_
        subst he
        have h20 := o_outr h
        refine q_block_ret (q_seq_ret ?_)
        cases h20
        exact q_ret (by kernel_rfl) (by kernel_rfl) (by kernel_rfl)
      refine r_cond_f hb (by kernel_rfl) ?_
      refine pwp_skip (q_block (q_next (r_reg ?_)))
      refine e_end (by kernel_rfl) ?_
      cases h13
      exact q_lback (by kernel_rfl)
    refine r_cond_f hb (by kernel_rfl) ?_
    refine pwp_exit (q_seq_exit ?_)
    cases h13
    exact q_lexit (by kernel_rfl) (by kernel_rfl)
  rintro _ s' rfl hs
  have h := o_outl h
  refine q_block_hit ?_
  refine q_next (pwp_wkr hs ?_)
  refine pwp_seq (r_reg ?_)
  refine e_end (by kernel_rfl) ?_
  refine q_next (pwp_ret ?_)
  cases h
  exact q_ret (by kernel_rfl) (by kernel_rfl) (by kernel_rfl)

/-! expr.Same -/
noncomputable def d_expr_Same_F (rc_d_expr_Same : T_api_Expr → T_api_Expr → Option Bool) (a0 : T_api_Expr) (a1 : T_api_Expr) : Option Bool :=
  ((bif ((decide (a0.Op = a1.Op)) && (decide (a0.Var = a1.Var))) then (
    (d_slices_EqualFunc_api_Expr__expr_Same rc_d_expr_Same a0.Args a1.Args).bind fun r2 =>
    some r2
  ) else some false) : Option Bool).bind fun b1 =>
  some b1
theorem d_expr_Same_F_ok (rc_d_expr_Same : T_api_Expr → T_api_Expr → Option Bool) (hrc_d_expr_Same : ∀ (a0 : T_api_Expr) (a1 : T_api_Expr) (r : Bool), rc_d_expr_Same a0 a1 = some r → PCall Go.Proofs.Tryd.prog GlS 25 [Enc.pv a0, Enc.pv a1] (Enc.pv r)) (a0 : T_api_Expr) (a1 : T_api_Expr) (r : Bool) (h : d_expr_Same_F rc_d_expr_Same a0 a1 = some r) : PCall Go.Proofs.Tryd.prog GlS 25 [Enc.pv a0, Enc.pv a1] (Enc.pv r) := by
  unfold d_expr_Same_F at h
  refine pcall_of_pwp Go.Proofs.Tryd.func25 (by rfl) rfl Go.Proofs.Tryd.ntmps25 (by rfl) rfl ?_
  refine pwp_seq (r_reg ?_)
  refine e_end (by kernel_rfl) ?_
  refine q_next (pwp_seq (r_reg ?_))
  refine p_run 6 (by kernel_rfl) ?_
  refine e_segb 6 16 ((decide (a0.Op = a1.Op)) && (decide (a0.Var = a1.Var))) (fun x hx => ?_) ?_
  · rcases b_and hx with ⟨hb, hx⟩ | ⟨hb, hx⟩
    · refine p_settle 10 hb (by kernel_rfl) (by kernel_rfl) ?_
      subst hx
      exact f_end (by kernel_rfl) (by kernel_rfl)
    refine p_settle 10 hb (by kernel_rfl) (by kernel_rfl) ?_
    subst hx
    exact f_end (by kernel_rfl) (by kernel_rfl)
  obtain ⟨b1, h1, h⟩ := o_bind h
  refine p_run 1 (by kernel_rfl) ?_
  refine e_seg 6 23 (.bool b1) ?_ ?_
  · rcases o_cond h1 with ⟨hb, h1⟩ | ⟨hb, h1⟩
    · refine p_settle 17 hb (by kernel_rfl) (by kernel_rfl) ?_
      refine p_run 4 (by kernel_rfl) ?_
      obtain ⟨r2, h2, h1⟩ := o_bind h1
      refine p_call (d_slices_EqualFunc_api_Expr__expr_Same_ok rc_d_expr_Same hrc_d_expr_Same _ _ r2 h2) (by kernel_rfl) (by kernel_rfl) ?_
      cases h1
      exact f_end (by kernel_rfl) (by kernel_rfl)
    refine p_settle 17 hb (by kernel_rfl) (by kernel_rfl) ?_
    cases h1
    exact f_end (by kernel_rfl) (by kernel_rfl)
  refine e_end (by kernel_rfl) ?_
  refine q_next (pwp_ret ?_)
  cases h
  exact q_ret (by kernel_rfl) (by kernel_rfl) (by kernel_rfl)
noncomputable def d_expr_Same_N (n : Nat) : T_api_Expr → T_api_Expr → Option Bool := Nat.rec (fun _ _ => none) (fun _ ih => d_expr_Same_F ih) n
theorem d_expr_Same_N_ok : ∀ (n : Nat) (a0 : T_api_Expr) (a1 : T_api_Expr) (r : Bool), d_expr_Same_N n a0 a1 = some r → PCall Go.Proofs.Tryd.prog GlS 25 [Enc.pv a0, Enc.pv a1] (Enc.pv r)
  | 0, _, _, _, h => by cases h
  | n + 1, a0, a1, r, h => d_expr_Same_F_ok (d_expr_Same_N n) (d_expr_Same_N_ok n) a0 a1 r h
noncomputable def d_expr_Same (a0 : T_api_Expr) (a1 : T_api_Expr) : Option Bool := d_expr_Same_F (d_expr_Same_N recFuel) a0 a1
theorem d_expr_Same_ok (a0 : T_api_Expr) (a1 : T_api_Expr) (r : Bool) (h : d_expr_Same a0 a1 = some r) : PCall Go.Proofs.Tryd.prog GlS 25 [Enc.pv a0, Enc.pv a1] (Enc.pv r) := d_expr_Same_F_ok (d_expr_Same_N recFuel) (d_expr_Same_N_ok recFuel) a0 a1 r h

/-! signallinglaw18.ExprForms -/
noncomputable def d_law18_ExprForms (a0 : T_api_Expr) (a1 : T_api_Expr) (a2 : Int) : Option Bool :=
  (d_law18_modest a0).bind fun r1 =>
  ((bif (!r1) then some true else (
    (d_law18_modest a1).bind fun r3 =>
    some (!r3)
  )) : Option Bool).bind fun b2 =>
  bif b2 then (
    (d_law18_alive ).bind fun r4 =>
    some r4
  ) else (
    (d_expr_Valid a0 a2).bind fun r5 =>
    (d_ref18_Valid a0 a2).bind fun r6 =>
    ((bif (r5 == r6) then (
      (d_expr_Same a0 a1).bind fun r8 =>
      (d_ref18_Same a0 a1).bind fun r9 =>
      some (r8 == r9)
    ) else some false) : Option Bool).bind fun b7 =>
    ((bif b7 then (
      (d_expr_Same a0 a0).bind fun r11 =>
      some r11
    ) else some false) : Option Bool).bind fun b10 =>
    ((bif b10 then (
      (d_expr_Size a0).bind fun r13 =>
      (d_ref18_Size a0).bind fun r14 =>
      some (decide (r13 = r14))
    ) else some false) : Option Bool).bind fun b12 =>
    ((bif b12 then (
      (d_law18_alive ).bind fun r16 =>
      some r16
    ) else some false) : Option Bool).bind fun b15 =>
    some b15
  )
theorem d_law18_ExprForms_ok (a0 : T_api_Expr) (a1 : T_api_Expr) (a2 : Int) (r : Bool) (h : d_law18_ExprForms a0 a1 a2 = some r) : PCall Go.Proofs.Tryd.prog GlS 8 [Enc.pv a0, Enc.pv a1, Enc.pv a2] (Enc.pv r) := by
  unfold d_law18_ExprForms at h
  refine pcall_of_pwp Go.Proofs.Tryd.func8 (by rfl) rfl Go.Proofs.Tryd.ntmps8 (by rfl) rfl ?_
  refine pwp_seq (r_reg ?_)
  refine e_end (by kernel_rfl) ?_
  refine q_next (pwp_seq (pwp_seq (r_reg ?_)))
  refine p_run 1 (by kernel_rfl) ?_
  obtain ⟨r1, h1, h⟩ := o_bind h
  refine p_call (d_law18_modest_ok _ r1 h1) (by kernel_rfl) (by kernel_rfl) ?_
  obtain ⟨b2, h2, h⟩ := o_bind h
  refine p_run 2 (by kernel_rfl) ?_
  refine e_seg 4 14 (.bool b2) ?_ ?_
  · rcases o_cond h2 with ⟨hb, h2⟩ | ⟨hb, h2⟩
    · refine p_settle 10 hb (by kernel_rfl) (by kernel_rfl) ?_
      cases h2
      exact f_end (by kernel_rfl) (by kernel_rfl)
    refine p_settle 10 hb (by kernel_rfl) (by kernel_rfl) ?_
    refine p_run 1 (by kernel_rfl) ?_
    obtain ⟨r3, h3, h2⟩ := o_bind h2
    refine p_call (d_law18_modest_ok _ r3 h3) (by kernel_rfl) (by kernel_rfl) ?_
    cases h2
    exact f_end (by kernel_rfl) (by kernel_rfl)
  refine e_nil (by kernel_rfl) ?_
  refine q_next ?_
  rcases o_cond h with ⟨hb, h⟩ | ⟨hb, h⟩
  · refine r_cond_t hb (by kernel_rfl) ?_
    refine pwp_seq (r_reg ?_)
    obtain ⟨r4, h4, h⟩ := o_bind h
    refine p_call (d_law18_alive_ok  r4 h4) (by kernel_rfl) (by kernel_rfl) ?_
    refine e_end (by kernel_rfl) ?_
    refine q_next (pwp_ret (q_seq_ret ?_))
    cases h
    exact q_ret (by kernel_rfl) (by kernel_rfl) (by kernel_rfl)
  refine r_cond_f hb (by kernel_rfl) ?_
  refine pwp_skip (q_next (pwp_seq ?_))
  refine r_regd (by kernel_rfl) (by kernel_rfl) ?_
  refine p_run 2 (by kernel_rfl) ?_
  obtain ⟨r5, h5, h⟩ := o_bind h
  refine p_call (d_expr_Valid_ok _ _ r5 h5) (by kernel_rfl) (by kernel_rfl) ?_
  refine p_run 2 (by kernel_rfl) ?_
  obtain ⟨r6, h6, h⟩ := o_bind h
  refine p_call (d_ref18_Valid_ok _ _ r6 h6) (by kernel_rfl) (by kernel_rfl) ?_
  obtain ⟨b7, h7, h⟩ := o_bind h
  refine p_run 2 (by kernel_rfl) ?_
  refine e_seg 8 31 (.bool b7) ?_ ?_
  · rcases o_cond h7 with ⟨hb, h7⟩ | ⟨hb, h7⟩
    · refine p_settle 23 hb (by kernel_rfl) (by kernel_rfl) ?_
      refine p_run 2 (by kernel_rfl) ?_
      obtain ⟨r8, h8, h7⟩ := o_bind h7
      refine p_call (d_expr_Same_ok _ _ r8 h8) (by kernel_rfl) (by kernel_rfl) ?_
      refine p_run 2 (by kernel_rfl) ?_
      obtain ⟨r9, h9, h7⟩ := o_bind h7
      refine p_call (d_ref18_Same_ok _ _ r9 h9) (by kernel_rfl) (by kernel_rfl) ?_
      cases h7
      exact f_end (by kernel_rfl) (by kernel_rfl)
    refine p_settle 23 hb (by kernel_rfl) (by kernel_rfl) ?_
    cases h7
    exact f_end (by kernel_rfl) (by kernel_rfl)
  obtain ⟨b10, h10, h⟩ := o_bind h
  refine p_run 1 (by kernel_rfl) ?_
  refine e_seg 4 36 (.bool b10) ?_ ?_
  · rcases o_cond h10 with ⟨hb, h10⟩ | ⟨hb, h10⟩
    · refine p_settle 32 hb (by kernel_rfl) (by kernel_rfl) ?_
      refine p_run 2 (by kernel_rfl) ?_
      obtain ⟨r11, h11, h10⟩ := o_bind h10
      refine p_call (d_expr_Same_ok _ _ r11 h11) (by kernel_rfl) (by kernel_rfl) ?_
      cases h10
      exact f_end (by kernel_rfl) (by kernel_rfl)
    refine p_settle 32 hb (by kernel_rfl) (by kernel_rfl) ?_
    cases h10
    exact f_end (by kernel_rfl) (by kernel_rfl)
  obtain ⟨b12, h12, h⟩ := o_bind h
  refine p_run 1 (by kernel_rfl) ?_
  refine e_seg 6 43 (.bool b12) ?_ ?_
  · rcases o_cond h12 with ⟨hb, h12⟩ | ⟨hb, h12⟩
    · refine p_settle 37 hb (by kernel_rfl) (by kernel_rfl) ?_
      refine p_run 1 (by kernel_rfl) ?_
      obtain ⟨r13, h13, h12⟩ := o_bind h12
      refine p_call (d_expr_Size_ok _ r13 h13) (by kernel_rfl) (by kernel_rfl) ?_
      refine p_run 1 (by kernel_rfl) ?_
      obtain ⟨r14, h14, h12⟩ := o_bind h12
      refine p_call (d_ref18_Size_ok _ r14 h14) (by kernel_rfl) (by kernel_rfl) ?_
      cases h12
      exact f_end (by kernel_rfl) (by kernel_rfl)
    refine p_settle 37 hb (by kernel_rfl) (by kernel_rfl) ?_
    cases h12
    exact f_end (by kernel_rfl) (by kernel_rfl)
  obtain ⟨b15, h15, h⟩ := o_bind h
  refine p_run 1 (by kernel_rfl) ?_
  refine e_seg 2 46 (.bool b15) ?_ ?_
  · rcases o_cond h15 with ⟨hb, h15⟩ | ⟨hb, h15⟩
    · refine p_settle 44 hb (by kernel_rfl) (by kernel_rfl) ?_
      obtain ⟨r16, h16, h15⟩ := o_bind h15
      refine p_call (d_law18_alive_ok  r16 h16) (by kernel_rfl) (by kernel_rfl) ?_
      cases h15
      exact f_end (by kernel_rfl) (by kernel_rfl)
    refine p_settle 44 hb (by kernel_rfl) (by kernel_rfl) ?_
    cases h15
    exact f_end (by kernel_rfl) (by kernel_rfl)
  refine e_end (by kernel_rfl) ?_
  refine q_next (pwp_ret ?_)
  cases h
  exact q_ret (by kernel_rfl) (by kernel_rfl) (by kernel_rfl)

end PM
