/-
  Plain functions for the program's functions, and the proofs that the program does them. Printed by den.py.
-/
import Derived.Test.YtmbcgmlgbcookaaDoorDen0
namespace PM
open Go Go.RowKit
attribute [local irreducible] pops pwp

/-! signallinglaw18.alive -/
noncomputable def d_law18_alive : Option Bool :=
  (d_law18_x 0).bind fun r1 =>
  (d_law18_x 1).bind fun r2 =>
  (d_law18_node 4 [(enc_T_api_Expr r2)]).bind fun r3 =>
  (d_law18_node 5 [(enc_T_api_Expr r1), (enc_T_api_Expr r3)]).bind fun r4 =>
  (d_law18_x 0).bind fun r5 =>
  (d_law18_node 1 ([] : (List R_api_Expr))).bind fun r6 =>
  (d_law18_x 0).bind fun r7 =>
  (d_law18_x 1).bind fun r8 =>
  (d_law18_node 6 [(enc_T_api_Expr r7), (enc_T_api_Expr r8)]).bind fun r9 =>
  (d_law18_node 6 [(enc_T_api_Expr r5), (enc_T_api_Expr r6), (enc_T_api_Expr r9)]).bind fun r10 =>
  (d_expr_Simplify r10).bind fun r11 =>
  (d_expr_Vars r4).bind fun r12 =>
  (d_expr_Valid r4 2).bind fun r13 =>
  ((bif r13 then (
    (d_expr_Valid r4 1).bind fun r15 =>
    some (!r15)
  ) else some false) : Option Bool).bind fun b14 =>
  ((bif b14 then (
    (d_expr_Size r4).bind fun r17 =>
    some (decide (r17 = 4))
  ) else some false) : Option Bool).bind fun b16 =>
  ((bif b16 then (
    (d_expr_Eval r4 [true, false]).bind fun r19 =>
    some r19
  ) else some false) : Option Bool).bind fun b18 =>
  ((bif b18 then (
    (d_expr_Eval r4 [true]).bind fun r21 =>
    some r21
  ) else some false) : Option Bool).bind fun b20 =>
  ((bif b20 then (
    (d_expr_Eval r4 [true, true]).bind fun r23 =>
    some (!r23)
  ) else some false) : Option Bool).bind fun b22 =>
  ((bif b22 then (
    (d_law18_x 0).bind fun r25 =>
    (d_law18_x 1).bind fun r26 =>
    (d_law18_node 6 [(enc_T_api_Expr r25), (enc_T_api_Expr r26)]).bind fun r27 =>
    (d_ref18_Same r11 r27).bind fun r28 =>
    some r28
  ) else some false) : Option Bool).bind fun b24 =>
  ((bif b24 then (
    (d_law18_x 0).bind fun r30 =>
    (d_law18_x 0).bind fun r31 =>
    (d_law18_node 4 [(enc_T_api_Expr r31)]).bind fun r32 =>
    (d_law18_node 5 [(enc_T_api_Expr r30), (enc_T_api_Expr r32)]).bind fun r33 =>
    (d_expr_Simplify r33).bind fun r34 =>
    (d_law18_node 1 ([] : (List R_api_Expr))).bind fun r35 =>
    (d_ref18_Same r34 r35).bind fun r36 =>
    some r36
  ) else some false) : Option Bool).bind fun b29 =>
  ((bif b29 then (
    (d_law18_x 0).bind fun r38 =>
    (d_law18_node 4 [(enc_T_api_Expr r38)]).bind fun r39 =>
    (d_law18_x 0).bind fun r40 =>
    (d_law18_node 4 [(enc_T_api_Expr r40)]).bind fun r41 =>
    (d_expr_Replace r39 0 r41).bind fun r42 =>
    (d_law18_x 0).bind fun r43 =>
    (d_law18_node 4 [(enc_T_api_Expr r43)]).bind fun r44 =>
    (d_law18_node 4 [(enc_T_api_Expr r44)]).bind fun r45 =>
    (d_ref18_Same r42 r45).bind fun r46 =>
    some r46
  ) else some false) : Option Bool).bind fun b37 =>
  ((bif b37 then (
    some (decide (((r12.length : Nat) : Int) = 2))
  ) else some false) : Option Bool).bind fun b47 =>
  ((bif b47 then (
    (ixO r12 0).bind fun x49 =>
    some (decide (x49 = 0))
  ) else some false) : Option Bool).bind fun b48 =>
  ((bif b48 then (
    (ixO r12 1).bind fun x51 =>
    some (decide (x51 = 1))
  ) else some false) : Option Bool).bind fun b50 =>
  some b50
theorem d_law18_alive_ok (r : Bool) (h : d_law18_alive = some r) : PCall Go.Proofs.Tryd.prog GlS 10 [] (Enc.pv r) := by
  unfold d_law18_alive at h
  refine pcall_of_pwp Go.Proofs.Tryd.func10 (by rfl) rfl Go.Proofs.Tryd.ntmps10 (by rfl) rfl ?_
  refine pwp_seq (r_reg ?_)
  refine e_end (by kernel_rfl) ?_
  refine q_next (pwp_seq (r_reg ?_))
  obtain ⟨r1, h1, h⟩ := o_bind h
  refine p_call (d_law18_x_ok _ r1 h1) (by kernel_rfl) (by kernel_rfl) ?_
  obtain ⟨r2, h2, h⟩ := o_bind h
  refine p_call (d_law18_x_ok _ r2 h2) (by kernel_rfl) (by kernel_rfl) ?_
  refine p_run 1 (by kernel_rfl) ?_
  obtain ⟨r3, h3, h⟩ := o_bind h
  refine p_call (d_law18_node_ok _ _ r3 h3) (by kernel_rfl) (by kernel_rfl) ?_
  refine p_run 1 (by kernel_rfl) ?_
  obtain ⟨r4, h4, h⟩ := o_bind h
  refine p_call (d_law18_node_ok _ _ r4 h4) (by kernel_rfl) (by kernel_rfl) ?_
  refine e_end (by kernel_rfl) ?_
  refine q_next (pwp_seq (r_reg ?_))
  obtain ⟨r5, h5, h⟩ := o_bind h
  refine p_call (d_law18_x_ok _ r5 h5) (by kernel_rfl) (by kernel_rfl) ?_
  obtain ⟨r6, h6, h⟩ := o_bind h
  refine p_call (d_law18_node_ok _ _ r6 h6) (by kernel_rfl) (by kernel_rfl) ?_
  obtain ⟨r7, h7, h⟩ := o_bind h
  refine p_call (d_law18_x_ok _ r7 h7) (by kernel_rfl) (by kernel_rfl) ?_
  obtain ⟨r8, h8, h⟩ := o_bind h
  refine p_call (d_law18_x_ok _ r8 h8) (by kernel_rfl) (by kernel_rfl) ?_
  refine p_run 1 (by kernel_rfl) ?_
  obtain ⟨r9, h9, h⟩ := o_bind h
  refine p_call (d_law18_node_ok _ _ r9 h9) (by kernel_rfl) (by kernel_rfl) ?_
  refine p_run 1 (by kernel_rfl) ?_
  obtain ⟨r10, h10, h⟩ := o_bind h
  refine p_call (d_law18_node_ok _ _ r10 h10) (by kernel_rfl) (by kernel_rfl) ?_
  obtain ⟨r11, h11, h⟩ := o_bind h
  refine p_call (d_expr_Simplify_ok _ r11 h11) (by kernel_rfl) (by kernel_rfl) ?_
  refine e_end (by kernel_rfl) ?_
  refine q_next (pwp_seq (r_reg ?_))
  refine p_run 1 (by kernel_rfl) ?_
  obtain ⟨r12, h12, h⟩ := o_bind h
  refine p_call (d_expr_Vars_ok _ r12 h12) (by kernel_rfl) (by kernel_rfl) ?_
  refine e_end (by kernel_rfl) ?_
  refine q_next (pwp_seq ?_)
  refine r_regd (by kernel_rfl) (by kernel_rfl) ?_
  refine p_run 1 (by kernel_rfl) ?_
  obtain ⟨r13, h13, h⟩ := o_bind h
  refine p_call (d_expr_Valid_ok _ _ r13 h13) (by kernel_rfl) (by kernel_rfl) ?_
  obtain ⟨b14, h14, h⟩ := o_bind h
  refine p_run 1 (by kernel_rfl) ?_
  refine e_seg 4 27 (.bool b14) ?_ ?_
  · rcases o_cond h14 with ⟨hb, h14⟩ | ⟨hb, h14⟩
    · refine p_settle 23 hb (by kernel_rfl) (by kernel_rfl) ?_
      refine p_run 1 (by kernel_rfl) ?_
      obtain ⟨r15, h15, h14⟩ := o_bind h14
      refine p_call (d_expr_Valid_ok _ _ r15 h15) (by kernel_rfl) (by kernel_rfl) ?_
      cases h14
      exact f_end (by kernel_rfl) (by kernel_rfl)
    refine p_settle 23 hb (by kernel_rfl) (by kernel_rfl) ?_
    cases h14
    exact f_end (by kernel_rfl) (by kernel_rfl)
  obtain ⟨b16, h16, h⟩ := o_bind h
  refine p_run 1 (by kernel_rfl) ?_
  refine e_seg 4 32 (.bool b16) ?_ ?_
  · rcases o_cond h16 with ⟨hb, h16⟩ | ⟨hb, h16⟩
    · refine p_settle 28 hb (by kernel_rfl) (by kernel_rfl) ?_
      refine p_run 1 (by kernel_rfl) ?_
      obtain ⟨r17, h17, h16⟩ := o_bind h16
      refine p_call (d_expr_Size_ok _ r17 h17) (by kernel_rfl) (by kernel_rfl) ?_
      cases h16
      exact f_end (by kernel_rfl) (by kernel_rfl)
    refine p_settle 28 hb (by kernel_rfl) (by kernel_rfl) ?_
    cases h16
    exact f_end (by kernel_rfl) (by kernel_rfl)
  obtain ⟨b18, h18, h⟩ := o_bind h
  refine p_run 1 (by kernel_rfl) ?_
  refine e_seg 4 37 (.bool b18) ?_ ?_
  · rcases o_cond h18 with ⟨hb, h18⟩ | ⟨hb, h18⟩
    · refine p_settle 33 hb (by kernel_rfl) (by kernel_rfl) ?_
      refine p_run 2 (by kernel_rfl) ?_
      obtain ⟨r19, h19, h18⟩ := o_bind h18
      refine p_call (d_expr_Eval_ok _ _ r19 h19) (by kernel_rfl) (by kernel_rfl) ?_
      cases h18
      exact f_end (by kernel_rfl) (by kernel_rfl)
    refine p_settle 33 hb (by kernel_rfl) (by kernel_rfl) ?_
    cases h18
    exact f_end (by kernel_rfl) (by kernel_rfl)
  obtain ⟨b20, h20, h⟩ := o_bind h
  refine p_run 1 (by kernel_rfl) ?_
  refine e_seg 4 42 (.bool b20) ?_ ?_
  · rcases o_cond h20 with ⟨hb, h20⟩ | ⟨hb, h20⟩
    · refine p_settle 38 hb (by kernel_rfl) (by kernel_rfl) ?_
      refine p_run 2 (by kernel_rfl) ?_
      obtain ⟨r21, h21, h20⟩ := o_bind h20
      refine p_call (d_expr_Eval_ok _ _ r21 h21) (by kernel_rfl) (by kernel_rfl) ?_
      cases h20
      exact f_end (by kernel_rfl) (by kernel_rfl)
    refine p_settle 38 hb (by kernel_rfl) (by kernel_rfl) ?_
    cases h20
    exact f_end (by kernel_rfl) (by kernel_rfl)
  obtain ⟨b22, h22, h⟩ := o_bind h
  refine p_run 1 (by kernel_rfl) ?_
  refine e_seg 5 48 (.bool b22) ?_ ?_
  · rcases o_cond h22 with ⟨hb, h22⟩ | ⟨hb, h22⟩
    · refine p_settle 43 hb (by kernel_rfl) (by kernel_rfl) ?_
      refine p_run 2 (by kernel_rfl) ?_
      obtain ⟨r23, h23, h22⟩ := o_bind h22
      refine p_call (d_expr_Eval_ok _ _ r23 h23) (by kernel_rfl) (by kernel_rfl) ?_
      cases h22
      exact f_end (by kernel_rfl) (by kernel_rfl)
    refine p_settle 43 hb (by kernel_rfl) (by kernel_rfl) ?_
    cases h22
    exact f_end (by kernel_rfl) (by kernel_rfl)
  obtain ⟨b24, h24, h⟩ := o_bind h
  refine p_run 1 (by kernel_rfl) ?_
  refine e_seg 7 56 (.bool b24) ?_ ?_
  · rcases o_cond h24 with ⟨hb, h24⟩ | ⟨hb, h24⟩
    · refine p_settle 49 hb (by kernel_rfl) (by kernel_rfl) ?_
      refine p_run 1 (by kernel_rfl) ?_
      obtain ⟨r25, h25, h24⟩ := o_bind h24
      refine p_call (d_law18_x_ok _ r25 h25) (by kernel_rfl) (by kernel_rfl) ?_
      obtain ⟨r26, h26, h24⟩ := o_bind h24
      refine p_call (d_law18_x_ok _ r26 h26) (by kernel_rfl) (by kernel_rfl) ?_
      refine p_run 1 (by kernel_rfl) ?_
      obtain ⟨r27, h27, h24⟩ := o_bind h24
      refine p_call (d_law18_node_ok _ _ r27 h27) (by kernel_rfl) (by kernel_rfl) ?_
      obtain ⟨r28, h28, h24⟩ := o_bind h24
      refine p_call (d_ref18_Same_ok _ _ r28 h28) (by kernel_rfl) (by kernel_rfl) ?_
      cases h24
      exact f_end (by kernel_rfl) (by kernel_rfl)
    refine p_settle 49 hb (by kernel_rfl) (by kernel_rfl) ?_
    cases h24
    exact f_end (by kernel_rfl) (by kernel_rfl)
  obtain ⟨b29, h29, h⟩ := o_bind h
  refine p_run 1 (by kernel_rfl) ?_
  refine e_seg 10 67 (.bool b29) ?_ ?_
  · rcases o_cond h29 with ⟨hb, h29⟩ | ⟨hb, h29⟩
    · refine p_settle 57 hb (by kernel_rfl) (by kernel_rfl) ?_
      obtain ⟨r30, h30, h29⟩ := o_bind h29
      refine p_call (d_law18_x_ok _ r30 h30) (by kernel_rfl) (by kernel_rfl) ?_
      obtain ⟨r31, h31, h29⟩ := o_bind h29
      refine p_call (d_law18_x_ok _ r31 h31) (by kernel_rfl) (by kernel_rfl) ?_
      refine p_run 1 (by kernel_rfl) ?_
      obtain ⟨r32, h32, h29⟩ := o_bind h29
      refine p_call (d_law18_node_ok _ _ r32 h32) (by kernel_rfl) (by kernel_rfl) ?_
      refine p_run 1 (by kernel_rfl) ?_
      obtain ⟨r33, h33, h29⟩ := o_bind h29
      refine p_call (d_law18_node_ok _ _ r33 h33) (by kernel_rfl) (by kernel_rfl) ?_
      obtain ⟨r34, h34, h29⟩ := o_bind h29
      refine p_call (d_expr_Simplify_ok _ r34 h34) (by kernel_rfl) (by kernel_rfl) ?_
      obtain ⟨r35, h35, h29⟩ := o_bind h29
      refine p_call (d_law18_node_ok _ _ r35 h35) (by kernel_rfl) (by kernel_rfl) ?_
      obtain ⟨r36, h36, h29⟩ := o_bind h29
      refine p_call (d_ref18_Same_ok _ _ r36 h36) (by kernel_rfl) (by kernel_rfl) ?_
      cases h29
      exact f_end (by kernel_rfl) (by kernel_rfl)
    refine p_settle 57 hb (by kernel_rfl) (by kernel_rfl) ?_
    cases h29
    exact f_end (by kernel_rfl) (by kernel_rfl)
  obtain ⟨b37, h37, h⟩ := o_bind h
  refine p_run 1 (by kernel_rfl) ?_
  refine e_seg 14 82 (.bool b37) ?_ ?_
  · rcases o_cond h37 with ⟨hb, h37⟩ | ⟨hb, h37⟩
    · refine p_settle 68 hb (by kernel_rfl) (by kernel_rfl) ?_
      obtain ⟨r38, h38, h37⟩ := o_bind h37
      refine p_call (d_law18_x_ok _ r38 h38) (by kernel_rfl) (by kernel_rfl) ?_
      refine p_run 1 (by kernel_rfl) ?_
      obtain ⟨r39, h39, h37⟩ := o_bind h37
      refine p_call (d_law18_node_ok _ _ r39 h39) (by kernel_rfl) (by kernel_rfl) ?_
      obtain ⟨r40, h40, h37⟩ := o_bind h37
      refine p_call (d_law18_x_ok _ r40 h40) (by kernel_rfl) (by kernel_rfl) ?_
      refine p_run 1 (by kernel_rfl) ?_
      obtain ⟨r41, h41, h37⟩ := o_bind h37
      refine p_call (d_law18_node_ok _ _ r41 h41) (by kernel_rfl) (by kernel_rfl) ?_
      obtain ⟨r42, h42, h37⟩ := o_bind h37
      refine p_call (d_expr_Replace_ok _ _ _ r42 h42) (by kernel_rfl) (by kernel_rfl) ?_
      obtain ⟨r43, h43, h37⟩ := o_bind h37
      refine p_call (d_law18_x_ok _ r43 h43) (by kernel_rfl) (by kernel_rfl) ?_
      refine p_run 1 (by kernel_rfl) ?_
      obtain ⟨r44, h44, h37⟩ := o_bind h37
      refine p_call (d_law18_node_ok _ _ r44 h44) (by kernel_rfl) (by kernel_rfl) ?_
      refine p_run 1 (by kernel_rfl) ?_
      obtain ⟨r45, h45, h37⟩ := o_bind h37
      refine p_call (d_law18_node_ok _ _ r45 h45) (by kernel_rfl) (by kernel_rfl) ?_
      obtain ⟨r46, h46, h37⟩ := o_bind h37
      refine p_call (d_ref18_Same_ok _ _ r46 h46) (by kernel_rfl) (by kernel_rfl) ?_
      cases h37
      exact f_end (by kernel_rfl) (by kernel_rfl)
    refine p_settle 68 hb (by kernel_rfl) (by kernel_rfl) ?_
    cases h37
    exact f_end (by kernel_rfl) (by kernel_rfl)
  obtain ⟨b47, h47, h⟩ := o_bind h
  refine p_run 1 (by kernel_rfl) ?_
  refine e_seg 4 87 (.bool b47) ?_ ?_
  · rcases o_cond h47 with ⟨hb, h47⟩ | ⟨hb, h47⟩
    · refine p_settle 83 hb (by kernel_rfl) (by kernel_rfl) ?_
      refine p_run 1 (by kernel_rfl) ?_
      refine p_len (L := (r12 : (List Int))) (by kernel_rfl) ?_
      cases h47
      exact f_end (by kernel_rfl) (by kernel_rfl)
    refine p_settle 83 hb (by kernel_rfl) (by kernel_rfl) ?_
    cases h47
    exact f_end (by kernel_rfl) (by kernel_rfl)
  obtain ⟨b48, h48, h⟩ := o_bind h
  refine p_run 1 (by kernel_rfl) ?_
  refine e_seg 5 93 (.bool b48) ?_ ?_
  · rcases o_cond h48 with ⟨hb, h48⟩ | ⟨hb, h48⟩
    · refine p_settle 88 hb (by kernel_rfl) (by kernel_rfl) ?_
      refine p_run 1 (by kernel_rfl) ?_
      obtain ⟨x49, h49, h48⟩ := o_bind h48
      refine p_ix h49 (by kernel_rfl) ?_
      cases h48
      exact f_end (by kernel_rfl) (by kernel_rfl)
    refine p_settle 88 hb (by kernel_rfl) (by kernel_rfl) ?_
    cases h48
    exact f_end (by kernel_rfl) (by kernel_rfl)
  obtain ⟨b50, h50, h⟩ := o_bind h
  refine p_run 1 (by kernel_rfl) ?_
  refine e_seg 5 99 (.bool b50) ?_ ?_
  · rcases o_cond h50 with ⟨hb, h50⟩ | ⟨hb, h50⟩
    · refine p_settle 94 hb (by kernel_rfl) (by kernel_rfl) ?_
      refine p_run 1 (by kernel_rfl) ?_
      obtain ⟨x51, h51, h50⟩ := o_bind h50
      refine p_ix h51 (by kernel_rfl) ?_
      cases h50
      exact f_end (by kernel_rfl) (by kernel_rfl)
    refine p_settle 94 hb (by kernel_rfl) (by kernel_rfl) ?_
    cases h50
    exact f_end (by kernel_rfl) (by kernel_rfl)
  refine e_end (by kernel_rfl) ?_
  refine q_next (pwp_ret ?_)
  cases h
  exact q_ret (by kernel_rfl) (by kernel_rfl) (by kernel_rfl)

/-! signallingref18.Eval -/
noncomputable def d_ref18_Eval_0 (rc_d_ref18_Eval : T_api_Expr → (List Bool) → Option Bool) (a0 : T_api_Expr) (a1 : (List Bool)) : Int → Option (Int ⊕ (Unit ⊕ Bool)) := fun x12 =>
  bif decide (x12 < ((a0.Args.length : Nat) : Int)) then (
    (ixO a0.Args x12).bind fun x16 =>
    (dec_T_api_Expr x16).bind fun x17 =>
    (rc_d_ref18_Eval x17 a1).bind fun r18 =>
    bif (r18 == (decide (a0.Op = 6))) then (
      some (.inr (.inr (decide (a0.Op = 6))))
    ) else (
      some (.inl (w64 (x12 + 1)))
    )
  ) else (
    some (.inr (.inl ()))
  )

noncomputable def d_ref18_Eval_F (rc_d_ref18_Eval : T_api_Expr → (List Bool) → Option Bool) (a0 : T_api_Expr) (a1 : (List Bool)) : Option Bool :=
  bif decide (a0.Op = 2) then (
    some true
  ) else (
    bif decide (a0.Op = 3) then (
      ((bif decide (0 ≤ a0.Var) then (
        some (decide (a0.Var < ((a1.length : Nat) : Int)))
      ) else some false) : Option Bool).bind fun b1 =>
      ((bif b1 then (
        (ixO a1 a0.Var).bind fun x3 =>
        some x3
      ) else some false) : Option Bool).bind fun b2 =>
      some b2
    ) else (
      bif decide (a0.Op = 4) then (
        ((bif decide (0 < ((a0.Args.length : Nat) : Int)) then (
          (ixO a0.Args 0).bind fun x5 =>
          (dec_T_api_Expr x5).bind fun x6 =>
          (rc_d_ref18_Eval x6 a1).bind fun r7 =>
          some (!r7)
        ) else some false) : Option Bool).bind fun b4 =>
        some b4
      ) else (
        onInl (α := Bool) (β := Bool) (
          bif decide (a0.Op = 5) then (
            some (.inl (decide (a0.Op = 5)))
          ) else (
            some (.inl (decide (a0.Op = 6)))
          )
        ) fun x8 =>
        bif x8 then (
          onInl (α := Unit) (β := Bool) (loopO (d_ref18_Eval_0 rc_d_ref18_Eval a0 a1) 0) fun _ =>
          some (decide (a0.Op = 5))
        ) else (
          some false
        )
      )
    )
  )
theorem d_ref18_Eval_F_ok (rc_d_ref18_Eval : T_api_Expr → (List Bool) → Option Bool) (hrc_d_ref18_Eval : ∀ (a0 : T_api_Expr) (a1 : (List Bool)) (r : Bool), rc_d_ref18_Eval a0 a1 = some r → PCall Go.Proofs.Tryd.prog GlS 12 [Enc.pv a0, Enc.pv a1] (Enc.pv r)) (a0 : T_api_Expr) (a1 : (List Bool)) (r : Bool) (h : d_ref18_Eval_F rc_d_ref18_Eval a0 a1 = some r) : PCall Go.Proofs.Tryd.prog GlS 12 [Enc.pv a0, Enc.pv a1] (Enc.pv r) := by
  unfold d_ref18_Eval_F at h
  refine pcall_of_pwp Go.Proofs.Tryd.func12 (by rfl) rfl Go.Proofs.Tryd.ntmps12 (by rfl) rfl ?_
  refine pwp_seq (r_reg ?_)
  refine e_end (by kernel_rfl) ?_
  refine q_next (pwp_seq (pwp_seq (r_reg ?_)))
  refine e_end (by kernel_rfl) ?_
  refine q_next (pwp_block (pwp_seq (r_reg ?_)))
  refine e_end (by kernel_rfl) ?_
  refine q_next ?_
  rcases o_cond h with ⟨hb, h⟩ | ⟨hb, h⟩
  · refine r_cond_t hb (by kernel_rfl) ?_
    refine pwp_seq (r_reg ?_)
    refine e_end (by kernel_rfl) ?_
    refine q_next (pwp_ret (q_block_ret (q_seq_ret ?_)))
    cases h
    exact q_ret (by kernel_rfl) (by kernel_rfl) (by kernel_rfl)
  refine r_cond_f hb (by kernel_rfl) ?_
  refine pwp_seq (r_reg ?_)
  refine e_end (by kernel_rfl) ?_
  refine q_next ?_
  rcases o_cond h with ⟨hb, h⟩ | ⟨hb, h⟩
  · refine r_cond_t hb (by kernel_rfl) ?_
    refine pwp_seq (r_reg ?_)
    obtain ⟨b1, h1, h⟩ := o_bind h
    refine p_run 4 (by kernel_rfl) ?_
    refine e_seg 6 21 (.bool b1) ?_ ?_
    · rcases o_cond h1 with ⟨hb, h1⟩ | ⟨hb, h1⟩
      · refine p_settle 15 hb (by kernel_rfl) (by kernel_rfl) ?_
        refine p_run 3 (by kernel_rfl) ?_
        refine p_len (L := (a1 : (List Bool))) (by kernel_rfl) ?_
        cases h1
        exact f_end (by kernel_rfl) (by kernel_rfl)
      refine p_settle 15 hb (by kernel_rfl) (by kernel_rfl) ?_
      cases h1
      exact f_end (by kernel_rfl) (by kernel_rfl)
    obtain ⟨b2, h2, h⟩ := o_bind h
    refine p_run 1 (by kernel_rfl) ?_
    refine e_seg 6 28 (.bool b2) ?_ ?_
    · rcases o_cond h2 with ⟨hb, h2⟩ | ⟨hb, h2⟩
      · refine p_settle 22 hb (by kernel_rfl) (by kernel_rfl) ?_
        refine p_run 3 (by kernel_rfl) ?_
        obtain ⟨x3, h3, h2⟩ := o_bind h2
        refine p_ix h3 (by kernel_rfl) ?_
        cases h2
        exact f_end (by kernel_rfl) (by kernel_rfl)
      refine p_settle 22 hb (by kernel_rfl) (by kernel_rfl) ?_
      cases h2
      exact f_end (by kernel_rfl) (by kernel_rfl)
    refine e_end (by kernel_rfl) ?_
    refine q_next (pwp_ret (q_block_ret (q_seq_ret ?_)))
    cases h
    exact q_ret (by kernel_rfl) (by kernel_rfl) (by kernel_rfl)
  refine r_cond_f hb (by kernel_rfl) ?_
  refine pwp_seq (r_reg ?_)
  refine e_end (by kernel_rfl) ?_
  refine q_next ?_
  rcases o_cond h with ⟨hb, h⟩ | ⟨hb, h⟩
  · refine r_cond_t hb (by kernel_rfl) ?_
    refine pwp_seq (r_reg ?_)
    refine p_run 2 (by kernel_rfl) ?_
    refine p_len (L := (a0.Args : (List R_api_Expr))) (by kernel_rfl) ?_
    obtain ⟨b4, h4, h⟩ := o_bind h
    refine p_run 2 (by kernel_rfl) ?_
    refine e_seg 8 43 (.bool b4) ?_ ?_
    · rcases o_cond h4 with ⟨hb, h4⟩ | ⟨hb, h4⟩
      · refine p_settle 35 hb (by kernel_rfl) (by kernel_rfl) ?_
        refine p_run 2 (by kernel_rfl) ?_
        obtain ⟨x5, h5, h4⟩ := o_bind h4
        obtain ⟨x6, h6, h4⟩ := o_bind h4
        rw [dec_T_api_Expr_eq h6] at h5
        refine p_ix h5 (by kernel_rfl) ?_
        refine p_run 2 (by kernel_rfl) ?_
        obtain ⟨r7, h7, h4⟩ := o_bind h4
        refine p_call (hrc_d_ref18_Eval _ _ r7 h7) (by kernel_rfl) (by kernel_rfl) ?_
        cases h4
        exact f_end (by kernel_rfl) (by kernel_rfl)
      refine p_settle 35 hb (by kernel_rfl) (by kernel_rfl) ?_
      cases h4
      exact f_end (by kernel_rfl) (by kernel_rfl)
    refine e_end (by kernel_rfl) ?_
    refine q_next (pwp_ret (q_block_ret (q_seq_ret ?_)))
    cases h
    exact q_ret (by kernel_rfl) (by kernel_rfl) (by kernel_rfl)
  refine r_cond_f hb (by kernel_rfl) ?_
  obtain ⟨o8, h8, h⟩ := o_inl h
  refine r_join (o := o8) 71 (fun x8 => ⟨[(1, lstOf .frozen (a1 : (List Bool))), (2, .ref 2 0), (44, .bool x8)], [(2, .cells (cellsOf a0))], [], []⟩) ?_ ?_
  · refine pwp_seq (r_reg ?_)
    refine e_end (by kernel_rfl) ?_
    refine q_next ?_
    rcases o_cond h8 with ⟨hb, h8⟩ | ⟨hb, h8⟩
    · refine r_cond_t hb (by kernel_rfl) ?_
      refine pwp_skip ?_
      cases h8
      exact q_join (by kernel_rfl) (by kernel_rfl)
    refine r_cond_f hb (by kernel_rfl) ?_
    refine r_reg ?_
    refine e_end (by kernel_rfl) ?_
    cases h8
    exact q_join (by kernel_rfl) (by kernel_rfl)
  rintro x8 rfl
  have h := o_outl h
  rcases o_cond h with ⟨hb, h⟩ | ⟨hb, h⟩
  · refine r_cond_t hb (by kernel_rfl) ?_
    refine pwp_seq (pwp_seq (r_reg ?_))
    refine e_end (by kernel_rfl) ?_
    refine q_next (pwp_block ?_)
    obtain ⟨o18, h18, h⟩ := o_inl h
    refine r_loop2 71 1 (fun x12 => ⟨[(1, lstOf .frozen (a1 : (List Bool))), (2, .ref 2 0), (5, .int .i64 x12)], [(2, .cells (cellsOf a0))], [], []⟩) (fun (_ : Unit) => ⟨[(2, .ref 2 0)], [(2, .cells (cellsOf a0))], [], []⟩) h18 (by kernel_rfl) (fun _ => by kernel_rfl) ?_ ?_
    · rintro x12 oh17 h17
      unfold d_ref18_Eval_0 at h17
      refine pwp_seq (pwp_seq (r_reg ?_))
      refine p_run 3 (by kernel_rfl) ?_
      refine p_len (L := (a0.Args : (List R_api_Expr))) (by kernel_rfl) ?_
      refine e_end (by kernel_rfl) ?_
      refine q_next ?_
      rcases o_cond h17 with ⟨hb, h17⟩ | ⟨hb, h17⟩
      · refine r_cond_t hb (by kernel_rfl) ?_
        refine pwp_skip (q_next (pwp_seq (pwp_block (pwp_seq ?_))))
        refine r_regd (by kernel_rfl) (by kernel_rfl) ?_
        refine p_run 3 (by kernel_rfl) ?_
        obtain ⟨x16, h19, h17⟩ := o_bind h17
        obtain ⟨x17, h20, h17⟩ := o_bind h17
        rw [dec_T_api_Expr_eq h20] at h19
        refine p_ix h19 (by kernel_rfl) ?_
        refine p_run 2 (by kernel_rfl) ?_
        obtain ⟨r18, h21, h17⟩ := o_bind h17
        refine p_call (hrc_d_ref18_Eval _ _ r18 h21) (by kernel_rfl) (by kernel_rfl) ?_
        refine e_end (by kernel_rfl) ?_
        refine q_next ?_
        rcases o_cond h17 with ⟨hb, h17⟩ | ⟨hb, h17⟩
        · refine r_cond_t hb (by kernel_rfl) ?_
          refine pwp_seq (r_reg ?_)
          refine e_end (by kernel_rfl) ?_
          refine q_next (pwp_ret (q_block_ret (q_seq_ret ?_)))
          cases h17
          refine q_lout_ret fun he => ?_
          subst he
          have h22 := o_outr h
          refine q_block_ret (q_seq_ret (q_block_ret (q_seq_ret ?_)))
          cases h22
          exact q_ret (by kernel_rfl) (by kernel_rfl) (by kernel_rfl)
        refine r_cond_f hb (by kernel_rfl) ?_
        refine pwp_skip (q_block (q_next (r_reg ?_)))
        refine e_end (by kernel_rfl) ?_
        cases h17
        exact q_lback (by kernel_rfl)
      refine r_cond_f hb (by kernel_rfl) ?_
      refine pwp_exit (q_seq_exit ?_)
      cases h17
      exact q_lexit (by kernel_rfl) (by kernel_rfl)
    rintro _ s' rfl hs
    have h := o_outl h
    refine q_block_hit ?_
    refine q_next (pwp_wkr hs ?_)
    refine pwp_seq (r_reg ?_)
    refine e_end (by kernel_rfl) ?_
    refine q_next (pwp_ret (q_block_ret (q_seq_ret ?_)))
    cases h
    exact q_ret (by kernel_rfl) (by kernel_rfl) (by kernel_rfl)
  refine r_cond_f hb (by kernel_rfl) ?_
  refine pwp_skip (q_block (q_next (pwp_seq (r_reg ?_))))
  refine e_end (by kernel_rfl) ?_
  refine q_next (pwp_ret ?_)
  cases h
  exact q_ret (by kernel_rfl) (by kernel_rfl) (by kernel_rfl)
noncomputable def d_ref18_Eval_N (n : Nat) : T_api_Expr → (List Bool) → Option Bool := Nat.rec (fun _ _ => none) (fun _ ih => d_ref18_Eval_F ih) n
theorem d_ref18_Eval_N_ok : ∀ (n : Nat) (a0 : T_api_Expr) (a1 : (List Bool)) (r : Bool), d_ref18_Eval_N n a0 a1 = some r → PCall Go.Proofs.Tryd.prog GlS 12 [Enc.pv a0, Enc.pv a1] (Enc.pv r)
  | 0, _, _, _, h => by cases h
  | n + 1, a0, a1, r, h => d_ref18_Eval_F_ok (d_ref18_Eval_N n) (d_ref18_Eval_N_ok n) a0 a1 r h
noncomputable def d_ref18_Eval (a0 : T_api_Expr) (a1 : (List Bool)) : Option Bool := d_ref18_Eval_F (d_ref18_Eval_N recFuel) a0 a1
theorem d_ref18_Eval_ok (a0 : T_api_Expr) (a1 : (List Bool)) (r : Bool) (h : d_ref18_Eval a0 a1 = some r) : PCall Go.Proofs.Tryd.prog GlS 12 [Enc.pv a0, Enc.pv a1] (Enc.pv r) := d_ref18_Eval_F_ok (d_ref18_Eval_N recFuel) (d_ref18_Eval_N_ok recFuel) a0 a1 r h

/-! signallingref18.insert -/
noncomputable def d_ref18_insert_0 (a0 : (List Int)) (a1 : Int) : (Int × (List Int)) → Option ((Int × (List Int)) ⊕ (((List Int) × Int) ⊕ (List Int))) := fun (x10, x11) =>
  ((bif decide (x10 < ((a0.length : Nat) : Int)) then (
    (ixO a0 x10).bind fun x19 =>
    some (decide (x19 < a1))
  ) else some false) : Option Bool).bind fun b18 =>
  bif b18 then (
    (ixO a0 x10).bind fun x20 =>
    (appO x11 [x20]).bind fun x21 =>
    some (.inl (w64 (x10 + 1), x21))
  ) else (
    some (.inr (.inl (x11, x10)))
  )

noncomputable def d_ref18_insert (a0 : (List Int)) (a1 : Int) : Option (List Int) :=
  onInl (α := ((List Int) × Int)) (β := (List Int)) (loopO (d_ref18_insert_0 a0 a1) (0, ([] : (List Int)))) fun (x16, x17) =>
  onInl (α := (List Int)) (β := (List Int)) (
    ((bif decide (x17 = ((a0.length : Nat) : Int)) then some true else (
      (ixO a0 x17).bind fun x27 =>
      some (!(decide (x27 = a1)))
    )) : Option Bool).bind fun b26 =>
    bif b26 then (
      (appO x16 [a1]).bind fun x28 =>
      some (.inl x28)
    ) else (
      some (.inl x16)
    )
  ) fun x25 =>
  (slO a0 (some x17) none none).bind fun x29 =>
  (appO x25 x29).bind fun x30 =>
  some x30
theorem d_ref18_insert_ok (a0 : (List Int)) (a1 : Int) (r : (List Int)) (h : d_ref18_insert a0 a1 = some r) : PCall Go.Proofs.Tryd.prog GlS 33 [Enc.pv a0, Enc.pv a1] (lstOf (.own 100005) r) := by
  unfold d_ref18_insert at h
  refine pcall_of_pwp Go.Proofs.Tryd.func33 (by rfl) rfl Go.Proofs.Tryd.ntmps33 (by rfl) rfl ?_
  refine pwp_seq (r_reg ?_)
  refine e_end (by kernel_rfl) ?_
  refine q_next (pwp_seq (r_reg ?_))
  refine e_end (by kernel_rfl) ?_
  refine q_next (pwp_seq (r_reg ?_))
  refine e_end (by kernel_rfl) ?_
  refine q_next (pwp_seq (pwp_block ?_))
  refine g_nil 5 100005 1 8 (by kernel_rfl) (by kernel_rfl) ?_
  obtain ⟨o14, h14, h⟩ := o_inl h
  refine r_loop2 50 0 (fun (x10, x11) => ⟨[(0, lstOf .frozen (a0 : (List Int))), (1, .int .i64 a1), (5, lstOf (.own 100005) (x11 : (List Int))), (6, .int .i64 x10)], [], [(100005, (((x11).map cellsOf).length, 1))], []⟩) (fun (x16, x17) => ⟨[(0, lstOf .frozen (a0 : (List Int))), (1, .int .i64 a1), (5, lstOf (.own 100005) (x16 : (List Int))), (6, .int .i64 x17)], [], [(100005, (((x16).map cellsOf).length, 1))], []⟩) h14 (by kernel_rfl) (fun _ => by kernel_rfl) ?_ ?_
  · rintro ⟨x10, x11⟩ oh13 h13
    unfold d_ref18_insert_0 at h13
    refine pwp_seq (pwp_seq (r_reg ?_))
    refine p_run 2 (by kernel_rfl) ?_
    refine p_len (L := (a0 : (List Int))) (by kernel_rfl) ?_
    obtain ⟨b18, h15, h13⟩ := o_bind h13
    refine p_run 2 (by kernel_rfl) ?_
    refine e_seg 7 18 (.bool b18) ?_ ?_
    · rcases o_cond h15 with ⟨hb, h15⟩ | ⟨hb, h15⟩
      · refine p_settle 11 hb (by kernel_rfl) (by kernel_rfl) ?_
        refine p_run 2 (by kernel_rfl) ?_
        obtain ⟨x19, h16, h15⟩ := o_bind h15
        refine p_ix h16 (by kernel_rfl) ?_
        cases h15
        exact f_end (by kernel_rfl) (by kernel_rfl)
      refine p_settle 11 hb (by kernel_rfl) (by kernel_rfl) ?_
      cases h15
      exact f_end (by kernel_rfl) (by kernel_rfl)
    refine e_nil (by kernel_rfl) ?_
    refine q_next ?_
    rcases o_cond h13 with ⟨hb, h13⟩ | ⟨hb, h13⟩
    · refine r_cond_t hb (by kernel_rfl) ?_
      refine pwp_skip (q_next (pwp_block (pwp_seq (r_reg ?_))))
      refine p_run 3 (by kernel_rfl) ?_
      obtain ⟨x20, h17, h13⟩ := o_bind h13
      refine p_ix h17 (by kernel_rfl) ?_
      refine p_run 2 (by kernel_rfl) ?_
      obtain ⟨x21, h18, h13⟩ := o_bind h13
      refine p_app (tk := 100005) h18 (by kernel_rfl) (by kernel_rfl) ?_
      refine e_end (by kernel_rfl) ?_
      refine q_next (r_reg ?_)
      refine e_end (by kernel_rfl) ?_
      refine q_block ?_
      cases h13
      exact q_lback (by kernel_rfl)
    refine r_cond_f hb (by kernel_rfl) ?_
    refine pwp_exit (q_seq_exit ?_)
    cases h13
    exact q_lexit (by kernel_rfl) (by kernel_rfl)
  rintro ⟨x16, x17⟩ s' rfl hs
  have h := o_outl h
  refine q_block_hit ?_
  refine q_next (pwp_wkr hs ?_)
  obtain ⟨o22, h22, h⟩ := o_inl h
  refine r_join (o := o22) 50 (fun x25 => ⟨[(0, lstOf .frozen (a0 : (List Int))), (5, lstOf (.own 100005) (x25 : (List Int))), (6, .int .i64 x17)], [], [(100005, (((x25).map cellsOf).length, 1))], []⟩) ?_ ?_
  · refine pwp_seq (r_reg ?_)
    refine p_run 2 (by kernel_rfl) ?_
    refine p_len (L := (a0 : (List Int))) (by kernel_rfl) ?_
    obtain ⟨b26, h23, h22⟩ := o_bind h22
    refine p_run 2 (by kernel_rfl) ?_
    refine e_seg 7 39 (.bool b26) ?_ ?_
    · rcases o_cond h23 with ⟨hb, h23⟩ | ⟨hb, h23⟩
      · refine p_settle 32 hb (by kernel_rfl) (by kernel_rfl) ?_
        cases h23
        exact f_end (by kernel_rfl) (by kernel_rfl)
      refine p_settle 32 hb (by kernel_rfl) (by kernel_rfl) ?_
      refine p_run 2 (by kernel_rfl) ?_
      obtain ⟨x27, h24, h23⟩ := o_bind h23
      refine p_ix h24 (by kernel_rfl) ?_
      cases h23
      exact f_end (by kernel_rfl) (by kernel_rfl)
    refine e_nil (by kernel_rfl) ?_
    refine q_next ?_
    rcases o_cond h22 with ⟨hb, h22⟩ | ⟨hb, h22⟩
    · refine r_cond_t hb (by kernel_rfl) ?_
      refine r_reg ?_
      refine p_run 3 (by kernel_rfl) ?_
      obtain ⟨x28, h25, h22⟩ := o_bind h22
      refine p_app (tk := 100005) h25 (by kernel_rfl) (by kernel_rfl) ?_
      refine e_end (by kernel_rfl) ?_
      cases h22
      exact q_join (by kernel_rfl) (by kernel_rfl)
    refine r_cond_f hb (by kernel_rfl) ?_
    refine pwp_skip ?_
    cases h22
    exact q_join (by kernel_rfl) (by kernel_rfl)
  rintro x25 rfl
  have h := o_outl h
  refine pwp_seq (r_reg ?_)
  refine p_run 3 (by kernel_rfl) ?_
  obtain ⟨x29, h26, h⟩ := o_bind h
  refine p_sl h26 .frozen (by kernel_rfl) (by kernel_rfl) (by kernel_rfl) ?_
  obtain ⟨x30, h27, h⟩ := o_bind h
  refine p_app (tk := 100005) h27 (by kernel_rfl) (by kernel_rfl) ?_
  refine e_end (by kernel_rfl) ?_
  refine q_next (pwp_seq (r_reg ?_))
  refine e_end (by kernel_rfl) ?_
  refine q_next (pwp_ret ?_)
  cases h
  exact q_ret (by kernel_rfl) (by kernel_rfl) (by kernel_rfl)
theorem d_ref18_insert_fz (a0 : (List Int)) (a1 : Int) (r : (List Int)) (h : d_ref18_insert a0 a1 = some r) : PCall Go.Proofs.Tryd.prog GlS 33 [Enc.pv a0, Enc.pv a1] (Enc.pv r) :=
  (d_ref18_insert_ok a0 a1 r h).freeze (by kernel_rfl) (by kernel_rfl) (by kernel_rfl)

/-! signallingref18.Vars -/
noncomputable def d_ref18_Vars_1 (r33 : (List Int)) : ((List Int) × Int) → Option (((List Int) × Int) ⊕ ((List Int) ⊕ (((List Int) × Int) ⊕ ((List Int) ⊕ (List Int))))) := fun (x36, x37) =>
  bif decide (x37 < ((r33.length : Nat) : Int)) then (
    (ixO r33 x37).bind fun x41 =>
    (d_ref18_insert x36 x41).bind fun r42 =>
    some (.inl (r42, w64 (x37 + 1)))
  ) else (
    some (.inr (.inl x36))
  )

noncomputable def d_ref18_Vars_0 (rc_d_ref18_Vars : T_api_Expr → Option (List Int)) (a0 : T_api_Expr) : ((List Int) × Int) → Option (((List Int) × Int) ⊕ ((List Int) ⊕ (List Int))) := fun (x16, x17) =>
  bif decide (x17 < ((a0.Args.length : Nat) : Int)) then (
    (ixO a0.Args x17).bind fun x31 =>
    (dec_T_api_Expr x31).bind fun x32 =>
    (rc_d_ref18_Vars x32).bind fun r33 =>
    onInl (α := (List Int)) (β := (((List Int) × Int) ⊕ ((List Int) ⊕ (List Int)))) (loopO (d_ref18_Vars_1 r33) (x16, 0)) fun x40 =>
    some (.inl (x40, w64 (x17 + 1)))
  ) else (
    some (.inr (.inl x16))
  )

noncomputable def d_ref18_Vars_F (rc_d_ref18_Vars : T_api_Expr → Option (List Int)) (a0 : T_api_Expr) : Option (List Int) :=
  onInl (α := (List Int)) (β := (List Int)) (
    bif decide (a0.Op = 3) then (
      (appO ([] : (List Int)) [a0.Var]).bind fun x3 =>
      some (.inl x3)
    ) else (
      some (.inl ([] : (List Int)))
    )
  ) fun x2 =>
  onInl (α := (List Int)) (β := (List Int)) (loopO (d_ref18_Vars_0 rc_d_ref18_Vars a0) (x2, 0)) fun x30 =>
  some x30
theorem d_ref18_Vars_F_ok (rc_d_ref18_Vars : T_api_Expr → Option (List Int)) (hrc_d_ref18_Vars : ∀ (a0 : T_api_Expr) (r : (List Int)), rc_d_ref18_Vars a0 = some r → PCall Go.Proofs.Tryd.prog GlS 15 [Enc.pv a0] (Enc.pv r)) (a0 : T_api_Expr) (r : (List Int)) (h : d_ref18_Vars_F rc_d_ref18_Vars a0 = some r) : PCall Go.Proofs.Tryd.prog GlS 15 [Enc.pv a0] (Enc.pv r) := by
  unfold d_ref18_Vars_F at h
  refine pcall_of_pwp Go.Proofs.Tryd.func15 (by rfl) rfl Go.Proofs.Tryd.ntmps15 (by rfl) rfl ?_
  refine pwp_seq (r_reg ?_)
  refine e_end (by kernel_rfl) ?_
  refine q_next (pwp_seq (r_reg ?_))
  refine e_end (by kernel_rfl) ?_
  refine q_next ?_
  obtain ⟨o2, h2, h⟩ := o_inl h
  refine r_join (o := o2) 41 (fun x2 => ⟨[(1, .ref 1 0), (3, lstOf (.own 14) (x2 : (List Int)))], [(1, .cells (cellsOf a0))], [(14, (((x2).map cellsOf).length, 1))], []⟩) ?_ ?_
  · refine pwp_seq (r_reg ?_)
    refine e_end (by kernel_rfl) ?_
    refine q_next ?_
    rcases o_cond h2 with ⟨hb, h2⟩ | ⟨hb, h2⟩
    · refine r_cond_t hb (by kernel_rfl) ?_
      refine r_reg ?_
      refine p_run 4 (by kernel_rfl) ?_
      obtain ⟨x3, h3, h2⟩ := o_bind h2
      refine p_appn (tk := 14) h3 (by kernel_rfl) ?_
      refine e_end (by kernel_rfl) ?_
      cases h2
      exact q_join (by kernel_rfl) (by kernel_rfl)
    refine r_cond_f hb (by kernel_rfl) ?_
    refine pwp_skip ?_
    cases h2
    exact q_join_w (wkr_nil 3 14 1 8 (by kernel_rfl) (by kernel_rfl)) (by kernel_rfl) (by kernel_rfl)
  rintro x2 rfl
  have h := o_outl h
  refine pwp_seq (pwp_seq (r_reg ?_))
  refine e_end (by kernel_rfl) ?_
  refine q_next (pwp_block ?_)
  obtain ⟨o27, h27, h⟩ := o_inl h
  refine r_loop2 41 0 (fun (x16, x17) => ⟨[(1, .ref 1 0), (3, lstOf .frozen (x16 : (List Int))), (4, .int .i64 x17)], [(1, .cells (cellsOf a0))], [], []⟩) (fun x30 => ⟨[(3, lstOf .frozen (x30 : (List Int)))], [], [], []⟩) h27 (by kernel_rfl) (fun _ => by kernel_rfl) ?_ ?_
  · rintro ⟨x16, x17⟩ oh26 h26
    unfold d_ref18_Vars_0 at h26
    refine pwp_seq (pwp_seq (r_reg ?_))
    refine p_run 3 (by kernel_rfl) ?_
    refine p_len (L := (a0.Args : (List R_api_Expr))) (by kernel_rfl) ?_
    refine e_end (by kernel_rfl) ?_
    refine q_next ?_
    rcases o_cond h26 with ⟨hb, h26⟩ | ⟨hb, h26⟩
    · refine r_cond_t hb (by kernel_rfl) ?_
      refine pwp_skip (q_next (pwp_seq (pwp_block (pwp_seq (r_reg ?_)))))
      refine p_run 3 (by kernel_rfl) ?_
      obtain ⟨x31, h28, h26⟩ := o_bind h26
      obtain ⟨x32, h29, h26⟩ := o_bind h26
      rw [dec_T_api_Expr_eq h29] at h28
      refine p_ix h28 (by kernel_rfl) ?_
      refine p_run 1 (by kernel_rfl) ?_
      obtain ⟨r33, h30, h26⟩ := o_bind h26
      refine p_call (hrc_d_ref18_Vars _ r33 h30) (by kernel_rfl) (by kernel_rfl) ?_
      refine e_end (by kernel_rfl) ?_
      refine q_next (pwp_seq (r_reg ?_))
      refine e_end (by kernel_rfl) ?_
      refine q_next (pwp_block ?_)
      obtain ⟨o36, h36, h26⟩ := o_inl h26
      refine r_loop2 41 2 (fun (x36, x37) => ⟨[(1, .ref 1 0), (3, lstOf .frozen (x36 : (List Int))), (4, .int .i64 x17), (5, lstOf .frozen (r33 : (List Int))), (6, .int .i64 x37)], [(1, .cells (cellsOf a0))], [], []⟩) (fun x40 => ⟨[(1, .ref 1 0), (3, lstOf .frozen (x40 : (List Int))), (4, .int .i64 x17)], [(1, .cells (cellsOf a0))], [], []⟩) h36 (by kernel_rfl) (fun _ => by kernel_rfl) ?_ ?_
      · rintro ⟨x36, x37⟩ oh35 h35
        unfold d_ref18_Vars_1 at h35
        refine pwp_seq (pwp_seq (r_reg ?_))
        refine p_run 2 (by kernel_rfl) ?_
        refine p_len (L := (r33 : (List Int))) (by kernel_rfl) ?_
        refine e_end (by kernel_rfl) ?_
        refine q_next ?_
        rcases o_cond h35 with ⟨hb, h35⟩ | ⟨hb, h35⟩
        · refine r_cond_t hb (by kernel_rfl) ?_
          refine pwp_skip (q_next (pwp_seq (pwp_block (r_reg ?_))))
          refine p_run 3 (by kernel_rfl) ?_
          obtain ⟨x41, h37, h35⟩ := o_bind h35
          refine p_ix h37 (by kernel_rfl) ?_
          refine p_run 1 (by kernel_rfl) ?_
          obtain ⟨r42, h38, h35⟩ := o_bind h35
          refine p_call (d_ref18_insert_ok _ _ r42 h38) (by kernel_rfl) (by kernel_rfl) ?_
          refine e_end (by kernel_rfl) ?_
          refine q_block (q_next (r_reg ?_))
          refine e_end (by kernel_rfl) ?_
          cases h35
          exact q_lback (by kernel_rfl)
        refine r_cond_f hb (by kernel_rfl) ?_
        refine pwp_exit (q_seq_exit ?_)
        cases h35
        exact q_lexit (by kernel_rfl) (by kernel_rfl)
      rintro x40 s' rfl hs
      have h26 := o_outl h26
      refine q_block_hit (q_block ?_)
      refine q_next (pwp_wkr hs ?_)
      refine r_reg ?_
      refine e_end (by kernel_rfl) ?_
      cases h26
      exact q_lback (by kernel_rfl)
    refine r_cond_f hb (by kernel_rfl) ?_
    refine pwp_exit (q_seq_exit ?_)
    cases h26
    exact q_lexit (by kernel_rfl) (by kernel_rfl)
  rintro x30 s' rfl hs
  have h := o_outl h
  refine q_block_hit ?_
  refine q_next (pwp_wkr hs ?_)
  refine pwp_seq (r_reg ?_)
  refine e_end (by kernel_rfl) ?_
  refine q_next (pwp_ret ?_)
  cases h
  exact q_ret (by kernel_rfl) (by kernel_rfl) (by kernel_rfl)
noncomputable def d_ref18_Vars_N (n : Nat) : T_api_Expr → Option (List Int) := Nat.rec (fun _ => none) (fun _ ih => d_ref18_Vars_F ih) n
theorem d_ref18_Vars_N_ok : ∀ (n : Nat) (a0 : T_api_Expr) (r : (List Int)), d_ref18_Vars_N n a0 = some r → PCall Go.Proofs.Tryd.prog GlS 15 [Enc.pv a0] (Enc.pv r)
  | 0, _, _, h => by cases h
  | n + 1, a0, r, h => d_ref18_Vars_F_ok (d_ref18_Vars_N n) (d_ref18_Vars_N_ok n) a0 r h
noncomputable def d_ref18_Vars (a0 : T_api_Expr) : Option (List Int) := d_ref18_Vars_F (d_ref18_Vars_N recFuel) a0
theorem d_ref18_Vars_ok (a0 : T_api_Expr) (r : (List Int)) (h : d_ref18_Vars a0 = some r) : PCall Go.Proofs.Tryd.prog GlS 15 [Enc.pv a0] (Enc.pv r) := d_ref18_Vars_F_ok (d_ref18_Vars_N recFuel) (d_ref18_Vars_N_ok recFuel) a0 r h

/-! signallinglaw18.same -/
noncomputable def d_law18_same_0 (a0 : (List Int)) (a1 : (List Int)) : Int → Option (Int ⊕ (Unit ⊕ Bool)) := fun x3 =>
  bif decide (x3 < ((a0.length : Nat) : Int)) then (
    (ixO a0 x3).bind fun x6 =>
    (ixO a1 x3).bind fun x7 =>
    bif (!(decide (x6 = x7))) then (
      some (.inr (.inr false))
    ) else (
      some (.inl (w64 (x3 + 1)))
    )
  ) else (
    some (.inr (.inl ()))
  )

noncomputable def d_law18_same (a0 : (List Int)) (a1 : (List Int)) : Option Bool :=
  bif (!(decide (((a0.length : Nat) : Int) = ((a1.length : Nat) : Int)))) then (
    some false
  ) else (
    onInl (α := Unit) (β := Bool) (loopO (d_law18_same_0 a0 a1) 0) fun _ =>
    some true
  )
theorem d_law18_same_ok (a0 : (List Int)) (a1 : (List Int)) (r : Bool) (h : d_law18_same a0 a1 = some r) : PCall Go.Proofs.Tryd.prog GlS 13 [Enc.pv a0, Enc.pv a1] (Enc.pv r) := by
  unfold d_law18_same at h
  refine pcall_of_pwp Go.Proofs.Tryd.func13 (by rfl) rfl Go.Proofs.Tryd.ntmps13 (by rfl) rfl ?_
  refine pwp_seq (r_reg ?_)
  refine e_end (by kernel_rfl) ?_
  refine q_next (pwp_seq (pwp_seq (r_reg ?_)))
  refine p_run 1 (by kernel_rfl) ?_
  refine p_len (L := (a0 : (List Int))) (by kernel_rfl) ?_
  refine p_run 1 (by kernel_rfl) ?_
  refine p_len (L := (a1 : (List Int))) (by kernel_rfl) ?_
  refine e_end (by kernel_rfl) ?_
  refine q_next ?_
  rcases o_cond h with ⟨hb, h⟩ | ⟨hb, h⟩
  · refine r_cond_t hb (by kernel_rfl) ?_
    refine pwp_seq (r_reg ?_)
    refine e_end (by kernel_rfl) ?_
    refine q_next (pwp_ret (q_seq_ret ?_))
    cases h
    exact q_ret (by kernel_rfl) (by kernel_rfl) (by kernel_rfl)
  refine r_cond_f hb (by kernel_rfl) ?_
  refine pwp_skip (q_next (pwp_seq (pwp_seq (r_reg ?_))))
  refine p_run 1 (by kernel_rfl) ?_
  refine p_len (L := (a0 : (List Int))) (by kernel_rfl) ?_
  refine e_end (by kernel_rfl) ?_
  refine q_next (pwp_block ?_)
  obtain ⟨o8, h8, h⟩ := o_inl h
  refine r_loop2 26 0 (fun x3 => ⟨[(0, lstOf .frozen (a0 : (List Int))), (1, lstOf .frozen (a1 : (List Int))), (12, .int .i64 ((a0.length : Nat) : Int)), (13, .int .i64 x3)], [], [], []⟩) (fun (_ : Unit) => ⟨[], [], [], []⟩) h8 (by kernel_rfl) (fun _ => by kernel_rfl) ?_ ?_
  · rintro x3 oh7 h7
    unfold d_law18_same_0 at h7
    refine pwp_seq (r_reg ?_)
    refine e_end (by kernel_rfl) ?_
    refine q_next (pwp_seq ?_)
    rcases o_cond h7 with ⟨hb, h7⟩ | ⟨hb, h7⟩
    · refine r_cond_t hb (by kernel_rfl) ?_
      refine pwp_skip (q_next (pwp_seq (pwp_block (pwp_seq (r_reg ?_)))))
      refine e_end (by kernel_rfl) ?_
      refine q_next (pwp_seq ?_)
      refine r_regd (by kernel_rfl) (by kernel_rfl) ?_
      refine p_run 2 (by kernel_rfl) ?_
      obtain ⟨x6, h9, h7⟩ := o_bind h7
      refine p_ix h9 (by kernel_rfl) ?_
      refine p_run 3 (by kernel_rfl) ?_
      obtain ⟨x7, h10, h7⟩ := o_bind h7
      refine p_ix h10 (by kernel_rfl) ?_
      refine e_end (by kernel_rfl) ?_
      refine q_next ?_
      rcases o_cond h7 with ⟨hb, h7⟩ | ⟨hb, h7⟩
      · refine r_cond_t hb (by kernel_rfl) ?_
        refine pwp_seq (r_reg ?_)
        refine e_end (by kernel_rfl) ?_
        refine q_next (pwp_ret (q_block_ret (q_seq_ret ?_)))
        cases h7
        refine q_lout_ret fun he => ?_
        subst he
        have h11 := o_outr h
        refine q_block_ret (q_seq_ret ?_)
        cases h11
        exact q_ret (by kernel_rfl) (by kernel_rfl) (by kernel_rfl)
      refine r_cond_f hb (by kernel_rfl) ?_
      refine pwp_skip (q_block (q_next (r_reg ?_)))
      refine e_end (by kernel_rfl) ?_
      cases h7
      exact q_lback (by kernel_rfl)
    refine r_cond_f hb (by kernel_rfl) ?_
    refine pwp_exit (q_seq_exit ?_)
    cases h7
    exact q_lexit (by kernel_rfl) (by kernel_rfl)
  rintro _ s' rfl hs
  have h := o_outl h
  refine q_block_hit ?_
  refine q_next (pwp_wkr hs ?_)
  refine pwp_seq (r_reg ?_)
  refine e_end (by kernel_rfl) ?_
  refine q_next (pwp_ret ?_)
  cases h
  exact q_ret (by kernel_rfl) (by kernel_rfl) (by kernel_rfl)

/-! signallinglaw18.ExprValues -/
noncomputable def d_law18_ExprValues (a0 : T_api_Expr) (a1 : (List Bool)) : Option Bool :=
  (d_law18_modest a0).bind fun r1 =>
  bif (!r1) then (
    (d_law18_alive ).bind fun r2 =>
    some r2
  ) else (
    (d_expr_Eval a0 a1).bind fun r3 =>
    (d_ref18_Eval a0 a1).bind fun r4 =>
    ((bif (r3 == r4) then (
      (d_expr_Vars a0).bind fun r6 =>
      (d_ref18_Vars a0).bind fun r7 =>
      (d_law18_same r6 r7).bind fun r8 =>
      some r8
    ) else some false) : Option Bool).bind fun b5 =>
    ((bif b5 then (
      (d_law18_alive ).bind fun r10 =>
      some r10
    ) else some false) : Option Bool).bind fun b9 =>
    some b9
  )
theorem d_law18_ExprValues_ok (a0 : T_api_Expr) (a1 : (List Bool)) (r : Bool) (h : d_law18_ExprValues a0 a1 = some r) : PCall Go.Proofs.Tryd.prog GlS 3 [Enc.pv a0, Enc.pv a1] (Enc.pv r) := by
  unfold d_law18_ExprValues at h
  refine pcall_of_pwp Go.Proofs.Tryd.func3 (by rfl) rfl Go.Proofs.Tryd.ntmps3 (by rfl) rfl ?_
  refine pwp_seq (r_reg ?_)
  refine e_end (by kernel_rfl) ?_
  refine q_next (pwp_seq (pwp_seq (r_reg ?_)))
  refine p_run 1 (by kernel_rfl) ?_
  obtain ⟨r1, h1, h⟩ := o_bind h
  refine p_call (d_law18_modest_ok _ r1 h1) (by kernel_rfl) (by kernel_rfl) ?_
  refine e_end (by kernel_rfl) ?_
  refine q_next ?_
  rcases o_cond h with ⟨hb, h⟩ | ⟨hb, h⟩
  · refine r_cond_t hb (by kernel_rfl) ?_
    refine pwp_seq (r_reg ?_)
    obtain ⟨r2, h2, h⟩ := o_bind h
    refine p_call (d_law18_alive_ok  r2 h2) (by kernel_rfl) (by kernel_rfl) ?_
    refine e_end (by kernel_rfl) ?_
    refine q_next (pwp_ret (q_seq_ret ?_))
    cases h
    exact q_ret (by kernel_rfl) (by kernel_rfl) (by kernel_rfl)
  refine r_cond_f hb (by kernel_rfl) ?_
  refine pwp_skip (q_next (pwp_seq ?_))
  refine r_regd (by kernel_rfl) (by kernel_rfl) ?_
  refine p_run 2 (by kernel_rfl) ?_
  obtain ⟨r3, h3, h⟩ := o_bind h
  refine p_call (d_expr_Eval_ok _ _ r3 h3) (by kernel_rfl) (by kernel_rfl) ?_
  refine p_run 2 (by kernel_rfl) ?_
  obtain ⟨r4, h4, h⟩ := o_bind h
  refine p_call (d_ref18_Eval_ok _ _ r4 h4) (by kernel_rfl) (by kernel_rfl) ?_
  obtain ⟨b5, h5, h⟩ := o_bind h
  refine p_run 2 (by kernel_rfl) ?_
  refine e_seg 6 22 (.bool b5) ?_ ?_
  · rcases o_cond h5 with ⟨hb, h5⟩ | ⟨hb, h5⟩
    · refine p_settle 16 hb (by kernel_rfl) (by kernel_rfl) ?_
      refine p_run 1 (by kernel_rfl) ?_
      obtain ⟨r6, h6, h5⟩ := o_bind h5
      refine p_call (d_expr_Vars_ok _ r6 h6) (by kernel_rfl) (by kernel_rfl) ?_
      refine p_run 1 (by kernel_rfl) ?_
      obtain ⟨r7, h7, h5⟩ := o_bind h5
      refine p_call (d_ref18_Vars_ok _ r7 h7) (by kernel_rfl) (by kernel_rfl) ?_
      obtain ⟨r8, h8, h5⟩ := o_bind h5
      refine p_call (d_law18_same_ok _ _ r8 h8) (by kernel_rfl) (by kernel_rfl) ?_
      cases h5
      exact f_end (by kernel_rfl) (by kernel_rfl)
    refine p_settle 16 hb (by kernel_rfl) (by kernel_rfl) ?_
    cases h5
    exact f_end (by kernel_rfl) (by kernel_rfl)
  obtain ⟨b9, h9, h⟩ := o_bind h
  refine p_run 1 (by kernel_rfl) ?_
  refine e_seg 2 25 (.bool b9) ?_ ?_
  · rcases o_cond h9 with ⟨hb, h9⟩ | ⟨hb, h9⟩
    · refine p_settle 23 hb (by kernel_rfl) (by kernel_rfl) ?_
      obtain ⟨r10, h10, h9⟩ := o_bind h9
      refine p_call (d_law18_alive_ok  r10 h10) (by kernel_rfl) (by kernel_rfl) ?_
      cases h9
      exact f_end (by kernel_rfl) (by kernel_rfl)
    refine p_settle 23 hb (by kernel_rfl) (by kernel_rfl) ?_
    cases h9
    exact f_end (by kernel_rfl) (by kernel_rfl)
  refine e_end (by kernel_rfl) ?_
  refine q_next (pwp_ret ?_)
  cases h
  exact q_ret (by kernel_rfl) (by kernel_rfl) (by kernel_rfl)

/-! signallingref18.Size -/
noncomputable def d_ref18_Size_0 (rc_d_ref18_Size : T_api_Expr → Option Int) (a0 : T_api_Expr) : (Int × Int) → Option ((Int × Int) ⊕ (Int ⊕ Int)) := fun (x4, x5) =>
  bif decide (x5 < ((a0.Args.length : Nat) : Int)) then (
    (ixO a0.Args x5).bind fun x10 =>
    (dec_T_api_Expr x10).bind fun x11 =>
    (rc_d_ref18_Size x11).bind fun r12 =>
    some (.inl (w64 (x4 + r12), w64 (x5 + 1)))
  ) else (
    some (.inr (.inl x4))
  )

noncomputable def d_ref18_Size_F (rc_d_ref18_Size : T_api_Expr → Option Int) (a0 : T_api_Expr) : Option Int :=
  onInl (α := Int) (β := Int) (loopO (d_ref18_Size_0 rc_d_ref18_Size a0) (1, 0)) fun x9 =>
  some x9
theorem d_ref18_Size_F_ok (rc_d_ref18_Size : T_api_Expr → Option Int) (hrc_d_ref18_Size : ∀ (a0 : T_api_Expr) (r : Int), rc_d_ref18_Size a0 = some r → PCall Go.Proofs.Tryd.prog GlS 26 [Enc.pv a0] (Enc.pv r)) (a0 : T_api_Expr) (r : Int) (h : d_ref18_Size_F rc_d_ref18_Size a0 = some r) : PCall Go.Proofs.Tryd.prog GlS 26 [Enc.pv a0] (Enc.pv r) := by
  unfold d_ref18_Size_F at h
  refine pcall_of_pwp Go.Proofs.Tryd.func26 (by rfl) rfl Go.Proofs.Tryd.ntmps26 (by rfl) rfl ?_
  refine pwp_seq (r_reg ?_)
  refine e_end (by kernel_rfl) ?_
  refine q_next (pwp_seq (r_reg ?_))
  refine e_end (by kernel_rfl) ?_
  refine q_next (pwp_seq (pwp_seq (r_reg ?_)))
  refine e_end (by kernel_rfl) ?_
  refine q_next (pwp_block ?_)
  obtain ⟨o8, h8, h⟩ := o_inl h
  refine r_loop2 21 0 (fun (x4, x5) => ⟨[(1, .ref 1 0), (3, .int .i64 x4), (4, .int .i64 x5)], [(1, .cells (cellsOf a0))], [], []⟩) (fun x9 => ⟨[(3, .int .i64 x9)], [], [], []⟩) h8 (by kernel_rfl) (fun _ => by kernel_rfl) ?_ ?_
  · rintro ⟨x4, x5⟩ oh7 h7
    unfold d_ref18_Size_0 at h7
    refine pwp_seq (pwp_seq (r_reg ?_))
    refine p_run 3 (by kernel_rfl) ?_
    refine p_len (L := (a0.Args : (List R_api_Expr))) (by kernel_rfl) ?_
    refine e_end (by kernel_rfl) ?_
    refine q_next ?_
    rcases o_cond h7 with ⟨hb, h7⟩ | ⟨hb, h7⟩
    · refine r_cond_t hb (by kernel_rfl) ?_
      refine pwp_skip (q_next (pwp_seq (pwp_block (r_reg ?_))))
      refine p_run 4 (by kernel_rfl) ?_
      obtain ⟨x10, h9, h7⟩ := o_bind h7
      obtain ⟨x11, h10, h7⟩ := o_bind h7
      rw [dec_T_api_Expr_eq h10] at h9
      refine p_ix h9 (by kernel_rfl) ?_
      refine p_run 1 (by kernel_rfl) ?_
      obtain ⟨r12, h11, h7⟩ := o_bind h7
      refine p_call (hrc_d_ref18_Size _ r12 h11) (by kernel_rfl) (by kernel_rfl) ?_
      refine e_end (by kernel_rfl) ?_
      refine q_block (q_next (r_reg ?_))
      refine e_end (by kernel_rfl) ?_
      cases h7
      exact q_lback (by kernel_rfl)
    refine r_cond_f hb (by kernel_rfl) ?_
    refine pwp_exit (q_seq_exit ?_)
    cases h7
    exact q_lexit (by kernel_rfl) (by kernel_rfl)
  rintro x9 s' rfl hs
  have h := o_outl h
  refine q_block_hit ?_
  refine q_next (pwp_wkr hs ?_)
  refine pwp_seq (r_reg ?_)
  refine e_end (by kernel_rfl) ?_
  refine q_next (pwp_ret ?_)
  cases h
  exact q_ret (by kernel_rfl) (by kernel_rfl) (by kernel_rfl)
noncomputable def d_ref18_Size_N (n : Nat) : T_api_Expr → Option Int := Nat.rec (fun _ => none) (fun _ ih => d_ref18_Size_F ih) n
theorem d_ref18_Size_N_ok : ∀ (n : Nat) (a0 : T_api_Expr) (r : Int), d_ref18_Size_N n a0 = some r → PCall Go.Proofs.Tryd.prog GlS 26 [Enc.pv a0] (Enc.pv r)
  | 0, _, _, h => by cases h
  | n + 1, a0, r, h => d_ref18_Size_F_ok (d_ref18_Size_N n) (d_ref18_Size_N_ok n) a0 r h
noncomputable def d_ref18_Size (a0 : T_api_Expr) : Option Int := d_ref18_Size_F (d_ref18_Size_N recFuel) a0
theorem d_ref18_Size_ok (a0 : T_api_Expr) (r : Int) (h : d_ref18_Size a0 = some r) : PCall Go.Proofs.Tryd.prog GlS 26 [Enc.pv a0] (Enc.pv r) := d_ref18_Size_F_ok (d_ref18_Size_N recFuel) (d_ref18_Size_N_ok recFuel) a0 r h

/-! signallingref18.Depth -/
noncomputable def d_ref18_Depth_0 (rc_d_ref18_Depth : T_api_Expr → Option Int) (a0 : T_api_Expr) : (Int × Int) → Option ((Int × Int) ⊕ (Int ⊕ Int)) := fun (x4, x5) =>
  bif decide (x5 < ((a0.Args.length : Nat) : Int)) then (
    (ixO a0.Args x5).bind fun x10 =>
    (dec_T_api_Expr x10).bind fun x11 =>
    (rc_d_ref18_Depth x11).bind fun r12 =>
    some (.inl (max x4 r12, w64 (x5 + 1)))
  ) else (
    some (.inr (.inl x4))
  )

noncomputable def d_ref18_Depth_F (rc_d_ref18_Depth : T_api_Expr → Option Int) (a0 : T_api_Expr) : Option Int :=
  onInl (α := Int) (β := Int) (loopO (d_ref18_Depth_0 rc_d_ref18_Depth a0) (0, 0)) fun x9 =>
  some (w64 (x9 + 1))
theorem d_ref18_Depth_F_ok (rc_d_ref18_Depth : T_api_Expr → Option Int) (hrc_d_ref18_Depth : ∀ (a0 : T_api_Expr) (r : Int), rc_d_ref18_Depth a0 = some r → PCall Go.Proofs.Tryd.prog GlS 38 [Enc.pv a0] (Enc.pv r)) (a0 : T_api_Expr) (r : Int) (h : d_ref18_Depth_F rc_d_ref18_Depth a0 = some r) : PCall Go.Proofs.Tryd.prog GlS 38 [Enc.pv a0] (Enc.pv r) := by
  unfold d_ref18_Depth_F at h
  refine pcall_of_pwp Go.Proofs.Tryd.func38 (by rfl) rfl Go.Proofs.Tryd.ntmps38 (by rfl) rfl ?_
  refine pwp_seq (r_reg ?_)
  refine e_end (by kernel_rfl) ?_
  refine q_next (pwp_seq (r_reg ?_))
  refine e_end (by kernel_rfl) ?_
  refine q_next (pwp_seq (pwp_seq (r_reg ?_)))
  refine e_end (by kernel_rfl) ?_
  refine q_next (pwp_block ?_)
  obtain ⟨o8, h8, h⟩ := o_inl h
  refine r_loop2 22 0 (fun (x4, x5) => ⟨[(1, .ref 1 0), (3, .int .i64 x4), (4, .int .i64 x5)], [(1, .cells (cellsOf a0))], [], []⟩) (fun x9 => ⟨[(3, .int .i64 x9)], [], [], []⟩) h8 (by kernel_rfl) (fun _ => by kernel_rfl) ?_ ?_
  · rintro ⟨x4, x5⟩ oh7 h7
    unfold d_ref18_Depth_0 at h7
    refine pwp_seq (pwp_seq (r_reg ?_))
    refine p_run 3 (by kernel_rfl) ?_
    refine p_len (L := (a0.Args : (List R_api_Expr))) (by kernel_rfl) ?_
    refine e_end (by kernel_rfl) ?_
    refine q_next ?_
    rcases o_cond h7 with ⟨hb, h7⟩ | ⟨hb, h7⟩
    · refine r_cond_t hb (by kernel_rfl) ?_
      refine pwp_skip (q_next (pwp_seq (pwp_block (r_reg ?_))))
      refine p_run 4 (by kernel_rfl) ?_
      obtain ⟨x10, h9, h7⟩ := o_bind h7
      obtain ⟨x11, h10, h7⟩ := o_bind h7
      rw [dec_T_api_Expr_eq h10] at h9
      refine p_ix h9 (by kernel_rfl) ?_
      refine p_run 1 (by kernel_rfl) ?_
      obtain ⟨r12, h11, h7⟩ := o_bind h7
      refine p_call (hrc_d_ref18_Depth _ r12 h11) (by kernel_rfl) (by kernel_rfl) ?_
      refine e_end (by kernel_rfl) ?_
      refine q_block (q_next (r_reg ?_))
      refine e_end (by kernel_rfl) ?_
      cases h7
      exact q_lback (by kernel_rfl)
    refine r_cond_f hb (by kernel_rfl) ?_
    refine pwp_exit (q_seq_exit ?_)
    cases h7
    exact q_lexit (by kernel_rfl) (by kernel_rfl)
  rintro x9 s' rfl hs
  have h := o_outl h
  refine q_block_hit ?_
  refine q_next (pwp_wkr hs ?_)
  refine pwp_seq (r_reg ?_)
  refine e_end (by kernel_rfl) ?_
  refine q_next (pwp_ret ?_)
  cases h
  exact q_ret (by kernel_rfl) (by kernel_rfl) (by kernel_rfl)
noncomputable def d_ref18_Depth_N (n : Nat) : T_api_Expr → Option Int := Nat.rec (fun _ => none) (fun _ ih => d_ref18_Depth_F ih) n
theorem d_ref18_Depth_N_ok : ∀ (n : Nat) (a0 : T_api_Expr) (r : Int), d_ref18_Depth_N n a0 = some r → PCall Go.Proofs.Tryd.prog GlS 38 [Enc.pv a0] (Enc.pv r)
  | 0, _, _, h => by cases h
  | n + 1, a0, r, h => d_ref18_Depth_F_ok (d_ref18_Depth_N n) (d_ref18_Depth_N_ok n) a0 r h
noncomputable def d_ref18_Depth (a0 : T_api_Expr) : Option Int := d_ref18_Depth_F (d_ref18_Depth_N recFuel) a0
theorem d_ref18_Depth_ok (a0 : T_api_Expr) (r : Int) (h : d_ref18_Depth a0 = some r) : PCall Go.Proofs.Tryd.prog GlS 38 [Enc.pv a0] (Enc.pv r) := d_ref18_Depth_F_ok (d_ref18_Depth_N recFuel) (d_ref18_Depth_N_ok recFuel) a0 r h

/-! signallingref18.form -/
noncomputable def d_ref18_form_0 (rc_d_ref18_form : T_api_Expr → Int → Option Bool) (a0 : T_api_Expr) (a1 : Int) : Int → Option (Int ⊕ (Unit ⊕ Bool)) := fun x8 =>
  bif decide (x8 < ((a0.Args.length : Nat) : Int)) then (
    (ixO a0.Args x8).bind fun x12 =>
    (dec_T_api_Expr x12).bind fun x13 =>
    (rc_d_ref18_form x13 a1).bind fun r14 =>
    bif (!r14) then (
      some (.inr (.inr false))
    ) else (
      some (.inl (w64 (x8 + 1)))
    )
  ) else (
    some (.inr (.inl ()))
  )

noncomputable def d_ref18_form_F (rc_d_ref18_form : T_api_Expr → Int → Option Bool) (a0 : T_api_Expr) (a1 : Int) : Option Bool :=
  onInl (α := Unit) (β := Bool) (
    onInl (α := Bool) (β := (Unit ⊕ Bool)) (
      bif decide (a0.Op = 1) then (
        some (.inl (decide (a0.Op = 1)))
      ) else (
        some (.inl (decide (a0.Op = 2)))
      )
    ) fun x3 =>
    bif x3 then (
      some (.inr ((decide (a0.Var = 0)) && (decide (((a0.Args.length : Nat) : Int) = 0))))
    ) else (
      bif decide (a0.Op = 3) then (
        some (.inr (((decide (0 ≤ a0.Var)) && (decide (a0.Var < a1))) && (decide (((a0.Args.length : Nat) : Int) = 0))))
      ) else (
        bif decide (a0.Op = 4) then (
          bif (!(decide (((a0.Args.length : Nat) : Int) = 1))) then (
            some (.inr false)
          ) else (
            some (.inl ())
          )
        ) else (
          onInl (α := Bool) (β := (Unit ⊕ Bool)) (
            bif decide (a0.Op = 5) then (
              some (.inl (decide (a0.Op = 5)))
            ) else (
              some (.inl (decide (a0.Op = 6)))
            )
          ) fun x4 =>
          bif x4 then (
            some (.inl ())
          ) else (
            some (.inr false)
          )
        )
      )
    )
  ) fun _ =>
  onInl (α := Unit) (β := Bool) (loopO (d_ref18_form_0 rc_d_ref18_form a0 a1) 0) fun _ =>
  some (decide (a0.Var = 0))
theorem d_ref18_form_F_ok (rc_d_ref18_form : T_api_Expr → Int → Option Bool) (hrc_d_ref18_form : ∀ (a0 : T_api_Expr) (a1 : Int) (r : Bool), rc_d_ref18_form a0 a1 = some r → PCall Go.Proofs.Tryd.prog GlS 39 [Enc.pv a0, Enc.pv a1] (Enc.pv r)) (a0 : T_api_Expr) (a1 : Int) (r : Bool) (h : d_ref18_form_F rc_d_ref18_form a0 a1 = some r) : PCall Go.Proofs.Tryd.prog GlS 39 [Enc.pv a0, Enc.pv a1] (Enc.pv r) := by
  unfold d_ref18_form_F at h
  refine pcall_of_pwp Go.Proofs.Tryd.func39 (by rfl) rfl Go.Proofs.Tryd.ntmps39 (by rfl) rfl ?_
  refine pwp_seq (r_reg ?_)
  refine e_end (by kernel_rfl) ?_
  refine q_next (pwp_seq (r_reg ?_))
  refine p_run 2 (by kernel_rfl) ?_
  refine p_len (L := (a0.Args : (List R_api_Expr))) (by kernel_rfl) ?_
  refine e_end (by kernel_rfl) ?_
  refine q_next ?_
  obtain ⟨o7, h7, h⟩ := o_inl h
  refine r_join (o := o7) 60 (fun (_ : Unit) => ⟨[(1, .int .i64 a1), (2, .ref 2 0), (5, .int .i64 ((a0.Args.length : Nat) : Int))], [(2, .cells (cellsOf a0))], [], []⟩) ?_ ?_
  · refine pwp_seq (r_reg ?_)
    refine e_end (by kernel_rfl) ?_
    refine q_next (pwp_block ?_)
    obtain ⟨o8, h8, h7⟩ := o_inl h7
    refine r_join (o := o8) 60 (fun x3 => ⟨[(1, .int .i64 a1), (2, .ref 2 0), (5, .int .i64 ((a0.Args.length : Nat) : Int)), (11, .int .i64 a0.Op), (12, .bool x3)], [(2, .cells (cellsOf a0))], [], []⟩) ?_ ?_
    · refine pwp_seq (r_reg ?_)
      refine e_end (by kernel_rfl) ?_
      refine q_next ?_
      rcases o_cond h8 with ⟨hb, h8⟩ | ⟨hb, h8⟩
      · refine r_cond_t hb (by kernel_rfl) ?_
        refine pwp_skip ?_
        cases h8
        exact q_join (by kernel_rfl) (by kernel_rfl)
      refine r_cond_f hb (by kernel_rfl) ?_
      refine r_reg ?_
      refine e_end (by kernel_rfl) ?_
      cases h8
      exact q_join (by kernel_rfl) (by kernel_rfl)
    rintro x3 rfl
    have h7 := o_outl h7
    rcases o_cond h7 with ⟨hb, h7⟩ | ⟨hb, h7⟩
    · refine r_cond_t hb (by kernel_rfl) ?_
      refine pwp_seq (r_reg ?_)
      refine p_run 4 (by kernel_rfl) ?_
      refine e_segb 3 21 ((decide (a0.Var = 0)) && (decide (((a0.Args.length : Nat) : Int) = 0))) (fun x hx => ?_) ?_
      · rcases b_and hx with ⟨hb, hx⟩ | ⟨hb, hx⟩
        · refine p_settle 18 hb (by kernel_rfl) (by kernel_rfl) ?_
          subst hx
          exact f_end (by kernel_rfl) (by kernel_rfl)
        refine p_settle 18 hb (by kernel_rfl) (by kernel_rfl) ?_
        subst hx
        exact f_end (by kernel_rfl) (by kernel_rfl)
      refine e_end (by kernel_rfl) ?_
      refine q_next (pwp_ret (q_block_ret ?_))
      cases h7
      refine q_jout_ret ?_
      have h9 := o_outr h
      cases h9
      exact q_ret (by kernel_rfl) (by kernel_rfl) (by kernel_rfl)
    refine r_cond_f hb (by kernel_rfl) ?_
    refine pwp_seq (r_reg ?_)
    refine e_end (by kernel_rfl) ?_
    refine q_next ?_
    rcases o_cond h7 with ⟨hb, h7⟩ | ⟨hb, h7⟩
    · refine r_cond_t hb (by kernel_rfl) ?_
      refine pwp_seq (r_reg ?_)
      refine p_run 4 (by kernel_rfl) ?_
      refine e_segb 5 32 ((decide (0 ≤ a0.Var)) && (decide (a0.Var < a1))) (fun x hx => ?_) ?_
      · rcases b_and hx with ⟨hb, hx⟩ | ⟨hb, hx⟩
        · refine p_settle 27 hb (by kernel_rfl) (by kernel_rfl) ?_
          subst hx
          exact f_end (by kernel_rfl) (by kernel_rfl)
        refine p_settle 27 hb (by kernel_rfl) (by kernel_rfl) ?_
        subst hx
        exact f_end (by kernel_rfl) (by kernel_rfl)
      refine p_run 1 (by kernel_rfl) ?_
      refine e_segb 3 36 (((decide (0 ≤ a0.Var)) && (decide (a0.Var < a1))) && (decide (((a0.Args.length : Nat) : Int) = 0))) (fun x hx => ?_) ?_
      · rcases b_and hx with ⟨hb, hx⟩ | ⟨hb, hx⟩
        · refine p_settle 33 hb (by kernel_rfl) (by kernel_rfl) ?_
          subst hx
          exact f_end (by kernel_rfl) (by kernel_rfl)
        refine p_settle 33 hb (by kernel_rfl) (by kernel_rfl) ?_
        subst hx
        exact f_end (by kernel_rfl) (by kernel_rfl)
      refine e_end (by kernel_rfl) ?_
      refine q_next (pwp_ret (q_block_ret ?_))
      cases h7
      refine q_jout_ret ?_
      have h10 := o_outr h
      cases h10
      exact q_ret (by kernel_rfl) (by kernel_rfl) (by kernel_rfl)
    refine r_cond_f hb (by kernel_rfl) ?_
    refine pwp_seq (r_reg ?_)
    refine e_end (by kernel_rfl) ?_
    refine q_next ?_
    rcases o_cond h7 with ⟨hb, h7⟩ | ⟨hb, h7⟩
    · refine r_cond_t hb (by kernel_rfl) ?_
      refine pwp_seq (r_reg ?_)
      refine e_end (by kernel_rfl) ?_
      refine q_next ?_
      rcases o_cond h7 with ⟨hb, h7⟩ | ⟨hb, h7⟩
      · refine r_cond_t hb (by kernel_rfl) ?_
        refine pwp_seq (r_reg ?_)
        refine e_end (by kernel_rfl) ?_
        refine q_next (pwp_ret (q_block_ret ?_))
        cases h7
        refine q_jout_ret ?_
        have h11 := o_outr h
        cases h11
        exact q_ret (by kernel_rfl) (by kernel_rfl) (by kernel_rfl)
      refine r_cond_f hb (by kernel_rfl) ?_
      refine pwp_skip (q_block ?_)
      cases h7
      exact q_join (by kernel_rfl) (by kernel_rfl)
    refine r_cond_f hb (by kernel_rfl) ?_
    obtain ⟨o12, h12, h7⟩ := o_inl h7
    refine r_join (o := o12) 60 (fun x4 => ⟨[(1, .int .i64 a1), (2, .ref 2 0), (5, .int .i64 ((a0.Args.length : Nat) : Int)), (41, .bool x4)], [(2, .cells (cellsOf a0))], [], []⟩) ?_ ?_
    · refine pwp_seq (r_reg ?_)
      refine e_end (by kernel_rfl) ?_
      refine q_next ?_
      rcases o_cond h12 with ⟨hb, h12⟩ | ⟨hb, h12⟩
      · refine r_cond_t hb (by kernel_rfl) ?_
        refine pwp_skip ?_
        cases h12
        exact q_join (by kernel_rfl) (by kernel_rfl)
      refine r_cond_f hb (by kernel_rfl) ?_
      refine r_reg ?_
      refine e_end (by kernel_rfl) ?_
      cases h12
      exact q_join (by kernel_rfl) (by kernel_rfl)
    rintro x4 rfl
    have h7 := o_outl h7
    rcases o_cond h7 with ⟨hb, h7⟩ | ⟨hb, h7⟩
    · refine r_cond_t hb (by kernel_rfl) ?_
      refine pwp_skip (q_block ?_)
      cases h7
      exact q_join (by kernel_rfl) (by kernel_rfl)
    refine r_cond_f hb (by kernel_rfl) ?_
    refine pwp_seq (r_reg ?_)
    refine e_end (by kernel_rfl) ?_
    refine q_next (pwp_ret (q_block_ret ?_))
    cases h7
    refine q_jout_ret ?_
    have h13 := o_outr h
    cases h13
    exact q_ret (by kernel_rfl) (by kernel_rfl) (by kernel_rfl)
  rintro _ rfl
  have h := o_outl h
  refine pwp_seq (pwp_seq (r_reg ?_))
  refine e_end (by kernel_rfl) ?_
  refine q_next (pwp_block ?_)
  obtain ⟨o23, h23, h⟩ := o_inl h
  refine r_loop2 60 1 (fun x8 => ⟨[(1, .int .i64 a1), (2, .ref 2 0), (5, .int .i64 ((a0.Args.length : Nat) : Int)), (6, .int .i64 x8)], [(2, .cells (cellsOf a0))], [], []⟩) (fun (_ : Unit) => ⟨[(2, .ref 2 0)], [(2, .cells (cellsOf a0))], [], []⟩) h23 (by kernel_rfl) (fun _ => by kernel_rfl) ?_ ?_
  · rintro x8 oh22 h22
    unfold d_ref18_form_0 at h22
    refine pwp_seq (pwp_seq (r_reg ?_))
    refine e_end (by kernel_rfl) ?_
    refine q_next ?_
    rcases o_cond h22 with ⟨hb, h22⟩ | ⟨hb, h22⟩
    · refine r_cond_t hb (by kernel_rfl) ?_
      refine pwp_skip (q_next (pwp_seq (pwp_block (pwp_seq (r_reg ?_)))))
      refine p_run 3 (by kernel_rfl) ?_
      obtain ⟨x12, h24, h22⟩ := o_bind h22
      obtain ⟨x13, h25, h22⟩ := o_bind h22
      rw [dec_T_api_Expr_eq h25] at h24
      refine p_ix h24 (by kernel_rfl) ?_
      refine p_run 2 (by kernel_rfl) ?_
      obtain ⟨r14, h26, h22⟩ := o_bind h22
      refine p_call (hrc_d_ref18_form _ _ r14 h26) (by kernel_rfl) (by kernel_rfl) ?_
      refine e_end (by kernel_rfl) ?_
      refine q_next ?_
      rcases o_cond h22 with ⟨hb, h22⟩ | ⟨hb, h22⟩
      · refine r_cond_t hb (by kernel_rfl) ?_
        refine pwp_seq (r_reg ?_)
        refine e_end (by kernel_rfl) ?_
        refine q_next (pwp_ret (q_block_ret (q_seq_ret ?_)))
        cases h22
        refine q_lout_ret fun he => ?_
        subst he
        have h27 := o_outr h
        refine q_block_ret (q_seq_ret ?_)
        cases h27
        exact q_ret (by kernel_rfl) (by kernel_rfl) (by kernel_rfl)
      refine r_cond_f hb (by kernel_rfl) ?_
      refine pwp_skip (q_block (q_next (r_reg ?_)))
      refine e_end (by kernel_rfl) ?_
      cases h22
      exact q_lback (by kernel_rfl)
    refine r_cond_f hb (by kernel_rfl) ?_
    refine pwp_exit (q_seq_exit ?_)
    cases h22
    exact q_lexit (by kernel_rfl) (by kernel_rfl)
  rintro _ s' rfl hs
  have h := o_outl h
  refine q_block_hit ?_
  refine q_next (pwp_wkr hs ?_)
  refine pwp_seq (r_reg ?_)
  refine e_end (by kernel_rfl) ?_
  refine q_next (pwp_ret ?_)
  cases h
  exact q_ret (by kernel_rfl) (by kernel_rfl) (by kernel_rfl)
noncomputable def d_ref18_form_N (n : Nat) : T_api_Expr → Int → Option Bool := Nat.rec (fun _ _ => none) (fun _ ih => d_ref18_form_F ih) n
theorem d_ref18_form_N_ok : ∀ (n : Nat) (a0 : T_api_Expr) (a1 : Int) (r : Bool), d_ref18_form_N n a0 a1 = some r → PCall Go.Proofs.Tryd.prog GlS 39 [Enc.pv a0, Enc.pv a1] (Enc.pv r)
  | 0, _, _, _, h => by cases h
  | n + 1, a0, a1, r, h => d_ref18_form_F_ok (d_ref18_form_N n) (d_ref18_form_N_ok n) a0 a1 r h
noncomputable def d_ref18_form (a0 : T_api_Expr) (a1 : Int) : Option Bool := d_ref18_form_F (d_ref18_form_N recFuel) a0 a1
theorem d_ref18_form_ok (a0 : T_api_Expr) (a1 : Int) (r : Bool) (h : d_ref18_form a0 a1 = some r) : PCall Go.Proofs.Tryd.prog GlS 39 [Enc.pv a0, Enc.pv a1] (Enc.pv r) := d_ref18_form_F_ok (d_ref18_form_N recFuel) (d_ref18_form_N_ok recFuel) a0 a1 r h

/-! signallingref18.Valid -/
noncomputable def d_ref18_Valid (a0 : T_api_Expr) (a1 : Int) : Option Bool :=
  (d_ref18_Size a0).bind fun r1 =>
  ((bif decide (r1 ≤ 20000) then (
    (d_ref18_Depth a0).bind fun r3 =>
    some (decide (r3 ≤ 12))
  ) else some false) : Option Bool).bind fun b2 =>
  ((bif b2 then (
    (d_ref18_form a0 a1).bind fun r5 =>
    some r5
  ) else some false) : Option Bool).bind fun b4 =>
  some b4
theorem d_ref18_Valid_ok (a0 : T_api_Expr) (a1 : Int) (r : Bool) (h : d_ref18_Valid a0 a1 = some r) : PCall Go.Proofs.Tryd.prog GlS 23 [Enc.pv a0, Enc.pv a1] (Enc.pv r) := by
  unfold d_ref18_Valid at h
  refine pcall_of_pwp Go.Proofs.Tryd.func23 (by rfl) rfl Go.Proofs.Tryd.ntmps23 (by rfl) rfl ?_
  refine pwp_seq (r_reg ?_)
  refine e_end (by kernel_rfl) ?_
  refine q_next (pwp_seq (r_reg ?_))
  refine p_run 1 (by kernel_rfl) ?_
  obtain ⟨r1, h1, h⟩ := o_bind h
  refine p_call (d_ref18_Size_ok _ r1 h1) (by kernel_rfl) (by kernel_rfl) ?_
  obtain ⟨b2, h2, h⟩ := o_bind h
  refine p_run 2 (by kernel_rfl) ?_
  refine e_seg 4 12 (.bool b2) ?_ ?_
  · rcases o_cond h2 with ⟨hb, h2⟩ | ⟨hb, h2⟩
    · refine p_settle 8 hb (by kernel_rfl) (by kernel_rfl) ?_
      refine p_run 1 (by kernel_rfl) ?_
      obtain ⟨r3, h3, h2⟩ := o_bind h2
      refine p_call (d_ref18_Depth_ok _ r3 h3) (by kernel_rfl) (by kernel_rfl) ?_
      cases h2
      exact f_end (by kernel_rfl) (by kernel_rfl)
    refine p_settle 8 hb (by kernel_rfl) (by kernel_rfl) ?_
    cases h2
    exact f_end (by kernel_rfl) (by kernel_rfl)
  obtain ⟨b4, h4, h⟩ := o_bind h
  refine p_run 1 (by kernel_rfl) ?_
  refine e_seg 4 17 (.bool b4) ?_ ?_
  · rcases o_cond h4 with ⟨hb, h4⟩ | ⟨hb, h4⟩
    · refine p_settle 13 hb (by kernel_rfl) (by kernel_rfl) ?_
      refine p_run 2 (by kernel_rfl) ?_
      obtain ⟨r5, h5, h4⟩ := o_bind h4
      refine p_call (d_ref18_form_ok _ _ r5 h5) (by kernel_rfl) (by kernel_rfl) ?_
      cases h4
      exact f_end (by kernel_rfl) (by kernel_rfl)
    refine p_settle 13 hb (by kernel_rfl) (by kernel_rfl) ?_
    cases h4
    exact f_end (by kernel_rfl) (by kernel_rfl)
  refine e_end (by kernel_rfl) ?_
  refine q_next (pwp_ret ?_)
  cases h
  exact q_ret (by kernel_rfl) (by kernel_rfl) (by kernel_rfl)

/-! signallingref18.not -/
noncomputable def d_ref18_not (a0 : T_api_Expr) : Option T_api_Expr :=
  bif decide (a0.Op = 1) then (
    some (T_api_Expr.mk 2 0 [])
  ) else (
    bif decide (a0.Op = 2) then (
      some (T_api_Expr.mk 1 0 [])
    ) else (
      bif decide (a0.Op = 4) then (
        (ixO a0.Args 0).bind fun x1 =>
        (dec_T_api_Expr x1).bind fun x2 =>
        some x2
      ) else (
        some (T_api_Expr.mk 4 0 [(enc_T_api_Expr a0)])
      )
    )
  )
theorem d_ref18_not_ok (a0 : T_api_Expr) (r : T_api_Expr) (h : d_ref18_not a0 = some r) : PCall Go.Proofs.Tryd.prog GlS 46 [Enc.pv a0] (Enc.pv r) := by
  unfold d_ref18_not at h
  refine pcall_of_pwp Go.Proofs.Tryd.func46 (by rfl) rfl Go.Proofs.Tryd.ntmps46 (by rfl) rfl ?_
  refine pwp_seq (r_reg ?_)
  refine e_end (by kernel_rfl) ?_
  refine q_next (pwp_seq (pwp_seq (r_reg ?_)))
  refine e_end (by kernel_rfl) ?_
  refine q_next (pwp_block (pwp_seq (r_reg ?_)))
  refine e_end (by kernel_rfl) ?_
  refine q_next ?_
  rcases o_cond h with ⟨hb, h⟩ | ⟨hb, h⟩
  · refine r_cond_t hb (by kernel_rfl) ?_
    refine pwp_seq (r_reg ?_)
    refine e_end (by kernel_rfl) ?_
    refine q_next (pwp_ret (q_block_ret (q_seq_ret ?_)))
    cases h
    exact q_ret (by kernel_rfl) (by kernel_rfl) (by kernel_rfl)
  refine r_cond_f hb (by kernel_rfl) ?_
  refine pwp_seq (r_reg ?_)
  refine e_end (by kernel_rfl) ?_
  refine q_next ?_
  rcases o_cond h with ⟨hb, h⟩ | ⟨hb, h⟩
  · refine r_cond_t hb (by kernel_rfl) ?_
    refine pwp_seq (r_reg ?_)
    refine e_end (by kernel_rfl) ?_
    refine q_next (pwp_ret (q_block_ret (q_seq_ret ?_)))
    cases h
    exact q_ret (by kernel_rfl) (by kernel_rfl) (by kernel_rfl)
  refine r_cond_f hb (by kernel_rfl) ?_
  refine pwp_seq (r_reg ?_)
  refine e_end (by kernel_rfl) ?_
  refine q_next ?_
  rcases o_cond h with ⟨hb, h⟩ | ⟨hb, h⟩
  · refine r_cond_t hb (by kernel_rfl) ?_
    refine pwp_seq (r_reg ?_)
    refine p_run 2 (by kernel_rfl) ?_
    obtain ⟨x1, h1, h⟩ := o_bind h
    obtain ⟨x2, h2, h⟩ := o_bind h
    rw [dec_T_api_Expr_eq h2] at h1
    refine p_ix h1 (by kernel_rfl) ?_
    refine e_end (by kernel_rfl) ?_
    refine q_next (pwp_ret (q_block_ret (q_seq_ret ?_)))
    cases h
    exact q_ret (by kernel_rfl) (by kernel_rfl) (by kernel_rfl)
  refine r_cond_f hb (by kernel_rfl) ?_
  refine pwp_skip (q_block (q_next (pwp_seq (r_reg ?_))))
  refine e_end (by kernel_rfl) ?_
  refine q_next (pwp_ret ?_)
  cases h
  exact q_ret (by kernel_rfl) (by kernel_rfl) (by kernel_rfl)

/-! signallingref18.opposite -/
noncomputable def d_ref18_opposite (a0 : T_api_Expr) (a1 : T_api_Expr) : Option Bool :=
  ((bif decide (a0.Op = 4) then (
    (ixO a0.Args 0).bind fun x2 =>
    (dec_T_api_Expr x2).bind fun x3 =>
    (d_ref18_Same x3 a1).bind fun r4 =>
    some r4
  ) else some false) : Option Bool).bind fun b1 =>
  ((bif b1 then some true else (
    ((bif decide (a1.Op = 4) then (
      (ixO a1.Args 0).bind fun x7 =>
      (dec_T_api_Expr x7).bind fun x8 =>
      (d_ref18_Same x8 a0).bind fun r9 =>
      some r9
    ) else some false) : Option Bool).bind fun b6 =>
    some b6
  )) : Option Bool).bind fun b5 =>
  some b5
theorem d_ref18_opposite_ok (a0 : T_api_Expr) (a1 : T_api_Expr) (r : Bool) (h : d_ref18_opposite a0 a1 = some r) : PCall Go.Proofs.Tryd.prog GlS 60 [Enc.pv a0, Enc.pv a1] (Enc.pv r) := by
  unfold d_ref18_opposite at h
  refine pcall_of_pwp Go.Proofs.Tryd.func60 (by rfl) rfl Go.Proofs.Tryd.ntmps60 (by rfl) rfl ?_
  refine pwp_seq (r_reg ?_)
  refine e_end (by kernel_rfl) ?_
  refine q_next (pwp_seq ?_)
  refine r_regd (by kernel_rfl) (by kernel_rfl) ?_
  obtain ⟨b1, h1, h⟩ := o_bind h
  refine p_run 4 (by kernel_rfl) ?_
  refine e_seg 7 15 (.bool b1) ?_ ?_
  · rcases o_cond h1 with ⟨hb, h1⟩ | ⟨hb, h1⟩
    · refine p_settle 8 hb (by kernel_rfl) (by kernel_rfl) ?_
      refine p_run 2 (by kernel_rfl) ?_
      obtain ⟨x2, h2, h1⟩ := o_bind h1
      obtain ⟨x3, h3, h1⟩ := o_bind h1
      rw [dec_T_api_Expr_eq h3] at h2
      refine p_ix h2 (by kernel_rfl) ?_
      refine p_run 2 (by kernel_rfl) ?_
      obtain ⟨r4, h4, h1⟩ := o_bind h1
      refine p_call (d_ref18_Same_ok _ _ r4 h4) (by kernel_rfl) (by kernel_rfl) ?_
      cases h1
      exact f_end (by kernel_rfl) (by kernel_rfl)
    refine p_settle 8 hb (by kernel_rfl) (by kernel_rfl) ?_
    cases h1
    exact f_end (by kernel_rfl) (by kernel_rfl)
  obtain ⟨b5, h5, h⟩ := o_bind h
  refine p_run 1 (by kernel_rfl) ?_
  refine e_seg 12 28 (.bool b5) ?_ ?_
  · rcases o_cond h5 with ⟨hb, h5⟩ | ⟨hb, h5⟩
    · refine p_settle 16 hb (by kernel_rfl) (by kernel_rfl) ?_
      cases h5
      exact f_end (by kernel_rfl) (by kernel_rfl)
    refine p_settle 16 hb (by kernel_rfl) (by kernel_rfl) ?_
    obtain ⟨b6, h6, h5⟩ := o_bind h5
    refine p_run 4 (by kernel_rfl) ?_
    refine f_seg 7 27 (.bool b6) ?_ ?_
    · rcases o_cond h6 with ⟨hb, h6⟩ | ⟨hb, h6⟩
      · refine p_settle 20 hb (by kernel_rfl) (by kernel_rfl) ?_
        refine p_run 2 (by kernel_rfl) ?_
        obtain ⟨x7, h7, h6⟩ := o_bind h6
        obtain ⟨x8, h8, h6⟩ := o_bind h6
        rw [dec_T_api_Expr_eq h8] at h7
        refine p_ix h7 (by kernel_rfl) ?_
        refine p_run 2 (by kernel_rfl) ?_
        obtain ⟨r9, h9, h6⟩ := o_bind h6
        refine p_call (d_ref18_Same_ok _ _ r9 h9) (by kernel_rfl) (by kernel_rfl) ?_
        cases h6
        exact f_end (by kernel_rfl) (by kernel_rfl)
      refine p_settle 20 hb (by kernel_rfl) (by kernel_rfl) ?_
      cases h6
      exact f_end (by kernel_rfl) (by kernel_rfl)
    cases h5
    exact f_end (by kernel_rfl) (by kernel_rfl)
  refine e_end (by kernel_rfl) ?_
  refine q_next (pwp_ret ?_)
  cases h
  exact q_ret (by kernel_rfl) (by kernel_rfl) (by kernel_rfl)

/-! signallingref18.has -/
noncomputable def d_ref18_has_0 (a0 : (List R_api_Expr)) (a1 : T_api_Expr) : Int → Option (Int ⊕ (Unit ⊕ Bool)) := fun x4 =>
  bif decide (x4 < ((a0.length : Nat) : Int)) then (
    (ixO a0 x4).bind fun x8 =>
    (dec_T_api_Expr x8).bind fun x9 =>
    (d_ref18_Same x9 a1).bind fun r10 =>
    bif r10 then (
      some (.inr (.inr true))
    ) else (
      some (.inl (w64 (x4 + 1)))
    )
  ) else (
    some (.inr (.inl ()))
  )

noncomputable def d_ref18_has (a0 : (List R_api_Expr)) (a1 : T_api_Expr) : Option Bool :=
  onInl (α := Unit) (β := Bool) (loopO (d_ref18_has_0 a0 a1) 0) fun _ =>
  some false
theorem d_ref18_has_ok (a0 : (List R_api_Expr)) (a1 : T_api_Expr) (r : Bool) (h : d_ref18_has a0 a1 = some r) : PCall Go.Proofs.Tryd.prog GlS 61 [Enc.pv a0, Enc.pv a1] (Enc.pv r) := by
  unfold d_ref18_has at h
  refine pcall_of_pwp Go.Proofs.Tryd.func61 (by rfl) rfl Go.Proofs.Tryd.ntmps61 (by rfl) rfl ?_
  refine pwp_seq (r_reg ?_)
  refine e_end (by kernel_rfl) ?_
  refine q_next (pwp_seq (pwp_seq (r_reg ?_)))
  refine e_end (by kernel_rfl) ?_
  refine q_next (pwp_block ?_)
  obtain ⟨o10, h10, h⟩ := o_inl h
  refine r_loop2 18 0 (fun x4 => ⟨[(0, lstOf .frozen (a0 : (List R_api_Expr))), (3, .ref 3 0), (5, .int .i64 x4)], [(3, .cells (cellsOf a1))], [], []⟩) (fun (_ : Unit) => ⟨[], [], [], []⟩) h10 (by kernel_rfl) (fun _ => by kernel_rfl) ?_ ?_
  · rintro x4 oh9 h9
    unfold d_ref18_has_0 at h9
    refine pwp_seq (pwp_seq (r_reg ?_))
    refine p_run 2 (by kernel_rfl) ?_
    refine p_len (L := (a0 : (List R_api_Expr))) (by kernel_rfl) ?_
    refine e_end (by kernel_rfl) ?_
    refine q_next ?_
    rcases o_cond h9 with ⟨hb, h9⟩ | ⟨hb, h9⟩
    · refine r_cond_t hb (by kernel_rfl) ?_
      refine pwp_skip (q_next (pwp_seq (pwp_block (pwp_seq ?_))))
      refine r_regd (by kernel_rfl) (by kernel_rfl) ?_
      refine p_run 2 (by kernel_rfl) ?_
      obtain ⟨x8, h11, h9⟩ := o_bind h9
      obtain ⟨x9, h12, h9⟩ := o_bind h9
      rw [dec_T_api_Expr_eq h12] at h11
      refine p_ix h11 (by kernel_rfl) ?_
      refine p_run 2 (by kernel_rfl) ?_
      obtain ⟨r10, h13, h9⟩ := o_bind h9
      refine p_call (d_ref18_Same_ok _ _ r10 h13) (by kernel_rfl) (by kernel_rfl) ?_
      refine e_nil (by kernel_rfl) ?_
      refine q_next ?_
      rcases o_cond h9 with ⟨hb, h9⟩ | ⟨hb, h9⟩
      · refine r_cond_t hb (by kernel_rfl) ?_
        refine pwp_seq (r_reg ?_)
        refine e_end (by kernel_rfl) ?_
        refine q_next (pwp_ret (q_block_ret (q_seq_ret ?_)))
        cases h9
        refine q_lout_ret fun he => ?_
        subst he
        have h14 := o_outr h
        refine q_block_ret (q_seq_ret ?_)
        cases h14
        exact q_ret (by kernel_rfl) (by kernel_rfl) (by kernel_rfl)
      refine r_cond_f hb (by kernel_rfl) ?_
      refine pwp_skip (q_block (q_next (r_reg ?_)))
      refine e_end (by kernel_rfl) ?_
      cases h9
      exact q_lback (by kernel_rfl)
    refine r_cond_f hb (by kernel_rfl) ?_
    refine pwp_exit (q_seq_exit ?_)
    cases h9
    exact q_lexit (by kernel_rfl) (by kernel_rfl)
  rintro _ s' rfl hs
  have h := o_outl h
  refine q_block_hit ?_
  refine q_next (pwp_wkr hs ?_)
  refine pwp_seq (r_reg ?_)
  refine e_end (by kernel_rfl) ?_
  refine q_next (pwp_ret ?_)
  cases h
  exact q_ret (by kernel_rfl) (by kernel_rfl) (by kernel_rfl)

/-! signallingref18.all -/
noncomputable def d_ref18_all_0 (a0 : Int) (a3 : (List R_api_Expr)) : (Int × (List R_api_Expr)) → Option ((Int × (List R_api_Expr)) ⊕ ((List R_api_Expr) ⊕ T_api_Expr)) := fun (x36, x37) =>
  bif decide (x36 < ((a3.length : Nat) : Int)) then (
    onInl (α := (List R_api_Expr)) (β := ((Int × (List R_api_Expr)) ⊕ ((List R_api_Expr) ⊕ T_api_Expr))) (
      (ixO a3 x36).bind fun x65 =>
      (dec_T_api_Expr x65).bind fun x66 =>
      bif decide (x66.Op = a0) then (
        (ixO a3 x36).bind fun x67 =>
        (dec_T_api_Expr x67).bind fun x68 =>
        (appO x37 x68.Args).bind fun x69 =>
        some (.inl x69)
      ) else (
        (ixO a3 x36).bind fun x70 =>
        (dec_T_api_Expr x70).bind fun x71 =>
        (appO x37 [(enc_T_api_Expr x71)]).bind fun x72 =>
        some (.inl x72)
      )
    ) fun x64 =>
    some (.inl (w64 (x36 + 1), x64))
  ) else (
    some (.inr (.inl x37))
  )

noncomputable def d_ref18_all_2 (a2 : Int) (x55 : (List R_api_Expr)) (x184 : Int) : Int → Option (Int ⊕ (Unit ⊕ ((List R_api_Expr) ⊕ ((Int × (List R_api_Expr)) ⊕ ((List R_api_Expr) ⊕ T_api_Expr))))) := fun x277 =>
  bif decide (x277 < x184) then (
    (ixO x55 x277).bind fun x283 =>
    (dec_T_api_Expr x283).bind fun x284 =>
    (ixO x55 x184).bind fun x285 =>
    (dec_T_api_Expr x285).bind fun x286 =>
    (d_ref18_opposite x284 x286).bind fun r287 =>
    bif r287 then (
      some (.inr (.inr (.inr (.inr (.inr (T_api_Expr.mk a2 0 []))))))
    ) else (
      some (.inl (w64 (x277 + 1)))
    )
  ) else (
    some (.inr (.inl ()))
  )

noncomputable def d_ref18_all_1 (a1 : Int) (a2 : Int) (x55 : (List R_api_Expr)) : (Int × (List R_api_Expr)) → Option ((Int × (List R_api_Expr)) ⊕ ((List R_api_Expr) ⊕ T_api_Expr)) := fun (x184, x185) =>
  bif decide (x184 < ((x55.length : Nat) : Int)) then (
    onInl (α := (List R_api_Expr)) (β := ((Int × (List R_api_Expr)) ⊕ ((List R_api_Expr) ⊕ T_api_Expr))) (
      (ixO x55 x184).bind fun x270 =>
      (dec_T_api_Expr x270).bind fun x271 =>
      bif decide (x271.Op = a2) then (
        some (.inr (.inr (.inr (T_api_Expr.mk a2 0 []))))
      ) else (
        onInl (α := Unit) (β := ((List R_api_Expr) ⊕ ((Int × (List R_api_Expr)) ⊕ ((List R_api_Expr) ⊕ T_api_Expr)))) (loopO (d_ref18_all_2 a2 x55 x184) 0) fun _ =>
        (ixO x55 x184).bind fun x288 =>
        (dec_T_api_Expr x288).bind fun x289 =>
        ((bif (!(decide (x289.Op = a1))) then (
          (ixO x55 x184).bind fun x291 =>
          (dec_T_api_Expr x291).bind fun x292 =>
          (d_ref18_has x185 x292).bind fun r293 =>
          some (!r293)
        ) else some false) : Option Bool).bind fun b290 =>
        bif b290 then (
          (ixO x55 x184).bind fun x294 =>
          (dec_T_api_Expr x294).bind fun x295 =>
          (appO x185 [(enc_T_api_Expr x295)]).bind fun x296 =>
          some (.inl x296)
        ) else (
          some (.inl x185)
        )
      )
    ) fun x269 =>
    some (.inl (w64 (x184 + 1), x269))
  ) else (
    some (.inr (.inl x185))
  )

noncomputable def d_ref18_all (a0 : Int) (a1 : Int) (a2 : Int) (a3 : (List R_api_Expr)) : Option T_api_Expr :=
  onInl (α := (List R_api_Expr)) (β := T_api_Expr) (loopO (d_ref18_all_0 a0 a3) (0, ([] : (List R_api_Expr)))) fun x55 =>
  onInl (α := (List R_api_Expr)) (β := T_api_Expr) (loopO (d_ref18_all_1 a1 a2 x55) (0, ([] : (List R_api_Expr)))) fun x241 =>
  bif decide (((x241.length : Nat) : Int) = 0) then (
    some (T_api_Expr.mk a1 0 [])
  ) else (
    bif decide (((x241.length : Nat) : Int) = 1) then (
      (ixO x241 0).bind fun x297 =>
      (dec_T_api_Expr x297).bind fun x298 =>
      some x298
    ) else (
      some (T_api_Expr.mk a0 0 x241)
    )
  )
theorem d_ref18_all_ok (a0 : Int) (a1 : Int) (a2 : Int) (a3 : (List R_api_Expr)) (r : T_api_Expr) (h : d_ref18_all a0 a1 a2 a3 = some r) : PCall Go.Proofs.Tryd.prog GlS 47 [Enc.pv a0, Enc.pv a1, Enc.pv a2, Enc.pv a3] (Enc.pv r) := by
  unfold d_ref18_all at h
  refine pcall_of_pwp Go.Proofs.Tryd.func47 (by rfl) rfl Go.Proofs.Tryd.ntmps47 (by rfl) rfl ?_
  refine pwp_seq (r_reg ?_)
  refine e_end (by kernel_rfl) ?_
  refine q_next (pwp_seq (r_reg ?_))
  refine e_end (by kernel_rfl) ?_
  refine q_next (pwp_seq (pwp_seq (r_reg ?_)))
  refine e_end (by kernel_rfl) ?_
  refine q_next (pwp_block ?_)
  refine g_nil 9 100009 3 40 (by kernel_rfl) (by kernel_rfl) ?_
  obtain ⟨o53, h53, h⟩ := o_inl h
  refine r_loop2 109 0 (fun (x36, x37) => ⟨[(0, .int .i64 a0), (1, .int .i64 a1), (2, .int .i64 a2), (3, lstOf .frozen (a3 : (List R_api_Expr))), (8, .ref 8 0), (9, lstOf (.own 100009) (x37 : (List R_api_Expr))), (10, .int .i64 x36)], [(8, .cells ([.int .i64 0, .int .i64 0, .nil]))], [(100009, (((x37).map cellsOf).length, 3))], []⟩) (fun x55 => ⟨[(0, .int .i64 a0), (1, .int .i64 a1), (2, .int .i64 a2), (8, .ref 8 0), (9, lstOf (.own 100009) (x55 : (List R_api_Expr)))], [(8, .cells ([.int .i64 0, .int .i64 0, .nil]))], [(100009, (((x55).map cellsOf).length, 3))], []⟩) h53 (by kernel_rfl) (fun _ => by kernel_rfl) ?_ ?_
  · rintro ⟨x36, x37⟩ oh52 h52
    unfold d_ref18_all_0 at h52
    refine pwp_seq (pwp_seq (r_reg ?_))
    refine p_run 2 (by kernel_rfl) ?_
    refine p_len (L := (a3 : (List R_api_Expr))) (by kernel_rfl) ?_
    refine e_end (by kernel_rfl) ?_
    refine q_next ?_
    rcases o_cond h52 with ⟨hb, h52⟩ | ⟨hb, h52⟩
    · refine r_cond_t hb (by kernel_rfl) ?_
      refine pwp_skip (q_next ?_)
      obtain ⟨o62, h62, h52⟩ := o_inl h52
      refine r_join (o := o62) 109 (fun x64 => ⟨[(0, .int .i64 a0), (1, .int .i64 a1), (2, .int .i64 a2), (3, lstOf .frozen (a3 : (List R_api_Expr))), (8, .ref 8 0), (9, lstOf (.own 100009) (x64 : (List R_api_Expr))), (10, .int .i64 x36)], [(8, .cells ([.int .i64 0, .int .i64 0, .nil]))], [(100009, (((x64).map cellsOf).length, 3))], []⟩) ?_ ?_
      · refine pwp_block (pwp_seq (r_reg ?_))
        refine p_run 2 (by kernel_rfl) ?_
        obtain ⟨x65, h63, h62⟩ := o_bind h62
        obtain ⟨x66, h64, h62⟩ := o_bind h62
        rw [dec_T_api_Expr_eq h64] at h63
        refine p_ix h63 (by kernel_rfl) ?_
        refine e_end (by kernel_rfl) ?_
        refine q_next ?_
        rcases o_cond h62 with ⟨hb, h62⟩ | ⟨hb, h62⟩
        · refine r_cond_t hb (by kernel_rfl) ?_
          refine r_reg ?_
          refine p_run 3 (by kernel_rfl) ?_
          obtain ⟨x67, h65, h62⟩ := o_bind h62
          obtain ⟨x68, h66, h62⟩ := o_bind h62
          rw [dec_T_api_Expr_eq h66] at h65
          refine p_ix h65 (by kernel_rfl) ?_
          refine p_run 2 (by kernel_rfl) ?_
          obtain ⟨x69, h67, h62⟩ := o_bind h62
          refine p_app (tk := 100009) h67 (by kernel_rfl) (by kernel_rfl) ?_
          refine e_end (by kernel_rfl) ?_
          refine q_block ?_
          cases h62
          exact q_join (by kernel_rfl) (by kernel_rfl)
        refine r_cond_f hb (by kernel_rfl) ?_
        refine r_reg ?_
        refine p_run 3 (by kernel_rfl) ?_
        obtain ⟨x70, h68, h62⟩ := o_bind h62
        obtain ⟨x71, h69, h62⟩ := o_bind h62
        rw [dec_T_api_Expr_eq h69] at h68
        refine p_ix h68 (by kernel_rfl) ?_
        refine p_run 2 (by kernel_rfl) ?_
        obtain ⟨x72, h70, h62⟩ := o_bind h62
        refine p_app (tk := 100009) h70 (by kernel_rfl) (by kernel_rfl) ?_
        refine e_end (by kernel_rfl) ?_
        refine q_block ?_
        cases h62
        exact q_join (by kernel_rfl) (by kernel_rfl)
      rintro x64 rfl
      have h52 := o_outl h52
      refine r_reg ?_
      refine e_end (by kernel_rfl) ?_
      cases h52
      exact q_lback (by kernel_rfl)
    refine r_cond_f hb (by kernel_rfl) ?_
    refine pwp_exit (q_seq_exit ?_)
    cases h52
    exact q_lexit (by kernel_rfl) (by kernel_rfl)
  rintro x55 s' rfl hs
  have h := o_outl h
  refine q_block_hit ?_
  refine q_next (pwp_wkr hs ?_)
  refine pwp_seq (r_reg ?_)
  refine e_end (by kernel_rfl) ?_
  refine q_next (pwp_seq (pwp_seq (r_reg ?_)))
  refine e_end (by kernel_rfl) ?_
  refine q_next (pwp_block ?_)
  refine g_nil 11 100011 3 40 (by kernel_rfl) (by kernel_rfl) ?_
  obtain ⟨o309, h309, h⟩ := o_inl h
  refine r_loop2 109 2 (fun (x184, x185) => ⟨[(0, .int .i64 a0), (1, .int .i64 a1), (2, .int .i64 a2), (8, .ref 8 0), (9, lstOf (.own 100009) (x55 : (List R_api_Expr))), (11, lstOf (.own 100011) (x185 : (List R_api_Expr))), (12, .int .i64 x184)], [(8, .cells ([.int .i64 0, .int .i64 0, .nil]))], [(100009, (((x55).map cellsOf).length, 3)), (100011, (((x185).map cellsOf).length, 3))], []⟩) (fun x241 => ⟨[(0, .int .i64 a0), (1, .int .i64 a1), (8, .ref 8 0), (11, lstOf (.own 100011) (x241 : (List R_api_Expr)))], [(8, .cells ([.int .i64 0, .int .i64 0, .nil]))], [(100011, (((x241).map cellsOf).length, 3))], []⟩) h309 (by kernel_rfl) (fun _ => by kernel_rfl) ?_ ?_
  · rintro ⟨x184, x185⟩ oh308 h308
    unfold d_ref18_all_1 at h308
    refine pwp_seq (pwp_seq (r_reg ?_))
    refine p_run 2 (by kernel_rfl) ?_
    refine p_len (L := (x55 : (List R_api_Expr))) (by kernel_rfl) ?_
    refine e_end (by kernel_rfl) ?_
    refine q_next ?_
    rcases o_cond h308 with ⟨hb, h308⟩ | ⟨hb, h308⟩
    · refine r_cond_t hb (by kernel_rfl) ?_
      refine pwp_skip (q_next ?_)
      obtain ⟨o349, h349, h308⟩ := o_inl h308
      refine r_join (o := o349) 109 (fun x269 => ⟨[(0, .int .i64 a0), (1, .int .i64 a1), (2, .int .i64 a2), (8, .ref 8 0), (9, lstOf (.own 100009) (x55 : (List R_api_Expr))), (11, lstOf (.own 100011) (x269 : (List R_api_Expr))), (12, .int .i64 x184)], [(8, .cells ([.int .i64 0, .int .i64 0, .nil]))], [(100009, (((x55).map cellsOf).length, 3)), (100011, (((x269).map cellsOf).length, 3))], []⟩) ?_ ?_
      · refine pwp_block (pwp_seq (pwp_seq (r_reg ?_)))
        refine p_run 2 (by kernel_rfl) ?_
        obtain ⟨x270, h350, h349⟩ := o_bind h349
        obtain ⟨x271, h351, h349⟩ := o_bind h349
        rw [dec_T_api_Expr_eq h351] at h350
        refine p_ix h350 (by kernel_rfl) ?_
        refine e_end (by kernel_rfl) ?_
        refine q_next ?_
        rcases o_cond h349 with ⟨hb, h349⟩ | ⟨hb, h349⟩
        · refine r_cond_t hb (by kernel_rfl) ?_
          refine pwp_seq (r_reg ?_)
          refine e_end (by kernel_rfl) ?_
          refine q_next (pwp_ret (q_seq_ret (q_block_ret ?_)))
          cases h349
          refine q_jout_ret ?_
          have h352 := o_outr h308
          cases h352
          refine q_lout_ret fun he => ?_
          subst he
          have h353 := o_outr h
          refine q_block_ret (q_seq_ret ?_)
          cases h353
          exact q_ret (by kernel_rfl) (by kernel_rfl) (by kernel_rfl)
        refine r_cond_f hb (by kernel_rfl) ?_
        refine pwp_skip (q_next (pwp_seq (pwp_seq (r_reg ?_))))
        refine e_end (by kernel_rfl) ?_
        refine q_next (pwp_block ?_)
        obtain ⟨o371, h371, h349⟩ := o_inl h349
        refine r_loop2 109 4 (fun x277 => ⟨[(0, .int .i64 a0), (1, .int .i64 a1), (2, .int .i64 a2), (8, .ref 8 0), (9, lstOf (.own 100009) (x55 : (List R_api_Expr))), (11, lstOf (.own 100011) (x185 : (List R_api_Expr))), (12, .int .i64 x184), (13, .int .i64 x277)], [(8, .cells ([.int .i64 0, .int .i64 0, .nil]))], [(100009, (((x55).map cellsOf).length, 3)), (100011, (((x185).map cellsOf).length, 3))], []⟩) (fun (_ : Unit) => ⟨[(0, .int .i64 a0), (1, .int .i64 a1), (2, .int .i64 a2), (8, .ref 8 0), (9, lstOf (.own 100009) (x55 : (List R_api_Expr))), (11, lstOf (.own 100011) (x185 : (List R_api_Expr))), (12, .int .i64 x184)], [(8, .cells ([.int .i64 0, .int .i64 0, .nil]))], [(100009, (((x55).map cellsOf).length, 3)), (100011, (((x185).map cellsOf).length, 3))], []⟩) h371 (by kernel_rfl) (fun _ => by kernel_rfl) ?_ ?_
        · rintro x277 oh370 h370
          unfold d_ref18_all_2 at h370
          refine pwp_seq (pwp_seq (r_reg ?_))
          refine e_end (by kernel_rfl) ?_
          refine q_next ?_
          rcases o_cond h370 with ⟨hb, h370⟩ | ⟨hb, h370⟩
          · refine r_cond_t hb (by kernel_rfl) ?_
            refine pwp_skip (q_next (pwp_seq (pwp_block (pwp_seq ?_))))
            refine r_regd (by kernel_rfl) (by kernel_rfl) ?_
            refine p_run 2 (by kernel_rfl) ?_
            obtain ⟨x283, h372, h370⟩ := o_bind h370
            obtain ⟨x284, h373, h370⟩ := o_bind h370
            rw [dec_T_api_Expr_eq h373] at h372
            refine p_ix h372 (by kernel_rfl) ?_
            refine p_run 3 (by kernel_rfl) ?_
            obtain ⟨x285, h374, h370⟩ := o_bind h370
            obtain ⟨x286, h375, h370⟩ := o_bind h370
            rw [dec_T_api_Expr_eq h375] at h374
            refine p_ix h374 (by kernel_rfl) ?_
            refine p_run 1 (by kernel_rfl) ?_
            obtain ⟨r287, h376, h370⟩ := o_bind h370
            refine p_call (d_ref18_opposite_ok _ _ r287 h376) (by kernel_rfl) (by kernel_rfl) ?_
            refine e_nil (by kernel_rfl) ?_
            refine q_next ?_
            rcases o_cond h370 with ⟨hb, h370⟩ | ⟨hb, h370⟩
            · refine r_cond_t hb (by kernel_rfl) ?_
              refine pwp_seq (r_reg ?_)
              refine e_end (by kernel_rfl) ?_
              refine q_next (pwp_ret (q_block_ret (q_seq_ret ?_)))
              cases h370
              refine q_lout_ret fun he => ?_
              subst he
              have h377 := o_outr h349
              refine q_block_ret (q_seq_ret (q_block_ret ?_))
              cases h377
              refine q_jout_ret ?_
              have h378 := o_outr h308
              cases h378
              refine q_lout_ret fun he => ?_
              subst he
              have h379 := o_outr h
              refine q_block_ret (q_seq_ret ?_)
              cases h379
              exact q_ret (by kernel_rfl) (by kernel_rfl) (by kernel_rfl)
            refine r_cond_f hb (by kernel_rfl) ?_
            refine pwp_skip (q_block (q_next (r_reg ?_)))
            refine e_end (by kernel_rfl) ?_
            cases h370
            exact q_lback (by kernel_rfl)
          refine r_cond_f hb (by kernel_rfl) ?_
          refine pwp_exit (q_seq_exit ?_)
          cases h370
          exact q_lexit (by kernel_rfl) (by kernel_rfl)
        rintro _ s' rfl hs
        have h349 := o_outl h349
        refine q_block_hit ?_
        refine q_next (pwp_wkr hs ?_)
        refine pwp_seq (r_reg ?_)
        refine p_run 2 (by kernel_rfl) ?_
        obtain ⟨x288, h380, h349⟩ := o_bind h349
        obtain ⟨x289, h381, h349⟩ := o_bind h349
        rw [dec_T_api_Expr_eq h381] at h380
        refine p_ix h380 (by kernel_rfl) ?_
        obtain ⟨b290, h382, h349⟩ := o_bind h349
        refine p_run 5 (by kernel_rfl) ?_
        refine e_seg 8 87 (.bool b290) ?_ ?_
        · rcases o_cond h382 with ⟨hb, h382⟩ | ⟨hb, h382⟩
          · refine p_settle 79 hb (by kernel_rfl) (by kernel_rfl) ?_
            refine p_run 3 (by kernel_rfl) ?_
            obtain ⟨x291, h383, h382⟩ := o_bind h382
            obtain ⟨x292, h384, h382⟩ := o_bind h382
            rw [dec_T_api_Expr_eq h384] at h383
            refine p_ix h383 (by kernel_rfl) ?_
            refine p_run 1 (by kernel_rfl) ?_
            obtain ⟨r293, h385, h382⟩ := o_bind h382
            refine p_call (d_ref18_has_ok _ _ r293 h385) (by kernel_rfl) (by kernel_rfl) ?_
            cases h382
            exact f_end (by kernel_rfl) (by kernel_rfl)
          refine p_settle 79 hb (by kernel_rfl) (by kernel_rfl) ?_
          cases h382
          exact f_end (by kernel_rfl) (by kernel_rfl)
        refine e_nil (by kernel_rfl) ?_
        refine q_next ?_
        rcases o_cond h349 with ⟨hb, h349⟩ | ⟨hb, h349⟩
        · refine r_cond_t hb (by kernel_rfl) ?_
          refine r_reg ?_
          refine p_run 3 (by kernel_rfl) ?_
          obtain ⟨x294, h386, h349⟩ := o_bind h349
          obtain ⟨x295, h387, h349⟩ := o_bind h349
          rw [dec_T_api_Expr_eq h387] at h386
          refine p_ix h386 (by kernel_rfl) ?_
          refine p_run 2 (by kernel_rfl) ?_
          obtain ⟨x296, h388, h349⟩ := o_bind h349
          refine p_app (tk := 100011) h388 (by kernel_rfl) (by kernel_rfl) ?_
          refine e_end (by kernel_rfl) ?_
          refine q_block ?_
          cases h349
          exact q_join (by kernel_rfl) (by kernel_rfl)
        refine r_cond_f hb (by kernel_rfl) ?_
        refine pwp_skip (q_block ?_)
        cases h349
        exact q_join (by kernel_rfl) (by kernel_rfl)
      rintro x269 rfl
      have h308 := o_outl h308
      refine r_reg ?_
      refine e_end (by kernel_rfl) ?_
      cases h308
      exact q_lback (by kernel_rfl)
    refine r_cond_f hb (by kernel_rfl) ?_
    refine pwp_exit (q_seq_exit ?_)
    cases h308
    exact q_lexit (by kernel_rfl) (by kernel_rfl)
  rintro x241 s' rfl hs
  have h := o_outl h
  refine q_block_hit ?_
  refine q_next (pwp_wkr hs ?_)
  refine pwp_seq (pwp_seq (r_reg ?_))
  refine p_run 1 (by kernel_rfl) ?_
  refine p_len (L := (x241 : (List R_api_Expr))) (by kernel_rfl) ?_
  refine e_nil (by kernel_rfl) ?_
  refine q_next (pwp_block (pwp_seq (r_reg ?_)))
  refine e_end (by kernel_rfl) ?_
  refine q_next ?_
  rcases o_cond h with ⟨hb, h⟩ | ⟨hb, h⟩
  · refine r_cond_t hb (by kernel_rfl) ?_
    refine pwp_seq (r_reg ?_)
    refine e_end (by kernel_rfl) ?_
    refine q_next (pwp_ret (q_block_ret (q_seq_ret ?_)))
    cases h
    exact q_ret (by kernel_rfl) (by kernel_rfl) (by kernel_rfl)
  refine r_cond_f hb (by kernel_rfl) ?_
  refine pwp_seq (r_reg ?_)
  refine e_end (by kernel_rfl) ?_
  refine q_next ?_
  rcases o_cond h with ⟨hb, h⟩ | ⟨hb, h⟩
  · refine r_cond_t hb (by kernel_rfl) ?_
    refine pwp_seq (r_reg ?_)
    refine p_run 1 (by kernel_rfl) ?_
    obtain ⟨x297, h389, h⟩ := o_bind h
    obtain ⟨x298, h390, h⟩ := o_bind h
    rw [dec_T_api_Expr_eq h390] at h389
    refine p_ix h389 (by kernel_rfl) ?_
    refine e_end (by kernel_rfl) ?_
    refine q_next (pwp_ret (q_block_ret (q_seq_ret ?_)))
    cases h
    exact q_ret (by kernel_rfl) (by kernel_rfl) (by kernel_rfl)
  refine r_cond_f hb (by kernel_rfl) ?_
  refine pwp_skip (q_block (q_next (pwp_seq (r_reg ?_))))
  refine e_end (by kernel_rfl) ?_
  refine q_next (pwp_ret ?_)
  cases h
  exact q_ret (by kernel_rfl) (by kernel_rfl) (by kernel_rfl)

/-! signallingref18.simple -/
noncomputable def d_ref18_simple_0 (rc_d_ref18_simple : T_api_Expr → Option T_api_Expr) (a0 : T_api_Expr) : (Int × (List R_api_Expr)) → Option ((Int × (List R_api_Expr)) ⊕ ((List R_api_Expr) ⊕ T_api_Expr)) := fun (x10, x11) =>
  bif decide (x10 < ((a0.Args.length : Nat) : Int)) then (
    (ixO a0.Args x10).bind fun x17 =>
    (dec_T_api_Expr x17).bind fun x18 =>
    (rc_d_ref18_simple x18).bind fun r19 =>
    (appO x11 [(enc_T_api_Expr r19)]).bind fun x20 =>
    some (.inl (w64 (x10 + 1), x20))
  ) else (
    some (.inr (.inl x11))
  )

noncomputable def d_ref18_simple_F (rc_d_ref18_simple : T_api_Expr → Option T_api_Expr) (a0 : T_api_Expr) : Option T_api_Expr :=
  onInl (α := (List R_api_Expr)) (β := T_api_Expr) (loopO (d_ref18_simple_0 rc_d_ref18_simple a0) (0, ([] : (List R_api_Expr)))) fun x16 =>
  bif decide (a0.Op = 4) then (
    (ixO x16 0).bind fun x21 =>
    (dec_T_api_Expr x21).bind fun x22 =>
    (d_ref18_not x22).bind fun r23 =>
    some r23
  ) else (
    bif decide (a0.Op = 5) then (
      (d_ref18_all 5 2 1 x16).bind fun r24 =>
      some r24
    ) else (
      bif decide (a0.Op = 6) then (
        (d_ref18_all 6 1 2 x16).bind fun r25 =>
        some r25
      ) else (
        some a0
      )
    )
  )
theorem d_ref18_simple_F_ok (rc_d_ref18_simple : T_api_Expr → Option T_api_Expr) (hrc_d_ref18_simple : ∀ (a0 : T_api_Expr) (r : T_api_Expr), rc_d_ref18_simple a0 = some r → PCall Go.Proofs.Tryd.prog GlS 36 [Enc.pv a0] (Enc.pv r)) (a0 : T_api_Expr) (r : T_api_Expr) (h : d_ref18_simple_F rc_d_ref18_simple a0 = some r) : PCall Go.Proofs.Tryd.prog GlS 36 [Enc.pv a0] (Enc.pv r) := by
  unfold d_ref18_simple_F at h
  refine pcall_of_pwp Go.Proofs.Tryd.func36 (by rfl) rfl Go.Proofs.Tryd.ntmps36 (by rfl) rfl ?_
  refine pwp_seq (r_reg ?_)
  refine e_end (by kernel_rfl) ?_
  refine q_next (pwp_seq (r_reg ?_))
  refine e_end (by kernel_rfl) ?_
  refine q_next (pwp_seq (pwp_seq (r_reg ?_)))
  refine e_end (by kernel_rfl) ?_
  refine q_next (pwp_block ?_)
  refine g_nil 3 100003 3 40 (by kernel_rfl) (by kernel_rfl) ?_
  obtain ⟨o14, h14, h⟩ := o_inl h
  refine r_loop2 38 0 (fun (x10, x11) => ⟨[(1, .ref 1 0), (2, .ref 2 0), (3, lstOf (.own 100003) (x11 : (List R_api_Expr))), (4, .int .i64 x10)], [(1, .cells (cellsOf a0)), (2, .cells ([.int .i64 0, .int .i64 0, .nil]))], [(100003, (((x11).map cellsOf).length, 3))], []⟩) (fun x16 => ⟨[(1, .ref 1 0), (2, .ref 2 0), (3, lstOf (.own 100003) (x16 : (List R_api_Expr)))], [(1, .cells (cellsOf a0)), (2, .cells ([.int .i64 0, .int .i64 0, .nil]))], [(100003, (((x16).map cellsOf).length, 3))], []⟩) h14 (by kernel_rfl) (fun _ => by kernel_rfl) ?_ ?_
  · rintro ⟨x10, x11⟩ oh13 h13
    unfold d_ref18_simple_0 at h13
    refine pwp_seq (pwp_seq (r_reg ?_))
    refine p_run 3 (by kernel_rfl) ?_
    refine p_len (L := (a0.Args : (List R_api_Expr))) (by kernel_rfl) ?_
    refine e_end (by kernel_rfl) ?_
    refine q_next ?_
    rcases o_cond h13 with ⟨hb, h13⟩ | ⟨hb, h13⟩
    · refine r_cond_t hb (by kernel_rfl) ?_
      refine pwp_skip (q_next (pwp_seq (pwp_block (r_reg ?_))))
      refine p_run 4 (by kernel_rfl) ?_
      obtain ⟨x17, h15, h13⟩ := o_bind h13
      obtain ⟨x18, h16, h13⟩ := o_bind h13
      rw [dec_T_api_Expr_eq h16] at h15
      refine p_ix h15 (by kernel_rfl) ?_
      refine p_run 1 (by kernel_rfl) ?_
      obtain ⟨r19, h17, h13⟩ := o_bind h13
      refine p_call (hrc_d_ref18_simple _ r19 h17) (by kernel_rfl) (by kernel_rfl) ?_
      refine p_run 1 (by kernel_rfl) ?_
      obtain ⟨x20, h18, h13⟩ := o_bind h13
      refine p_app (tk := 100003) h18 (by kernel_rfl) (by kernel_rfl) ?_
      refine e_end (by kernel_rfl) ?_
      refine q_block (q_next (r_reg ?_))
      refine e_end (by kernel_rfl) ?_
      cases h13
      exact q_lback (by kernel_rfl)
    refine r_cond_f hb (by kernel_rfl) ?_
    refine pwp_exit (q_seq_exit ?_)
    cases h13
    exact q_lexit (by kernel_rfl) (by kernel_rfl)
  rintro x16 s' rfl hs
  have h := o_outl h
  refine q_block_hit ?_
  refine q_next (pwp_wkr hs ?_)
  refine pwp_seq (pwp_seq (r_reg ?_))
  refine e_end (by kernel_rfl) ?_
  refine q_next (pwp_block (pwp_seq (r_reg ?_)))
  refine e_end (by kernel_rfl) ?_
  refine q_next ?_
  rcases o_cond h with ⟨hb, h⟩ | ⟨hb, h⟩
  · refine r_cond_t hb (by kernel_rfl) ?_
    refine pwp_seq (r_reg ?_)
    refine p_run 1 (by kernel_rfl) ?_
    obtain ⟨x21, h19, h⟩ := o_bind h
    obtain ⟨x22, h20, h⟩ := o_bind h
    rw [dec_T_api_Expr_eq h20] at h19
    refine p_ix h19 (by kernel_rfl) ?_
    refine p_run 1 (by kernel_rfl) ?_
    obtain ⟨r23, h21, h⟩ := o_bind h
    refine p_call (d_ref18_not_ok _ r23 h21) (by kernel_rfl) (by kernel_rfl) ?_
    refine e_end (by kernel_rfl) ?_
    refine q_next (pwp_ret (q_block_ret (q_seq_ret ?_)))
    cases h
    exact q_ret (by kernel_rfl) (by kernel_rfl) (by kernel_rfl)
  refine r_cond_f hb (by kernel_rfl) ?_
  refine pwp_seq (r_reg ?_)
  refine e_end (by kernel_rfl) ?_
  refine q_next ?_
  rcases o_cond h with ⟨hb, h⟩ | ⟨hb, h⟩
  · refine r_cond_t hb (by kernel_rfl) ?_
    refine pwp_seq (r_reg ?_)
    refine p_run 1 (by kernel_rfl) ?_
    obtain ⟨r24, h22, h⟩ := o_bind h
    refine p_call (d_ref18_all_ok _ _ _ _ r24 h22) (by kernel_rfl) (by kernel_rfl) ?_
    refine e_end (by kernel_rfl) ?_
    refine q_next (pwp_ret (q_block_ret (q_seq_ret ?_)))
    cases h
    exact q_ret (by kernel_rfl) (by kernel_rfl) (by kernel_rfl)
  refine r_cond_f hb (by kernel_rfl) ?_
  refine pwp_seq (r_reg ?_)
  refine e_end (by kernel_rfl) ?_
  refine q_next ?_
  rcases o_cond h with ⟨hb, h⟩ | ⟨hb, h⟩
  · refine r_cond_t hb (by kernel_rfl) ?_
    refine pwp_seq (r_reg ?_)
    refine p_run 1 (by kernel_rfl) ?_
    obtain ⟨r25, h23, h⟩ := o_bind h
    refine p_call (d_ref18_all_ok _ _ _ _ r25 h23) (by kernel_rfl) (by kernel_rfl) ?_
    refine e_end (by kernel_rfl) ?_
    refine q_next (pwp_ret (q_block_ret (q_seq_ret ?_)))
    cases h
    exact q_ret (by kernel_rfl) (by kernel_rfl) (by kernel_rfl)
  refine r_cond_f hb (by kernel_rfl) ?_
  refine pwp_skip (q_block (q_next (pwp_seq (r_reg ?_))))
  refine e_end (by kernel_rfl) ?_
  refine q_next (pwp_ret ?_)
  cases h
  exact q_ret (by kernel_rfl) (by kernel_rfl) (by kernel_rfl)
noncomputable def d_ref18_simple_N (n : Nat) : T_api_Expr → Option T_api_Expr := Nat.rec (fun _ => none) (fun _ ih => d_ref18_simple_F ih) n
theorem d_ref18_simple_N_ok : ∀ (n : Nat) (a0 : T_api_Expr) (r : T_api_Expr), d_ref18_simple_N n a0 = some r → PCall Go.Proofs.Tryd.prog GlS 36 [Enc.pv a0] (Enc.pv r)
  | 0, _, _, h => by cases h
  | n + 1, a0, r, h => d_ref18_simple_F_ok (d_ref18_simple_N n) (d_ref18_simple_N_ok n) a0 r h
noncomputable def d_ref18_simple (a0 : T_api_Expr) : Option T_api_Expr := d_ref18_simple_F (d_ref18_simple_N recFuel) a0
theorem d_ref18_simple_ok (a0 : T_api_Expr) (r : T_api_Expr) (h : d_ref18_simple a0 = some r) : PCall Go.Proofs.Tryd.prog GlS 36 [Enc.pv a0] (Enc.pv r) := d_ref18_simple_F_ok (d_ref18_simple_N recFuel) (d_ref18_simple_N_ok recFuel) a0 r h

/-! signallingref18.Simplify -/
noncomputable def d_ref18_Simplify (a0 : T_api_Expr) : Option T_api_Expr :=
  (d_ref18_Valid a0 1073741824).bind fun r1 =>
  bif (!r1) then (
    some a0
  ) else (
    (d_ref18_simple a0).bind fun r2 =>
    some r2
  )
theorem d_ref18_Simplify_ok (a0 : T_api_Expr) (r : T_api_Expr) (h : d_ref18_Simplify a0 = some r) : PCall Go.Proofs.Tryd.prog GlS 18 [Enc.pv a0] (Enc.pv r) := by
  unfold d_ref18_Simplify at h
  refine pcall_of_pwp Go.Proofs.Tryd.func18 (by rfl) rfl Go.Proofs.Tryd.ntmps18 (by rfl) rfl ?_
  refine pwp_seq (r_reg ?_)
  refine e_end (by kernel_rfl) ?_
  refine q_next (pwp_seq (pwp_seq (r_reg ?_)))
  refine p_run 1 (by kernel_rfl) ?_
  obtain ⟨r1, h1, h⟩ := o_bind h
  refine p_call (d_ref18_Valid_ok _ _ r1 h1) (by kernel_rfl) (by kernel_rfl) ?_
  refine e_end (by kernel_rfl) ?_
  refine q_next ?_
  rcases o_cond h with ⟨hb, h⟩ | ⟨hb, h⟩
  · refine r_cond_t hb (by kernel_rfl) ?_
    refine pwp_seq (r_reg ?_)
    refine e_end (by kernel_rfl) ?_
    refine q_next (pwp_ret (q_seq_ret ?_))
    cases h
    exact q_ret (by kernel_rfl) (by kernel_rfl) (by kernel_rfl)
  refine r_cond_f hb (by kernel_rfl) ?_
  refine pwp_skip (q_next (pwp_seq (r_reg ?_)))
  refine p_run 1 (by kernel_rfl) ?_
  obtain ⟨r2, h2, h⟩ := o_bind h
  refine p_call (d_ref18_simple_ok _ r2 h2) (by kernel_rfl) (by kernel_rfl) ?_
  refine e_end (by kernel_rfl) ?_
  refine q_next (pwp_ret ?_)
  cases h
  exact q_ret (by kernel_rfl) (by kernel_rfl) (by kernel_rfl)

/-! signallingref18.Replace -/
noncomputable def d_ref18_Replace_0 (rc_d_ref18_Replace : T_api_Expr → Int → T_api_Expr → Option T_api_Expr) (a0 : T_api_Expr) (a1 : Int) (a2 : T_api_Expr) : (Int × (List R_api_Expr)) → Option ((Int × (List R_api_Expr)) ⊕ ((List R_api_Expr) ⊕ T_api_Expr)) := fun (x10, x11) =>
  bif decide (x10 < ((a0.Args.length : Nat) : Int)) then (
    (ixO a0.Args x10).bind fun x17 =>
    (dec_T_api_Expr x17).bind fun x18 =>
    (rc_d_ref18_Replace x18 a1 a2).bind fun r19 =>
    (appO x11 [(enc_T_api_Expr r19)]).bind fun x20 =>
    some (.inl (w64 (x10 + 1), x20))
  ) else (
    some (.inr (.inl x11))
  )

noncomputable def d_ref18_Replace_F (rc_d_ref18_Replace : T_api_Expr → Int → T_api_Expr → Option T_api_Expr) (a0 : T_api_Expr) (a1 : Int) (a2 : T_api_Expr) : Option T_api_Expr :=
  bif ((decide (a0.Op = 3)) && (decide (a0.Var = a1))) then (
    some a2
  ) else (
    onInl (α := (List R_api_Expr)) (β := T_api_Expr) (loopO (d_ref18_Replace_0 rc_d_ref18_Replace a0 a1 a2) (0, ([] : (List R_api_Expr)))) fun x16 =>
    some (T_api_Expr.mk a0.Op a0.Var x16)
  )
theorem d_ref18_Replace_F_ok (rc_d_ref18_Replace : T_api_Expr → Int → T_api_Expr → Option T_api_Expr) (hrc_d_ref18_Replace : ∀ (a0 : T_api_Expr) (a1 : Int) (a2 : T_api_Expr) (r : T_api_Expr), rc_d_ref18_Replace a0 a1 a2 = some r → PCall Go.Proofs.Tryd.prog GlS 20 [Enc.pv a0, Enc.pv a1, Enc.pv a2] (Enc.pv r)) (a0 : T_api_Expr) (a1 : Int) (a2 : T_api_Expr) (r : T_api_Expr) (h : d_ref18_Replace_F rc_d_ref18_Replace a0 a1 a2 = some r) : PCall Go.Proofs.Tryd.prog GlS 20 [Enc.pv a0, Enc.pv a1, Enc.pv a2] (Enc.pv r) := by
  unfold d_ref18_Replace_F at h
  refine pcall_of_pwp Go.Proofs.Tryd.func20 (by rfl) rfl Go.Proofs.Tryd.ntmps20 (by rfl) rfl ?_
  refine pwp_seq (r_reg ?_)
  refine e_end (by kernel_rfl) ?_
  refine q_next (pwp_seq (pwp_seq (r_reg ?_)))
  refine p_run 4 (by kernel_rfl) ?_
  refine e_segb 5 17 ((decide (a0.Op = 3)) && (decide (a0.Var = a1))) (fun x hx => ?_) ?_
  · rcases b_and hx with ⟨hb, hx⟩ | ⟨hb, hx⟩
    · refine p_settle 12 hb (by kernel_rfl) (by kernel_rfl) ?_
      subst hx
      exact f_end (by kernel_rfl) (by kernel_rfl)
    refine p_settle 12 hb (by kernel_rfl) (by kernel_rfl) ?_
    subst hx
    exact f_end (by kernel_rfl) (by kernel_rfl)
  refine e_nil (by kernel_rfl) ?_
  refine q_next ?_
  rcases o_cond h with ⟨hb, h⟩ | ⟨hb, h⟩
  · refine r_cond_t hb (by kernel_rfl) ?_
    refine pwp_seq (r_reg ?_)
    refine e_end (by kernel_rfl) ?_
    refine q_next (pwp_ret (q_seq_ret ?_))
    cases h
    exact q_ret (by kernel_rfl) (by kernel_rfl) (by kernel_rfl)
  refine r_cond_f hb (by kernel_rfl) ?_
  refine pwp_skip (q_next (pwp_seq (r_reg ?_)))
  refine e_end (by kernel_rfl) ?_
  refine q_next (pwp_seq (pwp_seq (r_reg ?_)))
  refine e_end (by kernel_rfl) ?_
  refine q_next (pwp_block ?_)
  refine pwp_wkr (wkr_nilH 7 2 200702 3 40 (cs := [.int .i64 a0.Op, .int .i64 a0.Var, .nil]) (by kernel_rfl) (by kernel_rfl) (by kernel_rfl)) ?_
  obtain ⟨o14, h14, h⟩ := o_inl h
  refine r_loop2 45 0 (fun (x10, x11) => ⟨[(1, .int .i64 a1), (3, .ref 3 0), (5, .ref 5 0), (6, .ref 6 0), (7, .ref 7 0), (8, .int .i64 x10)], [(3, .cells (cellsOf a0)), (5, .cells (cellsOf a2)), (6, .cells ([.int .i64 0, .int .i64 0, .nil])), (7, .cells ([.int .i64 a0.Op, .int .i64 a0.Var, lstOf (.own 200702) (x11 : (List R_api_Expr))]))], [(200702, (((x11).map cellsOf).length, 3))], []⟩) (fun x16 => ⟨[(6, .ref 6 0), (7, .ref 7 0)], [(6, .cells ([.int .i64 0, .int .i64 0, .nil])), (7, .cells ([.int .i64 a0.Op, .int .i64 a0.Var, lstOf (.own 200702) (x16 : (List R_api_Expr))]))], [(200702, (((x16).map cellsOf).length, 3))], []⟩) h14 (by kernel_rfl) (fun _ => by kernel_rfl) ?_ ?_
  · rintro ⟨x10, x11⟩ oh13 h13
    unfold d_ref18_Replace_0 at h13
    refine pwp_seq (pwp_seq (r_reg ?_))
    refine p_run 3 (by kernel_rfl) ?_
    refine p_len (L := (a0.Args : (List R_api_Expr))) (by kernel_rfl) ?_
    refine e_end (by kernel_rfl) ?_
    refine q_next ?_
    rcases o_cond h13 with ⟨hb, h13⟩ | ⟨hb, h13⟩
    · refine r_cond_t hb (by kernel_rfl) ?_
      refine pwp_skip (q_next (pwp_seq (pwp_block ?_)))
      refine r_regd (by kernel_rfl) (by kernel_rfl) ?_
      refine p_run 5 (by kernel_rfl) ?_
      obtain ⟨x17, h15, h13⟩ := o_bind h13
      obtain ⟨x18, h16, h13⟩ := o_bind h13
      rw [dec_T_api_Expr_eq h16] at h15
      refine p_ix h15 (by kernel_rfl) ?_
      refine p_run 3 (by kernel_rfl) ?_
      obtain ⟨r19, h17, h13⟩ := o_bind h13
      refine p_call (hrc_d_ref18_Replace _ _ _ r19 h17) (by kernel_rfl) (by kernel_rfl) ?_
      refine p_run 1 (by kernel_rfl) ?_
      obtain ⟨x20, h18, h13⟩ := o_bind h13
      refine p_app (tk := 200702) h18 (by kernel_rfl) (by kernel_rfl) ?_
      refine e_end (by kernel_rfl) ?_
      refine q_block (q_next (r_reg ?_))
      refine e_end (by kernel_rfl) ?_
      cases h13
      exact q_lback (by kernel_rfl)
    refine r_cond_f hb (by kernel_rfl) ?_
    refine pwp_exit (q_seq_exit ?_)
    cases h13
    exact q_lexit (by kernel_rfl) (by kernel_rfl)
  rintro x16 s' rfl hs
  have h := o_outl h
  refine q_block_hit ?_
  refine q_next (pwp_wkr hs ?_)
  refine pwp_seq (r_reg ?_)
  refine e_end (by kernel_rfl) ?_
  refine q_next (pwp_ret ?_)
  cases h
  exact q_ret (by kernel_rfl) (by kernel_rfl) (by kernel_rfl)
noncomputable def d_ref18_Replace_N (n : Nat) : T_api_Expr → Int → T_api_Expr → Option T_api_Expr := Nat.rec (fun _ _ _ => none) (fun _ ih => d_ref18_Replace_F ih) n
theorem d_ref18_Replace_N_ok : ∀ (n : Nat) (a0 : T_api_Expr) (a1 : Int) (a2 : T_api_Expr) (r : T_api_Expr), d_ref18_Replace_N n a0 a1 a2 = some r → PCall Go.Proofs.Tryd.prog GlS 20 [Enc.pv a0, Enc.pv a1, Enc.pv a2] (Enc.pv r)
  | 0, _, _, _, _, h => by cases h
  | n + 1, a0, a1, a2, r, h => d_ref18_Replace_F_ok (d_ref18_Replace_N n) (d_ref18_Replace_N_ok n) a0 a1 a2 r h
noncomputable def d_ref18_Replace (a0 : T_api_Expr) (a1 : Int) (a2 : T_api_Expr) : Option T_api_Expr := d_ref18_Replace_F (d_ref18_Replace_N recFuel) a0 a1 a2
theorem d_ref18_Replace_ok (a0 : T_api_Expr) (a1 : Int) (a2 : T_api_Expr) (r : T_api_Expr) (h : d_ref18_Replace a0 a1 a2 = some r) : PCall Go.Proofs.Tryd.prog GlS 20 [Enc.pv a0, Enc.pv a1, Enc.pv a2] (Enc.pv r) := d_ref18_Replace_F_ok (d_ref18_Replace_N recFuel) (d_ref18_Replace_N_ok recFuel) a0 a1 a2 r h

/-! signallinglaw18.ExprRewrites -/
noncomputable def d_law18_ExprRewrites (a0 : T_api_Expr) (a1 : Int) (a2 : T_api_Expr) : Option Bool :=
  (d_law18_modest a0).bind fun r1 =>
  ((bif (!r1) then some true else (
    (d_law18_modest a2).bind fun r3 =>
    some (!r3)
  )) : Option Bool).bind fun b2 =>
  bif b2 then (
    (d_law18_alive ).bind fun r4 =>
    some r4
  ) else (
    (d_expr_Simplify a0).bind fun r5 =>
    (d_ref18_Simplify a0).bind fun r6 =>
    (d_ref18_Same r5 r6).bind fun r7 =>
    ((bif r7 then (
      (d_expr_Replace a0 a1 a2).bind fun r9 =>
      (d_ref18_Replace a0 a1 a2).bind fun r10 =>
      (d_ref18_Same r9 r10).bind fun r11 =>
      some r11
    ) else some false) : Option Bool).bind fun b8 =>
    ((bif b8 then (
      (d_law18_alive ).bind fun r13 =>
      some r13
    ) else some false) : Option Bool).bind fun b12 =>
    some b12
  )
theorem d_law18_ExprRewrites_ok (a0 : T_api_Expr) (a1 : Int) (a2 : T_api_Expr) (r : Bool) (h : d_law18_ExprRewrites a0 a1 a2 = some r) : PCall Go.Proofs.Tryd.prog GlS 4 [Enc.pv a0, Enc.pv a1, Enc.pv a2] (Enc.pv r) := by
  unfold d_law18_ExprRewrites at h
  refine pcall_of_pwp Go.Proofs.Tryd.func4 (by rfl) rfl Go.Proofs.Tryd.ntmps4 (by rfl) rfl ?_
  refine pwp_seq (r_reg ?_)
  refine e_end (by kernel_rfl) ?_
  refine q_next (pwp_seq (pwp_seq (r_reg ?_)))
  refine p_run 1 (by kernel_rfl) ?_
  obtain ⟨r1, h1, h⟩ := o_bind h
  refine p_call (d_law18_modest_ok _ r1 h1) (by kernel_rfl) (by kernel_rfl) ?_
  obtain ⟨b2, h2, h⟩ := o_bind h
  refine p_run 2 (by kernel_rfl) ?_
  refine e_seg 4 14 (.bool b2) ?_ ?_
  · rcases o_cond h2 with ⟨hb, h2⟩ | ⟨hb, h2⟩
    · refine p_settle 10 hb (by kernel_rfl) (by kernel_rfl) ?_
      cases h2
      exact f_end (by kernel_rfl) (by kernel_rfl)
    refine p_settle 10 hb (by kernel_rfl) (by kernel_rfl) ?_
    refine p_run 1 (by kernel_rfl) ?_
    obtain ⟨r3, h3, h2⟩ := o_bind h2
    refine p_call (d_law18_modest_ok _ r3 h3) (by kernel_rfl) (by kernel_rfl) ?_
    cases h2
    exact f_end (by kernel_rfl) (by kernel_rfl)
  refine e_nil (by kernel_rfl) ?_
  refine q_next ?_
  rcases o_cond h with ⟨hb, h⟩ | ⟨hb, h⟩
  · refine r_cond_t hb (by kernel_rfl) ?_
    refine pwp_seq (r_reg ?_)
    obtain ⟨r4, h4, h⟩ := o_bind h
    refine p_call (d_law18_alive_ok  r4 h4) (by kernel_rfl) (by kernel_rfl) ?_
    refine e_end (by kernel_rfl) ?_
    refine q_next (pwp_ret (q_seq_ret ?_))
    cases h
    exact q_ret (by kernel_rfl) (by kernel_rfl) (by kernel_rfl)
  refine r_cond_f hb (by kernel_rfl) ?_
  refine pwp_skip (q_next (pwp_seq ?_))
  refine r_regd (by kernel_rfl) (by kernel_rfl) ?_
  refine p_run 1 (by kernel_rfl) ?_
  obtain ⟨r5, h5, h⟩ := o_bind h
  refine p_call (d_expr_Simplify_ok _ r5 h5) (by kernel_rfl) (by kernel_rfl) ?_
  refine p_run 1 (by kernel_rfl) ?_
  obtain ⟨r6, h6, h⟩ := o_bind h
  refine p_call (d_ref18_Simplify_ok _ r6 h6) (by kernel_rfl) (by kernel_rfl) ?_
  obtain ⟨r7, h7, h⟩ := o_bind h
  refine p_call (d_ref18_Same_ok _ _ r7 h7) (by kernel_rfl) (by kernel_rfl) ?_
  obtain ⟨b8, h8, h⟩ := o_bind h
  refine p_run 1 (by kernel_rfl) ?_
  refine e_seg 10 31 (.bool b8) ?_ ?_
  · rcases o_cond h8 with ⟨hb, h8⟩ | ⟨hb, h8⟩
    · refine p_settle 21 hb (by kernel_rfl) (by kernel_rfl) ?_
      refine p_run 3 (by kernel_rfl) ?_
      obtain ⟨r9, h9, h8⟩ := o_bind h8
      refine p_call (d_expr_Replace_ok _ _ _ r9 h9) (by kernel_rfl) (by kernel_rfl) ?_
      refine p_run 3 (by kernel_rfl) ?_
      obtain ⟨r10, h10, h8⟩ := o_bind h8
      refine p_call (d_ref18_Replace_ok _ _ _ r10 h10) (by kernel_rfl) (by kernel_rfl) ?_
      obtain ⟨r11, h11, h8⟩ := o_bind h8
      refine p_call (d_ref18_Same_ok _ _ r11 h11) (by kernel_rfl) (by kernel_rfl) ?_
      cases h8
      exact f_end (by kernel_rfl) (by kernel_rfl)
    refine p_settle 21 hb (by kernel_rfl) (by kernel_rfl) ?_
    cases h8
    exact f_end (by kernel_rfl) (by kernel_rfl)
  obtain ⟨b12, h12, h⟩ := o_bind h
  refine p_run 1 (by kernel_rfl) ?_
  refine e_seg 2 34 (.bool b12) ?_ ?_
  · rcases o_cond h12 with ⟨hb, h12⟩ | ⟨hb, h12⟩
    · refine p_settle 32 hb (by kernel_rfl) (by kernel_rfl) ?_
      obtain ⟨r13, h13, h12⟩ := o_bind h12
      refine p_call (d_law18_alive_ok  r13 h13) (by kernel_rfl) (by kernel_rfl) ?_
      cases h12
      exact f_end (by kernel_rfl) (by kernel_rfl)
    refine p_settle 32 hb (by kernel_rfl) (by kernel_rfl) ?_
    cases h12
    exact f_end (by kernel_rfl) (by kernel_rfl)
  refine e_end (by kernel_rfl) ?_
  refine q_next (pwp_ret ?_)
  cases h
  exact q_ret (by kernel_rfl) (by kernel_rfl) (by kernel_rfl)

/-! signallinglaw18.ExprSimplifies -/
noncomputable def d_law18_ExprSimplifies (a0 : T_api_Expr) (a1 : (List Bool)) : Option Bool :=
  (d_law18_modest a0).bind fun r1 =>
  bif (!r1) then (
    (d_law18_alive ).bind fun r2 =>
    some r2
  ) else (
    (d_expr_Simplify a0).bind fun r3 =>
    (d_expr_Eval r3 a1).bind fun r4 =>
    (d_expr_Eval a0 a1).bind fun r5 =>
    ((bif (!(r4 == r5)) then some true else (
      (d_expr_Simplify r3).bind fun r7 =>
      (d_ref18_Same r7 r3).bind fun r8 =>
      some (!r8)
    )) : Option Bool).bind fun b6 =>
    bif b6 then (
      some false
    ) else (
      (d_expr_Valid a0 1073741824).bind fun r9 =>
      ((bif (!r9) then some true else (
        (d_expr_Valid r3 1073741824).bind fun r11 =>
        some r11
      )) : Option Bool).bind fun b10 =>
      ((bif b10 then (
        (d_expr_Size r3).bind fun r13 =>
        (d_expr_Size a0).bind fun r14 =>
        some (decide (r13 ≤ r14))
      ) else some false) : Option Bool).bind fun b12 =>
      ((bif b12 then (
        (d_law18_alive ).bind fun r16 =>
        some r16
      ) else some false) : Option Bool).bind fun b15 =>
      some b15
    )
  )
theorem d_law18_ExprSimplifies_ok (a0 : T_api_Expr) (a1 : (List Bool)) (r : Bool) (h : d_law18_ExprSimplifies a0 a1 = some r) : PCall Go.Proofs.Tryd.prog GlS 5 [Enc.pv a0, Enc.pv a1] (Enc.pv r) := by
  unfold d_law18_ExprSimplifies at h
  refine pcall_of_pwp Go.Proofs.Tryd.func5 (by rfl) rfl Go.Proofs.Tryd.ntmps5 (by rfl) rfl ?_
  refine pwp_seq (r_reg ?_)
  refine e_end (by kernel_rfl) ?_
  refine q_next (pwp_seq (pwp_seq (r_reg ?_)))
  refine p_run 1 (by kernel_rfl) ?_
  obtain ⟨r1, h1, h⟩ := o_bind h
  refine p_call (d_law18_modest_ok _ r1 h1) (by kernel_rfl) (by kernel_rfl) ?_
  refine e_end (by kernel_rfl) ?_
  refine q_next ?_
  rcases o_cond h with ⟨hb, h⟩ | ⟨hb, h⟩
  · refine r_cond_t hb (by kernel_rfl) ?_
    refine pwp_seq (r_reg ?_)
    obtain ⟨r2, h2, h⟩ := o_bind h
    refine p_call (d_law18_alive_ok  r2 h2) (by kernel_rfl) (by kernel_rfl) ?_
    refine e_end (by kernel_rfl) ?_
    refine q_next (pwp_ret (q_seq_ret ?_))
    cases h
    exact q_ret (by kernel_rfl) (by kernel_rfl) (by kernel_rfl)
  refine r_cond_f hb (by kernel_rfl) ?_
  refine pwp_skip (q_next (pwp_seq (r_reg ?_)))
  refine p_run 1 (by kernel_rfl) ?_
  obtain ⟨r3, h3, h⟩ := o_bind h
  refine p_call (d_expr_Simplify_ok _ r3 h3) (by kernel_rfl) (by kernel_rfl) ?_
  refine e_end (by kernel_rfl) ?_
  refine q_next (pwp_seq (pwp_seq ?_))
  refine r_regd (by kernel_rfl) (by kernel_rfl) ?_
  refine p_run 2 (by kernel_rfl) ?_
  obtain ⟨r4, h4, h⟩ := o_bind h
  refine p_call (d_expr_Eval_ok _ _ r4 h4) (by kernel_rfl) (by kernel_rfl) ?_
  refine p_run 2 (by kernel_rfl) ?_
  obtain ⟨r5, h5, h⟩ := o_bind h
  refine p_call (d_expr_Eval_ok _ _ r5 h5) (by kernel_rfl) (by kernel_rfl) ?_
  obtain ⟨b6, h6, h⟩ := o_bind h
  refine p_run 2 (by kernel_rfl) ?_
  refine e_seg 6 25 (.bool b6) ?_ ?_
  · rcases o_cond h6 with ⟨hb, h6⟩ | ⟨hb, h6⟩
    · refine p_settle 19 hb (by kernel_rfl) (by kernel_rfl) ?_
      cases h6
      exact f_end (by kernel_rfl) (by kernel_rfl)
    refine p_settle 19 hb (by kernel_rfl) (by kernel_rfl) ?_
    refine p_run 1 (by kernel_rfl) ?_
    obtain ⟨r7, h7, h6⟩ := o_bind h6
    refine p_call (d_expr_Simplify_ok _ r7 h7) (by kernel_rfl) (by kernel_rfl) ?_
    refine p_run 1 (by kernel_rfl) ?_
    obtain ⟨r8, h8, h6⟩ := o_bind h6
    refine p_call (d_ref18_Same_ok _ _ r8 h8) (by kernel_rfl) (by kernel_rfl) ?_
    cases h6
    exact f_end (by kernel_rfl) (by kernel_rfl)
  refine e_nil (by kernel_rfl) ?_
  refine q_next ?_
  rcases o_cond h with ⟨hb, h⟩ | ⟨hb, h⟩
  · refine r_cond_t hb (by kernel_rfl) ?_
    refine pwp_seq (r_reg ?_)
    refine e_end (by kernel_rfl) ?_
    refine q_next (pwp_ret (q_seq_ret ?_))
    cases h
    exact q_ret (by kernel_rfl) (by kernel_rfl) (by kernel_rfl)
  refine r_cond_f hb (by kernel_rfl) ?_
  refine pwp_skip (q_next (pwp_seq ?_))
  refine r_regd (by kernel_rfl) (by kernel_rfl) ?_
  refine p_run 1 (by kernel_rfl) ?_
  obtain ⟨r9, h9, h⟩ := o_bind h
  refine p_call (d_expr_Valid_ok _ _ r9 h9) (by kernel_rfl) (by kernel_rfl) ?_
  obtain ⟨b10, h10, h⟩ := o_bind h
  refine p_run 2 (by kernel_rfl) ?_
  refine e_seg 3 32 (.bool b10) ?_ ?_
  · rcases o_cond h10 with ⟨hb, h10⟩ | ⟨hb, h10⟩
    · refine p_settle 29 hb (by kernel_rfl) (by kernel_rfl) ?_
      cases h10
      exact f_end (by kernel_rfl) (by kernel_rfl)
    refine p_settle 29 hb (by kernel_rfl) (by kernel_rfl) ?_
    refine p_run 1 (by kernel_rfl) ?_
    obtain ⟨r11, h11, h10⟩ := o_bind h10
    refine p_call (d_expr_Valid_ok _ _ r11 h11) (by kernel_rfl) (by kernel_rfl) ?_
    cases h10
    exact f_end (by kernel_rfl) (by kernel_rfl)
  obtain ⟨b12, h12, h⟩ := o_bind h
  refine p_run 1 (by kernel_rfl) ?_
  refine e_seg 6 39 (.bool b12) ?_ ?_
  · rcases o_cond h12 with ⟨hb, h12⟩ | ⟨hb, h12⟩
    · refine p_settle 33 hb (by kernel_rfl) (by kernel_rfl) ?_
      refine p_run 1 (by kernel_rfl) ?_
      obtain ⟨r13, h13, h12⟩ := o_bind h12
      refine p_call (d_expr_Size_ok _ r13 h13) (by kernel_rfl) (by kernel_rfl) ?_
      refine p_run 1 (by kernel_rfl) ?_
      obtain ⟨r14, h14, h12⟩ := o_bind h12
      refine p_call (d_expr_Size_ok _ r14 h14) (by kernel_rfl) (by kernel_rfl) ?_
      cases h12
      exact f_end (by kernel_rfl) (by kernel_rfl)
    refine p_settle 33 hb (by kernel_rfl) (by kernel_rfl) ?_
    cases h12
    exact f_end (by kernel_rfl) (by kernel_rfl)
  obtain ⟨b15, h15, h⟩ := o_bind h
  refine p_run 1 (by kernel_rfl) ?_
  refine e_seg 2 42 (.bool b15) ?_ ?_
  · rcases o_cond h15 with ⟨hb, h15⟩ | ⟨hb, h15⟩
    · refine p_settle 40 hb (by kernel_rfl) (by kernel_rfl) ?_
      obtain ⟨r16, h16, h15⟩ := o_bind h15
      refine p_call (d_law18_alive_ok  r16 h16) (by kernel_rfl) (by kernel_rfl) ?_
      cases h15
      exact f_end (by kernel_rfl) (by kernel_rfl)
    refine p_settle 40 hb (by kernel_rfl) (by kernel_rfl) ?_
    cases h15
    exact f_end (by kernel_rfl) (by kernel_rfl)
  refine e_end (by kernel_rfl) ?_
  refine q_next (pwp_ret ?_)
  cases h
  exact q_ret (by kernel_rfl) (by kernel_rfl) (by kernel_rfl)

/-! signallinglaw18.simplified -/
noncomputable def d_law18_simplified_1 (x32 : T_api_Expr) (x34 : (List R_api_Expr)) : Int → Option (Int ⊕ (Unit ⊕ (Int ⊕ (Unit ⊕ Bool)))) := fun x38 =>
  bif decide (x38 < ((x34.length : Nat) : Int)) then (
    (ixO x34 x38).bind fun x42 =>
    (dec_T_api_Expr x42).bind fun x43 =>
    (d_ref18_Same x32 x43).bind fun r44 =>
    bif r44 then (
      some (.inr (.inr (.inr (.inr false))))
    ) else (
      some (.inl (w64 (x38 + 1)))
    )
  ) else (
    some (.inr (.inl ()))
  )

noncomputable def d_law18_simplified_0 (rc_d_law18_simplified : T_api_Expr → Int → Option Bool) (a0 : T_api_Expr) : Int → Option (Int ⊕ (Unit ⊕ Bool)) := fun x16 =>
  bif decide (x16 < ((a0.Args.length : Nat) : Int)) then (
    (ixO a0.Args x16).bind fun x31 =>
    (dec_T_api_Expr x31).bind fun x32 =>
    (rc_d_law18_simplified x32 a0.Op).bind fun r33 =>
    bif (!r33) then (
      some (.inr (.inr false))
    ) else (
      (slO a0.Args none (some x16) none).bind fun x34 =>
      onInl (α := Unit) (β := (Int ⊕ (Unit ⊕ Bool))) (loopO (d_law18_simplified_1 x32 x34) 0) fun _ =>
      some (.inl (w64 (x16 + 1)))
    )
  ) else (
    some (.inr (.inl ()))
  )

noncomputable def d_law18_simplified_F (rc_d_law18_simplified : T_api_Expr → Int → Option Bool) (a0 : T_api_Expr) (a1 : Int) : Option Bool :=
  bif ((((decide (a0.Op = 1)) || (decide (a0.Op = 2))) && (!(decide (a1 = 0)))) || (decide (a0.Op = a1))) then (
    some false
  ) else (
    ((bif ((decide (a0.Op = 5)) || (decide (a0.Op = 6))) then (
      some (decide (((a0.Args.length : Nat) : Int) < 2))
    ) else some false) : Option Bool).bind fun b1 =>
    bif b1 then (
      some false
    ) else (
      onInl (α := Unit) (β := Bool) (loopO (d_law18_simplified_0 rc_d_law18_simplified a0) 0) fun _ =>
      some true
    )
  )
theorem d_law18_simplified_F_ok (rc_d_law18_simplified : T_api_Expr → Int → Option Bool) (hrc_d_law18_simplified : ∀ (a0 : T_api_Expr) (a1 : Int) (r : Bool), rc_d_law18_simplified a0 a1 = some r → PCall Go.Proofs.Tryd.prog GlS 24 [Enc.pv a0, Enc.pv a1] (Enc.pv r)) (a0 : T_api_Expr) (a1 : Int) (r : Bool) (h : d_law18_simplified_F rc_d_law18_simplified a0 a1 = some r) : PCall Go.Proofs.Tryd.prog GlS 24 [Enc.pv a0, Enc.pv a1] (Enc.pv r) := by
  unfold d_law18_simplified_F at h
  refine pcall_of_pwp Go.Proofs.Tryd.func24 (by rfl) rfl Go.Proofs.Tryd.ntmps24 (by rfl) rfl ?_
  refine pwp_seq (r_reg ?_)
  refine e_end (by kernel_rfl) ?_
  refine q_next (pwp_seq (r_reg ?_))
  refine p_run 4 (by kernel_rfl) ?_
  refine e_segb 4 17 ((decide (a0.Op = 1)) || (decide (a0.Op = 2))) (fun x hx => ?_) ?_
  · rcases b_or hx with ⟨hb, hx⟩ | ⟨hb, hx⟩
    · refine p_settle 13 hb (by kernel_rfl) (by kernel_rfl) ?_
      subst hx
      exact f_end (by kernel_rfl) (by kernel_rfl)
    refine p_settle 13 hb (by kernel_rfl) (by kernel_rfl) ?_
    subst hx
    exact f_end (by kernel_rfl) (by kernel_rfl)
  refine e_end (by kernel_rfl) ?_
  refine q_next (pwp_seq (pwp_seq (r_reg ?_)))
  refine p_run 2 (by kernel_rfl) ?_
  refine e_segb 3 22 (((decide (a0.Op = 1)) || (decide (a0.Op = 2))) && (!(decide (a1 = 0)))) (fun x hx => ?_) ?_
  · rcases b_and hx with ⟨hb, hx⟩ | ⟨hb, hx⟩
    · refine p_settle 19 hb (by kernel_rfl) (by kernel_rfl) ?_
      subst hx
      exact f_end (by kernel_rfl) (by kernel_rfl)
    refine p_settle 19 hb (by kernel_rfl) (by kernel_rfl) ?_
    subst hx
    exact f_end (by kernel_rfl) (by kernel_rfl)
  refine p_run 1 (by kernel_rfl) ?_
  refine e_segb 5 28 ((((decide (a0.Op = 1)) || (decide (a0.Op = 2))) && (!(decide (a1 = 0)))) || (decide (a0.Op = a1))) (fun x hx => ?_) ?_
  · rcases b_or hx with ⟨hb, hx⟩ | ⟨hb, hx⟩
    · refine p_settle 23 hb (by kernel_rfl) (by kernel_rfl) ?_
      subst hx
      exact f_end (by kernel_rfl) (by kernel_rfl)
    refine p_settle 23 hb (by kernel_rfl) (by kernel_rfl) ?_
    subst hx
    exact f_end (by kernel_rfl) (by kernel_rfl)
  refine e_nil (by kernel_rfl) ?_
  refine q_next ?_
  rcases o_cond h with ⟨hb, h⟩ | ⟨hb, h⟩
  · refine r_cond_t hb (by kernel_rfl) ?_
    refine pwp_seq (r_reg ?_)
    refine e_end (by kernel_rfl) ?_
    refine q_next (pwp_ret (q_seq_ret ?_))
    cases h
    exact q_ret (by kernel_rfl) (by kernel_rfl) (by kernel_rfl)
  refine r_cond_f hb (by kernel_rfl) ?_
  refine pwp_skip (q_next (pwp_seq (pwp_seq (r_reg ?_))))
  refine p_run 4 (by kernel_rfl) ?_
  refine e_segb 4 36 ((decide (a0.Op = 5)) || (decide (a0.Op = 6))) (fun x hx => ?_) ?_
  · rcases b_or hx with ⟨hb, hx⟩ | ⟨hb, hx⟩
    · refine p_settle 32 hb (by kernel_rfl) (by kernel_rfl) ?_
      subst hx
      exact f_end (by kernel_rfl) (by kernel_rfl)
    refine p_settle 32 hb (by kernel_rfl) (by kernel_rfl) ?_
    subst hx
    exact f_end (by kernel_rfl) (by kernel_rfl)
  obtain ⟨b1, h1, h⟩ := o_bind h
  refine p_run 1 (by kernel_rfl) ?_
  refine e_seg 5 42 (.bool b1) ?_ ?_
  · rcases o_cond h1 with ⟨hb, h1⟩ | ⟨hb, h1⟩
    · refine p_settle 37 hb (by kernel_rfl) (by kernel_rfl) ?_
      refine p_run 2 (by kernel_rfl) ?_
      refine p_len (L := (a0.Args : (List R_api_Expr))) (by kernel_rfl) ?_
      cases h1
      exact f_end (by kernel_rfl) (by kernel_rfl)
    refine p_settle 37 hb (by kernel_rfl) (by kernel_rfl) ?_
    cases h1
    exact f_end (by kernel_rfl) (by kernel_rfl)
  refine e_nil (by kernel_rfl) ?_
  refine q_next ?_
  rcases o_cond h with ⟨hb, h⟩ | ⟨hb, h⟩
  · refine r_cond_t hb (by kernel_rfl) ?_
    refine pwp_seq (r_reg ?_)
    refine e_end (by kernel_rfl) ?_
    refine q_next (pwp_ret (q_seq_ret ?_))
    cases h
    exact q_ret (by kernel_rfl) (by kernel_rfl) (by kernel_rfl)
  refine r_cond_f hb (by kernel_rfl) ?_
  refine pwp_skip (q_next (pwp_seq (pwp_seq (r_reg ?_))))
  refine p_run 2 (by kernel_rfl) ?_
  refine p_len (L := (a0.Args : (List R_api_Expr))) (by kernel_rfl) ?_
  refine e_end (by kernel_rfl) ?_
  refine q_next (pwp_block ?_)
  obtain ⟨o47, h47, h⟩ := o_inl h
  refine r_loop2 70 0 (fun x16 => ⟨[(2, .ref 2 0), (44, lstOf .frozen (a0.Args : (List R_api_Expr))), (45, .int .i64 ((a0.Args.length : Nat) : Int)), (46, .int .i64 x16)], [(2, .cells (cellsOf a0))], [], []⟩) (fun (_ : Unit) => ⟨[], [], [], []⟩) h47 (by kernel_rfl) (fun _ => by kernel_rfl) ?_ ?_
  · rintro x16 oh46 h46
    unfold d_law18_simplified_0 at h46
    refine pwp_seq (r_reg ?_)
    refine e_end (by kernel_rfl) ?_
    refine q_next (pwp_seq ?_)
    rcases o_cond h46 with ⟨hb, h46⟩ | ⟨hb, h46⟩
    · refine r_cond_t hb (by kernel_rfl) ?_
      refine pwp_skip (q_next (pwp_seq (pwp_block (pwp_seq (r_reg ?_)))))
      refine p_run 1 (by kernel_rfl) ?_
      obtain ⟨x31, h48, h46⟩ := o_bind h46
      obtain ⟨x32, h49, h46⟩ := o_bind h46
      rw [dec_T_api_Expr_eq h49] at h48
      refine p_ix h48 (by kernel_rfl) ?_
      refine e_end (by kernel_rfl) ?_
      refine q_next (pwp_seq (pwp_seq (r_reg ?_)))
      refine p_run 3 (by kernel_rfl) ?_
      obtain ⟨r33, h50, h46⟩ := o_bind h46
      refine p_call (hrc_d_law18_simplified _ _ r33 h50) (by kernel_rfl) (by kernel_rfl) ?_
      refine e_end (by kernel_rfl) ?_
      refine q_next ?_
      rcases o_cond h46 with ⟨hb, h46⟩ | ⟨hb, h46⟩
      · refine r_cond_t hb (by kernel_rfl) ?_
        refine pwp_seq (r_reg ?_)
        refine e_end (by kernel_rfl) ?_
        refine q_next (pwp_ret (q_seq_ret (q_block_ret (q_seq_ret ?_))))
        cases h46
        refine q_lout_ret fun he => ?_
        subst he
        have h51 := o_outr h
        refine q_block_ret (q_seq_ret ?_)
        cases h51
        exact q_ret (by kernel_rfl) (by kernel_rfl) (by kernel_rfl)
      refine r_cond_f hb (by kernel_rfl) ?_
      refine pwp_skip (q_next (pwp_seq (r_reg ?_)))
      refine p_run 3 (by kernel_rfl) ?_
      obtain ⟨x34, h52, h46⟩ := o_bind h46
      refine p_sl h52 .frozen (by kernel_rfl) (by kernel_rfl) (by kernel_rfl) ?_
      refine p_len (L := (x34 : (List R_api_Expr))) (by kernel_rfl) ?_
      refine e_end (by kernel_rfl) ?_
      refine q_next (pwp_block ?_)
      obtain ⟨o64, h64, h46⟩ := o_inl h46
      refine r_loop2 70 2 (fun x38 => ⟨[(2, .ref 2 0), (7, .ref 7 0), (44, lstOf .frozen (a0.Args : (List R_api_Expr))), (45, .int .i64 ((a0.Args.length : Nat) : Int)), (46, .int .i64 x16), (59, lstOf .frozen (x34 : (List R_api_Expr))), (60, .int .i64 ((x34.length : Nat) : Int)), (61, .int .i64 x38)], [(2, .cells (cellsOf a0)), (7, .cells (cellsOf x32))], [], []⟩) (fun (_ : Unit) => ⟨[(2, .ref 2 0), (44, lstOf .frozen (a0.Args : (List R_api_Expr))), (45, .int .i64 ((a0.Args.length : Nat) : Int)), (46, .int .i64 x16)], [(2, .cells (cellsOf a0))], [], []⟩) h64 (by kernel_rfl) (fun _ => by kernel_rfl) ?_ ?_
      · rintro x38 oh63 h63
        unfold d_law18_simplified_1 at h63
        refine pwp_seq (r_reg ?_)
        refine e_end (by kernel_rfl) ?_
        refine q_next (pwp_seq ?_)
        rcases o_cond h63 with ⟨hb, h63⟩ | ⟨hb, h63⟩
        · refine r_cond_t hb (by kernel_rfl) ?_
          refine pwp_skip (q_next (pwp_seq (pwp_block (pwp_seq (r_reg ?_)))))
          obtain ⟨x42, h65, h63⟩ := o_bind h63
          obtain ⟨x43, h66, h63⟩ := o_bind h63
          rw [dec_T_api_Expr_eq h66] at h65
          refine p_ix h65 (by kernel_rfl) ?_
          refine e_end (by kernel_rfl) ?_
          refine q_next (pwp_seq (r_reg ?_))
          refine p_run 2 (by kernel_rfl) ?_
          obtain ⟨r44, h67, h63⟩ := o_bind h63
          refine p_call (d_ref18_Same_ok _ _ r44 h67) (by kernel_rfl) (by kernel_rfl) ?_
          refine e_nil (by kernel_rfl) ?_
          refine q_next ?_
          rcases o_cond h63 with ⟨hb, h63⟩ | ⟨hb, h63⟩
          · refine r_cond_t hb (by kernel_rfl) ?_
            refine pwp_seq (r_reg ?_)
            refine e_end (by kernel_rfl) ?_
            refine q_next (pwp_ret (q_block_ret (q_seq_ret ?_)))
            cases h63
            refine q_lout_ret fun he => ?_
            subst he
            have h68 := o_outr h46
            refine q_block_ret (q_block_ret (q_seq_ret ?_))
            cases h68
            refine q_lout_ret fun he => ?_
            subst he
            have h69 := o_outr h
            refine q_block_ret (q_seq_ret ?_)
            cases h69
            exact q_ret (by kernel_rfl) (by kernel_rfl) (by kernel_rfl)
          refine r_cond_f hb (by kernel_rfl) ?_
          refine pwp_skip (q_block (q_next (r_reg ?_)))
          refine e_end (by kernel_rfl) ?_
          cases h63
          exact q_lback (by kernel_rfl)
        refine r_cond_f hb (by kernel_rfl) ?_
        refine pwp_exit (q_seq_exit ?_)
        cases h63
        exact q_lexit (by kernel_rfl) (by kernel_rfl)
      rintro _ s' rfl hs
      have h46 := o_outl h46
      refine q_block_hit (q_block ?_)
      refine q_next (pwp_wkr hs ?_)
      refine r_reg ?_
      refine e_end (by kernel_rfl) ?_
      cases h46
      exact q_lback (by kernel_rfl)
    refine r_cond_f hb (by kernel_rfl) ?_
    refine pwp_exit (q_seq_exit ?_)
    cases h46
    exact q_lexit (by kernel_rfl) (by kernel_rfl)
  rintro _ s' rfl hs
  have h := o_outl h
  refine q_block_hit ?_
  refine q_next (pwp_wkr hs ?_)
  refine pwp_seq (r_reg ?_)
  refine e_end (by kernel_rfl) ?_
  refine q_next (pwp_ret ?_)
  cases h
  exact q_ret (by kernel_rfl) (by kernel_rfl) (by kernel_rfl)
noncomputable def d_law18_simplified_N (n : Nat) : T_api_Expr → Int → Option Bool := Nat.rec (fun _ _ => none) (fun _ ih => d_law18_simplified_F ih) n
theorem d_law18_simplified_N_ok : ∀ (n : Nat) (a0 : T_api_Expr) (a1 : Int) (r : Bool), d_law18_simplified_N n a0 a1 = some r → PCall Go.Proofs.Tryd.prog GlS 24 [Enc.pv a0, Enc.pv a1] (Enc.pv r)
  | 0, _, _, _, h => by cases h
  | n + 1, a0, a1, r, h => d_law18_simplified_F_ok (d_law18_simplified_N n) (d_law18_simplified_N_ok n) a0 a1 r h
noncomputable def d_law18_simplified (a0 : T_api_Expr) (a1 : Int) : Option Bool := d_law18_simplified_F (d_law18_simplified_N recFuel) a0 a1
theorem d_law18_simplified_ok (a0 : T_api_Expr) (a1 : Int) (r : Bool) (h : d_law18_simplified a0 a1 = some r) : PCall Go.Proofs.Tryd.prog GlS 24 [Enc.pv a0, Enc.pv a1] (Enc.pv r) := d_law18_simplified_F_ok (d_law18_simplified_N recFuel) (d_law18_simplified_N_ok recFuel) a0 a1 r h

/-! signallinglaw18.ExprSimple -/
noncomputable def d_law18_ExprSimple (a0 : T_api_Expr) : Option Bool :=
  (d_law18_modest a0).bind fun r1 =>
  ((bif (!r1) then some true else (
    (d_ref18_Valid a0 1073741824).bind fun r3 =>
    some (!r3)
  )) : Option Bool).bind fun b2 =>
  bif b2 then (
    (d_law18_alive ).bind fun r4 =>
    some r4
  ) else (
    (d_expr_Simplify a0).bind fun r5 =>
    (d_law18_modest r5).bind fun r6 =>
    ((bif r6 then (
      (d_law18_simplified r5 0).bind fun r8 =>
      some r8
    ) else some false) : Option Bool).bind fun b7 =>
    ((bif b7 then (
      (d_law18_alive ).bind fun r10 =>
      some r10
    ) else some false) : Option Bool).bind fun b9 =>
    some b9
  )
theorem d_law18_ExprSimple_ok (a0 : T_api_Expr) (r : Bool) (h : d_law18_ExprSimple a0 = some r) : PCall Go.Proofs.Tryd.prog GlS 6 [Enc.pv a0] (Enc.pv r) := by
  unfold d_law18_ExprSimple at h
  refine pcall_of_pwp Go.Proofs.Tryd.func6 (by rfl) rfl Go.Proofs.Tryd.ntmps6 (by rfl) rfl ?_
  refine pwp_seq (r_reg ?_)
  refine e_end (by kernel_rfl) ?_
  refine q_next (pwp_seq (pwp_seq (r_reg ?_)))
  refine p_run 1 (by kernel_rfl) ?_
  obtain ⟨r1, h1, h⟩ := o_bind h
  refine p_call (d_law18_modest_ok _ r1 h1) (by kernel_rfl) (by kernel_rfl) ?_
  obtain ⟨b2, h2, h⟩ := o_bind h
  refine p_run 2 (by kernel_rfl) ?_
  refine e_seg 4 11 (.bool b2) ?_ ?_
  · rcases o_cond h2 with ⟨hb, h2⟩ | ⟨hb, h2⟩
    · refine p_settle 7 hb (by kernel_rfl) (by kernel_rfl) ?_
      cases h2
      exact f_end (by kernel_rfl) (by kernel_rfl)
    refine p_settle 7 hb (by kernel_rfl) (by kernel_rfl) ?_
    refine p_run 1 (by kernel_rfl) ?_
    obtain ⟨r3, h3, h2⟩ := o_bind h2
    refine p_call (d_ref18_Valid_ok _ _ r3 h3) (by kernel_rfl) (by kernel_rfl) ?_
    cases h2
    exact f_end (by kernel_rfl) (by kernel_rfl)
  refine e_nil (by kernel_rfl) ?_
  refine q_next ?_
  rcases o_cond h with ⟨hb, h⟩ | ⟨hb, h⟩
  · refine r_cond_t hb (by kernel_rfl) ?_
    refine pwp_seq (r_reg ?_)
    obtain ⟨r4, h4, h⟩ := o_bind h
    refine p_call (d_law18_alive_ok  r4 h4) (by kernel_rfl) (by kernel_rfl) ?_
    refine e_end (by kernel_rfl) ?_
    refine q_next (pwp_ret (q_seq_ret ?_))
    cases h
    exact q_ret (by kernel_rfl) (by kernel_rfl) (by kernel_rfl)
  refine r_cond_f hb (by kernel_rfl) ?_
  refine pwp_skip (q_next (pwp_seq (r_reg ?_)))
  refine p_run 1 (by kernel_rfl) ?_
  obtain ⟨r5, h5, h⟩ := o_bind h
  refine p_call (d_expr_Simplify_ok _ r5 h5) (by kernel_rfl) (by kernel_rfl) ?_
  refine e_end (by kernel_rfl) ?_
  refine q_next (pwp_seq (r_reg ?_))
  refine p_run 1 (by kernel_rfl) ?_
  obtain ⟨r6, h6, h⟩ := o_bind h
  refine p_call (d_law18_modest_ok _ r6 h6) (by kernel_rfl) (by kernel_rfl) ?_
  obtain ⟨b7, h7, h⟩ := o_bind h
  refine p_run 1 (by kernel_rfl) ?_
  refine e_seg 3 20 (.bool b7) ?_ ?_
  · rcases o_cond h7 with ⟨hb, h7⟩ | ⟨hb, h7⟩
    · refine p_settle 17 hb (by kernel_rfl) (by kernel_rfl) ?_
      refine p_run 1 (by kernel_rfl) ?_
      obtain ⟨r8, h8, h7⟩ := o_bind h7
      refine p_call (d_law18_simplified_ok _ _ r8 h8) (by kernel_rfl) (by kernel_rfl) ?_
      cases h7
      exact f_end (by kernel_rfl) (by kernel_rfl)
    refine p_settle 17 hb (by kernel_rfl) (by kernel_rfl) ?_
    cases h7
    exact f_end (by kernel_rfl) (by kernel_rfl)
  obtain ⟨b9, h9, h⟩ := o_bind h
  refine p_run 1 (by kernel_rfl) ?_
  refine e_seg 2 23 (.bool b9) ?_ ?_
  · rcases o_cond h9 with ⟨hb, h9⟩ | ⟨hb, h9⟩
    · refine p_settle 21 hb (by kernel_rfl) (by kernel_rfl) ?_
      obtain ⟨r10, h10, h9⟩ := o_bind h9
      refine p_call (d_law18_alive_ok  r10 h10) (by kernel_rfl) (by kernel_rfl) ?_
      cases h9
      exact f_end (by kernel_rfl) (by kernel_rfl)
    refine p_settle 21 hb (by kernel_rfl) (by kernel_rfl) ?_
    cases h9
    exact f_end (by kernel_rfl) (by kernel_rfl)
  refine e_end (by kernel_rfl) ?_
  refine q_next (pwp_ret ?_)
  cases h
  exact q_ret (by kernel_rfl) (by kernel_rfl) (by kernel_rfl)

end PM
