/-
  Plain functions for the program's functions, and the proofs that the program does them. Printed by den.py.
-/
import Derived.Test.YtoadiglkifiofaaDoorDen0
namespace PM
open Go Go.RowKit
attribute [local irreducible] pops pwp

noncomputable def d_rail_Need_0 (a0 : Int) (a1 : Int) (a2 : Int) : Int → Option (Int ⊕ (Unit ⊕ (Int × Bool))) := fun x2 =>
  bif decide (x2 < 10) then (
    (ixO tab_rail_passages x2).bind fun x4 =>
    bif (((decide (x4.kind_ = a0)) && (decide (x4.in_ = a1))) && (decide (x4.out_ = a2))) then (
      some (.inr (.inr (x4.need_, true)))
    ) else (
      some (.inl (w64 (x2 + 1)))
    )
  ) else (
    some (.inr (.inl ()))
  )

noncomputable def d_rail_Need (a0 : Int) (a1 : Int) (a2 : Int) : Option (Int × Bool) :=
  onInl (α := Unit) (β := (Int × Bool)) (loopO (d_rail_Need_0 a0 a1 a2) 0) fun _ =>
  some (0, false)
theorem d_rail_Need_ok (a0 : Int) (a1 : Int) (a2 : Int) (r : (Int × Bool)) (h : d_rail_Need a0 a1 a2 = some r) : PCall Go.Proofs.Tryd.prog GlS 79 [Enc.pv a0, Enc.pv a1, Enc.pv a2] (.tup [Enc.pv r.1, Enc.pv r.2]) := by
  unfold d_rail_Need at h
  refine pcall_of_pwp Go.Proofs.Tryd.func79 (by rfl) rfl Go.Proofs.Tryd.ntmps79 (by rfl) rfl ?_
  refine pwp_seq (r_reg ?_)
  refine e_end (by kernel_rfl) ?_
  refine q_next (pwp_seq (pwp_seq (r_reg ?_)))
  refine e_end (by kernel_rfl) ?_
  refine q_next (pwp_block ?_)
  obtain ⟨o6, h6, h⟩ := o_inl h
  refine r_loop2 33 0 (fun x2 => ⟨[(0, .int .i64 a0), (1, .int .i64 a1), (2, .int .i64 a2), (10, .agg (tab_rail_passages.flatMap cellsOf)), (11, .int .i64 x2)], [], [], []⟩) (fun (_ : Unit) => ⟨[], [], [], []⟩) h6 (by kernel_rfl) (fun _ => by kernel_rfl) ?_ ?_
  · rintro x2 oh5 h5
    unfold d_rail_Need_0 at h5
    refine pwp_seq (r_reg ?_)
    refine e_end (by kernel_rfl) ?_
    refine q_next (pwp_seq ?_)
    rcases o_cond h5 with ⟨hb, h5⟩ | ⟨hb, h5⟩
    · refine r_cond_t hb (by kernel_rfl) ?_
      refine pwp_skip (q_next (pwp_seq (pwp_block (pwp_seq (r_reg ?_)))))
      obtain ⟨x4, h7, h5⟩ := o_bind h5
      refine p_tix (tab := tab_rail_passages) h7 true 10 4 (by kernel_rfl) (by kernel_rfl) (by kernel_rfl) (by kernel_rfl) ?_
      refine e_end (by kernel_rfl) ?_
      refine q_next (pwp_seq (r_reg ?_))
      refine p_run 5 (by kernel_rfl) ?_
      refine e_segb 5 23 ((decide (x4.kind_ = a0)) && (decide (x4.in_ = a1))) (fun x hx => ?_) ?_
      · rcases b_and hx with ⟨hb, hx⟩ | ⟨hb, hx⟩
        · refine p_settle 18 hb (by kernel_rfl) (by kernel_rfl) ?_
          subst hx
          exact f_end (by kernel_rfl) (by kernel_rfl)
        refine p_settle 18 hb (by kernel_rfl) (by kernel_rfl) ?_
        subst hx
        exact f_end (by kernel_rfl) (by kernel_rfl)
      refine p_run 1 (by kernel_rfl) ?_
      refine e_segb 5 29 (((decide (x4.kind_ = a0)) && (decide (x4.in_ = a1))) && (decide (x4.out_ = a2))) (fun x hx => ?_) ?_
      · rcases b_and hx with ⟨hb, hx⟩ | ⟨hb, hx⟩
        · refine p_settle 24 hb (by kernel_rfl) (by kernel_rfl) ?_
          subst hx
          exact f_end (by kernel_rfl) (by kernel_rfl)
        refine p_settle 24 hb (by kernel_rfl) (by kernel_rfl) ?_
        subst hx
        exact f_end (by kernel_rfl) (by kernel_rfl)
      refine e_nil (by kernel_rfl) ?_
      refine q_next ?_
      rcases o_cond h5 with ⟨hb, h5⟩ | ⟨hb, h5⟩
      · refine r_cond_t hb (by kernel_rfl) ?_
        refine pwp_seq (r_reg ?_)
        refine e_end (by kernel_rfl) ?_
        refine q_next (pwp_ret (q_block_ret (q_seq_ret ?_)))
        cases h5
        refine q_lout_ret fun he => ?_
        subst he
        have h8 := o_outr h
        refine q_block_ret (q_seq_ret ?_)
        cases h8
        exact q_ret (by kernel_rfl) (by kernel_rfl) (by kernel_rfl)
      refine r_cond_f hb (by kernel_rfl) ?_
      refine pwp_skip (q_block (q_next (r_reg ?_)))
      refine e_end (by kernel_rfl) ?_
      cases h5
      exact q_lback (by kernel_rfl)
    refine r_cond_f hb (by kernel_rfl) ?_
    refine pwp_exit (q_seq_exit ?_)
    cases h5
    exact q_lexit (by kernel_rfl) (by kernel_rfl)
  rintro _ s' rfl hs
  have h := o_outl h
  refine q_block_hit ?_
  refine q_next (pwp_wkr hs ?_)
  refine pwp_seq (r_reg ?_)
  refine e_end (by kernel_rfl) ?_
  refine q_next (pwp_ret ?_)
  cases h
  exact q_ret (by kernel_rfl) (by kernel_rfl) (by kernel_rfl)

noncomputable def d_walk_possible (a0 : T_api_Layout) (a1 : T_api_Step) : Option (Int × Bool) :=
  (d_walk_exists a0 a1.El).bind fun r1 =>
  bif (!r1) then (
    some (0, false)
  ) else (
    (ixO a0.Elements a1.El).bind fun x2 =>
    (d_rail_Need x2.Kind a1.In a1.Out).bind fun r3 =>
    some (r3.1, r3.2)
  )
theorem d_walk_possible_ok (a0 : T_api_Layout) (a1 : T_api_Step) (r : (Int × Bool)) (h : d_walk_possible a0 a1 = some r) : PCall Go.Proofs.Tryd.prog GlS 52 [Enc.pv a0, Enc.pv a1] (.tup [Enc.pv r.1, Enc.pv r.2]) := by
  unfold d_walk_possible at h
  refine pcall_of_pwp Go.Proofs.Tryd.func52 (by rfl) rfl Go.Proofs.Tryd.ntmps52 (by rfl) rfl ?_
  refine pwp_seq (r_reg ?_)
  refine e_end (by kernel_rfl) ?_
  refine q_next (pwp_seq (pwp_seq (r_reg ?_)))
  refine p_run 3 (by kernel_rfl) ?_
  obtain ⟨r1, h1, h⟩ := o_bind h
  refine p_call (d_walk_exists_ok _ _ r1 h1) (by kernel_rfl) (by kernel_rfl) ?_
  refine e_end (by kernel_rfl) ?_
  refine q_next ?_
  rcases o_cond h with ⟨hb, h⟩ | ⟨hb, h⟩
  · refine r_cond_t hb (by kernel_rfl) ?_
    refine pwp_seq (r_reg ?_)
    refine e_end (by kernel_rfl) ?_
    refine q_next (pwp_ret (q_seq_ret ?_))
    cases h
    exact q_ret (by kernel_rfl) (by kernel_rfl) (by kernel_rfl)
  refine r_cond_f hb (by kernel_rfl) ?_
  refine pwp_skip (q_next (pwp_seq ?_))
  refine r_regd (by kernel_rfl) (by kernel_rfl) ?_
  refine p_run 4 (by kernel_rfl) ?_
  obtain ⟨x2, h2, h⟩ := o_bind h
  refine p_ix h2 (by kernel_rfl) ?_
  refine p_run 6 (by kernel_rfl) ?_
  obtain ⟨r3, h3, h⟩ := o_bind h
  refine p_call (d_rail_Need_ok _ _ _ r3 h3) (by kernel_rfl) (by kernel_rfl) ?_
  refine e_end (by kernel_rfl) ?_
  refine q_next (pwp_ret ?_)
  cases h
  exact q_ret (by kernel_rfl) (by kernel_rfl) (by kernel_rfl)

noncomputable def d_cmp_isNaN_int (a0 : Int) : Option Bool :=
  some (!(decide (a0 = a0)))
theorem d_cmp_isNaN_int_ok (a0 : Int) (r : Bool) (h : d_cmp_isNaN_int a0 = some r) : PCall Go.Proofs.Tryd.prog GlS 82 [Enc.pv a0] (Enc.pv r) := by
  unfold d_cmp_isNaN_int at h
  refine pcall_of_pwp Go.Proofs.Tryd.func82 (by rfl) rfl Go.Proofs.Tryd.ntmps82 (by rfl) rfl ?_
  refine pwp_seq (r_reg ?_)
  refine e_end (by kernel_rfl) ?_
  refine q_next (pwp_seq (r_reg ?_))
  refine e_end (by kernel_rfl) ?_
  refine q_next (pwp_ret ?_)
  cases h
  exact q_ret (by kernel_rfl) (by kernel_rfl) (by kernel_rfl)

noncomputable def d_cmp_Compare_int (a0 : Int) (a1 : Int) : Option Int :=
  (d_cmp_isNaN_int a0).bind fun r1 =>
  (d_cmp_isNaN_int a1).bind fun r2 =>
  bif r1 then (
    bif r2 then (
      some 0
    ) else (
      some (-1)
    )
  ) else (
    bif r2 then (
      some 1
    ) else (
      bif decide (a0 < a1) then (
        some (-1)
      ) else (
        bif decide (a1 < a0) then (
          some 1
        ) else (
          some 0
        )
      )
    )
  )
theorem d_cmp_Compare_int_ok (a0 : Int) (a1 : Int) (r : Int) (h : d_cmp_Compare_int a0 a1 = some r) : PCall Go.Proofs.Tryd.prog GlS 56 [Enc.pv a0, Enc.pv a1] (Enc.pv r) := by
  unfold d_cmp_Compare_int at h
  refine pcall_of_pwp Go.Proofs.Tryd.func56 (by rfl) rfl Go.Proofs.Tryd.ntmps56 (by rfl) rfl ?_
  refine pwp_seq (r_reg ?_)
  refine e_end (by kernel_rfl) ?_
  refine q_next (pwp_seq (r_reg ?_))
  refine p_run 1 (by kernel_rfl) ?_
  obtain ⟨r1, h1, h⟩ := o_bind h
  refine p_call (d_cmp_isNaN_int_ok _ r1 h1) (by kernel_rfl) (by kernel_rfl) ?_
  refine e_end (by kernel_rfl) ?_
  refine q_next (pwp_seq (r_reg ?_))
  refine p_run 1 (by kernel_rfl) ?_
  obtain ⟨r2, h2, h⟩ := o_bind h
  refine p_call (d_cmp_isNaN_int_ok _ r2 h2) (by kernel_rfl) (by kernel_rfl) ?_
  refine e_end (by kernel_rfl) ?_
  refine q_next (pwp_seq (pwp_seq (r_reg ?_)))
  refine e_end (by kernel_rfl) ?_
  refine q_next ?_
  rcases o_cond h with ⟨hb, h⟩ | ⟨hb, h⟩
  · refine r_cond_t hb (by kernel_rfl) ?_
    refine pwp_seq (pwp_seq (r_reg ?_))
    refine e_end (by kernel_rfl) ?_
    refine q_next ?_
    rcases o_cond h with ⟨hb, h⟩ | ⟨hb, h⟩
    · refine r_cond_t hb (by kernel_rfl) ?_
      refine pwp_seq (r_reg ?_)
      refine e_end (by kernel_rfl) ?_
      refine q_next (pwp_ret (q_seq_ret (q_seq_ret ?_)))
      cases h
      exact q_ret (by kernel_rfl) (by kernel_rfl) (by kernel_rfl)
    refine r_cond_f hb (by kernel_rfl) ?_
    refine pwp_skip (q_next (pwp_seq (r_reg ?_)))
    refine e_end (by kernel_rfl) ?_
    refine q_next (pwp_ret (q_seq_ret ?_))
    cases h
    exact q_ret (by kernel_rfl) (by kernel_rfl) (by kernel_rfl)
  refine r_cond_f hb (by kernel_rfl) ?_
  refine pwp_skip (q_next (pwp_seq (pwp_seq (r_reg ?_))))
  refine e_end (by kernel_rfl) ?_
  refine q_next ?_
  rcases o_cond h with ⟨hb, h⟩ | ⟨hb, h⟩
  · refine r_cond_t hb (by kernel_rfl) ?_
    refine pwp_seq (r_reg ?_)
    refine e_end (by kernel_rfl) ?_
    refine q_next (pwp_ret (q_seq_ret ?_))
    cases h
    exact q_ret (by kernel_rfl) (by kernel_rfl) (by kernel_rfl)
  refine r_cond_f hb (by kernel_rfl) ?_
  refine pwp_skip (q_next (pwp_seq (pwp_seq (r_reg ?_))))
  refine e_end (by kernel_rfl) ?_
  refine q_next ?_
  rcases o_cond h with ⟨hb, h⟩ | ⟨hb, h⟩
  · refine r_cond_t hb (by kernel_rfl) ?_
    refine pwp_seq (r_reg ?_)
    refine e_end (by kernel_rfl) ?_
    refine q_next (pwp_ret (q_seq_ret ?_))
    cases h
    exact q_ret (by kernel_rfl) (by kernel_rfl) (by kernel_rfl)
  refine r_cond_f hb (by kernel_rfl) ?_
  refine pwp_skip (q_next (pwp_seq (pwp_seq (r_reg ?_))))
  refine e_end (by kernel_rfl) ?_
  refine q_next ?_
  rcases o_cond h with ⟨hb, h⟩ | ⟨hb, h⟩
  · refine r_cond_t hb (by kernel_rfl) ?_
    refine pwp_seq (r_reg ?_)
    refine e_end (by kernel_rfl) ?_
    refine q_next (pwp_ret (q_seq_ret ?_))
    cases h
    exact q_ret (by kernel_rfl) (by kernel_rfl) (by kernel_rfl)
  refine r_cond_f hb (by kernel_rfl) ?_
  refine pwp_skip (q_next (pwp_seq (r_reg ?_)))
  refine e_end (by kernel_rfl) ?_
  refine q_next (pwp_ret ?_)
  cases h
  exact q_ret (by kernel_rfl) (by kernel_rfl) (by kernel_rfl)

theorem d_cmp_Compare_int_eq (a b : Int) : d_cmp_Compare_int a b = some (if a < b then -1 else if b < a then 1 else 0) := by
  unfold d_cmp_Compare_int d_cmp_isNaN_int
  by_cases h1 : a < b
  · simp [h1]
  · by_cases h2 : b < a <;> simp [h1, h2]

noncomputable def d_cmp_Or_int_0 (a0 : (List Int)) : Int → Option (Int ⊕ (Unit ⊕ Int)) := fun x2 =>
  bif decide (x2 < ((a0.length : Nat) : Int)) then (
    (ixO a0 x2).bind fun x4 =>
    bif (!(decide (x4 = 0))) then (
      some (.inr (.inr x4))
    ) else (
      some (.inl (w64 (x2 + 1)))
    )
  ) else (
    some (.inr (.inl ()))
  )

noncomputable def d_cmp_Or_int (a0 : (List Int)) : Option Int :=
  onInl (α := Unit) (β := Int) (loopO (d_cmp_Or_int_0 a0) 0) fun _ =>
  some 0
theorem d_cmp_Or_int_ok (a0 : (List Int)) (r : Int) (h : d_cmp_Or_int a0 = some r) : PCall Go.Proofs.Tryd.prog GlS 55 [Enc.pv a0] (Enc.pv r) := by
  unfold d_cmp_Or_int at h
  refine pcall_of_pwp Go.Proofs.Tryd.func55 (by rfl) rfl Go.Proofs.Tryd.ntmps55 (by rfl) rfl ?_
  refine pwp_seq (r_reg ?_)
  refine e_end (by kernel_rfl) ?_
  refine q_next (pwp_seq (r_reg ?_))
  refine e_end (by kernel_rfl) ?_
  refine q_next (pwp_seq (pwp_seq (r_reg ?_)))
  refine p_run 1 (by kernel_rfl) ?_
  refine p_len (L := (a0 : (List Int))) (by kernel_rfl) ?_
  refine e_end (by kernel_rfl) ?_
  refine q_next (pwp_block ?_)
  obtain ⟨o6, h6, h⟩ := o_inl h
  refine r_loop2 18 0 (fun x2 => ⟨[(3, .int .i64 0), (6, lstOf .frozen (a0 : (List Int))), (7, .int .i64 ((a0.length : Nat) : Int)), (8, .int .i64 x2)], [], [], []⟩) (fun (_ : Unit) => ⟨[(3, .int .i64 0)], [], [], []⟩) h6 (by kernel_rfl) (fun _ => by kernel_rfl) ?_ ?_
  · rintro x2 oh5 h5
    unfold d_cmp_Or_int_0 at h5
    refine pwp_seq (r_reg ?_)
    refine e_end (by kernel_rfl) ?_
    refine q_next (pwp_seq ?_)
    rcases o_cond h5 with ⟨hb, h5⟩ | ⟨hb, h5⟩
    · refine r_cond_t hb (by kernel_rfl) ?_
      refine pwp_skip (q_next (pwp_seq (pwp_block (pwp_seq (r_reg ?_)))))
      obtain ⟨x4, h7, h5⟩ := o_bind h5
      refine p_ix h7 (by kernel_rfl) ?_
      refine e_end (by kernel_rfl) ?_
      refine q_next (pwp_seq (r_reg ?_))
      refine e_end (by kernel_rfl) ?_
      refine q_next ?_
      rcases o_cond h5 with ⟨hb, h5⟩ | ⟨hb, h5⟩
      · refine r_cond_t hb (by kernel_rfl) ?_
        refine pwp_seq (r_reg ?_)
        refine e_end (by kernel_rfl) ?_
        refine q_next (pwp_ret (q_block_ret (q_seq_ret ?_)))
        cases h5
        refine q_lout_ret fun he => ?_
        subst he
        have h8 := o_outr h
        refine q_block_ret (q_seq_ret ?_)
        cases h8
        exact q_ret (by kernel_rfl) (by kernel_rfl) (by kernel_rfl)
      refine r_cond_f hb (by kernel_rfl) ?_
      refine pwp_skip (q_block (q_next (r_reg ?_)))
      refine e_end (by kernel_rfl) ?_
      cases h5
      exact q_lback (by kernel_rfl)
    refine r_cond_f hb (by kernel_rfl) ?_
    refine pwp_exit (q_seq_exit ?_)
    cases h5
    exact q_lexit (by kernel_rfl) (by kernel_rfl)
  rintro _ s' rfl hs
  have h := o_outl h
  refine q_block_hit ?_
  refine q_next (pwp_wkr hs ?_)
  refine pwp_seq (r_reg ?_)
  refine e_end (by kernel_rfl) ?_
  refine q_next (pwp_ret ?_)
  cases h
  exact q_ret (by kernel_rfl) (by kernel_rfl) (by kernel_rfl)

theorem d_cmp_Or_int_two (a b : Int) : d_cmp_Or_int [a, b] = some (if a = 0 then b else a) := by
  unfold d_cmp_Or_int
  by_cases h1 : a = 0
  · subst h1
    have e0 : d_cmp_Or_int_0 [0, b] 0 = some (.inl 1) := by simp [d_cmp_Or_int_0, ixO, w64, IntKind.wrap, IntKind.bits, IntKind.signed]
    rw [loop_more e0]
    by_cases h2 : b = 0
    · have e1 : d_cmp_Or_int_0 [0, b] 1 = some (.inl 2) := by simp [d_cmp_Or_int_0, ixO, w64, IntKind.wrap, IntKind.bits, IntKind.signed, h2]
      have e2 : d_cmp_Or_int_0 [0, b] 2 = some (.inr (.inl ())) := by simp [d_cmp_Or_int_0]
      rw [loop_more e1, loop_done e2]
      simp [onInl, onOut, h2]
    · have e1 : d_cmp_Or_int_0 [0, b] 1 = some (.inr (.inr b)) := by simp [d_cmp_Or_int_0, ixO, h2]
      rw [loop_done e1]
      simp [onInl, onOut]
  · have e0 : d_cmp_Or_int_0 [a, b] 0 = some (.inr (.inr a)) := by simp [d_cmp_Or_int_0, ixO, h1]
    rw [loop_done e0]
    simp [onInl, onOut, h1]

noncomputable def d_walk_Settings_1 (a0 : T_api_Setting) (a1 : T_api_Setting) : Option Int :=
  (d_cmp_Compare_int a0.El a1.El).bind fun r1 =>
  (d_cmp_Compare_int a0.Pos a1.Pos).bind fun r2 =>
  (d_cmp_Or_int [r1, r2]).bind fun r3 =>
  some r3
theorem d_walk_Settings_1_ok (a0 : T_api_Setting) (a1 : T_api_Setting) (r : Int) (h : d_walk_Settings_1 a0 a1 = some r) : PCall Go.Proofs.Tryd.prog GlS 54 [Enc.pv a0, Enc.pv a1] (Enc.pv r) := by
  unfold d_walk_Settings_1 at h
  refine pcall_of_pwp Go.Proofs.Tryd.func54 (by rfl) rfl Go.Proofs.Tryd.ntmps54 (by rfl) rfl ?_
  refine pwp_seq (r_reg ?_)
  refine e_end (by kernel_rfl) ?_
  refine q_next (pwp_seq ?_)
  refine r_regd (by kernel_rfl) (by kernel_rfl) ?_
  refine p_run 4 (by kernel_rfl) ?_
  obtain ⟨r1, h1, h⟩ := o_bind h
  refine p_call (d_cmp_Compare_int_ok _ _ r1 h1) (by kernel_rfl) (by kernel_rfl) ?_
  refine p_run 4 (by kernel_rfl) ?_
  obtain ⟨r2, h2, h⟩ := o_bind h
  refine p_call (d_cmp_Compare_int_ok _ _ r2 h2) (by kernel_rfl) (by kernel_rfl) ?_
  refine p_run 1 (by kernel_rfl) ?_
  obtain ⟨r3, h3, h⟩ := o_bind h
  refine p_call (d_cmp_Or_int_ok _ r3 h3) (by kernel_rfl) (by kernel_rfl) ?_
  refine e_end (by kernel_rfl) ?_
  refine q_next (pwp_ret ?_)
  cases h
  exact q_ret (by kernel_rfl) (by kernel_rfl) (by kernel_rfl)

def cf_d_walk_Settings_1 (x y : T_api_Setting) : Int := if x.El < y.El then -1 else if y.El < x.El then 1 else if x.Pos < y.Pos then -1 else if y.Pos < x.Pos then 1 else 0
theorem lt_d_walk_Settings_1 (x y : T_api_Setting) : Go.Proofs.ltOf cf_d_walk_Settings_1 x y = decide (x.El < y.El ∨ (x.El = y.El ∧ x.Pos < y.Pos)) := by
  unfold Go.Proofs.ltOf cf_d_walk_Settings_1
  by_cases h1 : x.El < y.El
  · simp [h1]
  · by_cases h2 : y.El < x.El
    · have : x.El ≠ y.El := by omega
      simp [h1, h2, this]
    · have e : x.El = y.El := by omega
      by_cases h3 : x.Pos < y.Pos
      · simp [e, h3]
      · by_cases h4 : y.Pos < x.Pos <;> simp [e, h3, h4]
theorem swo_d_walk_Settings_1 : Go.Sort.SWO (Go.Proofs.ltOf cf_d_walk_Settings_1) where
  irrefl x := by rw [lt_d_walk_Settings_1]; simp
  trans x y z h1 h2 := by rw [lt_d_walk_Settings_1] at *; simp only [decide_eq_true_eq] at *; omega
  ntrans x y z h1 h2 := by rw [lt_d_walk_Settings_1] at *; simp only [decide_eq_false_iff_not] at *; omega
theorem tot_d_walk_Settings_1 (x y : T_api_Setting) (h1 : Go.Proofs.ltOf cf_d_walk_Settings_1 x y = false) (h2 : Go.Proofs.ltOf cf_d_walk_Settings_1 y x = false) : x = y := by
  rw [lt_d_walk_Settings_1] at h1 h2
  simp only [decide_eq_false_iff_not] at h1 h2
  obtain ⟨a, b⟩ := x
  obtain ⟨c, d⟩ := y
  simp only at h1 h2
  have e1 : a = c := by omega
  have e2 : b = d := by omega
  rw [e1, e2]
theorem cf_d_walk_Settings_1_eq (x y : T_api_Setting) : d_walk_Settings_1 x y = some (cf_d_walk_Settings_1 x y) := by
  unfold d_walk_Settings_1
  rw [d_cmp_Compare_int_eq, d_cmp_Compare_int_eq]
  simp only [Option.bind_some, d_cmp_Or_int_two]
  unfold cf_d_walk_Settings_1
  by_cases h1 : x.El < y.El
  · simp [h1]
  · by_cases h2 : y.El < x.El
    · simp [h1, h2]
    · simp [h1, h2]

noncomputable def d_slices_SortFunc_api_Setting__walk_Settings_1 (a0 : (List T_api_Setting)) : Option (List T_api_Setting) := some (a0.mergeSort fun x y => !(Go.Proofs.ltOf cf_d_walk_Settings_1 y x))
theorem d_slices_SortFunc_api_Setting__walk_Settings_1_xc (a0 : (List T_api_Setting)) (r : (List T_api_Setting)) (h : d_slices_SortFunc_api_Setting__walk_Settings_1 a0 = some r) : XCall Go.Proofs.Tryd.prog GlS 53 2 16 (a0.map cellsOf) [.fn 54 []] none (r.map cellsOf) := by
  cases h
  exact xcall_sort (α := T_api_Setting) Go.Proofs.Tryd.sort53 Go.Proofs.Tryd.isAgg67 Go.Proofs.Tryd.sizeOf67 (fun _ => rfl) (fun _ => rfl) (fun _ => rfl) (by decide) cf_d_walk_Settings_1 swo_d_walk_Settings_1 tot_d_walk_Settings_1 54 (fun x y => d_walk_Settings_1_ok x y _ (cf_d_walk_Settings_1_eq x y)) ⟨_, Go.Proofs.Tryd.func53, rfl, rfl⟩ a0

noncomputable def d_slices_Compact_api_Setting_1 (a0 : (List T_api_Setting)) (p140 : Nat × Nat) : (Int × Int × (List T_api_Setting)) → Option ((Int × Int × (List T_api_Setting)) ⊕ (((List T_api_Setting) × Int) ⊕ (Int ⊕ (Unit ⊕ ((List T_api_Setting) × Nat))))) := fun (x159, x160, x161) =>
  bif decide (x160 < (((p140.2 - p140.1) : Nat) : Int)) then (
    onInl (α := ((List T_api_Setting) × Int)) (β := ((Int × Int × (List T_api_Setting)) ⊕ (((List T_api_Setting) × Int) ⊕ (Int ⊕ (Unit ⊕ ((List T_api_Setting) × Nat)))))) (
      (xixO (0 + p140.1) (p140.2 - p140.1) x160).bind fun j192 =>
      (xldO x161 (((a0 : (List T_api_Setting)).map cellsOf).length) j192).bind fun x193 =>
      (xixO (0 + p140.1) (p140.2 - p140.1) (w64 (x160 - 1))).bind fun j194 =>
      (xldO x161 (((a0 : (List T_api_Setting)).map cellsOf).length) j194).bind fun x195 =>
      bif (!(eq_T_api_Setting x193 x195)) then (
        (xixO (0 + p140.1) (p140.2 - p140.1) x160).bind fun j196 =>
        (xldO x161 (((a0 : (List T_api_Setting)).map cellsOf).length) j196).bind fun x197 =>
        (xixO 0 (((a0 : (List T_api_Setting)).map cellsOf).length) x159).bind fun j198 =>
        (xldO x161 (((a0 : (List T_api_Setting)).map cellsOf).length) j198).bind fun x199 =>
        some (.inl ((x161.set j198 x197), w64 (x159 + 1)))
      ) else (
        some (.inl (x161, x159))
      )
    ) fun (x190, x191) =>
    some (.inl (x191, w64 (x160 + 1), x190))
  ) else (
    some (.inr (.inl (x161, x159)))
  )

noncomputable def d_slices_Compact_api_Setting_0 (a0 : (List T_api_Setting)) : Int → Option (Int ⊕ (Unit ⊕ ((List T_api_Setting) × Nat))) := fun x68 =>
  bif decide (x68 < ((((a0 : (List T_api_Setting)).map cellsOf).length : Nat) : Int)) then (
    (xixO 0 (((a0 : (List T_api_Setting)).map cellsOf).length) x68).bind fun j136 =>
    (xldO a0 (((a0 : (List T_api_Setting)).map cellsOf).length) j136).bind fun x137 =>
    (xixO 0 (((a0 : (List T_api_Setting)).map cellsOf).length) (w64 (x68 - 1))).bind fun j138 =>
    (xldO a0 (((a0 : (List T_api_Setting)).map cellsOf).length) j138).bind fun x139 =>
    bif eq_T_api_Setting x137 x139 then (
      (xslO (((a0 : (List T_api_Setting)).map cellsOf).length) (some x68) none).bind fun p140 =>
      onInl (α := ((List T_api_Setting) × Int)) (β := (Int ⊕ (Unit ⊕ ((List T_api_Setting) × Nat)))) (loopO (d_slices_Compact_api_Setting_1 a0 p140) (x68, 1, a0)) fun (x180, x181) =>
      (xslO (((a0 : (List T_api_Setting)).map cellsOf).length) (some x181) none).bind fun p200 =>
      (xclrO x180 (((a0 : (List T_api_Setting)).map cellsOf).length) (0 + p200.1) (p200.2 - p200.1) ((T_api_Setting.mk 0 0) : T_api_Setting)).bind fun x201 =>
      (xslhO (((a0 : (List T_api_Setting)).map cellsOf).length) x181).bind fun m202 =>
      some (.inr (.inr (x201, m202)))
    ) else (
      some (.inl (w64 (x68 + 1)))
    )
  ) else (
    some (.inr (.inl ()))
  )

noncomputable def d_slices_Compact_api_Setting (a0 : (List T_api_Setting)) : Option ((List T_api_Setting) × Nat) :=
  bif decide (((((a0 : (List T_api_Setting)).map cellsOf).length : Nat) : Int) < 2) then (
    some (a0, ((a0 : (List T_api_Setting)).map cellsOf).length)
  ) else (
    onInl (α := Unit) (β := ((List T_api_Setting) × Nat)) (loopO (d_slices_Compact_api_Setting_0 a0) 1) fun _ =>
    some (a0, ((a0 : (List T_api_Setting)).map cellsOf).length)
  )
theorem d_slices_Compact_api_Setting_xc (a0 : (List T_api_Setting)) (r : ((List T_api_Setting) × Nat)) (h : d_slices_Compact_api_Setting a0 = some r) : XCall Go.Proofs.Tryd.prog GlS 57 2 16 (a0.map cellsOf) [] (some r.2) (r.1.map cellsOf) := by
  unfold d_slices_Compact_api_Setting at h
  refine xcall_of_pwp Go.Proofs.Tryd.func57 (by rfl) rfl Go.Proofs.Tryd.ntmps57 (by rfl) rfl ?_
  refine pwp_seq (r_reg ?_)
  refine e_end (by kernel_rfl) ?_
  refine q_next (pwp_seq (pwp_seq (r_reg ?_)))
  refine e_end (by kernel_rfl) ?_
  refine q_next ?_
  rcases o_cond h with ⟨hb, h⟩ | ⟨hb, h⟩
  · refine r_cond_t hb (by kernel_rfl) ?_
    refine pwp_seq (r_reg ?_)
    refine e_end (by kernel_rfl) ?_
    refine q_next (pwp_ret (q_seq_ret ?_))
    cases h
    exact q_xret (by kernel_rfl)
  refine r_cond_f hb (by kernel_rfl) ?_
  refine pwp_skip (q_next (pwp_seq (pwp_seq (r_reg ?_))))
  refine e_end (by kernel_rfl) ?_
  refine q_next (pwp_block ?_)
  obtain ⟨o126, h126, h⟩ := o_inl h
  refine r_loop2 61 0 (fun x68 => ⟨[(0, .ex 1000000000 2 16 (((a0 : (List T_api_Setting)).map cellsOf).length) 0 (((a0 : (List T_api_Setting)).map cellsOf).length)), (3, .int .i64 x68)], [], [(1000000000, (((a0 : (List T_api_Setting)).map cellsOf).length, 0))], [(1000000000, (2, (16, (a0 : (List T_api_Setting)).map cellsOf)))]⟩) (fun (_ : Unit) => ⟨[(0, .ex 1000000000 2 16 (((a0 : (List T_api_Setting)).map cellsOf).length) 0 (((a0 : (List T_api_Setting)).map cellsOf).length))], [], [(1000000000, (((a0 : (List T_api_Setting)).map cellsOf).length, 0))], [(1000000000, (2, (16, (a0 : (List T_api_Setting)).map cellsOf)))]⟩) h126 (by kernel_rfl) (fun _ => by kernel_rfl) ?_ ?_
  · rintro x68 oh125 h125
    unfold d_slices_Compact_api_Setting_0 at h125
    refine pwp_seq (pwp_seq (r_reg ?_))
    refine e_end (by kernel_rfl) ?_
    refine q_next ?_
    rcases o_cond h125 with ⟨hb, h125⟩ | ⟨hb, h125⟩
    · refine r_cond_t hb (by kernel_rfl) ?_
      refine pwp_skip (q_next (pwp_seq (pwp_block (pwp_seq ?_))))
      refine r_regd (by kernel_rfl) (by kernel_rfl) ?_
      refine p_run 2 (by kernel_rfl) ?_
      obtain ⟨j136, h127, h125⟩ := o_bind h125
      refine p_xix (tk := 1000000000) (k := 2) (N := ((a0 : (List T_api_Setting)).map cellsOf).length) h127 (by kernel_rfl) ?_
      obtain ⟨x137, h128, h125⟩ := o_bind h125
      refine p_xld (L := (a0 : (List T_api_Setting))) (N := ((a0 : (List T_api_Setting)).map cellsOf).length) (j := j136) (y := x137) (v := Enc.pv x137) h128 true 2 0 (by kernel_rfl) (by kernel_rfl) ?_
      refine p_run 3 (by kernel_rfl) ?_
      obtain ⟨j138, h129, h125⟩ := o_bind h125
      refine p_xix (tk := 1000000000) (k := 2) (N := ((a0 : (List T_api_Setting)).map cellsOf).length) h129 (by kernel_rfl) ?_
      obtain ⟨x139, h130, h125⟩ := o_bind h125
      refine p_xld (L := (a0 : (List T_api_Setting))) (N := ((a0 : (List T_api_Setting)).map cellsOf).length) (j := j138) (y := x139) (v := Enc.pv x139) h130 true 2 0 (by kernel_rfl) (by kernel_rfl) ?_
      refine e_end (by kernel_rfl) ?_
      refine q_next ?_
      rcases o_cond h125 with ⟨hb, h125⟩ | ⟨hb, h125⟩
      · refine r_cond_t hb (by kernel_rfl) ?_
        refine pwp_seq (r_reg ?_)
        refine p_run 2 (by kernel_rfl) ?_
        obtain ⟨p140, h131, h125⟩ := o_bind h125
        refine p_xsl (tk := 1000000000) (k := 2) (b := 16) (N := ((a0 : (List T_api_Setting)).map cellsOf).length) (o := 0) (lo := (some x68)) (hi := none) h131 (by kernel_rfl) ?_
        refine e_end (by kernel_rfl) ?_
        refine q_next (pwp_seq (pwp_seq (r_reg ?_)))
        refine e_end (by kernel_rfl) ?_
        refine q_next (pwp_block ?_)
        obtain ⟨o167, h167, h125⟩ := o_inl h125
        refine r_loop2 61 2 (fun (x159, x160, x161) => ⟨[(0, .ex 1000000000 2 16 (((a0 : (List T_api_Setting)).map cellsOf).length) 0 (((a0 : (List T_api_Setting)).map cellsOf).length)), (3, .int .i64 x159), (4, .ex 1000000000 2 16 (((a0 : (List T_api_Setting)).map cellsOf).length) (0 + p140.1) (p140.2 - p140.1)), (5, .int .i64 x160)], [], [(1000000000, (((a0 : (List T_api_Setting)).map cellsOf).length, 0))], [(1000000000, (2, (16, (x161 : (List T_api_Setting)).map cellsOf)))]⟩) (fun (x180, x181) => ⟨[(0, .ex 1000000000 2 16 (((a0 : (List T_api_Setting)).map cellsOf).length) 0 (((a0 : (List T_api_Setting)).map cellsOf).length)), (3, .int .i64 x181)], [], [(1000000000, (((a0 : (List T_api_Setting)).map cellsOf).length, 0))], [(1000000000, (2, (16, (x180 : (List T_api_Setting)).map cellsOf)))]⟩) h167 (by kernel_rfl) (fun _ => by kernel_rfl) ?_ ?_
        · rintro ⟨x159, x160, x161⟩ oh166 h166
          unfold d_slices_Compact_api_Setting_1 at h166
          refine pwp_seq (pwp_seq (r_reg ?_))
          refine e_end (by kernel_rfl) ?_
          refine q_next ?_
          rcases o_cond h166 with ⟨hb, h166⟩ | ⟨hb, h166⟩
          · refine r_cond_t hb (by kernel_rfl) ?_
            refine pwp_skip (q_next ?_)
            obtain ⟨o176, h176, h166⟩ := o_inl h166
            refine r_join (o := o176) 61 (fun (x190, x191) => ⟨[(0, .ex 1000000000 2 16 (((a0 : (List T_api_Setting)).map cellsOf).length) 0 (((a0 : (List T_api_Setting)).map cellsOf).length)), (3, .int .i64 x191), (4, .ex 1000000000 2 16 (((a0 : (List T_api_Setting)).map cellsOf).length) (0 + p140.1) (p140.2 - p140.1)), (5, .int .i64 x160)], [], [(1000000000, (((a0 : (List T_api_Setting)).map cellsOf).length, 0))], [(1000000000, (2, (16, (x190 : (List T_api_Setting)).map cellsOf)))]⟩) ?_ ?_
            · refine pwp_block (pwp_seq ?_)
              refine r_regd (by kernel_rfl) (by kernel_rfl) ?_
              refine p_run 2 (by kernel_rfl) ?_
              obtain ⟨j192, h177, h176⟩ := o_bind h176
              refine p_xix (tk := 1000000000) (k := 2) (N := ((a0 : (List T_api_Setting)).map cellsOf).length) h177 (by kernel_rfl) ?_
              obtain ⟨x193, h178, h176⟩ := o_bind h176
              refine p_xld (L := (x161 : (List T_api_Setting))) (N := ((a0 : (List T_api_Setting)).map cellsOf).length) (j := j192) (y := x193) (v := Enc.pv x193) h178 true 2 0 (by kernel_rfl) (by kernel_rfl) ?_
              refine p_run 3 (by kernel_rfl) ?_
              obtain ⟨j194, h179, h176⟩ := o_bind h176
              refine p_xix (tk := 1000000000) (k := 2) (N := ((a0 : (List T_api_Setting)).map cellsOf).length) h179 (by kernel_rfl) ?_
              obtain ⟨x195, h180, h176⟩ := o_bind h176
              refine p_xld (L := (x161 : (List T_api_Setting))) (N := ((a0 : (List T_api_Setting)).map cellsOf).length) (j := j194) (y := x195) (v := Enc.pv x195) h180 true 2 0 (by kernel_rfl) (by kernel_rfl) ?_
              refine e_end (by kernel_rfl) ?_
              refine q_next ?_
              rcases o_cond h176 with ⟨hb, h176⟩ | ⟨hb, h176⟩
              · refine r_cond_t hb (by kernel_rfl) ?_
                refine pwp_seq (r_reg ?_)
                refine p_run 4 (by kernel_rfl) ?_
                obtain ⟨j196, h181, h176⟩ := o_bind h176
                refine p_xix (tk := 1000000000) (k := 2) (N := ((a0 : (List T_api_Setting)).map cellsOf).length) h181 (by kernel_rfl) ?_
                obtain ⟨x197, h182, h176⟩ := o_bind h176
                refine p_xld (L := (x161 : (List T_api_Setting))) (N := ((a0 : (List T_api_Setting)).map cellsOf).length) (j := j196) (y := x197) (v := Enc.pv x197) h182 true 2 0 (by kernel_rfl) (by kernel_rfl) ?_
                obtain ⟨j198, h183, h176⟩ := o_bind h176
                refine p_xix (tk := 1000000000) (k := 2) (N := ((a0 : (List T_api_Setting)).map cellsOf).length) h183 (by kernel_rfl) ?_
                obtain ⟨x199, h184, h176⟩ := o_bind h176
                refine p_xst (L := (x161 : (List T_api_Setting))) (tk := 1000000000) (N := ((a0 : (List T_api_Setting)).map cellsOf).length) (j := j198) (y := x199) (y' := x197) h184 0 2 [.int .i64 x197.El, .int .i64 x197.Pos] (by kernel_rfl) (by kernel_rfl) ?_
                refine e_nil (by kernel_rfl) ?_
                refine q_next (r_reg ?_)
                refine e_end (by kernel_rfl) ?_
                refine q_block ?_
                cases h176
                exact q_join (by kernel_rfl) (by kernel_rfl)
              refine r_cond_f hb (by kernel_rfl) ?_
              refine pwp_skip (q_block ?_)
              cases h176
              exact q_join (by kernel_rfl) (by kernel_rfl)
            rintro ⟨x190, x191⟩ rfl
            have h166 := o_outl h166
            refine r_reg ?_
            refine e_end (by kernel_rfl) ?_
            cases h166
            exact q_lback (by kernel_rfl)
          refine r_cond_f hb (by kernel_rfl) ?_
          refine pwp_exit (q_seq_exit ?_)
          cases h166
          exact q_lexit (by kernel_rfl) (by kernel_rfl)
        rintro ⟨x180, x181⟩ s' rfl hs
        have h125 := o_outl h125
        refine q_block_hit ?_
        refine q_next (pwp_wkr hs ?_)
        refine pwp_seq (r_reg ?_)
        refine p_run 2 (by kernel_rfl) ?_
        obtain ⟨p200, h185, h125⟩ := o_bind h125
        refine p_xsl (tk := 1000000000) (k := 2) (b := 16) (N := ((a0 : (List T_api_Setting)).map cellsOf).length) (o := 0) (lo := (some x181)) (hi := none) h185 (by kernel_rfl) ?_
        obtain ⟨x201, h186, h125⟩ := o_bind h125
        refine p_xclr (L := (x180 : (List T_api_Setting))) (tk := 1000000000) (N := ((a0 : (List T_api_Setting)).map cellsOf).length) (z := ((T_api_Setting.mk 0 0) : T_api_Setting)) h186 (by kernel_rfl) (by kernel_rfl) (by kernel_rfl) rfl ?_
        refine e_nil (by kernel_rfl) ?_
        refine q_next (pwp_seq (r_reg ?_))
        refine p_run 2 (by kernel_rfl) ?_
        obtain ⟨m202, h187, h125⟩ := o_bind h125
        refine p_xslh (tk := 1000000000) (k := 2) (b := 16) (N := ((a0 : (List T_api_Setting)).map cellsOf).length) (o := 0) h187 (by kernel_rfl) ?_
        refine e_end (by kernel_rfl) ?_
        refine q_next (pwp_ret (q_block_ret (q_seq_ret ?_)))
        cases h125
        refine q_lout_ret fun he => ?_
        subst he
        have h188 := o_outr h
        refine q_block_ret (q_seq_ret ?_)
        cases h188
        exact q_xret (by kernel_rfl)
      refine r_cond_f hb (by kernel_rfl) ?_
      refine pwp_skip (q_block (q_next (r_reg ?_)))
      refine e_end (by kernel_rfl) ?_
      cases h125
      exact q_lback (by kernel_rfl)
    refine r_cond_f hb (by kernel_rfl) ?_
    refine pwp_exit (q_seq_exit ?_)
    cases h125
    exact q_lexit (by kernel_rfl) (by kernel_rfl)
  rintro _ s' rfl hs
  have h := o_outl h
  refine q_block_hit ?_
  refine q_next (pwp_wkr hs ?_)
  refine pwp_seq (r_reg ?_)
  refine e_end (by kernel_rfl) ?_
  refine q_next (pwp_ret ?_)
  cases h
  exact q_xret (by kernel_rfl)

noncomputable def d_overlap_Length (a0 : T_api_Layout) (a1 : T_api_Route) : Option Int :=
  (d_walk_Length a0 a1.Over).bind fun r1 =>
  some r1
theorem d_overlap_Length_ok (a0 : T_api_Layout) (a1 : T_api_Route) (r : Int) (h : d_overlap_Length a0 a1 = some r) : PCall Go.Proofs.Tryd.prog GlS 11 [Enc.pv a0, Enc.pv a1] (Enc.pv r) := by
  unfold d_overlap_Length at h
  refine pcall_of_pwp Go.Proofs.Tryd.func11 (by rfl) rfl Go.Proofs.Tryd.ntmps11 (by rfl) rfl ?_
  refine pwp_seq (r_reg ?_)
  refine e_end (by kernel_rfl) ?_
  refine q_next (pwp_seq (r_reg ?_))
  refine p_run 3 (by kernel_rfl) ?_
  obtain ⟨r1, h1, h⟩ := o_bind h
  refine p_call (d_walk_Length_ok _ _ r1 h1) (by kernel_rfl) (by kernel_rfl) ?_
  refine e_end (by kernel_rfl) ?_
  refine q_next (pwp_ret ?_)
  cases h
  exact q_ret (by kernel_rfl) (by kernel_rfl) (by kernel_rfl)

noncomputable def d_overlap_Whole (a0 : T_api_Layout) (a1 : T_api_Route) : Option Bool :=
  (d_overlap_exitSignal a0 a1).bind fun r1 =>
  ((bif (!r1.2) then some true else (
    (d_overlap_Length a0 a1).bind fun r3 =>
    some (decide (r1.1.Overlap ≤ r3))
  )) : Option Bool).bind fun b2 =>
  some b2
theorem d_overlap_Whole_ok (a0 : T_api_Layout) (a1 : T_api_Route) (r : Bool) (h : d_overlap_Whole a0 a1 = some r) : PCall Go.Proofs.Tryd.prog GlS 9 [Enc.pv a0, Enc.pv a1] (Enc.pv r) := by
  unfold d_overlap_Whole at h
  refine pcall_of_pwp Go.Proofs.Tryd.func9 (by rfl) rfl Go.Proofs.Tryd.ntmps9 (by rfl) rfl ?_
  refine pwp_seq (r_reg ?_)
  refine e_end (by kernel_rfl) ?_
  refine q_next (pwp_seq (r_reg ?_))
  refine p_run 2 (by kernel_rfl) ?_
  obtain ⟨r1, h1, h⟩ := o_bind h
  refine p_call (d_overlap_exitSignal_ok _ _ r1 h1) (by kernel_rfl) (by kernel_rfl) ?_
  refine e_end (by kernel_rfl) ?_
  refine q_next (pwp_seq ?_)
  refine r_regd (by kernel_rfl) (by kernel_rfl) ?_
  obtain ⟨b2, h2, h⟩ := o_bind h
  refine p_run 3 (by kernel_rfl) ?_
  refine e_seg 7 22 (.bool b2) ?_ ?_
  · rcases o_cond h2 with ⟨hb, h2⟩ | ⟨hb, h2⟩
    · refine p_settle 15 hb (by kernel_rfl) (by kernel_rfl) ?_
      cases h2
      exact f_end (by kernel_rfl) (by kernel_rfl)
    refine p_settle 15 hb (by kernel_rfl) (by kernel_rfl) ?_
    refine p_run 2 (by kernel_rfl) ?_
    obtain ⟨r3, h3, h2⟩ := o_bind h2
    refine p_call (d_overlap_Length_ok _ _ r3 h3) (by kernel_rfl) (by kernel_rfl) ?_
    cases h2
    exact f_end (by kernel_rfl) (by kernel_rfl)
  refine e_end (by kernel_rfl) ?_
  refine q_next (pwp_ret ?_)
  cases h
  exact q_ret (by kernel_rfl) (by kernel_rfl) (by kernel_rfl)

noncomputable def d_ref09_SameInts_0 (a0 : (List Int)) (a1 : (List Int)) : Int → Option (Int ⊕ (Unit ⊕ Bool)) := fun x3 =>
  bif decide (x3 < ((a0.length : Nat) : Int)) then (
    (ixO a0 x3).bind fun x6 =>
    (ixO a1 x3).bind fun x7 =>
    bif (!(decide (x6 = x7))) then (
      some (.inr (.inr false))
    ) else (
      some (.inl (w64 (x3 + 1)))
    )
  ) else (
    some (.inr (.inl ()))
  )

noncomputable def d_ref09_SameInts (a0 : (List Int)) (a1 : (List Int)) : Option Bool :=
  bif (!(decide (((a0.length : Nat) : Int) = ((a1.length : Nat) : Int)))) then (
    some false
  ) else (
    onInl (α := Unit) (β := Bool) (loopO (d_ref09_SameInts_0 a0 a1) 0) fun _ =>
    some true
  )
theorem d_ref09_SameInts_ok (a0 : (List Int)) (a1 : (List Int)) (r : Bool) (h : d_ref09_SameInts a0 a1 = some r) : PCall Go.Proofs.Tryd.prog GlS 38 [Enc.pv a0, Enc.pv a1] (Enc.pv r) := by
  unfold d_ref09_SameInts at h
  refine pcall_of_pwp Go.Proofs.Tryd.func38 (by rfl) rfl Go.Proofs.Tryd.ntmps38 (by rfl) rfl ?_
  refine pwp_seq (r_reg ?_)
  refine e_end (by kernel_rfl) ?_
  refine q_next (pwp_seq (pwp_seq (r_reg ?_)))
  refine p_run 1 (by kernel_rfl) ?_
  refine p_len (L := (a0 : (List Int))) (by kernel_rfl) ?_
  refine p_run 1 (by kernel_rfl) ?_
  refine p_len (L := (a1 : (List Int))) (by kernel_rfl) ?_
  refine e_end (by kernel_rfl) ?_
  refine q_next ?_
  rcases o_cond h with ⟨hb, h⟩ | ⟨hb, h⟩
  · refine r_cond_t hb (by kernel_rfl) ?_
    refine pwp_seq (r_reg ?_)
    refine e_end (by kernel_rfl) ?_
    refine q_next (pwp_ret (q_seq_ret ?_))
    cases h
    exact q_ret (by kernel_rfl) (by kernel_rfl) (by kernel_rfl)
  refine r_cond_f hb (by kernel_rfl) ?_
  refine pwp_skip (q_next (pwp_seq (pwp_seq (r_reg ?_))))
  refine e_end (by kernel_rfl) ?_
  refine q_next (pwp_block ?_)
  obtain ⟨o8, h8, h⟩ := o_inl h
  refine r_loop2 26 0 (fun x3 => ⟨[(0, lstOf .frozen (a0 : (List Int))), (1, lstOf .frozen (a1 : (List Int))), (5, .int .i64 x3)], [], [], []⟩) (fun (_ : Unit) => ⟨[], [], [], []⟩) h8 (by kernel_rfl) (fun _ => by kernel_rfl) ?_ ?_
  · rintro x3 oh7 h7
    unfold d_ref09_SameInts_0 at h7
    refine pwp_seq (pwp_seq (r_reg ?_))
    refine p_run 2 (by kernel_rfl) ?_
    refine p_len (L := (a0 : (List Int))) (by kernel_rfl) ?_
    refine e_end (by kernel_rfl) ?_
    refine q_next ?_
    rcases o_cond h7 with ⟨hb, h7⟩ | ⟨hb, h7⟩
    · refine r_cond_t hb (by kernel_rfl) ?_
      refine pwp_skip (q_next (pwp_seq (pwp_block (pwp_seq ?_))))
      refine r_regd (by kernel_rfl) (by kernel_rfl) ?_
      refine p_run 2 (by kernel_rfl) ?_
      obtain ⟨x6, h9, h7⟩ := o_bind h7
      refine p_ix h9 (by kernel_rfl) ?_
      refine p_run 3 (by kernel_rfl) ?_
      obtain ⟨x7, h10, h7⟩ := o_bind h7
      refine p_ix h10 (by kernel_rfl) ?_
      refine e_end (by kernel_rfl) ?_
      refine q_next ?_
      rcases o_cond h7 with ⟨hb, h7⟩ | ⟨hb, h7⟩
      · refine r_cond_t hb (by kernel_rfl) ?_
        refine pwp_seq (r_reg ?_)
        refine e_end (by kernel_rfl) ?_
        refine q_next (pwp_ret (q_block_ret (q_seq_ret ?_)))
        cases h7
        refine q_lout_ret fun he => ?_
        subst he
        have h11 := o_outr h
        refine q_block_ret (q_seq_ret ?_)
        cases h11
        exact q_ret (by kernel_rfl) (by kernel_rfl) (by kernel_rfl)
      refine r_cond_f hb (by kernel_rfl) ?_
      refine pwp_skip (q_block (q_next (r_reg ?_)))
      refine e_end (by kernel_rfl) ?_
      cases h7
      exact q_lback (by kernel_rfl)
    refine r_cond_f hb (by kernel_rfl) ?_
    refine pwp_exit (q_seq_exit ?_)
    cases h7
    exact q_lexit (by kernel_rfl) (by kernel_rfl)
  rintro _ s' rfl hs
  have h := o_outl h
  refine q_block_hit ?_
  refine q_next (pwp_wkr hs ?_)
  refine pwp_seq (r_reg ?_)
  refine e_end (by kernel_rfl) ?_
  refine q_next (pwp_ret ?_)
  cases h
  exact q_ret (by kernel_rfl) (by kernel_rfl) (by kernel_rfl)

noncomputable def d_ref12_SameInts (a0 : (List Int)) (a1 : (List Int)) : Option Bool :=
  (d_ref09_SameInts a0 a1).bind fun r1 =>
  some r1
theorem d_ref12_SameInts_ok (a0 : (List Int)) (a1 : (List Int)) (r : Bool) (h : d_ref12_SameInts a0 a1 = some r) : PCall Go.Proofs.Tryd.prog GlS 19 [Enc.pv a0, Enc.pv a1] (Enc.pv r) := by
  unfold d_ref12_SameInts at h
  refine pcall_of_pwp Go.Proofs.Tryd.func19 (by rfl) rfl Go.Proofs.Tryd.ntmps19 (by rfl) rfl ?_
  refine pwp_seq (r_reg ?_)
  refine e_end (by kernel_rfl) ?_
  refine q_next (pwp_seq (r_reg ?_))
  refine p_run 2 (by kernel_rfl) ?_
  obtain ⟨r1, h1, h⟩ := o_bind h
  refine p_call (d_ref09_SameInts_ok _ _ r1 h1) (by kernel_rfl) (by kernel_rfl) ?_
  refine e_end (by kernel_rfl) ?_
  refine q_next (pwp_ret ?_)
  cases h
  exact q_ret (by kernel_rfl) (by kernel_rfl) (by kernel_rfl)

end PM
