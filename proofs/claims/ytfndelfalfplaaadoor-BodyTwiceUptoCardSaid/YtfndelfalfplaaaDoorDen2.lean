/-
  Plain functions for the program's functions, and the proofs that the program does them. Printed by den.py.
-/
import Derived.Test.YtfndelfalfplaaaDoorDen1
namespace PM
open Go Go.RowKit
attribute [local irreducible] pops pwp

/-! signallingref06.Need -/
noncomputable def d_ref06_Need (a0 : Int) (a1 : Int) (a2 : Int) : Option (Int × Bool) :=
  bif ((decide (a0 = 1)) || (decide (a0 = 3))) then (
    some (0, (((decide ((min a1 a2) = 0)) && (decide ((max a1 a2) = 1))) || (((decide (a0 = 3)) && (decide ((min a1 a2) = 2))) && (decide ((max a1 a2) = 3)))))
  ) else (
    bif (((decide (a0 = 2)) && (decide ((min a1 a2) = 0))) && (decide ((max a1 a2) = 1))) then (
      some (1, true)
    ) else (
      bif (((decide (a0 = 2)) && (decide ((min a1 a2) = 0))) && (decide ((max a1 a2) = 2))) then (
        some (2, true)
      ) else (
        some (0, false)
      )
    )
  )
theorem d_ref06_Need_ok (a0 : Int) (a1 : Int) (a2 : Int) (r : (Int × Bool)) (h : d_ref06_Need a0 a1 a2 = some r) : PCall Go.Proofs.Tryd.prog GlS 72 [Enc.pv a0, Enc.pv a1, Enc.pv a2] (.tup [Enc.pv r.1, Enc.pv r.2]) := by
  unfold d_ref06_Need at h
  refine pcall_of_pwp Go.Proofs.Tryd.func72 (by rfl) rfl Go.Proofs.Tryd.ntmps72 (by rfl) rfl ?_
  refine pwp_seq ?_
  refine r_reg ?_
  refine e_end (by kernel_rfl) ?_
  refine q_next ?_
  refine pwp_seq ?_
  refine r_reg ?_
  refine e_end (by kernel_rfl) ?_
  refine q_next ?_
  refine pwp_seq ?_
  refine r_reg ?_
  refine e_end (by kernel_rfl) ?_
  refine q_next ?_
  refine pwp_seq ?_
  refine pwp_seq ?_
  refine r_reg ?_
  refine p_run 3 (by kernel_rfl) ?_
  refine e_segb 3 21 ((decide (a0 = 1)) || (decide (a0 = 3))) (fun x hx => ?_) ?_
  · rcases b_or hx with ⟨hb, hx⟩ | ⟨hb, hx⟩
    · refine p_settle 18 hb (by kernel_rfl) (by kernel_rfl) ?_
      subst hx
      exact f_end (by kernel_rfl) (by kernel_rfl)
    · refine p_settle 18 hb (by kernel_rfl) (by kernel_rfl) ?_
      subst hx
      exact f_end (by kernel_rfl) (by kernel_rfl)
  · refine e_nil (by kernel_rfl) ?_
    refine q_next ?_
    rcases o_cond h with ⟨hb, h⟩ | ⟨hb, h⟩
    · refine r_cond_t hb (by kernel_rfl) ?_
      refine pwp_seq ?_
      refine r_reg ?_
      refine p_run 3 (by kernel_rfl) ?_
      refine e_segb 3 27 ((decide ((min a1 a2) = 0)) && (decide ((max a1 a2) = 1))) (fun x hx => ?_) ?_
      · rcases b_and hx with ⟨hb, hx⟩ | ⟨hb, hx⟩
        · refine p_settle 24 hb (by kernel_rfl) (by kernel_rfl) ?_
          subst hx
          exact f_end (by kernel_rfl) (by kernel_rfl)
        · refine p_settle 24 hb (by kernel_rfl) (by kernel_rfl) ?_
          subst hx
          exact f_end (by kernel_rfl) (by kernel_rfl)
      · refine p_run 1 (by kernel_rfl) ?_
        refine e_segb 11 39 (((decide ((min a1 a2) = 0)) && (decide ((max a1 a2) = 1))) || (((decide (a0 = 3)) && (decide ((min a1 a2) = 2))) && (decide ((max a1 a2) = 3)))) (fun x hx => ?_) ?_
        · rcases b_or hx with ⟨hb, hx⟩ | ⟨hb, hx⟩
          · refine p_settle 28 hb (by kernel_rfl) (by kernel_rfl) ?_
            subst hx
            exact f_end (by kernel_rfl) (by kernel_rfl)
          · refine p_settle 28 hb (by kernel_rfl) (by kernel_rfl) ?_
            refine p_run 3 (by kernel_rfl) ?_
            refine f_segb 3 34 ((decide (a0 = 3)) && (decide ((min a1 a2) = 2))) (fun x hx => ?_) ?_
            · rcases b_and hx with ⟨hb, hx⟩ | ⟨hb, hx⟩
              · refine p_settle 31 hb (by kernel_rfl) (by kernel_rfl) ?_
                subst hx
                exact f_end (by kernel_rfl) (by kernel_rfl)
              · refine p_settle 31 hb (by kernel_rfl) (by kernel_rfl) ?_
                subst hx
                exact f_end (by kernel_rfl) (by kernel_rfl)
            · refine p_run 1 (by kernel_rfl) ?_
              refine f_segb 3 38 (((decide (a0 = 3)) && (decide ((min a1 a2) = 2))) && (decide ((max a1 a2) = 3))) (fun x hx => ?_) ?_
              · rcases b_and hx with ⟨hb, hx⟩ | ⟨hb, hx⟩
                · refine p_settle 35 hb (by kernel_rfl) (by kernel_rfl) ?_
                  subst hx
                  exact f_end (by kernel_rfl) (by kernel_rfl)
                · refine p_settle 35 hb (by kernel_rfl) (by kernel_rfl) ?_
                  subst hx
                  exact f_end (by kernel_rfl) (by kernel_rfl)
              · subst hx
                exact f_end (by kernel_rfl) (by kernel_rfl)
        · refine e_end (by kernel_rfl) ?_
          refine q_next ?_
          refine pwp_ret ?_
          refine q_seq_ret ?_
          cases h
          exact q_ret (by kernel_rfl) (by kernel_rfl) (by kernel_rfl)
    · refine r_cond_f hb (by kernel_rfl) ?_
      refine pwp_skip ?_
      refine q_next ?_
      refine pwp_seq ?_
      refine pwp_seq ?_
      refine r_reg ?_
      refine p_run 3 (by kernel_rfl) ?_
      refine e_segb 3 45 ((decide (a0 = 2)) && (decide ((min a1 a2) = 0))) (fun x hx => ?_) ?_
      · rcases b_and hx with ⟨hb, hx⟩ | ⟨hb, hx⟩
        · refine p_settle 42 hb (by kernel_rfl) (by kernel_rfl) ?_
          subst hx
          exact f_end (by kernel_rfl) (by kernel_rfl)
        · refine p_settle 42 hb (by kernel_rfl) (by kernel_rfl) ?_
          subst hx
          exact f_end (by kernel_rfl) (by kernel_rfl)
      · refine p_run 1 (by kernel_rfl) ?_
        refine e_segb 3 49 (((decide (a0 = 2)) && (decide ((min a1 a2) = 0))) && (decide ((max a1 a2) = 1))) (fun x hx => ?_) ?_
        · rcases b_and hx with ⟨hb, hx⟩ | ⟨hb, hx⟩
          · refine p_settle 46 hb (by kernel_rfl) (by kernel_rfl) ?_
            subst hx
            exact f_end (by kernel_rfl) (by kernel_rfl)
          · refine p_settle 46 hb (by kernel_rfl) (by kernel_rfl) ?_
            subst hx
            exact f_end (by kernel_rfl) (by kernel_rfl)
        · refine e_nil (by kernel_rfl) ?_
          refine q_next ?_
          rcases o_cond h with ⟨hb, h⟩ | ⟨hb, h⟩
          · refine r_cond_t hb (by kernel_rfl) ?_
            refine pwp_seq ?_
            refine r_reg ?_
            refine e_end (by kernel_rfl) ?_
            refine q_next ?_
            refine pwp_ret ?_
            refine q_seq_ret ?_
            cases h
            exact q_ret (by kernel_rfl) (by kernel_rfl) (by kernel_rfl)
          · refine r_cond_f hb (by kernel_rfl) ?_
            refine pwp_skip ?_
            refine q_next ?_
            refine pwp_seq ?_
            refine pwp_seq ?_
            refine r_reg ?_
            refine p_run 3 (by kernel_rfl) ?_
            refine e_segb 3 55 ((decide (a0 = 2)) && (decide ((min a1 a2) = 0))) (fun x hx => ?_) ?_
            · rcases b_and hx with ⟨hb, hx⟩ | ⟨hb, hx⟩
              · refine p_settle 52 hb (by kernel_rfl) (by kernel_rfl) ?_
                subst hx
                exact f_end (by kernel_rfl) (by kernel_rfl)
              · refine p_settle 52 hb (by kernel_rfl) (by kernel_rfl) ?_
                subst hx
                exact f_end (by kernel_rfl) (by kernel_rfl)
            · refine p_run 1 (by kernel_rfl) ?_
              refine e_segb 3 59 (((decide (a0 = 2)) && (decide ((min a1 a2) = 0))) && (decide ((max a1 a2) = 2))) (fun x hx => ?_) ?_
              · rcases b_and hx with ⟨hb, hx⟩ | ⟨hb, hx⟩
                · refine p_settle 56 hb (by kernel_rfl) (by kernel_rfl) ?_
                  subst hx
                  exact f_end (by kernel_rfl) (by kernel_rfl)
                · refine p_settle 56 hb (by kernel_rfl) (by kernel_rfl) ?_
                  subst hx
                  exact f_end (by kernel_rfl) (by kernel_rfl)
              · refine e_nil (by kernel_rfl) ?_
                refine q_next ?_
                rcases o_cond h with ⟨hb, h⟩ | ⟨hb, h⟩
                · refine r_cond_t hb (by kernel_rfl) ?_
                  refine pwp_seq ?_
                  refine r_reg ?_
                  refine e_end (by kernel_rfl) ?_
                  refine q_next ?_
                  refine pwp_ret ?_
                  refine q_seq_ret ?_
                  cases h
                  exact q_ret (by kernel_rfl) (by kernel_rfl) (by kernel_rfl)
                · refine r_cond_f hb (by kernel_rfl) ?_
                  refine pwp_skip ?_
                  refine q_next ?_
                  refine pwp_seq ?_
                  refine r_reg ?_
                  refine e_end (by kernel_rfl) ?_
                  refine q_next ?_
                  refine pwp_ret ?_
                  cases h
                  exact q_ret (by kernel_rfl) (by kernel_rfl) (by kernel_rfl)

/-! signallingref09.need -/
noncomputable def d_ref09_need (a0 : T_api_Layout) (a1 : T_api_Step) : Option (Int × Bool) :=
  (d_ref09_exists a0 a1.El).bind fun r1 =>
  bif (!r1) then (
    some (0, false)
  ) else (
    (ixO a0.Elements a1.El).bind fun x2 =>
    (d_ref06_Need x2.Kind a1.In a1.Out).bind fun r3 =>
    some (r3.1, r3.2)
  )
theorem d_ref09_need_ok (a0 : T_api_Layout) (a1 : T_api_Step) (r : (Int × Bool)) (h : d_ref09_need a0 a1 = some r) : PCall Go.Proofs.Tryd.prog GlS 48 [Enc.pv a0, Enc.pv a1] (.tup [Enc.pv r.1, Enc.pv r.2]) := by
  unfold d_ref09_need at h
  refine pcall_of_pwp Go.Proofs.Tryd.func48 (by rfl) rfl Go.Proofs.Tryd.ntmps48 (by rfl) rfl ?_
  refine pwp_seq ?_
  refine r_reg ?_
  refine e_end (by kernel_rfl) ?_
  refine q_next ?_
  refine pwp_seq ?_
  refine pwp_seq ?_
  refine r_reg ?_
  refine p_run 3 (by kernel_rfl) ?_
  obtain ⟨r1, h1, h⟩ := o_bind h
  refine p_call (d_ref09_exists_ok _ _ r1 h1) (by kernel_rfl) (by kernel_rfl) ?_
  refine e_end (by kernel_rfl) ?_
  refine q_next ?_
  rcases o_cond h with ⟨hb, h⟩ | ⟨hb, h⟩
  · refine r_cond_t hb (by kernel_rfl) ?_
    refine pwp_seq ?_
    refine r_reg ?_
    refine e_end (by kernel_rfl) ?_
    refine q_next ?_
    refine pwp_ret ?_
    refine q_seq_ret ?_
    cases h
    exact q_ret (by kernel_rfl) (by kernel_rfl) (by kernel_rfl)
  · refine r_cond_f hb (by kernel_rfl) ?_
    refine pwp_skip ?_
    refine q_next ?_
    refine pwp_seq ?_
    refine r_regd (by kernel_rfl) (by kernel_rfl) ?_
    refine p_run 4 (by kernel_rfl) ?_
    obtain ⟨x2, h2, h⟩ := o_bind h
    refine p_ix h2 (by kernel_rfl) ?_
    refine p_run 6 (by kernel_rfl) ?_
    obtain ⟨r3, h3, h⟩ := o_bind h
    refine p_call (d_ref06_Need_ok _ _ _ r3 h3) (by kernel_rfl) (by kernel_rfl) ?_
    refine e_end (by kernel_rfl) ?_
    refine q_next ?_
    refine pwp_ret ?_
    cases h
    exact q_ret (by kernel_rfl) (by kernel_rfl) (by kernel_rfl)

/-! signallingref09.Next -/
noncomputable def d_ref09_Next (a0 : T_api_Layout) (a1 : T_api_Step) : Option (T_api_End × Bool) :=
  (d_ref07_Joined a0 (T_api_End.mk a1.El a1.Out)).bind fun r1 =>
  some (r1.1, r1.2)
theorem d_ref09_Next_ok (a0 : T_api_Layout) (a1 : T_api_Step) (r : (T_api_End × Bool)) (h : d_ref09_Next a0 a1 = some r) : PCall Go.Proofs.Tryd.prog GlS 49 [Enc.pv a0, Enc.pv a1] (.tup [Enc.pv r.1, Enc.pv r.2]) := by
  unfold d_ref09_Next at h
  refine pcall_of_pwp Go.Proofs.Tryd.func49 (by rfl) rfl Go.Proofs.Tryd.ntmps49 (by rfl) rfl ?_
  refine pwp_seq ?_
  refine r_reg ?_
  refine e_end (by kernel_rfl) ?_
  refine q_next ?_
  refine pwp_seq ?_
  refine r_reg ?_
  refine p_run 6 (by kernel_rfl) ?_
  obtain ⟨r1, h1, h⟩ := o_bind h
  refine p_call (d_ref07_Joined_ok _ _ r1 h1) (by kernel_rfl) (by kernel_rfl) ?_
  refine e_end (by kernel_rfl) ?_
  refine q_next ?_
  refine pwp_ret ?_
  cases h
  exact q_ret (by kernel_rfl) (by kernel_rfl) (by kernel_rfl)

/-! signallingref09.Valid -/
noncomputable def d_ref09_Valid_1 (a1 : (List T_api_Step)) (x23 : Int) : Int → Option (Int ⊕ (Unit ⊕ (Int ⊕ (Unit ⊕ Bool)))) := fun x61 =>
  bif decide (x61 < x23) then (
    (ixO a1 x61).bind fun x64 =>
    (ixO a1 x23).bind fun x65 =>
    bif decide (x64.El = x65.El) then (
      some (.inr (.inr (.inr (.inr false))))
    ) else (
      some (.inl (w64 (x61 + 1)))
    )
  ) else (
    some (.inr (.inl ()))
  )

noncomputable def d_ref09_Valid_0 (a0 : T_api_Layout) (a1 : (List T_api_Step)) : Int → Option (Int ⊕ (Unit ⊕ Bool)) := fun x23 =>
  bif decide (x23 < ((a1.length : Nat) : Int)) then (
    (ixO a1 x23).bind fun x45 =>
    (d_ref09_need a0 x45).bind fun r46 =>
    bif (!r46.2) then (
      some (.inr (.inr false))
    ) else (
      onInl (α := Unit) (β := (Int ⊕ (Unit ⊕ Bool))) (
        bif decide (0 < x23) then (
          (ixO a1 (w64 (x23 - 1))).bind fun x53 =>
          (d_ref09_Next a0 x53).bind fun r54 =>
          ((bif (!r54.2) then some true else (
            (ixO a1 x23).bind fun x56 =>
            some (!(decide (r54.1.El = x56.El)))
          )) : Option Bool).bind fun b55 =>
          ((bif b55 then some true else (
            (ixO a1 x23).bind fun x58 =>
            some (!(decide (r54.1.Side = x58.In)))
          )) : Option Bool).bind fun b57 =>
          bif b57 then (
            some (.inr (.inr (.inr false)))
          ) else (
            some (.inl ())
          )
        ) else (
          some (.inl ())
        )
      ) fun _ =>
      onInl (α := Unit) (β := (Int ⊕ (Unit ⊕ Bool))) (loopO (d_ref09_Valid_1 a1 x23) 0) fun _ =>
      some (.inl (w64 (x23 + 1)))
    )
  ) else (
    some (.inr (.inl ()))
  )

noncomputable def d_ref09_Valid (a0 : T_api_Layout) (a1 : (List T_api_Step)) : Option Bool :=
  ((bif decide (((a1.length : Nat) : Int) = 0) then some true else (
    some (decide (64 < ((a1.length : Nat) : Int)))
  )) : Option Bool).bind fun b1 =>
  bif b1 then (
    some false
  ) else (
    onInl (α := Unit) (β := Bool) (loopO (d_ref09_Valid_0 a0 a1) 0) fun _ =>
    some true
  )
theorem d_ref09_Valid_ok (a0 : T_api_Layout) (a1 : (List T_api_Step)) (r : Bool) (h : d_ref09_Valid a0 a1 = some r) : PCall Go.Proofs.Tryd.prog GlS 28 [Enc.pv a0, Enc.pv a1] (Enc.pv r) := by
  unfold d_ref09_Valid at h
  refine pcall_of_pwp Go.Proofs.Tryd.func28 (by rfl) rfl Go.Proofs.Tryd.ntmps28 (by rfl) rfl ?_
  refine pwp_seq ?_
  refine r_reg ?_
  refine e_end (by kernel_rfl) ?_
  refine q_next ?_
  refine pwp_seq ?_
  refine pwp_seq ?_
  refine r_reg ?_
  refine p_run 1 (by kernel_rfl) ?_
  refine p_len (L := (a1 : (List T_api_Step))) (by kernel_rfl) ?_
  obtain ⟨b1, h1, h⟩ := o_bind h
  refine p_run 2 (by kernel_rfl) ?_
  refine e_seg 4 18 (.bool b1) ?_ ?_
  · rcases o_cond h1 with ⟨hb, h1⟩ | ⟨hb, h1⟩
    · refine p_settle 14 hb (by kernel_rfl) (by kernel_rfl) ?_
      cases h1
      exact f_end (by kernel_rfl) (by kernel_rfl)
    · refine p_settle 14 hb (by kernel_rfl) (by kernel_rfl) ?_
      refine p_run 1 (by kernel_rfl) ?_
      refine p_len (L := (a1 : (List T_api_Step))) (by kernel_rfl) ?_
      cases h1
      exact f_end (by kernel_rfl) (by kernel_rfl)
  · refine e_nil (by kernel_rfl) ?_
    refine q_next ?_
    rcases o_cond h with ⟨hb, h⟩ | ⟨hb, h⟩
    · refine r_cond_t hb (by kernel_rfl) ?_
      refine pwp_seq ?_
      refine r_reg ?_
      refine e_end (by kernel_rfl) ?_
      refine q_next ?_
      refine pwp_ret ?_
      refine q_seq_ret ?_
      cases h
      exact q_ret (by kernel_rfl) (by kernel_rfl) (by kernel_rfl)
    · refine r_cond_f hb (by kernel_rfl) ?_
      refine pwp_skip ?_
      refine q_next ?_
      refine pwp_seq ?_
      refine pwp_seq ?_
      refine r_reg ?_
      refine e_end (by kernel_rfl) ?_
      refine q_next ?_
      refine pwp_block ?_
      obtain ⟨o71, h71, h⟩ := o_inl h
      refine r_loop2 86 0 (fun x23 => ⟨[(1, lstOf .frozen (a1 : (List T_api_Step))), (2, .ref 2 0), (5, .int .i64 x23)], [(2, .cells (cellsOf a0))], [], []⟩) (fun (_ : Unit) => ⟨[], [], [], []⟩) h71 (by kernel_rfl) (fun _ => by kernel_rfl) ?_ ?_
      · rintro x23 oh70 h70
        unfold d_ref09_Valid_0 at h70
        refine pwp_seq ?_
        refine pwp_seq ?_
        refine r_reg ?_
        refine p_run 2 (by kernel_rfl) ?_
        refine p_len (L := (a1 : (List T_api_Step))) (by kernel_rfl) ?_
        refine e_end (by kernel_rfl) ?_
        refine q_next ?_
        rcases o_cond h70 with ⟨hb, h70⟩ | ⟨hb, h70⟩
        · refine r_cond_t hb (by kernel_rfl) ?_
          refine pwp_skip ?_
          refine q_next ?_
          refine pwp_seq ?_
          refine pwp_block ?_
          refine pwp_seq ?_
          refine r_regd (by kernel_rfl) (by kernel_rfl) ?_
          refine p_run 3 (by kernel_rfl) ?_
          obtain ⟨x45, h72, h70⟩ := o_bind h70
          refine p_ix h72 (by kernel_rfl) ?_
          refine p_run 1 (by kernel_rfl) ?_
          obtain ⟨r46, h73, h70⟩ := o_bind h70
          refine p_call (d_ref09_need_ok _ _ r46 h73) (by kernel_rfl) (by kernel_rfl) ?_
          refine e_end (by kernel_rfl) ?_
          refine q_next ?_
          refine pwp_seq ?_
          refine pwp_seq ?_
          refine r_reg ?_
          refine e_end (by kernel_rfl) ?_
          refine q_next ?_
          rcases o_cond h70 with ⟨hb, h70⟩ | ⟨hb, h70⟩
          · refine r_cond_t hb (by kernel_rfl) ?_
            refine pwp_seq ?_
            refine r_reg ?_
            refine e_end (by kernel_rfl) ?_
            refine q_next ?_
            refine pwp_ret ?_
            refine q_seq_ret ?_
            refine q_block_ret ?_
            refine q_seq_ret ?_
            cases h70
            refine q_lout_ret fun he => ?_
            subst he
            have h74 := o_outr h
            refine q_block_ret ?_
            refine q_seq_ret ?_
            cases h74
            exact q_ret (by kernel_rfl) (by kernel_rfl) (by kernel_rfl)
          · refine r_cond_f hb (by kernel_rfl) ?_
            refine pwp_skip ?_
            refine q_next ?_
            obtain ⟨o83, h83, h70⟩ := o_inl h70
            refine r_join (o := o83) 86 (fun (_ : Unit) => ⟨[(1, lstOf .frozen (a1 : (List T_api_Step))), (2, .ref 2 0), (5, .int .i64 x23)], [(2, .cells (cellsOf a0))], [], []⟩) ?_ ?_
            · refine pwp_seq ?_
              refine r_reg ?_
              refine e_end (by kernel_rfl) ?_
              refine q_next ?_
              rcases o_cond h83 with ⟨hb, h83⟩ | ⟨hb, h83⟩
              · refine r_cond_t hb (by kernel_rfl) ?_
                refine pwp_seq ?_
                refine r_regd (by kernel_rfl) (by kernel_rfl) ?_
                refine p_run 4 (by kernel_rfl) ?_
                obtain ⟨x53, h84, h83⟩ := o_bind h83
                refine p_ix h84 (by kernel_rfl) ?_
                refine p_run 1 (by kernel_rfl) ?_
                obtain ⟨r54, h85, h83⟩ := o_bind h83
                refine p_call (d_ref09_Next_ok _ _ r54 h85) (by kernel_rfl) (by kernel_rfl) ?_
                refine e_end (by kernel_rfl) ?_
                refine q_next ?_
                refine pwp_seq ?_
                refine r_regd (by kernel_rfl) (by kernel_rfl) ?_
                obtain ⟨b55, h86, h83⟩ := o_bind h83
                refine p_run 3 (by kernel_rfl) ?_
                refine e_seg 9 59 (.bool b55) ?_ ?_
                · rcases o_cond h86 with ⟨hb, h86⟩ | ⟨hb, h86⟩
                  · refine p_settle 50 hb (by kernel_rfl) (by kernel_rfl) ?_
                    cases h86
                    exact f_end (by kernel_rfl) (by kernel_rfl)
                  · refine p_settle 50 hb (by kernel_rfl) (by kernel_rfl) ?_
                    refine p_run 4 (by kernel_rfl) ?_
                    obtain ⟨x56, h87, h86⟩ := o_bind h86
                    refine p_ix h87 (by kernel_rfl) ?_
                    cases h86
                    exact f_end (by kernel_rfl) (by kernel_rfl)
                · obtain ⟨b57, h88, h83⟩ := o_bind h83
                  refine p_run 1 (by kernel_rfl) ?_
                  refine e_seg 9 69 (.bool b57) ?_ ?_
                  · rcases o_cond h88 with ⟨hb, h88⟩ | ⟨hb, h88⟩
                    · refine p_settle 60 hb (by kernel_rfl) (by kernel_rfl) ?_
                      cases h88
                      exact f_end (by kernel_rfl) (by kernel_rfl)
                    · refine p_settle 60 hb (by kernel_rfl) (by kernel_rfl) ?_
                      refine p_run 4 (by kernel_rfl) ?_
                      obtain ⟨x58, h89, h88⟩ := o_bind h88
                      refine p_ix h89 (by kernel_rfl) ?_
                      cases h88
                      exact f_end (by kernel_rfl) (by kernel_rfl)
                  · refine e_nil (by kernel_rfl) ?_
                    refine q_next ?_
                    rcases o_cond h83 with ⟨hb, h83⟩ | ⟨hb, h83⟩
                    · refine r_cond_t hb (by kernel_rfl) ?_
                      refine pwp_seq ?_
                      refine r_reg ?_
                      refine e_end (by kernel_rfl) ?_
                      refine q_next ?_
                      refine pwp_ret ?_
                      cases h83
                      refine q_jout_ret ?_
                      have h90 := o_outr h70
                      refine q_block_ret ?_
                      refine q_seq_ret ?_
                      cases h90
                      refine q_lout_ret fun he => ?_
                      subst he
                      have h91 := o_outr h
                      refine q_block_ret ?_
                      refine q_seq_ret ?_
                      cases h91
                      exact q_ret (by kernel_rfl) (by kernel_rfl) (by kernel_rfl)
                    · refine r_cond_f hb (by kernel_rfl) ?_
                      refine pwp_skip ?_
                      cases h83
                      exact q_join (by kernel_rfl) (by kernel_rfl)
              · refine r_cond_f hb (by kernel_rfl) ?_
                refine pwp_skip ?_
                cases h83
                exact q_join (by kernel_rfl) (by kernel_rfl)
            · rintro _ rfl
              have h70 := o_outl h70
              refine pwp_seq ?_
              refine r_reg ?_
              refine e_end (by kernel_rfl) ?_
              refine q_next ?_
              refine pwp_block ?_
              obtain ⟨o101, h101, h70⟩ := o_inl h70
              refine r_loop2 86 2 (fun x61 => ⟨[(1, lstOf .frozen (a1 : (List T_api_Step))), (2, .ref 2 0), (5, .int .i64 x23), (10, .int .i64 x61)], [(2, .cells (cellsOf a0))], [], []⟩) (fun (_ : Unit) => ⟨[(1, lstOf .frozen (a1 : (List T_api_Step))), (2, .ref 2 0), (5, .int .i64 x23)], [(2, .cells (cellsOf a0))], [], []⟩) h101 (by kernel_rfl) (fun _ => by kernel_rfl) ?_ ?_
              · rintro x61 oh100 h100
                unfold d_ref09_Valid_1 at h100
                refine pwp_seq ?_
                refine pwp_seq ?_
                refine r_reg ?_
                refine e_end (by kernel_rfl) ?_
                refine q_next ?_
                rcases o_cond h100 with ⟨hb, h100⟩ | ⟨hb, h100⟩
                · refine r_cond_t hb (by kernel_rfl) ?_
                  refine pwp_skip ?_
                  refine q_next ?_
                  refine pwp_seq ?_
                  refine pwp_block ?_
                  refine pwp_seq ?_
                  refine r_regd (by kernel_rfl) (by kernel_rfl) ?_
                  refine p_run 2 (by kernel_rfl) ?_
                  obtain ⟨x64, h102, h100⟩ := o_bind h100
                  refine p_ix h102 (by kernel_rfl) ?_
                  refine p_run 4 (by kernel_rfl) ?_
                  obtain ⟨x65, h103, h100⟩ := o_bind h100
                  refine p_ix h103 (by kernel_rfl) ?_
                  refine e_end (by kernel_rfl) ?_
                  refine q_next ?_
                  rcases o_cond h100 with ⟨hb, h100⟩ | ⟨hb, h100⟩
                  · refine r_cond_t hb (by kernel_rfl) ?_
                    refine pwp_seq ?_
                    refine r_reg ?_
                    refine e_end (by kernel_rfl) ?_
                    refine q_next ?_
                    refine pwp_ret ?_
                    refine q_block_ret ?_
                    refine q_seq_ret ?_
                    cases h100
                    refine q_lout_ret fun he => ?_
                    subst he
                    have h104 := o_outr h70
                    refine q_block_ret ?_
                    refine q_block_ret ?_
                    refine q_seq_ret ?_
                    cases h104
                    refine q_lout_ret fun he => ?_
                    subst he
                    have h105 := o_outr h
                    refine q_block_ret ?_
                    refine q_seq_ret ?_
                    cases h105
                    exact q_ret (by kernel_rfl) (by kernel_rfl) (by kernel_rfl)
                  · refine r_cond_f hb (by kernel_rfl) ?_
                    refine pwp_skip ?_
                    refine q_block ?_
                    refine q_next ?_
                    refine r_reg ?_
                    refine e_end (by kernel_rfl) ?_
                    cases h100
                    exact q_lback (by kernel_rfl)
                · refine r_cond_f hb (by kernel_rfl) ?_
                  refine pwp_exit ?_
                  refine q_seq_exit ?_
                  cases h100
                  exact q_lexit (by kernel_rfl) (by kernel_rfl)
              · rintro _ s' rfl hs
                have h70 := o_outl h70
                refine q_block_hit ?_
                refine q_block ?_
                refine q_next (pwp_wkr hs ?_)
                refine r_reg ?_
                refine e_end (by kernel_rfl) ?_
                cases h70
                exact q_lback (by kernel_rfl)
        · refine r_cond_f hb (by kernel_rfl) ?_
          refine pwp_exit ?_
          refine q_seq_exit ?_
          cases h70
          exact q_lexit (by kernel_rfl) (by kernel_rfl)
      · rintro _ s' rfl hs
        have h := o_outl h
        refine q_block_hit ?_
        refine q_next (pwp_wkr hs ?_)
        refine pwp_seq ?_
        refine r_reg ?_
        refine e_end (by kernel_rfl) ?_
        refine q_next ?_
        refine pwp_ret ?_
        cases h
        exact q_ret (by kernel_rfl) (by kernel_rfl) (by kernel_rfl)

/-! signallingref11.long -/
noncomputable def d_ref11_long (a0 : T_api_Layout) (a1 : T_api_Step) : Option Int :=
  (ixO a0.Elements a1.El).bind fun x1 =>
  some x1.Length
theorem d_ref11_long_ok (a0 : T_api_Layout) (a1 : T_api_Step) (r : Int) (h : d_ref11_long a0 a1 = some r) : PCall Go.Proofs.Tryd.prog GlS 29 [Enc.pv a0, Enc.pv a1] (Enc.pv r) := by
  unfold d_ref11_long at h
  refine pcall_of_pwp Go.Proofs.Tryd.func29 (by rfl) rfl Go.Proofs.Tryd.ntmps29 (by rfl) rfl ?_
  refine pwp_seq ?_
  refine r_reg ?_
  refine e_end (by kernel_rfl) ?_
  refine q_next ?_
  refine pwp_seq ?_
  refine r_reg ?_
  refine p_run 4 (by kernel_rfl) ?_
  obtain ⟨x1, h1, h⟩ := o_bind h
  refine p_ix h1 (by kernel_rfl) ?_
  refine e_end (by kernel_rfl) ?_
  refine q_next ?_
  refine pwp_ret ?_
  cases h
  exact q_ret (by kernel_rfl) (by kernel_rfl) (by kernel_rfl)

/-! signallingref11.Stretch -/
noncomputable def d_ref11_Stretch_0 (a0 : T_api_Layout) (a1 : T_api_Body) : (Int × Int) → Option ((Int × Int) ⊕ (Int ⊕ Int)) := fun (x3, x4) =>
  bif decide ((w64 (x4 + 1)) < ((a1.Steps.length : Nat) : Int)) then (
    (ixO a1.Steps x4).bind fun x8 =>
    (d_ref11_long a0 x8).bind fun r9 =>
    some (.inl (w64 (x3 + r9), w64 (x4 + 1)))
  ) else (
    some (.inr (.inl x3))
  )

noncomputable def d_ref11_Stretch (a0 : T_api_Layout) (a1 : T_api_Body) : Option Int :=
  onInl (α := Int) (β := Int) (loopO (d_ref11_Stretch_0 a0 a1) (a1.Head, 0)) fun x7 =>
  some x7
theorem d_ref11_Stretch_ok (a0 : T_api_Layout) (a1 : T_api_Body) (r : Int) (h : d_ref11_Stretch a0 a1 = some r) : PCall Go.Proofs.Tryd.prog GlS 30 [Enc.pv a0, Enc.pv a1] (Enc.pv r) := by
  unfold d_ref11_Stretch at h
  refine pcall_of_pwp Go.Proofs.Tryd.func30 (by rfl) rfl Go.Proofs.Tryd.ntmps30 (by rfl) rfl ?_
  refine pwp_seq ?_
  refine r_reg ?_
  refine e_end (by kernel_rfl) ?_
  refine q_next ?_
  refine pwp_seq ?_
  refine r_reg ?_
  refine e_end (by kernel_rfl) ?_
  refine q_next ?_
  refine pwp_seq ?_
  refine pwp_seq ?_
  refine r_reg ?_
  refine e_end (by kernel_rfl) ?_
  refine q_next ?_
  refine pwp_block ?_
  obtain ⟨o6, h6, h⟩ := o_inl h
  refine r_loop2 27 0 (fun (x3, x4) => ⟨[(2, .ref 2 0), (3, .ref 3 0), (5, .int .i64 x3), (6, .int .i64 x4)], [(2, .cells (cellsOf a0)), (3, .cells (cellsOf a1))], [], []⟩) (fun x7 => ⟨[(5, .int .i64 x7)], [], [], []⟩) h6 (by kernel_rfl) (fun _ => by kernel_rfl) ?_ ?_
  · rintro ⟨x3, x4⟩ oh5 h5
    unfold d_ref11_Stretch_0 at h5
    refine pwp_seq ?_
    refine pwp_seq ?_
    refine r_reg ?_
    refine p_run 4 (by kernel_rfl) ?_
    refine p_len (L := (a1.Steps : (List T_api_Step))) (by kernel_rfl) ?_
    refine e_end (by kernel_rfl) ?_
    refine q_next ?_
    rcases o_cond h5 with ⟨hb, h5⟩ | ⟨hb, h5⟩
    · refine r_cond_t hb (by kernel_rfl) ?_
      refine pwp_skip ?_
      refine q_next ?_
      refine pwp_seq ?_
      refine pwp_block ?_
      refine r_regd (by kernel_rfl) (by kernel_rfl) ?_
      refine p_run 5 (by kernel_rfl) ?_
      obtain ⟨x8, h7, h5⟩ := o_bind h5
      refine p_ix h7 (by kernel_rfl) ?_
      refine p_run 1 (by kernel_rfl) ?_
      obtain ⟨r9, h8, h5⟩ := o_bind h5
      refine p_call (d_ref11_long_ok _ _ r9 h8) (by kernel_rfl) (by kernel_rfl) ?_
      refine e_end (by kernel_rfl) ?_
      refine q_block ?_
      refine q_next ?_
      refine r_reg ?_
      refine e_end (by kernel_rfl) ?_
      cases h5
      exact q_lback (by kernel_rfl)
    · refine r_cond_f hb (by kernel_rfl) ?_
      refine pwp_exit ?_
      refine q_seq_exit ?_
      cases h5
      exact q_lexit (by kernel_rfl) (by kernel_rfl)
  · rintro x7 s' rfl hs
    have h := o_outl h
    refine q_block_hit ?_
    refine q_next (pwp_wkr hs ?_)
    refine pwp_seq ?_
    refine r_reg ?_
    refine e_end (by kernel_rfl) ?_
    refine q_next ?_
    refine pwp_ret ?_
    cases h
    exact q_ret (by kernel_rfl) (by kernel_rfl) (by kernel_rfl)

/-! signallingref11.Check -/
noncomputable def d_ref11_Check (a0 : T_api_Layout) (a1 : T_api_Body) : Option Int :=
  (d_ref09_Valid a0 a1.Steps).bind fun r1 =>
  ((bif ((((!r1) || (decide (a1.Length < 1))) || (decide (1000000 < a1.Length))) || (decide (a1.Head < 1))) then some true else (
    (ixO a1.Steps (w64 (((a1.Steps.length : Nat) : Int) - 1))).bind fun x3 =>
    (d_ref11_long a0 x3).bind fun r4 =>
    some (decide (r4 < a1.Head))
  )) : Option Bool).bind fun b2 =>
  bif b2 then (
    some 1
  ) else (
    (d_ref11_Stretch a0 a1).bind fun r5 =>
    ((bif decide (r5 < a1.Length) then some true else (
      ((bif decide (1 < ((a1.Steps.length : Nat) : Int)) then (
        (ixO a1.Steps 0).bind fun x8 =>
        (d_ref11_long a0 x8).bind fun r9 =>
        some (decide (a1.Length ≤ (w64 (r5 - r9))))
      ) else some false) : Option Bool).bind fun b7 =>
      some b7
    )) : Option Bool).bind fun b6 =>
    bif b6 then (
      some 10
    ) else (
      some 0
    )
  )
theorem d_ref11_Check_ok (a0 : T_api_Layout) (a1 : T_api_Body) (r : Int) (h : d_ref11_Check a0 a1 = some r) : PCall Go.Proofs.Tryd.prog GlS 11 [Enc.pv a0, Enc.pv a1] (Enc.pv r) := by
  unfold d_ref11_Check at h
  refine pcall_of_pwp Go.Proofs.Tryd.func11 (by rfl) rfl Go.Proofs.Tryd.ntmps11 (by rfl) rfl ?_
  refine pwp_seq ?_
  refine r_reg ?_
  refine e_end (by kernel_rfl) ?_
  refine q_next ?_
  refine pwp_seq ?_
  refine pwp_seq ?_
  refine r_regd (by kernel_rfl) (by kernel_rfl) ?_
  refine p_run 3 (by kernel_rfl) ?_
  obtain ⟨r1, h1, h⟩ := o_bind h
  refine p_call (d_ref09_Valid_ok _ _ r1 h1) (by kernel_rfl) (by kernel_rfl) ?_
  refine p_run 2 (by kernel_rfl) ?_
  refine e_segb 4 15 ((!r1) || (decide (a1.Length < 1))) (fun x hx => ?_) ?_
  · rcases b_or hx with ⟨hb, hx⟩ | ⟨hb, hx⟩
    · refine p_settle 11 hb (by kernel_rfl) (by kernel_rfl) ?_
      subst hx
      exact f_end (by kernel_rfl) (by kernel_rfl)
    · refine p_settle 11 hb (by kernel_rfl) (by kernel_rfl) ?_
      subst hx
      exact f_end (by kernel_rfl) (by kernel_rfl)
  · refine p_run 1 (by kernel_rfl) ?_
    refine e_segb 4 20 (((!r1) || (decide (a1.Length < 1))) || (decide (1000000 < a1.Length))) (fun x hx => ?_) ?_
    · rcases b_or hx with ⟨hb, hx⟩ | ⟨hb, hx⟩
      · refine p_settle 16 hb (by kernel_rfl) (by kernel_rfl) ?_
        subst hx
        exact f_end (by kernel_rfl) (by kernel_rfl)
      · refine p_settle 16 hb (by kernel_rfl) (by kernel_rfl) ?_
        subst hx
        exact f_end (by kernel_rfl) (by kernel_rfl)
    · refine p_run 1 (by kernel_rfl) ?_
      refine e_segb 4 25 ((((!r1) || (decide (a1.Length < 1))) || (decide (1000000 < a1.Length))) || (decide (a1.Head < 1))) (fun x hx => ?_) ?_
      · rcases b_or hx with ⟨hb, hx⟩ | ⟨hb, hx⟩
        · refine p_settle 21 hb (by kernel_rfl) (by kernel_rfl) ?_
          subst hx
          exact f_end (by kernel_rfl) (by kernel_rfl)
        · refine p_settle 21 hb (by kernel_rfl) (by kernel_rfl) ?_
          subst hx
          exact f_end (by kernel_rfl) (by kernel_rfl)
      · obtain ⟨b2, h2, h⟩ := o_bind h
        refine p_run 1 (by kernel_rfl) ?_
        refine e_seg 14 40 (.bool b2) ?_ ?_
        · rcases o_cond h2 with ⟨hb, h2⟩ | ⟨hb, h2⟩
          · refine p_settle 26 hb (by kernel_rfl) (by kernel_rfl) ?_
            cases h2
            exact f_end (by kernel_rfl) (by kernel_rfl)
          · refine p_settle 26 hb (by kernel_rfl) (by kernel_rfl) ?_
            refine p_run 7 (by kernel_rfl) ?_
            refine p_len (L := (a1.Steps : (List T_api_Step))) (by kernel_rfl) ?_
            refine p_run 1 (by kernel_rfl) ?_
            obtain ⟨x3, h3, h2⟩ := o_bind h2
            refine p_ix h3 (by kernel_rfl) ?_
            refine p_run 1 (by kernel_rfl) ?_
            obtain ⟨r4, h4, h2⟩ := o_bind h2
            refine p_call (d_ref11_long_ok _ _ r4 h4) (by kernel_rfl) (by kernel_rfl) ?_
            cases h2
            exact f_end (by kernel_rfl) (by kernel_rfl)
        · refine e_nil (by kernel_rfl) ?_
          refine q_next ?_
          rcases o_cond h with ⟨hb, h⟩ | ⟨hb, h⟩
          · refine r_cond_t hb (by kernel_rfl) ?_
            refine pwp_seq ?_
            refine r_reg ?_
            refine e_end (by kernel_rfl) ?_
            refine q_next ?_
            refine pwp_ret ?_
            refine q_seq_ret ?_
            cases h
            exact q_ret (by kernel_rfl) (by kernel_rfl) (by kernel_rfl)
          · refine r_cond_f hb (by kernel_rfl) ?_
            refine pwp_skip ?_
            refine q_next ?_
            refine pwp_seq ?_
            refine r_reg ?_
            refine p_run 2 (by kernel_rfl) ?_
            obtain ⟨r5, h5, h⟩ := o_bind h
            refine p_call (d_ref11_Stretch_ok _ _ r5 h5) (by kernel_rfl) (by kernel_rfl) ?_
            refine e_end (by kernel_rfl) ?_
            refine q_next ?_
            refine pwp_seq ?_
            refine pwp_seq ?_
            refine r_regd (by kernel_rfl) (by kernel_rfl) ?_
            obtain ⟨b6, h6, h⟩ := o_bind h
            refine p_run 5 (by kernel_rfl) ?_
            refine e_seg 18 66 (.bool b6) ?_ ?_
            · rcases o_cond h6 with ⟨hb, h6⟩ | ⟨hb, h6⟩
              · refine p_settle 48 hb (by kernel_rfl) (by kernel_rfl) ?_
                cases h6
                exact f_end (by kernel_rfl) (by kernel_rfl)
              · refine p_settle 48 hb (by kernel_rfl) (by kernel_rfl) ?_
                refine p_run 2 (by kernel_rfl) ?_
                refine p_len (L := (a1.Steps : (List T_api_Step))) (by kernel_rfl) ?_
                obtain ⟨b7, h7, h6⟩ := o_bind h6
                refine p_run 2 (by kernel_rfl) ?_
                refine f_seg 12 65 (.bool b7) ?_ ?_
                · rcases o_cond h7 with ⟨hb, h7⟩ | ⟨hb, h7⟩
                  · refine p_settle 53 hb (by kernel_rfl) (by kernel_rfl) ?_
                    refine p_run 4 (by kernel_rfl) ?_
                    obtain ⟨x8, h8, h7⟩ := o_bind h7
                    refine p_ix h8 (by kernel_rfl) ?_
                    refine p_run 1 (by kernel_rfl) ?_
                    obtain ⟨r9, h9, h7⟩ := o_bind h7
                    refine p_call (d_ref11_long_ok _ _ r9 h9) (by kernel_rfl) (by kernel_rfl) ?_
                    cases h7
                    exact f_end (by kernel_rfl) (by kernel_rfl)
                  · refine p_settle 53 hb (by kernel_rfl) (by kernel_rfl) ?_
                    cases h7
                    exact f_end (by kernel_rfl) (by kernel_rfl)
                · cases h6
                  exact f_end (by kernel_rfl) (by kernel_rfl)
            · refine e_nil (by kernel_rfl) ?_
              refine q_next ?_
              rcases o_cond h with ⟨hb, h⟩ | ⟨hb, h⟩
              · refine r_cond_t hb (by kernel_rfl) ?_
                refine pwp_seq ?_
                refine r_reg ?_
                refine e_end (by kernel_rfl) ?_
                refine q_next ?_
                refine pwp_ret ?_
                refine q_seq_ret ?_
                cases h
                exact q_ret (by kernel_rfl) (by kernel_rfl) (by kernel_rfl)
              · refine r_cond_f hb (by kernel_rfl) ?_
                refine pwp_skip ?_
                refine q_next ?_
                refine pwp_seq ?_
                refine r_reg ?_
                refine e_end (by kernel_rfl) ?_
                refine q_next ?_
                refine pwp_ret ?_
                cases h
                exact q_ret (by kernel_rfl) (by kernel_rfl) (by kernel_rfl)

/-! signallinglaw11.BodyChecks -/
noncomputable def d_law11_BodyChecks (a0 : T_api_Layout) (a1 : T_api_Body) : Option Bool :=
  (d_law11_few a0 ([] : (List Int)) a1).bind fun r1 =>
  bif (!r1) then (
    (d_law11_alive ).bind fun r2 =>
    some r2
  ) else (
    (d_body_Check a0 a1).bind fun r3 =>
    (d_ref11_Check a0 a1).bind fun r4 =>
    ((bif decide (r3 = r4) then (
      (d_law11_alive ).bind fun r6 =>
      some r6
    ) else some false) : Option Bool).bind fun b5 =>
    some b5
  )
theorem d_law11_BodyChecks_ok (a0 : T_api_Layout) (a1 : T_api_Body) (r : Bool) (h : d_law11_BodyChecks a0 a1 = some r) : PCall Go.Proofs.Tryd.prog GlS 3 [Enc.pv a0, Enc.pv a1] (Enc.pv r) := by
  unfold d_law11_BodyChecks at h
  refine pcall_of_pwp Go.Proofs.Tryd.func3 (by rfl) rfl Go.Proofs.Tryd.ntmps3 (by rfl) rfl ?_
  refine pwp_seq ?_
  refine r_reg ?_
  refine e_end (by kernel_rfl) ?_
  refine q_next ?_
  refine pwp_seq ?_
  refine pwp_seq ?_
  refine r_reg ?_
  refine p_run 2 (by kernel_rfl) ?_
  obtain ⟨r1, h1, h⟩ := o_bind h
  refine p_call (d_law11_few_ok _ _ _ r1 h1) (by kernel_rfl) (by kernel_rfl) ?_
  refine e_end (by kernel_rfl) ?_
  refine q_next ?_
  rcases o_cond h with ⟨hb, h⟩ | ⟨hb, h⟩
  · refine r_cond_t hb (by kernel_rfl) ?_
    refine pwp_seq ?_
    refine r_reg ?_
    obtain ⟨r2, h2, h⟩ := o_bind h
    refine p_call (d_law11_alive_ok  r2 h2) (by kernel_rfl) (by kernel_rfl) ?_
    refine e_end (by kernel_rfl) ?_
    refine q_next ?_
    refine pwp_ret ?_
    refine q_seq_ret ?_
    cases h
    exact q_ret (by kernel_rfl) (by kernel_rfl) (by kernel_rfl)
  · refine r_cond_f hb (by kernel_rfl) ?_
    refine pwp_skip ?_
    refine q_next ?_
    refine pwp_seq ?_
    refine r_regd (by kernel_rfl) (by kernel_rfl) ?_
    refine p_run 2 (by kernel_rfl) ?_
    obtain ⟨r3, h3, h⟩ := o_bind h
    refine p_call (d_body_Check_ok _ _ r3 h3) (by kernel_rfl) (by kernel_rfl) ?_
    refine p_run 2 (by kernel_rfl) ?_
    obtain ⟨r4, h4, h⟩ := o_bind h
    refine p_call (d_ref11_Check_ok _ _ r4 h4) (by kernel_rfl) (by kernel_rfl) ?_
    obtain ⟨b5, h5, h⟩ := o_bind h
    refine p_run 2 (by kernel_rfl) ?_
    refine e_seg 2 19 (.bool b5) ?_ ?_
    · rcases o_cond h5 with ⟨hb, h5⟩ | ⟨hb, h5⟩
      · refine p_settle 17 hb (by kernel_rfl) (by kernel_rfl) ?_
        obtain ⟨r6, h6, h5⟩ := o_bind h5
        refine p_call (d_law11_alive_ok  r6 h6) (by kernel_rfl) (by kernel_rfl) ?_
        cases h5
        exact f_end (by kernel_rfl) (by kernel_rfl)
      · refine p_settle 17 hb (by kernel_rfl) (by kernel_rfl) ?_
        cases h5
        exact f_end (by kernel_rfl) (by kernel_rfl)
    · refine e_end (by kernel_rfl) ?_
      refine q_next ?_
      refine pwp_ret ?_
      cases h
      exact q_ret (by kernel_rfl) (by kernel_rfl) (by kernel_rfl)

/-! signallingref11.Rear -/
noncomputable def d_ref11_Rear (a0 : T_api_Layout) (a1 : T_api_Body) : Option (Int × Int) :=
  (d_ref11_Check a0 a1).bind fun r1 =>
  bif (!(decide (r1 = 0))) then (
    some ((-1), 0)
  ) else (
    (ixO a1.Steps 0).bind fun x2 =>
    (d_ref11_Stretch a0 a1).bind fun r3 =>
    some (x2.El, w64 (r3 - a1.Length))
  )
theorem d_ref11_Rear_ok (a0 : T_api_Layout) (a1 : T_api_Body) (r : (Int × Int)) (h : d_ref11_Rear a0 a1 = some r) : PCall Go.Proofs.Tryd.prog GlS 13 [Enc.pv a0, Enc.pv a1] (.tup [Enc.pv r.1, Enc.pv r.2]) := by
  unfold d_ref11_Rear at h
  refine pcall_of_pwp Go.Proofs.Tryd.func13 (by rfl) rfl Go.Proofs.Tryd.ntmps13 (by rfl) rfl ?_
  refine pwp_seq ?_
  refine r_reg ?_
  refine e_end (by kernel_rfl) ?_
  refine q_next ?_
  refine pwp_seq ?_
  refine pwp_seq ?_
  refine r_reg ?_
  refine p_run 2 (by kernel_rfl) ?_
  obtain ⟨r1, h1, h⟩ := o_bind h
  refine p_call (d_ref11_Check_ok _ _ r1 h1) (by kernel_rfl) (by kernel_rfl) ?_
  refine e_end (by kernel_rfl) ?_
  refine q_next ?_
  rcases o_cond h with ⟨hb, h⟩ | ⟨hb, h⟩
  · refine r_cond_t hb (by kernel_rfl) ?_
    refine pwp_seq ?_
    refine r_reg ?_
    refine e_end (by kernel_rfl) ?_
    refine q_next ?_
    refine pwp_ret ?_
    refine q_seq_ret ?_
    cases h
    exact q_ret (by kernel_rfl) (by kernel_rfl) (by kernel_rfl)
  · refine r_cond_f hb (by kernel_rfl) ?_
    refine pwp_skip ?_
    refine q_next ?_
    refine pwp_seq ?_
    refine r_regd (by kernel_rfl) (by kernel_rfl) ?_
    refine p_run 2 (by kernel_rfl) ?_
    obtain ⟨x2, h2, h⟩ := o_bind h
    refine p_ix h2 (by kernel_rfl) ?_
    refine p_run 4 (by kernel_rfl) ?_
    obtain ⟨r3, h3, h⟩ := o_bind h
    refine p_call (d_ref11_Stretch_ok _ _ r3 h3) (by kernel_rfl) (by kernel_rfl) ?_
    refine e_end (by kernel_rfl) ?_
    refine q_next ?_
    refine pwp_ret ?_
    cases h
    exact q_ret (by kernel_rfl) (by kernel_rfl) (by kernel_rfl)

/-! signallingref11.Covers -/
noncomputable def d_ref11_Covers_0 (a0 : T_api_Body) (a1 : Int) : Int → Option (Int ⊕ (Unit ⊕ (T_api_Step × Bool))) := fun x3 =>
  bif decide (x3 < ((a0.Steps.length : Nat) : Int)) then (
    (ixO a0.Steps x3).bind fun x6 =>
    bif decide (x6.El = a1) then (
      (ixO a0.Steps x3).bind fun x7 =>
      some (.inr (.inr (x7, true)))
    ) else (
      some (.inl (w64 (x3 + 1)))
    )
  ) else (
    some (.inr (.inl ()))
  )

noncomputable def d_ref11_Covers (a0 : T_api_Body) (a1 : Int) : Option (T_api_Step × Bool) :=
  onInl (α := Unit) (β := (T_api_Step × Bool)) (loopO (d_ref11_Covers_0 a0 a1) 0) fun _ =>
  some ((T_api_Step.mk 0 0 0), false)
theorem d_ref11_Covers_ok (a0 : T_api_Body) (a1 : Int) (r : (T_api_Step × Bool)) (h : d_ref11_Covers a0 a1 = some r) : PCall Go.Proofs.Tryd.prog GlS 15 [Enc.pv a0, Enc.pv a1] (.tup [Enc.pv r.1, Enc.pv r.2]) := by
  unfold d_ref11_Covers at h
  refine pcall_of_pwp Go.Proofs.Tryd.func15 (by rfl) rfl Go.Proofs.Tryd.ntmps15 (by rfl) rfl ?_
  refine pwp_seq ?_
  refine r_reg ?_
  refine e_end (by kernel_rfl) ?_
  refine q_next ?_
  refine pwp_seq ?_
  refine pwp_seq ?_
  refine r_reg ?_
  refine e_end (by kernel_rfl) ?_
  refine q_next ?_
  refine pwp_block ?_
  obtain ⟨o8, h8, h⟩ := o_inl h
  refine r_loop2 28 0 (fun x3 => ⟨[(1, .int .i64 a1), (2, .ref 2 0), (4, .ref 4 0), (6, .int .i64 x3)], [(2, .cells (cellsOf a0)), (4, .cells ([.int .i64 0, .int .i64 0, .int .i64 0]))], [], []⟩) (fun (_ : Unit) => ⟨[(4, .ref 4 0)], [(4, .cells ([.int .i64 0, .int .i64 0, .int .i64 0]))], [], []⟩) h8 (by kernel_rfl) (fun _ => by kernel_rfl) ?_ ?_
  · rintro x3 oh7 h7
    unfold d_ref11_Covers_0 at h7
    refine pwp_seq ?_
    refine pwp_seq ?_
    refine r_reg ?_
    refine p_run 3 (by kernel_rfl) ?_
    refine p_len (L := (a0.Steps : (List T_api_Step))) (by kernel_rfl) ?_
    refine e_end (by kernel_rfl) ?_
    refine q_next ?_
    rcases o_cond h7 with ⟨hb, h7⟩ | ⟨hb, h7⟩
    · refine r_cond_t hb (by kernel_rfl) ?_
      refine pwp_skip ?_
      refine q_next ?_
      refine pwp_seq ?_
      refine pwp_block ?_
      refine pwp_seq ?_
      refine r_reg ?_
      refine p_run 3 (by kernel_rfl) ?_
      obtain ⟨x6, h9, h7⟩ := o_bind h7
      refine p_ix h9 (by kernel_rfl) ?_
      refine e_end (by kernel_rfl) ?_
      refine q_next ?_
      rcases o_cond h7 with ⟨hb, h7⟩ | ⟨hb, h7⟩
      · refine r_cond_t hb (by kernel_rfl) ?_
        refine pwp_seq ?_
        refine r_reg ?_
        refine p_run 3 (by kernel_rfl) ?_
        obtain ⟨x7, h10, h7⟩ := o_bind h7
        refine p_ix h10 (by kernel_rfl) ?_
        refine e_end (by kernel_rfl) ?_
        refine q_next ?_
        refine pwp_ret ?_
        refine q_block_ret ?_
        refine q_seq_ret ?_
        cases h7
        refine q_lout_ret fun he => ?_
        subst he
        have h11 := o_outr h
        refine q_block_ret ?_
        refine q_seq_ret ?_
        cases h11
        exact q_ret (by kernel_rfl) (by kernel_rfl) (by kernel_rfl)
      · refine r_cond_f hb (by kernel_rfl) ?_
        refine pwp_skip ?_
        refine q_block ?_
        refine q_next ?_
        refine r_reg ?_
        refine e_end (by kernel_rfl) ?_
        cases h7
        exact q_lback (by kernel_rfl)
    · refine r_cond_f hb (by kernel_rfl) ?_
      refine pwp_exit ?_
      refine q_seq_exit ?_
      cases h7
      exact q_lexit (by kernel_rfl) (by kernel_rfl)
  · rintro _ s' rfl hs
    have h := o_outl h
    refine q_block_hit ?_
    refine q_next (pwp_wkr hs ?_)
    refine pwp_seq ?_
    refine r_reg ?_
    refine e_end (by kernel_rfl) ?_
    refine q_next ?_
    refine pwp_ret ?_
    cases h
    exact q_ret (by kernel_rfl) (by kernel_rfl) (by kernel_rfl)

/-! signallingref07.Section -/
noncomputable def d_ref07_Section (a0 : T_api_Layout) (a1 : Int) : Option Int :=
  ((bif decide (a1 < 0) then some true else (
    some (decide (((a0.Elements.length : Nat) : Int) ≤ a1))
  )) : Option Bool).bind fun b1 =>
  bif b1 then (
    some (-1)
  ) else (
    (ixO a0.Elements a1).bind fun x2 =>
    some x2.Section
  )
theorem d_ref07_Section_ok (a0 : T_api_Layout) (a1 : Int) (r : Int) (h : d_ref07_Section a0 a1 = some r) : PCall Go.Proofs.Tryd.prog GlS 33 [Enc.pv a0, Enc.pv a1] (Enc.pv r) := by
  unfold d_ref07_Section at h
  refine pcall_of_pwp Go.Proofs.Tryd.func33 (by rfl) rfl Go.Proofs.Tryd.ntmps33 (by rfl) rfl ?_
  refine pwp_seq ?_
  refine r_reg ?_
  refine e_end (by kernel_rfl) ?_
  refine q_next ?_
  refine pwp_seq ?_
  refine pwp_seq ?_
  refine r_reg ?_
  obtain ⟨b1, h1, h⟩ := o_bind h
  refine p_run 3 (by kernel_rfl) ?_
  refine e_seg 6 13 (.bool b1) ?_ ?_
  · rcases o_cond h1 with ⟨hb, h1⟩ | ⟨hb, h1⟩
    · refine p_settle 7 hb (by kernel_rfl) (by kernel_rfl) ?_
      cases h1
      exact f_end (by kernel_rfl) (by kernel_rfl)
    · refine p_settle 7 hb (by kernel_rfl) (by kernel_rfl) ?_
      refine p_run 3 (by kernel_rfl) ?_
      refine p_len (L := (a0.Elements : (List T_api_Element))) (by kernel_rfl) ?_
      cases h1
      exact f_end (by kernel_rfl) (by kernel_rfl)
  · refine e_nil (by kernel_rfl) ?_
    refine q_next ?_
    rcases o_cond h with ⟨hb, h⟩ | ⟨hb, h⟩
    · refine r_cond_t hb (by kernel_rfl) ?_
      refine pwp_seq ?_
      refine r_reg ?_
      refine e_end (by kernel_rfl) ?_
      refine q_next ?_
      refine pwp_ret ?_
      refine q_seq_ret ?_
      cases h
      exact q_ret (by kernel_rfl) (by kernel_rfl) (by kernel_rfl)
    · refine r_cond_f hb (by kernel_rfl) ?_
      refine pwp_skip ?_
      refine q_next ?_
      refine pwp_seq ?_
      refine r_reg ?_
      refine p_run 3 (by kernel_rfl) ?_
      obtain ⟨x2, h2, h⟩ := o_bind h
      refine p_ix h2 (by kernel_rfl) ?_
      refine e_end (by kernel_rfl) ?_
      refine q_next ?_
      refine pwp_ret ?_
      cases h
      exact q_ret (by kernel_rfl) (by kernel_rfl) (by kernel_rfl)

/-! signallingref02.Has -/
noncomputable def d_ref02_Has_0 (a0 : (List Int)) (a1 : Int) : Int → Option (Int ⊕ (Unit ⊕ Bool)) := fun x2 =>
  bif decide (x2 < ((a0.length : Nat) : Int)) then (
    (ixO a0 x2).bind fun x4 =>
    bif decide (x4 = a1) then (
      some (.inr (.inr true))
    ) else (
      some (.inl (w64 (x2 + 1)))
    )
  ) else (
    some (.inr (.inl ()))
  )

noncomputable def d_ref02_Has (a0 : (List Int)) (a1 : Int) : Option Bool :=
  onInl (α := Unit) (β := Bool) (loopO (d_ref02_Has_0 a0 a1) 0) fun _ =>
  some false
theorem d_ref02_Has_ok (a0 : (List Int)) (a1 : Int) (r : Bool) (h : d_ref02_Has a0 a1 = some r) : PCall Go.Proofs.Tryd.prog GlS 84 [Enc.pv a0, Enc.pv a1] (Enc.pv r) := by
  unfold d_ref02_Has at h
  refine pcall_of_pwp Go.Proofs.Tryd.func84 (by rfl) rfl Go.Proofs.Tryd.ntmps84 (by rfl) rfl ?_
  refine pwp_seq ?_
  refine r_reg ?_
  refine e_end (by kernel_rfl) ?_
  refine q_next ?_
  refine pwp_seq ?_
  refine pwp_seq ?_
  refine r_reg ?_
  refine e_end (by kernel_rfl) ?_
  refine q_next ?_
  refine pwp_block ?_
  obtain ⟨o6, h6, h⟩ := o_inl h
  refine r_loop2 18 0 (fun x2 => ⟨[(0, lstOf .frozen (a0 : (List Int))), (1, .int .i64 a1), (5, .int .i64 x2)], [], [], []⟩) (fun (_ : Unit) => ⟨[], [], [], []⟩) h6 (by kernel_rfl) (fun _ => by kernel_rfl) ?_ ?_
  · rintro x2 oh5 h5
    unfold d_ref02_Has_0 at h5
    refine pwp_seq ?_
    refine pwp_seq ?_
    refine r_reg ?_
    refine p_run 2 (by kernel_rfl) ?_
    refine p_len (L := (a0 : (List Int))) (by kernel_rfl) ?_
    refine e_end (by kernel_rfl) ?_
    refine q_next ?_
    rcases o_cond h5 with ⟨hb, h5⟩ | ⟨hb, h5⟩
    · refine r_cond_t hb (by kernel_rfl) ?_
      refine pwp_skip ?_
      refine q_next ?_
      refine pwp_seq ?_
      refine pwp_block ?_
      refine pwp_seq ?_
      refine r_reg ?_
      refine p_run 2 (by kernel_rfl) ?_
      obtain ⟨x4, h7, h5⟩ := o_bind h5
      refine p_ix h7 (by kernel_rfl) ?_
      refine e_end (by kernel_rfl) ?_
      refine q_next ?_
      rcases o_cond h5 with ⟨hb, h5⟩ | ⟨hb, h5⟩
      · refine r_cond_t hb (by kernel_rfl) ?_
        refine pwp_seq ?_
        refine r_reg ?_
        refine e_end (by kernel_rfl) ?_
        refine q_next ?_
        refine pwp_ret ?_
        refine q_block_ret ?_
        refine q_seq_ret ?_
        cases h5
        refine q_lout_ret fun he => ?_
        subst he
        have h8 := o_outr h
        refine q_block_ret ?_
        refine q_seq_ret ?_
        cases h8
        exact q_ret (by kernel_rfl) (by kernel_rfl) (by kernel_rfl)
      · refine r_cond_f hb (by kernel_rfl) ?_
        refine pwp_skip ?_
        refine q_block ?_
        refine q_next ?_
        refine r_reg ?_
        refine e_end (by kernel_rfl) ?_
        cases h5
        exact q_lback (by kernel_rfl)
    · refine r_cond_f hb (by kernel_rfl) ?_
      refine pwp_exit ?_
      refine q_seq_exit ?_
      cases h5
      exact q_lexit (by kernel_rfl) (by kernel_rfl)
  · rintro _ s' rfl hs
    have h := o_outl h
    refine q_block_hit ?_
    refine q_next (pwp_wkr hs ?_)
    refine pwp_seq ?_
    refine r_reg ?_
    refine e_end (by kernel_rfl) ?_
    refine q_next ?_
    refine pwp_ret ?_
    cases h
    exact q_ret (by kernel_rfl) (by kernel_rfl) (by kernel_rfl)

/-! signallingref02.insert -/
noncomputable def d_ref02_insert_0 (a0 : (List Int)) (a1 : Int) : (Bool × Int × (List Int)) → Option ((Bool × Int × (List Int)) ⊕ (((List Int) × Bool) ⊕ (List Int))) := fun (x24, x25, x26) =>
  bif decide (x25 < ((a0.length : Nat) : Int)) then (
    onInl (α := ((List Int) × Bool)) (β := ((Bool × Int × (List Int)) ⊕ (((List Int) × Bool) ⊕ (List Int)))) (
      ((bif (!x24) then (
        (ixO a0 x25).bind fun x45 =>
        some (decide (a1 < x45))
      ) else some false) : Option Bool).bind fun b44 =>
      bif b44 then (
        (appO x26 [a1]).bind fun x46 =>
        some (.inl (x46, true))
      ) else (
        some (.inl (x26, x24))
      )
    ) fun (x42, x43) =>
    (ixO a0 x25).bind fun x47 =>
    (appO x42 [x47]).bind fun x48 =>
    some (.inl (x43, w64 (x25 + 1), x48))
  ) else (
    some (.inr (.inl (x26, x24)))
  )

noncomputable def d_ref02_insert (a0 : (List Int)) (a1 : Int) : Option (List Int) :=
  (d_ref02_Has a0 a1).bind fun r1 =>
  bif r1 then (
    some a0
  ) else (
    onInl (α := ((List Int) × Bool)) (β := (List Int)) (loopO (d_ref02_insert_0 a0 a1) (false, 0, ([] : (List Int)))) fun (x37, x38) =>
    onInl (α := (List Int)) (β := (List Int)) (
      bif (!x38) then (
        (appO x37 [a1]).bind fun x51 =>
        some (.inl x51)
      ) else (
        some (.inl x37)
      )
    ) fun x50 =>
    some x50
  )
theorem d_ref02_insert_ok (a0 : (List Int)) (a1 : Int) (r : (List Int)) (h : d_ref02_insert a0 a1 = some r) : PCall Go.Proofs.Tryd.prog GlS 53 [Enc.pv a0, Enc.pv a1] (Enc.pv r) := by
  unfold d_ref02_insert at h
  refine pcall_of_pwp Go.Proofs.Tryd.func53 (by rfl) rfl Go.Proofs.Tryd.ntmps53 (by rfl) rfl ?_
  refine pwp_seq ?_
  refine r_reg ?_
  refine e_end (by kernel_rfl) ?_
  refine q_next ?_
  refine pwp_seq ?_
  refine pwp_seq ?_
  refine r_reg ?_
  refine p_run 2 (by kernel_rfl) ?_
  obtain ⟨r1, h1, h⟩ := o_bind h
  refine p_call (d_ref02_Has_ok _ _ r1 h1) (by kernel_rfl) (by kernel_rfl) ?_
  refine e_nil (by kernel_rfl) ?_
  refine q_next ?_
  rcases o_cond h with ⟨hb, h⟩ | ⟨hb, h⟩
  · refine r_cond_t hb (by kernel_rfl) ?_
    refine pwp_seq ?_
    refine r_reg ?_
    refine e_end (by kernel_rfl) ?_
    refine q_next ?_
    refine pwp_ret ?_
    refine q_seq_ret ?_
    cases h
    exact q_ret (by kernel_rfl) (by kernel_rfl) (by kernel_rfl)
  · refine r_cond_f hb (by kernel_rfl) ?_
    refine pwp_skip ?_
    refine q_next ?_
    refine pwp_seq ?_
    refine r_reg ?_
    refine e_end (by kernel_rfl) ?_
    refine q_next ?_
    refine pwp_seq ?_
    refine r_reg ?_
    refine e_end (by kernel_rfl) ?_
    refine q_next ?_
    refine pwp_seq ?_
    refine pwp_seq ?_
    refine r_reg ?_
    refine e_end (by kernel_rfl) ?_
    refine q_next ?_
    refine pwp_block ?_
    refine g_nil 5 100005 1 8 (by kernel_rfl) (by kernel_rfl) ?_
    obtain ⟨o30, h30, h⟩ := o_inl h
    refine r_loop2 46 0 (fun (x24, x25, x26) => ⟨[(0, lstOf .frozen (a0 : (List Int))), (1, .int .i64 a1), (5, lstOf (.own 100005) (x26 : (List Int))), (6, .bool x24), (7, .int .i64 x25)], [], [(100005, (((x26).map cellsOf).length, 1))], []⟩) (fun (x37, x38) => ⟨[(1, .int .i64 a1), (5, lstOf (.own 100005) (x37 : (List Int))), (6, .bool x38)], [], [(100005, (((x37).map cellsOf).length, 1))], []⟩) h30 (by kernel_rfl) (fun _ => by kernel_rfl) ?_ ?_
    · rintro ⟨x24, x25, x26⟩ oh29 h29
      unfold d_ref02_insert_0 at h29
      refine pwp_seq ?_
      refine pwp_seq ?_
      refine r_reg ?_
      refine p_run 2 (by kernel_rfl) ?_
      refine p_len (L := (a0 : (List Int))) (by kernel_rfl) ?_
      refine e_end (by kernel_rfl) ?_
      refine q_next ?_
      rcases o_cond h29 with ⟨hb, h29⟩ | ⟨hb, h29⟩
      · refine r_cond_t hb (by kernel_rfl) ?_
        refine pwp_skip ?_
        refine q_next ?_
        refine pwp_seq ?_
        refine pwp_block ?_
        obtain ⟨o34, h34, h29⟩ := o_inl h29
        refine r_join (o := o34) 46 (fun (x42, x43) => ⟨[(0, lstOf .frozen (a0 : (List Int))), (1, .int .i64 a1), (5, lstOf (.own 100005) (x42 : (List Int))), (6, .bool x43), (7, .int .i64 x25)], [], [(100005, (((x42).map cellsOf).length, 1))], []⟩) ?_ ?_
        · refine pwp_seq ?_
          refine r_reg ?_
          obtain ⟨b44, h35, h34⟩ := o_bind h34
          refine p_run 3 (by kernel_rfl) ?_
          refine e_seg 7 27 (.bool b44) ?_ ?_
          · rcases o_cond h35 with ⟨hb, h35⟩ | ⟨hb, h35⟩
            · refine p_settle 20 hb (by kernel_rfl) (by kernel_rfl) ?_
              refine p_run 2 (by kernel_rfl) ?_
              obtain ⟨x45, h36, h35⟩ := o_bind h35
              refine p_ix h36 (by kernel_rfl) ?_
              cases h35
              exact f_end (by kernel_rfl) (by kernel_rfl)
            · refine p_settle 20 hb (by kernel_rfl) (by kernel_rfl) ?_
              cases h35
              exact f_end (by kernel_rfl) (by kernel_rfl)
          · refine e_nil (by kernel_rfl) ?_
            refine q_next ?_
            rcases o_cond h34 with ⟨hb, h34⟩ | ⟨hb, h34⟩
            · refine r_cond_t hb (by kernel_rfl) ?_
              refine pwp_seq ?_
              refine r_reg ?_
              refine p_run 3 (by kernel_rfl) ?_
              obtain ⟨x46, h37, h34⟩ := o_bind h34
              refine p_app (tk := 100005) h37 (by kernel_rfl) (by kernel_rfl) ?_
              refine e_end (by kernel_rfl) ?_
              refine q_next ?_
              refine r_reg ?_
              refine e_end (by kernel_rfl) ?_
              cases h34
              exact q_join (by kernel_rfl) (by kernel_rfl)
            · refine r_cond_f hb (by kernel_rfl) ?_
              refine pwp_skip ?_
              cases h34
              exact q_join (by kernel_rfl) (by kernel_rfl)
        · rintro ⟨x42, x43⟩ rfl
          have h29 := o_outl h29
          refine r_reg ?_
          refine p_run 3 (by kernel_rfl) ?_
          obtain ⟨x47, h38, h29⟩ := o_bind h29
          refine p_ix h38 (by kernel_rfl) ?_
          refine p_run 2 (by kernel_rfl) ?_
          obtain ⟨x48, h39, h29⟩ := o_bind h29
          refine p_app (tk := 100005) h39 (by kernel_rfl) (by kernel_rfl) ?_
          refine e_end (by kernel_rfl) ?_
          refine q_block ?_
          refine q_next ?_
          refine r_reg ?_
          refine e_end (by kernel_rfl) ?_
          cases h29
          exact q_lback (by kernel_rfl)
      · refine r_cond_f hb (by kernel_rfl) ?_
        refine pwp_exit ?_
        refine q_seq_exit ?_
        cases h29
        exact q_lexit (by kernel_rfl) (by kernel_rfl)
    · rintro ⟨x37, x38⟩ s' rfl hs
      have h := o_outl h
      refine q_block_hit ?_
      refine q_next (pwp_wkr hs ?_)
      obtain ⟨o41, h41, h⟩ := o_inl h
      refine r_join (o := o41) 46 (fun x50 => ⟨[(5, lstOf (.own 100005) (x50 : (List Int)))], [], [(100005, (((x50).map cellsOf).length, 1))], []⟩) ?_ ?_
      · refine pwp_seq ?_
        refine r_reg ?_
        refine e_end (by kernel_rfl) ?_
        refine q_next ?_
        rcases o_cond h41 with ⟨hb, h41⟩ | ⟨hb, h41⟩
        · refine r_cond_t hb (by kernel_rfl) ?_
          refine r_reg ?_
          refine p_run 3 (by kernel_rfl) ?_
          obtain ⟨x51, h42, h41⟩ := o_bind h41
          refine p_app (tk := 100005) h42 (by kernel_rfl) (by kernel_rfl) ?_
          refine e_end (by kernel_rfl) ?_
          cases h41
          exact q_join (by kernel_rfl) (by kernel_rfl)
        · refine r_cond_f hb (by kernel_rfl) ?_
          refine pwp_skip ?_
          cases h41
          exact q_join (by kernel_rfl) (by kernel_rfl)
      · rintro x50 rfl
        have h := o_outl h
        refine pwp_seq ?_
        refine r_reg ?_
        refine e_end (by kernel_rfl) ?_
        refine q_next ?_
        refine pwp_ret ?_
        cases h
        exact q_ret (by kernel_rfl) (by kernel_rfl) (by kernel_rfl)

/-! signallingref02.Make -/
noncomputable def d_ref02_Make_0 (a0 : (List Int)) : ((List Int) × Int) → Option (((List Int) × Int) ⊕ ((List Int) ⊕ (List Int))) := fun (x3, x4) =>
  bif decide (x4 < ((a0.length : Nat) : Int)) then (
    (ixO a0 x4).bind fun x8 =>
    (d_ref02_insert x3 x8).bind fun r9 =>
    some (.inl (r9, w64 (x4 + 1)))
  ) else (
    some (.inr (.inl x3))
  )

noncomputable def d_ref02_Make (a0 : (List Int)) : Option (List Int) :=
  onInl (α := (List Int)) (β := (List Int)) (loopO (d_ref02_Make_0 a0) (([] : (List Int)), 0)) fun x7 =>
  some x7
theorem d_ref02_Make_ok (a0 : (List Int)) (r : (List Int)) (h : d_ref02_Make a0 = some r) : PCall Go.Proofs.Tryd.prog GlS 34 [Enc.pv a0] (Enc.pv r) := by
  unfold d_ref02_Make at h
  refine pcall_of_pwp Go.Proofs.Tryd.func34 (by rfl) rfl Go.Proofs.Tryd.ntmps34 (by rfl) rfl ?_
  refine pwp_seq ?_
  refine r_reg ?_
  refine e_end (by kernel_rfl) ?_
  refine q_next ?_
  refine pwp_seq ?_
  refine r_reg ?_
  refine e_end (by kernel_rfl) ?_
  refine q_next ?_
  refine pwp_seq ?_
  refine pwp_seq ?_
  refine r_reg ?_
  refine e_end (by kernel_rfl) ?_
  refine q_next ?_
  refine pwp_block ?_
  obtain ⟨o6, h6, h⟩ := o_inl h
  refine r_loop2 18 0 (fun (x3, x4) => ⟨[(0, lstOf .frozen (a0 : (List Int))), (3, lstOf .frozen (x3 : (List Int))), (4, .int .i64 x4)], [], [], []⟩) (fun x7 => ⟨[(3, lstOf .frozen (x7 : (List Int)))], [], [], []⟩) h6 (by kernel_rfl) (fun _ => by kernel_rfl) ?_ ?_
  · rintro ⟨x3, x4⟩ oh5 h5
    unfold d_ref02_Make_0 at h5
    refine pwp_seq ?_
    refine pwp_seq ?_
    refine r_reg ?_
    refine p_run 2 (by kernel_rfl) ?_
    refine p_len (L := (a0 : (List Int))) (by kernel_rfl) ?_
    refine e_end (by kernel_rfl) ?_
    refine q_next ?_
    rcases o_cond h5 with ⟨hb, h5⟩ | ⟨hb, h5⟩
    · refine r_cond_t hb (by kernel_rfl) ?_
      refine pwp_skip ?_
      refine q_next ?_
      refine pwp_seq ?_
      refine pwp_block ?_
      refine r_reg ?_
      refine p_run 3 (by kernel_rfl) ?_
      obtain ⟨x8, h7, h5⟩ := o_bind h5
      refine p_ix h7 (by kernel_rfl) ?_
      refine p_run 1 (by kernel_rfl) ?_
      obtain ⟨r9, h8, h5⟩ := o_bind h5
      refine p_call (d_ref02_insert_ok _ _ r9 h8) (by kernel_rfl) (by kernel_rfl) ?_
      refine e_end (by kernel_rfl) ?_
      refine q_block ?_
      refine q_next ?_
      refine r_reg ?_
      refine e_end (by kernel_rfl) ?_
      cases h5
      exact q_lback (by kernel_rfl)
    · refine r_cond_f hb (by kernel_rfl) ?_
      refine pwp_exit ?_
      refine q_seq_exit ?_
      cases h5
      exact q_lexit (by kernel_rfl) (by kernel_rfl)
  · rintro x7 s' rfl hs
    have h := o_outl h
    refine q_block_hit ?_
    refine q_next (pwp_wkr hs ?_)
    refine pwp_seq ?_
    refine r_reg ?_
    refine e_end (by kernel_rfl) ?_
    refine q_next ?_
    refine pwp_ret ?_
    cases h
    exact q_ret (by kernel_rfl) (by kernel_rfl) (by kernel_rfl)

/-! signallingref11.Sections -/
noncomputable def d_ref11_Sections_0 (a0 : T_api_Layout) (a1 : T_api_Body) : (Int × (List Int)) → Option ((Int × (List Int)) ⊕ ((List Int) ⊕ (List Int))) := fun (x16, x17) =>
  bif decide (x16 < ((a1.Steps.length : Nat) : Int)) then (
    onInl (α := (List Int)) (β := ((Int × (List Int)) ⊕ ((List Int) ⊕ (List Int)))) (
      (ixO a1.Steps x16).bind fun x30 =>
      (d_ref07_Section a0 x30.El).bind fun r31 =>
      bif decide (0 ≤ r31) then (
        (appO x17 [r31]).bind fun x32 =>
        some (.inl x32)
      ) else (
        some (.inl x17)
      )
    ) fun x29 =>
    some (.inl (w64 (x16 + 1), x29))
  ) else (
    some (.inr (.inl x17))
  )

noncomputable def d_ref11_Sections (a0 : T_api_Layout) (a1 : T_api_Body) : Option (List Int) :=
  onInl (α := (List Int)) (β := (List Int)) (loopO (d_ref11_Sections_0 a0 a1) (0, ([] : (List Int)))) fun x25 =>
  (d_ref02_Make x25).bind fun r33 =>
  some r33
theorem d_ref11_Sections_ok (a0 : T_api_Layout) (a1 : T_api_Body) (r : (List Int)) (h : d_ref11_Sections a0 a1 = some r) : PCall Go.Proofs.Tryd.prog GlS 18 [Enc.pv a0, Enc.pv a1] (Enc.pv r) := by
  unfold d_ref11_Sections at h
  refine pcall_of_pwp Go.Proofs.Tryd.func18 (by rfl) rfl Go.Proofs.Tryd.ntmps18 (by rfl) rfl ?_
  refine pwp_seq ?_
  refine r_reg ?_
  refine e_end (by kernel_rfl) ?_
  refine q_next ?_
  refine pwp_seq ?_
  refine r_reg ?_
  refine e_end (by kernel_rfl) ?_
  refine q_next ?_
  refine pwp_seq ?_
  refine pwp_seq ?_
  refine r_reg ?_
  refine e_end (by kernel_rfl) ?_
  refine q_next ?_
  refine pwp_block ?_
  refine g_nil 5 100005 1 8 (by kernel_rfl) (by kernel_rfl) ?_
  obtain ⟨o23, h23, h⟩ := o_inl h
  refine r_loop2 31 0 (fun (x16, x17) => ⟨[(2, .ref 2 0), (3, .ref 3 0), (5, lstOf (.own 100005) (x17 : (List Int))), (6, .int .i64 x16)], [(2, .cells (cellsOf a0)), (3, .cells (cellsOf a1))], [(100005, (((x17).map cellsOf).length, 1))], []⟩) (fun x25 => ⟨[(5, lstOf (.own 100005) (x25 : (List Int)))], [], [(100005, (((x25).map cellsOf).length, 1))], []⟩) h23 (by kernel_rfl) (fun _ => by kernel_rfl) ?_ ?_
  · rintro ⟨x16, x17⟩ oh22 h22
    unfold d_ref11_Sections_0 at h22
    refine pwp_seq ?_
    refine pwp_seq ?_
    refine r_reg ?_
    refine p_run 3 (by kernel_rfl) ?_
    refine p_len (L := (a1.Steps : (List T_api_Step))) (by kernel_rfl) ?_
    refine e_end (by kernel_rfl) ?_
    refine q_next ?_
    rcases o_cond h22 with ⟨hb, h22⟩ | ⟨hb, h22⟩
    · refine r_cond_t hb (by kernel_rfl) ?_
      refine pwp_skip ?_
      refine q_next ?_
      obtain ⟨o27, h27, h22⟩ := o_inl h22
      refine r_join (o := o27) 31 (fun x29 => ⟨[(2, .ref 2 0), (3, .ref 3 0), (5, lstOf (.own 100005) (x29 : (List Int))), (6, .int .i64 x16)], [(2, .cells (cellsOf a0)), (3, .cells (cellsOf a1))], [(100005, (((x29).map cellsOf).length, 1))], []⟩) ?_ ?_
      · refine pwp_block ?_
        refine pwp_seq ?_
        refine r_regd (by kernel_rfl) (by kernel_rfl) ?_
        refine p_run 4 (by kernel_rfl) ?_
        obtain ⟨x30, h28, h27⟩ := o_bind h27
        refine p_ix h28 (by kernel_rfl) ?_
        refine p_run 2 (by kernel_rfl) ?_
        obtain ⟨r31, h29, h27⟩ := o_bind h27
        refine p_call (d_ref07_Section_ok _ _ r31 h29) (by kernel_rfl) (by kernel_rfl) ?_
        refine e_end (by kernel_rfl) ?_
        refine q_next ?_
        refine pwp_seq ?_
        refine r_reg ?_
        refine e_end (by kernel_rfl) ?_
        refine q_next ?_
        rcases o_cond h27 with ⟨hb, h27⟩ | ⟨hb, h27⟩
        · refine r_cond_t hb (by kernel_rfl) ?_
          refine r_reg ?_
          refine p_run 3 (by kernel_rfl) ?_
          obtain ⟨x32, h30, h27⟩ := o_bind h27
          refine p_app (tk := 100005) h30 (by kernel_rfl) (by kernel_rfl) ?_
          refine e_end (by kernel_rfl) ?_
          refine q_block ?_
          cases h27
          exact q_join (by kernel_rfl) (by kernel_rfl)
        · refine r_cond_f hb (by kernel_rfl) ?_
          refine pwp_skip ?_
          refine q_block ?_
          cases h27
          exact q_join (by kernel_rfl) (by kernel_rfl)
      · rintro x29 rfl
        have h22 := o_outl h22
        refine r_reg ?_
        refine e_end (by kernel_rfl) ?_
        cases h22
        exact q_lback (by kernel_rfl)
    · refine r_cond_f hb (by kernel_rfl) ?_
      refine pwp_exit ?_
      refine q_seq_exit ?_
      cases h22
      exact q_lexit (by kernel_rfl) (by kernel_rfl)
  · rintro x25 s' rfl hs
    have h := o_outl h
    refine q_block_hit ?_
    refine q_next (pwp_wkr hs ?_)
    refine pwp_seq ?_
    refine r_reg ?_
    refine p_run 1 (by kernel_rfl) ?_
    obtain ⟨r33, h31, h⟩ := o_bind h
    refine p_call (d_ref02_Make_ok _ r33 h31) (by kernel_rfl) (by kernel_rfl) ?_
    refine e_end (by kernel_rfl) ?_
    refine q_next ?_
    refine pwp_ret ?_
    cases h
    exact q_ret (by kernel_rfl) (by kernel_rfl) (by kernel_rfl)

/-! signallinglaw11.BodyReads -/
noncomputable def d_law11_BodyReads (a0 : T_api_Layout) (a1 : T_api_Body) (a2 : Int) : Option Bool :=
  (d_law11_few a0 ([] : (List Int)) a1).bind fun r1 =>
  bif (!r1) then (
    (d_law11_alive ).bind fun r2 =>
    some r2
  ) else (
    (d_body_Rear a0 a1).bind fun r3 =>
    (d_ref11_Rear a0 a1).bind fun r4 =>
    (d_body_Covers a1 a2).bind fun r5 =>
    (d_ref11_Covers a1 a2).bind fun r6 =>
    ((bif ((((decide (r3.1 = r4.1)) && (decide (r3.2 = r4.2))) && (eq_T_api_Step r5.1 r6.1)) && (r5.2 == r6.2)) then (
      (d_body_Sections a0 a1).bind fun r8 =>
      (d_ref11_Sections a0 a1).bind fun r9 =>
      (d_ref02_Same r8 r9).bind fun r10 =>
      some r10
    ) else some false) : Option Bool).bind fun b7 =>
    ((bif b7 then (
      (d_law11_alive ).bind fun r12 =>
      some r12
    ) else some false) : Option Bool).bind fun b11 =>
    some b11
  )
theorem d_law11_BodyReads_ok (a0 : T_api_Layout) (a1 : T_api_Body) (a2 : Int) (r : Bool) (h : d_law11_BodyReads a0 a1 a2 = some r) : PCall Go.Proofs.Tryd.prog GlS 4 [Enc.pv a0, Enc.pv a1, Enc.pv a2] (Enc.pv r) := by
  unfold d_law11_BodyReads at h
  refine pcall_of_pwp Go.Proofs.Tryd.func4 (by rfl) rfl Go.Proofs.Tryd.ntmps4 (by rfl) rfl ?_
  refine pwp_seq ?_
  refine r_reg ?_
  refine e_end (by kernel_rfl) ?_
  refine q_next ?_
  refine pwp_seq ?_
  refine pwp_seq ?_
  refine r_reg ?_
  refine p_run 2 (by kernel_rfl) ?_
  obtain ⟨r1, h1, h⟩ := o_bind h
  refine p_call (d_law11_few_ok _ _ _ r1 h1) (by kernel_rfl) (by kernel_rfl) ?_
  refine e_end (by kernel_rfl) ?_
  refine q_next ?_
  rcases o_cond h with ⟨hb, h⟩ | ⟨hb, h⟩
  · refine r_cond_t hb (by kernel_rfl) ?_
    refine pwp_seq ?_
    refine r_reg ?_
    obtain ⟨r2, h2, h⟩ := o_bind h
    refine p_call (d_law11_alive_ok  r2 h2) (by kernel_rfl) (by kernel_rfl) ?_
    refine e_end (by kernel_rfl) ?_
    refine q_next ?_
    refine pwp_ret ?_
    refine q_seq_ret ?_
    cases h
    exact q_ret (by kernel_rfl) (by kernel_rfl) (by kernel_rfl)
  · refine r_cond_f hb (by kernel_rfl) ?_
    refine pwp_skip ?_
    refine q_next ?_
    refine pwp_seq ?_
    refine r_reg ?_
    refine p_run 2 (by kernel_rfl) ?_
    obtain ⟨r3, h3, h⟩ := o_bind h
    refine p_call (d_body_Rear_ok _ _ r3 h3) (by kernel_rfl) (by kernel_rfl) ?_
    refine e_end (by kernel_rfl) ?_
    refine q_next ?_
    refine pwp_seq ?_
    refine r_reg ?_
    refine p_run 2 (by kernel_rfl) ?_
    obtain ⟨r4, h4, h⟩ := o_bind h
    refine p_call (d_ref11_Rear_ok _ _ r4 h4) (by kernel_rfl) (by kernel_rfl) ?_
    refine e_end (by kernel_rfl) ?_
    refine q_next ?_
    refine pwp_seq ?_
    refine r_reg ?_
    refine p_run 2 (by kernel_rfl) ?_
    obtain ⟨r5, h5, h⟩ := o_bind h
    refine p_call (d_body_Covers_ok _ _ r5 h5) (by kernel_rfl) (by kernel_rfl) ?_
    refine e_end (by kernel_rfl) ?_
    refine q_next ?_
    refine pwp_seq ?_
    refine r_reg ?_
    refine p_run 2 (by kernel_rfl) ?_
    obtain ⟨r6, h6, h⟩ := o_bind h
    refine p_call (d_ref11_Covers_ok _ _ r6 h6) (by kernel_rfl) (by kernel_rfl) ?_
    refine e_end (by kernel_rfl) ?_
    refine q_next ?_
    refine pwp_seq ?_
    refine r_regd (by kernel_rfl) (by kernel_rfl) ?_
    refine p_run 4 (by kernel_rfl) ?_
    refine e_segb 4 51 ((decide (r3.1 = r4.1)) && (decide (r3.2 = r4.2))) (fun x hx => ?_) ?_
    · rcases b_and hx with ⟨hb, hx⟩ | ⟨hb, hx⟩
      · refine p_settle 47 hb (by kernel_rfl) (by kernel_rfl) ?_
        subst hx
        exact f_end (by kernel_rfl) (by kernel_rfl)
      · refine p_settle 47 hb (by kernel_rfl) (by kernel_rfl) ?_
        subst hx
        exact f_end (by kernel_rfl) (by kernel_rfl)
    · refine p_run 1 (by kernel_rfl) ?_
      refine e_segb 4 56 (((decide (r3.1 = r4.1)) && (decide (r3.2 = r4.2))) && (eq_T_api_Step r5.1 r6.1)) (fun x hx => ?_) ?_
      · rcases b_and hx with ⟨hb, hx⟩ | ⟨hb, hx⟩
        · refine p_settle 52 hb (by kernel_rfl) (by kernel_rfl) ?_
          subst hx
          exact f_end (by kernel_rfl) (by kernel_rfl)
        · refine p_settle 52 hb (by kernel_rfl) (by kernel_rfl) ?_
          subst hx
          exact f_end (by kernel_rfl) (by kernel_rfl)
      · refine p_run 1 (by kernel_rfl) ?_
        refine e_segb 4 61 ((((decide (r3.1 = r4.1)) && (decide (r3.2 = r4.2))) && (eq_T_api_Step r5.1 r6.1)) && (r5.2 == r6.2)) (fun x hx => ?_) ?_
        · rcases b_and hx with ⟨hb, hx⟩ | ⟨hb, hx⟩
          · refine p_settle 57 hb (by kernel_rfl) (by kernel_rfl) ?_
            subst hx
            exact f_end (by kernel_rfl) (by kernel_rfl)
          · refine p_settle 57 hb (by kernel_rfl) (by kernel_rfl) ?_
            subst hx
            exact f_end (by kernel_rfl) (by kernel_rfl)
        · obtain ⟨b7, h7, h⟩ := o_bind h
          refine p_run 1 (by kernel_rfl) ?_
          refine e_seg 8 70 (.bool b7) ?_ ?_
          · rcases o_cond h7 with ⟨hb, h7⟩ | ⟨hb, h7⟩
            · refine p_settle 62 hb (by kernel_rfl) (by kernel_rfl) ?_
              refine p_run 2 (by kernel_rfl) ?_
              obtain ⟨r8, h8, h7⟩ := o_bind h7
              refine p_call (d_body_Sections_ok _ _ r8 h8) (by kernel_rfl) (by kernel_rfl) ?_
              refine p_run 2 (by kernel_rfl) ?_
              obtain ⟨r9, h9, h7⟩ := o_bind h7
              refine p_call (d_ref11_Sections_ok _ _ r9 h9) (by kernel_rfl) (by kernel_rfl) ?_
              obtain ⟨r10, h10, h7⟩ := o_bind h7
              refine p_call (d_ref02_Same_ok _ _ r10 h10) (by kernel_rfl) (by kernel_rfl) ?_
              cases h7
              exact f_end (by kernel_rfl) (by kernel_rfl)
            · refine p_settle 62 hb (by kernel_rfl) (by kernel_rfl) ?_
              cases h7
              exact f_end (by kernel_rfl) (by kernel_rfl)
          · obtain ⟨b11, h11, h⟩ := o_bind h
            refine p_run 1 (by kernel_rfl) ?_
            refine e_seg 2 73 (.bool b11) ?_ ?_
            · rcases o_cond h11 with ⟨hb, h11⟩ | ⟨hb, h11⟩
              · refine p_settle 71 hb (by kernel_rfl) (by kernel_rfl) ?_
                obtain ⟨r12, h12, h11⟩ := o_bind h11
                refine p_call (d_law11_alive_ok  r12 h12) (by kernel_rfl) (by kernel_rfl) ?_
                cases h11
                exact f_end (by kernel_rfl) (by kernel_rfl)
              · refine p_settle 71 hb (by kernel_rfl) (by kernel_rfl) ?_
                cases h11
                exact f_end (by kernel_rfl) (by kernel_rfl)
            · refine e_end (by kernel_rfl) ?_
              refine q_next ?_
              refine pwp_ret ?_
              cases h
              exact q_ret (by kernel_rfl) (by kernel_rfl) (by kernel_rfl)

/-! signallingref11.position -/
noncomputable def d_ref11_position (a0 : (List Int)) (a1 : Int) : Option Int :=
  bif decide (a1 < ((a0.length : Nat) : Int)) then (
    (ixO a0 a1).bind fun x1 =>
    some x1
  ) else (
    some 0
  )
theorem d_ref11_position_ok (a0 : (List Int)) (a1 : Int) (r : Int) (h : d_ref11_position a0 a1 = some r) : PCall Go.Proofs.Tryd.prog GlS 58 [Enc.pv a0, Enc.pv a1] (Enc.pv r) := by
  unfold d_ref11_position at h
  refine pcall_of_pwp Go.Proofs.Tryd.func58 (by rfl) rfl Go.Proofs.Tryd.ntmps58 (by rfl) rfl ?_
  refine pwp_seq ?_
  refine r_reg ?_
  refine e_end (by kernel_rfl) ?_
  refine q_next ?_
  refine pwp_seq ?_
  refine pwp_seq ?_
  refine r_reg ?_
  refine p_run 2 (by kernel_rfl) ?_
  refine p_len (L := (a0 : (List Int))) (by kernel_rfl) ?_
  refine e_end (by kernel_rfl) ?_
  refine q_next ?_
  rcases o_cond h with ⟨hb, h⟩ | ⟨hb, h⟩
  · refine r_cond_t hb (by kernel_rfl) ?_
    refine pwp_seq ?_
    refine r_reg ?_
    refine p_run 2 (by kernel_rfl) ?_
    obtain ⟨x1, h1, h⟩ := o_bind h
    refine p_ix h1 (by kernel_rfl) ?_
    refine e_end (by kernel_rfl) ?_
    refine q_next ?_
    refine pwp_ret ?_
    refine q_seq_ret ?_
    cases h
    exact q_ret (by kernel_rfl) (by kernel_rfl) (by kernel_rfl)
  · refine r_cond_f hb (by kernel_rfl) ?_
    refine pwp_skip ?_
    refine q_next ?_
    refine pwp_seq ?_
    refine r_reg ?_
    refine e_end (by kernel_rfl) ?_
    refine q_next ?_
    refine pwp_ret ?_
    cases h
    exact q_ret (by kernel_rfl) (by kernel_rfl) (by kernel_rfl)

/-! signallingref06.Out -/
noncomputable def d_ref06_Out_0 (a0 : Int) (a1 : Int) (a2 : Int) : Int → Option (Int ⊕ (Unit ⊕ (Int × Bool))) := fun x2 =>
  bif decide (x2 < 4) then (
    (d_ref06_Need a0 a1 x2).bind fun r4 =>
    bif (r4.2 && ((decide (r4.1 = 0)) || (decide (r4.1 = a2)))) then (
      some (.inr (.inr (x2, true)))
    ) else (
      some (.inl (w64 (x2 + 1)))
    )
  ) else (
    some (.inr (.inl ()))
  )

noncomputable def d_ref06_Out (a0 : Int) (a1 : Int) (a2 : Int) : Option (Int × Bool) :=
  onInl (α := Unit) (β := (Int × Bool)) (loopO (d_ref06_Out_0 a0 a1 a2) 0) fun _ =>
  some (0, false)
theorem d_ref06_Out_ok (a0 : Int) (a1 : Int) (a2 : Int) (r : (Int × Bool)) (h : d_ref06_Out a0 a1 a2 = some r) : PCall Go.Proofs.Tryd.prog GlS 57 [Enc.pv a0, Enc.pv a1, Enc.pv a2] (.tup [Enc.pv r.1, Enc.pv r.2]) := by
  unfold d_ref06_Out at h
  refine pcall_of_pwp Go.Proofs.Tryd.func57 (by rfl) rfl Go.Proofs.Tryd.ntmps57 (by rfl) rfl ?_
  refine pwp_seq ?_
  refine r_reg ?_
  refine e_end (by kernel_rfl) ?_
  refine q_next ?_
  refine pwp_seq ?_
  refine pwp_seq ?_
  refine r_reg ?_
  refine e_end (by kernel_rfl) ?_
  refine q_next ?_
  refine pwp_block ?_
  obtain ⟨o6, h6, h⟩ := o_inl h
  refine r_loop2 33 0 (fun x2 => ⟨[(0, .int .i64 a0), (1, .int .i64 a1), (2, .int .i64 a2), (8, .int .i64 x2)], [], [], []⟩) (fun (_ : Unit) => ⟨[], [], [], []⟩) h6 (by kernel_rfl) (fun _ => by kernel_rfl) ?_ ?_
  · rintro x2 oh5 h5
    unfold d_ref06_Out_0 at h5
    refine pwp_seq ?_
    refine pwp_seq ?_
    refine r_reg ?_
    refine e_end (by kernel_rfl) ?_
    refine q_next ?_
    rcases o_cond h5 with ⟨hb, h5⟩ | ⟨hb, h5⟩
    · refine r_cond_t hb (by kernel_rfl) ?_
      refine pwp_skip ?_
      refine q_next ?_
      refine pwp_seq ?_
      refine pwp_block ?_
      refine pwp_seq ?_
      refine r_reg ?_
      refine p_run 3 (by kernel_rfl) ?_
      obtain ⟨r4, h7, h5⟩ := o_bind h5
      refine p_call (d_ref06_Need_ok _ _ _ r4 h7) (by kernel_rfl) (by kernel_rfl) ?_
      refine e_end (by kernel_rfl) ?_
      refine q_next ?_
      refine pwp_seq ?_
      refine r_reg ?_
      refine p_run 2 (by kernel_rfl) ?_
      refine e_segb 8 31 (r4.2 && ((decide (r4.1 = 0)) || (decide (r4.1 = a2)))) (fun x hx => ?_) ?_
      · rcases b_and hx with ⟨hb, hx⟩ | ⟨hb, hx⟩
        · refine p_settle 23 hb (by kernel_rfl) (by kernel_rfl) ?_
          refine p_run 3 (by kernel_rfl) ?_
          refine f_segb 4 30 ((decide (r4.1 = 0)) || (decide (r4.1 = a2))) (fun x hx => ?_) ?_
          · rcases b_or hx with ⟨hb, hx⟩ | ⟨hb, hx⟩
            · refine p_settle 26 hb (by kernel_rfl) (by kernel_rfl) ?_
              subst hx
              exact f_end (by kernel_rfl) (by kernel_rfl)
            · refine p_settle 26 hb (by kernel_rfl) (by kernel_rfl) ?_
              subst hx
              exact f_end (by kernel_rfl) (by kernel_rfl)
          · subst hx
            exact f_end (by kernel_rfl) (by kernel_rfl)
        · refine p_settle 23 hb (by kernel_rfl) (by kernel_rfl) ?_
          subst hx
          exact f_end (by kernel_rfl) (by kernel_rfl)
      · refine e_nil (by kernel_rfl) ?_
        refine q_next ?_
        rcases o_cond h5 with ⟨hb, h5⟩ | ⟨hb, h5⟩
        · refine r_cond_t hb (by kernel_rfl) ?_
          refine pwp_seq ?_
          refine r_reg ?_
          refine e_end (by kernel_rfl) ?_
          refine q_next ?_
          refine pwp_ret ?_
          refine q_block_ret ?_
          refine q_seq_ret ?_
          cases h5
          refine q_lout_ret fun he => ?_
          subst he
          have h8 := o_outr h
          refine q_block_ret ?_
          refine q_seq_ret ?_
          cases h8
          exact q_ret (by kernel_rfl) (by kernel_rfl) (by kernel_rfl)
        · refine r_cond_f hb (by kernel_rfl) ?_
          refine pwp_skip ?_
          refine q_block ?_
          refine q_next ?_
          refine r_reg ?_
          refine e_end (by kernel_rfl) ?_
          cases h5
          exact q_lback (by kernel_rfl)
    · refine r_cond_f hb (by kernel_rfl) ?_
      refine pwp_exit ?_
      refine q_seq_exit ?_
      cases h5
      exact q_lexit (by kernel_rfl) (by kernel_rfl)
  · rintro _ s' rfl hs
    have h := o_outl h
    refine q_block_hit ?_
    refine q_next (pwp_wkr hs ?_)
    refine pwp_seq ?_
    refine r_reg ?_
    refine e_end (by kernel_rfl) ?_
    refine q_next ?_
    refine pwp_ret ?_
    cases h
    exact q_ret (by kernel_rfl) (by kernel_rfl) (by kernel_rfl)

/-! signallingref11.entered -/
noncomputable def d_ref11_entered (a0 : T_api_Layout) (a1 : (List Int)) (a2 : T_api_Body) : Option (T_api_Step × Bool) :=
  (ixO a2.Steps (w64 (((a2.Steps.length : Nat) : Int) - 1))).bind fun x1 =>
  (d_ref09_Next a0 x1).bind fun r2 =>
  bif (!r2.2) then (
    some ((T_api_Step.mk 0 0 0), false)
  ) else (
    (d_ref11_Covers a2 r2.1.El).bind fun r3 =>
    (ixO a0.Elements r2.1.El).bind fun x4 =>
    (d_ref11_position a1 r2.1.El).bind fun r5 =>
    (d_ref06_Out x4.Kind r2.1.Side r5).bind fun r6 =>
    some ((T_api_Step.mk r2.1.El r2.1.Side r6.1), (r6.2 && (!r3.2)))
  )
theorem d_ref11_entered_ok (a0 : T_api_Layout) (a1 : (List Int)) (a2 : T_api_Body) (r : (T_api_Step × Bool)) (h : d_ref11_entered a0 a1 a2 = some r) : PCall Go.Proofs.Tryd.prog GlS 40 [Enc.pv a0, Enc.pv a1, Enc.pv a2] (.tup [Enc.pv r.1, Enc.pv r.2]) := by
  unfold d_ref11_entered at h
  refine pcall_of_pwp Go.Proofs.Tryd.func40 (by rfl) rfl Go.Proofs.Tryd.ntmps40 (by rfl) rfl ?_
  refine pwp_seq ?_
  refine r_reg ?_
  refine e_end (by kernel_rfl) ?_
  refine q_next ?_
  refine pwp_seq ?_
  refine r_regd (by kernel_rfl) (by kernel_rfl) ?_
  refine p_run 5 (by kernel_rfl) ?_
  refine p_len (L := (a2.Steps : (List T_api_Step))) (by kernel_rfl) ?_
  refine p_run 1 (by kernel_rfl) ?_
  obtain ⟨x1, h1, h⟩ := o_bind h
  refine p_ix h1 (by kernel_rfl) ?_
  refine p_run 1 (by kernel_rfl) ?_
  obtain ⟨r2, h2, h⟩ := o_bind h
  refine p_call (d_ref09_Next_ok _ _ r2 h2) (by kernel_rfl) (by kernel_rfl) ?_
  refine e_end (by kernel_rfl) ?_
  refine q_next ?_
  refine pwp_seq ?_
  refine pwp_seq ?_
  refine r_reg ?_
  refine e_end (by kernel_rfl) ?_
  refine q_next ?_
  rcases o_cond h with ⟨hb, h⟩ | ⟨hb, h⟩
  · refine r_cond_t hb (by kernel_rfl) ?_
    refine pwp_seq ?_
    refine r_reg ?_
    refine e_end (by kernel_rfl) ?_
    refine q_next ?_
    refine pwp_ret ?_
    refine q_seq_ret ?_
    cases h
    exact q_ret (by kernel_rfl) (by kernel_rfl) (by kernel_rfl)
  · refine r_cond_f hb (by kernel_rfl) ?_
    refine pwp_skip ?_
    refine q_next ?_
    refine pwp_seq ?_
    refine r_reg ?_
    refine p_run 3 (by kernel_rfl) ?_
    obtain ⟨r3, h3, h⟩ := o_bind h
    refine p_call (d_ref11_Covers_ok _ _ r3 h3) (by kernel_rfl) (by kernel_rfl) ?_
    refine e_end (by kernel_rfl) ?_
    refine q_next ?_
    refine pwp_seq ?_
    refine r_regd (by kernel_rfl) (by kernel_rfl) ?_
    refine p_run 4 (by kernel_rfl) ?_
    obtain ⟨x4, h4, h⟩ := o_bind h
    refine p_ix h4 (by kernel_rfl) ?_
    refine p_run 7 (by kernel_rfl) ?_
    obtain ⟨r5, h5, h⟩ := o_bind h
    refine p_call (d_ref11_position_ok _ _ r5 h5) (by kernel_rfl) (by kernel_rfl) ?_
    obtain ⟨r6, h6, h⟩ := o_bind h
    refine p_call (d_ref06_Out_ok _ _ _ r6 h6) (by kernel_rfl) (by kernel_rfl) ?_
    refine e_end (by kernel_rfl) ?_
    refine q_next ?_
    refine pwp_seq ?_
    refine r_reg ?_
    refine p_run 8 (by kernel_rfl) ?_
    refine e_segb 3 64 (r6.2 && (!r3.2)) (fun x hx => ?_) ?_
    · rcases b_and hx with ⟨hb, hx⟩ | ⟨hb, hx⟩
      · refine p_settle 61 hb (by kernel_rfl) (by kernel_rfl) ?_
        subst hx
        exact f_end (by kernel_rfl) (by kernel_rfl)
      · refine p_settle 61 hb (by kernel_rfl) (by kernel_rfl) ?_
        subst hx
        exact f_end (by kernel_rfl) (by kernel_rfl)
    · refine e_end (by kernel_rfl) ?_
      refine q_next ?_
      refine pwp_ret ?_
      cases h
      exact q_ret (by kernel_rfl) (by kernel_rfl) (by kernel_rfl)

/-! signallingref11.Move -/
noncomputable def d_ref11_Move_1 (a0 : T_api_Layout) (a2 : T_api_Body) (x42 : Int) (x45 : Int) (r89 : Int) : (List T_api_Step) → Option ((List T_api_Step) ⊕ ((List T_api_Step) ⊕ (List T_api_Step))) := fun x113 =>
  ((bif decide (1 < ((x113.length : Nat) : Int)) then (
    (d_ref11_Stretch a0 (T_api_Body.mk x113 (w64 (x45 + (min x42 (w64 (r89 - x45))))) a2.Length)).bind fun r121 =>
    (ixO x113 0).bind fun x122 =>
    (d_ref11_long a0 x122).bind fun r123 =>
    some (decide (a2.Length ≤ (w64 (r121 - r123))))
  ) else some false) : Option Bool).bind fun b120 =>
  bif b120 then (
    (slLoO x113 1).bind fun x124 =>
    some (.inl x124)
  ) else (
    some (.inr (.inl x113))
  )

noncomputable def d_ref11_Move_0 (a0 : T_api_Layout) (a1 : (List Int)) (a2 : T_api_Body) : (Int × Int × (List T_api_Step) × Int) → Option ((Int × Int × (List T_api_Step) × Int) ⊕ ((Int × (List T_api_Step) × Int) ⊕ (T_api_Body × Int × Bool))) := fun (x42, x43, x44, x45) =>
  bif decide (0 < x42) then (
    (ixO x44 (w64 (((x44.length : Nat) : Int) - 1))).bind fun x88 =>
    (d_ref11_long a0 x88).bind fun r89 =>
    Option.bind (α := (List T_api_Step)) (
      onInl (α := (List T_api_Step)) (β := (List T_api_Step)) (loopO (d_ref11_Move_1 a0 a2 x42 x45 r89) x44) fun x119 =>
      some x119
    ) fun x107 =>
    bif decide ((w64 (x42 - (min x42 (w64 (r89 - x45))))) = 0) then (
      some (.inr (.inl (w64 (x43 + (min x42 (w64 (r89 - x45)))), x107, w64 (x45 + (min x42 (w64 (r89 - x45)))))))
    ) else (
      (d_ref11_entered a0 a1 (T_api_Body.mk x107 (w64 (x45 + (min x42 (w64 (r89 - x45))))) a2.Length)).bind fun r125 =>
      bif (!r125.2) then (
        some (.inr (.inr ((T_api_Body.mk x107 (w64 (x45 + (min x42 (w64 (r89 - x45))))) a2.Length), w64 (x43 + (min x42 (w64 (r89 - x45)))), true)))
      ) else (
        (appO x107 [r125.1]).bind fun x126 =>
        some (.inl (w64 (x42 - (min x42 (w64 (r89 - x45)))), w64 (x43 + (min x42 (w64 (r89 - x45)))), x126, 0))
      )
    )
  ) else (
    some (.inr (.inl (x43, x44, x45)))
  )

noncomputable def d_ref11_Move (a0 : T_api_Layout) (a1 : (List Int)) (a2 : T_api_Body) (a3 : Int) : Option (T_api_Body × Int × Bool) :=
  (d_ref11_Check a0 a2).bind fun r1 =>
  bif (!(decide (r1 = 0))) then (
    some (a2, 0, false)
  ) else (
    (appO ([] : (List T_api_Step)) a2.Steps).bind fun x2 =>
    onInl (α := (Int × (List T_api_Step) × Int)) (β := (T_api_Body × Int × Bool)) (loopO (d_ref11_Move_0 a0 a1 a2) (max 0 (min a3 1000000), 0, x2, a2.Head)) fun (x85, x86, x87) =>
    some ((T_api_Body.mk x86 x87 a2.Length), x85, false)
  )
set_option maxRecDepth 100000 in
theorem d_ref11_Move_ok (a0 : T_api_Layout) (a1 : (List Int)) (a2 : T_api_Body) (a3 : Int) (r : (T_api_Body × Int × Bool)) (h : d_ref11_Move a0 a1 a2 a3 = some r) : PCall Go.Proofs.Tryd.prog GlS 20 [Enc.pv a0, Enc.pv a1, Enc.pv a2, Enc.pv a3] (.tup [Enc.pv r.1, Enc.pv r.2.1, Enc.pv r.2.2]) := by
  unfold d_ref11_Move at h
  refine pcall_of_pwp Go.Proofs.Tryd.func20 (by rfl) rfl Go.Proofs.Tryd.ntmps20 (by rfl) rfl ?_
  refine pwp_seq ?_
  refine r_reg ?_
  refine e_end (by kernel_rfl) ?_
  refine q_next ?_
  refine pwp_seq ?_
  refine pwp_seq ?_
  refine r_reg ?_
  refine p_run 2 (by kernel_rfl) ?_
  obtain ⟨r1, h1, h⟩ := o_bind h
  refine p_call (d_ref11_Check_ok _ _ r1 h1) (by kernel_rfl) (by kernel_rfl) ?_
  refine e_end (by kernel_rfl) ?_
  refine q_next ?_
  rcases o_cond h with ⟨hb, h⟩ | ⟨hb, h⟩
  · refine r_cond_t hb (by kernel_rfl) ?_
    refine pwp_seq ?_
    refine r_reg ?_
    refine e_end (by kernel_rfl) ?_
    refine q_next ?_
    refine pwp_ret ?_
    refine q_seq_ret ?_
    cases h
    exact q_ret (by kernel_rfl) (by kernel_rfl) (by kernel_rfl)
  · refine r_cond_f hb (by kernel_rfl) ?_
    refine pwp_skip ?_
    refine q_next ?_
    refine pwp_seq ?_
    refine r_reg ?_
    refine p_run 3 (by kernel_rfl) ?_
    obtain ⟨x2, h2, h⟩ := o_bind h
    refine p_appn (tk := 24) h2 (by kernel_rfl) ?_
    refine e_end (by kernel_rfl) ?_
    refine q_next ?_
    refine pwp_seq ?_
    refine r_reg ?_
    refine e_end (by kernel_rfl) ?_
    refine q_next ?_
    refine pwp_seq ?_
    refine r_reg ?_
    refine e_end (by kernel_rfl) ?_
    refine q_next ?_
    refine pwp_seq ?_
    refine pwp_block ?_
    obtain ⟨o84, h84, h⟩ := o_inl h
    refine r_loop2 82 0 (fun (x42, x43, x44, x45) => ⟨[(1, lstOf .frozen (a1 : (List Int))), (4, .ref 4 0), (6, .ref 6 0), (8, .ref 8 0), (11, .int .i64 x42), (12, .int .i64 x43)], [(4, .cells (cellsOf a0)), (6, .cells ([lstOf (.own 24) (x44 : (List T_api_Step)), .int .i64 x45, .int .i64 a2.Length])), (8, .cells ([.nil, .int .i64 0, .int .i64 0]))], [(24, (((x44).map cellsOf).length, 3))], []⟩) (fun (x85, x86, x87) => ⟨[(6, .ref 6 0), (8, .ref 8 0), (12, .int .i64 x85)], [(6, .cells ([lstOf (.own 24) (x86 : (List T_api_Step)), .int .i64 x87, .int .i64 a2.Length])), (8, .cells ([.nil, .int .i64 0, .int .i64 0]))], [(24, (((x86).map cellsOf).length, 3))], []⟩) h84 (by kernel_rfl) (fun _ => by kernel_rfl) ?_ ?_
    · rintro ⟨x42, x43, x44, x45⟩ oh83 h83
      unfold d_ref11_Move_0 at h83
      refine pwp_seq ?_
      refine pwp_seq ?_
      refine r_reg ?_
      refine e_end (by kernel_rfl) ?_
      refine q_next ?_
      rcases o_cond h83 with ⟨hb, h83⟩ | ⟨hb, h83⟩
      · refine r_cond_t hb (by kernel_rfl) ?_
        refine pwp_skip ?_
        refine q_next ?_
        refine pwp_block ?_
        refine pwp_seq ?_
        refine r_regd (by kernel_rfl) (by kernel_rfl) ?_
        refine p_run 6 (by kernel_rfl) ?_
        refine p_len (L := (x44 : (List T_api_Step))) (by kernel_rfl) ?_
        refine p_run 1 (by kernel_rfl) ?_
        obtain ⟨x88, h85, h83⟩ := o_bind h83
        refine p_ix h85 (by kernel_rfl) ?_
        refine p_run 1 (by kernel_rfl) ?_
        obtain ⟨r89, h86, h83⟩ := o_bind h83
        refine p_call (d_ref11_long_ok _ _ r89 h86) (by kernel_rfl) (by kernel_rfl) ?_
        refine e_end (by kernel_rfl) ?_
        refine q_next ?_
        refine pwp_seq ?_
        refine r_reg ?_
        refine e_end (by kernel_rfl) ?_
        refine q_next ?_
        refine pwp_seq ?_
        refine r_reg ?_
        refine e_end (by kernel_rfl) ?_
        refine q_next ?_
        refine pwp_seq ?_
        refine r_reg ?_
        refine e_end (by kernel_rfl) ?_
        refine q_next ?_
        refine pwp_seq ?_
        refine r_regi ?_
        refine wl_run 0 2 ?_
        refine e_end (by kernel_rfl) ?_
        refine wl_ren 1 ⟨[(1, lstOf .frozen (a1 : (List Int))), (4, .ref 1004 0), (6, .ref 1006 0), (8, .ref 1008 0), (11, .int .i64 (w64 (x42 - (min x42 (w64 (r89 - x45)))))), (12, .int .i64 (w64 (x43 + (min x42 (w64 (r89 - x45)))))), (57, Enc.pv a0), (58, .agg [lstOf (.own 1000024) (x44 : (List T_api_Step)), .int .i64 (w64 (x45 + (min x42 (w64 (r89 - x45))))), .int .i64 a2.Length])], [(1004, .cells (cellsOf a0)), (1006, .cells ([lstOf (.own 1000024) (x44 : (List T_api_Step)), .int .i64 (w64 (x45 + (min x42 (w64 (r89 - x45))))), .int .i64 a2.Length])), (1008, .cells ([.nil, .int .i64 0, .int .i64 0]))], [(1000024, (((x44).map cellsOf).length, 3))], []⟩ 82 (by kernel_rfl) (by kernel_rfl) (by kernel_rfl) ?_
        obtain ⟨o104, h104, h83⟩ := o_bind h83
        refine p_inl (f := 39) (asx := [Enc.pv a0, .agg [lstOf (.own 1000024) (x44 : (List T_api_Step)), .int .i64 (w64 (x45 + (min x42 (w64 (r89 - x45))))), .int .i64 a2.Length]]) (by kernel_rfl) Go.Proofs.Tryd.func39 (by rfl) rfl Go.Proofs.Tryd.ntmps39 (by rfl) ?_
        refine r_joinI o104 8200111 (fun x107 => ⟨[(4, .ref 4 0), (30, lstOf .frozen (a1 : (List Int))), (33, .ref 1004 0), (35, .ref 1006 0), (37, .ref 1008 0), (40, .int .i64 (w64 (x42 - (min x42 (w64 (r89 - x45)))))), (41, .int .i64 (w64 (x43 + (min x42 (w64 (r89 - x45))))))], [(4, .cells ([lstOf (.own 1000024) (x107 : (List T_api_Step)), .int .i64 (w64 (x45 + (min x42 (w64 (r89 - x45))))), .int .i64 a2.Length])), (1004, .cells (cellsOf a0)), (1006, .cells ([lstOf .frozen (x44 : (List T_api_Step)), .int .i64 (w64 (x45 + (min x42 (w64 (r89 - x45))))), .int .i64 a2.Length])), (1008, .cells ([.nil, .int .i64 0, .int .i64 0]))], [(1000024, (((x107).map cellsOf).length, 3))], []⟩) ?_ ?_
        · refine pwp_seq ?_
          refine r_reg ?_
          refine e_end (by kernel_rfl) ?_
          refine q_next ?_
          refine pwp_seq ?_
          refine pwp_block ?_
          obtain ⟨o116, h116, h104⟩ := o_inl h104
          refine r_loop2 8200111 0 (fun x113 => ⟨[(2, .ref 2 0), (3, .ref 3 0), (4, .ref 4 0), (30, lstOf .frozen (a1 : (List Int))), (33, .ref 1004 0), (35, .ref 1006 0), (37, .ref 1008 0), (40, .int .i64 (w64 (x42 - (min x42 (w64 (r89 - x45)))))), (41, .int .i64 (w64 (x43 + (min x42 (w64 (r89 - x45))))))], [(2, .cells (cellsOf a0)), (3, .cells ([lstOf (.own 1000024) (x113 : (List T_api_Step)), .int .i64 (w64 (x45 + (min x42 (w64 (r89 - x45))))), .int .i64 a2.Length])), (4, .cells ([.nil, .int .i64 0, .int .i64 0])), (1004, .cells (cellsOf a0)), (1006, .cells ([lstOf .frozen (x44 : (List T_api_Step)), .int .i64 (w64 (x45 + (min x42 (w64 (r89 - x45))))), .int .i64 a2.Length])), (1008, .cells ([.nil, .int .i64 0, .int .i64 0]))], [(1000024, (((x113).map cellsOf).length, 3))], []⟩) (fun x119 => ⟨[(3, .ref 3 0), (4, .ref 4 0), (30, lstOf .frozen (a1 : (List Int))), (33, .ref 1004 0), (35, .ref 1006 0), (37, .ref 1008 0), (40, .int .i64 (w64 (x42 - (min x42 (w64 (r89 - x45)))))), (41, .int .i64 (w64 (x43 + (min x42 (w64 (r89 - x45))))))], [(3, .cells ([lstOf (.own 1000024) (x119 : (List T_api_Step)), .int .i64 (w64 (x45 + (min x42 (w64 (r89 - x45))))), .int .i64 a2.Length])), (4, .cells ([.nil, .int .i64 0, .int .i64 0])), (1004, .cells (cellsOf a0)), (1006, .cells ([lstOf .frozen (x44 : (List T_api_Step)), .int .i64 (w64 (x45 + (min x42 (w64 (r89 - x45))))), .int .i64 a2.Length])), (1008, .cells ([.nil, .int .i64 0, .int .i64 0]))], [(1000024, (((x119).map cellsOf).length, 3))], []⟩) h116 (by kernel_rfl) (fun _ => by kernel_rfl) ?_ ?_
          · rintro x113 oh115 h115
            unfold d_ref11_Move_1 at h115
            refine pwp_seq ?_
            refine pwp_seq ?_
            refine r_regd (by kernel_rfl) (by kernel_rfl) ?_
            refine p_run 2 (by kernel_rfl) ?_
            refine p_len (L := (x113 : (List T_api_Step))) (by kernel_rfl) ?_
            obtain ⟨b120, h117, h115⟩ := o_bind h115
            refine p_run 2 (by kernel_rfl) ?_
            refine e_seg 14 23 (.bool b120) ?_ ?_
            · rcases o_cond h117 with ⟨hb, h117⟩ | ⟨hb, h117⟩
              · refine p_settle 9 hb (by kernel_rfl) (by kernel_rfl) ?_
                refine p_run 2 (by kernel_rfl) ?_
                obtain ⟨r121, h118, h117⟩ := o_bind h117
                refine p_call (d_ref11_Stretch_ok _ _ r121 h118) (by kernel_rfl) (by kernel_rfl) ?_
                refine p_run 3 (by kernel_rfl) ?_
                obtain ⟨x122, h119, h117⟩ := o_bind h117
                refine p_ix h119 (by kernel_rfl) ?_
                refine p_run 1 (by kernel_rfl) ?_
                obtain ⟨r123, h120, h117⟩ := o_bind h117
                refine p_call (d_ref11_long_ok _ _ r123 h120) (by kernel_rfl) (by kernel_rfl) ?_
                cases h117
                exact f_end (by kernel_rfl) (by kernel_rfl)
              · refine p_settle 9 hb (by kernel_rfl) (by kernel_rfl) ?_
                cases h117
                exact f_end (by kernel_rfl) (by kernel_rfl)
            · refine e_nil (by kernel_rfl) ?_
              refine q_next ?_
              rcases o_cond h115 with ⟨hb, h115⟩ | ⟨hb, h115⟩
              · refine r_cond_t hb (by kernel_rfl) ?_
                refine pwp_skip ?_
                refine q_next ?_
                refine pwp_block ?_
                refine r_reg_w ?_
                refine p_run 2 (by kernel_rfl) ?_
                obtain ⟨x124, h121, h115⟩ := o_bind h115
                refine p_slR 1000024 900026 h121 (by kernel_rfl) (by kernel_rfl) ?_
                refine e_end (by kernel_rfl) ?_
                refine ⟨_, wkr_swap 1000024 900026 ⟨[(2, .ref 2 0), (3, .ref 3 0), (4, .ref 4 0), (30, lstOf .frozen (a1 : (List Int))), (33, .ref 1004 0), (35, .ref 1006 0), (37, .ref 1008 0), (40, .int .i64 (w64 (x42 - (min x42 (w64 (r89 - x45)))))), (41, .int .i64 (w64 (x43 + (min x42 (w64 (r89 - x45))))))], [(2, .cells (cellsOf a0)), (3, .cells ([lstOf (.own 1000024) (x124 : (List T_api_Step)), .int .i64 (w64 (x45 + (min x42 (w64 (r89 - x45))))), .int .i64 a2.Length])), (4, .cells ([.nil, .int .i64 0, .int .i64 0])), (1004, .cells (cellsOf a0)), (1006, .cells ([lstOf .frozen (x44 : (List T_api_Step)), .int .i64 (w64 (x45 + (min x42 (w64 (r89 - x45))))), .int .i64 a2.Length])), (1008, .cells ([.nil, .int .i64 0, .int .i64 0]))], [(1000024, (((x124).map cellsOf).length, 3))], []⟩ 8200111 (by kernel_rfl) (by kernel_rfl) (by kernel_rfl), ?_⟩
                refine q_block ?_
                cases h115
                exact q_lback (by kernel_rfl)
              · refine r_cond_f hb (by kernel_rfl) ?_
                refine pwp_exit ?_
                refine q_seq_exit ?_
                cases h115
                exact q_lexit (by kernel_rfl) (by kernel_rfl)
          · rintro x119 s' rfl hs
            have h104 := o_outl h104
            refine q_block_hit ?_
            refine q_next (pwp_wkr hs ?_)
            refine pwp_seq ?_
            refine r_reg ?_
            refine e_end (by kernel_rfl) ?_
            refine q_next ?_
            refine pwp_ret ?_
            cases h104
            exact q_ij (by kernel_rfl) (by kernel_rfl)
        · generalize o104 = x107 at *
          refine q_inl (r := .agg [lstOf (.own 1000024) (x107 : (List T_api_Step)), .int .i64 (w64 (x45 + (min x42 (w64 (r89 - x45))))), .int .i64 a2.Length]) (by kernel_rfl) ?_
          refine wl_ren 2 ⟨[(1, lstOf .frozen (a1 : (List Int))), (4, .ref 1004 0), (6, .ref 1006 0), (8, .ref 1008 0), (11, .int .i64 (w64 (x42 - (min x42 (w64 (r89 - x45)))))), (12, .int .i64 (w64 (x43 + (min x42 (w64 (r89 - x45)))))), (59, .agg [lstOf (.own 1000024) (x107 : (List T_api_Step)), .int .i64 (w64 (x45 + (min x42 (w64 (r89 - x45))))), .int .i64 a2.Length])], [(1004, .cells (cellsOf a0)), (1006, .cells ([lstOf .frozen (x44 : (List T_api_Step)), .int .i64 (w64 (x45 + (min x42 (w64 (r89 - x45))))), .int .i64 a2.Length])), (1008, .cells ([.nil, .int .i64 0, .int .i64 0]))], [(1000024, (((x107).map cellsOf).length, 3))], []⟩ 82 (by kernel_rfl) (by kernel_rfl) (by kernel_rfl) ?_
          refine wl_ren 1 ⟨[(1, lstOf .frozen (a1 : (List Int))), (4, .ref 4 0), (6, .ref 6 0), (8, .ref 8 0), (11, .int .i64 (w64 (x42 - (min x42 (w64 (r89 - x45)))))), (12, .int .i64 (w64 (x43 + (min x42 (w64 (r89 - x45)))))), (59, .agg [lstOf (.own 24) (x107 : (List T_api_Step)), .int .i64 (w64 (x45 + (min x42 (w64 (r89 - x45))))), .int .i64 a2.Length])], [(4, .cells (cellsOf a0)), (6, .cells ([lstOf .frozen (x44 : (List T_api_Step)), .int .i64 (w64 (x45 + (min x42 (w64 (r89 - x45))))), .int .i64 a2.Length])), (8, .cells ([.nil, .int .i64 0, .int .i64 0]))], [(24, (((x107).map cellsOf).length, 3))], []⟩ 82 (by kernel_rfl) (by kernel_rfl) (by kernel_rfl) ?_
          refine wl_run 3 1 ?_
          refine e_end (by kernel_rfl) ?_
          refine wl_end ?_
          refine q_next ?_
          refine pwp_seq ?_
          refine pwp_seq ?_
          refine r_reg ?_
          refine e_end (by kernel_rfl) ?_
          refine q_next ?_
          rcases o_cond h83 with ⟨hb, h83⟩ | ⟨hb, h83⟩
          · refine r_cond_t hb (by kernel_rfl) ?_
            refine pwp_exit ?_
            refine q_seq_exit ?_
            refine q_block_miss rfl ?_
            cases h83
            exact q_lexit (by kernel_rfl) (by kernel_rfl)
          · refine r_cond_f hb (by kernel_rfl) ?_
            refine pwp_skip ?_
            refine q_next ?_
            refine pwp_seq ?_
            refine r_reg ?_
            refine p_run 3 (by kernel_rfl) ?_
            obtain ⟨r125, h122, h83⟩ := o_bind h83
            refine p_call (d_ref11_entered_ok _ _ _ r125 h122) (by kernel_rfl) (by kernel_rfl) ?_
            refine e_end (by kernel_rfl) ?_
            refine q_next ?_
            refine pwp_seq ?_
            refine pwp_seq ?_
            refine r_reg ?_
            refine e_end (by kernel_rfl) ?_
            refine q_next ?_
            rcases o_cond h83 with ⟨hb, h83⟩ | ⟨hb, h83⟩
            · refine r_cond_t hb (by kernel_rfl) ?_
              refine pwp_seq ?_
              refine r_reg ?_
              refine e_end (by kernel_rfl) ?_
              refine q_next ?_
              refine pwp_ret ?_
              refine q_seq_ret ?_
              refine q_block_ret ?_
              cases h83
              refine q_lout_ret fun he => ?_
              subst he
              have h123 := o_outr h
              refine q_block_ret ?_
              refine q_seq_ret ?_
              cases h123
              exact q_ret (by kernel_rfl) (by kernel_rfl) (by kernel_rfl)
            · refine r_cond_f hb (by kernel_rfl) ?_
              refine pwp_skip ?_
              refine q_next ?_
              refine pwp_seq ?_
              refine r_reg ?_
              refine p_run 4 (by kernel_rfl) ?_
              obtain ⟨x126, h124, h83⟩ := o_bind h83
              refine p_app (tk := 24) h124 (by kernel_rfl) (by kernel_rfl) ?_
              refine e_end (by kernel_rfl) ?_
              refine q_next ?_
              refine r_reg ?_
              refine e_end (by kernel_rfl) ?_
              refine q_block ?_
              cases h83
              exact q_lback (by kernel_rfl)
      · refine r_cond_f hb (by kernel_rfl) ?_
        refine pwp_exit ?_
        refine q_seq_exit ?_
        cases h83
        exact q_lexit (by kernel_rfl) (by kernel_rfl)
    · rintro ⟨x85, x86, x87⟩ s' rfl hs
      have h := o_outl h
      refine q_block_hit ?_
      refine q_next (pwp_wkr hs ?_)
      refine pwp_seq ?_
      refine r_reg ?_
      refine e_end (by kernel_rfl) ?_
      refine q_next ?_
      refine pwp_ret ?_
      cases h
      exact q_ret (by kernel_rfl) (by kernel_rfl) (by kernel_rfl)

/-! signallinglaw11.BodyMoves -/
noncomputable def d_law11_BodyMoves (a0 : T_api_Layout) (a1 : (List Int)) (a2 : T_api_Body) (a3 : Int) : Option Bool :=
  (d_law11_few a0 a1 a2).bind fun r1 =>
  bif (!r1) then (
    (d_law11_alive ).bind fun r2 =>
    some r2
  ) else (
    (d_body_Move a0 a1 a2 a3).bind fun r3 =>
    (d_ref11_Move a0 a1 a2 a3).bind fun r4 =>
    (d_ref11_Same r3.1 r4.1).bind fun r5 =>
    ((bif ((r5 && (decide (r3.2.1 = r4.2.1))) && (r3.2.2 == r4.2.2)) then (
      (d_law11_alive ).bind fun r7 =>
      some r7
    ) else some false) : Option Bool).bind fun b6 =>
    some b6
  )
theorem d_law11_BodyMoves_ok (a0 : T_api_Layout) (a1 : (List Int)) (a2 : T_api_Body) (a3 : Int) (r : Bool) (h : d_law11_BodyMoves a0 a1 a2 a3 = some r) : PCall Go.Proofs.Tryd.prog GlS 5 [Enc.pv a0, Enc.pv a1, Enc.pv a2, Enc.pv a3] (Enc.pv r) := by
  unfold d_law11_BodyMoves at h
  refine pcall_of_pwp Go.Proofs.Tryd.func5 (by rfl) rfl Go.Proofs.Tryd.ntmps5 (by rfl) rfl ?_
  refine pwp_seq ?_
  refine r_reg ?_
  refine e_end (by kernel_rfl) ?_
  refine q_next ?_
  refine pwp_seq ?_
  refine pwp_seq ?_
  refine r_reg ?_
  refine p_run 3 (by kernel_rfl) ?_
  obtain ⟨r1, h1, h⟩ := o_bind h
  refine p_call (d_law11_few_ok _ _ _ r1 h1) (by kernel_rfl) (by kernel_rfl) ?_
  refine e_end (by kernel_rfl) ?_
  refine q_next ?_
  rcases o_cond h with ⟨hb, h⟩ | ⟨hb, h⟩
  · refine r_cond_t hb (by kernel_rfl) ?_
    refine pwp_seq ?_
    refine r_reg ?_
    obtain ⟨r2, h2, h⟩ := o_bind h
    refine p_call (d_law11_alive_ok  r2 h2) (by kernel_rfl) (by kernel_rfl) ?_
    refine e_end (by kernel_rfl) ?_
    refine q_next ?_
    refine pwp_ret ?_
    refine q_seq_ret ?_
    cases h
    exact q_ret (by kernel_rfl) (by kernel_rfl) (by kernel_rfl)
  · refine r_cond_f hb (by kernel_rfl) ?_
    refine pwp_skip ?_
    refine q_next ?_
    refine pwp_seq ?_
    refine r_reg ?_
    refine p_run 4 (by kernel_rfl) ?_
    obtain ⟨r3, h3, h⟩ := o_bind h
    refine p_call (d_body_Move_ok _ _ _ _ r3 h3) (by kernel_rfl) (by kernel_rfl) ?_
    refine e_end (by kernel_rfl) ?_
    refine q_next ?_
    refine pwp_seq ?_
    refine r_reg ?_
    refine p_run 4 (by kernel_rfl) ?_
    obtain ⟨r4, h4, h⟩ := o_bind h
    refine p_call (d_ref11_Move_ok _ _ _ _ r4 h4) (by kernel_rfl) (by kernel_rfl) ?_
    refine e_end (by kernel_rfl) ?_
    refine q_next ?_
    refine pwp_seq ?_
    refine r_reg ?_
    refine p_run 2 (by kernel_rfl) ?_
    obtain ⟨r5, h5, h⟩ := o_bind h
    refine p_call (d_ref11_Same_ok _ _ r5 h5) (by kernel_rfl) (by kernel_rfl) ?_
    refine p_run 1 (by kernel_rfl) ?_
    refine e_segb 4 46 (r5 && (decide (r3.2.1 = r4.2.1))) (fun x hx => ?_) ?_
    · rcases b_and hx with ⟨hb, hx⟩ | ⟨hb, hx⟩
      · refine p_settle 42 hb (by kernel_rfl) (by kernel_rfl) ?_
        subst hx
        exact f_end (by kernel_rfl) (by kernel_rfl)
      · refine p_settle 42 hb (by kernel_rfl) (by kernel_rfl) ?_
        subst hx
        exact f_end (by kernel_rfl) (by kernel_rfl)
    · refine p_run 1 (by kernel_rfl) ?_
      refine e_segb 4 51 ((r5 && (decide (r3.2.1 = r4.2.1))) && (r3.2.2 == r4.2.2)) (fun x hx => ?_) ?_
      · rcases b_and hx with ⟨hb, hx⟩ | ⟨hb, hx⟩
        · refine p_settle 47 hb (by kernel_rfl) (by kernel_rfl) ?_
          subst hx
          exact f_end (by kernel_rfl) (by kernel_rfl)
        · refine p_settle 47 hb (by kernel_rfl) (by kernel_rfl) ?_
          subst hx
          exact f_end (by kernel_rfl) (by kernel_rfl)
      · obtain ⟨b6, h6, h⟩ := o_bind h
        refine p_run 1 (by kernel_rfl) ?_
        refine e_seg 2 54 (.bool b6) ?_ ?_
        · rcases o_cond h6 with ⟨hb, h6⟩ | ⟨hb, h6⟩
          · refine p_settle 52 hb (by kernel_rfl) (by kernel_rfl) ?_
            obtain ⟨r7, h7, h6⟩ := o_bind h6
            refine p_call (d_law11_alive_ok  r7 h7) (by kernel_rfl) (by kernel_rfl) ?_
            cases h6
            exact f_end (by kernel_rfl) (by kernel_rfl)
          · refine p_settle 52 hb (by kernel_rfl) (by kernel_rfl) ?_
            cases h6
            exact f_end (by kernel_rfl) (by kernel_rfl)
        · refine e_end (by kernel_rfl) ?_
          refine q_next ?_
          refine pwp_ret ?_
          cases h
          exact q_ret (by kernel_rfl) (by kernel_rfl) (by kernel_rfl)

/-! signallinglaw11.BodyCovers -/
noncomputable def d_law11_BodyCovers (a0 : T_api_Layout) (a1 : (List Int)) (a2 : T_api_Body) (a3 : Int) : Option Bool :=
  (d_law11_few a0 a1 a2).bind fun r1 =>
  ((bif (!r1) then some true else (
    (d_body_Check a0 a2).bind fun r3 =>
    some (!(decide (r3 = 0)))
  )) : Option Bool).bind fun b2 =>
  bif b2 then (
    (d_law11_alive ).bind fun r4 =>
    some r4
  ) else (
    (d_body_Move a0 a1 a2 a3).bind fun r5 =>
    (d_body_Check a0 r5.1).bind fun r6 =>
    ((bif ((((!(decide (r6 = 0))) || (!(decide (r5.1.Length = a2.Length)))) || (decide (r5.2.1 < 0))) || (decide ((max 0 a3) < r5.2.1))) then some true else (
      some (decide (((a2.Steps.length : Nat) : Int) = 0))
    )) : Option Bool).bind fun b7 =>
    bif b7 then (
      some false
    ) else (
      bif ((!r5.2.2) && (!(decide (r5.2.1 = (max 0 (min a3 1000000)))))) then (
        some false
      ) else (
        (ixO a2.Steps (w64 (((a2.Steps.length : Nat) : Int) - 1))).bind fun x8 =>
        (d_body_Covers r5.1 x8.El).bind fun r9 =>
        ((bif ((decide (a2.Length ≤ r5.2.1)) || (r9.2 && (eq_T_api_Step r9.1 x8))) then (
          (d_law11_alive ).bind fun r11 =>
          some r11
        ) else some false) : Option Bool).bind fun b10 =>
        some b10
      )
    )
  )
theorem d_law11_BodyCovers_ok (a0 : T_api_Layout) (a1 : (List Int)) (a2 : T_api_Body) (a3 : Int) (r : Bool) (h : d_law11_BodyCovers a0 a1 a2 a3 = some r) : PCall Go.Proofs.Tryd.prog GlS 6 [Enc.pv a0, Enc.pv a1, Enc.pv a2, Enc.pv a3] (Enc.pv r) := by
  unfold d_law11_BodyCovers at h
  refine pcall_of_pwp Go.Proofs.Tryd.func6 (by rfl) rfl Go.Proofs.Tryd.ntmps6 (by rfl) rfl ?_
  refine pwp_seq ?_
  refine r_reg ?_
  refine e_end (by kernel_rfl) ?_
  refine q_next ?_
  refine pwp_seq ?_
  refine pwp_seq ?_
  refine r_reg ?_
  refine p_run 3 (by kernel_rfl) ?_
  obtain ⟨r1, h1, h⟩ := o_bind h
  refine p_call (d_law11_few_ok _ _ _ r1 h1) (by kernel_rfl) (by kernel_rfl) ?_
  obtain ⟨b2, h2, h⟩ := o_bind h
  refine p_run 2 (by kernel_rfl) ?_
  refine e_seg 5 25 (.bool b2) ?_ ?_
  · rcases o_cond h2 with ⟨hb, h2⟩ | ⟨hb, h2⟩
    · refine p_settle 20 hb (by kernel_rfl) (by kernel_rfl) ?_
      cases h2
      exact f_end (by kernel_rfl) (by kernel_rfl)
    · refine p_settle 20 hb (by kernel_rfl) (by kernel_rfl) ?_
      refine p_run 2 (by kernel_rfl) ?_
      obtain ⟨r3, h3, h2⟩ := o_bind h2
      refine p_call (d_body_Check_ok _ _ r3 h3) (by kernel_rfl) (by kernel_rfl) ?_
      cases h2
      exact f_end (by kernel_rfl) (by kernel_rfl)
  · refine e_nil (by kernel_rfl) ?_
    refine q_next ?_
    rcases o_cond h with ⟨hb, h⟩ | ⟨hb, h⟩
    · refine r_cond_t hb (by kernel_rfl) ?_
      refine pwp_seq ?_
      refine r_reg ?_
      obtain ⟨r4, h4, h⟩ := o_bind h
      refine p_call (d_law11_alive_ok  r4 h4) (by kernel_rfl) (by kernel_rfl) ?_
      refine e_end (by kernel_rfl) ?_
      refine q_next ?_
      refine pwp_ret ?_
      refine q_seq_ret ?_
      cases h
      exact q_ret (by kernel_rfl) (by kernel_rfl) (by kernel_rfl)
    · refine r_cond_f hb (by kernel_rfl) ?_
      refine pwp_skip ?_
      refine q_next ?_
      refine pwp_seq ?_
      refine r_reg ?_
      refine p_run 4 (by kernel_rfl) ?_
      obtain ⟨r5, h5, h⟩ := o_bind h
      refine p_call (d_body_Move_ok _ _ _ _ r5 h5) (by kernel_rfl) (by kernel_rfl) ?_
      refine e_end (by kernel_rfl) ?_
      refine q_next ?_
      refine pwp_seq ?_
      refine pwp_seq ?_
      refine r_reg ?_
      refine p_run 2 (by kernel_rfl) ?_
      obtain ⟨r6, h6, h⟩ := o_bind h
      refine p_call (d_body_Check_ok _ _ r6 h6) (by kernel_rfl) (by kernel_rfl) ?_
      refine p_run 2 (by kernel_rfl) ?_
      refine e_segb 6 46 ((!(decide (r6 = 0))) || (!(decide (r5.1.Length = a2.Length)))) (fun x hx => ?_) ?_
      · rcases b_or hx with ⟨hb, hx⟩ | ⟨hb, hx⟩
        · refine p_settle 40 hb (by kernel_rfl) (by kernel_rfl) ?_
          subst hx
          exact f_end (by kernel_rfl) (by kernel_rfl)
        · refine p_settle 40 hb (by kernel_rfl) (by kernel_rfl) ?_
          subst hx
          exact f_end (by kernel_rfl) (by kernel_rfl)
      · refine p_run 1 (by kernel_rfl) ?_
        refine e_segb 3 50 (((!(decide (r6 = 0))) || (!(decide (r5.1.Length = a2.Length)))) || (decide (r5.2.1 < 0))) (fun x hx => ?_) ?_
        · rcases b_or hx with ⟨hb, hx⟩ | ⟨hb, hx⟩
          · refine p_settle 47 hb (by kernel_rfl) (by kernel_rfl) ?_
            subst hx
            exact f_end (by kernel_rfl) (by kernel_rfl)
          · refine p_settle 47 hb (by kernel_rfl) (by kernel_rfl) ?_
            subst hx
            exact f_end (by kernel_rfl) (by kernel_rfl)
        · refine p_run 1 (by kernel_rfl) ?_
          refine e_segb 5 56 ((((!(decide (r6 = 0))) || (!(decide (r5.1.Length = a2.Length)))) || (decide (r5.2.1 < 0))) || (decide ((max 0 a3) < r5.2.1))) (fun x hx => ?_) ?_
          · rcases b_or hx with ⟨hb, hx⟩ | ⟨hb, hx⟩
            · refine p_settle 51 hb (by kernel_rfl) (by kernel_rfl) ?_
              subst hx
              exact f_end (by kernel_rfl) (by kernel_rfl)
            · refine p_settle 51 hb (by kernel_rfl) (by kernel_rfl) ?_
              subst hx
              exact f_end (by kernel_rfl) (by kernel_rfl)
          · obtain ⟨b7, h7, h⟩ := o_bind h
            refine p_run 1 (by kernel_rfl) ?_
            refine e_seg 5 62 (.bool b7) ?_ ?_
            · rcases o_cond h7 with ⟨hb, h7⟩ | ⟨hb, h7⟩
              · refine p_settle 57 hb (by kernel_rfl) (by kernel_rfl) ?_
                cases h7
                exact f_end (by kernel_rfl) (by kernel_rfl)
              · refine p_settle 57 hb (by kernel_rfl) (by kernel_rfl) ?_
                refine p_run 2 (by kernel_rfl) ?_
                refine p_len (L := (a2.Steps : (List T_api_Step))) (by kernel_rfl) ?_
                cases h7
                exact f_end (by kernel_rfl) (by kernel_rfl)
            · refine e_nil (by kernel_rfl) ?_
              refine q_next ?_
              rcases o_cond h with ⟨hb, h⟩ | ⟨hb, h⟩
              · refine r_cond_t hb (by kernel_rfl) ?_
                refine pwp_seq ?_
                refine r_reg ?_
                refine e_end (by kernel_rfl) ?_
                refine q_next ?_
                refine pwp_ret ?_
                refine q_seq_ret ?_
                cases h
                exact q_ret (by kernel_rfl) (by kernel_rfl) (by kernel_rfl)
              · refine r_cond_f hb (by kernel_rfl) ?_
                refine pwp_skip ?_
                refine q_next ?_
                refine pwp_seq ?_
                refine pwp_seq ?_
                refine r_reg ?_
                refine p_run 3 (by kernel_rfl) ?_
                refine e_segb 6 71 ((!r5.2.2) && (!(decide (r5.2.1 = (max 0 (min a3 1000000)))))) (fun x hx => ?_) ?_
                · rcases b_and hx with ⟨hb, hx⟩ | ⟨hb, hx⟩
                  · refine p_settle 65 hb (by kernel_rfl) (by kernel_rfl) ?_
                    subst hx
                    exact f_end (by kernel_rfl) (by kernel_rfl)
                  · refine p_settle 65 hb (by kernel_rfl) (by kernel_rfl) ?_
                    subst hx
                    exact f_end (by kernel_rfl) (by kernel_rfl)
                · refine e_nil (by kernel_rfl) ?_
                  refine q_next ?_
                  rcases o_cond h with ⟨hb, h⟩ | ⟨hb, h⟩
                  · refine r_cond_t hb (by kernel_rfl) ?_
                    refine pwp_seq ?_
                    refine r_reg ?_
                    refine e_end (by kernel_rfl) ?_
                    refine q_next ?_
                    refine pwp_ret ?_
                    refine q_seq_ret ?_
                    cases h
                    exact q_ret (by kernel_rfl) (by kernel_rfl) (by kernel_rfl)
                  · refine r_cond_f hb (by kernel_rfl) ?_
                    refine pwp_skip ?_
                    refine q_next ?_
                    refine pwp_seq ?_
                    refine r_reg ?_
                    refine p_run 4 (by kernel_rfl) ?_
                    refine p_len (L := (a2.Steps : (List T_api_Step))) (by kernel_rfl) ?_
                    refine p_run 1 (by kernel_rfl) ?_
                    obtain ⟨x8, h8, h⟩ := o_bind h
                    refine p_ix h8 (by kernel_rfl) ?_
                    refine e_end (by kernel_rfl) ?_
                    refine q_next ?_
                    refine pwp_seq ?_
                    refine r_reg ?_
                    refine p_run 3 (by kernel_rfl) ?_
                    obtain ⟨r9, h9, h⟩ := o_bind h
                    refine p_call (d_body_Covers_ok _ _ r9 h9) (by kernel_rfl) (by kernel_rfl) ?_
                    refine e_end (by kernel_rfl) ?_
                    refine q_next ?_
                    refine pwp_seq ?_
                    refine r_reg ?_
                    refine p_run 5 (by kernel_rfl) ?_
                    refine e_segb 7 98 ((decide (a2.Length ≤ r5.2.1)) || (r9.2 && (eq_T_api_Step r9.1 x8))) (fun x hx => ?_) ?_
                    · rcases b_or hx with ⟨hb, hx⟩ | ⟨hb, hx⟩
                      · refine p_settle 91 hb (by kernel_rfl) (by kernel_rfl) ?_
                        subst hx
                        exact f_end (by kernel_rfl) (by kernel_rfl)
                      · refine p_settle 91 hb (by kernel_rfl) (by kernel_rfl) ?_
                        refine p_run 2 (by kernel_rfl) ?_
                        refine f_segb 4 97 (r9.2 && (eq_T_api_Step r9.1 x8)) (fun x hx => ?_) ?_
                        · rcases b_and hx with ⟨hb, hx⟩ | ⟨hb, hx⟩
                          · refine p_settle 93 hb (by kernel_rfl) (by kernel_rfl) ?_
                            subst hx
                            exact f_end (by kernel_rfl) (by kernel_rfl)
                          · refine p_settle 93 hb (by kernel_rfl) (by kernel_rfl) ?_
                            subst hx
                            exact f_end (by kernel_rfl) (by kernel_rfl)
                        · subst hx
                          exact f_end (by kernel_rfl) (by kernel_rfl)
                    · obtain ⟨b10, h10, h⟩ := o_bind h
                      refine p_run 1 (by kernel_rfl) ?_
                      refine e_seg 2 101 (.bool b10) ?_ ?_
                      · rcases o_cond h10 with ⟨hb, h10⟩ | ⟨hb, h10⟩
                        · refine p_settle 99 hb (by kernel_rfl) (by kernel_rfl) ?_
                          obtain ⟨r11, h11, h10⟩ := o_bind h10
                          refine p_call (d_law11_alive_ok  r11 h11) (by kernel_rfl) (by kernel_rfl) ?_
                          cases h10
                          exact f_end (by kernel_rfl) (by kernel_rfl)
                        · refine p_settle 99 hb (by kernel_rfl) (by kernel_rfl) ?_
                          cases h10
                          exact f_end (by kernel_rfl) (by kernel_rfl)
                      · refine e_end (by kernel_rfl) ?_
                        refine q_next ?_
                        refine pwp_ret ?_
                        cases h
                        exact q_ret (by kernel_rfl) (by kernel_rfl) (by kernel_rfl)

/-! signallinglaw11.BodyTwice -/
noncomputable def d_law11_BodyTwice (a0 : T_api_Layout) (a1 : (List Int)) (a2 : T_api_Body) (a3 : Int) (a4 : Int) : Option Bool :=
  (d_law11_few a0 a1 a2).bind fun r1 =>
  ((bif (!r1) then some true else (
    (d_body_Check a0 a2).bind fun r3 =>
    some (!(decide (r3 = 0)))
  )) : Option Bool).bind fun b2 =>
  bif ((((b2 || (decide (a3 < 0))) || (decide (400000 < a3))) || (decide (a4 < 0))) || (decide (400000 < a4))) then (
    (d_law11_alive ).bind fun r4 =>
    some r4
  ) else (
    (d_body_Move a0 a1 a2 a3).bind fun r5 =>
    bif r5.2.2 then (
      (d_body_Move a0 a1 r5.1 a4).bind fun r6 =>
      (d_ref11_Same r6.1 r5.1).bind fun r7 =>
      ((bif ((r7 && (decide (r6.2.1 = 0))) && (r6.2.2 == (decide (0 < a4)))) then (
        (d_law11_alive ).bind fun r9 =>
        some r9
      ) else some false) : Option Bool).bind fun b8 =>
      some b8
    ) else (
      (d_body_Move a0 a1 r5.1 a4).bind fun r10 =>
      (d_body_Move a0 a1 a2 (w64 (a3 + a4))).bind fun r11 =>
      (d_ref11_Same r10.1 r11.1).bind fun r12 =>
      ((bif ((r12 && (decide ((w64 (r5.2.1 + r10.2.1)) = r11.2.1))) && (r10.2.2 == r11.2.2)) then (
        (d_law11_alive ).bind fun r14 =>
        some r14
      ) else some false) : Option Bool).bind fun b13 =>
      some b13
    )
  )
theorem d_law11_BodyTwice_ok (a0 : T_api_Layout) (a1 : (List Int)) (a2 : T_api_Body) (a3 : Int) (a4 : Int) (r : Bool) (h : d_law11_BodyTwice a0 a1 a2 a3 a4 = some r) : PCall Go.Proofs.Tryd.prog GlS 7 [Enc.pv a0, Enc.pv a1, Enc.pv a2, Enc.pv a3, Enc.pv a4] (Enc.pv r) := by
  unfold d_law11_BodyTwice at h
  refine pcall_of_pwp Go.Proofs.Tryd.func7 (by rfl) rfl Go.Proofs.Tryd.ntmps7 (by rfl) rfl ?_
  refine pwp_seq ?_
  refine r_reg ?_
  refine e_end (by kernel_rfl) ?_
  refine q_next ?_
  refine pwp_seq ?_
  refine pwp_seq ?_
  refine r_reg ?_
  refine p_run 3 (by kernel_rfl) ?_
  obtain ⟨r1, h1, h⟩ := o_bind h
  refine p_call (d_law11_few_ok _ _ _ r1 h1) (by kernel_rfl) (by kernel_rfl) ?_
  obtain ⟨b2, h2, h⟩ := o_bind h
  refine p_run 2 (by kernel_rfl) ?_
  refine e_seg 5 33 (.bool b2) ?_ ?_
  · rcases o_cond h2 with ⟨hb, h2⟩ | ⟨hb, h2⟩
    · refine p_settle 28 hb (by kernel_rfl) (by kernel_rfl) ?_
      cases h2
      exact f_end (by kernel_rfl) (by kernel_rfl)
    · refine p_settle 28 hb (by kernel_rfl) (by kernel_rfl) ?_
      refine p_run 2 (by kernel_rfl) ?_
      obtain ⟨r3, h3, h2⟩ := o_bind h2
      refine p_call (d_body_Check_ok _ _ r3 h3) (by kernel_rfl) (by kernel_rfl) ?_
      cases h2
      exact f_end (by kernel_rfl) (by kernel_rfl)
  · refine p_run 1 (by kernel_rfl) ?_
    refine e_segb 3 37 (b2 || (decide (a3 < 0))) (fun x hx => ?_) ?_
    · rcases b_or hx with ⟨hb, hx⟩ | ⟨hb, hx⟩
      · refine p_settle 34 hb (by kernel_rfl) (by kernel_rfl) ?_
        subst hx
        exact f_end (by kernel_rfl) (by kernel_rfl)
      · refine p_settle 34 hb (by kernel_rfl) (by kernel_rfl) ?_
        subst hx
        exact f_end (by kernel_rfl) (by kernel_rfl)
    · refine p_run 1 (by kernel_rfl) ?_
      refine e_segb 3 41 ((b2 || (decide (a3 < 0))) || (decide (400000 < a3))) (fun x hx => ?_) ?_
      · rcases b_or hx with ⟨hb, hx⟩ | ⟨hb, hx⟩
        · refine p_settle 38 hb (by kernel_rfl) (by kernel_rfl) ?_
          subst hx
          exact f_end (by kernel_rfl) (by kernel_rfl)
        · refine p_settle 38 hb (by kernel_rfl) (by kernel_rfl) ?_
          subst hx
          exact f_end (by kernel_rfl) (by kernel_rfl)
      · refine p_run 1 (by kernel_rfl) ?_
        refine e_segb 3 45 (((b2 || (decide (a3 < 0))) || (decide (400000 < a3))) || (decide (a4 < 0))) (fun x hx => ?_) ?_
        · rcases b_or hx with ⟨hb, hx⟩ | ⟨hb, hx⟩
          · refine p_settle 42 hb (by kernel_rfl) (by kernel_rfl) ?_
            subst hx
            exact f_end (by kernel_rfl) (by kernel_rfl)
          · refine p_settle 42 hb (by kernel_rfl) (by kernel_rfl) ?_
            subst hx
            exact f_end (by kernel_rfl) (by kernel_rfl)
        · refine p_run 1 (by kernel_rfl) ?_
          refine e_segb 3 49 ((((b2 || (decide (a3 < 0))) || (decide (400000 < a3))) || (decide (a4 < 0))) || (decide (400000 < a4))) (fun x hx => ?_) ?_
          · rcases b_or hx with ⟨hb, hx⟩ | ⟨hb, hx⟩
            · refine p_settle 46 hb (by kernel_rfl) (by kernel_rfl) ?_
              subst hx
              exact f_end (by kernel_rfl) (by kernel_rfl)
            · refine p_settle 46 hb (by kernel_rfl) (by kernel_rfl) ?_
              subst hx
              exact f_end (by kernel_rfl) (by kernel_rfl)
          · refine e_nil (by kernel_rfl) ?_
            refine q_next ?_
            rcases o_cond h with ⟨hb, h⟩ | ⟨hb, h⟩
            · refine r_cond_t hb (by kernel_rfl) ?_
              refine pwp_seq ?_
              refine r_reg ?_
              obtain ⟨r4, h4, h⟩ := o_bind h
              refine p_call (d_law11_alive_ok  r4 h4) (by kernel_rfl) (by kernel_rfl) ?_
              refine e_end (by kernel_rfl) ?_
              refine q_next ?_
              refine pwp_ret ?_
              refine q_seq_ret ?_
              cases h
              exact q_ret (by kernel_rfl) (by kernel_rfl) (by kernel_rfl)
            · refine r_cond_f hb (by kernel_rfl) ?_
              refine pwp_skip ?_
              refine q_next ?_
              refine pwp_seq ?_
              refine r_reg ?_
              refine p_run 4 (by kernel_rfl) ?_
              obtain ⟨r5, h5, h⟩ := o_bind h
              refine p_call (d_body_Move_ok _ _ _ _ r5 h5) (by kernel_rfl) (by kernel_rfl) ?_
              refine e_end (by kernel_rfl) ?_
              refine q_next ?_
              refine pwp_seq ?_
              refine pwp_seq ?_
              refine r_reg ?_
              refine e_end (by kernel_rfl) ?_
              refine q_next ?_
              rcases o_cond h with ⟨hb, h⟩ | ⟨hb, h⟩
              · refine r_cond_t hb (by kernel_rfl) ?_
                refine pwp_seq ?_
                refine r_reg ?_
                refine p_run 4 (by kernel_rfl) ?_
                obtain ⟨r6, h6, h⟩ := o_bind h
                refine p_call (d_body_Move_ok _ _ _ _ r6 h6) (by kernel_rfl) (by kernel_rfl) ?_
                refine e_end (by kernel_rfl) ?_
                refine q_next ?_
                refine pwp_seq ?_
                refine r_reg ?_
                refine p_run 2 (by kernel_rfl) ?_
                obtain ⟨r7, h7, h⟩ := o_bind h
                refine p_call (d_ref11_Same_ok _ _ r7 h7) (by kernel_rfl) (by kernel_rfl) ?_
                refine p_run 1 (by kernel_rfl) ?_
                refine e_segb 3 76 (r7 && (decide (r6.2.1 = 0))) (fun x hx => ?_) ?_
                · rcases b_and hx with ⟨hb, hx⟩ | ⟨hb, hx⟩
                  · refine p_settle 73 hb (by kernel_rfl) (by kernel_rfl) ?_
                    subst hx
                    exact f_end (by kernel_rfl) (by kernel_rfl)
                  · refine p_settle 73 hb (by kernel_rfl) (by kernel_rfl) ?_
                    subst hx
                    exact f_end (by kernel_rfl) (by kernel_rfl)
                · refine p_run 1 (by kernel_rfl) ?_
                  refine e_segb 5 82 ((r7 && (decide (r6.2.1 = 0))) && (r6.2.2 == (decide (0 < a4)))) (fun x hx => ?_) ?_
                  · rcases b_and hx with ⟨hb, hx⟩ | ⟨hb, hx⟩
                    · refine p_settle 77 hb (by kernel_rfl) (by kernel_rfl) ?_
                      subst hx
                      exact f_end (by kernel_rfl) (by kernel_rfl)
                    · refine p_settle 77 hb (by kernel_rfl) (by kernel_rfl) ?_
                      subst hx
                      exact f_end (by kernel_rfl) (by kernel_rfl)
                  · obtain ⟨b8, h8, h⟩ := o_bind h
                    refine p_run 1 (by kernel_rfl) ?_
                    refine e_seg 2 85 (.bool b8) ?_ ?_
                    · rcases o_cond h8 with ⟨hb, h8⟩ | ⟨hb, h8⟩
                      · refine p_settle 83 hb (by kernel_rfl) (by kernel_rfl) ?_
                        obtain ⟨r9, h9, h8⟩ := o_bind h8
                        refine p_call (d_law11_alive_ok  r9 h9) (by kernel_rfl) (by kernel_rfl) ?_
                        cases h8
                        exact f_end (by kernel_rfl) (by kernel_rfl)
                      · refine p_settle 83 hb (by kernel_rfl) (by kernel_rfl) ?_
                        cases h8
                        exact f_end (by kernel_rfl) (by kernel_rfl)
                    · refine e_end (by kernel_rfl) ?_
                      refine q_next ?_
                      refine pwp_ret ?_
                      refine q_seq_ret ?_
                      cases h
                      exact q_ret (by kernel_rfl) (by kernel_rfl) (by kernel_rfl)
              · refine r_cond_f hb (by kernel_rfl) ?_
                refine pwp_skip ?_
                refine q_next ?_
                refine pwp_seq ?_
                refine r_reg ?_
                refine p_run 4 (by kernel_rfl) ?_
                obtain ⟨r10, h10, h⟩ := o_bind h
                refine p_call (d_body_Move_ok _ _ _ _ r10 h10) (by kernel_rfl) (by kernel_rfl) ?_
                refine e_end (by kernel_rfl) ?_
                refine q_next ?_
                refine pwp_seq ?_
                refine r_reg ?_
                refine p_run 6 (by kernel_rfl) ?_
                obtain ⟨r11, h11, h⟩ := o_bind h
                refine p_call (d_body_Move_ok _ _ _ _ r11 h11) (by kernel_rfl) (by kernel_rfl) ?_
                refine e_end (by kernel_rfl) ?_
                refine q_next ?_
                refine pwp_seq ?_
                refine r_reg ?_
                refine p_run 2 (by kernel_rfl) ?_
                obtain ⟨r12, h12, h⟩ := o_bind h
                refine p_call (d_ref11_Same_ok _ _ r12 h12) (by kernel_rfl) (by kernel_rfl) ?_
                refine p_run 1 (by kernel_rfl) ?_
                refine e_segb 6 115 (r12 && (decide ((w64 (r5.2.1 + r10.2.1)) = r11.2.1))) (fun x hx => ?_) ?_
                · rcases b_and hx with ⟨hb, hx⟩ | ⟨hb, hx⟩
                  · refine p_settle 109 hb (by kernel_rfl) (by kernel_rfl) ?_
                    subst hx
                    exact f_end (by kernel_rfl) (by kernel_rfl)
                  · refine p_settle 109 hb (by kernel_rfl) (by kernel_rfl) ?_
                    subst hx
                    exact f_end (by kernel_rfl) (by kernel_rfl)
                · refine p_run 1 (by kernel_rfl) ?_
                  refine e_segb 4 120 ((r12 && (decide ((w64 (r5.2.1 + r10.2.1)) = r11.2.1))) && (r10.2.2 == r11.2.2)) (fun x hx => ?_) ?_
                  · rcases b_and hx with ⟨hb, hx⟩ | ⟨hb, hx⟩
                    · refine p_settle 116 hb (by kernel_rfl) (by kernel_rfl) ?_
                      subst hx
                      exact f_end (by kernel_rfl) (by kernel_rfl)
                    · refine p_settle 116 hb (by kernel_rfl) (by kernel_rfl) ?_
                      subst hx
                      exact f_end (by kernel_rfl) (by kernel_rfl)
                  · obtain ⟨b13, h13, h⟩ := o_bind h
                    refine p_run 1 (by kernel_rfl) ?_
                    refine e_seg 2 123 (.bool b13) ?_ ?_
                    · rcases o_cond h13 with ⟨hb, h13⟩ | ⟨hb, h13⟩
                      · refine p_settle 121 hb (by kernel_rfl) (by kernel_rfl) ?_
                        obtain ⟨r14, h14, h13⟩ := o_bind h13
                        refine p_call (d_law11_alive_ok  r14 h14) (by kernel_rfl) (by kernel_rfl) ?_
                        cases h13
                        exact f_end (by kernel_rfl) (by kernel_rfl)
                      · refine p_settle 121 hb (by kernel_rfl) (by kernel_rfl) ?_
                        cases h13
                        exact f_end (by kernel_rfl) (by kernel_rfl)
                    · refine e_end (by kernel_rfl) ?_
                      refine q_next ?_
                      refine pwp_ret ?_
                      cases h
                      exact q_ret (by kernel_rfl) (by kernel_rfl) (by kernel_rfl)

end PM
