/-
  Plain functions for the program's functions, and the proofs that the program does them. Printed by den.py.
-/
import Derived.Test.YtaoagcnjefialaaDoorDen1
namespace PM
open Go Go.RowKit
attribute [local irreducible] pops pwp

/-! signallingref09.insert -/
noncomputable def d_ref09_insert_0 (a0 : (List T_api_Setting)) (a1 : T_api_Setting) : (Int × (List T_api_Setting)) → Option ((Int × (List T_api_Setting)) ⊕ (((List T_api_Setting) × Int) ⊕ (List T_api_Setting))) := fun (x18, x19) =>
  ((bif decide (x18 < ((a0.length : Nat) : Int)) then (
    (ixO a0 x18).bind fun x31 =>
    ((bif decide (x31.El < a1.El) then some true else (
      (ixO a0 x18).bind fun x33 =>
      ((bif decide (x33.El = a1.El) then (
        (ixO a0 x18).bind fun x35 =>
        some (decide (x35.Pos < a1.Pos))
      ) else some false) : Option Bool).bind fun b34 =>
      some b34
    )) : Option Bool).bind fun b32 =>
    some b32
  ) else some false) : Option Bool).bind fun b30 =>
  bif b30 then (
    (ixO a0 x18).bind fun x36 =>
    (appO x19 [x36]).bind fun x37 =>
    some (.inl (w64 (x18 + 1), x37))
  ) else (
    some (.inr (.inl (x19, x18)))
  )

noncomputable def d_ref09_insert (a0 : (List T_api_Setting)) (a1 : T_api_Setting) : Option (List T_api_Setting) :=
  onInl (α := ((List T_api_Setting) × Int)) (β := (List T_api_Setting)) (loopO (d_ref09_insert_0 a0 a1) (0, ([] : (List T_api_Setting)))) fun (x28, x29) =>
  onInl (α := (List T_api_Setting)) (β := (List T_api_Setting)) (
    ((bif decide (x29 = ((a0.length : Nat) : Int)) then some true else (
      (ixO a0 x29).bind fun x43 =>
      some (!(eq_T_api_Setting x43 a1))
    )) : Option Bool).bind fun b42 =>
    bif b42 then (
      (appO x28 [a1]).bind fun x44 =>
      some (.inl x44)
    ) else (
      some (.inl x28)
    )
  ) fun x41 =>
  (slO a0 (some x29) none none).bind fun x45 =>
  (appO x41 x45).bind fun x46 =>
  some x46
theorem d_ref09_insert_ok (a0 : (List T_api_Setting)) (a1 : T_api_Setting) (r : (List T_api_Setting)) (h : d_ref09_insert a0 a1 = some r) : PCall Go.Proofs.Tryd.prog GlS 71 [Enc.pv a0, Enc.pv a1] (lstOf (.own 100005) r) := by
  unfold d_ref09_insert at h
  refine pcall_of_pwp Go.Proofs.Tryd.func71 (by rfl) rfl Go.Proofs.Tryd.ntmps71 (by rfl) rfl ?_
  refine pwp_seq ?_
  refine r_reg ?_
  refine e_end (by kernel_rfl) ?_
  refine q_next ?_
  refine pwp_seq ?_
  refine r_reg ?_
  refine e_end (by kernel_rfl) ?_
  refine q_next ?_
  refine pwp_seq ?_
  refine r_reg ?_
  refine e_end (by kernel_rfl) ?_
  refine q_next ?_
  refine pwp_seq ?_
  refine pwp_block ?_
  refine g_nil 5 100005 2 16 (by kernel_rfl) (by kernel_rfl) ?_
  obtain ⟨o26, h26, h⟩ := o_inl h
  refine r_loop2 72 0 (fun (x18, x19) => ⟨[(0, lstOf .frozen (a0 : (List T_api_Setting))), (3, .ref 3 0), (5, lstOf (.own 100005) (x19 : (List T_api_Setting))), (6, .int .i64 x18)], [(3, .cells (cellsOf a1))], [(100005, (((x19).map cellsOf).length, 2))], []⟩) (fun (x28, x29) => ⟨[(0, lstOf .frozen (a0 : (List T_api_Setting))), (3, .ref 3 0), (5, lstOf (.own 100005) (x28 : (List T_api_Setting))), (6, .int .i64 x29)], [(3, .cells (cellsOf a1))], [(100005, (((x28).map cellsOf).length, 2))], []⟩) h26 (by kernel_rfl) (fun _ => by kernel_rfl) ?_ ?_
  · rintro ⟨x18, x19⟩ oh25 h25
    unfold d_ref09_insert_0 at h25
    refine pwp_seq ?_
    refine pwp_seq ?_
    refine r_regd (by kernel_rfl) (by kernel_rfl) ?_
    refine p_run 2 (by kernel_rfl) ?_
    refine p_len (L := (a0 : (List T_api_Setting))) (by kernel_rfl) ?_
    obtain ⟨b30, h27, h25⟩ := o_bind h25
    refine p_run 2 (by kernel_rfl) ?_
    refine e_seg 29 40 (.bool b30) ?_ ?_
    · rcases o_cond h27 with ⟨hb, h27⟩ | ⟨hb, h27⟩
      · refine p_settle 11 hb (by kernel_rfl) (by kernel_rfl) ?_
        refine p_run 2 (by kernel_rfl) ?_
        obtain ⟨x31, h28, h27⟩ := o_bind h27
        refine p_ix h28 (by kernel_rfl) ?_
        obtain ⟨b32, h29, h27⟩ := o_bind h27
        refine p_run 6 (by kernel_rfl) ?_
        refine f_seg 19 39 (.bool b32) ?_ ?_
        · rcases o_cond h29 with ⟨hb, h29⟩ | ⟨hb, h29⟩
          · refine p_settle 20 hb (by kernel_rfl) (by kernel_rfl) ?_
            cases h29
            exact f_end (by kernel_rfl) (by kernel_rfl)
          · refine p_settle 20 hb (by kernel_rfl) (by kernel_rfl) ?_
            refine p_run 2 (by kernel_rfl) ?_
            obtain ⟨x33, h30, h29⟩ := o_bind h29
            refine p_ix h30 (by kernel_rfl) ?_
            obtain ⟨b34, h31, h29⟩ := o_bind h29
            refine p_run 6 (by kernel_rfl) ?_
            refine f_seg 9 38 (.bool b34) ?_ ?_
            · rcases o_cond h31 with ⟨hb, h31⟩ | ⟨hb, h31⟩
              · refine p_settle 29 hb (by kernel_rfl) (by kernel_rfl) ?_
                refine p_run 2 (by kernel_rfl) ?_
                obtain ⟨x35, h32, h31⟩ := o_bind h31
                refine p_ix h32 (by kernel_rfl) ?_
                cases h31
                exact f_end (by kernel_rfl) (by kernel_rfl)
              · refine p_settle 29 hb (by kernel_rfl) (by kernel_rfl) ?_
                cases h31
                exact f_end (by kernel_rfl) (by kernel_rfl)
            · cases h29
              exact f_end (by kernel_rfl) (by kernel_rfl)
        · cases h27
          exact f_end (by kernel_rfl) (by kernel_rfl)
      · refine p_settle 11 hb (by kernel_rfl) (by kernel_rfl) ?_
        cases h27
        exact f_end (by kernel_rfl) (by kernel_rfl)
    · refine e_nil (by kernel_rfl) ?_
      refine q_next ?_
      rcases o_cond h25 with ⟨hb, h25⟩ | ⟨hb, h25⟩
      · refine r_cond_t hb (by kernel_rfl) ?_
        refine pwp_skip ?_
        refine q_next ?_
        refine pwp_block ?_
        refine pwp_seq ?_
        refine r_reg ?_
        refine p_run 3 (by kernel_rfl) ?_
        obtain ⟨x36, h33, h25⟩ := o_bind h25
        refine p_ix h33 (by kernel_rfl) ?_
        refine p_run 2 (by kernel_rfl) ?_
        obtain ⟨x37, h34, h25⟩ := o_bind h25
        refine p_app (tk := 100005) h34 (by kernel_rfl) (by kernel_rfl) ?_
        refine e_end (by kernel_rfl) ?_
        refine q_next ?_
        refine r_reg ?_
        refine e_end (by kernel_rfl) ?_
        refine q_block ?_
        cases h25
        exact q_lback (by kernel_rfl)
      · refine r_cond_f hb (by kernel_rfl) ?_
        refine pwp_exit ?_
        refine q_seq_exit ?_
        cases h25
        exact q_lexit (by kernel_rfl) (by kernel_rfl)
  · rintro ⟨x28, x29⟩ s' rfl hs
    have h := o_outl h
    refine q_block_hit ?_
    refine q_next (pwp_wkr hs ?_)
    obtain ⟨o38, h38, h⟩ := o_inl h
    refine r_join (o := o38) 72 (fun x41 => ⟨[(0, lstOf .frozen (a0 : (List T_api_Setting))), (5, lstOf (.own 100005) (x41 : (List T_api_Setting))), (6, .int .i64 x29)], [], [(100005, (((x41).map cellsOf).length, 2))], []⟩) ?_ ?_
    · refine pwp_seq ?_
      refine r_regd (by kernel_rfl) (by kernel_rfl) ?_
      refine p_run 2 (by kernel_rfl) ?_
      refine p_len (L := (a0 : (List T_api_Setting))) (by kernel_rfl) ?_
      obtain ⟨b42, h39, h38⟩ := o_bind h38
      refine p_run 2 (by kernel_rfl) ?_
      refine e_seg 7 61 (.bool b42) ?_ ?_
      · rcases o_cond h39 with ⟨hb, h39⟩ | ⟨hb, h39⟩
        · refine p_settle 54 hb (by kernel_rfl) (by kernel_rfl) ?_
          cases h39
          exact f_end (by kernel_rfl) (by kernel_rfl)
        · refine p_settle 54 hb (by kernel_rfl) (by kernel_rfl) ?_
          refine p_run 2 (by kernel_rfl) ?_
          obtain ⟨x43, h40, h39⟩ := o_bind h39
          refine p_ix h40 (by kernel_rfl) ?_
          cases h39
          exact f_end (by kernel_rfl) (by kernel_rfl)
      · refine e_nil (by kernel_rfl) ?_
        refine q_next ?_
        rcases o_cond h38 with ⟨hb, h38⟩ | ⟨hb, h38⟩
        · refine r_cond_t hb (by kernel_rfl) ?_
          refine r_reg ?_
          refine p_run 3 (by kernel_rfl) ?_
          obtain ⟨x44, h41, h38⟩ := o_bind h38
          refine p_app (tk := 100005) h41 (by kernel_rfl) (by kernel_rfl) ?_
          refine e_end (by kernel_rfl) ?_
          cases h38
          exact q_join (by kernel_rfl) (by kernel_rfl)
        · refine r_cond_f hb (by kernel_rfl) ?_
          refine pwp_skip ?_
          cases h38
          exact q_join (by kernel_rfl) (by kernel_rfl)
    · rintro x41 rfl
      have h := o_outl h
      refine pwp_seq ?_
      refine r_reg ?_
      refine p_run 3 (by kernel_rfl) ?_
      obtain ⟨x45, h42, h⟩ := o_bind h
      refine p_sl h42 .frozen (by kernel_rfl) (by kernel_rfl) (by kernel_rfl) ?_
      obtain ⟨x46, h43, h⟩ := o_bind h
      refine p_app (tk := 100005) h43 (by kernel_rfl) (by kernel_rfl) ?_
      refine e_end (by kernel_rfl) ?_
      refine q_next ?_
      refine pwp_seq ?_
      refine r_reg ?_
      refine e_end (by kernel_rfl) ?_
      refine q_next ?_
      refine pwp_ret ?_
      cases h
      exact q_ret (by kernel_rfl) (by kernel_rfl) (by kernel_rfl)
theorem d_ref09_insert_fz (a0 : (List T_api_Setting)) (a1 : T_api_Setting) (r : (List T_api_Setting)) (h : d_ref09_insert a0 a1 = some r) : PCall Go.Proofs.Tryd.prog GlS 71 [Enc.pv a0, Enc.pv a1] (Enc.pv r) :=
  (d_ref09_insert_ok a0 a1 r h).freeze (by kernel_rfl) (by kernel_rfl) (by kernel_rfl)

/-! signallingref09.Settings -/
noncomputable def d_ref09_Settings_0 (a0 : T_api_Layout) (a1 : (List T_api_Step)) : (Int × (List T_api_Setting)) → Option ((Int × (List T_api_Setting)) ⊕ ((List T_api_Setting) ⊕ (List T_api_Setting))) := fun (x20, x21) =>
  bif decide (x20 < ((a1.length : Nat) : Int)) then (
    onInl (α := (List T_api_Setting)) (β := ((Int × (List T_api_Setting)) ⊕ ((List T_api_Setting) ⊕ (List T_api_Setting)))) (
      (ixO a1 x20).bind fun x37 =>
      (d_ref09_need a0 x37).bind fun r38 =>
      bif (r38.2 && (!(decide (r38.1 = 0)))) then (
        (ixO a1 x20).bind fun x39 =>
        (d_ref09_insert x21 (T_api_Setting.mk x39.El r38.1)).bind fun r40 =>
        some (.inl r40)
      ) else (
        some (.inl x21)
      )
    ) fun x36 =>
    some (.inl (w64 (x20 + 1), x36))
  ) else (
    some (.inr (.inl x21))
  )

noncomputable def d_ref09_Settings (a0 : T_api_Layout) (a1 : (List T_api_Step)) : Option (List T_api_Setting) :=
  onInl (α := (List T_api_Setting)) (β := (List T_api_Setting)) (loopO (d_ref09_Settings_0 a0 a1) (0, ([] : (List T_api_Setting)))) fun x31 =>
  some x31
theorem d_ref09_Settings_ok (a0 : T_api_Layout) (a1 : (List T_api_Step)) (r : (List T_api_Setting)) (h : d_ref09_Settings a0 a1 = some r) : PCall Go.Proofs.Tryd.prog GlS 39 [Enc.pv a0, Enc.pv a1] (Enc.pv r) := by
  unfold d_ref09_Settings at h
  refine pcall_of_pwp Go.Proofs.Tryd.func39 (by rfl) rfl Go.Proofs.Tryd.ntmps39 (by rfl) rfl ?_
  refine pwp_seq ?_
  refine r_reg ?_
  refine e_end (by kernel_rfl) ?_
  refine q_next ?_
  refine pwp_seq ?_
  refine r_reg ?_
  refine e_end (by kernel_rfl) ?_
  refine q_next ?_
  refine pwp_seq ?_
  refine pwp_seq ?_
  refine r_reg ?_
  refine e_end (by kernel_rfl) ?_
  refine q_next ?_
  refine pwp_block ?_
  obtain ⟨o29, h29, h⟩ := o_inl h
  refine r_loop2 39 0 (fun (x20, x21) => ⟨[(1, lstOf .frozen (a1 : (List T_api_Step))), (2, .ref 2 0), (5, lstOf .frozen (x21 : (List T_api_Setting))), (6, .int .i64 x20)], [(2, .cells (cellsOf a0))], [], []⟩) (fun x31 => ⟨[(5, lstOf .frozen (x31 : (List T_api_Setting)))], [], [], []⟩) h29 (by kernel_rfl) (fun _ => by kernel_rfl) ?_ ?_
  · rintro ⟨x20, x21⟩ oh28 h28
    unfold d_ref09_Settings_0 at h28
    refine pwp_seq ?_
    refine pwp_seq ?_
    refine r_reg ?_
    refine p_run 2 (by kernel_rfl) ?_
    refine p_len (L := (a1 : (List T_api_Step))) (by kernel_rfl) ?_
    refine e_end (by kernel_rfl) ?_
    refine q_next ?_
    rcases o_cond h28 with ⟨hb, h28⟩ | ⟨hb, h28⟩
    · refine r_cond_t hb (by kernel_rfl) ?_
      refine pwp_skip ?_
      refine q_next ?_
      obtain ⟨o34, h34, h28⟩ := o_inl h28
      refine r_join (o := o34) 39 (fun x36 => ⟨[(1, lstOf .frozen (a1 : (List T_api_Step))), (2, .ref 2 0), (5, lstOf .frozen (x36 : (List T_api_Setting))), (6, .int .i64 x20)], [(2, .cells (cellsOf a0))], [], []⟩) ?_ ?_
      · refine pwp_block ?_
        refine pwp_seq ?_
        refine r_regd (by kernel_rfl) (by kernel_rfl) ?_
        refine p_run 3 (by kernel_rfl) ?_
        obtain ⟨x37, h35, h34⟩ := o_bind h34
        refine p_ix h35 (by kernel_rfl) ?_
        refine p_run 1 (by kernel_rfl) ?_
        obtain ⟨r38, h36, h34⟩ := o_bind h34
        refine p_call (d_ref09_need_ok _ _ r38 h36) (by kernel_rfl) (by kernel_rfl) ?_
        refine e_end (by kernel_rfl) ?_
        refine q_next ?_
        refine pwp_seq ?_
        refine r_reg ?_
        refine p_run 2 (by kernel_rfl) ?_
        refine e_segb 3 28 (r38.2 && (!(decide (r38.1 = 0)))) (fun x hx => ?_) ?_
        · rcases b_and hx with ⟨hb, hx⟩ | ⟨hb, hx⟩
          · refine p_settle 25 hb (by kernel_rfl) (by kernel_rfl) ?_
            subst hx
            exact f_end (by kernel_rfl) (by kernel_rfl)
          · refine p_settle 25 hb (by kernel_rfl) (by kernel_rfl) ?_
            subst hx
            exact f_end (by kernel_rfl) (by kernel_rfl)
        · refine e_nil (by kernel_rfl) ?_
          refine q_next ?_
          rcases o_cond h34 with ⟨hb, h34⟩ | ⟨hb, h34⟩
          · refine r_cond_t hb (by kernel_rfl) ?_
            refine r_reg ?_
            refine p_run 3 (by kernel_rfl) ?_
            obtain ⟨x39, h37, h34⟩ := o_bind h34
            refine p_ix h37 (by kernel_rfl) ?_
            refine p_run 4 (by kernel_rfl) ?_
            obtain ⟨r40, h38, h34⟩ := o_bind h34
            refine p_call (d_ref09_insert_ok _ _ r40 h38) (by kernel_rfl) (by kernel_rfl) ?_
            refine e_end (by kernel_rfl) ?_
            refine q_block ?_
            cases h34
            exact q_join (by kernel_rfl) (by kernel_rfl)
          · refine r_cond_f hb (by kernel_rfl) ?_
            refine pwp_skip ?_
            refine q_block ?_
            cases h34
            exact q_join (by kernel_rfl) (by kernel_rfl)
      · rintro x36 rfl
        have h28 := o_outl h28
        refine r_reg ?_
        refine e_end (by kernel_rfl) ?_
        cases h28
        exact q_lback (by kernel_rfl)
    · refine r_cond_f hb (by kernel_rfl) ?_
      refine pwp_exit ?_
      refine q_seq_exit ?_
      cases h28
      exact q_lexit (by kernel_rfl) (by kernel_rfl)
  · rintro x31 s' rfl hs
    have h := o_outl h
    refine q_block_hit ?_
    refine q_next (pwp_wkr hs ?_)
    refine pwp_seq ?_
    refine r_reg ?_
    refine e_end (by kernel_rfl) ?_
    refine q_next ?_
    refine pwp_ret ?_
    cases h
    exact q_ret (by kernel_rfl) (by kernel_rfl) (by kernel_rfl)

/-! signallingref09.has -/
noncomputable def d_ref09_has_0 (a0 : (List Int)) (a1 : Int) : Int → Option (Int ⊕ (Unit ⊕ Bool)) := fun x2 =>
  bif decide (x2 < ((a0.length : Nat) : Int)) then (
    (ixO a0 x2).bind fun x4 =>
    bif decide (x4 = a1) then (
      some (.inr (.inr true))
    ) else (
      some (.inl (w64 (x2 + 1)))
    )
  ) else (
    some (.inr (.inl ()))
  )

noncomputable def d_ref09_has (a0 : (List Int)) (a1 : Int) : Option Bool :=
  onInl (α := Unit) (β := Bool) (loopO (d_ref09_has_0 a0 a1) 0) fun _ =>
  some false
theorem d_ref09_has_ok (a0 : (List Int)) (a1 : Int) (r : Bool) (h : d_ref09_has a0 a1 = some r) : PCall Go.Proofs.Tryd.prog GlS 72 [Enc.pv a0, Enc.pv a1] (Enc.pv r) := by
  unfold d_ref09_has at h
  refine pcall_of_pwp Go.Proofs.Tryd.func72 (by rfl) rfl Go.Proofs.Tryd.ntmps72 (by rfl) rfl ?_
  refine pwp_seq ?_
  refine r_reg ?_
  refine e_end (by kernel_rfl) ?_
  refine q_next ?_
  refine pwp_seq ?_
  refine pwp_seq ?_
  refine r_reg ?_
  refine e_end (by kernel_rfl) ?_
  refine q_next ?_
  refine pwp_block ?_
  obtain ⟨o6, h6, h⟩ := o_inl h
  refine r_loop2 18 0 (fun x2 => ⟨[(0, lstOf .frozen (a0 : (List Int))), (1, .int .i64 a1), (5, .int .i64 x2)], [], [], []⟩) (fun (_ : Unit) => ⟨[], [], [], []⟩) h6 (by kernel_rfl) (fun _ => by kernel_rfl) ?_ ?_
  · rintro x2 oh5 h5
    unfold d_ref09_has_0 at h5
    refine pwp_seq ?_
    refine pwp_seq ?_
    refine r_reg ?_
    refine p_run 2 (by kernel_rfl) ?_
    refine p_len (L := (a0 : (List Int))) (by kernel_rfl) ?_
    refine e_end (by kernel_rfl) ?_
    refine q_next ?_
    rcases o_cond h5 with ⟨hb, h5⟩ | ⟨hb, h5⟩
    · refine r_cond_t hb (by kernel_rfl) ?_
      refine pwp_skip ?_
      refine q_next ?_
      refine pwp_seq ?_
      refine pwp_block ?_
      refine pwp_seq ?_
      refine r_reg ?_
      refine p_run 2 (by kernel_rfl) ?_
      obtain ⟨x4, h7, h5⟩ := o_bind h5
      refine p_ix h7 (by kernel_rfl) ?_
      refine e_end (by kernel_rfl) ?_
      refine q_next ?_
      rcases o_cond h5 with ⟨hb, h5⟩ | ⟨hb, h5⟩
      · refine r_cond_t hb (by kernel_rfl) ?_
        refine pwp_seq ?_
        refine r_reg ?_
        refine e_end (by kernel_rfl) ?_
        refine q_next ?_
        refine pwp_ret ?_
        refine q_block_ret ?_
        refine q_seq_ret ?_
        cases h5
        refine q_lout_ret fun he => ?_
        subst he
        have h8 := o_outr h
        refine q_block_ret ?_
        refine q_seq_ret ?_
        cases h8
        exact q_ret (by kernel_rfl) (by kernel_rfl) (by kernel_rfl)
      · refine r_cond_f hb (by kernel_rfl) ?_
        refine pwp_skip ?_
        refine q_block ?_
        refine q_next ?_
        refine r_reg ?_
        refine e_end (by kernel_rfl) ?_
        cases h5
        exact q_lback (by kernel_rfl)
    · refine r_cond_f hb (by kernel_rfl) ?_
      refine pwp_exit ?_
      refine q_seq_exit ?_
      cases h5
      exact q_lexit (by kernel_rfl) (by kernel_rfl)
  · rintro _ s' rfl hs
    have h := o_outl h
    refine q_block_hit ?_
    refine q_next (pwp_wkr hs ?_)
    refine pwp_seq ?_
    refine r_reg ?_
    refine e_end (by kernel_rfl) ?_
    refine q_next ?_
    refine pwp_ret ?_
    cases h
    exact q_ret (by kernel_rfl) (by kernel_rfl) (by kernel_rfl)

/-! signallingref09.Sections -/
noncomputable def d_ref09_Sections_0 (a0 : T_api_Layout) (a1 : (List T_api_Step)) : (Int × (List Int)) → Option ((Int × (List Int)) ⊕ ((List Int) ⊕ (List Int))) := fun (x40, x41) =>
  bif decide (x40 < ((a1.length : Nat) : Int)) then (
    onInl (α := (List Int)) (β := ((Int × (List Int)) ⊕ ((List Int) ⊕ (List Int)))) (
      (ixO a1 x40).bind fun x72 =>
      (d_ref09_exists a0 x72.El).bind fun r73 =>
      ((bif r73 then (
        (ixO a1 x40).bind fun x75 =>
        (ixO a0.Elements x75.El).bind fun x76 =>
        (d_ref09_has x41 x76.Section).bind fun r77 =>
        some (!r77)
      ) else some false) : Option Bool).bind fun b74 =>
      bif b74 then (
        (ixO a1 x40).bind fun x78 =>
        (ixO a0.Elements x78.El).bind fun x79 =>
        (appO x41 [x79.Section]).bind fun x80 =>
        some (.inl x80)
      ) else (
        some (.inl x41)
      )
    ) fun x71 =>
    some (.inl (w64 (x40 + 1), x71))
  ) else (
    some (.inr (.inl x41))
  )

noncomputable def d_ref09_Sections (a0 : T_api_Layout) (a1 : (List T_api_Step)) : Option (List Int) :=
  onInl (α := (List Int)) (β := (List Int)) (loopO (d_ref09_Sections_0 a0 a1) (0, ([] : (List Int)))) fun x61 =>
  some x61
theorem d_ref09_Sections_ok (a0 : T_api_Layout) (a1 : (List T_api_Step)) (r : (List Int)) (h : d_ref09_Sections a0 a1 = some r) : PCall Go.Proofs.Tryd.prog GlS 40 [Enc.pv a0, Enc.pv a1] (lstOf (.own 100005) r) := by
  unfold d_ref09_Sections at h
  refine pcall_of_pwp Go.Proofs.Tryd.func40 (by rfl) rfl Go.Proofs.Tryd.ntmps40 (by rfl) rfl ?_
  refine pwp_seq ?_
  refine r_reg ?_
  refine e_end (by kernel_rfl) ?_
  refine q_next ?_
  refine pwp_seq ?_
  refine r_reg ?_
  refine e_end (by kernel_rfl) ?_
  refine q_next ?_
  refine pwp_seq ?_
  refine pwp_seq ?_
  refine r_reg ?_
  refine e_end (by kernel_rfl) ?_
  refine q_next ?_
  refine pwp_block ?_
  refine g_nil 5 100005 1 8 (by kernel_rfl) (by kernel_rfl) ?_
  obtain ⟨o59, h59, h⟩ := o_inl h
  refine r_loop2 49 0 (fun (x40, x41) => ⟨[(1, lstOf .frozen (a1 : (List T_api_Step))), (2, .ref 2 0), (5, lstOf (.own 100005) (x41 : (List Int))), (6, .int .i64 x40)], [(2, .cells (cellsOf a0))], [(100005, (((x41).map cellsOf).length, 1))], []⟩) (fun x61 => ⟨[(5, lstOf (.own 100005) (x61 : (List Int)))], [], [(100005, (((x61).map cellsOf).length, 1))], []⟩) h59 (by kernel_rfl) (fun _ => by kernel_rfl) ?_ ?_
  · rintro ⟨x40, x41⟩ oh58 h58
    unfold d_ref09_Sections_0 at h58
    refine pwp_seq ?_
    refine pwp_seq ?_
    refine r_reg ?_
    refine p_run 2 (by kernel_rfl) ?_
    refine p_len (L := (a1 : (List T_api_Step))) (by kernel_rfl) ?_
    refine e_end (by kernel_rfl) ?_
    refine q_next ?_
    rcases o_cond h58 with ⟨hb, h58⟩ | ⟨hb, h58⟩
    · refine r_cond_t hb (by kernel_rfl) ?_
      refine pwp_skip ?_
      refine q_next ?_
      obtain ⟨o69, h69, h58⟩ := o_inl h58
      refine r_join (o := o69) 49 (fun x71 => ⟨[(1, lstOf .frozen (a1 : (List T_api_Step))), (2, .ref 2 0), (5, lstOf (.own 100005) (x71 : (List Int))), (6, .int .i64 x40)], [(2, .cells (cellsOf a0))], [(100005, (((x71).map cellsOf).length, 1))], []⟩) ?_ ?_
      · refine pwp_block ?_
        refine pwp_seq ?_
        refine r_regd (by kernel_rfl) (by kernel_rfl) ?_
        refine p_run 3 (by kernel_rfl) ?_
        obtain ⟨x72, h70, h69⟩ := o_bind h69
        refine p_ix h70 (by kernel_rfl) ?_
        refine p_run 2 (by kernel_rfl) ?_
        obtain ⟨r73, h71, h69⟩ := o_bind h69
        refine p_call (d_ref09_exists_ok _ _ r73 h71) (by kernel_rfl) (by kernel_rfl) ?_
        obtain ⟨b74, h72, h69⟩ := o_bind h69
        refine p_run 1 (by kernel_rfl) ?_
        refine e_seg 14 34 (.bool b74) ?_ ?_
        · rcases o_cond h72 with ⟨hb, h72⟩ | ⟨hb, h72⟩
          · refine p_settle 20 hb (by kernel_rfl) (by kernel_rfl) ?_
            refine p_run 5 (by kernel_rfl) ?_
            obtain ⟨x75, h73, h72⟩ := o_bind h72
            refine p_ix h73 (by kernel_rfl) ?_
            refine p_run 2 (by kernel_rfl) ?_
            obtain ⟨x76, h74, h72⟩ := o_bind h72
            refine p_ix h74 (by kernel_rfl) ?_
            refine p_run 2 (by kernel_rfl) ?_
            obtain ⟨r77, h75, h72⟩ := o_bind h72
            refine p_call (d_ref09_has_ok _ _ r77 h75) (by kernel_rfl) (by kernel_rfl) ?_
            cases h72
            exact f_end (by kernel_rfl) (by kernel_rfl)
          · refine p_settle 20 hb (by kernel_rfl) (by kernel_rfl) ?_
            cases h72
            exact f_end (by kernel_rfl) (by kernel_rfl)
        · refine e_nil (by kernel_rfl) ?_
          refine q_next ?_
          rcases o_cond h69 with ⟨hb, h69⟩ | ⟨hb, h69⟩
          · refine r_cond_t hb (by kernel_rfl) ?_
            refine r_regd (by kernel_rfl) (by kernel_rfl) ?_
            refine p_run 5 (by kernel_rfl) ?_
            obtain ⟨x78, h76, h69⟩ := o_bind h69
            refine p_ix h76 (by kernel_rfl) ?_
            refine p_run 2 (by kernel_rfl) ?_
            obtain ⟨x79, h77, h69⟩ := o_bind h69
            refine p_ix h77 (by kernel_rfl) ?_
            refine p_run 3 (by kernel_rfl) ?_
            obtain ⟨x80, h78, h69⟩ := o_bind h69
            refine p_app (tk := 100005) h78 (by kernel_rfl) (by kernel_rfl) ?_
            refine e_end (by kernel_rfl) ?_
            refine q_block ?_
            cases h69
            exact q_join (by kernel_rfl) (by kernel_rfl)
          · refine r_cond_f hb (by kernel_rfl) ?_
            refine pwp_skip ?_
            refine q_block ?_
            cases h69
            exact q_join (by kernel_rfl) (by kernel_rfl)
      · rintro x71 rfl
        have h58 := o_outl h58
        refine r_reg ?_
        refine e_end (by kernel_rfl) ?_
        cases h58
        exact q_lback (by kernel_rfl)
    · refine r_cond_f hb (by kernel_rfl) ?_
      refine pwp_exit ?_
      refine q_seq_exit ?_
      cases h58
      exact q_lexit (by kernel_rfl) (by kernel_rfl)
  · rintro x61 s' rfl hs
    have h := o_outl h
    refine q_block_hit ?_
    refine q_next (pwp_wkr hs ?_)
    refine pwp_seq ?_
    refine r_reg ?_
    refine e_end (by kernel_rfl) ?_
    refine q_next ?_
    refine pwp_ret ?_
    cases h
    exact q_ret (by kernel_rfl) (by kernel_rfl) (by kernel_rfl)
theorem d_ref09_Sections_fz (a0 : T_api_Layout) (a1 : (List T_api_Step)) (r : (List Int)) (h : d_ref09_Sections a0 a1 = some r) : PCall Go.Proofs.Tryd.prog GlS 40 [Enc.pv a0, Enc.pv a1] (Enc.pv r) :=
  (d_ref09_Sections_ok a0 a1 r h).freeze (by kernel_rfl) (by kernel_rfl) (by kernel_rfl)

/-! signallingref13.Find -/
noncomputable def d_ref13_Find_0 (a0 : T_api_Layout) (a1 : T_api_Route) (r1 : (T_api_Signal × Bool)) : (Bool × T_api_End × (List T_api_Step)) → Option ((Bool × T_api_End × (List T_api_Step)) ⊕ ((List T_api_Step) ⊕ T_api_Route)) := fun (x24, x25, x26) =>
  ((bif x24 then (
    (d_ref09_Length a0 x26).bind fun r39 =>
    some (decide (r39 < r1.1.Overlap))
  ) else some false) : Option Bool).bind fun b38 =>
  ((bif b38 then (
    some (decide (((x26.length : Nat) : Int) < 12))
  ) else some false) : Option Bool).bind fun b40 =>
  ((bif b40 then (
    (d_ref13_Blocked a0 (T_api_Route.mk a1.Name a1.Entry a1.Exit a1.Path a1.Points a1.Sections a1.Approach a1.Length x26 [] [] a1.Flank a1.Guards a1.Gaps) x26 x25.El).bind fun r42 =>
    some (!r42)
  ) else some false) : Option Bool).bind fun b41 =>
  bif b41 then (
    (d_ref09_Branches a0 x25).bind fun r43 =>
    bif decide (((r43.length : Nat) : Int) = 0) then (
      some (.inr (.inl x26))
    ) else (
      (ixO r43 0).bind fun x44 =>
      (appO x26 [x44]).bind fun x45 =>
      (ixO r43 0).bind fun x46 =>
      (d_ref09_Next a0 x46).bind fun r47 =>
      some (.inl (r47.2, r47.1, x45))
    )
  ) else (
    some (.inr (.inl x26))
  )

noncomputable def d_ref13_Find (a0 : T_api_Layout) (a1 : T_api_Route) : Option T_api_Route :=
  (d_ref13_exit a0 (T_api_Route.mk a1.Name a1.Entry a1.Exit a1.Path a1.Points a1.Sections a1.Approach a1.Length [] [] [] a1.Flank a1.Guards a1.Gaps)).bind fun r1 =>
  bif (!r1.2) then (
    some (T_api_Route.mk a1.Name a1.Entry a1.Exit a1.Path a1.Points a1.Sections a1.Approach a1.Length [] [] [] a1.Flank a1.Guards a1.Gaps)
  ) else (
    (d_ref07_Joined a0 r1.1.At).bind fun r2 =>
    onInl (α := (List T_api_Step)) (β := T_api_Route) (loopO (d_ref13_Find_0 a0 a1 r1) (r2.2, r2.1, ([] : (List T_api_Step)))) fun x37 =>
    (d_ref09_Settings a0 x37).bind fun r48 =>
    (d_ref09_Sections a0 x37).bind fun r49 =>
    some (T_api_Route.mk a1.Name a1.Entry a1.Exit a1.Path a1.Points a1.Sections a1.Approach a1.Length x37 r48 r49 a1.Flank a1.Guards a1.Gaps)
  )
theorem d_ref13_Find_ok (a0 : T_api_Layout) (a1 : T_api_Route) (r : T_api_Route) (h : d_ref13_Find a0 a1 = some r) : PCall Go.Proofs.Tryd.prog GlS 12 [Enc.pv a0, Enc.pv a1] (Enc.pv r) := by
  unfold d_ref13_Find at h
  refine pcall_of_pwp Go.Proofs.Tryd.func12 (by rfl) rfl Go.Proofs.Tryd.ntmps12 (by rfl) rfl ?_
  refine pwp_seq ?_
  refine r_reg ?_
  refine e_end (by kernel_rfl) ?_
  refine q_next ?_
  refine pwp_seq ?_
  refine r_reg ?_
  refine e_end (by kernel_rfl) ?_
  refine q_next ?_
  refine pwp_seq ?_
  refine r_reg ?_
  refine e_end (by kernel_rfl) ?_
  refine q_next ?_
  refine pwp_seq ?_
  refine r_reg ?_
  refine e_end (by kernel_rfl) ?_
  refine q_next ?_
  refine pwp_seq ?_
  refine r_reg ?_
  refine p_run 2 (by kernel_rfl) ?_
  obtain ⟨r1, h1, h⟩ := o_bind h
  refine p_call (d_ref13_exit_ok _ _ r1 h1) (by kernel_rfl) (by kernel_rfl) ?_
  refine e_end (by kernel_rfl) ?_
  refine q_next ?_
  refine pwp_seq ?_
  refine pwp_seq ?_
  refine r_reg ?_
  refine e_end (by kernel_rfl) ?_
  refine q_next ?_
  rcases o_cond h with ⟨hb, h⟩ | ⟨hb, h⟩
  · refine r_cond_t hb (by kernel_rfl) ?_
    refine pwp_seq ?_
    refine r_reg ?_
    refine e_end (by kernel_rfl) ?_
    refine q_next ?_
    refine pwp_ret ?_
    refine q_seq_ret ?_
    cases h
    exact q_ret (by kernel_rfl) (by kernel_rfl) (by kernel_rfl)
  · refine r_cond_f hb (by kernel_rfl) ?_
    refine pwp_skip ?_
    refine q_next ?_
    refine pwp_seq ?_
    refine r_reg ?_
    refine p_run 3 (by kernel_rfl) ?_
    obtain ⟨r2, h2, h⟩ := o_bind h
    refine p_call (d_ref07_Joined_ok _ _ r2 h2) (by kernel_rfl) (by kernel_rfl) ?_
    refine e_end (by kernel_rfl) ?_
    refine q_next ?_
    refine pwp_seq ?_
    refine pwp_block ?_
    refine pwp_wkr (wkr_nilH 3 8 200308 3 24 (cs := [.str a1.Name, .int .i64 a1.Entry, .int .i64 a1.Exit, lstOf .frozen (a1.Path : (List T_api_Step)), lstOf .frozen (a1.Points : (List T_api_Setting)), lstOf .frozen (a1.Sections : (List Int)), .int .i64 a1.Approach, .int .i64 a1.Length, .nil, .nil, .nil, lstOf .frozen (a1.Flank : (List T_api_Setting)), lstOf .frozen (a1.Guards : (List Int)), lstOf .frozen (a1.Gaps : (List T_api_End))]) (by kernel_rfl) (by kernel_rfl) (by kernel_rfl)) ?_
    obtain ⟨o33, h33, h⟩ := o_inl h
    refine r_loop2 88 0 (fun (x24, x25, x26) => ⟨[(2, .ref 2 0), (3, .ref 3 0), (4, .ref 4 0), (5, .ref 5 0), (7, .ref 7 0), (8, .bool x24)], [(2, .cells (cellsOf a0)), (3, .cells ([.str a1.Name, .int .i64 a1.Entry, .int .i64 a1.Exit, lstOf .frozen (a1.Path : (List T_api_Step)), lstOf .frozen (a1.Points : (List T_api_Setting)), lstOf .frozen (a1.Sections : (List Int)), .int .i64 a1.Approach, .int .i64 a1.Length, lstOf (.own 200308) (x26 : (List T_api_Step)), .nil, .nil, lstOf .frozen (a1.Flank : (List T_api_Setting)), lstOf .frozen (a1.Guards : (List Int)), lstOf .frozen (a1.Gaps : (List T_api_End))])), (4, .cells ([.str ByteArray.empty, .int .i64 0, .int .i64 0, .nil, .nil, .nil, .int .i64 0, .int .i64 0, .nil, .nil, .nil, .nil, .nil, .nil])), (5, .cells (cellsOf r1.1)), (7, .cells (cellsOf x25))], [(200308, (((x26).map cellsOf).length, 3))], []⟩) (fun x37 => ⟨[(2, .ref 2 0), (3, .ref 3 0), (4, .ref 4 0)], [(2, .cells (cellsOf a0)), (3, .cells ([.str a1.Name, .int .i64 a1.Entry, .int .i64 a1.Exit, lstOf .frozen (a1.Path : (List T_api_Step)), lstOf .frozen (a1.Points : (List T_api_Setting)), lstOf .frozen (a1.Sections : (List Int)), .int .i64 a1.Approach, .int .i64 a1.Length, lstOf (.own 200308) (x37 : (List T_api_Step)), .nil, .nil, lstOf .frozen (a1.Flank : (List T_api_Setting)), lstOf .frozen (a1.Guards : (List Int)), lstOf .frozen (a1.Gaps : (List T_api_End))])), (4, .cells ([.str ByteArray.empty, .int .i64 0, .int .i64 0, .nil, .nil, .nil, .int .i64 0, .int .i64 0, .nil, .nil, .nil, .nil, .nil, .nil]))], [(200308, (((x37).map cellsOf).length, 3))], []⟩) h33 (by kernel_rfl) (fun _ => by kernel_rfl) ?_ ?_
    · rintro ⟨x24, x25, x26⟩ oh32 h32
      unfold d_ref13_Find_0 at h32
      refine pwp_seq ?_
      refine pwp_seq ?_
      refine r_regd (by kernel_rfl) (by kernel_rfl) ?_
      obtain ⟨b38, h34, h32⟩ := o_bind h32
      refine p_run 2 (by kernel_rfl) ?_
      refine e_seg 8 38 (.bool b38) ?_ ?_
      · rcases o_cond h34 with ⟨hb, h34⟩ | ⟨hb, h34⟩
        · refine p_settle 30 hb (by kernel_rfl) (by kernel_rfl) ?_
          refine p_run 3 (by kernel_rfl) ?_
          obtain ⟨r39, h35, h34⟩ := o_bind h34
          refine p_call (d_ref09_Length_ok _ _ r39 h35) (by kernel_rfl) (by kernel_rfl) ?_
          cases h34
          exact f_end (by kernel_rfl) (by kernel_rfl)
        · refine p_settle 30 hb (by kernel_rfl) (by kernel_rfl) ?_
          cases h34
          exact f_end (by kernel_rfl) (by kernel_rfl)
      · obtain ⟨b40, h36, h32⟩ := o_bind h32
        refine p_run 1 (by kernel_rfl) ?_
        refine e_seg 5 44 (.bool b40) ?_ ?_
        · rcases o_cond h36 with ⟨hb, h36⟩ | ⟨hb, h36⟩
          · refine p_settle 39 hb (by kernel_rfl) (by kernel_rfl) ?_
            refine p_run 2 (by kernel_rfl) ?_
            refine p_len (L := (x26 : (List T_api_Step))) (by kernel_rfl) ?_
            cases h36
            exact f_end (by kernel_rfl) (by kernel_rfl)
          · refine p_settle 39 hb (by kernel_rfl) (by kernel_rfl) ?_
            cases h36
            exact f_end (by kernel_rfl) (by kernel_rfl)
        · obtain ⟨b41, h37, h32⟩ := o_bind h32
          refine p_run 1 (by kernel_rfl) ?_
          refine e_seg 9 54 (.bool b41) ?_ ?_
          · rcases o_cond h37 with ⟨hb, h37⟩ | ⟨hb, h37⟩
            · refine p_settle 45 hb (by kernel_rfl) (by kernel_rfl) ?_
              refine p_run 6 (by kernel_rfl) ?_
              obtain ⟨r42, h38, h37⟩ := o_bind h37
              refine p_call (d_ref13_Blocked_ok _ _ _ _ r42 h38) (by kernel_rfl) (by kernel_rfl) ?_
              cases h37
              exact f_end (by kernel_rfl) (by kernel_rfl)
            · refine p_settle 45 hb (by kernel_rfl) (by kernel_rfl) ?_
              cases h37
              exact f_end (by kernel_rfl) (by kernel_rfl)
          · refine e_nil (by kernel_rfl) ?_
            refine q_next ?_
            rcases o_cond h32 with ⟨hb, h32⟩ | ⟨hb, h32⟩
            · refine r_cond_t hb (by kernel_rfl) ?_
              refine pwp_skip ?_
              refine q_next ?_
              refine pwp_block ?_
              refine pwp_seq ?_
              refine r_reg ?_
              refine p_run 2 (by kernel_rfl) ?_
              obtain ⟨r43, h39, h32⟩ := o_bind h32
              refine p_call (d_ref09_Branches_ok _ _ r43 h39) (by kernel_rfl) (by kernel_rfl) ?_
              refine e_end (by kernel_rfl) ?_
              refine q_next ?_
              refine pwp_seq ?_
              refine pwp_seq ?_
              refine r_reg ?_
              refine p_run 1 (by kernel_rfl) ?_
              refine p_len (L := (r43 : (List T_api_Step))) (by kernel_rfl) ?_
              refine e_end (by kernel_rfl) ?_
              refine q_next ?_
              rcases o_cond h32 with ⟨hb, h32⟩ | ⟨hb, h32⟩
              · refine r_cond_t hb (by kernel_rfl) ?_
                refine pwp_exit ?_
                refine q_seq_exit ?_
                refine q_block_miss rfl ?_
                cases h32
                exact q_lexit (by kernel_rfl) (by kernel_rfl)
              · refine r_cond_f hb (by kernel_rfl) ?_
                refine pwp_skip ?_
                refine q_next ?_
                refine pwp_seq ?_
                refine r_regd (by kernel_rfl) (by kernel_rfl) ?_
                refine p_run 3 (by kernel_rfl) ?_
                obtain ⟨x44, h40, h32⟩ := o_bind h32
                refine p_ix h40 (by kernel_rfl) ?_
                refine p_run 2 (by kernel_rfl) ?_
                obtain ⟨x45, h41, h32⟩ := o_bind h32
                refine p_app (tk := 200308) h41 (by kernel_rfl) (by kernel_rfl) ?_
                refine e_end (by kernel_rfl) ?_
                refine q_next ?_
                refine r_regd (by kernel_rfl) (by kernel_rfl) ?_
                refine p_run 2 (by kernel_rfl) ?_
                obtain ⟨x46, h42, h32⟩ := o_bind h32
                refine p_ix h42 (by kernel_rfl) ?_
                refine p_run 1 (by kernel_rfl) ?_
                obtain ⟨r47, h43, h32⟩ := o_bind h32
                refine p_call (d_ref09_Next_ok _ _ r47 h43) (by kernel_rfl) (by kernel_rfl) ?_
                refine e_end (by kernel_rfl) ?_
                refine q_block ?_
                cases h32
                exact q_lback (by kernel_rfl)
            · refine r_cond_f hb (by kernel_rfl) ?_
              refine pwp_exit ?_
              refine q_seq_exit ?_
              cases h32
              exact q_lexit (by kernel_rfl) (by kernel_rfl)
    · rintro x37 s' rfl hs
      have h := o_outl h
      refine q_block_hit ?_
      refine q_next (pwp_wkr hs ?_)
      refine pwp_seq ?_
      refine r_reg ?_
      refine p_run 3 (by kernel_rfl) ?_
      obtain ⟨r48, h44, h⟩ := o_bind h
      refine p_call (d_ref09_Settings_ok _ _ r48 h44) (by kernel_rfl) (by kernel_rfl) ?_
      refine e_end (by kernel_rfl) ?_
      refine q_next ?_
      refine pwp_seq ?_
      refine r_reg ?_
      refine p_run 3 (by kernel_rfl) ?_
      obtain ⟨r49, h45, h⟩ := o_bind h
      refine p_call (d_ref09_Sections_ok _ _ r49 h45) (by kernel_rfl) (by kernel_rfl) ?_
      refine e_end (by kernel_rfl) ?_
      refine q_next ?_
      refine pwp_seq ?_
      refine r_reg ?_
      refine e_end (by kernel_rfl) ?_
      refine q_next ?_
      refine pwp_ret ?_
      cases h
      exact q_ret (by kernel_rfl) (by kernel_rfl) (by kernel_rfl)

/-! signallingref09.SameSteps -/
noncomputable def d_ref09_SameSteps_0 (a0 : (List T_api_Step)) (a1 : (List T_api_Step)) : Int → Option (Int ⊕ (Unit ⊕ Bool)) := fun x3 =>
  bif decide (x3 < ((a0.length : Nat) : Int)) then (
    (ixO a0 x3).bind fun x6 =>
    (ixO a1 x3).bind fun x7 =>
    bif (!(eq_T_api_Step x6 x7)) then (
      some (.inr (.inr false))
    ) else (
      some (.inl (w64 (x3 + 1)))
    )
  ) else (
    some (.inr (.inl ()))
  )

noncomputable def d_ref09_SameSteps (a0 : (List T_api_Step)) (a1 : (List T_api_Step)) : Option Bool :=
  bif (!(decide (((a0.length : Nat) : Int) = ((a1.length : Nat) : Int)))) then (
    some false
  ) else (
    onInl (α := Unit) (β := Bool) (loopO (d_ref09_SameSteps_0 a0 a1) 0) fun _ =>
    some true
  )
theorem d_ref09_SameSteps_ok (a0 : (List T_api_Step)) (a1 : (List T_api_Step)) (r : Bool) (h : d_ref09_SameSteps a0 a1 = some r) : PCall Go.Proofs.Tryd.prog GlS 48 [Enc.pv a0, Enc.pv a1] (Enc.pv r) := by
  unfold d_ref09_SameSteps at h
  refine pcall_of_pwp Go.Proofs.Tryd.func48 (by rfl) rfl Go.Proofs.Tryd.ntmps48 (by rfl) rfl ?_
  refine pwp_seq ?_
  refine r_reg ?_
  refine e_end (by kernel_rfl) ?_
  refine q_next ?_
  refine pwp_seq ?_
  refine pwp_seq ?_
  refine r_reg ?_
  refine p_run 1 (by kernel_rfl) ?_
  refine p_len (L := (a0 : (List T_api_Step))) (by kernel_rfl) ?_
  refine p_run 1 (by kernel_rfl) ?_
  refine p_len (L := (a1 : (List T_api_Step))) (by kernel_rfl) ?_
  refine e_end (by kernel_rfl) ?_
  refine q_next ?_
  rcases o_cond h with ⟨hb, h⟩ | ⟨hb, h⟩
  · refine r_cond_t hb (by kernel_rfl) ?_
    refine pwp_seq ?_
    refine r_reg ?_
    refine e_end (by kernel_rfl) ?_
    refine q_next ?_
    refine pwp_ret ?_
    refine q_seq_ret ?_
    cases h
    exact q_ret (by kernel_rfl) (by kernel_rfl) (by kernel_rfl)
  · refine r_cond_f hb (by kernel_rfl) ?_
    refine pwp_skip ?_
    refine q_next ?_
    refine pwp_seq ?_
    refine pwp_seq ?_
    refine r_reg ?_
    refine e_end (by kernel_rfl) ?_
    refine q_next ?_
    refine pwp_block ?_
    obtain ⟨o8, h8, h⟩ := o_inl h
    refine r_loop2 26 0 (fun x3 => ⟨[(0, lstOf .frozen (a0 : (List T_api_Step))), (1, lstOf .frozen (a1 : (List T_api_Step))), (5, .int .i64 x3)], [], [], []⟩) (fun (_ : Unit) => ⟨[], [], [], []⟩) h8 (by kernel_rfl) (fun _ => by kernel_rfl) ?_ ?_
    · rintro x3 oh7 h7
      unfold d_ref09_SameSteps_0 at h7
      refine pwp_seq ?_
      refine pwp_seq ?_
      refine r_reg ?_
      refine p_run 2 (by kernel_rfl) ?_
      refine p_len (L := (a0 : (List T_api_Step))) (by kernel_rfl) ?_
      refine e_end (by kernel_rfl) ?_
      refine q_next ?_
      rcases o_cond h7 with ⟨hb, h7⟩ | ⟨hb, h7⟩
      · refine r_cond_t hb (by kernel_rfl) ?_
        refine pwp_skip ?_
        refine q_next ?_
        refine pwp_seq ?_
        refine pwp_block ?_
        refine pwp_seq ?_
        refine r_regd (by kernel_rfl) (by kernel_rfl) ?_
        refine p_run 2 (by kernel_rfl) ?_
        obtain ⟨x6, h9, h7⟩ := o_bind h7
        refine p_ix h9 (by kernel_rfl) ?_
        refine p_run 3 (by kernel_rfl) ?_
        obtain ⟨x7, h10, h7⟩ := o_bind h7
        refine p_ix h10 (by kernel_rfl) ?_
        refine e_end (by kernel_rfl) ?_
        refine q_next ?_
        rcases o_cond h7 with ⟨hb, h7⟩ | ⟨hb, h7⟩
        · refine r_cond_t hb (by kernel_rfl) ?_
          refine pwp_seq ?_
          refine r_reg ?_
          refine e_end (by kernel_rfl) ?_
          refine q_next ?_
          refine pwp_ret ?_
          refine q_block_ret ?_
          refine q_seq_ret ?_
          cases h7
          refine q_lout_ret fun he => ?_
          subst he
          have h11 := o_outr h
          refine q_block_ret ?_
          refine q_seq_ret ?_
          cases h11
          exact q_ret (by kernel_rfl) (by kernel_rfl) (by kernel_rfl)
        · refine r_cond_f hb (by kernel_rfl) ?_
          refine pwp_skip ?_
          refine q_block ?_
          refine q_next ?_
          refine r_reg ?_
          refine e_end (by kernel_rfl) ?_
          cases h7
          exact q_lback (by kernel_rfl)
      · refine r_cond_f hb (by kernel_rfl) ?_
        refine pwp_exit ?_
        refine q_seq_exit ?_
        cases h7
        exact q_lexit (by kernel_rfl) (by kernel_rfl)
    · rintro _ s' rfl hs
      have h := o_outl h
      refine q_block_hit ?_
      refine q_next (pwp_wkr hs ?_)
      refine pwp_seq ?_
      refine r_reg ?_
      refine e_end (by kernel_rfl) ?_
      refine q_next ?_
      refine pwp_ret ?_
      cases h
      exact q_ret (by kernel_rfl) (by kernel_rfl) (by kernel_rfl)

/-! signallingref12.SameSteps -/
noncomputable def d_ref12_SameSteps (a0 : (List T_api_Step)) (a1 : (List T_api_Step)) : Option Bool :=
  (d_ref09_SameSteps a0 a1).bind fun r1 =>
  some r1
theorem d_ref12_SameSteps_ok (a0 : (List T_api_Step)) (a1 : (List T_api_Step)) (r : Bool) (h : d_ref12_SameSteps a0 a1 = some r) : PCall Go.Proofs.Tryd.prog GlS 23 [Enc.pv a0, Enc.pv a1] (Enc.pv r) := by
  unfold d_ref12_SameSteps at h
  refine pcall_of_pwp Go.Proofs.Tryd.func23 (by rfl) rfl Go.Proofs.Tryd.ntmps23 (by rfl) rfl ?_
  refine pwp_seq ?_
  refine r_reg ?_
  refine e_end (by kernel_rfl) ?_
  refine q_next ?_
  refine pwp_seq ?_
  refine r_reg ?_
  refine p_run 2 (by kernel_rfl) ?_
  obtain ⟨r1, h1, h⟩ := o_bind h
  refine p_call (d_ref09_SameSteps_ok _ _ r1 h1) (by kernel_rfl) (by kernel_rfl) ?_
  refine e_end (by kernel_rfl) ?_
  refine q_next ?_
  refine pwp_ret ?_
  cases h
  exact q_ret (by kernel_rfl) (by kernel_rfl) (by kernel_rfl)

/-! signallingref09.SameSettings -/
noncomputable def d_ref09_SameSettings_0 (a0 : (List T_api_Setting)) (a1 : (List T_api_Setting)) : Int → Option (Int ⊕ (Unit ⊕ Bool)) := fun x3 =>
  bif decide (x3 < ((a0.length : Nat) : Int)) then (
    (ixO a0 x3).bind fun x6 =>
    (ixO a1 x3).bind fun x7 =>
    bif (!(eq_T_api_Setting x6 x7)) then (
      some (.inr (.inr false))
    ) else (
      some (.inl (w64 (x3 + 1)))
    )
  ) else (
    some (.inr (.inl ()))
  )

noncomputable def d_ref09_SameSettings (a0 : (List T_api_Setting)) (a1 : (List T_api_Setting)) : Option Bool :=
  bif (!(decide (((a0.length : Nat) : Int) = ((a1.length : Nat) : Int)))) then (
    some false
  ) else (
    onInl (α := Unit) (β := Bool) (loopO (d_ref09_SameSettings_0 a0 a1) 0) fun _ =>
    some true
  )
theorem d_ref09_SameSettings_ok (a0 : (List T_api_Setting)) (a1 : (List T_api_Setting)) (r : Bool) (h : d_ref09_SameSettings a0 a1 = some r) : PCall Go.Proofs.Tryd.prog GlS 53 [Enc.pv a0, Enc.pv a1] (Enc.pv r) := by
  unfold d_ref09_SameSettings at h
  refine pcall_of_pwp Go.Proofs.Tryd.func53 (by rfl) rfl Go.Proofs.Tryd.ntmps53 (by rfl) rfl ?_
  refine pwp_seq ?_
  refine r_reg ?_
  refine e_end (by kernel_rfl) ?_
  refine q_next ?_
  refine pwp_seq ?_
  refine pwp_seq ?_
  refine r_reg ?_
  refine p_run 1 (by kernel_rfl) ?_
  refine p_len (L := (a0 : (List T_api_Setting))) (by kernel_rfl) ?_
  refine p_run 1 (by kernel_rfl) ?_
  refine p_len (L := (a1 : (List T_api_Setting))) (by kernel_rfl) ?_
  refine e_end (by kernel_rfl) ?_
  refine q_next ?_
  rcases o_cond h with ⟨hb, h⟩ | ⟨hb, h⟩
  · refine r_cond_t hb (by kernel_rfl) ?_
    refine pwp_seq ?_
    refine r_reg ?_
    refine e_end (by kernel_rfl) ?_
    refine q_next ?_
    refine pwp_ret ?_
    refine q_seq_ret ?_
    cases h
    exact q_ret (by kernel_rfl) (by kernel_rfl) (by kernel_rfl)
  · refine r_cond_f hb (by kernel_rfl) ?_
    refine pwp_skip ?_
    refine q_next ?_
    refine pwp_seq ?_
    refine pwp_seq ?_
    refine r_reg ?_
    refine e_end (by kernel_rfl) ?_
    refine q_next ?_
    refine pwp_block ?_
    obtain ⟨o8, h8, h⟩ := o_inl h
    refine r_loop2 26 0 (fun x3 => ⟨[(0, lstOf .frozen (a0 : (List T_api_Setting))), (1, lstOf .frozen (a1 : (List T_api_Setting))), (5, .int .i64 x3)], [], [], []⟩) (fun (_ : Unit) => ⟨[], [], [], []⟩) h8 (by kernel_rfl) (fun _ => by kernel_rfl) ?_ ?_
    · rintro x3 oh7 h7
      unfold d_ref09_SameSettings_0 at h7
      refine pwp_seq ?_
      refine pwp_seq ?_
      refine r_reg ?_
      refine p_run 2 (by kernel_rfl) ?_
      refine p_len (L := (a0 : (List T_api_Setting))) (by kernel_rfl) ?_
      refine e_end (by kernel_rfl) ?_
      refine q_next ?_
      rcases o_cond h7 with ⟨hb, h7⟩ | ⟨hb, h7⟩
      · refine r_cond_t hb (by kernel_rfl) ?_
        refine pwp_skip ?_
        refine q_next ?_
        refine pwp_seq ?_
        refine pwp_block ?_
        refine pwp_seq ?_
        refine r_regd (by kernel_rfl) (by kernel_rfl) ?_
        refine p_run 2 (by kernel_rfl) ?_
        obtain ⟨x6, h9, h7⟩ := o_bind h7
        refine p_ix h9 (by kernel_rfl) ?_
        refine p_run 3 (by kernel_rfl) ?_
        obtain ⟨x7, h10, h7⟩ := o_bind h7
        refine p_ix h10 (by kernel_rfl) ?_
        refine e_end (by kernel_rfl) ?_
        refine q_next ?_
        rcases o_cond h7 with ⟨hb, h7⟩ | ⟨hb, h7⟩
        · refine r_cond_t hb (by kernel_rfl) ?_
          refine pwp_seq ?_
          refine r_reg ?_
          refine e_end (by kernel_rfl) ?_
          refine q_next ?_
          refine pwp_ret ?_
          refine q_block_ret ?_
          refine q_seq_ret ?_
          cases h7
          refine q_lout_ret fun he => ?_
          subst he
          have h11 := o_outr h
          refine q_block_ret ?_
          refine q_seq_ret ?_
          cases h11
          exact q_ret (by kernel_rfl) (by kernel_rfl) (by kernel_rfl)
        · refine r_cond_f hb (by kernel_rfl) ?_
          refine pwp_skip ?_
          refine q_block ?_
          refine q_next ?_
          refine r_reg ?_
          refine e_end (by kernel_rfl) ?_
          cases h7
          exact q_lback (by kernel_rfl)
      · refine r_cond_f hb (by kernel_rfl) ?_
        refine pwp_exit ?_
        refine q_seq_exit ?_
        cases h7
        exact q_lexit (by kernel_rfl) (by kernel_rfl)
    · rintro _ s' rfl hs
      have h := o_outl h
      refine q_block_hit ?_
      refine q_next (pwp_wkr hs ?_)
      refine pwp_seq ?_
      refine r_reg ?_
      refine e_end (by kernel_rfl) ?_
      refine q_next ?_
      refine pwp_ret ?_
      cases h
      exact q_ret (by kernel_rfl) (by kernel_rfl) (by kernel_rfl)

/-! signallingref12.SameSettings -/
noncomputable def d_ref12_SameSettings (a0 : (List T_api_Setting)) (a1 : (List T_api_Setting)) : Option Bool :=
  (d_ref09_SameSettings a0 a1).bind fun r1 =>
  some r1
theorem d_ref12_SameSettings_ok (a0 : (List T_api_Setting)) (a1 : (List T_api_Setting)) (r : Bool) (h : d_ref12_SameSettings a0 a1 = some r) : PCall Go.Proofs.Tryd.prog GlS 26 [Enc.pv a0, Enc.pv a1] (Enc.pv r) := by
  unfold d_ref12_SameSettings at h
  refine pcall_of_pwp Go.Proofs.Tryd.func26 (by rfl) rfl Go.Proofs.Tryd.ntmps26 (by rfl) rfl ?_
  refine pwp_seq ?_
  refine r_reg ?_
  refine e_end (by kernel_rfl) ?_
  refine q_next ?_
  refine pwp_seq ?_
  refine r_reg ?_
  refine p_run 2 (by kernel_rfl) ?_
  obtain ⟨r1, h1, h⟩ := o_bind h
  refine p_call (d_ref09_SameSettings_ok _ _ r1 h1) (by kernel_rfl) (by kernel_rfl) ?_
  refine e_end (by kernel_rfl) ?_
  refine q_next ?_
  refine pwp_ret ?_
  cases h
  exact q_ret (by kernel_rfl) (by kernel_rfl) (by kernel_rfl)

/-! signallingref09.SameInts -/
noncomputable def d_ref09_SameInts_0 (a0 : (List Int)) (a1 : (List Int)) : Int → Option (Int ⊕ (Unit ⊕ Bool)) := fun x3 =>
  bif decide (x3 < ((a0.length : Nat) : Int)) then (
    (ixO a0 x3).bind fun x6 =>
    (ixO a1 x3).bind fun x7 =>
    bif (!(decide (x6 = x7))) then (
      some (.inr (.inr false))
    ) else (
      some (.inl (w64 (x3 + 1)))
    )
  ) else (
    some (.inr (.inl ()))
  )

noncomputable def d_ref09_SameInts (a0 : (List Int)) (a1 : (List Int)) : Option Bool :=
  bif (!(decide (((a0.length : Nat) : Int) = ((a1.length : Nat) : Int)))) then (
    some false
  ) else (
    onInl (α := Unit) (β := Bool) (loopO (d_ref09_SameInts_0 a0 a1) 0) fun _ =>
    some true
  )
theorem d_ref09_SameInts_ok (a0 : (List Int)) (a1 : (List Int)) (r : Bool) (h : d_ref09_SameInts a0 a1 = some r) : PCall Go.Proofs.Tryd.prog GlS 54 [Enc.pv a0, Enc.pv a1] (Enc.pv r) := by
  unfold d_ref09_SameInts at h
  refine pcall_of_pwp Go.Proofs.Tryd.func54 (by rfl) rfl Go.Proofs.Tryd.ntmps54 (by rfl) rfl ?_
  refine pwp_seq ?_
  refine r_reg ?_
  refine e_end (by kernel_rfl) ?_
  refine q_next ?_
  refine pwp_seq ?_
  refine pwp_seq ?_
  refine r_reg ?_
  refine p_run 1 (by kernel_rfl) ?_
  refine p_len (L := (a0 : (List Int))) (by kernel_rfl) ?_
  refine p_run 1 (by kernel_rfl) ?_
  refine p_len (L := (a1 : (List Int))) (by kernel_rfl) ?_
  refine e_end (by kernel_rfl) ?_
  refine q_next ?_
  rcases o_cond h with ⟨hb, h⟩ | ⟨hb, h⟩
  · refine r_cond_t hb (by kernel_rfl) ?_
    refine pwp_seq ?_
    refine r_reg ?_
    refine e_end (by kernel_rfl) ?_
    refine q_next ?_
    refine pwp_ret ?_
    refine q_seq_ret ?_
    cases h
    exact q_ret (by kernel_rfl) (by kernel_rfl) (by kernel_rfl)
  · refine r_cond_f hb (by kernel_rfl) ?_
    refine pwp_skip ?_
    refine q_next ?_
    refine pwp_seq ?_
    refine pwp_seq ?_
    refine r_reg ?_
    refine e_end (by kernel_rfl) ?_
    refine q_next ?_
    refine pwp_block ?_
    obtain ⟨o8, h8, h⟩ := o_inl h
    refine r_loop2 26 0 (fun x3 => ⟨[(0, lstOf .frozen (a0 : (List Int))), (1, lstOf .frozen (a1 : (List Int))), (5, .int .i64 x3)], [], [], []⟩) (fun (_ : Unit) => ⟨[], [], [], []⟩) h8 (by kernel_rfl) (fun _ => by kernel_rfl) ?_ ?_
    · rintro x3 oh7 h7
      unfold d_ref09_SameInts_0 at h7
      refine pwp_seq ?_
      refine pwp_seq ?_
      refine r_reg ?_
      refine p_run 2 (by kernel_rfl) ?_
      refine p_len (L := (a0 : (List Int))) (by kernel_rfl) ?_
      refine e_end (by kernel_rfl) ?_
      refine q_next ?_
      rcases o_cond h7 with ⟨hb, h7⟩ | ⟨hb, h7⟩
      · refine r_cond_t hb (by kernel_rfl) ?_
        refine pwp_skip ?_
        refine q_next ?_
        refine pwp_seq ?_
        refine pwp_block ?_
        refine pwp_seq ?_
        refine r_regd (by kernel_rfl) (by kernel_rfl) ?_
        refine p_run 2 (by kernel_rfl) ?_
        obtain ⟨x6, h9, h7⟩ := o_bind h7
        refine p_ix h9 (by kernel_rfl) ?_
        refine p_run 3 (by kernel_rfl) ?_
        obtain ⟨x7, h10, h7⟩ := o_bind h7
        refine p_ix h10 (by kernel_rfl) ?_
        refine e_end (by kernel_rfl) ?_
        refine q_next ?_
        rcases o_cond h7 with ⟨hb, h7⟩ | ⟨hb, h7⟩
        · refine r_cond_t hb (by kernel_rfl) ?_
          refine pwp_seq ?_
          refine r_reg ?_
          refine e_end (by kernel_rfl) ?_
          refine q_next ?_
          refine pwp_ret ?_
          refine q_block_ret ?_
          refine q_seq_ret ?_
          cases h7
          refine q_lout_ret fun he => ?_
          subst he
          have h11 := o_outr h
          refine q_block_ret ?_
          refine q_seq_ret ?_
          cases h11
          exact q_ret (by kernel_rfl) (by kernel_rfl) (by kernel_rfl)
        · refine r_cond_f hb (by kernel_rfl) ?_
          refine pwp_skip ?_
          refine q_block ?_
          refine q_next ?_
          refine r_reg ?_
          refine e_end (by kernel_rfl) ?_
          cases h7
          exact q_lback (by kernel_rfl)
      · refine r_cond_f hb (by kernel_rfl) ?_
        refine pwp_exit ?_
        refine q_seq_exit ?_
        cases h7
        exact q_lexit (by kernel_rfl) (by kernel_rfl)
    · rintro _ s' rfl hs
      have h := o_outl h
      refine q_block_hit ?_
      refine q_next (pwp_wkr hs ?_)
      refine pwp_seq ?_
      refine r_reg ?_
      refine e_end (by kernel_rfl) ?_
      refine q_next ?_
      refine pwp_ret ?_
      cases h
      exact q_ret (by kernel_rfl) (by kernel_rfl) (by kernel_rfl)

/-! signallingref12.SameInts -/
noncomputable def d_ref12_SameInts (a0 : (List Int)) (a1 : (List Int)) : Option Bool :=
  (d_ref09_SameInts a0 a1).bind fun r1 =>
  some r1
theorem d_ref12_SameInts_ok (a0 : (List Int)) (a1 : (List Int)) (r : Bool) (h : d_ref12_SameInts a0 a1 = some r) : PCall Go.Proofs.Tryd.prog GlS 27 [Enc.pv a0, Enc.pv a1] (Enc.pv r) := by
  unfold d_ref12_SameInts at h
  refine pcall_of_pwp Go.Proofs.Tryd.func27 (by rfl) rfl Go.Proofs.Tryd.ntmps27 (by rfl) rfl ?_
  refine pwp_seq ?_
  refine r_reg ?_
  refine e_end (by kernel_rfl) ?_
  refine q_next ?_
  refine pwp_seq ?_
  refine r_reg ?_
  refine p_run 2 (by kernel_rfl) ?_
  obtain ⟨r1, h1, h⟩ := o_bind h
  refine p_call (d_ref09_SameInts_ok _ _ r1 h1) (by kernel_rfl) (by kernel_rfl) ?_
  refine e_end (by kernel_rfl) ?_
  refine q_next ?_
  refine pwp_ret ?_
  cases h
  exact q_ret (by kernel_rfl) (by kernel_rfl) (by kernel_rfl)

/-! signallingref12.sameEnds -/
noncomputable def d_ref12_sameEnds_0 (a0 : (List T_api_End)) (a1 : (List T_api_End)) : Int → Option (Int ⊕ (Unit ⊕ Bool)) := fun x3 =>
  bif decide (x3 < ((a0.length : Nat) : Int)) then (
    (ixO a0 x3).bind fun x6 =>
    (ixO a1 x3).bind fun x7 =>
    bif (!(eq_T_api_End x6 x7)) then (
      some (.inr (.inr false))
    ) else (
      some (.inl (w64 (x3 + 1)))
    )
  ) else (
    some (.inr (.inl ()))
  )

noncomputable def d_ref12_sameEnds (a0 : (List T_api_End)) (a1 : (List T_api_End)) : Option Bool :=
  bif (!(decide (((a0.length : Nat) : Int) = ((a1.length : Nat) : Int)))) then (
    some false
  ) else (
    onInl (α := Unit) (β := Bool) (loopO (d_ref12_sameEnds_0 a0 a1) 0) fun _ =>
    some true
  )
theorem d_ref12_sameEnds_ok (a0 : (List T_api_End)) (a1 : (List T_api_End)) (r : Bool) (h : d_ref12_sameEnds a0 a1 = some r) : PCall Go.Proofs.Tryd.prog GlS 28 [Enc.pv a0, Enc.pv a1] (Enc.pv r) := by
  unfold d_ref12_sameEnds at h
  refine pcall_of_pwp Go.Proofs.Tryd.func28 (by rfl) rfl Go.Proofs.Tryd.ntmps28 (by rfl) rfl ?_
  refine pwp_seq ?_
  refine r_reg ?_
  refine e_end (by kernel_rfl) ?_
  refine q_next ?_
  refine pwp_seq ?_
  refine pwp_seq ?_
  refine r_reg ?_
  refine p_run 1 (by kernel_rfl) ?_
  refine p_len (L := (a0 : (List T_api_End))) (by kernel_rfl) ?_
  refine p_run 1 (by kernel_rfl) ?_
  refine p_len (L := (a1 : (List T_api_End))) (by kernel_rfl) ?_
  refine e_end (by kernel_rfl) ?_
  refine q_next ?_
  rcases o_cond h with ⟨hb, h⟩ | ⟨hb, h⟩
  · refine r_cond_t hb (by kernel_rfl) ?_
    refine pwp_seq ?_
    refine r_reg ?_
    refine e_end (by kernel_rfl) ?_
    refine q_next ?_
    refine pwp_ret ?_
    refine q_seq_ret ?_
    cases h
    exact q_ret (by kernel_rfl) (by kernel_rfl) (by kernel_rfl)
  · refine r_cond_f hb (by kernel_rfl) ?_
    refine pwp_skip ?_
    refine q_next ?_
    refine pwp_seq ?_
    refine pwp_seq ?_
    refine r_reg ?_
    refine e_end (by kernel_rfl) ?_
    refine q_next ?_
    refine pwp_block ?_
    obtain ⟨o8, h8, h⟩ := o_inl h
    refine r_loop2 26 0 (fun x3 => ⟨[(0, lstOf .frozen (a0 : (List T_api_End))), (1, lstOf .frozen (a1 : (List T_api_End))), (5, .int .i64 x3)], [], [], []⟩) (fun (_ : Unit) => ⟨[], [], [], []⟩) h8 (by kernel_rfl) (fun _ => by kernel_rfl) ?_ ?_
    · rintro x3 oh7 h7
      unfold d_ref12_sameEnds_0 at h7
      refine pwp_seq ?_
      refine pwp_seq ?_
      refine r_reg ?_
      refine p_run 2 (by kernel_rfl) ?_
      refine p_len (L := (a0 : (List T_api_End))) (by kernel_rfl) ?_
      refine e_end (by kernel_rfl) ?_
      refine q_next ?_
      rcases o_cond h7 with ⟨hb, h7⟩ | ⟨hb, h7⟩
      · refine r_cond_t hb (by kernel_rfl) ?_
        refine pwp_skip ?_
        refine q_next ?_
        refine pwp_seq ?_
        refine pwp_block ?_
        refine pwp_seq ?_
        refine r_regd (by kernel_rfl) (by kernel_rfl) ?_
        refine p_run 2 (by kernel_rfl) ?_
        obtain ⟨x6, h9, h7⟩ := o_bind h7
        refine p_ix h9 (by kernel_rfl) ?_
        refine p_run 3 (by kernel_rfl) ?_
        obtain ⟨x7, h10, h7⟩ := o_bind h7
        refine p_ix h10 (by kernel_rfl) ?_
        refine e_end (by kernel_rfl) ?_
        refine q_next ?_
        rcases o_cond h7 with ⟨hb, h7⟩ | ⟨hb, h7⟩
        · refine r_cond_t hb (by kernel_rfl) ?_
          refine pwp_seq ?_
          refine r_reg ?_
          refine e_end (by kernel_rfl) ?_
          refine q_next ?_
          refine pwp_ret ?_
          refine q_block_ret ?_
          refine q_seq_ret ?_
          cases h7
          refine q_lout_ret fun he => ?_
          subst he
          have h11 := o_outr h
          refine q_block_ret ?_
          refine q_seq_ret ?_
          cases h11
          exact q_ret (by kernel_rfl) (by kernel_rfl) (by kernel_rfl)
        · refine r_cond_f hb (by kernel_rfl) ?_
          refine pwp_skip ?_
          refine q_block ?_
          refine q_next ?_
          refine r_reg ?_
          refine e_end (by kernel_rfl) ?_
          cases h7
          exact q_lback (by kernel_rfl)
      · refine r_cond_f hb (by kernel_rfl) ?_
        refine pwp_exit ?_
        refine q_seq_exit ?_
        cases h7
        exact q_lexit (by kernel_rfl) (by kernel_rfl)
    · rintro _ s' rfl hs
      have h := o_outl h
      refine q_block_hit ?_
      refine q_next (pwp_wkr hs ?_)
      refine pwp_seq ?_
      refine r_reg ?_
      refine e_end (by kernel_rfl) ?_
      refine q_next ?_
      refine pwp_ret ?_
      cases h
      exact q_ret (by kernel_rfl) (by kernel_rfl) (by kernel_rfl)

/-! signallingref12.Same -/
noncomputable def d_ref12_Same (a0 : T_api_Route) (a1 : T_api_Route) : Option Bool :=
  bif (((((!(decide (a0.Name = a1.Name))) || (!(decide (a0.Entry = a1.Entry)))) || (!(decide (a0.Exit = a1.Exit)))) || (!(decide (a0.Approach = a1.Approach)))) || (!(decide (a0.Length = a1.Length)))) then (
    some false
  ) else (
    (d_ref12_SameSteps a0.Path a1.Path).bind fun r1 =>
    ((bif (!r1) then some true else (
      (d_ref12_SameSettings a0.Points a1.Points).bind fun r3 =>
      some (!r3)
    )) : Option Bool).bind fun b2 =>
    ((bif b2 then some true else (
      (d_ref12_SameInts a0.Sections a1.Sections).bind fun r5 =>
      some (!r5)
    )) : Option Bool).bind fun b4 =>
    bif b4 then (
      some false
    ) else (
      (d_ref12_SameSteps a0.Over a1.Over).bind fun r6 =>
      ((bif r6 then (
        (d_ref12_SameSettings a0.OverPoints a1.OverPoints).bind fun r8 =>
        some r8
      ) else some false) : Option Bool).bind fun b7 =>
      ((bif b7 then (
        (d_ref12_SameInts a0.OverSections a1.OverSections).bind fun r10 =>
        some r10
      ) else some false) : Option Bool).bind fun b9 =>
      ((bif b9 then (
        (d_ref12_SameSettings a0.Flank a1.Flank).bind fun r12 =>
        some r12
      ) else some false) : Option Bool).bind fun b11 =>
      ((bif b11 then (
        (d_ref12_SameInts a0.Guards a1.Guards).bind fun r14 =>
        some r14
      ) else some false) : Option Bool).bind fun b13 =>
      ((bif b13 then (
        (d_ref12_sameEnds a0.Gaps a1.Gaps).bind fun r16 =>
        some r16
      ) else some false) : Option Bool).bind fun b15 =>
      some b15
    )
  )
theorem d_ref12_Same_ok (a0 : T_api_Route) (a1 : T_api_Route) (r : Bool) (h : d_ref12_Same a0 a1 = some r) : PCall Go.Proofs.Tryd.prog GlS 10 [Enc.pv a0, Enc.pv a1] (Enc.pv r) := by
  unfold d_ref12_Same at h
  refine pcall_of_pwp Go.Proofs.Tryd.func10 (by rfl) rfl Go.Proofs.Tryd.ntmps10 (by rfl) rfl ?_
  refine pwp_seq ?_
  refine r_reg ?_
  refine e_end (by kernel_rfl) ?_
  refine q_next ?_
  refine pwp_seq ?_
  refine pwp_seq ?_
  refine r_reg ?_
  refine p_run 6 (by kernel_rfl) ?_
  refine e_segb 6 16 ((!(decide (a0.Name = a1.Name))) || (!(decide (a0.Entry = a1.Entry)))) (fun x hx => ?_) ?_
  · rcases b_or hx with ⟨hb, hx⟩ | ⟨hb, hx⟩
    · refine p_settle 10 hb (by kernel_rfl) (by kernel_rfl) ?_
      subst hx
      exact f_end (by kernel_rfl) (by kernel_rfl)
    · refine p_settle 10 hb (by kernel_rfl) (by kernel_rfl) ?_
      subst hx
      exact f_end (by kernel_rfl) (by kernel_rfl)
  · refine p_run 1 (by kernel_rfl) ?_
    refine e_segb 6 23 (((!(decide (a0.Name = a1.Name))) || (!(decide (a0.Entry = a1.Entry)))) || (!(decide (a0.Exit = a1.Exit)))) (fun x hx => ?_) ?_
    · rcases b_or hx with ⟨hb, hx⟩ | ⟨hb, hx⟩
      · refine p_settle 17 hb (by kernel_rfl) (by kernel_rfl) ?_
        subst hx
        exact f_end (by kernel_rfl) (by kernel_rfl)
      · refine p_settle 17 hb (by kernel_rfl) (by kernel_rfl) ?_
        subst hx
        exact f_end (by kernel_rfl) (by kernel_rfl)
    · refine p_run 1 (by kernel_rfl) ?_
      refine e_segb 6 30 ((((!(decide (a0.Name = a1.Name))) || (!(decide (a0.Entry = a1.Entry)))) || (!(decide (a0.Exit = a1.Exit)))) || (!(decide (a0.Approach = a1.Approach)))) (fun x hx => ?_) ?_
      · rcases b_or hx with ⟨hb, hx⟩ | ⟨hb, hx⟩
        · refine p_settle 24 hb (by kernel_rfl) (by kernel_rfl) ?_
          subst hx
          exact f_end (by kernel_rfl) (by kernel_rfl)
        · refine p_settle 24 hb (by kernel_rfl) (by kernel_rfl) ?_
          subst hx
          exact f_end (by kernel_rfl) (by kernel_rfl)
      · refine p_run 1 (by kernel_rfl) ?_
        refine e_segb 6 37 (((((!(decide (a0.Name = a1.Name))) || (!(decide (a0.Entry = a1.Entry)))) || (!(decide (a0.Exit = a1.Exit)))) || (!(decide (a0.Approach = a1.Approach)))) || (!(decide (a0.Length = a1.Length)))) (fun x hx => ?_) ?_
        · rcases b_or hx with ⟨hb, hx⟩ | ⟨hb, hx⟩
          · refine p_settle 31 hb (by kernel_rfl) (by kernel_rfl) ?_
            subst hx
            exact f_end (by kernel_rfl) (by kernel_rfl)
          · refine p_settle 31 hb (by kernel_rfl) (by kernel_rfl) ?_
            subst hx
            exact f_end (by kernel_rfl) (by kernel_rfl)
        · refine e_nil (by kernel_rfl) ?_
          refine q_next ?_
          rcases o_cond h with ⟨hb, h⟩ | ⟨hb, h⟩
          · refine r_cond_t hb (by kernel_rfl) ?_
            refine pwp_seq ?_
            refine r_reg ?_
            refine e_end (by kernel_rfl) ?_
            refine q_next ?_
            refine pwp_ret ?_
            refine q_seq_ret ?_
            cases h
            exact q_ret (by kernel_rfl) (by kernel_rfl) (by kernel_rfl)
          · refine r_cond_f hb (by kernel_rfl) ?_
            refine pwp_skip ?_
            refine q_next ?_
            refine pwp_seq ?_
            refine pwp_seq ?_
            refine r_reg ?_
            refine p_run 4 (by kernel_rfl) ?_
            obtain ⟨r1, h1, h⟩ := o_bind h
            refine p_call (d_ref12_SameSteps_ok _ _ r1 h1) (by kernel_rfl) (by kernel_rfl) ?_
            obtain ⟨b2, h2, h⟩ := o_bind h
            refine p_run 2 (by kernel_rfl) ?_
            refine e_seg 7 51 (.bool b2) ?_ ?_
            · rcases o_cond h2 with ⟨hb, h2⟩ | ⟨hb, h2⟩
              · refine p_settle 44 hb (by kernel_rfl) (by kernel_rfl) ?_
                cases h2
                exact f_end (by kernel_rfl) (by kernel_rfl)
              · refine p_settle 44 hb (by kernel_rfl) (by kernel_rfl) ?_
                refine p_run 4 (by kernel_rfl) ?_
                obtain ⟨r3, h3, h2⟩ := o_bind h2
                refine p_call (d_ref12_SameSettings_ok _ _ r3 h3) (by kernel_rfl) (by kernel_rfl) ?_
                cases h2
                exact f_end (by kernel_rfl) (by kernel_rfl)
            · obtain ⟨b4, h4, h⟩ := o_bind h
              refine p_run 1 (by kernel_rfl) ?_
              refine e_seg 7 59 (.bool b4) ?_ ?_
              · rcases o_cond h4 with ⟨hb, h4⟩ | ⟨hb, h4⟩
                · refine p_settle 52 hb (by kernel_rfl) (by kernel_rfl) ?_
                  cases h4
                  exact f_end (by kernel_rfl) (by kernel_rfl)
                · refine p_settle 52 hb (by kernel_rfl) (by kernel_rfl) ?_
                  refine p_run 4 (by kernel_rfl) ?_
                  obtain ⟨r5, h5, h4⟩ := o_bind h4
                  refine p_call (d_ref12_SameInts_ok _ _ r5 h5) (by kernel_rfl) (by kernel_rfl) ?_
                  cases h4
                  exact f_end (by kernel_rfl) (by kernel_rfl)
              · refine e_nil (by kernel_rfl) ?_
                refine q_next ?_
                rcases o_cond h with ⟨hb, h⟩ | ⟨hb, h⟩
                · refine r_cond_t hb (by kernel_rfl) ?_
                  refine pwp_seq ?_
                  refine r_reg ?_
                  refine e_end (by kernel_rfl) ?_
                  refine q_next ?_
                  refine pwp_ret ?_
                  refine q_seq_ret ?_
                  cases h
                  exact q_ret (by kernel_rfl) (by kernel_rfl) (by kernel_rfl)
                · refine r_cond_f hb (by kernel_rfl) ?_
                  refine pwp_skip ?_
                  refine q_next ?_
                  refine pwp_seq ?_
                  refine r_reg ?_
                  refine p_run 4 (by kernel_rfl) ?_
                  obtain ⟨r6, h6, h⟩ := o_bind h
                  refine p_call (d_ref12_SameSteps_ok _ _ r6 h6) (by kernel_rfl) (by kernel_rfl) ?_
                  obtain ⟨b7, h7, h⟩ := o_bind h
                  refine p_run 1 (by kernel_rfl) ?_
                  refine e_seg 6 71 (.bool b7) ?_ ?_
                  · rcases o_cond h7 with ⟨hb, h7⟩ | ⟨hb, h7⟩
                    · refine p_settle 65 hb (by kernel_rfl) (by kernel_rfl) ?_
                      refine p_run 4 (by kernel_rfl) ?_
                      obtain ⟨r8, h8, h7⟩ := o_bind h7
                      refine p_call (d_ref12_SameSettings_ok _ _ r8 h8) (by kernel_rfl) (by kernel_rfl) ?_
                      cases h7
                      exact f_end (by kernel_rfl) (by kernel_rfl)
                    · refine p_settle 65 hb (by kernel_rfl) (by kernel_rfl) ?_
                      cases h7
                      exact f_end (by kernel_rfl) (by kernel_rfl)
                  · obtain ⟨b9, h9, h⟩ := o_bind h
                    refine p_run 1 (by kernel_rfl) ?_
                    refine e_seg 6 78 (.bool b9) ?_ ?_
                    · rcases o_cond h9 with ⟨hb, h9⟩ | ⟨hb, h9⟩
                      · refine p_settle 72 hb (by kernel_rfl) (by kernel_rfl) ?_
                        refine p_run 4 (by kernel_rfl) ?_
                        obtain ⟨r10, h10, h9⟩ := o_bind h9
                        refine p_call (d_ref12_SameInts_ok _ _ r10 h10) (by kernel_rfl) (by kernel_rfl) ?_
                        cases h9
                        exact f_end (by kernel_rfl) (by kernel_rfl)
                      · refine p_settle 72 hb (by kernel_rfl) (by kernel_rfl) ?_
                        cases h9
                        exact f_end (by kernel_rfl) (by kernel_rfl)
                    · obtain ⟨b11, h11, h⟩ := o_bind h
                      refine p_run 1 (by kernel_rfl) ?_
                      refine e_seg 6 85 (.bool b11) ?_ ?_
                      · rcases o_cond h11 with ⟨hb, h11⟩ | ⟨hb, h11⟩
                        · refine p_settle 79 hb (by kernel_rfl) (by kernel_rfl) ?_
                          refine p_run 4 (by kernel_rfl) ?_
                          obtain ⟨r12, h12, h11⟩ := o_bind h11
                          refine p_call (d_ref12_SameSettings_ok _ _ r12 h12) (by kernel_rfl) (by kernel_rfl) ?_
                          cases h11
                          exact f_end (by kernel_rfl) (by kernel_rfl)
                        · refine p_settle 79 hb (by kernel_rfl) (by kernel_rfl) ?_
                          cases h11
                          exact f_end (by kernel_rfl) (by kernel_rfl)
                      · obtain ⟨b13, h13, h⟩ := o_bind h
                        refine p_run 1 (by kernel_rfl) ?_
                        refine e_seg 6 92 (.bool b13) ?_ ?_
                        · rcases o_cond h13 with ⟨hb, h13⟩ | ⟨hb, h13⟩
                          · refine p_settle 86 hb (by kernel_rfl) (by kernel_rfl) ?_
                            refine p_run 4 (by kernel_rfl) ?_
                            obtain ⟨r14, h14, h13⟩ := o_bind h13
                            refine p_call (d_ref12_SameInts_ok _ _ r14 h14) (by kernel_rfl) (by kernel_rfl) ?_
                            cases h13
                            exact f_end (by kernel_rfl) (by kernel_rfl)
                          · refine p_settle 86 hb (by kernel_rfl) (by kernel_rfl) ?_
                            cases h13
                            exact f_end (by kernel_rfl) (by kernel_rfl)
                        · obtain ⟨b15, h15, h⟩ := o_bind h
                          refine p_run 1 (by kernel_rfl) ?_
                          refine e_seg 6 99 (.bool b15) ?_ ?_
                          · rcases o_cond h15 with ⟨hb, h15⟩ | ⟨hb, h15⟩
                            · refine p_settle 93 hb (by kernel_rfl) (by kernel_rfl) ?_
                              refine p_run 4 (by kernel_rfl) ?_
                              obtain ⟨r16, h16, h15⟩ := o_bind h15
                              refine p_call (d_ref12_sameEnds_ok _ _ r16 h16) (by kernel_rfl) (by kernel_rfl) ?_
                              cases h15
                              exact f_end (by kernel_rfl) (by kernel_rfl)
                            · refine p_settle 93 hb (by kernel_rfl) (by kernel_rfl) ?_
                              cases h15
                              exact f_end (by kernel_rfl) (by kernel_rfl)
                          · refine e_end (by kernel_rfl) ?_
                            refine q_next ?_
                            refine pwp_ret ?_
                            cases h
                            exact q_ret (by kernel_rfl) (by kernel_rfl) (by kernel_rfl)

/-! overlap.Length -/
noncomputable def d_overlap_Length (a0 : T_api_Layout) (a1 : T_api_Route) : Option Int :=
  (d_walk_Length a0 a1.Over).bind fun r1 =>
  some r1
theorem d_overlap_Length_ok (a0 : T_api_Layout) (a1 : T_api_Route) (r : Int) (h : d_overlap_Length a0 a1 = some r) : PCall Go.Proofs.Tryd.prog GlS 14 [Enc.pv a0, Enc.pv a1] (Enc.pv r) := by
  unfold d_overlap_Length at h
  refine pcall_of_pwp Go.Proofs.Tryd.func14 (by rfl) rfl Go.Proofs.Tryd.ntmps14 (by rfl) rfl ?_
  refine pwp_seq ?_
  refine r_reg ?_
  refine e_end (by kernel_rfl) ?_
  refine q_next ?_
  refine pwp_seq ?_
  refine r_reg ?_
  refine p_run 3 (by kernel_rfl) ?_
  obtain ⟨r1, h1, h⟩ := o_bind h
  refine p_call (d_walk_Length_ok _ _ r1 h1) (by kernel_rfl) (by kernel_rfl) ?_
  refine e_end (by kernel_rfl) ?_
  refine q_next ?_
  refine pwp_ret ?_
  cases h
  exact q_ret (by kernel_rfl) (by kernel_rfl) (by kernel_rfl)

/-! overlap.Whole -/
noncomputable def d_overlap_Whole (a0 : T_api_Layout) (a1 : T_api_Route) : Option Bool :=
  (d_overlap_exitSignal a0 a1).bind fun r1 =>
  ((bif (!r1.2) then some true else (
    (d_overlap_Length a0 a1).bind fun r3 =>
    some (decide (r1.1.Overlap ≤ r3))
  )) : Option Bool).bind fun b2 =>
  some b2
theorem d_overlap_Whole_ok (a0 : T_api_Layout) (a1 : T_api_Route) (r : Bool) (h : d_overlap_Whole a0 a1 = some r) : PCall Go.Proofs.Tryd.prog GlS 16 [Enc.pv a0, Enc.pv a1] (Enc.pv r) := by
  unfold d_overlap_Whole at h
  refine pcall_of_pwp Go.Proofs.Tryd.func16 (by rfl) rfl Go.Proofs.Tryd.ntmps16 (by rfl) rfl ?_
  refine pwp_seq ?_
  refine r_reg ?_
  refine e_end (by kernel_rfl) ?_
  refine q_next ?_
  refine pwp_seq ?_
  refine r_reg ?_
  refine p_run 2 (by kernel_rfl) ?_
  obtain ⟨r1, h1, h⟩ := o_bind h
  refine p_call (d_overlap_exitSignal_ok _ _ r1 h1) (by kernel_rfl) (by kernel_rfl) ?_
  refine e_end (by kernel_rfl) ?_
  refine q_next ?_
  refine pwp_seq ?_
  refine r_regd (by kernel_rfl) (by kernel_rfl) ?_
  obtain ⟨b2, h2, h⟩ := o_bind h
  refine p_run 3 (by kernel_rfl) ?_
  refine e_seg 7 22 (.bool b2) ?_ ?_
  · rcases o_cond h2 with ⟨hb, h2⟩ | ⟨hb, h2⟩
    · refine p_settle 15 hb (by kernel_rfl) (by kernel_rfl) ?_
      cases h2
      exact f_end (by kernel_rfl) (by kernel_rfl)
    · refine p_settle 15 hb (by kernel_rfl) (by kernel_rfl) ?_
      refine p_run 2 (by kernel_rfl) ?_
      obtain ⟨r3, h3, h2⟩ := o_bind h2
      refine p_call (d_overlap_Length_ok _ _ r3 h3) (by kernel_rfl) (by kernel_rfl) ?_
      cases h2
      exact f_end (by kernel_rfl) (by kernel_rfl)
  · refine e_end (by kernel_rfl) ?_
    refine q_next ?_
    refine pwp_ret ?_
    cases h
    exact q_ret (by kernel_rfl) (by kernel_rfl) (by kernel_rfl)

end PM
