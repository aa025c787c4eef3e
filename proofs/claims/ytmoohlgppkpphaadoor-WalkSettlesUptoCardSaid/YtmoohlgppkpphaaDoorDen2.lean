/-
  Plain functions for the program's functions, and the proofs that the program does them. Printed by den.py.
-/
import Derived.Test.YtmoohlgppkpphaaDoorDen1
namespace PM
open Go Go.RowKit
attribute [local irreducible] pops pwp

/-! signallingref09.insert -/
noncomputable def d_ref09_insert_0 (a0 : (List T_api_Setting)) (a1 : T_api_Setting) : (Int × (List T_api_Setting)) → Option ((Int × (List T_api_Setting)) ⊕ (((List T_api_Setting) × Int) ⊕ (List T_api_Setting))) := fun (x18, x19) =>
  ((bif decide (x18 < ((a0.length : Nat) : Int)) then (
    (ixO a0 x18).bind fun x31 =>
    ((bif decide (x31.El < a1.El) then some true else (
      (ixO a0 x18).bind fun x33 =>
      ((bif decide (x33.El = a1.El) then (
        (ixO a0 x18).bind fun x35 =>
        some (decide (x35.Pos < a1.Pos))
      ) else some false) : Option Bool).bind fun b34 =>
      some b34
    )) : Option Bool).bind fun b32 =>
    some b32
  ) else some false) : Option Bool).bind fun b30 =>
  bif b30 then (
    (ixO a0 x18).bind fun x36 =>
    (appO x19 [x36]).bind fun x37 =>
    some (.inl (w64 (x18 + 1), x37))
  ) else (
    some (.inr (.inl (x19, x18)))
  )

noncomputable def d_ref09_insert (a0 : (List T_api_Setting)) (a1 : T_api_Setting) : Option (List T_api_Setting) :=
  onInl (α := ((List T_api_Setting) × Int)) (β := (List T_api_Setting)) (loopO (d_ref09_insert_0 a0 a1) (0, ([] : (List T_api_Setting)))) fun (x28, x29) =>
  onInl (α := (List T_api_Setting)) (β := (List T_api_Setting)) (
    ((bif decide (x29 = ((a0.length : Nat) : Int)) then some true else (
      (ixO a0 x29).bind fun x43 =>
      some (!(eq_T_api_Setting x43 a1))
    )) : Option Bool).bind fun b42 =>
    bif b42 then (
      (appO x28 [a1]).bind fun x44 =>
      some (.inl x44)
    ) else (
      some (.inl x28)
    )
  ) fun x41 =>
  (slO a0 (some x29) none none).bind fun x45 =>
  (appO x41 x45).bind fun x46 =>
  some x46
theorem d_ref09_insert_ok (a0 : (List T_api_Setting)) (a1 : T_api_Setting) (r : (List T_api_Setting)) (h : d_ref09_insert a0 a1 = some r) : PCall Go.Proofs.Tryd.prog GlS 64 [Enc.pv a0, Enc.pv a1] (lstOf (.own 100005) r) := by
  unfold d_ref09_insert at h
  refine pcall_of_pwp Go.Proofs.Tryd.func64 (by rfl) rfl Go.Proofs.Tryd.ntmps64 (by rfl) rfl ?_
  refine pwp_seq ?_
  refine r_reg ?_
  refine e_end (by kernel_rfl) ?_
  refine q_next ?_
  refine pwp_seq ?_
  refine r_reg ?_
  refine e_end (by kernel_rfl) ?_
  refine q_next ?_
  refine pwp_seq ?_
  refine r_reg ?_
  refine e_end (by kernel_rfl) ?_
  refine q_next ?_
  refine pwp_seq ?_
  refine pwp_block ?_
  refine g_nil 5 100005 2 16 (by kernel_rfl) (by kernel_rfl) ?_
  obtain ⟨o26, h26, h⟩ := o_inl h
  refine r_loop2 72 0 (fun (x18, x19) => ⟨[(0, lstOf .frozen (a0 : (List T_api_Setting))), (3, .ref 3 0), (5, lstOf (.own 100005) (x19 : (List T_api_Setting))), (6, .int .i64 x18)], [(3, .cells (cellsOf a1))], [(100005, (((x19).map cellsOf).length, 2))], []⟩) (fun (x28, x29) => ⟨[(0, lstOf .frozen (a0 : (List T_api_Setting))), (3, .ref 3 0), (5, lstOf (.own 100005) (x28 : (List T_api_Setting))), (6, .int .i64 x29)], [(3, .cells (cellsOf a1))], [(100005, (((x28).map cellsOf).length, 2))], []⟩) h26 (by kernel_rfl) (fun _ => by kernel_rfl) ?_ ?_
  · rintro ⟨x18, x19⟩ oh25 h25
    unfold d_ref09_insert_0 at h25
    refine pwp_seq ?_
    refine pwp_seq ?_
    refine r_regd (by kernel_rfl) (by kernel_rfl) ?_
    refine p_run 2 (by kernel_rfl) ?_
    refine p_len (L := (a0 : (List T_api_Setting))) (by kernel_rfl) ?_
    obtain ⟨b30, h27, h25⟩ := o_bind h25
    refine p_run 2 (by kernel_rfl) ?_
    refine e_seg 29 40 (.bool b30) ?_ ?_
    · rcases o_cond h27 with ⟨hb, h27⟩ | ⟨hb, h27⟩
      · refine p_settle 11 hb (by kernel_rfl) (by kernel_rfl) ?_
        refine p_run 2 (by kernel_rfl) ?_
        obtain ⟨x31, h28, h27⟩ := o_bind h27
        refine p_ix h28 (by kernel_rfl) ?_
        obtain ⟨b32, h29, h27⟩ := o_bind h27
        refine p_run 6 (by kernel_rfl) ?_
        refine f_seg 19 39 (.bool b32) ?_ ?_
        · rcases o_cond h29 with ⟨hb, h29⟩ | ⟨hb, h29⟩
          · refine p_settle 20 hb (by kernel_rfl) (by kernel_rfl) ?_
            cases h29
            exact f_end (by kernel_rfl) (by kernel_rfl)
          · refine p_settle 20 hb (by kernel_rfl) (by kernel_rfl) ?_
            refine p_run 2 (by kernel_rfl) ?_
            obtain ⟨x33, h30, h29⟩ := o_bind h29
            refine p_ix h30 (by kernel_rfl) ?_
            obtain ⟨b34, h31, h29⟩ := o_bind h29
            refine p_run 6 (by kernel_rfl) ?_
            refine f_seg 9 38 (.bool b34) ?_ ?_
            · rcases o_cond h31 with ⟨hb, h31⟩ | ⟨hb, h31⟩
              · refine p_settle 29 hb (by kernel_rfl) (by kernel_rfl) ?_
                refine p_run 2 (by kernel_rfl) ?_
                obtain ⟨x35, h32, h31⟩ := o_bind h31
                refine p_ix h32 (by kernel_rfl) ?_
                cases h31
                exact f_end (by kernel_rfl) (by kernel_rfl)
              · refine p_settle 29 hb (by kernel_rfl) (by kernel_rfl) ?_
                cases h31
                exact f_end (by kernel_rfl) (by kernel_rfl)
            · cases h29
              exact f_end (by kernel_rfl) (by kernel_rfl)
        · cases h27
          exact f_end (by kernel_rfl) (by kernel_rfl)
      · refine p_settle 11 hb (by kernel_rfl) (by kernel_rfl) ?_
        cases h27
        exact f_end (by kernel_rfl) (by kernel_rfl)
    · refine e_nil (by kernel_rfl) ?_
      refine q_next ?_
      rcases o_cond h25 with ⟨hb, h25⟩ | ⟨hb, h25⟩
      · refine r_cond_t hb (by kernel_rfl) ?_
        refine pwp_skip ?_
        refine q_next ?_
        refine pwp_block ?_
        refine pwp_seq ?_
        refine r_reg ?_
        refine p_run 3 (by kernel_rfl) ?_
        obtain ⟨x36, h33, h25⟩ := o_bind h25
        refine p_ix h33 (by kernel_rfl) ?_
        refine p_run 2 (by kernel_rfl) ?_
        obtain ⟨x37, h34, h25⟩ := o_bind h25
        refine p_app (tk := 100005) h34 (by kernel_rfl) (by kernel_rfl) ?_
        refine e_end (by kernel_rfl) ?_
        refine q_next ?_
        refine r_reg ?_
        refine e_end (by kernel_rfl) ?_
        refine q_block ?_
        cases h25
        exact q_lback (by kernel_rfl)
      · refine r_cond_f hb (by kernel_rfl) ?_
        refine pwp_exit ?_
        refine q_seq_exit ?_
        cases h25
        exact q_lexit (by kernel_rfl) (by kernel_rfl)
  · rintro ⟨x28, x29⟩ s' rfl hs
    have h := o_outl h
    refine q_block_hit ?_
    refine q_next (pwp_wkr hs ?_)
    obtain ⟨o38, h38, h⟩ := o_inl h
    refine r_join (o := o38) 72 (fun x41 => ⟨[(0, lstOf .frozen (a0 : (List T_api_Setting))), (5, lstOf (.own 100005) (x41 : (List T_api_Setting))), (6, .int .i64 x29)], [], [(100005, (((x41).map cellsOf).length, 2))], []⟩) ?_ ?_
    · refine pwp_seq ?_
      refine r_regd (by kernel_rfl) (by kernel_rfl) ?_
      refine p_run 2 (by kernel_rfl) ?_
      refine p_len (L := (a0 : (List T_api_Setting))) (by kernel_rfl) ?_
      obtain ⟨b42, h39, h38⟩ := o_bind h38
      refine p_run 2 (by kernel_rfl) ?_
      refine e_seg 7 61 (.bool b42) ?_ ?_
      · rcases o_cond h39 with ⟨hb, h39⟩ | ⟨hb, h39⟩
        · refine p_settle 54 hb (by kernel_rfl) (by kernel_rfl) ?_
          cases h39
          exact f_end (by kernel_rfl) (by kernel_rfl)
        · refine p_settle 54 hb (by kernel_rfl) (by kernel_rfl) ?_
          refine p_run 2 (by kernel_rfl) ?_
          obtain ⟨x43, h40, h39⟩ := o_bind h39
          refine p_ix h40 (by kernel_rfl) ?_
          cases h39
          exact f_end (by kernel_rfl) (by kernel_rfl)
      · refine e_nil (by kernel_rfl) ?_
        refine q_next ?_
        rcases o_cond h38 with ⟨hb, h38⟩ | ⟨hb, h38⟩
        · refine r_cond_t hb (by kernel_rfl) ?_
          refine r_reg ?_
          refine p_run 3 (by kernel_rfl) ?_
          obtain ⟨x44, h41, h38⟩ := o_bind h38
          refine p_app (tk := 100005) h41 (by kernel_rfl) (by kernel_rfl) ?_
          refine e_end (by kernel_rfl) ?_
          cases h38
          exact q_join (by kernel_rfl) (by kernel_rfl)
        · refine r_cond_f hb (by kernel_rfl) ?_
          refine pwp_skip ?_
          cases h38
          exact q_join (by kernel_rfl) (by kernel_rfl)
    · rintro x41 rfl
      have h := o_outl h
      refine pwp_seq ?_
      refine r_reg ?_
      refine p_run 3 (by kernel_rfl) ?_
      obtain ⟨x45, h42, h⟩ := o_bind h
      refine p_sl h42 .frozen (by kernel_rfl) (by kernel_rfl) (by kernel_rfl) ?_
      obtain ⟨x46, h43, h⟩ := o_bind h
      refine p_app (tk := 100005) h43 (by kernel_rfl) (by kernel_rfl) ?_
      refine e_end (by kernel_rfl) ?_
      refine q_next ?_
      refine pwp_seq ?_
      refine r_reg ?_
      refine e_end (by kernel_rfl) ?_
      refine q_next ?_
      refine pwp_ret ?_
      cases h
      exact q_ret (by kernel_rfl) (by kernel_rfl) (by kernel_rfl)
theorem d_ref09_insert_fz (a0 : (List T_api_Setting)) (a1 : T_api_Setting) (r : (List T_api_Setting)) (h : d_ref09_insert a0 a1 = some r) : PCall Go.Proofs.Tryd.prog GlS 64 [Enc.pv a0, Enc.pv a1] (Enc.pv r) :=
  (d_ref09_insert_ok a0 a1 r h).freeze (by kernel_rfl) (by kernel_rfl) (by kernel_rfl)

/-! signallingref09.Settings -/
noncomputable def d_ref09_Settings_0 (a0 : T_api_Layout) (a1 : (List T_api_Step)) : (Int × (List T_api_Setting)) → Option ((Int × (List T_api_Setting)) ⊕ ((List T_api_Setting) ⊕ (List T_api_Setting))) := fun (x20, x21) =>
  bif decide (x20 < ((a1.length : Nat) : Int)) then (
    onInl (α := (List T_api_Setting)) (β := ((Int × (List T_api_Setting)) ⊕ ((List T_api_Setting) ⊕ (List T_api_Setting)))) (
      (ixO a1 x20).bind fun x37 =>
      (d_ref09_need a0 x37).bind fun r38 =>
      bif (r38.2 && (!(decide (r38.1 = 0)))) then (
        (ixO a1 x20).bind fun x39 =>
        (d_ref09_insert x21 (T_api_Setting.mk x39.El r38.1)).bind fun r40 =>
        some (.inl r40)
      ) else (
        some (.inl x21)
      )
    ) fun x36 =>
    some (.inl (w64 (x20 + 1), x36))
  ) else (
    some (.inr (.inl x21))
  )

noncomputable def d_ref09_Settings (a0 : T_api_Layout) (a1 : (List T_api_Step)) : Option (List T_api_Setting) :=
  onInl (α := (List T_api_Setting)) (β := (List T_api_Setting)) (loopO (d_ref09_Settings_0 a0 a1) (0, ([] : (List T_api_Setting)))) fun x31 =>
  some x31
theorem d_ref09_Settings_ok (a0 : T_api_Layout) (a1 : (List T_api_Step)) (r : (List T_api_Setting)) (h : d_ref09_Settings a0 a1 = some r) : PCall Go.Proofs.Tryd.prog GlS 33 [Enc.pv a0, Enc.pv a1] (Enc.pv r) := by
  unfold d_ref09_Settings at h
  refine pcall_of_pwp Go.Proofs.Tryd.func33 (by rfl) rfl Go.Proofs.Tryd.ntmps33 (by rfl) rfl ?_
  refine pwp_seq ?_
  refine r_reg ?_
  refine e_end (by kernel_rfl) ?_
  refine q_next ?_
  refine pwp_seq ?_
  refine r_reg ?_
  refine e_end (by kernel_rfl) ?_
  refine q_next ?_
  refine pwp_seq ?_
  refine pwp_seq ?_
  refine r_reg ?_
  refine e_end (by kernel_rfl) ?_
  refine q_next ?_
  refine pwp_block ?_
  obtain ⟨o29, h29, h⟩ := o_inl h
  refine r_loop2 39 0 (fun (x20, x21) => ⟨[(1, lstOf .frozen (a1 : (List T_api_Step))), (2, .ref 2 0), (5, lstOf .frozen (x21 : (List T_api_Setting))), (6, .int .i64 x20)], [(2, .cells (cellsOf a0))], [], []⟩) (fun x31 => ⟨[(5, lstOf .frozen (x31 : (List T_api_Setting)))], [], [], []⟩) h29 (by kernel_rfl) (fun _ => by kernel_rfl) ?_ ?_
  · rintro ⟨x20, x21⟩ oh28 h28
    unfold d_ref09_Settings_0 at h28
    refine pwp_seq ?_
    refine pwp_seq ?_
    refine r_reg ?_
    refine p_run 2 (by kernel_rfl) ?_
    refine p_len (L := (a1 : (List T_api_Step))) (by kernel_rfl) ?_
    refine e_end (by kernel_rfl) ?_
    refine q_next ?_
    rcases o_cond h28 with ⟨hb, h28⟩ | ⟨hb, h28⟩
    · refine r_cond_t hb (by kernel_rfl) ?_
      refine pwp_skip ?_
      refine q_next ?_
      obtain ⟨o34, h34, h28⟩ := o_inl h28
      refine r_join (o := o34) 39 (fun x36 => ⟨[(1, lstOf .frozen (a1 : (List T_api_Step))), (2, .ref 2 0), (5, lstOf .frozen (x36 : (List T_api_Setting))), (6, .int .i64 x20)], [(2, .cells (cellsOf a0))], [], []⟩) ?_ ?_
      · refine pwp_block ?_
        refine pwp_seq ?_
        refine r_regd (by kernel_rfl) (by kernel_rfl) ?_
        refine p_run 3 (by kernel_rfl) ?_
        obtain ⟨x37, h35, h34⟩ := o_bind h34
        refine p_ix h35 (by kernel_rfl) ?_
        refine p_run 1 (by kernel_rfl) ?_
        obtain ⟨r38, h36, h34⟩ := o_bind h34
        refine p_call (d_ref09_need_ok _ _ r38 h36) (by kernel_rfl) (by kernel_rfl) ?_
        refine e_end (by kernel_rfl) ?_
        refine q_next ?_
        refine pwp_seq ?_
        refine r_reg ?_
        refine p_run 2 (by kernel_rfl) ?_
        refine e_segb 3 28 (r38.2 && (!(decide (r38.1 = 0)))) (fun x hx => ?_) ?_
        · rcases b_and hx with ⟨hb, hx⟩ | ⟨hb, hx⟩
          · refine p_settle 25 hb (by kernel_rfl) (by kernel_rfl) ?_
            subst hx
            exact f_end (by kernel_rfl) (by kernel_rfl)
          · refine p_settle 25 hb (by kernel_rfl) (by kernel_rfl) ?_
            subst hx
            exact f_end (by kernel_rfl) (by kernel_rfl)
        · refine e_nil (by kernel_rfl) ?_
          refine q_next ?_
          rcases o_cond h34 with ⟨hb, h34⟩ | ⟨hb, h34⟩
          · refine r_cond_t hb (by kernel_rfl) ?_
            refine r_reg ?_
            refine p_run 3 (by kernel_rfl) ?_
            obtain ⟨x39, h37, h34⟩ := o_bind h34
            refine p_ix h37 (by kernel_rfl) ?_
            refine p_run 4 (by kernel_rfl) ?_
            obtain ⟨r40, h38, h34⟩ := o_bind h34
            refine p_call (d_ref09_insert_ok _ _ r40 h38) (by kernel_rfl) (by kernel_rfl) ?_
            refine e_end (by kernel_rfl) ?_
            refine q_block ?_
            cases h34
            exact q_join (by kernel_rfl) (by kernel_rfl)
          · refine r_cond_f hb (by kernel_rfl) ?_
            refine pwp_skip ?_
            refine q_block ?_
            cases h34
            exact q_join (by kernel_rfl) (by kernel_rfl)
      · rintro x36 rfl
        have h28 := o_outl h28
        refine r_reg ?_
        refine e_end (by kernel_rfl) ?_
        cases h28
        exact q_lback (by kernel_rfl)
    · refine r_cond_f hb (by kernel_rfl) ?_
      refine pwp_exit ?_
      refine q_seq_exit ?_
      cases h28
      exact q_lexit (by kernel_rfl) (by kernel_rfl)
  · rintro x31 s' rfl hs
    have h := o_outl h
    refine q_block_hit ?_
    refine q_next (pwp_wkr hs ?_)
    refine pwp_seq ?_
    refine r_reg ?_
    refine e_end (by kernel_rfl) ?_
    refine q_next ?_
    refine pwp_ret ?_
    cases h
    exact q_ret (by kernel_rfl) (by kernel_rfl) (by kernel_rfl)

/-! signallingref09.SameSettings -/
noncomputable def d_ref09_SameSettings_0 (a0 : (List T_api_Setting)) (a1 : (List T_api_Setting)) : Int → Option (Int ⊕ (Unit ⊕ Bool)) := fun x3 =>
  bif decide (x3 < ((a0.length : Nat) : Int)) then (
    (ixO a0 x3).bind fun x6 =>
    (ixO a1 x3).bind fun x7 =>
    bif (!(eq_T_api_Setting x6 x7)) then (
      some (.inr (.inr false))
    ) else (
      some (.inl (w64 (x3 + 1)))
    )
  ) else (
    some (.inr (.inl ()))
  )

noncomputable def d_ref09_SameSettings (a0 : (List T_api_Setting)) (a1 : (List T_api_Setting)) : Option Bool :=
  bif (!(decide (((a0.length : Nat) : Int) = ((a1.length : Nat) : Int)))) then (
    some false
  ) else (
    onInl (α := Unit) (β := Bool) (loopO (d_ref09_SameSettings_0 a0 a1) 0) fun _ =>
    some true
  )
theorem d_ref09_SameSettings_ok (a0 : (List T_api_Setting)) (a1 : (List T_api_Setting)) (r : Bool) (h : d_ref09_SameSettings a0 a1 = some r) : PCall Go.Proofs.Tryd.prog GlS 31 [Enc.pv a0, Enc.pv a1] (Enc.pv r) := by
  unfold d_ref09_SameSettings at h
  refine pcall_of_pwp Go.Proofs.Tryd.func31 (by rfl) rfl Go.Proofs.Tryd.ntmps31 (by rfl) rfl ?_
  refine pwp_seq ?_
  refine r_reg ?_
  refine e_end (by kernel_rfl) ?_
  refine q_next ?_
  refine pwp_seq ?_
  refine pwp_seq ?_
  refine r_reg ?_
  refine p_run 1 (by kernel_rfl) ?_
  refine p_len (L := (a0 : (List T_api_Setting))) (by kernel_rfl) ?_
  refine p_run 1 (by kernel_rfl) ?_
  refine p_len (L := (a1 : (List T_api_Setting))) (by kernel_rfl) ?_
  refine e_end (by kernel_rfl) ?_
  refine q_next ?_
  rcases o_cond h with ⟨hb, h⟩ | ⟨hb, h⟩
  · refine r_cond_t hb (by kernel_rfl) ?_
    refine pwp_seq ?_
    refine r_reg ?_
    refine e_end (by kernel_rfl) ?_
    refine q_next ?_
    refine pwp_ret ?_
    refine q_seq_ret ?_
    cases h
    exact q_ret (by kernel_rfl) (by kernel_rfl) (by kernel_rfl)
  · refine r_cond_f hb (by kernel_rfl) ?_
    refine pwp_skip ?_
    refine q_next ?_
    refine pwp_seq ?_
    refine pwp_seq ?_
    refine r_reg ?_
    refine e_end (by kernel_rfl) ?_
    refine q_next ?_
    refine pwp_block ?_
    obtain ⟨o8, h8, h⟩ := o_inl h
    refine r_loop2 26 0 (fun x3 => ⟨[(0, lstOf .frozen (a0 : (List T_api_Setting))), (1, lstOf .frozen (a1 : (List T_api_Setting))), (5, .int .i64 x3)], [], [], []⟩) (fun (_ : Unit) => ⟨[], [], [], []⟩) h8 (by kernel_rfl) (fun _ => by kernel_rfl) ?_ ?_
    · rintro x3 oh7 h7
      unfold d_ref09_SameSettings_0 at h7
      refine pwp_seq ?_
      refine pwp_seq ?_
      refine r_reg ?_
      refine p_run 2 (by kernel_rfl) ?_
      refine p_len (L := (a0 : (List T_api_Setting))) (by kernel_rfl) ?_
      refine e_end (by kernel_rfl) ?_
      refine q_next ?_
      rcases o_cond h7 with ⟨hb, h7⟩ | ⟨hb, h7⟩
      · refine r_cond_t hb (by kernel_rfl) ?_
        refine pwp_skip ?_
        refine q_next ?_
        refine pwp_seq ?_
        refine pwp_block ?_
        refine pwp_seq ?_
        refine r_regd (by kernel_rfl) (by kernel_rfl) ?_
        refine p_run 2 (by kernel_rfl) ?_
        obtain ⟨x6, h9, h7⟩ := o_bind h7
        refine p_ix h9 (by kernel_rfl) ?_
        refine p_run 3 (by kernel_rfl) ?_
        obtain ⟨x7, h10, h7⟩ := o_bind h7
        refine p_ix h10 (by kernel_rfl) ?_
        refine e_end (by kernel_rfl) ?_
        refine q_next ?_
        rcases o_cond h7 with ⟨hb, h7⟩ | ⟨hb, h7⟩
        · refine r_cond_t hb (by kernel_rfl) ?_
          refine pwp_seq ?_
          refine r_reg ?_
          refine e_end (by kernel_rfl) ?_
          refine q_next ?_
          refine pwp_ret ?_
          refine q_block_ret ?_
          refine q_seq_ret ?_
          cases h7
          refine q_lout_ret fun he => ?_
          subst he
          have h11 := o_outr h
          refine q_block_ret ?_
          refine q_seq_ret ?_
          cases h11
          exact q_ret (by kernel_rfl) (by kernel_rfl) (by kernel_rfl)
        · refine r_cond_f hb (by kernel_rfl) ?_
          refine pwp_skip ?_
          refine q_block ?_
          refine q_next ?_
          refine r_reg ?_
          refine e_end (by kernel_rfl) ?_
          cases h7
          exact q_lback (by kernel_rfl)
      · refine r_cond_f hb (by kernel_rfl) ?_
        refine pwp_exit ?_
        refine q_seq_exit ?_
        cases h7
        exact q_lexit (by kernel_rfl) (by kernel_rfl)
    · rintro _ s' rfl hs
      have h := o_outl h
      refine q_block_hit ?_
      refine q_next (pwp_wkr hs ?_)
      refine pwp_seq ?_
      refine r_reg ?_
      refine e_end (by kernel_rfl) ?_
      refine q_next ?_
      refine pwp_ret ?_
      cases h
      exact q_ret (by kernel_rfl) (by kernel_rfl) (by kernel_rfl)

/-! signallingref09.Reverse -/
noncomputable def d_ref09_Reverse_0 (a0 : (List T_api_Step)) : (Int × (List T_api_Step)) → Option ((Int × (List T_api_Step)) ⊕ ((List T_api_Step) ⊕ (List T_api_Step))) := fun (x10, x11) =>
  bif decide (0 ≤ x10) then (
    (ixO a0 x10).bind fun x17 =>
    (ixO a0 x10).bind fun x18 =>
    (ixO a0 x10).bind fun x19 =>
    (appO x11 [(T_api_Step.mk x17.El x18.Out x19.In)]).bind fun x20 =>
    some (.inl (w64 (x10 - 1), x20))
  ) else (
    some (.inr (.inl x11))
  )

noncomputable def d_ref09_Reverse (a0 : (List T_api_Step)) : Option (List T_api_Step) :=
  onInl (α := (List T_api_Step)) (β := (List T_api_Step)) (loopO (d_ref09_Reverse_0 a0) (w64 (((a0.length : Nat) : Int) - 1), ([] : (List T_api_Step)))) fun x16 =>
  some x16
theorem d_ref09_Reverse_ok (a0 : (List T_api_Step)) (r : (List T_api_Step)) (h : d_ref09_Reverse a0 = some r) : PCall Go.Proofs.Tryd.prog GlS 23 [Enc.pv a0] (lstOf (.own 100003) r) := by
  unfold d_ref09_Reverse at h
  refine pcall_of_pwp Go.Proofs.Tryd.func23 (by rfl) rfl Go.Proofs.Tryd.ntmps23 (by rfl) rfl ?_
  refine pwp_seq ?_
  refine r_reg ?_
  refine e_end (by kernel_rfl) ?_
  refine q_next ?_
  refine pwp_seq ?_
  refine r_reg ?_
  refine e_end (by kernel_rfl) ?_
  refine q_next ?_
  refine pwp_seq ?_
  refine pwp_seq ?_
  refine r_reg ?_
  refine p_run 1 (by kernel_rfl) ?_
  refine p_len (L := (a0 : (List T_api_Step))) (by kernel_rfl) ?_
  refine e_end (by kernel_rfl) ?_
  refine q_next ?_
  refine pwp_block ?_
  refine g_nil 3 100003 3 24 (by kernel_rfl) (by kernel_rfl) ?_
  obtain ⟨o14, h14, h⟩ := o_inl h
  refine r_loop2 32 0 (fun (x10, x11) => ⟨[(0, lstOf .frozen (a0 : (List T_api_Step))), (3, lstOf (.own 100003) (x11 : (List T_api_Step))), (4, .int .i64 x10)], [], [(100003, (((x11).map cellsOf).length, 3))], []⟩) (fun x16 => ⟨[(3, lstOf (.own 100003) (x16 : (List T_api_Step)))], [], [(100003, (((x16).map cellsOf).length, 3))], []⟩) h14 (by kernel_rfl) (fun _ => by kernel_rfl) ?_ ?_
  · rintro ⟨x10, x11⟩ oh13 h13
    unfold d_ref09_Reverse_0 at h13
    refine pwp_seq ?_
    refine pwp_seq ?_
    refine r_reg ?_
    refine e_end (by kernel_rfl) ?_
    refine q_next ?_
    rcases o_cond h13 with ⟨hb, h13⟩ | ⟨hb, h13⟩
    · refine r_cond_t hb (by kernel_rfl) ?_
      refine pwp_skip ?_
      refine q_next ?_
      refine pwp_seq ?_
      refine pwp_block ?_
      refine r_regd (by kernel_rfl) (by kernel_rfl) ?_
      refine p_run 3 (by kernel_rfl) ?_
      obtain ⟨x17, h15, h13⟩ := o_bind h13
      refine p_ix h15 (by kernel_rfl) ?_
      refine p_run 4 (by kernel_rfl) ?_
      obtain ⟨x18, h16, h13⟩ := o_bind h13
      refine p_ix h16 (by kernel_rfl) ?_
      refine p_run 4 (by kernel_rfl) ?_
      obtain ⟨x19, h17, h13⟩ := o_bind h13
      refine p_ix h17 (by kernel_rfl) ?_
      refine p_run 4 (by kernel_rfl) ?_
      obtain ⟨x20, h18, h13⟩ := o_bind h13
      refine p_app (tk := 100003) h18 (by kernel_rfl) (by kernel_rfl) ?_
      refine e_end (by kernel_rfl) ?_
      refine q_block ?_
      refine q_next ?_
      refine r_reg ?_
      refine e_end (by kernel_rfl) ?_
      cases h13
      exact q_lback (by kernel_rfl)
    · refine r_cond_f hb (by kernel_rfl) ?_
      refine pwp_exit ?_
      refine q_seq_exit ?_
      cases h13
      exact q_lexit (by kernel_rfl) (by kernel_rfl)
  · rintro x16 s' rfl hs
    have h := o_outl h
    refine q_block_hit ?_
    refine q_next (pwp_wkr hs ?_)
    refine pwp_seq ?_
    refine r_reg ?_
    refine e_end (by kernel_rfl) ?_
    refine q_next ?_
    refine pwp_ret ?_
    cases h
    exact q_ret (by kernel_rfl) (by kernel_rfl) (by kernel_rfl)
theorem d_ref09_Reverse_fz (a0 : (List T_api_Step)) (r : (List T_api_Step)) (h : d_ref09_Reverse a0 = some r) : PCall Go.Proofs.Tryd.prog GlS 23 [Enc.pv a0] (Enc.pv r) :=
  (d_ref09_Reverse_ok a0 r h).freeze (by kernel_rfl) (by kernel_rfl) (by kernel_rfl)

/-! signallinglaw09.WalkMeasures -/
noncomputable def d_law09_WalkMeasures (a0 : T_api_Layout) (a1 : (List T_api_Step)) : Option Bool :=
  (d_law09_sound a0 a1).bind fun r1 =>
  bif (!r1) then (
    (d_law09_alive ).bind fun r2 =>
    some r2
  ) else (
    (d_walk_Valid a0 a1).bind fun r3 =>
    (d_ref09_Valid a0 a1).bind fun r4 =>
    ((bif (r3 == r4) then (
      (d_walk_Length a0 a1).bind fun r6 =>
      (d_ref09_Length a0 a1).bind fun r7 =>
      some (decide (r6 = r7))
    ) else some false) : Option Bool).bind fun b5 =>
    ((bif b5 then (
      (d_walk_Sections a0 a1).bind fun r9 =>
      (d_ref09_Sections a0 a1).bind fun r10 =>
      (d_ref09_SameInts r9 r10).bind fun r11 =>
      some r11
    ) else some false) : Option Bool).bind fun b8 =>
    ((bif b8 then (
      (d_walk_Settings a0 a1).bind fun r13 =>
      (d_ref09_Settings a0 a1).bind fun r14 =>
      (d_ref09_SameSettings r13 r14).bind fun r15 =>
      some r15
    ) else some false) : Option Bool).bind fun b12 =>
    ((bif b12 then (
      (d_walk_Reverse a1).bind fun r17 =>
      (d_ref09_Reverse a1).bind fun r18 =>
      (d_ref09_SameSteps r17 r18).bind fun r19 =>
      some r19
    ) else some false) : Option Bool).bind fun b16 =>
    ((bif b16 then (
      (d_law09_alive ).bind fun r21 =>
      some r21
    ) else some false) : Option Bool).bind fun b20 =>
    some b20
  )
theorem d_law09_WalkMeasures_ok (a0 : T_api_Layout) (a1 : (List T_api_Step)) (r : Bool) (h : d_law09_WalkMeasures a0 a1 = some r) : PCall Go.Proofs.Tryd.prog GlS 8 [Enc.pv a0, Enc.pv a1] (Enc.pv r) := by
  unfold d_law09_WalkMeasures at h
  refine pcall_of_pwp Go.Proofs.Tryd.func8 (by rfl) rfl Go.Proofs.Tryd.ntmps8 (by rfl) rfl ?_
  refine pwp_seq ?_
  refine r_reg ?_
  refine e_end (by kernel_rfl) ?_
  refine q_next ?_
  refine pwp_seq ?_
  refine pwp_seq ?_
  refine r_reg ?_
  refine p_run 2 (by kernel_rfl) ?_
  obtain ⟨r1, h1, h⟩ := o_bind h
  refine p_call (d_law09_sound_ok _ _ r1 h1) (by kernel_rfl) (by kernel_rfl) ?_
  refine e_end (by kernel_rfl) ?_
  refine q_next ?_
  rcases o_cond h with ⟨hb, h⟩ | ⟨hb, h⟩
  · refine r_cond_t hb (by kernel_rfl) ?_
    refine pwp_seq ?_
    refine r_reg ?_
    obtain ⟨r2, h2, h⟩ := o_bind h
    refine p_call (d_law09_alive_ok  r2 h2) (by kernel_rfl) (by kernel_rfl) ?_
    refine e_end (by kernel_rfl) ?_
    refine q_next ?_
    refine pwp_ret ?_
    refine q_seq_ret ?_
    cases h
    exact q_ret (by kernel_rfl) (by kernel_rfl) (by kernel_rfl)
  · refine r_cond_f hb (by kernel_rfl) ?_
    refine pwp_skip ?_
    refine q_next ?_
    refine pwp_seq ?_
    refine r_regd (by kernel_rfl) (by kernel_rfl) ?_
    refine p_run 2 (by kernel_rfl) ?_
    obtain ⟨r3, h3, h⟩ := o_bind h
    refine p_call (d_walk_Valid_ok _ _ r3 h3) (by kernel_rfl) (by kernel_rfl) ?_
    refine p_run 2 (by kernel_rfl) ?_
    obtain ⟨r4, h4, h⟩ := o_bind h
    refine p_call (d_ref09_Valid_ok _ _ r4 h4) (by kernel_rfl) (by kernel_rfl) ?_
    obtain ⟨b5, h5, h⟩ := o_bind h
    refine p_run 2 (by kernel_rfl) ?_
    refine e_seg 8 25 (.bool b5) ?_ ?_
    · rcases o_cond h5 with ⟨hb, h5⟩ | ⟨hb, h5⟩
      · refine p_settle 17 hb (by kernel_rfl) (by kernel_rfl) ?_
        refine p_run 2 (by kernel_rfl) ?_
        obtain ⟨r6, h6, h5⟩ := o_bind h5
        refine p_call (d_walk_Length_ok _ _ r6 h6) (by kernel_rfl) (by kernel_rfl) ?_
        refine p_run 2 (by kernel_rfl) ?_
        obtain ⟨r7, h7, h5⟩ := o_bind h5
        refine p_call (d_ref09_Length_ok _ _ r7 h7) (by kernel_rfl) (by kernel_rfl) ?_
        cases h5
        exact f_end (by kernel_rfl) (by kernel_rfl)
      · refine p_settle 17 hb (by kernel_rfl) (by kernel_rfl) ?_
        cases h5
        exact f_end (by kernel_rfl) (by kernel_rfl)
    · obtain ⟨b8, h8, h⟩ := o_bind h
      refine p_run 1 (by kernel_rfl) ?_
      refine e_seg 8 34 (.bool b8) ?_ ?_
      · rcases o_cond h8 with ⟨hb, h8⟩ | ⟨hb, h8⟩
        · refine p_settle 26 hb (by kernel_rfl) (by kernel_rfl) ?_
          refine p_run 2 (by kernel_rfl) ?_
          obtain ⟨r9, h9, h8⟩ := o_bind h8
          refine p_call (d_walk_Sections_fz _ _ r9 h9) (by kernel_rfl) (by kernel_rfl) ?_
          refine p_run 2 (by kernel_rfl) ?_
          obtain ⟨r10, h10, h8⟩ := o_bind h8
          refine p_call (d_ref09_Sections_fz _ _ r10 h10) (by kernel_rfl) (by kernel_rfl) ?_
          obtain ⟨r11, h11, h8⟩ := o_bind h8
          refine p_call (d_ref09_SameInts_ok _ _ r11 h11) (by kernel_rfl) (by kernel_rfl) ?_
          cases h8
          exact f_end (by kernel_rfl) (by kernel_rfl)
        · refine p_settle 26 hb (by kernel_rfl) (by kernel_rfl) ?_
          cases h8
          exact f_end (by kernel_rfl) (by kernel_rfl)
      · obtain ⟨b12, h12, h⟩ := o_bind h
        refine p_run 1 (by kernel_rfl) ?_
        refine e_seg 8 43 (.bool b12) ?_ ?_
        · rcases o_cond h12 with ⟨hb, h12⟩ | ⟨hb, h12⟩
          · refine p_settle 35 hb (by kernel_rfl) (by kernel_rfl) ?_
            refine p_run 2 (by kernel_rfl) ?_
            obtain ⟨r13, h13, h12⟩ := o_bind h12
            refine p_call (d_walk_Settings_ok _ _ r13 h13) (by kernel_rfl) (by kernel_rfl) ?_
            refine p_run 2 (by kernel_rfl) ?_
            obtain ⟨r14, h14, h12⟩ := o_bind h12
            refine p_call (d_ref09_Settings_ok _ _ r14 h14) (by kernel_rfl) (by kernel_rfl) ?_
            obtain ⟨r15, h15, h12⟩ := o_bind h12
            refine p_call (d_ref09_SameSettings_ok _ _ r15 h15) (by kernel_rfl) (by kernel_rfl) ?_
            cases h12
            exact f_end (by kernel_rfl) (by kernel_rfl)
          · refine p_settle 35 hb (by kernel_rfl) (by kernel_rfl) ?_
            cases h12
            exact f_end (by kernel_rfl) (by kernel_rfl)
        · obtain ⟨b16, h16, h⟩ := o_bind h
          refine p_run 1 (by kernel_rfl) ?_
          refine e_seg 6 50 (.bool b16) ?_ ?_
          · rcases o_cond h16 with ⟨hb, h16⟩ | ⟨hb, h16⟩
            · refine p_settle 44 hb (by kernel_rfl) (by kernel_rfl) ?_
              refine p_run 1 (by kernel_rfl) ?_
              obtain ⟨r17, h17, h16⟩ := o_bind h16
              refine p_call (d_walk_Reverse_fz _ r17 h17) (by kernel_rfl) (by kernel_rfl) ?_
              refine p_run 1 (by kernel_rfl) ?_
              obtain ⟨r18, h18, h16⟩ := o_bind h16
              refine p_call (d_ref09_Reverse_fz _ r18 h18) (by kernel_rfl) (by kernel_rfl) ?_
              obtain ⟨r19, h19, h16⟩ := o_bind h16
              refine p_call (d_ref09_SameSteps_ok _ _ r19 h19) (by kernel_rfl) (by kernel_rfl) ?_
              cases h16
              exact f_end (by kernel_rfl) (by kernel_rfl)
            · refine p_settle 44 hb (by kernel_rfl) (by kernel_rfl) ?_
              cases h16
              exact f_end (by kernel_rfl) (by kernel_rfl)
          · obtain ⟨b20, h20, h⟩ := o_bind h
            refine p_run 1 (by kernel_rfl) ?_
            refine e_seg 2 53 (.bool b20) ?_ ?_
            · rcases o_cond h20 with ⟨hb, h20⟩ | ⟨hb, h20⟩
              · refine p_settle 51 hb (by kernel_rfl) (by kernel_rfl) ?_
                obtain ⟨r21, h21, h20⟩ := o_bind h20
                refine p_call (d_law09_alive_ok  r21 h21) (by kernel_rfl) (by kernel_rfl) ?_
                cases h20
                exact f_end (by kernel_rfl) (by kernel_rfl)
              · refine p_settle 51 hb (by kernel_rfl) (by kernel_rfl) ?_
                cases h20
                exact f_end (by kernel_rfl) (by kernel_rfl)
            · refine e_end (by kernel_rfl) ?_
              refine q_next ?_
              refine pwp_ret ?_
              cases h
              exact q_ret (by kernel_rfl) (by kernel_rfl) (by kernel_rfl)

/-! signallinglaw09.within -/
noncomputable def d_law09_within_1 (a1 : (List Int)) (x16 : Int) : (Bool × Int) → Option ((Bool × Int) ⊕ (Bool ⊕ (Int ⊕ (Unit ⊕ Bool)))) := fun (x18, x19) =>
  bif decide (x19 < ((a1.length : Nat) : Int)) then (
    (ixO a1 x19).bind fun x22 =>
    some (.inl ((x18 || (decide (x16 = x22))), w64 (x19 + 1)))
  ) else (
    some (.inr (.inl x18))
  )

noncomputable def d_law09_within_0 (a0 : (List Int)) (a1 : (List Int)) : Int → Option (Int ⊕ (Unit ⊕ Bool)) := fun x8 =>
  bif decide (x8 < ((a0.length : Nat) : Int)) then (
    (ixO a0 x8).bind fun x16 =>
    onInl (α := Bool) (β := (Int ⊕ (Unit ⊕ Bool))) (loopO (d_law09_within_1 a1 x16) (false, 0)) fun x21 =>
    bif (!x21) then (
      some (.inr (.inr false))
    ) else (
      some (.inl (w64 (x8 + 1)))
    )
  ) else (
    some (.inr (.inl ()))
  )

noncomputable def d_law09_within (a0 : (List Int)) (a1 : (List Int)) : Option Bool :=
  onInl (α := Unit) (β := Bool) (loopO (d_law09_within_0 a0 a1) 0) fun _ =>
  some true
theorem d_law09_within_ok (a0 : (List Int)) (a1 : (List Int)) (r : Bool) (h : d_law09_within a0 a1 = some r) : PCall Go.Proofs.Tryd.prog GlS 36 [Enc.pv a0, Enc.pv a1] (Enc.pv r) := by
  unfold d_law09_within at h
  refine pcall_of_pwp Go.Proofs.Tryd.func36 (by rfl) rfl Go.Proofs.Tryd.ntmps36 (by rfl) rfl ?_
  refine pwp_seq ?_
  refine r_reg ?_
  refine e_end (by kernel_rfl) ?_
  refine q_next ?_
  refine pwp_seq ?_
  refine pwp_seq ?_
  refine r_reg ?_
  refine p_run 1 (by kernel_rfl) ?_
  refine p_len (L := (a0 : (List Int))) (by kernel_rfl) ?_
  refine e_end (by kernel_rfl) ?_
  refine q_next ?_
  refine pwp_block ?_
  obtain ⟨o16, h16, h⟩ := o_inl h
  refine r_loop2 32 0 (fun x8 => ⟨[(1, lstOf .frozen (a1 : (List Int))), (10, lstOf .frozen (a0 : (List Int))), (11, .int .i64 ((a0.length : Nat) : Int)), (12, .int .i64 x8)], [], [], []⟩) (fun (_ : Unit) => ⟨[], [], [], []⟩) h16 (by kernel_rfl) (fun _ => by kernel_rfl) ?_ ?_
  · rintro x8 oh15 h15
    unfold d_law09_within_0 at h15
    refine pwp_seq ?_
    refine r_reg ?_
    refine e_end (by kernel_rfl) ?_
    refine q_next ?_
    refine pwp_seq ?_
    rcases o_cond h15 with ⟨hb, h15⟩ | ⟨hb, h15⟩
    · refine r_cond_t hb (by kernel_rfl) ?_
      refine pwp_skip ?_
      refine q_next ?_
      refine pwp_seq ?_
      refine pwp_block ?_
      refine pwp_seq ?_
      refine r_reg ?_
      obtain ⟨x16, h17, h15⟩ := o_bind h15
      refine p_ix h17 (by kernel_rfl) ?_
      refine e_end (by kernel_rfl) ?_
      refine q_next ?_
      refine pwp_seq ?_
      refine r_reg ?_
      refine e_end (by kernel_rfl) ?_
      refine q_next ?_
      refine pwp_seq ?_
      refine pwp_seq ?_
      refine r_reg ?_
      refine p_run 1 (by kernel_rfl) ?_
      refine p_len (L := (a1 : (List Int))) (by kernel_rfl) ?_
      refine e_end (by kernel_rfl) ?_
      refine q_next ?_
      refine pwp_block ?_
      obtain ⟨o21, h21, h15⟩ := o_inl h15
      refine r_loop2 32 2 (fun (x18, x19) => ⟨[(1, lstOf .frozen (a1 : (List Int))), (6, .int .i64 x16), (7, .bool x18), (10, lstOf .frozen (a0 : (List Int))), (11, .int .i64 ((a0.length : Nat) : Int)), (12, .int .i64 x8), (16, lstOf .frozen (a1 : (List Int))), (17, .int .i64 ((a1.length : Nat) : Int)), (18, .int .i64 x19)], [], [], []⟩) (fun x21 => ⟨[(1, lstOf .frozen (a1 : (List Int))), (7, .bool x21), (10, lstOf .frozen (a0 : (List Int))), (11, .int .i64 ((a0.length : Nat) : Int)), (12, .int .i64 x8)], [], [], []⟩) h21 (by kernel_rfl) (fun _ => by kernel_rfl) ?_ ?_
      · rintro ⟨x18, x19⟩ oh20 h20
        unfold d_law09_within_1 at h20
        refine pwp_seq ?_
        refine r_reg ?_
        refine e_end (by kernel_rfl) ?_
        refine q_next ?_
        refine pwp_seq ?_
        rcases o_cond h20 with ⟨hb, h20⟩ | ⟨hb, h20⟩
        · refine r_cond_t hb (by kernel_rfl) ?_
          refine pwp_skip ?_
          refine q_next ?_
          refine pwp_seq ?_
          refine pwp_block ?_
          refine pwp_seq ?_
          refine r_reg ?_
          obtain ⟨x22, h22, h20⟩ := o_bind h20
          refine p_ix h22 (by kernel_rfl) ?_
          refine e_end (by kernel_rfl) ?_
          refine q_next ?_
          refine r_reg ?_
          refine p_run 2 (by kernel_rfl) ?_
          refine e_segb 4 27 (x18 || (decide (x16 = x22))) (fun x hx => ?_) ?_
          · rcases b_or hx with ⟨hb, hx⟩ | ⟨hb, hx⟩
            · refine p_settle 23 hb (by kernel_rfl) (by kernel_rfl) ?_
              subst hx
              exact f_end (by kernel_rfl) (by kernel_rfl)
            · refine p_settle 23 hb (by kernel_rfl) (by kernel_rfl) ?_
              subst hx
              exact f_end (by kernel_rfl) (by kernel_rfl)
          · refine e_end (by kernel_rfl) ?_
            refine q_block ?_
            refine q_next ?_
            refine r_reg ?_
            refine e_end (by kernel_rfl) ?_
            cases h20
            exact q_lback (by kernel_rfl)
        · refine r_cond_f hb (by kernel_rfl) ?_
          refine pwp_exit ?_
          refine q_seq_exit ?_
          cases h20
          exact q_lexit (by kernel_rfl) (by kernel_rfl)
      · rintro x21 s' rfl hs
        have h15 := o_outl h15
        refine q_block_hit ?_
        refine q_next (pwp_wkr hs ?_)
        refine pwp_seq ?_
        refine r_reg ?_
        refine e_end (by kernel_rfl) ?_
        refine q_next ?_
        rcases o_cond h15 with ⟨hb, h15⟩ | ⟨hb, h15⟩
        · refine r_cond_t hb (by kernel_rfl) ?_
          refine pwp_seq ?_
          refine r_reg ?_
          refine e_end (by kernel_rfl) ?_
          refine q_next ?_
          refine pwp_ret ?_
          refine q_block_ret ?_
          refine q_seq_ret ?_
          cases h15
          refine q_lout_ret fun he => ?_
          subst he
          have h23 := o_outr h
          refine q_block_ret ?_
          refine q_seq_ret ?_
          cases h23
          exact q_ret (by kernel_rfl) (by kernel_rfl) (by kernel_rfl)
        · refine r_cond_f hb (by kernel_rfl) ?_
          refine pwp_skip ?_
          refine q_block ?_
          refine q_next ?_
          refine r_reg ?_
          refine e_end (by kernel_rfl) ?_
          cases h15
          exact q_lback (by kernel_rfl)
    · refine r_cond_f hb (by kernel_rfl) ?_
      refine pwp_exit ?_
      refine q_seq_exit ?_
      cases h15
      exact q_lexit (by kernel_rfl) (by kernel_rfl)
  · rintro _ s' rfl hs
    have h := o_outl h
    refine q_block_hit ?_
    refine q_next (pwp_wkr hs ?_)
    refine pwp_seq ?_
    refine r_reg ?_
    refine e_end (by kernel_rfl) ?_
    refine q_next ?_
    refine pwp_ret ?_
    cases h
    exact q_ret (by kernel_rfl) (by kernel_rfl) (by kernel_rfl)

/-! signallinglaw09.WalkReverses -/
noncomputable def d_law09_WalkReverses (a0 : T_api_Layout) (a1 : (List T_api_Step)) : Option Bool :=
  (d_law09_sound a0 a1).bind fun r1 =>
  bif (!r1) then (
    (d_law09_alive ).bind fun r2 =>
    some r2
  ) else (
    (d_walk_Reverse a1).bind fun r3 =>
    (d_walk_Sections a0 a1).bind fun r4 =>
    (d_walk_Sections a0 r3).bind fun r5 =>
    (d_walk_Valid a0 a1).bind fun r6 =>
    (d_walk_Valid a0 r3).bind fun r7 =>
    ((bif (!(r6 == r7)) then some true else (
      (d_walk_Reverse r3).bind fun r9 =>
      (d_ref09_SameSteps r9 a1).bind fun r10 =>
      some (!r10)
    )) : Option Bool).bind fun b8 =>
    bif b8 then (
      some false
    ) else (
      (d_walk_Length a0 a1).bind fun r11 =>
      (d_walk_Length a0 r3).bind fun r12 =>
      ((bif decide (r11 = r12) then (
        some (decide (((r4.length : Nat) : Int) = ((r5.length : Nat) : Int)))
      ) else some false) : Option Bool).bind fun b13 =>
      ((bif b13 then (
        (d_law09_within r4 r5).bind fun r15 =>
        some r15
      ) else some false) : Option Bool).bind fun b14 =>
      ((bif b14 then (
        (d_law09_within r5 r4).bind fun r17 =>
        some r17
      ) else some false) : Option Bool).bind fun b16 =>
      ((bif b16 then (
        (d_walk_Settings a0 a1).bind fun r19 =>
        (d_walk_Settings a0 r3).bind fun r20 =>
        (d_ref09_SameSettings r19 r20).bind fun r21 =>
        some r21
      ) else some false) : Option Bool).bind fun b18 =>
      ((bif b18 then (
        (d_law09_alive ).bind fun r23 =>
        some r23
      ) else some false) : Option Bool).bind fun b22 =>
      some b22
    )
  )
theorem d_law09_WalkReverses_ok (a0 : T_api_Layout) (a1 : (List T_api_Step)) (r : Bool) (h : d_law09_WalkReverses a0 a1 = some r) : PCall Go.Proofs.Tryd.prog GlS 9 [Enc.pv a0, Enc.pv a1] (Enc.pv r) := by
  unfold d_law09_WalkReverses at h
  refine pcall_of_pwp Go.Proofs.Tryd.func9 (by rfl) rfl Go.Proofs.Tryd.ntmps9 (by rfl) rfl ?_
  refine pwp_seq ?_
  refine r_reg ?_
  refine e_end (by kernel_rfl) ?_
  refine q_next ?_
  refine pwp_seq ?_
  refine pwp_seq ?_
  refine r_reg ?_
  refine p_run 2 (by kernel_rfl) ?_
  obtain ⟨r1, h1, h⟩ := o_bind h
  refine p_call (d_law09_sound_ok _ _ r1 h1) (by kernel_rfl) (by kernel_rfl) ?_
  refine e_end (by kernel_rfl) ?_
  refine q_next ?_
  rcases o_cond h with ⟨hb, h⟩ | ⟨hb, h⟩
  · refine r_cond_t hb (by kernel_rfl) ?_
    refine pwp_seq ?_
    refine r_reg ?_
    obtain ⟨r2, h2, h⟩ := o_bind h
    refine p_call (d_law09_alive_ok  r2 h2) (by kernel_rfl) (by kernel_rfl) ?_
    refine e_end (by kernel_rfl) ?_
    refine q_next ?_
    refine pwp_ret ?_
    refine q_seq_ret ?_
    cases h
    exact q_ret (by kernel_rfl) (by kernel_rfl) (by kernel_rfl)
  · refine r_cond_f hb (by kernel_rfl) ?_
    refine pwp_skip ?_
    refine q_next ?_
    refine pwp_seq ?_
    refine r_reg ?_
    refine p_run 1 (by kernel_rfl) ?_
    obtain ⟨r3, h3, h⟩ := o_bind h
    refine p_call (d_walk_Reverse_ok _ r3 h3) (by kernel_rfl) (by kernel_rfl) ?_
    refine e_end (by kernel_rfl) ?_
    refine q_next ?_
    refine pwp_seq ?_
    refine r_regd (by kernel_rfl) (by kernel_rfl) ?_
    refine p_run 2 (by kernel_rfl) ?_
    obtain ⟨r4, h4, h⟩ := o_bind h
    refine p_call (d_walk_Sections_fz _ _ r4 h4) (by kernel_rfl) (by kernel_rfl) ?_
    refine p_run 2 (by kernel_rfl) ?_
    obtain ⟨r5, h5, h⟩ := o_bind h
    refine p_call (d_walk_Sections_fz _ _ r5 h5) (by kernel_rfl) (by kernel_rfl) ?_
    refine e_end (by kernel_rfl) ?_
    refine q_next ?_
    refine pwp_seq ?_
    refine pwp_seq ?_
    refine r_regd (by kernel_rfl) (by kernel_rfl) ?_
    refine p_run 2 (by kernel_rfl) ?_
    obtain ⟨r6, h6, h⟩ := o_bind h
    refine p_call (d_walk_Valid_ok _ _ r6 h6) (by kernel_rfl) (by kernel_rfl) ?_
    refine p_run 2 (by kernel_rfl) ?_
    obtain ⟨r7, h7, h⟩ := o_bind h
    refine p_call (d_walk_Valid_ok _ _ r7 h7) (by kernel_rfl) (by kernel_rfl) ?_
    obtain ⟨b8, h8, h⟩ := o_bind h
    refine p_run 2 (by kernel_rfl) ?_
    refine e_seg 6 34 (.bool b8) ?_ ?_
    · rcases o_cond h8 with ⟨hb, h8⟩ | ⟨hb, h8⟩
      · refine p_settle 28 hb (by kernel_rfl) (by kernel_rfl) ?_
        cases h8
        exact f_end (by kernel_rfl) (by kernel_rfl)
      · refine p_settle 28 hb (by kernel_rfl) (by kernel_rfl) ?_
        refine p_run 1 (by kernel_rfl) ?_
        obtain ⟨r9, h9, h8⟩ := o_bind h8
        refine p_call (d_walk_Reverse_fz _ r9 h9) (by kernel_rfl) (by kernel_rfl) ?_
        refine p_run 1 (by kernel_rfl) ?_
        obtain ⟨r10, h10, h8⟩ := o_bind h8
        refine p_call (d_ref09_SameSteps_ok _ _ r10 h10) (by kernel_rfl) (by kernel_rfl) ?_
        cases h8
        exact f_end (by kernel_rfl) (by kernel_rfl)
    · refine e_nil (by kernel_rfl) ?_
      refine q_next ?_
      rcases o_cond h with ⟨hb, h⟩ | ⟨hb, h⟩
      · refine r_cond_t hb (by kernel_rfl) ?_
        refine pwp_seq ?_
        refine r_reg ?_
        refine e_end (by kernel_rfl) ?_
        refine q_next ?_
        refine pwp_ret ?_
        refine q_seq_ret ?_
        cases h
        exact q_ret (by kernel_rfl) (by kernel_rfl) (by kernel_rfl)
      · refine r_cond_f hb (by kernel_rfl) ?_
        refine pwp_skip ?_
        refine q_next ?_
        refine pwp_seq ?_
        refine r_regd (by kernel_rfl) (by kernel_rfl) ?_
        refine p_run 2 (by kernel_rfl) ?_
        obtain ⟨r11, h11, h⟩ := o_bind h
        refine p_call (d_walk_Length_ok _ _ r11 h11) (by kernel_rfl) (by kernel_rfl) ?_
        refine p_run 2 (by kernel_rfl) ?_
        obtain ⟨r12, h12, h⟩ := o_bind h
        refine p_call (d_walk_Length_ok _ _ r12 h12) (by kernel_rfl) (by kernel_rfl) ?_
        obtain ⟨b13, h13, h⟩ := o_bind h
        refine p_run 2 (by kernel_rfl) ?_
        refine e_seg 6 48 (.bool b13) ?_ ?_
        · rcases o_cond h13 with ⟨hb, h13⟩ | ⟨hb, h13⟩
          · refine p_settle 42 hb (by kernel_rfl) (by kernel_rfl) ?_
            refine p_run 1 (by kernel_rfl) ?_
            refine p_len (L := (r4 : (List Int))) (by kernel_rfl) ?_
            refine p_run 1 (by kernel_rfl) ?_
            refine p_len (L := (r5 : (List Int))) (by kernel_rfl) ?_
            cases h13
            exact f_end (by kernel_rfl) (by kernel_rfl)
          · refine p_settle 42 hb (by kernel_rfl) (by kernel_rfl) ?_
            cases h13
            exact f_end (by kernel_rfl) (by kernel_rfl)
        · obtain ⟨b14, h14, h⟩ := o_bind h
          refine p_run 1 (by kernel_rfl) ?_
          refine e_seg 4 53 (.bool b14) ?_ ?_
          · rcases o_cond h14 with ⟨hb, h14⟩ | ⟨hb, h14⟩
            · refine p_settle 49 hb (by kernel_rfl) (by kernel_rfl) ?_
              refine p_run 2 (by kernel_rfl) ?_
              obtain ⟨r15, h15, h14⟩ := o_bind h14
              refine p_call (d_law09_within_ok _ _ r15 h15) (by kernel_rfl) (by kernel_rfl) ?_
              cases h14
              exact f_end (by kernel_rfl) (by kernel_rfl)
            · refine p_settle 49 hb (by kernel_rfl) (by kernel_rfl) ?_
              cases h14
              exact f_end (by kernel_rfl) (by kernel_rfl)
          · obtain ⟨b16, h16, h⟩ := o_bind h
            refine p_run 1 (by kernel_rfl) ?_
            refine e_seg 4 58 (.bool b16) ?_ ?_
            · rcases o_cond h16 with ⟨hb, h16⟩ | ⟨hb, h16⟩
              · refine p_settle 54 hb (by kernel_rfl) (by kernel_rfl) ?_
                refine p_run 2 (by kernel_rfl) ?_
                obtain ⟨r17, h17, h16⟩ := o_bind h16
                refine p_call (d_law09_within_ok _ _ r17 h17) (by kernel_rfl) (by kernel_rfl) ?_
                cases h16
                exact f_end (by kernel_rfl) (by kernel_rfl)
              · refine p_settle 54 hb (by kernel_rfl) (by kernel_rfl) ?_
                cases h16
                exact f_end (by kernel_rfl) (by kernel_rfl)
            · obtain ⟨b18, h18, h⟩ := o_bind h
              refine p_run 1 (by kernel_rfl) ?_
              refine e_seg 8 67 (.bool b18) ?_ ?_
              · rcases o_cond h18 with ⟨hb, h18⟩ | ⟨hb, h18⟩
                · refine p_settle 59 hb (by kernel_rfl) (by kernel_rfl) ?_
                  refine p_run 2 (by kernel_rfl) ?_
                  obtain ⟨r19, h19, h18⟩ := o_bind h18
                  refine p_call (d_walk_Settings_ok _ _ r19 h19) (by kernel_rfl) (by kernel_rfl) ?_
                  refine p_run 2 (by kernel_rfl) ?_
                  obtain ⟨r20, h20, h18⟩ := o_bind h18
                  refine p_call (d_walk_Settings_ok _ _ r20 h20) (by kernel_rfl) (by kernel_rfl) ?_
                  obtain ⟨r21, h21, h18⟩ := o_bind h18
                  refine p_call (d_ref09_SameSettings_ok _ _ r21 h21) (by kernel_rfl) (by kernel_rfl) ?_
                  cases h18
                  exact f_end (by kernel_rfl) (by kernel_rfl)
                · refine p_settle 59 hb (by kernel_rfl) (by kernel_rfl) ?_
                  cases h18
                  exact f_end (by kernel_rfl) (by kernel_rfl)
              · obtain ⟨b22, h22, h⟩ := o_bind h
                refine p_run 1 (by kernel_rfl) ?_
                refine e_seg 2 70 (.bool b22) ?_ ?_
                · rcases o_cond h22 with ⟨hb, h22⟩ | ⟨hb, h22⟩
                  · refine p_settle 68 hb (by kernel_rfl) (by kernel_rfl) ?_
                    obtain ⟨r23, h23, h22⟩ := o_bind h22
                    refine p_call (d_law09_alive_ok  r23 h23) (by kernel_rfl) (by kernel_rfl) ?_
                    cases h22
                    exact f_end (by kernel_rfl) (by kernel_rfl)
                  · refine p_settle 68 hb (by kernel_rfl) (by kernel_rfl) ?_
                    cases h22
                    exact f_end (by kernel_rfl) (by kernel_rfl)
                · refine e_end (by kernel_rfl) ?_
                  refine q_next ?_
                  refine pwp_ret ?_
                  cases h
                  exact q_ret (by kernel_rfl) (by kernel_rfl) (by kernel_rfl)

/-! rail.Out -/
noncomputable def d_rail_Out_0 (a0 : Int) (a1 : Int) (a2 : Int) : Int → Option (Int ⊕ (Unit ⊕ (Int × Bool))) := fun x2 =>
  bif decide (x2 < 10) then (
    (ixO tab_rail_passages x2).bind fun x4 =>
    bif (((decide (x4.kind_ = a0)) && (decide (x4.in_ = a1))) && ((decide (x4.need_ = 0)) || (decide (x4.need_ = a2)))) then (
      some (.inr (.inr (x4.out_, true)))
    ) else (
      some (.inl (w64 (x2 + 1)))
    )
  ) else (
    some (.inr (.inl ()))
  )

noncomputable def d_rail_Out (a0 : Int) (a1 : Int) (a2 : Int) : Option (Int × Bool) :=
  onInl (α := Unit) (β := (Int × Bool)) (loopO (d_rail_Out_0 a0 a1 a2) 0) fun _ =>
  some (0, false)
theorem d_rail_Out_ok (a0 : Int) (a1 : Int) (a2 : Int) (r : (Int × Bool)) (h : d_rail_Out a0 a1 a2 = some r) : PCall Go.Proofs.Tryd.prog GlS 37 [Enc.pv a0, Enc.pv a1, Enc.pv a2] (.tup [Enc.pv r.1, Enc.pv r.2]) := by
  unfold d_rail_Out at h
  refine pcall_of_pwp Go.Proofs.Tryd.func37 (by rfl) rfl Go.Proofs.Tryd.ntmps37 (by rfl) rfl ?_
  refine pwp_seq ?_
  refine r_reg ?_
  refine e_end (by kernel_rfl) ?_
  refine q_next ?_
  refine pwp_seq ?_
  refine pwp_seq ?_
  refine r_reg ?_
  refine e_end (by kernel_rfl) ?_
  refine q_next ?_
  refine pwp_block ?_
  obtain ⟨o6, h6, h⟩ := o_inl h
  refine r_loop2 38 0 (fun x2 => ⟨[(0, .int .i64 a0), (1, .int .i64 a1), (2, .int .i64 a2), (10, .agg (tab_rail_passages.flatMap cellsOf)), (11, .int .i64 x2)], [], [], []⟩) (fun (_ : Unit) => ⟨[], [], [], []⟩) h6 (by kernel_rfl) (fun _ => by kernel_rfl) ?_ ?_
  · rintro x2 oh5 h5
    unfold d_rail_Out_0 at h5
    refine pwp_seq ?_
    refine r_reg ?_
    refine e_end (by kernel_rfl) ?_
    refine q_next ?_
    refine pwp_seq ?_
    rcases o_cond h5 with ⟨hb, h5⟩ | ⟨hb, h5⟩
    · refine r_cond_t hb (by kernel_rfl) ?_
      refine pwp_skip ?_
      refine q_next ?_
      refine pwp_seq ?_
      refine pwp_block ?_
      refine pwp_seq ?_
      refine r_reg ?_
      obtain ⟨x4, h7, h5⟩ := o_bind h5
      refine p_tix (tab := tab_rail_passages) h7 true 10 4 (by kernel_rfl) (by kernel_rfl) (by kernel_rfl) (by kernel_rfl) ?_
      refine e_end (by kernel_rfl) ?_
      refine q_next ?_
      refine pwp_seq ?_
      refine r_reg ?_
      refine p_run 5 (by kernel_rfl) ?_
      refine e_segb 5 23 ((decide (x4.kind_ = a0)) && (decide (x4.in_ = a1))) (fun x hx => ?_) ?_
      · rcases b_and hx with ⟨hb, hx⟩ | ⟨hb, hx⟩
        · refine p_settle 18 hb (by kernel_rfl) (by kernel_rfl) ?_
          subst hx
          exact f_end (by kernel_rfl) (by kernel_rfl)
        · refine p_settle 18 hb (by kernel_rfl) (by kernel_rfl) ?_
          subst hx
          exact f_end (by kernel_rfl) (by kernel_rfl)
      · refine p_run 1 (by kernel_rfl) ?_
        refine e_segb 10 34 (((decide (x4.kind_ = a0)) && (decide (x4.in_ = a1))) && ((decide (x4.need_ = 0)) || (decide (x4.need_ = a2)))) (fun x hx => ?_) ?_
        · rcases b_and hx with ⟨hb, hx⟩ | ⟨hb, hx⟩
          · refine p_settle 24 hb (by kernel_rfl) (by kernel_rfl) ?_
            refine p_run 4 (by kernel_rfl) ?_
            refine f_segb 5 33 ((decide (x4.need_ = 0)) || (decide (x4.need_ = a2))) (fun x hx => ?_) ?_
            · rcases b_or hx with ⟨hb, hx⟩ | ⟨hb, hx⟩
              · refine p_settle 28 hb (by kernel_rfl) (by kernel_rfl) ?_
                subst hx
                exact f_end (by kernel_rfl) (by kernel_rfl)
              · refine p_settle 28 hb (by kernel_rfl) (by kernel_rfl) ?_
                subst hx
                exact f_end (by kernel_rfl) (by kernel_rfl)
            · subst hx
              exact f_end (by kernel_rfl) (by kernel_rfl)
          · refine p_settle 24 hb (by kernel_rfl) (by kernel_rfl) ?_
            subst hx
            exact f_end (by kernel_rfl) (by kernel_rfl)
        · refine e_nil (by kernel_rfl) ?_
          refine q_next ?_
          rcases o_cond h5 with ⟨hb, h5⟩ | ⟨hb, h5⟩
          · refine r_cond_t hb (by kernel_rfl) ?_
            refine pwp_seq ?_
            refine r_reg ?_
            refine e_end (by kernel_rfl) ?_
            refine q_next ?_
            refine pwp_ret ?_
            refine q_block_ret ?_
            refine q_seq_ret ?_
            cases h5
            refine q_lout_ret fun he => ?_
            subst he
            have h8 := o_outr h
            refine q_block_ret ?_
            refine q_seq_ret ?_
            cases h8
            exact q_ret (by kernel_rfl) (by kernel_rfl) (by kernel_rfl)
          · refine r_cond_f hb (by kernel_rfl) ?_
            refine pwp_skip ?_
            refine q_block ?_
            refine q_next ?_
            refine r_reg ?_
            refine e_end (by kernel_rfl) ?_
            cases h5
            exact q_lback (by kernel_rfl)
    · refine r_cond_f hb (by kernel_rfl) ?_
      refine pwp_exit ?_
      refine q_seq_exit ?_
      cases h5
      exact q_lexit (by kernel_rfl) (by kernel_rfl)
  · rintro _ s' rfl hs
    have h := o_outl h
    refine q_block_hit ?_
    refine q_next (pwp_wkr hs ?_)
    refine pwp_seq ?_
    refine r_reg ?_
    refine e_end (by kernel_rfl) ?_
    refine q_next ?_
    refine pwp_ret ?_
    cases h
    exact q_ret (by kernel_rfl) (by kernel_rfl) (by kernel_rfl)

/-! signallinglaw09.WalkSettles -/
noncomputable def d_law09_WalkSettles_1 (r5 : (List T_api_Setting)) (x47 : T_api_Step) : (Int × Int) → Option ((Int × Int) ⊕ (Int ⊕ ((Int × Int) ⊕ (Int ⊕ Bool)))) := fun (x52, x53) =>
  bif decide (x53 < ((r5.length : Nat) : Int)) then (
    onInl (α := Int) (β := ((Int × Int) ⊕ (Int ⊕ ((Int × Int) ⊕ (Int ⊕ Bool))))) (
      (ixO r5 x53).bind fun x60 =>
      bif decide (x60.El = x47.El) then (
        some (.inl x60.Pos)
      ) else (
        some (.inl x52)
      )
    ) fun x59 =>
    some (.inl (x59, w64 (x53 + 1)))
  ) else (
    some (.inr (.inl x52))
  )

noncomputable def d_law09_WalkSettles_0 (a0 : T_api_Layout) (a1 : (List T_api_Step)) (r5 : (List T_api_Setting)) : (Int × Int) → Option ((Int × Int) ⊕ (Int ⊕ Bool)) := fun (x25, x26) =>
  bif decide (x26 < ((a1.length : Nat) : Int)) then (
    (ixO a1 x26).bind fun x47 =>
    ((bif decide (x47.El < 0) then some true else (
      some (decide (((a0.Elements.length : Nat) : Int) ≤ x47.El))
    )) : Option Bool).bind fun b48 =>
    bif b48 then (
      some (.inr (.inr false))
    ) else (
      onInl (α := Int) (β := ((Int × Int) ⊕ (Int ⊕ Bool))) (loopO (d_law09_WalkSettles_1 r5 x47) (0, 0)) fun x57 =>
      onInl (α := Int) (β := ((Int × Int) ⊕ (Int ⊕ Bool))) (
        (ixO a0.Elements x47.El).bind fun x63 =>
        bif decide (x63.Kind = 2) then (
          some (.inl (w64 (x25 + 1)))
        ) else (
          some (.inl x25)
        )
      ) fun x62 =>
      (ixO a0.Elements x47.El).bind fun x64 =>
      (d_rail_Out x64.Kind x47.In x57).bind fun r65 =>
      bif ((!r65.2) || (!(decide (r65.1 = x47.Out)))) then (
        some (.inr (.inr false))
      ) else (
        some (.inl (x62, w64 (x26 + 1)))
      )
    )
  ) else (
    some (.inr (.inl x25))
  )

noncomputable def d_law09_WalkSettles (a0 : T_api_Layout) (a1 : (List T_api_Step)) : Option Bool :=
  (d_law09_sound a0 a1).bind fun r1 =>
  ((bif (!r1) then some true else (
    (d_walk_Valid a0 a1).bind fun r3 =>
    some (!r3)
  )) : Option Bool).bind fun b2 =>
  bif b2 then (
    (d_law09_alive ).bind fun r4 =>
    some r4
  ) else (
    (d_walk_Settings a0 a1).bind fun r5 =>
    onInl (α := Int) (β := Bool) (loopO (d_law09_WalkSettles_0 a0 a1 r5) (0, 0)) fun x46 =>
    ((bif decide (((r5.length : Nat) : Int) = x46) then (
      (d_law09_alive ).bind fun r67 =>
      some r67
    ) else some false) : Option Bool).bind fun b66 =>
    some b66
  )
theorem d_law09_WalkSettles_ok (a0 : T_api_Layout) (a1 : (List T_api_Step)) (r : Bool) (h : d_law09_WalkSettles a0 a1 = some r) : PCall Go.Proofs.Tryd.prog GlS 10 [Enc.pv a0, Enc.pv a1] (Enc.pv r) := by
  unfold d_law09_WalkSettles at h
  refine pcall_of_pwp Go.Proofs.Tryd.func10 (by rfl) rfl Go.Proofs.Tryd.ntmps10 (by rfl) rfl ?_
  refine pwp_seq ?_
  refine r_reg ?_
  refine e_end (by kernel_rfl) ?_
  refine q_next ?_
  refine pwp_seq ?_
  refine pwp_seq ?_
  refine r_reg ?_
  refine p_run 2 (by kernel_rfl) ?_
  obtain ⟨r1, h1, h⟩ := o_bind h
  refine p_call (d_law09_sound_ok _ _ r1 h1) (by kernel_rfl) (by kernel_rfl) ?_
  obtain ⟨b2, h2, h⟩ := o_bind h
  refine p_run 2 (by kernel_rfl) ?_
  refine e_seg 5 23 (.bool b2) ?_ ?_
  · rcases o_cond h2 with ⟨hb, h2⟩ | ⟨hb, h2⟩
    · refine p_settle 18 hb (by kernel_rfl) (by kernel_rfl) ?_
      cases h2
      exact f_end (by kernel_rfl) (by kernel_rfl)
    · refine p_settle 18 hb (by kernel_rfl) (by kernel_rfl) ?_
      refine p_run 2 (by kernel_rfl) ?_
      obtain ⟨r3, h3, h2⟩ := o_bind h2
      refine p_call (d_walk_Valid_ok _ _ r3 h3) (by kernel_rfl) (by kernel_rfl) ?_
      cases h2
      exact f_end (by kernel_rfl) (by kernel_rfl)
  · refine e_nil (by kernel_rfl) ?_
    refine q_next ?_
    rcases o_cond h with ⟨hb, h⟩ | ⟨hb, h⟩
    · refine r_cond_t hb (by kernel_rfl) ?_
      refine pwp_seq ?_
      refine r_reg ?_
      obtain ⟨r4, h4, h⟩ := o_bind h
      refine p_call (d_law09_alive_ok  r4 h4) (by kernel_rfl) (by kernel_rfl) ?_
      refine e_end (by kernel_rfl) ?_
      refine q_next ?_
      refine pwp_ret ?_
      refine q_seq_ret ?_
      cases h
      exact q_ret (by kernel_rfl) (by kernel_rfl) (by kernel_rfl)
    · refine r_cond_f hb (by kernel_rfl) ?_
      refine pwp_skip ?_
      refine q_next ?_
      refine pwp_seq ?_
      refine r_reg ?_
      refine p_run 2 (by kernel_rfl) ?_
      obtain ⟨r5, h5, h⟩ := o_bind h
      refine p_call (d_walk_Settings_ok _ _ r5 h5) (by kernel_rfl) (by kernel_rfl) ?_
      refine e_end (by kernel_rfl) ?_
      refine q_next ?_
      refine pwp_seq ?_
      refine r_reg ?_
      refine e_end (by kernel_rfl) ?_
      refine q_next ?_
      refine pwp_seq ?_
      refine pwp_seq ?_
      refine r_reg ?_
      refine p_run 1 (by kernel_rfl) ?_
      refine p_len (L := (a1 : (List T_api_Step))) (by kernel_rfl) ?_
      refine e_end (by kernel_rfl) ?_
      refine q_next ?_
      refine pwp_block ?_
      obtain ⟨o47, h47, h⟩ := o_inl h
      refine r_loop2 99 0 (fun (x25, x26) => ⟨[(2, .ref 2 0), (5, lstOf .frozen (r5 : (List T_api_Setting))), (6, .int .i64 x25), (28, lstOf .frozen (a1 : (List T_api_Step))), (29, .int .i64 ((a1.length : Nat) : Int)), (30, .int .i64 x26)], [(2, .cells (cellsOf a0))], [], []⟩) (fun x46 => ⟨[(5, lstOf .frozen (r5 : (List T_api_Setting))), (6, .int .i64 x46)], [], [], []⟩) h47 (by kernel_rfl) (fun _ => by kernel_rfl) ?_ ?_
      · rintro ⟨x25, x26⟩ oh46 h46
        unfold d_law09_WalkSettles_0 at h46
        refine pwp_seq ?_
        refine r_reg ?_
        refine e_end (by kernel_rfl) ?_
        refine q_next ?_
        refine pwp_seq ?_
        rcases o_cond h46 with ⟨hb, h46⟩ | ⟨hb, h46⟩
        · refine r_cond_t hb (by kernel_rfl) ?_
          refine pwp_skip ?_
          refine q_next ?_
          refine pwp_seq ?_
          refine pwp_block ?_
          refine pwp_seq ?_
          refine r_reg ?_
          obtain ⟨x47, h48, h46⟩ := o_bind h46
          refine p_ix h48 (by kernel_rfl) ?_
          refine e_end (by kernel_rfl) ?_
          refine q_next ?_
          refine pwp_seq ?_
          refine pwp_seq ?_
          refine r_reg ?_
          obtain ⟨b48, h49, h46⟩ := o_bind h46
          refine p_run 4 (by kernel_rfl) ?_
          refine e_seg 7 44 (.bool b48) ?_ ?_
          · rcases o_cond h49 with ⟨hb, h49⟩ | ⟨hb, h49⟩
            · refine p_settle 37 hb (by kernel_rfl) (by kernel_rfl) ?_
              cases h49
              exact f_end (by kernel_rfl) (by kernel_rfl)
            · refine p_settle 37 hb (by kernel_rfl) (by kernel_rfl) ?_
              refine p_run 4 (by kernel_rfl) ?_
              refine p_len (L := (a0.Elements : (List T_api_Element))) (by kernel_rfl) ?_
              cases h49
              exact f_end (by kernel_rfl) (by kernel_rfl)
          · refine e_nil (by kernel_rfl) ?_
            refine q_next ?_
            rcases o_cond h46 with ⟨hb, h46⟩ | ⟨hb, h46⟩
            · refine r_cond_t hb (by kernel_rfl) ?_
              refine pwp_seq ?_
              refine r_reg ?_
              refine e_end (by kernel_rfl) ?_
              refine q_next ?_
              refine pwp_ret ?_
              refine q_seq_ret ?_
              refine q_block_ret ?_
              refine q_seq_ret ?_
              cases h46
              refine q_lout_ret fun he => ?_
              subst he
              have h50 := o_outr h
              refine q_block_ret ?_
              refine q_seq_ret ?_
              cases h50
              exact q_ret (by kernel_rfl) (by kernel_rfl) (by kernel_rfl)
            · refine r_cond_f hb (by kernel_rfl) ?_
              refine pwp_skip ?_
              refine q_next ?_
              refine pwp_seq ?_
              refine r_reg ?_
              refine e_end (by kernel_rfl) ?_
              refine q_next ?_
              refine pwp_seq ?_
              refine pwp_seq ?_
              refine r_reg ?_
              refine p_run 1 (by kernel_rfl) ?_
              refine p_len (L := (r5 : (List T_api_Setting))) (by kernel_rfl) ?_
              refine e_end (by kernel_rfl) ?_
              refine q_next ?_
              refine pwp_block ?_
              obtain ⟨o58, h58, h46⟩ := o_inl h46
              refine r_loop2 99 2 (fun (x52, x53) => ⟨[(2, .ref 2 0), (5, lstOf .frozen (r5 : (List T_api_Setting))), (6, .int .i64 x25), (8, .ref 8 0), (9, .int .i64 x52), (28, lstOf .frozen (a1 : (List T_api_Step))), (29, .int .i64 ((a1.length : Nat) : Int)), (30, .int .i64 x26), (45, lstOf .frozen (r5 : (List T_api_Setting))), (46, .int .i64 ((r5.length : Nat) : Int)), (47, .int .i64 x53)], [(2, .cells (cellsOf a0)), (8, .cells (cellsOf x47))], [], []⟩) (fun x57 => ⟨[(2, .ref 2 0), (5, lstOf .frozen (r5 : (List T_api_Setting))), (6, .int .i64 x25), (8, .ref 8 0), (9, .int .i64 x57), (28, lstOf .frozen (a1 : (List T_api_Step))), (29, .int .i64 ((a1.length : Nat) : Int)), (30, .int .i64 x26)], [(2, .cells (cellsOf a0)), (8, .cells (cellsOf x47))], [], []⟩) h58 (by kernel_rfl) (fun _ => by kernel_rfl) ?_ ?_
              · rintro ⟨x52, x53⟩ oh57 h57
                unfold d_law09_WalkSettles_1 at h57
                refine pwp_seq ?_
                refine r_reg ?_
                refine e_end (by kernel_rfl) ?_
                refine q_next ?_
                refine pwp_seq ?_
                rcases o_cond h57 with ⟨hb, h57⟩ | ⟨hb, h57⟩
                · refine r_cond_t hb (by kernel_rfl) ?_
                  refine pwp_skip ?_
                  refine q_next ?_
                  obtain ⟨o60, h60, h57⟩ := o_inl h57
                  refine r_join (o := o60) 99 (fun x59 => ⟨[(2, .ref 2 0), (5, lstOf .frozen (r5 : (List T_api_Setting))), (6, .int .i64 x25), (8, .ref 8 0), (9, .int .i64 x59), (28, lstOf .frozen (a1 : (List T_api_Step))), (29, .int .i64 ((a1.length : Nat) : Int)), (30, .int .i64 x26), (45, lstOf .frozen (r5 : (List T_api_Setting))), (46, .int .i64 ((r5.length : Nat) : Int)), (47, .int .i64 x53)], [(2, .cells (cellsOf a0)), (8, .cells (cellsOf x47))], [], []⟩) ?_ ?_
                  · refine pwp_block ?_
                    refine pwp_seq ?_
                    refine r_reg ?_
                    obtain ⟨x60, h61, h60⟩ := o_bind h60
                    refine p_ix h61 (by kernel_rfl) ?_
                    refine e_end (by kernel_rfl) ?_
                    refine q_next ?_
                    refine pwp_seq ?_
                    refine r_reg ?_
                    refine e_end (by kernel_rfl) ?_
                    refine q_next ?_
                    rcases o_cond h60 with ⟨hb, h60⟩ | ⟨hb, h60⟩
                    · refine r_cond_t hb (by kernel_rfl) ?_
                      refine r_reg ?_
                      refine e_end (by kernel_rfl) ?_
                      refine q_block ?_
                      cases h60
                      exact q_join (by kernel_rfl) (by kernel_rfl)
                    · refine r_cond_f hb (by kernel_rfl) ?_
                      refine pwp_skip ?_
                      refine q_block ?_
                      cases h60
                      exact q_join (by kernel_rfl) (by kernel_rfl)
                  · rintro x59 rfl
                    have h57 := o_outl h57
                    refine r_reg ?_
                    refine e_end (by kernel_rfl) ?_
                    cases h57
                    exact q_lback (by kernel_rfl)
                · refine r_cond_f hb (by kernel_rfl) ?_
                  refine pwp_exit ?_
                  refine q_seq_exit ?_
                  cases h57
                  exact q_lexit (by kernel_rfl) (by kernel_rfl)
              · rintro x57 s' rfl hs
                have h46 := o_outl h46
                refine q_block_hit ?_
                refine q_next (pwp_wkr hs ?_)
                obtain ⟨o63, h63, h46⟩ := o_inl h46
                refine r_join (o := o63) 99 (fun x62 => ⟨[(2, .ref 2 0), (5, lstOf .frozen (r5 : (List T_api_Setting))), (6, .int .i64 x62), (8, .ref 8 0), (9, .int .i64 x57), (28, lstOf .frozen (a1 : (List T_api_Step))), (29, .int .i64 ((a1.length : Nat) : Int)), (30, .int .i64 x26)], [(2, .cells (cellsOf a0)), (8, .cells (cellsOf x47))], [], []⟩) ?_ ?_
                · refine pwp_seq ?_
                  refine r_reg ?_
                  refine p_run 4 (by kernel_rfl) ?_
                  obtain ⟨x63, h64, h63⟩ := o_bind h63
                  refine p_ix h64 (by kernel_rfl) ?_
                  refine e_end (by kernel_rfl) ?_
                  refine q_next ?_
                  rcases o_cond h63 with ⟨hb, h63⟩ | ⟨hb, h63⟩
                  · refine r_cond_t hb (by kernel_rfl) ?_
                    refine r_reg ?_
                    refine e_end (by kernel_rfl) ?_
                    cases h63
                    exact q_join (by kernel_rfl) (by kernel_rfl)
                  · refine r_cond_f hb (by kernel_rfl) ?_
                    refine pwp_skip ?_
                    cases h63
                    exact q_join (by kernel_rfl) (by kernel_rfl)
                · rintro x62 rfl
                  have h46 := o_outl h46
                  refine pwp_seq ?_
                  refine r_regd (by kernel_rfl) (by kernel_rfl) ?_
                  refine p_run 4 (by kernel_rfl) ?_
                  obtain ⟨x64, h65, h46⟩ := o_bind h46
                  refine p_ix h65 (by kernel_rfl) ?_
                  refine p_run 5 (by kernel_rfl) ?_
                  obtain ⟨r65, h66, h46⟩ := o_bind h46
                  refine p_call (d_rail_Out_ok _ _ _ r65 h66) (by kernel_rfl) (by kernel_rfl) ?_
                  refine e_end (by kernel_rfl) ?_
                  refine q_next ?_
                  refine pwp_seq ?_
                  refine r_reg ?_
                  refine p_run 3 (by kernel_rfl) ?_
                  refine e_segb 5 90 ((!r65.2) || (!(decide (r65.1 = x47.Out)))) (fun x hx => ?_) ?_
                  · rcases b_or hx with ⟨hb, hx⟩ | ⟨hb, hx⟩
                    · refine p_settle 85 hb (by kernel_rfl) (by kernel_rfl) ?_
                      subst hx
                      exact f_end (by kernel_rfl) (by kernel_rfl)
                    · refine p_settle 85 hb (by kernel_rfl) (by kernel_rfl) ?_
                      subst hx
                      exact f_end (by kernel_rfl) (by kernel_rfl)
                  · refine e_nil (by kernel_rfl) ?_
                    refine q_next ?_
                    rcases o_cond h46 with ⟨hb, h46⟩ | ⟨hb, h46⟩
                    · refine r_cond_t hb (by kernel_rfl) ?_
                      refine pwp_seq ?_
                      refine r_reg ?_
                      refine e_end (by kernel_rfl) ?_
                      refine q_next ?_
                      refine pwp_ret ?_
                      refine q_block_ret ?_
                      refine q_seq_ret ?_
                      cases h46
                      refine q_lout_ret fun he => ?_
                      subst he
                      have h67 := o_outr h
                      refine q_block_ret ?_
                      refine q_seq_ret ?_
                      cases h67
                      exact q_ret (by kernel_rfl) (by kernel_rfl) (by kernel_rfl)
                    · refine r_cond_f hb (by kernel_rfl) ?_
                      refine pwp_skip ?_
                      refine q_block ?_
                      refine q_next ?_
                      refine r_reg ?_
                      refine e_end (by kernel_rfl) ?_
                      cases h46
                      exact q_lback (by kernel_rfl)
        · refine r_cond_f hb (by kernel_rfl) ?_
          refine pwp_exit ?_
          refine q_seq_exit ?_
          cases h46
          exact q_lexit (by kernel_rfl) (by kernel_rfl)
      · rintro x46 s' rfl hs
        have h := o_outl h
        refine q_block_hit ?_
        refine q_next (pwp_wkr hs ?_)
        refine pwp_seq ?_
        refine r_reg ?_
        refine p_run 1 (by kernel_rfl) ?_
        refine p_len (L := (r5 : (List T_api_Setting))) (by kernel_rfl) ?_
        obtain ⟨b66, h68, h⟩ := o_bind h
        refine p_run 3 (by kernel_rfl) ?_
        refine e_seg 2 98 (.bool b66) ?_ ?_
        · rcases o_cond h68 with ⟨hb, h68⟩ | ⟨hb, h68⟩
          · refine p_settle 96 hb (by kernel_rfl) (by kernel_rfl) ?_
            obtain ⟨r67, h69, h68⟩ := o_bind h68
            refine p_call (d_law09_alive_ok  r67 h69) (by kernel_rfl) (by kernel_rfl) ?_
            cases h68
            exact f_end (by kernel_rfl) (by kernel_rfl)
          · refine p_settle 96 hb (by kernel_rfl) (by kernel_rfl) ?_
            cases h68
            exact f_end (by kernel_rfl) (by kernel_rfl)
        · refine e_end (by kernel_rfl) ?_
          refine q_next ?_
          refine pwp_ret ?_
          cases h
          exact q_ret (by kernel_rfl) (by kernel_rfl) (by kernel_rfl)

end PM
