/-
  Plain functions for the program's functions, and the proofs that the program does them. Printed by den.py.
-/
import Derived.Test.YtpiejhjhalnaaaaDoorDen2
namespace PM
open Go Go.RowKit
attribute [local irreducible] pops pwp

/-! signallinglaw14.leads -/
noncomputable def d_law14_leads_1 (a1 : T_api_Route) (x46 : T_api_Step) : Int → Option (Int ⊕ (Unit ⊕ (Int ⊕ (Unit ⊕ Bool)))) := fun x49 =>
  bif decide (x49 < ((a1.Path.length : Nat) : Int)) then (
    (ixO a1.Path x49).bind fun x51 =>
    bif decide (x51.El = x46.El) then (
      some (.inr (.inr (.inr (.inr false))))
    ) else (
      some (.inl (w64 (x49 + 1)))
    )
  ) else (
    some (.inr (.inl ()))
  )

noncomputable def d_law14_leads_2 (a1 : T_api_Route) (x46 : T_api_Step) : Int → Option (Int ⊕ (Unit ⊕ (Int ⊕ (Unit ⊕ Bool)))) := fun x53 =>
  bif decide (x53 < ((a1.Over.length : Nat) : Int)) then (
    (ixO a1.Over x53).bind fun x55 =>
    bif decide (x55.El = x46.El) then (
      some (.inr (.inr (.inr (.inr false))))
    ) else (
      some (.inl (w64 (x53 + 1)))
    )
  ) else (
    some (.inr (.inl ()))
  )

noncomputable def d_law14_leads_3 (a1 : T_api_Route) (x46 : T_api_Step) (r57 : (Int × Bool)) : Int → Option (Int ⊕ (Unit ⊕ (Int ⊕ (Unit ⊕ Bool)))) := fun x61 =>
  bif decide (x61 < ((a1.Flank.length : Nat) : Int)) then (
    (ixO a1.Flank x61).bind fun x65 =>
    ((bif decide (x65.El = x46.El) then (
      (ixO a1.Flank x61).bind fun x67 =>
      some (!(decide (x67.Pos = r57.1)))
    ) else some false) : Option Bool).bind fun b66 =>
    bif b66 then (
      some (.inr (.inr (.inr (.inr false))))
    ) else (
      some (.inl (w64 (x61 + 1)))
    )
  ) else (
    some (.inr (.inl ()))
  )

noncomputable def d_law14_leads_0 (a0 : T_api_Layout) (a1 : T_api_Route) (a2 : (List T_api_Step)) : Int → Option (Int ⊕ (Unit ⊕ Bool)) := fun x23 =>
  bif decide (x23 < ((a2.length : Nat) : Int)) then (
    (ixO a2 x23).bind fun x46 =>
    (d_ref07_Signal a0 (T_api_End.mk x46.El x46.Out)).bind fun r47 =>
    bif decide (0 ≤ r47) then (
      some (.inr (.inr false))
    ) else (
      onInl (α := Unit) (β := (Int ⊕ (Unit ⊕ Bool))) (loopO (d_law14_leads_1 a1 x46) 0) fun _ =>
      onInl (α := Unit) (β := (Int ⊕ (Unit ⊕ Bool))) (loopO (d_law14_leads_2 a1 x46) 0) fun _ =>
      (ixO a0.Elements x46.El).bind fun x56 =>
      (d_ref06_Need x56.Kind x46.In x46.Out).bind fun r57 =>
      onInl (α := Unit) (β := (Int ⊕ (Unit ⊕ Bool))) (loopO (d_law14_leads_3 a1 x46 r57) 0) fun _ =>
      some (.inl (w64 (x23 + 1)))
    )
  ) else (
    some (.inr (.inl ()))
  )

noncomputable def d_law14_leads (a0 : T_api_Layout) (a1 : T_api_Route) (a2 : (List T_api_Step)) : Option Bool :=
  onInl (α := Unit) (β := Bool) (loopO (d_law14_leads_0 a0 a1 a2) 0) fun _ =>
  some true
theorem d_law14_leads_ok (a0 : T_api_Layout) (a1 : T_api_Route) (a2 : (List T_api_Step)) (r : Bool) (h : d_law14_leads a0 a1 a2 = some r) : PCall Go.Proofs.Tryd.prog GlS 16 [Enc.pv a0, Enc.pv a1, Enc.pv a2] (Enc.pv r) := by
  unfold d_law14_leads at h
  refine pcall_of_pwp Go.Proofs.Tryd.func16 (by rfl) rfl Go.Proofs.Tryd.ntmps16 (by rfl) rfl ?_
  refine pwp_seq ?_
  refine r_reg ?_
  refine e_end (by kernel_rfl) ?_
  refine q_next ?_
  refine pwp_seq ?_
  refine pwp_seq ?_
  refine r_reg ?_
  refine e_end (by kernel_rfl) ?_
  refine q_next ?_
  refine pwp_block ?_
  obtain ⟨o90, h90, h⟩ := o_inl h
  refine r_loop2 105 0 (fun x23 => ⟨[(2, lstOf .frozen (a2 : (List T_api_Step))), (3, .ref 3 0), (4, .ref 4 0), (7, .int .i64 x23)], [(3, .cells (cellsOf a0)), (4, .cells (cellsOf a1))], [], []⟩) (fun (_ : Unit) => ⟨[], [], [], []⟩) h90 (by kernel_rfl) (fun _ => by kernel_rfl) ?_ ?_
  · rintro x23 oh89 h89
    unfold d_law14_leads_0 at h89
    refine pwp_seq ?_
    refine pwp_seq ?_
    refine r_reg ?_
    refine p_run 2 (by kernel_rfl) ?_
    refine p_len (L := (a2 : (List T_api_Step))) (by kernel_rfl) ?_
    refine e_end (by kernel_rfl) ?_
    refine q_next ?_
    rcases o_cond h89 with ⟨hb, h89⟩ | ⟨hb, h89⟩
    · refine r_cond_t hb (by kernel_rfl) ?_
      refine pwp_skip ?_
      refine q_next ?_
      refine pwp_seq ?_
      refine pwp_block ?_
      refine pwp_seq ?_
      refine r_reg ?_
      refine p_run 2 (by kernel_rfl) ?_
      obtain ⟨x46, h91, h89⟩ := o_bind h89
      refine p_ix h91 (by kernel_rfl) ?_
      refine e_end (by kernel_rfl) ?_
      refine q_next ?_
      refine pwp_seq ?_
      refine pwp_seq ?_
      refine r_reg ?_
      refine p_run 6 (by kernel_rfl) ?_
      obtain ⟨r47, h92, h89⟩ := o_bind h89
      refine p_call (d_ref07_Signal_ok _ _ r47 h92) (by kernel_rfl) (by kernel_rfl) ?_
      refine e_end (by kernel_rfl) ?_
      refine q_next ?_
      rcases o_cond h89 with ⟨hb, h89⟩ | ⟨hb, h89⟩
      · refine r_cond_t hb (by kernel_rfl) ?_
        refine pwp_seq ?_
        refine r_reg ?_
        refine e_end (by kernel_rfl) ?_
        refine q_next ?_
        refine pwp_ret ?_
        refine q_seq_ret ?_
        refine q_block_ret ?_
        refine q_seq_ret ?_
        cases h89
        refine q_lout_ret fun he => ?_
        subst he
        have h93 := o_outr h
        refine q_block_ret ?_
        refine q_seq_ret ?_
        cases h93
        exact q_ret (by kernel_rfl) (by kernel_rfl) (by kernel_rfl)
      · refine r_cond_f hb (by kernel_rfl) ?_
        refine pwp_skip ?_
        refine q_next ?_
        refine pwp_seq ?_
        refine pwp_seq ?_
        refine r_reg ?_
        refine e_end (by kernel_rfl) ?_
        refine q_next ?_
        refine pwp_block ?_
        obtain ⟨o101, h101, h89⟩ := o_inl h89
        refine r_loop2 105 2 (fun x49 => ⟨[(2, lstOf .frozen (a2 : (List T_api_Step))), (3, .ref 3 0), (4, .ref 4 0), (7, .int .i64 x23), (8, .ref 8 0), (9, .int .i64 x49)], [(3, .cells (cellsOf a0)), (4, .cells (cellsOf a1)), (8, .cells (cellsOf x46))], [], []⟩) (fun (_ : Unit) => ⟨[(2, lstOf .frozen (a2 : (List T_api_Step))), (3, .ref 3 0), (4, .ref 4 0), (7, .int .i64 x23), (8, .ref 8 0)], [(3, .cells (cellsOf a0)), (4, .cells (cellsOf a1)), (8, .cells (cellsOf x46))], [], []⟩) h101 (by kernel_rfl) (fun _ => by kernel_rfl) ?_ ?_
        · rintro x49 oh100 h100
          unfold d_law14_leads_1 at h100
          refine pwp_seq ?_
          refine pwp_seq ?_
          refine r_reg ?_
          refine p_run 3 (by kernel_rfl) ?_
          refine p_len (L := (a1.Path : (List T_api_Step))) (by kernel_rfl) ?_
          refine e_end (by kernel_rfl) ?_
          refine q_next ?_
          rcases o_cond h100 with ⟨hb, h100⟩ | ⟨hb, h100⟩
          · refine r_cond_t hb (by kernel_rfl) ?_
            refine pwp_skip ?_
            refine q_next ?_
            refine pwp_seq ?_
            refine pwp_block ?_
            refine pwp_seq ?_
            refine r_regd (by kernel_rfl) (by kernel_rfl) ?_
            refine p_run 3 (by kernel_rfl) ?_
            obtain ⟨x51, h102, h100⟩ := o_bind h100
            refine p_ix h102 (by kernel_rfl) ?_
            refine e_end (by kernel_rfl) ?_
            refine q_next ?_
            rcases o_cond h100 with ⟨hb, h100⟩ | ⟨hb, h100⟩
            · refine r_cond_t hb (by kernel_rfl) ?_
              refine pwp_seq ?_
              refine r_reg ?_
              refine e_end (by kernel_rfl) ?_
              refine q_next ?_
              refine pwp_ret ?_
              refine q_block_ret ?_
              refine q_seq_ret ?_
              cases h100
              refine q_lout_ret fun he => ?_
              subst he
              have h103 := o_outr h89
              refine q_block_ret ?_
              refine q_seq_ret ?_
              refine q_block_ret ?_
              refine q_seq_ret ?_
              cases h103
              refine q_lout_ret fun he => ?_
              subst he
              have h104 := o_outr h
              refine q_block_ret ?_
              refine q_seq_ret ?_
              cases h104
              exact q_ret (by kernel_rfl) (by kernel_rfl) (by kernel_rfl)
            · refine r_cond_f hb (by kernel_rfl) ?_
              refine pwp_skip ?_
              refine q_block ?_
              refine q_next ?_
              refine r_reg ?_
              refine e_end (by kernel_rfl) ?_
              cases h100
              exact q_lback (by kernel_rfl)
          · refine r_cond_f hb (by kernel_rfl) ?_
            refine pwp_exit ?_
            refine q_seq_exit ?_
            cases h100
            exact q_lexit (by kernel_rfl) (by kernel_rfl)
        · rintro _ s' rfl hs
          have h89 := o_outl h89
          refine q_block_hit ?_
          refine q_next (pwp_wkr hs ?_)
          refine pwp_seq ?_
          refine pwp_seq ?_
          refine r_reg ?_
          refine e_end (by kernel_rfl) ?_
          refine q_next ?_
          refine pwp_block ?_
          obtain ⟨o112, h112, h89⟩ := o_inl h89
          refine r_loop2 105 4 (fun x53 => ⟨[(2, lstOf .frozen (a2 : (List T_api_Step))), (3, .ref 3 0), (4, .ref 4 0), (7, .int .i64 x23), (8, .ref 8 0), (10, .int .i64 x53)], [(3, .cells (cellsOf a0)), (4, .cells (cellsOf a1)), (8, .cells (cellsOf x46))], [], []⟩) (fun (_ : Unit) => ⟨[(2, lstOf .frozen (a2 : (List T_api_Step))), (3, .ref 3 0), (4, .ref 4 0), (7, .int .i64 x23), (8, .ref 8 0)], [(3, .cells (cellsOf a0)), (4, .cells (cellsOf a1)), (8, .cells (cellsOf x46))], [], []⟩) h112 (by kernel_rfl) (fun _ => by kernel_rfl) ?_ ?_
          · rintro x53 oh111 h111
            unfold d_law14_leads_2 at h111
            refine pwp_seq ?_
            refine pwp_seq ?_
            refine r_reg ?_
            refine p_run 3 (by kernel_rfl) ?_
            refine p_len (L := (a1.Over : (List T_api_Step))) (by kernel_rfl) ?_
            refine e_end (by kernel_rfl) ?_
            refine q_next ?_
            rcases o_cond h111 with ⟨hb, h111⟩ | ⟨hb, h111⟩
            · refine r_cond_t hb (by kernel_rfl) ?_
              refine pwp_skip ?_
              refine q_next ?_
              refine pwp_seq ?_
              refine pwp_block ?_
              refine pwp_seq ?_
              refine r_regd (by kernel_rfl) (by kernel_rfl) ?_
              refine p_run 3 (by kernel_rfl) ?_
              obtain ⟨x55, h113, h111⟩ := o_bind h111
              refine p_ix h113 (by kernel_rfl) ?_
              refine e_end (by kernel_rfl) ?_
              refine q_next ?_
              rcases o_cond h111 with ⟨hb, h111⟩ | ⟨hb, h111⟩
              · refine r_cond_t hb (by kernel_rfl) ?_
                refine pwp_seq ?_
                refine r_reg ?_
                refine e_end (by kernel_rfl) ?_
                refine q_next ?_
                refine pwp_ret ?_
                refine q_block_ret ?_
                refine q_seq_ret ?_
                cases h111
                refine q_lout_ret fun he => ?_
                subst he
                have h114 := o_outr h89
                refine q_block_ret ?_
                refine q_seq_ret ?_
                refine q_block_ret ?_
                refine q_seq_ret ?_
                cases h114
                refine q_lout_ret fun he => ?_
                subst he
                have h115 := o_outr h
                refine q_block_ret ?_
                refine q_seq_ret ?_
                cases h115
                exact q_ret (by kernel_rfl) (by kernel_rfl) (by kernel_rfl)
              · refine r_cond_f hb (by kernel_rfl) ?_
                refine pwp_skip ?_
                refine q_block ?_
                refine q_next ?_
                refine r_reg ?_
                refine e_end (by kernel_rfl) ?_
                cases h111
                exact q_lback (by kernel_rfl)
            · refine r_cond_f hb (by kernel_rfl) ?_
              refine pwp_exit ?_
              refine q_seq_exit ?_
              cases h111
              exact q_lexit (by kernel_rfl) (by kernel_rfl)
          · rintro _ s' rfl hs
            have h89 := o_outl h89
            refine q_block_hit ?_
            refine q_next (pwp_wkr hs ?_)
            refine pwp_seq ?_
            refine r_regd (by kernel_rfl) (by kernel_rfl) ?_
            refine p_run 4 (by kernel_rfl) ?_
            obtain ⟨x56, h116, h89⟩ := o_bind h89
            refine p_ix h116 (by kernel_rfl) ?_
            refine p_run 6 (by kernel_rfl) ?_
            obtain ⟨r57, h117, h89⟩ := o_bind h89
            refine p_call (d_ref06_Need_ok _ _ _ r57 h117) (by kernel_rfl) (by kernel_rfl) ?_
            refine e_end (by kernel_rfl) ?_
            refine q_next ?_
            refine pwp_seq ?_
            refine r_reg ?_
            refine e_end (by kernel_rfl) ?_
            refine q_next ?_
            refine pwp_block ?_
            obtain ⟨o129, h129, h89⟩ := o_inl h89
            refine r_loop2 105 6 (fun x61 => ⟨[(2, lstOf .frozen (a2 : (List T_api_Step))), (3, .ref 3 0), (4, .ref 4 0), (7, .int .i64 x23), (8, .ref 8 0), (11, .int .i64 r57.1), (13, .int .i64 x61)], [(3, .cells (cellsOf a0)), (4, .cells (cellsOf a1)), (8, .cells (cellsOf x46))], [], []⟩) (fun (_ : Unit) => ⟨[(2, lstOf .frozen (a2 : (List T_api_Step))), (3, .ref 3 0), (4, .ref 4 0), (7, .int .i64 x23)], [(3, .cells (cellsOf a0)), (4, .cells (cellsOf a1))], [], []⟩) h129 (by kernel_rfl) (fun _ => by kernel_rfl) ?_ ?_
            · rintro x61 oh128 h128
              unfold d_law14_leads_3 at h128
              refine pwp_seq ?_
              refine pwp_seq ?_
              refine r_reg ?_
              refine p_run 3 (by kernel_rfl) ?_
              refine p_len (L := (a1.Flank : (List T_api_Setting))) (by kernel_rfl) ?_
              refine e_end (by kernel_rfl) ?_
              refine q_next ?_
              rcases o_cond h128 with ⟨hb, h128⟩ | ⟨hb, h128⟩
              · refine r_cond_t hb (by kernel_rfl) ?_
                refine pwp_skip ?_
                refine q_next ?_
                refine pwp_seq ?_
                refine pwp_block ?_
                refine pwp_seq ?_
                refine r_regd (by kernel_rfl) (by kernel_rfl) ?_
                refine p_run 3 (by kernel_rfl) ?_
                obtain ⟨x65, h130, h128⟩ := o_bind h128
                refine p_ix h130 (by kernel_rfl) ?_
                obtain ⟨b66, h131, h128⟩ := o_bind h128
                refine p_run 6 (by kernel_rfl) ?_
                refine e_seg 9 104 (.bool b66) ?_ ?_
                · rcases o_cond h131 with ⟨hb, h131⟩ | ⟨hb, h131⟩
                  · refine p_settle 95 hb (by kernel_rfl) (by kernel_rfl) ?_
                    refine p_run 3 (by kernel_rfl) ?_
                    obtain ⟨x67, h132, h131⟩ := o_bind h131
                    refine p_ix h132 (by kernel_rfl) ?_
                    cases h131
                    exact f_end (by kernel_rfl) (by kernel_rfl)
                  · refine p_settle 95 hb (by kernel_rfl) (by kernel_rfl) ?_
                    cases h131
                    exact f_end (by kernel_rfl) (by kernel_rfl)
                · refine e_nil (by kernel_rfl) ?_
                  refine q_next ?_
                  rcases o_cond h128 with ⟨hb, h128⟩ | ⟨hb, h128⟩
                  · refine r_cond_t hb (by kernel_rfl) ?_
                    refine pwp_seq ?_
                    refine r_reg ?_
                    refine e_end (by kernel_rfl) ?_
                    refine q_next ?_
                    refine pwp_ret ?_
                    refine q_block_ret ?_
                    refine q_seq_ret ?_
                    cases h128
                    refine q_lout_ret fun he => ?_
                    subst he
                    have h133 := o_outr h89
                    refine q_block_ret ?_
                    refine q_block_ret ?_
                    refine q_seq_ret ?_
                    cases h133
                    refine q_lout_ret fun he => ?_
                    subst he
                    have h134 := o_outr h
                    refine q_block_ret ?_
                    refine q_seq_ret ?_
                    cases h134
                    exact q_ret (by kernel_rfl) (by kernel_rfl) (by kernel_rfl)
                  · refine r_cond_f hb (by kernel_rfl) ?_
                    refine pwp_skip ?_
                    refine q_block ?_
                    refine q_next ?_
                    refine r_reg ?_
                    refine e_end (by kernel_rfl) ?_
                    cases h128
                    exact q_lback (by kernel_rfl)
              · refine r_cond_f hb (by kernel_rfl) ?_
                refine pwp_exit ?_
                refine q_seq_exit ?_
                cases h128
                exact q_lexit (by kernel_rfl) (by kernel_rfl)
            · rintro _ s' rfl hs
              have h89 := o_outl h89
              refine q_block_hit ?_
              refine q_block ?_
              refine q_next (pwp_wkr hs ?_)
              refine r_reg ?_
              refine e_end (by kernel_rfl) ?_
              cases h89
              exact q_lback (by kernel_rfl)
    · refine r_cond_f hb (by kernel_rfl) ?_
      refine pwp_exit ?_
      refine q_seq_exit ?_
      cases h89
      exact q_lexit (by kernel_rfl) (by kernel_rfl)
  · rintro _ s' rfl hs
    have h := o_outl h
    refine q_block_hit ?_
    refine q_next (pwp_wkr hs ?_)
    refine pwp_seq ?_
    refine r_reg ?_
    refine e_end (by kernel_rfl) ?_
    refine q_next ?_
    refine pwp_ret ?_
    cases h
    exact q_ret (by kernel_rfl) (by kernel_rfl) (by kernel_rfl)

/-! signallinglaw14.FlankStops -/
noncomputable def d_law14_FlankStops (a0 : T_api_Layout) (a1 : T_api_Route) (a2 : (List T_api_Step)) : Option Bool :=
  (d_law14_few a0 a1).bind fun r1 =>
  ((bif (!r1) then some true else (
    some (decide (((a2.length : Nat) : Int) < 4))
  )) : Option Bool).bind fun b2 =>
  ((bif b2 then some true else (
    some (decide (80 < ((a2.length : Nat) : Int)))
  )) : Option Bool).bind fun b3 =>
  ((bif b3 then some true else (
    (d_ref09_Valid a0 a2).bind fun r5 =>
    some (!r5)
  )) : Option Bool).bind fun b4 =>
  bif b4 then (
    (d_law14_alive ).bind fun r6 =>
    some r6
  ) else (
    (d_flank_Find a0 a1).bind fun r7 =>
    (ixO a2 (w64 (((a2.length : Nat) : Int) - 1))).bind fun x8 =>
    (d_ref09_Next a0 x8).bind fun r9 =>
    ((bif (!r9.2) then some true else (
      (d_ref14_Sides a0 a1).bind fun r11 =>
      (d_ref14_HasEnd r11 r9.1).bind fun r12 =>
      some (!r12)
    )) : Option Bool).bind fun b10 =>
    ((bif b10 then some true else (
      (d_law14_leads a0 r7 a2).bind fun r14 =>
      some (!r14)
    )) : Option Bool).bind fun b13 =>
    bif b13 then (
      (d_law14_alive ).bind fun r15 =>
      some r15
    ) else (
      (d_ref14_HasEnd r7.Gaps r9.1).bind fun r16 =>
      ((bif r16 then (
        (d_law14_alive ).bind fun r18 =>
        some r18
      ) else some false) : Option Bool).bind fun b17 =>
      some b17
    )
  )
theorem d_law14_FlankStops_ok (a0 : T_api_Layout) (a1 : T_api_Route) (a2 : (List T_api_Step)) (r : Bool) (h : d_law14_FlankStops a0 a1 a2 = some r) : PCall Go.Proofs.Tryd.prog GlS 4 [Enc.pv a0, Enc.pv a1, Enc.pv a2] (Enc.pv r) := by
  unfold d_law14_FlankStops at h
  refine pcall_of_pwp Go.Proofs.Tryd.func4 (by rfl) rfl Go.Proofs.Tryd.ntmps4 (by rfl) rfl ?_
  refine pwp_seq ?_
  refine r_reg ?_
  refine e_end (by kernel_rfl) ?_
  refine q_next ?_
  refine pwp_seq ?_
  refine pwp_seq ?_
  refine r_reg ?_
  refine p_run 2 (by kernel_rfl) ?_
  obtain ⟨r1, h1, h⟩ := o_bind h
  refine p_call (d_law14_few_ok _ _ r1 h1) (by kernel_rfl) (by kernel_rfl) ?_
  obtain ⟨b2, h2, h⟩ := o_bind h
  refine p_run 2 (by kernel_rfl) ?_
  refine e_seg 4 18 (.bool b2) ?_ ?_
  · rcases o_cond h2 with ⟨hb, h2⟩ | ⟨hb, h2⟩
    · refine p_settle 14 hb (by kernel_rfl) (by kernel_rfl) ?_
      cases h2
      exact f_end (by kernel_rfl) (by kernel_rfl)
    · refine p_settle 14 hb (by kernel_rfl) (by kernel_rfl) ?_
      refine p_run 1 (by kernel_rfl) ?_
      refine p_len (L := (a2 : (List T_api_Step))) (by kernel_rfl) ?_
      cases h2
      exact f_end (by kernel_rfl) (by kernel_rfl)
  · obtain ⟨b3, h3, h⟩ := o_bind h
    refine p_run 1 (by kernel_rfl) ?_
    refine e_seg 4 23 (.bool b3) ?_ ?_
    · rcases o_cond h3 with ⟨hb, h3⟩ | ⟨hb, h3⟩
      · refine p_settle 19 hb (by kernel_rfl) (by kernel_rfl) ?_
        cases h3
        exact f_end (by kernel_rfl) (by kernel_rfl)
      · refine p_settle 19 hb (by kernel_rfl) (by kernel_rfl) ?_
        refine p_run 1 (by kernel_rfl) ?_
        refine p_len (L := (a2 : (List T_api_Step))) (by kernel_rfl) ?_
        cases h3
        exact f_end (by kernel_rfl) (by kernel_rfl)
    · obtain ⟨b4, h4, h⟩ := o_bind h
      refine p_run 1 (by kernel_rfl) ?_
      refine e_seg 5 29 (.bool b4) ?_ ?_
      · rcases o_cond h4 with ⟨hb, h4⟩ | ⟨hb, h4⟩
        · refine p_settle 24 hb (by kernel_rfl) (by kernel_rfl) ?_
          cases h4
          exact f_end (by kernel_rfl) (by kernel_rfl)
        · refine p_settle 24 hb (by kernel_rfl) (by kernel_rfl) ?_
          refine p_run 2 (by kernel_rfl) ?_
          obtain ⟨r5, h5, h4⟩ := o_bind h4
          refine p_call (d_ref09_Valid_ok _ _ r5 h5) (by kernel_rfl) (by kernel_rfl) ?_
          cases h4
          exact f_end (by kernel_rfl) (by kernel_rfl)
      · refine e_nil (by kernel_rfl) ?_
        refine q_next ?_
        rcases o_cond h with ⟨hb, h⟩ | ⟨hb, h⟩
        · refine r_cond_t hb (by kernel_rfl) ?_
          refine pwp_seq ?_
          refine r_reg ?_
          obtain ⟨r6, h6, h⟩ := o_bind h
          refine p_call (d_law14_alive_ok  r6 h6) (by kernel_rfl) (by kernel_rfl) ?_
          refine e_end (by kernel_rfl) ?_
          refine q_next ?_
          refine pwp_ret ?_
          refine q_seq_ret ?_
          cases h
          exact q_ret (by kernel_rfl) (by kernel_rfl) (by kernel_rfl)
        · refine r_cond_f hb (by kernel_rfl) ?_
          refine pwp_skip ?_
          refine q_next ?_
          refine pwp_seq ?_
          refine r_reg ?_
          refine p_run 2 (by kernel_rfl) ?_
          obtain ⟨r7, h7, h⟩ := o_bind h
          refine p_call (d_flank_Find_ok _ _ r7 h7) (by kernel_rfl) (by kernel_rfl) ?_
          refine e_end (by kernel_rfl) ?_
          refine q_next ?_
          refine pwp_seq ?_
          refine r_regd (by kernel_rfl) (by kernel_rfl) ?_
          refine p_run 3 (by kernel_rfl) ?_
          refine p_len (L := (a2 : (List T_api_Step))) (by kernel_rfl) ?_
          refine p_run 1 (by kernel_rfl) ?_
          obtain ⟨x8, h8, h⟩ := o_bind h
          refine p_ix h8 (by kernel_rfl) ?_
          refine p_run 1 (by kernel_rfl) ?_
          obtain ⟨r9, h9, h⟩ := o_bind h
          refine p_call (d_ref09_Next_ok _ _ r9 h9) (by kernel_rfl) (by kernel_rfl) ?_
          refine e_end (by kernel_rfl) ?_
          refine q_next ?_
          refine pwp_seq ?_
          refine pwp_seq ?_
          refine r_regd (by kernel_rfl) (by kernel_rfl) ?_
          obtain ⟨b10, h10, h⟩ := o_bind h
          refine p_run 3 (by kernel_rfl) ?_
          refine e_seg 7 54 (.bool b10) ?_ ?_
          · rcases o_cond h10 with ⟨hb, h10⟩ | ⟨hb, h10⟩
            · refine p_settle 47 hb (by kernel_rfl) (by kernel_rfl) ?_
              cases h10
              exact f_end (by kernel_rfl) (by kernel_rfl)
            · refine p_settle 47 hb (by kernel_rfl) (by kernel_rfl) ?_
              refine p_run 2 (by kernel_rfl) ?_
              obtain ⟨r11, h11, h10⟩ := o_bind h10
              refine p_call (d_ref14_Sides_fz _ _ r11 h11) (by kernel_rfl) (by kernel_rfl) ?_
              refine p_run 1 (by kernel_rfl) ?_
              obtain ⟨r12, h12, h10⟩ := o_bind h10
              refine p_call (d_ref14_HasEnd_ok _ _ r12 h12) (by kernel_rfl) (by kernel_rfl) ?_
              cases h10
              exact f_end (by kernel_rfl) (by kernel_rfl)
          · obtain ⟨b13, h13, h⟩ := o_bind h
            refine p_run 1 (by kernel_rfl) ?_
            refine e_seg 6 61 (.bool b13) ?_ ?_
            · rcases o_cond h13 with ⟨hb, h13⟩ | ⟨hb, h13⟩
              · refine p_settle 55 hb (by kernel_rfl) (by kernel_rfl) ?_
                cases h13
                exact f_end (by kernel_rfl) (by kernel_rfl)
              · refine p_settle 55 hb (by kernel_rfl) (by kernel_rfl) ?_
                refine p_run 3 (by kernel_rfl) ?_
                obtain ⟨r14, h14, h13⟩ := o_bind h13
                refine p_call (d_law14_leads_ok _ _ _ r14 h14) (by kernel_rfl) (by kernel_rfl) ?_
                cases h13
                exact f_end (by kernel_rfl) (by kernel_rfl)
            · refine e_nil (by kernel_rfl) ?_
              refine q_next ?_
              rcases o_cond h with ⟨hb, h⟩ | ⟨hb, h⟩
              · refine r_cond_t hb (by kernel_rfl) ?_
                refine pwp_seq ?_
                refine r_reg ?_
                obtain ⟨r15, h15, h⟩ := o_bind h
                refine p_call (d_law14_alive_ok  r15 h15) (by kernel_rfl) (by kernel_rfl) ?_
                refine e_end (by kernel_rfl) ?_
                refine q_next ?_
                refine pwp_ret ?_
                refine q_seq_ret ?_
                cases h
                exact q_ret (by kernel_rfl) (by kernel_rfl) (by kernel_rfl)
              · refine r_cond_f hb (by kernel_rfl) ?_
                refine pwp_skip ?_
                refine q_next ?_
                refine pwp_seq ?_
                refine r_reg ?_
                refine p_run 3 (by kernel_rfl) ?_
                obtain ⟨r16, h16, h⟩ := o_bind h
                refine p_call (d_ref14_HasEnd_ok _ _ r16 h16) (by kernel_rfl) (by kernel_rfl) ?_
                obtain ⟨b17, h17, h⟩ := o_bind h
                refine p_run 1 (by kernel_rfl) ?_
                refine e_seg 2 69 (.bool b17) ?_ ?_
                · rcases o_cond h17 with ⟨hb, h17⟩ | ⟨hb, h17⟩
                  · refine p_settle 67 hb (by kernel_rfl) (by kernel_rfl) ?_
                    obtain ⟨r18, h18, h17⟩ := o_bind h17
                    refine p_call (d_law14_alive_ok  r18 h18) (by kernel_rfl) (by kernel_rfl) ?_
                    cases h17
                    exact f_end (by kernel_rfl) (by kernel_rfl)
                  · refine p_settle 67 hb (by kernel_rfl) (by kernel_rfl) ?_
                    cases h17
                    exact f_end (by kernel_rfl) (by kernel_rfl)
                · refine e_end (by kernel_rfl) ?_
                  refine q_next ?_
                  refine pwp_ret ?_
                  cases h
                  exact q_ret (by kernel_rfl) (by kernel_rfl) (by kernel_rfl)

/-! signallingref09.SameSteps -/
noncomputable def d_ref09_SameSteps_0 (a0 : (List T_api_Step)) (a1 : (List T_api_Step)) : Int → Option (Int ⊕ (Unit ⊕ Bool)) := fun x3 =>
  bif decide (x3 < ((a0.length : Nat) : Int)) then (
    (ixO a0 x3).bind fun x6 =>
    (ixO a1 x3).bind fun x7 =>
    bif (!(eq_T_api_Step x6 x7)) then (
      some (.inr (.inr false))
    ) else (
      some (.inl (w64 (x3 + 1)))
    )
  ) else (
    some (.inr (.inl ()))
  )

noncomputable def d_ref09_SameSteps (a0 : (List T_api_Step)) (a1 : (List T_api_Step)) : Option Bool :=
  bif (!(decide (((a0.length : Nat) : Int) = ((a1.length : Nat) : Int)))) then (
    some false
  ) else (
    onInl (α := Unit) (β := Bool) (loopO (d_ref09_SameSteps_0 a0 a1) 0) fun _ =>
    some true
  )
theorem d_ref09_SameSteps_ok (a0 : (List T_api_Step)) (a1 : (List T_api_Step)) (r : Bool) (h : d_ref09_SameSteps a0 a1 = some r) : PCall Go.Proofs.Tryd.prog GlS 70 [Enc.pv a0, Enc.pv a1] (Enc.pv r) := by
  unfold d_ref09_SameSteps at h
  refine pcall_of_pwp Go.Proofs.Tryd.func70 (by rfl) rfl Go.Proofs.Tryd.ntmps70 (by rfl) rfl ?_
  refine pwp_seq ?_
  refine r_reg ?_
  refine e_end (by kernel_rfl) ?_
  refine q_next ?_
  refine pwp_seq ?_
  refine pwp_seq ?_
  refine r_reg ?_
  refine p_run 1 (by kernel_rfl) ?_
  refine p_len (L := (a0 : (List T_api_Step))) (by kernel_rfl) ?_
  refine p_run 1 (by kernel_rfl) ?_
  refine p_len (L := (a1 : (List T_api_Step))) (by kernel_rfl) ?_
  refine e_end (by kernel_rfl) ?_
  refine q_next ?_
  rcases o_cond h with ⟨hb, h⟩ | ⟨hb, h⟩
  · refine r_cond_t hb (by kernel_rfl) ?_
    refine pwp_seq ?_
    refine r_reg ?_
    refine e_end (by kernel_rfl) ?_
    refine q_next ?_
    refine pwp_ret ?_
    refine q_seq_ret ?_
    cases h
    exact q_ret (by kernel_rfl) (by kernel_rfl) (by kernel_rfl)
  · refine r_cond_f hb (by kernel_rfl) ?_
    refine pwp_skip ?_
    refine q_next ?_
    refine pwp_seq ?_
    refine pwp_seq ?_
    refine r_reg ?_
    refine e_end (by kernel_rfl) ?_
    refine q_next ?_
    refine pwp_block ?_
    obtain ⟨o8, h8, h⟩ := o_inl h
    refine r_loop2 26 0 (fun x3 => ⟨[(0, lstOf .frozen (a0 : (List T_api_Step))), (1, lstOf .frozen (a1 : (List T_api_Step))), (5, .int .i64 x3)], [], [], []⟩) (fun (_ : Unit) => ⟨[], [], [], []⟩) h8 (by kernel_rfl) (fun _ => by kernel_rfl) ?_ ?_
    · rintro x3 oh7 h7
      unfold d_ref09_SameSteps_0 at h7
      refine pwp_seq ?_
      refine pwp_seq ?_
      refine r_reg ?_
      refine p_run 2 (by kernel_rfl) ?_
      refine p_len (L := (a0 : (List T_api_Step))) (by kernel_rfl) ?_
      refine e_end (by kernel_rfl) ?_
      refine q_next ?_
      rcases o_cond h7 with ⟨hb, h7⟩ | ⟨hb, h7⟩
      · refine r_cond_t hb (by kernel_rfl) ?_
        refine pwp_skip ?_
        refine q_next ?_
        refine pwp_seq ?_
        refine pwp_block ?_
        refine pwp_seq ?_
        refine r_regd (by kernel_rfl) (by kernel_rfl) ?_
        refine p_run 2 (by kernel_rfl) ?_
        obtain ⟨x6, h9, h7⟩ := o_bind h7
        refine p_ix h9 (by kernel_rfl) ?_
        refine p_run 3 (by kernel_rfl) ?_
        obtain ⟨x7, h10, h7⟩ := o_bind h7
        refine p_ix h10 (by kernel_rfl) ?_
        refine e_end (by kernel_rfl) ?_
        refine q_next ?_
        rcases o_cond h7 with ⟨hb, h7⟩ | ⟨hb, h7⟩
        · refine r_cond_t hb (by kernel_rfl) ?_
          refine pwp_seq ?_
          refine r_reg ?_
          refine e_end (by kernel_rfl) ?_
          refine q_next ?_
          refine pwp_ret ?_
          refine q_block_ret ?_
          refine q_seq_ret ?_
          cases h7
          refine q_lout_ret fun he => ?_
          subst he
          have h11 := o_outr h
          refine q_block_ret ?_
          refine q_seq_ret ?_
          cases h11
          exact q_ret (by kernel_rfl) (by kernel_rfl) (by kernel_rfl)
        · refine r_cond_f hb (by kernel_rfl) ?_
          refine pwp_skip ?_
          refine q_block ?_
          refine q_next ?_
          refine r_reg ?_
          refine e_end (by kernel_rfl) ?_
          cases h7
          exact q_lback (by kernel_rfl)
      · refine r_cond_f hb (by kernel_rfl) ?_
        refine pwp_exit ?_
        refine q_seq_exit ?_
        cases h7
        exact q_lexit (by kernel_rfl) (by kernel_rfl)
    · rintro _ s' rfl hs
      have h := o_outl h
      refine q_block_hit ?_
      refine q_next (pwp_wkr hs ?_)
      refine pwp_seq ?_
      refine r_reg ?_
      refine e_end (by kernel_rfl) ?_
      refine q_next ?_
      refine pwp_ret ?_
      cases h
      exact q_ret (by kernel_rfl) (by kernel_rfl) (by kernel_rfl)

/-! signallingref12.SameSteps -/
noncomputable def d_ref12_SameSteps (a0 : (List T_api_Step)) (a1 : (List T_api_Step)) : Option Bool :=
  (d_ref09_SameSteps a0 a1).bind fun r1 =>
  some r1
theorem d_ref12_SameSteps_ok (a0 : (List T_api_Step)) (a1 : (List T_api_Step)) (r : Bool) (h : d_ref12_SameSteps a0 a1 = some r) : PCall Go.Proofs.Tryd.prog GlS 46 [Enc.pv a0, Enc.pv a1] (Enc.pv r) := by
  unfold d_ref12_SameSteps at h
  refine pcall_of_pwp Go.Proofs.Tryd.func46 (by rfl) rfl Go.Proofs.Tryd.ntmps46 (by rfl) rfl ?_
  refine pwp_seq ?_
  refine r_reg ?_
  refine e_end (by kernel_rfl) ?_
  refine q_next ?_
  refine pwp_seq ?_
  refine r_reg ?_
  refine p_run 2 (by kernel_rfl) ?_
  obtain ⟨r1, h1, h⟩ := o_bind h
  refine p_call (d_ref09_SameSteps_ok _ _ r1 h1) (by kernel_rfl) (by kernel_rfl) ?_
  refine e_end (by kernel_rfl) ?_
  refine q_next ?_
  refine pwp_ret ?_
  cases h
  exact q_ret (by kernel_rfl) (by kernel_rfl) (by kernel_rfl)

/-! signallingref09.SameInts -/
noncomputable def d_ref09_SameInts_0 (a0 : (List Int)) (a1 : (List Int)) : Int → Option (Int ⊕ (Unit ⊕ Bool)) := fun x3 =>
  bif decide (x3 < ((a0.length : Nat) : Int)) then (
    (ixO a0 x3).bind fun x6 =>
    (ixO a1 x3).bind fun x7 =>
    bif (!(decide (x6 = x7))) then (
      some (.inr (.inr false))
    ) else (
      some (.inl (w64 (x3 + 1)))
    )
  ) else (
    some (.inr (.inl ()))
  )

noncomputable def d_ref09_SameInts (a0 : (List Int)) (a1 : (List Int)) : Option Bool :=
  bif (!(decide (((a0.length : Nat) : Int) = ((a1.length : Nat) : Int)))) then (
    some false
  ) else (
    onInl (α := Unit) (β := Bool) (loopO (d_ref09_SameInts_0 a0 a1) 0) fun _ =>
    some true
  )
theorem d_ref09_SameInts_ok (a0 : (List Int)) (a1 : (List Int)) (r : Bool) (h : d_ref09_SameInts a0 a1 = some r) : PCall Go.Proofs.Tryd.prog GlS 71 [Enc.pv a0, Enc.pv a1] (Enc.pv r) := by
  unfold d_ref09_SameInts at h
  refine pcall_of_pwp Go.Proofs.Tryd.func71 (by rfl) rfl Go.Proofs.Tryd.ntmps71 (by rfl) rfl ?_
  refine pwp_seq ?_
  refine r_reg ?_
  refine e_end (by kernel_rfl) ?_
  refine q_next ?_
  refine pwp_seq ?_
  refine pwp_seq ?_
  refine r_reg ?_
  refine p_run 1 (by kernel_rfl) ?_
  refine p_len (L := (a0 : (List Int))) (by kernel_rfl) ?_
  refine p_run 1 (by kernel_rfl) ?_
  refine p_len (L := (a1 : (List Int))) (by kernel_rfl) ?_
  refine e_end (by kernel_rfl) ?_
  refine q_next ?_
  rcases o_cond h with ⟨hb, h⟩ | ⟨hb, h⟩
  · refine r_cond_t hb (by kernel_rfl) ?_
    refine pwp_seq ?_
    refine r_reg ?_
    refine e_end (by kernel_rfl) ?_
    refine q_next ?_
    refine pwp_ret ?_
    refine q_seq_ret ?_
    cases h
    exact q_ret (by kernel_rfl) (by kernel_rfl) (by kernel_rfl)
  · refine r_cond_f hb (by kernel_rfl) ?_
    refine pwp_skip ?_
    refine q_next ?_
    refine pwp_seq ?_
    refine pwp_seq ?_
    refine r_reg ?_
    refine e_end (by kernel_rfl) ?_
    refine q_next ?_
    refine pwp_block ?_
    obtain ⟨o8, h8, h⟩ := o_inl h
    refine r_loop2 26 0 (fun x3 => ⟨[(0, lstOf .frozen (a0 : (List Int))), (1, lstOf .frozen (a1 : (List Int))), (5, .int .i64 x3)], [], [], []⟩) (fun (_ : Unit) => ⟨[], [], [], []⟩) h8 (by kernel_rfl) (fun _ => by kernel_rfl) ?_ ?_
    · rintro x3 oh7 h7
      unfold d_ref09_SameInts_0 at h7
      refine pwp_seq ?_
      refine pwp_seq ?_
      refine r_reg ?_
      refine p_run 2 (by kernel_rfl) ?_
      refine p_len (L := (a0 : (List Int))) (by kernel_rfl) ?_
      refine e_end (by kernel_rfl) ?_
      refine q_next ?_
      rcases o_cond h7 with ⟨hb, h7⟩ | ⟨hb, h7⟩
      · refine r_cond_t hb (by kernel_rfl) ?_
        refine pwp_skip ?_
        refine q_next ?_
        refine pwp_seq ?_
        refine pwp_block ?_
        refine pwp_seq ?_
        refine r_regd (by kernel_rfl) (by kernel_rfl) ?_
        refine p_run 2 (by kernel_rfl) ?_
        obtain ⟨x6, h9, h7⟩ := o_bind h7
        refine p_ix h9 (by kernel_rfl) ?_
        refine p_run 3 (by kernel_rfl) ?_
        obtain ⟨x7, h10, h7⟩ := o_bind h7
        refine p_ix h10 (by kernel_rfl) ?_
        refine e_end (by kernel_rfl) ?_
        refine q_next ?_
        rcases o_cond h7 with ⟨hb, h7⟩ | ⟨hb, h7⟩
        · refine r_cond_t hb (by kernel_rfl) ?_
          refine pwp_seq ?_
          refine r_reg ?_
          refine e_end (by kernel_rfl) ?_
          refine q_next ?_
          refine pwp_ret ?_
          refine q_block_ret ?_
          refine q_seq_ret ?_
          cases h7
          refine q_lout_ret fun he => ?_
          subst he
          have h11 := o_outr h
          refine q_block_ret ?_
          refine q_seq_ret ?_
          cases h11
          exact q_ret (by kernel_rfl) (by kernel_rfl) (by kernel_rfl)
        · refine r_cond_f hb (by kernel_rfl) ?_
          refine pwp_skip ?_
          refine q_block ?_
          refine q_next ?_
          refine r_reg ?_
          refine e_end (by kernel_rfl) ?_
          cases h7
          exact q_lback (by kernel_rfl)
      · refine r_cond_f hb (by kernel_rfl) ?_
        refine pwp_exit ?_
        refine q_seq_exit ?_
        cases h7
        exact q_lexit (by kernel_rfl) (by kernel_rfl)
    · rintro _ s' rfl hs
      have h := o_outl h
      refine q_block_hit ?_
      refine q_next (pwp_wkr hs ?_)
      refine pwp_seq ?_
      refine r_reg ?_
      refine e_end (by kernel_rfl) ?_
      refine q_next ?_
      refine pwp_ret ?_
      cases h
      exact q_ret (by kernel_rfl) (by kernel_rfl) (by kernel_rfl)

/-! signallingref12.SameInts -/
noncomputable def d_ref12_SameInts (a0 : (List Int)) (a1 : (List Int)) : Option Bool :=
  (d_ref09_SameInts a0 a1).bind fun r1 =>
  some r1
theorem d_ref12_SameInts_ok (a0 : (List Int)) (a1 : (List Int)) (r : Bool) (h : d_ref12_SameInts a0 a1 = some r) : PCall Go.Proofs.Tryd.prog GlS 47 [Enc.pv a0, Enc.pv a1] (Enc.pv r) := by
  unfold d_ref12_SameInts at h
  refine pcall_of_pwp Go.Proofs.Tryd.func47 (by rfl) rfl Go.Proofs.Tryd.ntmps47 (by rfl) rfl ?_
  refine pwp_seq ?_
  refine r_reg ?_
  refine e_end (by kernel_rfl) ?_
  refine q_next ?_
  refine pwp_seq ?_
  refine r_reg ?_
  refine p_run 2 (by kernel_rfl) ?_
  obtain ⟨r1, h1, h⟩ := o_bind h
  refine p_call (d_ref09_SameInts_ok _ _ r1 h1) (by kernel_rfl) (by kernel_rfl) ?_
  refine e_end (by kernel_rfl) ?_
  refine q_next ?_
  refine pwp_ret ?_
  cases h
  exact q_ret (by kernel_rfl) (by kernel_rfl) (by kernel_rfl)

/-! signallingref12.sameEnds -/
noncomputable def d_ref12_sameEnds_0 (a0 : (List T_api_End)) (a1 : (List T_api_End)) : Int → Option (Int ⊕ (Unit ⊕ Bool)) := fun x3 =>
  bif decide (x3 < ((a0.length : Nat) : Int)) then (
    (ixO a0 x3).bind fun x6 =>
    (ixO a1 x3).bind fun x7 =>
    bif (!(eq_T_api_End x6 x7)) then (
      some (.inr (.inr false))
    ) else (
      some (.inl (w64 (x3 + 1)))
    )
  ) else (
    some (.inr (.inl ()))
  )

noncomputable def d_ref12_sameEnds (a0 : (List T_api_End)) (a1 : (List T_api_End)) : Option Bool :=
  bif (!(decide (((a0.length : Nat) : Int) = ((a1.length : Nat) : Int)))) then (
    some false
  ) else (
    onInl (α := Unit) (β := Bool) (loopO (d_ref12_sameEnds_0 a0 a1) 0) fun _ =>
    some true
  )
theorem d_ref12_sameEnds_ok (a0 : (List T_api_End)) (a1 : (List T_api_End)) (r : Bool) (h : d_ref12_sameEnds a0 a1 = some r) : PCall Go.Proofs.Tryd.prog GlS 48 [Enc.pv a0, Enc.pv a1] (Enc.pv r) := by
  unfold d_ref12_sameEnds at h
  refine pcall_of_pwp Go.Proofs.Tryd.func48 (by rfl) rfl Go.Proofs.Tryd.ntmps48 (by rfl) rfl ?_
  refine pwp_seq ?_
  refine r_reg ?_
  refine e_end (by kernel_rfl) ?_
  refine q_next ?_
  refine pwp_seq ?_
  refine pwp_seq ?_
  refine r_reg ?_
  refine p_run 1 (by kernel_rfl) ?_
  refine p_len (L := (a0 : (List T_api_End))) (by kernel_rfl) ?_
  refine p_run 1 (by kernel_rfl) ?_
  refine p_len (L := (a1 : (List T_api_End))) (by kernel_rfl) ?_
  refine e_end (by kernel_rfl) ?_
  refine q_next ?_
  rcases o_cond h with ⟨hb, h⟩ | ⟨hb, h⟩
  · refine r_cond_t hb (by kernel_rfl) ?_
    refine pwp_seq ?_
    refine r_reg ?_
    refine e_end (by kernel_rfl) ?_
    refine q_next ?_
    refine pwp_ret ?_
    refine q_seq_ret ?_
    cases h
    exact q_ret (by kernel_rfl) (by kernel_rfl) (by kernel_rfl)
  · refine r_cond_f hb (by kernel_rfl) ?_
    refine pwp_skip ?_
    refine q_next ?_
    refine pwp_seq ?_
    refine pwp_seq ?_
    refine r_reg ?_
    refine e_end (by kernel_rfl) ?_
    refine q_next ?_
    refine pwp_block ?_
    obtain ⟨o8, h8, h⟩ := o_inl h
    refine r_loop2 26 0 (fun x3 => ⟨[(0, lstOf .frozen (a0 : (List T_api_End))), (1, lstOf .frozen (a1 : (List T_api_End))), (5, .int .i64 x3)], [], [], []⟩) (fun (_ : Unit) => ⟨[], [], [], []⟩) h8 (by kernel_rfl) (fun _ => by kernel_rfl) ?_ ?_
    · rintro x3 oh7 h7
      unfold d_ref12_sameEnds_0 at h7
      refine pwp_seq ?_
      refine pwp_seq ?_
      refine r_reg ?_
      refine p_run 2 (by kernel_rfl) ?_
      refine p_len (L := (a0 : (List T_api_End))) (by kernel_rfl) ?_
      refine e_end (by kernel_rfl) ?_
      refine q_next ?_
      rcases o_cond h7 with ⟨hb, h7⟩ | ⟨hb, h7⟩
      · refine r_cond_t hb (by kernel_rfl) ?_
        refine pwp_skip ?_
        refine q_next ?_
        refine pwp_seq ?_
        refine pwp_block ?_
        refine pwp_seq ?_
        refine r_regd (by kernel_rfl) (by kernel_rfl) ?_
        refine p_run 2 (by kernel_rfl) ?_
        obtain ⟨x6, h9, h7⟩ := o_bind h7
        refine p_ix h9 (by kernel_rfl) ?_
        refine p_run 3 (by kernel_rfl) ?_
        obtain ⟨x7, h10, h7⟩ := o_bind h7
        refine p_ix h10 (by kernel_rfl) ?_
        refine e_end (by kernel_rfl) ?_
        refine q_next ?_
        rcases o_cond h7 with ⟨hb, h7⟩ | ⟨hb, h7⟩
        · refine r_cond_t hb (by kernel_rfl) ?_
          refine pwp_seq ?_
          refine r_reg ?_
          refine e_end (by kernel_rfl) ?_
          refine q_next ?_
          refine pwp_ret ?_
          refine q_block_ret ?_
          refine q_seq_ret ?_
          cases h7
          refine q_lout_ret fun he => ?_
          subst he
          have h11 := o_outr h
          refine q_block_ret ?_
          refine q_seq_ret ?_
          cases h11
          exact q_ret (by kernel_rfl) (by kernel_rfl) (by kernel_rfl)
        · refine r_cond_f hb (by kernel_rfl) ?_
          refine pwp_skip ?_
          refine q_block ?_
          refine q_next ?_
          refine r_reg ?_
          refine e_end (by kernel_rfl) ?_
          cases h7
          exact q_lback (by kernel_rfl)
      · refine r_cond_f hb (by kernel_rfl) ?_
        refine pwp_exit ?_
        refine q_seq_exit ?_
        cases h7
        exact q_lexit (by kernel_rfl) (by kernel_rfl)
    · rintro _ s' rfl hs
      have h := o_outl h
      refine q_block_hit ?_
      refine q_next (pwp_wkr hs ?_)
      refine pwp_seq ?_
      refine r_reg ?_
      refine e_end (by kernel_rfl) ?_
      refine q_next ?_
      refine pwp_ret ?_
      cases h
      exact q_ret (by kernel_rfl) (by kernel_rfl) (by kernel_rfl)

/-! signallingref12.Same -/
noncomputable def d_ref12_Same (a0 : T_api_Route) (a1 : T_api_Route) : Option Bool :=
  bif (((((!(decide (a0.Name = a1.Name))) || (!(decide (a0.Entry = a1.Entry)))) || (!(decide (a0.Exit = a1.Exit)))) || (!(decide (a0.Approach = a1.Approach)))) || (!(decide (a0.Length = a1.Length)))) then (
    some false
  ) else (
    (d_ref12_SameSteps a0.Path a1.Path).bind fun r1 =>
    ((bif (!r1) then some true else (
      (d_ref12_SameSettings a0.Points a1.Points).bind fun r3 =>
      some (!r3)
    )) : Option Bool).bind fun b2 =>
    ((bif b2 then some true else (
      (d_ref12_SameInts a0.Sections a1.Sections).bind fun r5 =>
      some (!r5)
    )) : Option Bool).bind fun b4 =>
    bif b4 then (
      some false
    ) else (
      (d_ref12_SameSteps a0.Over a1.Over).bind fun r6 =>
      ((bif r6 then (
        (d_ref12_SameSettings a0.OverPoints a1.OverPoints).bind fun r8 =>
        some r8
      ) else some false) : Option Bool).bind fun b7 =>
      ((bif b7 then (
        (d_ref12_SameInts a0.OverSections a1.OverSections).bind fun r10 =>
        some r10
      ) else some false) : Option Bool).bind fun b9 =>
      ((bif b9 then (
        (d_ref12_SameSettings a0.Flank a1.Flank).bind fun r12 =>
        some r12
      ) else some false) : Option Bool).bind fun b11 =>
      ((bif b11 then (
        (d_ref12_SameInts a0.Guards a1.Guards).bind fun r14 =>
        some r14
      ) else some false) : Option Bool).bind fun b13 =>
      ((bif b13 then (
        (d_ref12_sameEnds a0.Gaps a1.Gaps).bind fun r16 =>
        some r16
      ) else some false) : Option Bool).bind fun b15 =>
      some b15
    )
  )
theorem d_ref12_Same_ok (a0 : T_api_Route) (a1 : T_api_Route) (r : Bool) (h : d_ref12_Same a0 a1 = some r) : PCall Go.Proofs.Tryd.prog GlS 18 [Enc.pv a0, Enc.pv a1] (Enc.pv r) := by
  unfold d_ref12_Same at h
  refine pcall_of_pwp Go.Proofs.Tryd.func18 (by rfl) rfl Go.Proofs.Tryd.ntmps18 (by rfl) rfl ?_
  refine pwp_seq ?_
  refine r_reg ?_
  refine e_end (by kernel_rfl) ?_
  refine q_next ?_
  refine pwp_seq ?_
  refine pwp_seq ?_
  refine r_reg ?_
  refine p_run 6 (by kernel_rfl) ?_
  refine e_segb 6 16 ((!(decide (a0.Name = a1.Name))) || (!(decide (a0.Entry = a1.Entry)))) (fun x hx => ?_) ?_
  · rcases b_or hx with ⟨hb, hx⟩ | ⟨hb, hx⟩
    · refine p_settle 10 hb (by kernel_rfl) (by kernel_rfl) ?_
      subst hx
      exact f_end (by kernel_rfl) (by kernel_rfl)
    · refine p_settle 10 hb (by kernel_rfl) (by kernel_rfl) ?_
      subst hx
      exact f_end (by kernel_rfl) (by kernel_rfl)
  · refine p_run 1 (by kernel_rfl) ?_
    refine e_segb 6 23 (((!(decide (a0.Name = a1.Name))) || (!(decide (a0.Entry = a1.Entry)))) || (!(decide (a0.Exit = a1.Exit)))) (fun x hx => ?_) ?_
    · rcases b_or hx with ⟨hb, hx⟩ | ⟨hb, hx⟩
      · refine p_settle 17 hb (by kernel_rfl) (by kernel_rfl) ?_
        subst hx
        exact f_end (by kernel_rfl) (by kernel_rfl)
      · refine p_settle 17 hb (by kernel_rfl) (by kernel_rfl) ?_
        subst hx
        exact f_end (by kernel_rfl) (by kernel_rfl)
    · refine p_run 1 (by kernel_rfl) ?_
      refine e_segb 6 30 ((((!(decide (a0.Name = a1.Name))) || (!(decide (a0.Entry = a1.Entry)))) || (!(decide (a0.Exit = a1.Exit)))) || (!(decide (a0.Approach = a1.Approach)))) (fun x hx => ?_) ?_
      · rcases b_or hx with ⟨hb, hx⟩ | ⟨hb, hx⟩
        · refine p_settle 24 hb (by kernel_rfl) (by kernel_rfl) ?_
          subst hx
          exact f_end (by kernel_rfl) (by kernel_rfl)
        · refine p_settle 24 hb (by kernel_rfl) (by kernel_rfl) ?_
          subst hx
          exact f_end (by kernel_rfl) (by kernel_rfl)
      · refine p_run 1 (by kernel_rfl) ?_
        refine e_segb 6 37 (((((!(decide (a0.Name = a1.Name))) || (!(decide (a0.Entry = a1.Entry)))) || (!(decide (a0.Exit = a1.Exit)))) || (!(decide (a0.Approach = a1.Approach)))) || (!(decide (a0.Length = a1.Length)))) (fun x hx => ?_) ?_
        · rcases b_or hx with ⟨hb, hx⟩ | ⟨hb, hx⟩
          · refine p_settle 31 hb (by kernel_rfl) (by kernel_rfl) ?_
            subst hx
            exact f_end (by kernel_rfl) (by kernel_rfl)
          · refine p_settle 31 hb (by kernel_rfl) (by kernel_rfl) ?_
            subst hx
            exact f_end (by kernel_rfl) (by kernel_rfl)
        · refine e_nil (by kernel_rfl) ?_
          refine q_next ?_
          rcases o_cond h with ⟨hb, h⟩ | ⟨hb, h⟩
          · refine r_cond_t hb (by kernel_rfl) ?_
            refine pwp_seq ?_
            refine r_reg ?_
            refine e_end (by kernel_rfl) ?_
            refine q_next ?_
            refine pwp_ret ?_
            refine q_seq_ret ?_
            cases h
            exact q_ret (by kernel_rfl) (by kernel_rfl) (by kernel_rfl)
          · refine r_cond_f hb (by kernel_rfl) ?_
            refine pwp_skip ?_
            refine q_next ?_
            refine pwp_seq ?_
            refine pwp_seq ?_
            refine r_reg ?_
            refine p_run 4 (by kernel_rfl) ?_
            obtain ⟨r1, h1, h⟩ := o_bind h
            refine p_call (d_ref12_SameSteps_ok _ _ r1 h1) (by kernel_rfl) (by kernel_rfl) ?_
            obtain ⟨b2, h2, h⟩ := o_bind h
            refine p_run 2 (by kernel_rfl) ?_
            refine e_seg 7 51 (.bool b2) ?_ ?_
            · rcases o_cond h2 with ⟨hb, h2⟩ | ⟨hb, h2⟩
              · refine p_settle 44 hb (by kernel_rfl) (by kernel_rfl) ?_
                cases h2
                exact f_end (by kernel_rfl) (by kernel_rfl)
              · refine p_settle 44 hb (by kernel_rfl) (by kernel_rfl) ?_
                refine p_run 4 (by kernel_rfl) ?_
                obtain ⟨r3, h3, h2⟩ := o_bind h2
                refine p_call (d_ref12_SameSettings_ok _ _ r3 h3) (by kernel_rfl) (by kernel_rfl) ?_
                cases h2
                exact f_end (by kernel_rfl) (by kernel_rfl)
            · obtain ⟨b4, h4, h⟩ := o_bind h
              refine p_run 1 (by kernel_rfl) ?_
              refine e_seg 7 59 (.bool b4) ?_ ?_
              · rcases o_cond h4 with ⟨hb, h4⟩ | ⟨hb, h4⟩
                · refine p_settle 52 hb (by kernel_rfl) (by kernel_rfl) ?_
                  cases h4
                  exact f_end (by kernel_rfl) (by kernel_rfl)
                · refine p_settle 52 hb (by kernel_rfl) (by kernel_rfl) ?_
                  refine p_run 4 (by kernel_rfl) ?_
                  obtain ⟨r5, h5, h4⟩ := o_bind h4
                  refine p_call (d_ref12_SameInts_ok _ _ r5 h5) (by kernel_rfl) (by kernel_rfl) ?_
                  cases h4
                  exact f_end (by kernel_rfl) (by kernel_rfl)
              · refine e_nil (by kernel_rfl) ?_
                refine q_next ?_
                rcases o_cond h with ⟨hb, h⟩ | ⟨hb, h⟩
                · refine r_cond_t hb (by kernel_rfl) ?_
                  refine pwp_seq ?_
                  refine r_reg ?_
                  refine e_end (by kernel_rfl) ?_
                  refine q_next ?_
                  refine pwp_ret ?_
                  refine q_seq_ret ?_
                  cases h
                  exact q_ret (by kernel_rfl) (by kernel_rfl) (by kernel_rfl)
                · refine r_cond_f hb (by kernel_rfl) ?_
                  refine pwp_skip ?_
                  refine q_next ?_
                  refine pwp_seq ?_
                  refine r_reg ?_
                  refine p_run 4 (by kernel_rfl) ?_
                  obtain ⟨r6, h6, h⟩ := o_bind h
                  refine p_call (d_ref12_SameSteps_ok _ _ r6 h6) (by kernel_rfl) (by kernel_rfl) ?_
                  obtain ⟨b7, h7, h⟩ := o_bind h
                  refine p_run 1 (by kernel_rfl) ?_
                  refine e_seg 6 71 (.bool b7) ?_ ?_
                  · rcases o_cond h7 with ⟨hb, h7⟩ | ⟨hb, h7⟩
                    · refine p_settle 65 hb (by kernel_rfl) (by kernel_rfl) ?_
                      refine p_run 4 (by kernel_rfl) ?_
                      obtain ⟨r8, h8, h7⟩ := o_bind h7
                      refine p_call (d_ref12_SameSettings_ok _ _ r8 h8) (by kernel_rfl) (by kernel_rfl) ?_
                      cases h7
                      exact f_end (by kernel_rfl) (by kernel_rfl)
                    · refine p_settle 65 hb (by kernel_rfl) (by kernel_rfl) ?_
                      cases h7
                      exact f_end (by kernel_rfl) (by kernel_rfl)
                  · obtain ⟨b9, h9, h⟩ := o_bind h
                    refine p_run 1 (by kernel_rfl) ?_
                    refine e_seg 6 78 (.bool b9) ?_ ?_
                    · rcases o_cond h9 with ⟨hb, h9⟩ | ⟨hb, h9⟩
                      · refine p_settle 72 hb (by kernel_rfl) (by kernel_rfl) ?_
                        refine p_run 4 (by kernel_rfl) ?_
                        obtain ⟨r10, h10, h9⟩ := o_bind h9
                        refine p_call (d_ref12_SameInts_ok _ _ r10 h10) (by kernel_rfl) (by kernel_rfl) ?_
                        cases h9
                        exact f_end (by kernel_rfl) (by kernel_rfl)
                      · refine p_settle 72 hb (by kernel_rfl) (by kernel_rfl) ?_
                        cases h9
                        exact f_end (by kernel_rfl) (by kernel_rfl)
                    · obtain ⟨b11, h11, h⟩ := o_bind h
                      refine p_run 1 (by kernel_rfl) ?_
                      refine e_seg 6 85 (.bool b11) ?_ ?_
                      · rcases o_cond h11 with ⟨hb, h11⟩ | ⟨hb, h11⟩
                        · refine p_settle 79 hb (by kernel_rfl) (by kernel_rfl) ?_
                          refine p_run 4 (by kernel_rfl) ?_
                          obtain ⟨r12, h12, h11⟩ := o_bind h11
                          refine p_call (d_ref12_SameSettings_ok _ _ r12 h12) (by kernel_rfl) (by kernel_rfl) ?_
                          cases h11
                          exact f_end (by kernel_rfl) (by kernel_rfl)
                        · refine p_settle 79 hb (by kernel_rfl) (by kernel_rfl) ?_
                          cases h11
                          exact f_end (by kernel_rfl) (by kernel_rfl)
                      · obtain ⟨b13, h13, h⟩ := o_bind h
                        refine p_run 1 (by kernel_rfl) ?_
                        refine e_seg 6 92 (.bool b13) ?_ ?_
                        · rcases o_cond h13 with ⟨hb, h13⟩ | ⟨hb, h13⟩
                          · refine p_settle 86 hb (by kernel_rfl) (by kernel_rfl) ?_
                            refine p_run 4 (by kernel_rfl) ?_
                            obtain ⟨r14, h14, h13⟩ := o_bind h13
                            refine p_call (d_ref12_SameInts_ok _ _ r14 h14) (by kernel_rfl) (by kernel_rfl) ?_
                            cases h13
                            exact f_end (by kernel_rfl) (by kernel_rfl)
                          · refine p_settle 86 hb (by kernel_rfl) (by kernel_rfl) ?_
                            cases h13
                            exact f_end (by kernel_rfl) (by kernel_rfl)
                        · obtain ⟨b15, h15, h⟩ := o_bind h
                          refine p_run 1 (by kernel_rfl) ?_
                          refine e_seg 6 99 (.bool b15) ?_ ?_
                          · rcases o_cond h15 with ⟨hb, h15⟩ | ⟨hb, h15⟩
                            · refine p_settle 93 hb (by kernel_rfl) (by kernel_rfl) ?_
                              refine p_run 4 (by kernel_rfl) ?_
                              obtain ⟨r16, h16, h15⟩ := o_bind h15
                              refine p_call (d_ref12_sameEnds_ok _ _ r16 h16) (by kernel_rfl) (by kernel_rfl) ?_
                              cases h15
                              exact f_end (by kernel_rfl) (by kernel_rfl)
                            · refine p_settle 93 hb (by kernel_rfl) (by kernel_rfl) ?_
                              cases h15
                              exact f_end (by kernel_rfl) (by kernel_rfl)
                          · refine e_end (by kernel_rfl) ?_
                            refine q_next ?_
                            refine pwp_ret ?_
                            cases h
                            exact q_ret (by kernel_rfl) (by kernel_rfl) (by kernel_rfl)

/-! signallinglaw14.FlankLists -/
noncomputable def d_law14_FlankLists_0 (a0 : T_api_Layout) (r3 : T_api_Route) : Int → Option (Int ⊕ (Unit ⊕ Bool)) := fun x11 =>
  bif decide (x11 < ((r3.Flank.length : Nat) : Int)) then (
    (ixO r3.Flank x11).bind fun x19 =>
    ((bif decide (x19.El < 0) then some true else (
      some (decide (((a0.Elements.length : Nat) : Int) ≤ x19.El))
    )) : Option Bool).bind fun b20 =>
    ((bif b20 then some true else (
      (ixO a0.Elements x19.El).bind fun x22 =>
      some (!(decide (x22.Kind = 2)))
    )) : Option Bool).bind fun b21 =>
    ((bif (b21 || ((!(decide (x19.Pos = 1))) && (!(decide (x19.Pos = 2))))) then some true else (
      ((bif decide (0 < x11) then (
        (ixO r3.Flank (w64 (x11 - 1))).bind fun x25 =>
        some (decide (x19.El ≤ x25.El))
      ) else some false) : Option Bool).bind fun b24 =>
      some b24
    )) : Option Bool).bind fun b23 =>
    bif b23 then (
      some (.inr (.inr false))
    ) else (
      some (.inl (w64 (x11 + 1)))
    )
  ) else (
    some (.inr (.inl ()))
  )

noncomputable def d_law14_FlankLists_1 (a0 : T_api_Layout) (r3 : T_api_Route) : Int → Option (Int ⊕ (Unit ⊕ Bool)) := fun x33 =>
  bif decide (x33 < ((r3.Guards.length : Nat) : Int)) then (
    (ixO r3.Guards x33).bind fun x41 =>
    ((bif decide (x41 < 0) then some true else (
      (ixO r3.Guards x33).bind fun x43 =>
      some (decide (((a0.Signals.length : Nat) : Int) ≤ x43))
    )) : Option Bool).bind fun b42 =>
    ((bif b42 then some true else (
      ((bif decide (0 < x33) then (
        (ixO r3.Guards (w64 (x33 - 1))).bind fun x46 =>
        (ixO r3.Guards x33).bind fun x47 =>
        some (decide (x47 ≤ x46))
      ) else some false) : Option Bool).bind fun b45 =>
      some b45
    )) : Option Bool).bind fun b44 =>
    bif b44 then (
      some (.inr (.inr false))
    ) else (
      some (.inl (w64 (x33 + 1)))
    )
  ) else (
    some (.inr (.inl ()))
  )

noncomputable def d_law14_FlankLists_2 (r3 : T_api_Route) (r48 : (List T_api_End)) : Int → Option (Int ⊕ (Unit ⊕ Bool)) := fun x51 =>
  bif decide (x51 < ((r3.Gaps.length : Nat) : Int)) then (
    (ixO r3.Gaps x51).bind fun x54 =>
    (d_ref14_HasEnd r48 x54).bind fun r55 =>
    bif (!r55) then (
      some (.inr (.inr false))
    ) else (
      some (.inl (w64 (x51 + 1)))
    )
  ) else (
    some (.inr (.inl ()))
  )

noncomputable def d_law14_FlankLists (a0 : T_api_Layout) (a1 : T_api_Route) : Option Bool :=
  (d_law14_few a0 a1).bind fun r1 =>
  bif (!r1) then (
    (d_law14_alive ).bind fun r2 =>
    some r2
  ) else (
    (d_flank_Find a0 a1).bind fun r3 =>
    onInl (α := Unit) (β := Bool) (loopO (d_law14_FlankLists_0 a0 r3) 0) fun _ =>
    onInl (α := Unit) (β := Bool) (loopO (d_law14_FlankLists_1 a0 r3) 0) fun _ =>
    (d_ref14_Sides a0 a1).bind fun r48 =>
    onInl (α := Unit) (β := Bool) (loopO (d_law14_FlankLists_2 r3 r48) 0) fun _ =>
    (d_flank_Protected r3).bind fun r56 =>
    ((bif (!(r56 == (decide (((r3.Gaps.length : Nat) : Int) = 0)))) then some true else (
      (d_flank_Find a0 r3).bind fun r58 =>
      (d_ref12_Same r58 r3).bind fun r59 =>
      some (!r59)
    )) : Option Bool).bind fun b57 =>
    bif b57 then (
      some false
    ) else (
      (d_ref12_Same (T_api_Route.mk r3.Name r3.Entry r3.Exit r3.Path r3.Points r3.Sections r3.Approach r3.Length r3.Over r3.OverPoints r3.OverSections a1.Flank a1.Guards a1.Gaps) a1).bind fun r60 =>
      ((bif r60 then (
        (d_law14_alive ).bind fun r62 =>
        some r62
      ) else some false) : Option Bool).bind fun b61 =>
      some b61
    )
  )
theorem d_law14_FlankLists_ok (a0 : T_api_Layout) (a1 : T_api_Route) (r : Bool) (h : d_law14_FlankLists a0 a1 = some r) : PCall Go.Proofs.Tryd.prog GlS 5 [Enc.pv a0, Enc.pv a1] (Enc.pv r) := by
  unfold d_law14_FlankLists at h
  refine pcall_of_pwp Go.Proofs.Tryd.func5 (by rfl) rfl Go.Proofs.Tryd.ntmps5 (by rfl) rfl ?_
  refine pwp_seq ?_
  refine r_reg ?_
  refine e_end (by kernel_rfl) ?_
  refine q_next ?_
  refine pwp_seq ?_
  refine pwp_seq ?_
  refine r_reg ?_
  refine p_run 2 (by kernel_rfl) ?_
  obtain ⟨r1, h1, h⟩ := o_bind h
  refine p_call (d_law14_few_ok _ _ r1 h1) (by kernel_rfl) (by kernel_rfl) ?_
  refine e_end (by kernel_rfl) ?_
  refine q_next ?_
  rcases o_cond h with ⟨hb, h⟩ | ⟨hb, h⟩
  · refine r_cond_t hb (by kernel_rfl) ?_
    refine pwp_seq ?_
    refine r_reg ?_
    obtain ⟨r2, h2, h⟩ := o_bind h
    refine p_call (d_law14_alive_ok  r2 h2) (by kernel_rfl) (by kernel_rfl) ?_
    refine e_end (by kernel_rfl) ?_
    refine q_next ?_
    refine pwp_ret ?_
    refine q_seq_ret ?_
    cases h
    exact q_ret (by kernel_rfl) (by kernel_rfl) (by kernel_rfl)
  · refine r_cond_f hb (by kernel_rfl) ?_
    refine pwp_skip ?_
    refine q_next ?_
    refine pwp_seq ?_
    refine r_reg ?_
    refine p_run 2 (by kernel_rfl) ?_
    obtain ⟨r3, h3, h⟩ := o_bind h
    refine p_call (d_flank_Find_ok _ _ r3 h3) (by kernel_rfl) (by kernel_rfl) ?_
    refine e_end (by kernel_rfl) ?_
    refine q_next ?_
    refine pwp_seq ?_
    refine pwp_seq ?_
    refine r_reg ?_
    refine e_end (by kernel_rfl) ?_
    refine q_next ?_
    refine pwp_block ?_
    obtain ⟨o21, h21, h⟩ := o_inl h
    refine r_loop2 168 0 (fun x11 => ⟨[(2, .ref 2 0), (3, .ref 3 0), (5, .ref 5 0), (6, .int .i64 x11)], [(2, .cells (cellsOf a0)), (3, .cells (cellsOf a1)), (5, .cells (cellsOf r3))], [], []⟩) (fun (_ : Unit) => ⟨[(2, .ref 2 0), (3, .ref 3 0), (5, .ref 5 0)], [(2, .cells (cellsOf a0)), (3, .cells (cellsOf a1)), (5, .cells (cellsOf r3))], [], []⟩) h21 (by kernel_rfl) (fun _ => by kernel_rfl) ?_ ?_
    · rintro x11 oh20 h20
      unfold d_law14_FlankLists_0 at h20
      refine pwp_seq ?_
      refine pwp_seq ?_
      refine r_reg ?_
      refine p_run 3 (by kernel_rfl) ?_
      refine p_len (L := (r3.Flank : (List T_api_Setting))) (by kernel_rfl) ?_
      refine e_end (by kernel_rfl) ?_
      refine q_next ?_
      rcases o_cond h20 with ⟨hb, h20⟩ | ⟨hb, h20⟩
      · refine r_cond_t hb (by kernel_rfl) ?_
        refine pwp_skip ?_
        refine q_next ?_
        refine pwp_seq ?_
        refine pwp_block ?_
        refine pwp_seq ?_
        refine r_reg ?_
        refine p_run 3 (by kernel_rfl) ?_
        obtain ⟨x19, h22, h20⟩ := o_bind h20
        refine p_ix h22 (by kernel_rfl) ?_
        refine e_end (by kernel_rfl) ?_
        refine q_next ?_
        refine pwp_seq ?_
        refine r_regd (by kernel_rfl) (by kernel_rfl) ?_
        obtain ⟨b20, h23, h20⟩ := o_bind h20
        refine p_run 4 (by kernel_rfl) ?_
        refine e_seg 7 41 (.bool b20) ?_ ?_
        · rcases o_cond h23 with ⟨hb, h23⟩ | ⟨hb, h23⟩
          · refine p_settle 34 hb (by kernel_rfl) (by kernel_rfl) ?_
            cases h23
            exact f_end (by kernel_rfl) (by kernel_rfl)
          · refine p_settle 34 hb (by kernel_rfl) (by kernel_rfl) ?_
            refine p_run 4 (by kernel_rfl) ?_
            refine p_len (L := (a0.Elements : (List T_api_Element))) (by kernel_rfl) ?_
            cases h23
            exact f_end (by kernel_rfl) (by kernel_rfl)
        · obtain ⟨b21, h24, h20⟩ := o_bind h20
          refine p_run 1 (by kernel_rfl) ?_
          refine e_seg 9 51 (.bool b21) ?_ ?_
          · rcases o_cond h24 with ⟨hb, h24⟩ | ⟨hb, h24⟩
            · refine p_settle 42 hb (by kernel_rfl) (by kernel_rfl) ?_
              cases h24
              exact f_end (by kernel_rfl) (by kernel_rfl)
            · refine p_settle 42 hb (by kernel_rfl) (by kernel_rfl) ?_
              refine p_run 4 (by kernel_rfl) ?_
              obtain ⟨x22, h25, h24⟩ := o_bind h24
              refine p_ix h25 (by kernel_rfl) ?_
              cases h24
              exact f_end (by kernel_rfl) (by kernel_rfl)
          · refine p_run 1 (by kernel_rfl) ?_
            refine e_segb 9 61 (b21 || ((!(decide (x19.Pos = 1))) && (!(decide (x19.Pos = 2))))) (fun x hx => ?_) ?_
            · rcases b_or hx with ⟨hb, hx⟩ | ⟨hb, hx⟩
              · refine p_settle 52 hb (by kernel_rfl) (by kernel_rfl) ?_
                subst hx
                exact f_end (by kernel_rfl) (by kernel_rfl)
              · refine p_settle 52 hb (by kernel_rfl) (by kernel_rfl) ?_
                refine p_run 4 (by kernel_rfl) ?_
                refine f_segb 4 60 ((!(decide (x19.Pos = 1))) && (!(decide (x19.Pos = 2)))) (fun x hx => ?_) ?_
                · rcases b_and hx with ⟨hb, hx⟩ | ⟨hb, hx⟩
                  · refine p_settle 56 hb (by kernel_rfl) (by kernel_rfl) ?_
                    subst hx
                    exact f_end (by kernel_rfl) (by kernel_rfl)
                  · refine p_settle 56 hb (by kernel_rfl) (by kernel_rfl) ?_
                    subst hx
                    exact f_end (by kernel_rfl) (by kernel_rfl)
                · subst hx
                  exact f_end (by kernel_rfl) (by kernel_rfl)
            · obtain ⟨b23, h26, h20⟩ := o_bind h20
              refine p_run 1 (by kernel_rfl) ?_
              refine e_seg 15 77 (.bool b23) ?_ ?_
              · rcases o_cond h26 with ⟨hb, h26⟩ | ⟨hb, h26⟩
                · refine p_settle 62 hb (by kernel_rfl) (by kernel_rfl) ?_
                  cases h26
                  exact f_end (by kernel_rfl) (by kernel_rfl)
                · refine p_settle 62 hb (by kernel_rfl) (by kernel_rfl) ?_
                  obtain ⟨b24, h27, h26⟩ := o_bind h26
                  refine p_run 3 (by kernel_rfl) ?_
                  refine f_seg 11 76 (.bool b24) ?_ ?_
                  · rcases o_cond h27 with ⟨hb, h27⟩ | ⟨hb, h27⟩
                    · refine p_settle 65 hb (by kernel_rfl) (by kernel_rfl) ?_
                      refine p_run 4 (by kernel_rfl) ?_
                      obtain ⟨x25, h28, h27⟩ := o_bind h27
                      refine p_ix h28 (by kernel_rfl) ?_
                      cases h27
                      exact f_end (by kernel_rfl) (by kernel_rfl)
                    · refine p_settle 65 hb (by kernel_rfl) (by kernel_rfl) ?_
                      cases h27
                      exact f_end (by kernel_rfl) (by kernel_rfl)
                  · cases h26
                    exact f_end (by kernel_rfl) (by kernel_rfl)
              · refine e_nil (by kernel_rfl) ?_
                refine q_next ?_
                rcases o_cond h20 with ⟨hb, h20⟩ | ⟨hb, h20⟩
                · refine r_cond_t hb (by kernel_rfl) ?_
                  refine pwp_seq ?_
                  refine r_reg ?_
                  refine e_end (by kernel_rfl) ?_
                  refine q_next ?_
                  refine pwp_ret ?_
                  refine q_block_ret ?_
                  refine q_seq_ret ?_
                  cases h20
                  refine q_lout_ret fun he => ?_
                  subst he
                  have h29 := o_outr h
                  refine q_block_ret ?_
                  refine q_seq_ret ?_
                  cases h29
                  exact q_ret (by kernel_rfl) (by kernel_rfl) (by kernel_rfl)
                · refine r_cond_f hb (by kernel_rfl) ?_
                  refine pwp_skip ?_
                  refine q_block ?_
                  refine q_next ?_
                  refine r_reg ?_
                  refine e_end (by kernel_rfl) ?_
                  cases h20
                  exact q_lback (by kernel_rfl)
      · refine r_cond_f hb (by kernel_rfl) ?_
        refine pwp_exit ?_
        refine q_seq_exit ?_
        cases h20
        exact q_lexit (by kernel_rfl) (by kernel_rfl)
    · rintro _ s' rfl hs
      have h := o_outl h
      refine q_block_hit ?_
      refine q_next (pwp_wkr hs ?_)
      refine pwp_seq ?_
      refine pwp_seq ?_
      refine r_reg ?_
      refine e_end (by kernel_rfl) ?_
      refine q_next ?_
      refine pwp_block ?_
      obtain ⟨o47, h47, h⟩ := o_inl h
      refine r_loop2 168 2 (fun x33 => ⟨[(2, .ref 2 0), (3, .ref 3 0), (5, .ref 5 0), (8, .int .i64 x33)], [(2, .cells (cellsOf a0)), (3, .cells (cellsOf a1)), (5, .cells (cellsOf r3))], [], []⟩) (fun (_ : Unit) => ⟨[(2, .ref 2 0), (3, .ref 3 0), (5, .ref 5 0)], [(2, .cells (cellsOf a0)), (3, .cells (cellsOf a1)), (5, .cells (cellsOf r3))], [], []⟩) h47 (by kernel_rfl) (fun _ => by kernel_rfl) ?_ ?_
      · rintro x33 oh46 h46
        unfold d_law14_FlankLists_1 at h46
        refine pwp_seq ?_
        refine pwp_seq ?_
        refine r_reg ?_
        refine p_run 3 (by kernel_rfl) ?_
        refine p_len (L := (r3.Guards : (List Int))) (by kernel_rfl) ?_
        refine e_end (by kernel_rfl) ?_
        refine q_next ?_
        rcases o_cond h46 with ⟨hb, h46⟩ | ⟨hb, h46⟩
        · refine r_cond_t hb (by kernel_rfl) ?_
          refine pwp_skip ?_
          refine q_next ?_
          refine pwp_seq ?_
          refine pwp_block ?_
          refine pwp_seq ?_
          refine r_regd (by kernel_rfl) (by kernel_rfl) ?_
          refine p_run 3 (by kernel_rfl) ?_
          obtain ⟨x41, h48, h46⟩ := o_bind h46
          refine p_ix h48 (by kernel_rfl) ?_
          obtain ⟨b42, h49, h46⟩ := o_bind h46
          refine p_run 3 (by kernel_rfl) ?_
          refine e_seg 10 101 (.bool b42) ?_ ?_
          · rcases o_cond h49 with ⟨hb, h49⟩ | ⟨hb, h49⟩
            · refine p_settle 91 hb (by kernel_rfl) (by kernel_rfl) ?_
              cases h49
              exact f_end (by kernel_rfl) (by kernel_rfl)
            · refine p_settle 91 hb (by kernel_rfl) (by kernel_rfl) ?_
              refine p_run 3 (by kernel_rfl) ?_
              obtain ⟨x43, h50, h49⟩ := o_bind h49
              refine p_ix h50 (by kernel_rfl) ?_
              refine p_run 3 (by kernel_rfl) ?_
              refine p_len (L := (a0.Signals : (List T_api_Signal))) (by kernel_rfl) ?_
              cases h49
              exact f_end (by kernel_rfl) (by kernel_rfl)
          · obtain ⟨b44, h51, h46⟩ := o_bind h46
            refine p_run 1 (by kernel_rfl) ?_
            refine e_seg 17 119 (.bool b44) ?_ ?_
            · rcases o_cond h51 with ⟨hb, h51⟩ | ⟨hb, h51⟩
              · refine p_settle 102 hb (by kernel_rfl) (by kernel_rfl) ?_
                cases h51
                exact f_end (by kernel_rfl) (by kernel_rfl)
              · refine p_settle 102 hb (by kernel_rfl) (by kernel_rfl) ?_
                obtain ⟨b45, h52, h51⟩ := o_bind h51
                refine p_run 3 (by kernel_rfl) ?_
                refine f_seg 13 118 (.bool b45) ?_ ?_
                · rcases o_cond h52 with ⟨hb, h52⟩ | ⟨hb, h52⟩
                  · refine p_settle 105 hb (by kernel_rfl) (by kernel_rfl) ?_
                    refine p_run 4 (by kernel_rfl) ?_
                    obtain ⟨x46, h53, h52⟩ := o_bind h52
                    refine p_ix h53 (by kernel_rfl) ?_
                    refine p_run 4 (by kernel_rfl) ?_
                    obtain ⟨x47, h54, h52⟩ := o_bind h52
                    refine p_ix h54 (by kernel_rfl) ?_
                    cases h52
                    exact f_end (by kernel_rfl) (by kernel_rfl)
                  · refine p_settle 105 hb (by kernel_rfl) (by kernel_rfl) ?_
                    cases h52
                    exact f_end (by kernel_rfl) (by kernel_rfl)
                · cases h51
                  exact f_end (by kernel_rfl) (by kernel_rfl)
            · refine e_nil (by kernel_rfl) ?_
              refine q_next ?_
              rcases o_cond h46 with ⟨hb, h46⟩ | ⟨hb, h46⟩
              · refine r_cond_t hb (by kernel_rfl) ?_
                refine pwp_seq ?_
                refine r_reg ?_
                refine e_end (by kernel_rfl) ?_
                refine q_next ?_
                refine pwp_ret ?_
                refine q_block_ret ?_
                refine q_seq_ret ?_
                cases h46
                refine q_lout_ret fun he => ?_
                subst he
                have h55 := o_outr h
                refine q_block_ret ?_
                refine q_seq_ret ?_
                cases h55
                exact q_ret (by kernel_rfl) (by kernel_rfl) (by kernel_rfl)
              · refine r_cond_f hb (by kernel_rfl) ?_
                refine pwp_skip ?_
                refine q_block ?_
                refine q_next ?_
                refine r_reg ?_
                refine e_end (by kernel_rfl) ?_
                cases h46
                exact q_lback (by kernel_rfl)
        · refine r_cond_f hb (by kernel_rfl) ?_
          refine pwp_exit ?_
          refine q_seq_exit ?_
          cases h46
          exact q_lexit (by kernel_rfl) (by kernel_rfl)
      · rintro _ s' rfl hs
        have h := o_outl h
        refine q_block_hit ?_
        refine q_next (pwp_wkr hs ?_)
        refine pwp_seq ?_
        refine r_reg ?_
        refine p_run 2 (by kernel_rfl) ?_
        obtain ⟨r48, h56, h⟩ := o_bind h
        refine p_call (d_ref14_Sides_ok _ _ r48 h56) (by kernel_rfl) (by kernel_rfl) ?_
        refine e_end (by kernel_rfl) ?_
        refine q_next ?_
        refine pwp_seq ?_
        refine pwp_seq ?_
        refine r_reg ?_
        refine e_end (by kernel_rfl) ?_
        refine q_next ?_
        refine pwp_block ?_
        obtain ⟨o64, h64, h⟩ := o_inl h
        refine r_loop2 168 4 (fun x51 => ⟨[(2, .ref 2 0), (3, .ref 3 0), (5, .ref 5 0), (9, lstOf (.own 222005) (r48 : (List T_api_End))), (10, .int .i64 x51)], [(2, .cells (cellsOf a0)), (3, .cells (cellsOf a1)), (5, .cells (cellsOf r3))], [(222005, (((r48).map cellsOf).length, 2))], []⟩) (fun (_ : Unit) => ⟨[(2, .ref 2 0), (3, .ref 3 0), (5, .ref 5 0)], [(2, .cells (cellsOf a0)), (3, .cells (cellsOf a1)), (5, .cells (cellsOf r3))], [], []⟩) h64 (by kernel_rfl) (fun _ => by kernel_rfl) ?_ ?_
        · rintro x51 oh63 h63
          unfold d_law14_FlankLists_2 at h63
          refine pwp_seq ?_
          refine pwp_seq ?_
          refine r_reg ?_
          refine p_run 3 (by kernel_rfl) ?_
          refine p_len (L := (r3.Gaps : (List T_api_End))) (by kernel_rfl) ?_
          refine e_end (by kernel_rfl) ?_
          refine q_next ?_
          rcases o_cond h63 with ⟨hb, h63⟩ | ⟨hb, h63⟩
          · refine r_cond_t hb (by kernel_rfl) ?_
            refine pwp_skip ?_
            refine q_next ?_
            refine pwp_seq ?_
            refine pwp_block ?_
            refine pwp_seq ?_
            refine r_reg ?_
            refine p_run 4 (by kernel_rfl) ?_
            obtain ⟨x54, h65, h63⟩ := o_bind h63
            refine p_ix h65 (by kernel_rfl) ?_
            refine p_run 1 (by kernel_rfl) ?_
            obtain ⟨r55, h66, h63⟩ := o_bind h63
            refine p_call (d_ref14_HasEnd_ok _ _ r55 h66) (by kernel_rfl) (by kernel_rfl) ?_
            refine e_end (by kernel_rfl) ?_
            refine q_next ?_
            rcases o_cond h63 with ⟨hb, h63⟩ | ⟨hb, h63⟩
            · refine r_cond_t hb (by kernel_rfl) ?_
              refine pwp_seq ?_
              refine r_reg ?_
              refine e_end (by kernel_rfl) ?_
              refine q_next ?_
              refine pwp_ret ?_
              refine q_block_ret ?_
              refine q_seq_ret ?_
              cases h63
              refine q_lout_ret fun he => ?_
              subst he
              have h67 := o_outr h
              refine q_block_ret ?_
              refine q_seq_ret ?_
              cases h67
              exact q_ret (by kernel_rfl) (by kernel_rfl) (by kernel_rfl)
            · refine r_cond_f hb (by kernel_rfl) ?_
              refine pwp_skip ?_
              refine q_block ?_
              refine q_next ?_
              refine r_reg ?_
              refine e_end (by kernel_rfl) ?_
              cases h63
              exact q_lback (by kernel_rfl)
          · refine r_cond_f hb (by kernel_rfl) ?_
            refine pwp_exit ?_
            refine q_seq_exit ?_
            cases h63
            exact q_lexit (by kernel_rfl) (by kernel_rfl)
        · rintro _ s' rfl hs
          have h := o_outl h
          refine q_block_hit ?_
          refine q_next (pwp_wkr hs ?_)
          refine pwp_seq ?_
          refine pwp_seq ?_
          refine r_regd (by kernel_rfl) (by kernel_rfl) ?_
          refine p_run 1 (by kernel_rfl) ?_
          obtain ⟨r56, h68, h⟩ := o_bind h
          refine p_call (d_flank_Protected_ok _ r56 h68) (by kernel_rfl) (by kernel_rfl) ?_
          refine p_run 2 (by kernel_rfl) ?_
          refine p_len (L := (r3.Gaps : (List T_api_End))) (by kernel_rfl) ?_
          obtain ⟨b57, h69, h⟩ := o_bind h
          refine p_run 3 (by kernel_rfl) ?_
          refine e_seg 7 152 (.bool b57) ?_ ?_
          · rcases o_cond h69 with ⟨hb, h69⟩ | ⟨hb, h69⟩
            · refine p_settle 145 hb (by kernel_rfl) (by kernel_rfl) ?_
              cases h69
              exact f_end (by kernel_rfl) (by kernel_rfl)
            · refine p_settle 145 hb (by kernel_rfl) (by kernel_rfl) ?_
              refine p_run 2 (by kernel_rfl) ?_
              obtain ⟨r58, h70, h69⟩ := o_bind h69
              refine p_call (d_flank_Find_ok _ _ r58 h70) (by kernel_rfl) (by kernel_rfl) ?_
              refine p_run 1 (by kernel_rfl) ?_
              obtain ⟨r59, h71, h69⟩ := o_bind h69
              refine p_call (d_ref12_Same_ok _ _ r59 h71) (by kernel_rfl) (by kernel_rfl) ?_
              cases h69
              exact f_end (by kernel_rfl) (by kernel_rfl)
          · refine e_nil (by kernel_rfl) ?_
            refine q_next ?_
            rcases o_cond h with ⟨hb, h⟩ | ⟨hb, h⟩
            · refine r_cond_t hb (by kernel_rfl) ?_
              refine pwp_seq ?_
              refine r_reg ?_
              refine e_end (by kernel_rfl) ?_
              refine q_next ?_
              refine pwp_ret ?_
              refine q_seq_ret ?_
              cases h
              exact q_ret (by kernel_rfl) (by kernel_rfl) (by kernel_rfl)
            · refine r_cond_f hb (by kernel_rfl) ?_
              refine pwp_skip ?_
              refine q_next ?_
              refine pwp_seq ?_
              refine r_reg ?_
              refine e_end (by kernel_rfl) ?_
              refine q_next ?_
              refine pwp_seq ?_
              refine r_reg ?_
              refine e_end (by kernel_rfl) ?_
              refine q_next ?_
              refine pwp_seq ?_
              refine r_reg ?_
              refine e_end (by kernel_rfl) ?_
              refine q_next ?_
              refine pwp_seq ?_
              refine r_reg ?_
              refine p_run 2 (by kernel_rfl) ?_
              obtain ⟨r60, h72, h⟩ := o_bind h
              refine p_call (d_ref12_Same_ok _ _ r60 h72) (by kernel_rfl) (by kernel_rfl) ?_
              obtain ⟨b61, h73, h⟩ := o_bind h
              refine p_run 1 (by kernel_rfl) ?_
              refine e_seg 2 167 (.bool b61) ?_ ?_
              · rcases o_cond h73 with ⟨hb, h73⟩ | ⟨hb, h73⟩
                · refine p_settle 165 hb (by kernel_rfl) (by kernel_rfl) ?_
                  obtain ⟨r62, h74, h73⟩ := o_bind h73
                  refine p_call (d_law14_alive_ok  r62 h74) (by kernel_rfl) (by kernel_rfl) ?_
                  cases h73
                  exact f_end (by kernel_rfl) (by kernel_rfl)
                · refine p_settle 165 hb (by kernel_rfl) (by kernel_rfl) ?_
                  cases h73
                  exact f_end (by kernel_rfl) (by kernel_rfl)
              · refine e_end (by kernel_rfl) ?_
                refine q_next ?_
                refine pwp_ret ?_
                cases h
                exact q_ret (by kernel_rfl) (by kernel_rfl) (by kernel_rfl)

/-! signallingref09.insert -/
noncomputable def d_ref09_insert_0 (a0 : (List T_api_Setting)) (a1 : T_api_Setting) : (Int × (List T_api_Setting)) → Option ((Int × (List T_api_Setting)) ⊕ (((List T_api_Setting) × Int) ⊕ (List T_api_Setting))) := fun (x18, x19) =>
  ((bif decide (x18 < ((a0.length : Nat) : Int)) then (
    (ixO a0 x18).bind fun x31 =>
    ((bif decide (x31.El < a1.El) then some true else (
      (ixO a0 x18).bind fun x33 =>
      ((bif decide (x33.El = a1.El) then (
        (ixO a0 x18).bind fun x35 =>
        some (decide (x35.Pos < a1.Pos))
      ) else some false) : Option Bool).bind fun b34 =>
      some b34
    )) : Option Bool).bind fun b32 =>
    some b32
  ) else some false) : Option Bool).bind fun b30 =>
  bif b30 then (
    (ixO a0 x18).bind fun x36 =>
    (appO x19 [x36]).bind fun x37 =>
    some (.inl (w64 (x18 + 1), x37))
  ) else (
    some (.inr (.inl (x19, x18)))
  )

noncomputable def d_ref09_insert (a0 : (List T_api_Setting)) (a1 : T_api_Setting) : Option (List T_api_Setting) :=
  onInl (α := ((List T_api_Setting) × Int)) (β := (List T_api_Setting)) (loopO (d_ref09_insert_0 a0 a1) (0, ([] : (List T_api_Setting)))) fun (x28, x29) =>
  onInl (α := (List T_api_Setting)) (β := (List T_api_Setting)) (
    ((bif decide (x29 = ((a0.length : Nat) : Int)) then some true else (
      (ixO a0 x29).bind fun x43 =>
      some (!(eq_T_api_Setting x43 a1))
    )) : Option Bool).bind fun b42 =>
    bif b42 then (
      (appO x28 [a1]).bind fun x44 =>
      some (.inl x44)
    ) else (
      some (.inl x28)
    )
  ) fun x41 =>
  (slO a0 (some x29) none none).bind fun x45 =>
  (appO x41 x45).bind fun x46 =>
  some x46
theorem d_ref09_insert_ok (a0 : (List T_api_Setting)) (a1 : T_api_Setting) (r : (List T_api_Setting)) (h : d_ref09_insert a0 a1 = some r) : PCall Go.Proofs.Tryd.prog GlS 49 [Enc.pv a0, Enc.pv a1] (lstOf (.own 100005) r) := by
  unfold d_ref09_insert at h
  refine pcall_of_pwp Go.Proofs.Tryd.func49 (by rfl) rfl Go.Proofs.Tryd.ntmps49 (by rfl) rfl ?_
  refine pwp_seq ?_
  refine r_reg ?_
  refine e_end (by kernel_rfl) ?_
  refine q_next ?_
  refine pwp_seq ?_
  refine r_reg ?_
  refine e_end (by kernel_rfl) ?_
  refine q_next ?_
  refine pwp_seq ?_
  refine r_reg ?_
  refine e_end (by kernel_rfl) ?_
  refine q_next ?_
  refine pwp_seq ?_
  refine pwp_block ?_
  refine g_nil 5 100005 2 16 (by kernel_rfl) (by kernel_rfl) ?_
  obtain ⟨o26, h26, h⟩ := o_inl h
  refine r_loop2 72 0 (fun (x18, x19) => ⟨[(0, lstOf .frozen (a0 : (List T_api_Setting))), (3, .ref 3 0), (5, lstOf (.own 100005) (x19 : (List T_api_Setting))), (6, .int .i64 x18)], [(3, .cells (cellsOf a1))], [(100005, (((x19).map cellsOf).length, 2))], []⟩) (fun (x28, x29) => ⟨[(0, lstOf .frozen (a0 : (List T_api_Setting))), (3, .ref 3 0), (5, lstOf (.own 100005) (x28 : (List T_api_Setting))), (6, .int .i64 x29)], [(3, .cells (cellsOf a1))], [(100005, (((x28).map cellsOf).length, 2))], []⟩) h26 (by kernel_rfl) (fun _ => by kernel_rfl) ?_ ?_
  · rintro ⟨x18, x19⟩ oh25 h25
    unfold d_ref09_insert_0 at h25
    refine pwp_seq ?_
    refine pwp_seq ?_
    refine r_regd (by kernel_rfl) (by kernel_rfl) ?_
    refine p_run 2 (by kernel_rfl) ?_
    refine p_len (L := (a0 : (List T_api_Setting))) (by kernel_rfl) ?_
    obtain ⟨b30, h27, h25⟩ := o_bind h25
    refine p_run 2 (by kernel_rfl) ?_
    refine e_seg 29 40 (.bool b30) ?_ ?_
    · rcases o_cond h27 with ⟨hb, h27⟩ | ⟨hb, h27⟩
      · refine p_settle 11 hb (by kernel_rfl) (by kernel_rfl) ?_
        refine p_run 2 (by kernel_rfl) ?_
        obtain ⟨x31, h28, h27⟩ := o_bind h27
        refine p_ix h28 (by kernel_rfl) ?_
        obtain ⟨b32, h29, h27⟩ := o_bind h27
        refine p_run 6 (by kernel_rfl) ?_
        refine f_seg 19 39 (.bool b32) ?_ ?_
        · rcases o_cond h29 with ⟨hb, h29⟩ | ⟨hb, h29⟩
          · refine p_settle 20 hb (by kernel_rfl) (by kernel_rfl) ?_
            cases h29
            exact f_end (by kernel_rfl) (by kernel_rfl)
          · refine p_settle 20 hb (by kernel_rfl) (by kernel_rfl) ?_
            refine p_run 2 (by kernel_rfl) ?_
            obtain ⟨x33, h30, h29⟩ := o_bind h29
            refine p_ix h30 (by kernel_rfl) ?_
            obtain ⟨b34, h31, h29⟩ := o_bind h29
            refine p_run 6 (by kernel_rfl) ?_
            refine f_seg 9 38 (.bool b34) ?_ ?_
            · rcases o_cond h31 with ⟨hb, h31⟩ | ⟨hb, h31⟩
              · refine p_settle 29 hb (by kernel_rfl) (by kernel_rfl) ?_
                refine p_run 2 (by kernel_rfl) ?_
                obtain ⟨x35, h32, h31⟩ := o_bind h31
                refine p_ix h32 (by kernel_rfl) ?_
                cases h31
                exact f_end (by kernel_rfl) (by kernel_rfl)
              · refine p_settle 29 hb (by kernel_rfl) (by kernel_rfl) ?_
                cases h31
                exact f_end (by kernel_rfl) (by kernel_rfl)
            · cases h29
              exact f_end (by kernel_rfl) (by kernel_rfl)
        · cases h27
          exact f_end (by kernel_rfl) (by kernel_rfl)
      · refine p_settle 11 hb (by kernel_rfl) (by kernel_rfl) ?_
        cases h27
        exact f_end (by kernel_rfl) (by kernel_rfl)
    · refine e_nil (by kernel_rfl) ?_
      refine q_next ?_
      rcases o_cond h25 with ⟨hb, h25⟩ | ⟨hb, h25⟩
      · refine r_cond_t hb (by kernel_rfl) ?_
        refine pwp_skip ?_
        refine q_next ?_
        refine pwp_block ?_
        refine pwp_seq ?_
        refine r_reg ?_
        refine p_run 3 (by kernel_rfl) ?_
        obtain ⟨x36, h33, h25⟩ := o_bind h25
        refine p_ix h33 (by kernel_rfl) ?_
        refine p_run 2 (by kernel_rfl) ?_
        obtain ⟨x37, h34, h25⟩ := o_bind h25
        refine p_app (tk := 100005) h34 (by kernel_rfl) (by kernel_rfl) ?_
        refine e_end (by kernel_rfl) ?_
        refine q_next ?_
        refine r_reg ?_
        refine e_end (by kernel_rfl) ?_
        refine q_block ?_
        cases h25
        exact q_lback (by kernel_rfl)
      · refine r_cond_f hb (by kernel_rfl) ?_
        refine pwp_exit ?_
        refine q_seq_exit ?_
        cases h25
        exact q_lexit (by kernel_rfl) (by kernel_rfl)
  · rintro ⟨x28, x29⟩ s' rfl hs
    have h := o_outl h
    refine q_block_hit ?_
    refine q_next (pwp_wkr hs ?_)
    obtain ⟨o38, h38, h⟩ := o_inl h
    refine r_join (o := o38) 72 (fun x41 => ⟨[(0, lstOf .frozen (a0 : (List T_api_Setting))), (5, lstOf (.own 100005) (x41 : (List T_api_Setting))), (6, .int .i64 x29)], [], [(100005, (((x41).map cellsOf).length, 2))], []⟩) ?_ ?_
    · refine pwp_seq ?_
      refine r_regd (by kernel_rfl) (by kernel_rfl) ?_
      refine p_run 2 (by kernel_rfl) ?_
      refine p_len (L := (a0 : (List T_api_Setting))) (by kernel_rfl) ?_
      obtain ⟨b42, h39, h38⟩ := o_bind h38
      refine p_run 2 (by kernel_rfl) ?_
      refine e_seg 7 61 (.bool b42) ?_ ?_
      · rcases o_cond h39 with ⟨hb, h39⟩ | ⟨hb, h39⟩
        · refine p_settle 54 hb (by kernel_rfl) (by kernel_rfl) ?_
          cases h39
          exact f_end (by kernel_rfl) (by kernel_rfl)
        · refine p_settle 54 hb (by kernel_rfl) (by kernel_rfl) ?_
          refine p_run 2 (by kernel_rfl) ?_
          obtain ⟨x43, h40, h39⟩ := o_bind h39
          refine p_ix h40 (by kernel_rfl) ?_
          cases h39
          exact f_end (by kernel_rfl) (by kernel_rfl)
      · refine e_nil (by kernel_rfl) ?_
        refine q_next ?_
        rcases o_cond h38 with ⟨hb, h38⟩ | ⟨hb, h38⟩
        · refine r_cond_t hb (by kernel_rfl) ?_
          refine r_reg ?_
          refine p_run 3 (by kernel_rfl) ?_
          obtain ⟨x44, h41, h38⟩ := o_bind h38
          refine p_app (tk := 100005) h41 (by kernel_rfl) (by kernel_rfl) ?_
          refine e_end (by kernel_rfl) ?_
          cases h38
          exact q_join (by kernel_rfl) (by kernel_rfl)
        · refine r_cond_f hb (by kernel_rfl) ?_
          refine pwp_skip ?_
          cases h38
          exact q_join (by kernel_rfl) (by kernel_rfl)
    · rintro x41 rfl
      have h := o_outl h
      refine pwp_seq ?_
      refine r_reg ?_
      refine p_run 3 (by kernel_rfl) ?_
      obtain ⟨x45, h42, h⟩ := o_bind h
      refine p_sl h42 .frozen (by kernel_rfl) (by kernel_rfl) (by kernel_rfl) ?_
      obtain ⟨x46, h43, h⟩ := o_bind h
      refine p_app (tk := 100005) h43 (by kernel_rfl) (by kernel_rfl) ?_
      refine e_end (by kernel_rfl) ?_
      refine q_next ?_
      refine pwp_seq ?_
      refine r_reg ?_
      refine e_end (by kernel_rfl) ?_
      refine q_next ?_
      refine pwp_ret ?_
      cases h
      exact q_ret (by kernel_rfl) (by kernel_rfl) (by kernel_rfl)
theorem d_ref09_insert_fz (a0 : (List T_api_Setting)) (a1 : T_api_Setting) (r : (List T_api_Setting)) (h : d_ref09_insert a0 a1 = some r) : PCall Go.Proofs.Tryd.prog GlS 49 [Enc.pv a0, Enc.pv a1] (Enc.pv r) :=
  (d_ref09_insert_ok a0 a1 r h).freeze (by kernel_rfl) (by kernel_rfl) (by kernel_rfl)

/-! signallingref09.Settings -/
noncomputable def d_ref09_Settings_0 (a0 : T_api_Layout) (a1 : (List T_api_Step)) : (Int × (List T_api_Setting)) → Option ((Int × (List T_api_Setting)) ⊕ ((List T_api_Setting) ⊕ (List T_api_Setting))) := fun (x20, x21) =>
  bif decide (x20 < ((a1.length : Nat) : Int)) then (
    onInl (α := (List T_api_Setting)) (β := ((Int × (List T_api_Setting)) ⊕ ((List T_api_Setting) ⊕ (List T_api_Setting)))) (
      (ixO a1 x20).bind fun x37 =>
      (d_ref09_need a0 x37).bind fun r38 =>
      bif (r38.2 && (!(decide (r38.1 = 0)))) then (
        (ixO a1 x20).bind fun x39 =>
        (d_ref09_insert x21 (T_api_Setting.mk x39.El r38.1)).bind fun r40 =>
        some (.inl r40)
      ) else (
        some (.inl x21)
      )
    ) fun x36 =>
    some (.inl (w64 (x20 + 1), x36))
  ) else (
    some (.inr (.inl x21))
  )

noncomputable def d_ref09_Settings (a0 : T_api_Layout) (a1 : (List T_api_Step)) : Option (List T_api_Setting) :=
  onInl (α := (List T_api_Setting)) (β := (List T_api_Setting)) (loopO (d_ref09_Settings_0 a0 a1) (0, ([] : (List T_api_Setting)))) fun x31 =>
  some x31
theorem d_ref09_Settings_ok (a0 : T_api_Layout) (a1 : (List T_api_Step)) (r : (List T_api_Setting)) (h : d_ref09_Settings a0 a1 = some r) : PCall Go.Proofs.Tryd.prog GlS 19 [Enc.pv a0, Enc.pv a1] (Enc.pv r) := by
  unfold d_ref09_Settings at h
  refine pcall_of_pwp Go.Proofs.Tryd.func19 (by rfl) rfl Go.Proofs.Tryd.ntmps19 (by rfl) rfl ?_
  refine pwp_seq ?_
  refine r_reg ?_
  refine e_end (by kernel_rfl) ?_
  refine q_next ?_
  refine pwp_seq ?_
  refine r_reg ?_
  refine e_end (by kernel_rfl) ?_
  refine q_next ?_
  refine pwp_seq ?_
  refine pwp_seq ?_
  refine r_reg ?_
  refine e_end (by kernel_rfl) ?_
  refine q_next ?_
  refine pwp_block ?_
  obtain ⟨o29, h29, h⟩ := o_inl h
  refine r_loop2 39 0 (fun (x20, x21) => ⟨[(1, lstOf .frozen (a1 : (List T_api_Step))), (2, .ref 2 0), (5, lstOf .frozen (x21 : (List T_api_Setting))), (6, .int .i64 x20)], [(2, .cells (cellsOf a0))], [], []⟩) (fun x31 => ⟨[(5, lstOf .frozen (x31 : (List T_api_Setting)))], [], [], []⟩) h29 (by kernel_rfl) (fun _ => by kernel_rfl) ?_ ?_
  · rintro ⟨x20, x21⟩ oh28 h28
    unfold d_ref09_Settings_0 at h28
    refine pwp_seq ?_
    refine pwp_seq ?_
    refine r_reg ?_
    refine p_run 2 (by kernel_rfl) ?_
    refine p_len (L := (a1 : (List T_api_Step))) (by kernel_rfl) ?_
    refine e_end (by kernel_rfl) ?_
    refine q_next ?_
    rcases o_cond h28 with ⟨hb, h28⟩ | ⟨hb, h28⟩
    · refine r_cond_t hb (by kernel_rfl) ?_
      refine pwp_skip ?_
      refine q_next ?_
      obtain ⟨o34, h34, h28⟩ := o_inl h28
      refine r_join (o := o34) 39 (fun x36 => ⟨[(1, lstOf .frozen (a1 : (List T_api_Step))), (2, .ref 2 0), (5, lstOf .frozen (x36 : (List T_api_Setting))), (6, .int .i64 x20)], [(2, .cells (cellsOf a0))], [], []⟩) ?_ ?_
      · refine pwp_block ?_
        refine pwp_seq ?_
        refine r_regd (by kernel_rfl) (by kernel_rfl) ?_
        refine p_run 3 (by kernel_rfl) ?_
        obtain ⟨x37, h35, h34⟩ := o_bind h34
        refine p_ix h35 (by kernel_rfl) ?_
        refine p_run 1 (by kernel_rfl) ?_
        obtain ⟨r38, h36, h34⟩ := o_bind h34
        refine p_call (d_ref09_need_ok _ _ r38 h36) (by kernel_rfl) (by kernel_rfl) ?_
        refine e_end (by kernel_rfl) ?_
        refine q_next ?_
        refine pwp_seq ?_
        refine r_reg ?_
        refine p_run 2 (by kernel_rfl) ?_
        refine e_segb 3 28 (r38.2 && (!(decide (r38.1 = 0)))) (fun x hx => ?_) ?_
        · rcases b_and hx with ⟨hb, hx⟩ | ⟨hb, hx⟩
          · refine p_settle 25 hb (by kernel_rfl) (by kernel_rfl) ?_
            subst hx
            exact f_end (by kernel_rfl) (by kernel_rfl)
          · refine p_settle 25 hb (by kernel_rfl) (by kernel_rfl) ?_
            subst hx
            exact f_end (by kernel_rfl) (by kernel_rfl)
        · refine e_nil (by kernel_rfl) ?_
          refine q_next ?_
          rcases o_cond h34 with ⟨hb, h34⟩ | ⟨hb, h34⟩
          · refine r_cond_t hb (by kernel_rfl) ?_
            refine r_reg ?_
            refine p_run 3 (by kernel_rfl) ?_
            obtain ⟨x39, h37, h34⟩ := o_bind h34
            refine p_ix h37 (by kernel_rfl) ?_
            refine p_run 4 (by kernel_rfl) ?_
            obtain ⟨r40, h38, h34⟩ := o_bind h34
            refine p_call (d_ref09_insert_ok _ _ r40 h38) (by kernel_rfl) (by kernel_rfl) ?_
            refine e_end (by kernel_rfl) ?_
            refine q_block ?_
            cases h34
            exact q_join (by kernel_rfl) (by kernel_rfl)
          · refine r_cond_f hb (by kernel_rfl) ?_
            refine pwp_skip ?_
            refine q_block ?_
            cases h34
            exact q_join (by kernel_rfl) (by kernel_rfl)
      · rintro x36 rfl
        have h28 := o_outl h28
        refine r_reg ?_
        refine e_end (by kernel_rfl) ?_
        cases h28
        exact q_lback (by kernel_rfl)
    · refine r_cond_f hb (by kernel_rfl) ?_
      refine pwp_exit ?_
      refine q_seq_exit ?_
      cases h28
      exact q_lexit (by kernel_rfl) (by kernel_rfl)
  · rintro x31 s' rfl hs
    have h := o_outl h
    refine q_block_hit ?_
    refine q_next (pwp_wkr hs ?_)
    refine pwp_seq ?_
    refine r_reg ?_
    refine e_end (by kernel_rfl) ?_
    refine q_next ?_
    refine pwp_ret ?_
    cases h
    exact q_ret (by kernel_rfl) (by kernel_rfl) (by kernel_rfl)

/-! signallinglaw14.FlankAgrees -/
noncomputable def d_law14_FlankAgrees_1 (r3 : (List T_api_Setting)) (r5 : T_api_Route) (x20 : Int) : Int → Option (Int ⊕ (Unit ⊕ (Int ⊕ (Unit ⊕ Bool)))) := fun x37 =>
  bif decide (x37 < ((r3.length : Nat) : Int)) then (
    (ixO r3 x37).bind fun x40 =>
    (ixO r5.Flank x20).bind fun x41 =>
    bif decide (x40.El = x41.El) then (
      some (.inr (.inr (.inr (.inr false))))
    ) else (
      some (.inl (w64 (x37 + 1)))
    )
  ) else (
    some (.inr (.inl ()))
  )

noncomputable def d_law14_FlankAgrees_2 (r4 : (List T_api_Setting)) (r5 : T_api_Route) (x20 : Int) : Int → Option (Int ⊕ (Unit ⊕ (Int ⊕ (Unit ⊕ Bool)))) := fun x44 =>
  bif decide (x44 < ((r4.length : Nat) : Int)) then (
    (ixO r4 x44).bind fun x47 =>
    (ixO r5.Flank x20).bind fun x48 =>
    bif decide (x47.El = x48.El) then (
      some (.inr (.inr (.inr (.inr false))))
    ) else (
      some (.inl (w64 (x44 + 1)))
    )
  ) else (
    some (.inr (.inl ()))
  )

noncomputable def d_law14_FlankAgrees_0 (r3 : (List T_api_Setting)) (r4 : (List T_api_Setting)) (r5 : T_api_Route) : Int → Option (Int ⊕ (Unit ⊕ Bool)) := fun x20 =>
  bif decide (x20 < ((r5.Flank.length : Nat) : Int)) then (
    onInl (α := Unit) (β := (Int ⊕ (Unit ⊕ Bool))) (loopO (d_law14_FlankAgrees_1 r3 r5 x20) 0) fun _ =>
    onInl (α := Unit) (β := (Int ⊕ (Unit ⊕ Bool))) (loopO (d_law14_FlankAgrees_2 r4 r5 x20) 0) fun _ =>
    some (.inl (w64 (x20 + 1)))
  ) else (
    some (.inr (.inl ()))
  )

noncomputable def d_law14_FlankAgrees (a0 : T_api_Layout) (a1 : T_api_Route) : Option Bool :=
  (d_law14_few a0 a1).bind fun r1 =>
  bif (!r1) then (
    (d_law14_alive ).bind fun r2 =>
    some r2
  ) else (
    (d_ref09_Settings a0 a1.Path).bind fun r3 =>
    (d_ref09_Settings a0 a1.Over).bind fun r4 =>
    (d_flank_Find a0 (T_api_Route.mk a1.Name a1.Entry a1.Exit a1.Path r3 a1.Sections a1.Approach a1.Length a1.Over r4 a1.OverSections a1.Flank a1.Guards a1.Gaps)).bind fun r5 =>
    onInl (α := Unit) (β := Bool) (loopO (d_law14_FlankAgrees_0 r3 r4 r5) 0) fun _ =>
    (d_law14_alive ).bind fun r49 =>
    some r49
  )
theorem d_law14_FlankAgrees_ok (a0 : T_api_Layout) (a1 : T_api_Route) (r : Bool) (h : d_law14_FlankAgrees a0 a1 = some r) : PCall Go.Proofs.Tryd.prog GlS 6 [Enc.pv a0, Enc.pv a1] (Enc.pv r) := by
  unfold d_law14_FlankAgrees at h
  refine pcall_of_pwp Go.Proofs.Tryd.func6 (by rfl) rfl Go.Proofs.Tryd.ntmps6 (by rfl) rfl ?_
  refine pwp_seq ?_
  refine r_reg ?_
  refine e_end (by kernel_rfl) ?_
  refine q_next ?_
  refine pwp_seq ?_
  refine pwp_seq ?_
  refine r_reg ?_
  refine p_run 2 (by kernel_rfl) ?_
  obtain ⟨r1, h1, h⟩ := o_bind h
  refine p_call (d_law14_few_ok _ _ r1 h1) (by kernel_rfl) (by kernel_rfl) ?_
  refine e_end (by kernel_rfl) ?_
  refine q_next ?_
  rcases o_cond h with ⟨hb, h⟩ | ⟨hb, h⟩
  · refine r_cond_t hb (by kernel_rfl) ?_
    refine pwp_seq ?_
    refine r_reg ?_
    obtain ⟨r2, h2, h⟩ := o_bind h
    refine p_call (d_law14_alive_ok  r2 h2) (by kernel_rfl) (by kernel_rfl) ?_
    refine e_end (by kernel_rfl) ?_
    refine q_next ?_
    refine pwp_ret ?_
    refine q_seq_ret ?_
    cases h
    exact q_ret (by kernel_rfl) (by kernel_rfl) (by kernel_rfl)
  · refine r_cond_f hb (by kernel_rfl) ?_
    refine pwp_skip ?_
    refine q_next ?_
    refine pwp_seq ?_
    refine r_reg ?_
    refine p_run 3 (by kernel_rfl) ?_
    obtain ⟨r3, h3, h⟩ := o_bind h
    refine p_call (d_ref09_Settings_ok _ _ r3 h3) (by kernel_rfl) (by kernel_rfl) ?_
    refine e_end (by kernel_rfl) ?_
    refine q_next ?_
    refine pwp_seq ?_
    refine r_reg ?_
    refine p_run 3 (by kernel_rfl) ?_
    obtain ⟨r4, h4, h⟩ := o_bind h
    refine p_call (d_ref09_Settings_ok _ _ r4 h4) (by kernel_rfl) (by kernel_rfl) ?_
    refine e_end (by kernel_rfl) ?_
    refine q_next ?_
    refine pwp_seq ?_
    refine r_reg ?_
    refine p_run 2 (by kernel_rfl) ?_
    obtain ⟨r5, h5, h⟩ := o_bind h
    refine p_call (d_flank_Find_ok _ _ r5 h5) (by kernel_rfl) (by kernel_rfl) ?_
    refine e_end (by kernel_rfl) ?_
    refine q_next ?_
    refine pwp_seq ?_
    refine pwp_seq ?_
    refine r_reg ?_
    refine e_end (by kernel_rfl) ?_
    refine q_next ?_
    refine pwp_block ?_
    obtain ⟨o63, h63, h⟩ := o_inl h
    refine r_loop2 75 0 (fun x20 => ⟨[(3, .ref 3 0), (5, .ref 5 0), (6, .int .i64 x20)], [(3, .cells ([.str a1.Name, .int .i64 a1.Entry, .int .i64 a1.Exit, lstOf .frozen (a1.Path : (List T_api_Step)), lstOf .frozen (r3 : (List T_api_Setting)), lstOf .frozen (a1.Sections : (List Int)), .int .i64 a1.Approach, .int .i64 a1.Length, lstOf .frozen (a1.Over : (List T_api_Step)), lstOf .frozen (r4 : (List T_api_Setting)), lstOf .frozen (a1.OverSections : (List Int)), lstOf .frozen (a1.Flank : (List T_api_Setting)), lstOf .frozen (a1.Guards : (List Int)), lstOf .frozen (a1.Gaps : (List T_api_End))])), (5, .cells (cellsOf r5))], [], []⟩) (fun (_ : Unit) => ⟨[], [], [], []⟩) h63 (by kernel_rfl) (fun _ => by kernel_rfl) ?_ ?_
    · rintro x20 oh62 h62
      unfold d_law14_FlankAgrees_0 at h62
      refine pwp_seq ?_
      refine pwp_seq ?_
      refine r_reg ?_
      refine p_run 3 (by kernel_rfl) ?_
      refine p_len (L := (r5.Flank : (List T_api_Setting))) (by kernel_rfl) ?_
      refine e_end (by kernel_rfl) ?_
      refine q_next ?_
      rcases o_cond h62 with ⟨hb, h62⟩ | ⟨hb, h62⟩
      · refine r_cond_t hb (by kernel_rfl) ?_
        refine pwp_skip ?_
        refine q_next ?_
        refine pwp_seq ?_
        refine pwp_block ?_
        refine pwp_seq ?_
        refine pwp_seq ?_
        refine r_reg ?_
        refine e_end (by kernel_rfl) ?_
        refine q_next ?_
        refine pwp_block ?_
        obtain ⟨o73, h73, h62⟩ := o_inl h62
        refine r_loop2 75 2 (fun x37 => ⟨[(3, .ref 3 0), (5, .ref 5 0), (6, .int .i64 x20), (7, .int .i64 x37)], [(3, .cells ([.str a1.Name, .int .i64 a1.Entry, .int .i64 a1.Exit, lstOf .frozen (a1.Path : (List T_api_Step)), lstOf .frozen (r3 : (List T_api_Setting)), lstOf .frozen (a1.Sections : (List Int)), .int .i64 a1.Approach, .int .i64 a1.Length, lstOf .frozen (a1.Over : (List T_api_Step)), lstOf .frozen (r4 : (List T_api_Setting)), lstOf .frozen (a1.OverSections : (List Int)), lstOf .frozen (a1.Flank : (List T_api_Setting)), lstOf .frozen (a1.Guards : (List Int)), lstOf .frozen (a1.Gaps : (List T_api_End))])), (5, .cells (cellsOf r5))], [], []⟩) (fun (_ : Unit) => ⟨[(3, .ref 3 0), (5, .ref 5 0), (6, .int .i64 x20)], [(3, .cells ([.str a1.Name, .int .i64 a1.Entry, .int .i64 a1.Exit, lstOf .frozen (a1.Path : (List T_api_Step)), lstOf .frozen (r3 : (List T_api_Setting)), lstOf .frozen (a1.Sections : (List Int)), .int .i64 a1.Approach, .int .i64 a1.Length, lstOf .frozen (a1.Over : (List T_api_Step)), lstOf .frozen (r4 : (List T_api_Setting)), lstOf .frozen (a1.OverSections : (List Int)), lstOf .frozen (a1.Flank : (List T_api_Setting)), lstOf .frozen (a1.Guards : (List Int)), lstOf .frozen (a1.Gaps : (List T_api_End))])), (5, .cells (cellsOf r5))], [], []⟩) h73 (by kernel_rfl) (fun _ => by kernel_rfl) ?_ ?_
        · rintro x37 oh72 h72
          unfold d_law14_FlankAgrees_1 at h72
          refine pwp_seq ?_
          refine pwp_seq ?_
          refine r_reg ?_
          refine p_run 3 (by kernel_rfl) ?_
          refine p_len (L := (r3 : (List T_api_Setting))) (by kernel_rfl) ?_
          refine e_end (by kernel_rfl) ?_
          refine q_next ?_
          rcases o_cond h72 with ⟨hb, h72⟩ | ⟨hb, h72⟩
          · refine r_cond_t hb (by kernel_rfl) ?_
            refine pwp_skip ?_
            refine q_next ?_
            refine pwp_seq ?_
            refine pwp_block ?_
            refine pwp_seq ?_
            refine r_regd (by kernel_rfl) (by kernel_rfl) ?_
            refine p_run 3 (by kernel_rfl) ?_
            obtain ⟨x40, h74, h72⟩ := o_bind h72
            refine p_ix h74 (by kernel_rfl) ?_
            refine p_run 5 (by kernel_rfl) ?_
            obtain ⟨x41, h75, h72⟩ := o_bind h72
            refine p_ix h75 (by kernel_rfl) ?_
            refine e_end (by kernel_rfl) ?_
            refine q_next ?_
            rcases o_cond h72 with ⟨hb, h72⟩ | ⟨hb, h72⟩
            · refine r_cond_t hb (by kernel_rfl) ?_
              refine pwp_seq ?_
              refine r_reg ?_
              refine e_end (by kernel_rfl) ?_
              refine q_next ?_
              refine pwp_ret ?_
              refine q_block_ret ?_
              refine q_seq_ret ?_
              cases h72
              refine q_lout_ret fun he => ?_
              subst he
              have h76 := o_outr h62
              refine q_block_ret ?_
              refine q_seq_ret ?_
              refine q_block_ret ?_
              refine q_seq_ret ?_
              cases h76
              refine q_lout_ret fun he => ?_
              subst he
              have h77 := o_outr h
              refine q_block_ret ?_
              refine q_seq_ret ?_
              cases h77
              exact q_ret (by kernel_rfl) (by kernel_rfl) (by kernel_rfl)
            · refine r_cond_f hb (by kernel_rfl) ?_
              refine pwp_skip ?_
              refine q_block ?_
              refine q_next ?_
              refine r_reg ?_
              refine e_end (by kernel_rfl) ?_
              cases h72
              exact q_lback (by kernel_rfl)
          · refine r_cond_f hb (by kernel_rfl) ?_
            refine pwp_exit ?_
            refine q_seq_exit ?_
            cases h72
            exact q_lexit (by kernel_rfl) (by kernel_rfl)
        · rintro _ s' rfl hs
          have h62 := o_outl h62
          refine q_block_hit ?_
          refine q_next (pwp_wkr hs ?_)
          refine pwp_seq ?_
          refine r_reg ?_
          refine e_end (by kernel_rfl) ?_
          refine q_next ?_
          refine pwp_block ?_
          obtain ⟨o87, h87, h62⟩ := o_inl h62
          refine r_loop2 75 4 (fun x44 => ⟨[(3, .ref 3 0), (5, .ref 5 0), (6, .int .i64 x20), (8, .int .i64 x44)], [(3, .cells ([.str a1.Name, .int .i64 a1.Entry, .int .i64 a1.Exit, lstOf .frozen (a1.Path : (List T_api_Step)), lstOf .frozen (r3 : (List T_api_Setting)), lstOf .frozen (a1.Sections : (List Int)), .int .i64 a1.Approach, .int .i64 a1.Length, lstOf .frozen (a1.Over : (List T_api_Step)), lstOf .frozen (r4 : (List T_api_Setting)), lstOf .frozen (a1.OverSections : (List Int)), lstOf .frozen (a1.Flank : (List T_api_Setting)), lstOf .frozen (a1.Guards : (List Int)), lstOf .frozen (a1.Gaps : (List T_api_End))])), (5, .cells (cellsOf r5))], [], []⟩) (fun (_ : Unit) => ⟨[(3, .ref 3 0), (5, .ref 5 0), (6, .int .i64 x20)], [(3, .cells ([.str a1.Name, .int .i64 a1.Entry, .int .i64 a1.Exit, lstOf .frozen (a1.Path : (List T_api_Step)), lstOf .frozen (r3 : (List T_api_Setting)), lstOf .frozen (a1.Sections : (List Int)), .int .i64 a1.Approach, .int .i64 a1.Length, lstOf .frozen (a1.Over : (List T_api_Step)), lstOf .frozen (r4 : (List T_api_Setting)), lstOf .frozen (a1.OverSections : (List Int)), lstOf .frozen (a1.Flank : (List T_api_Setting)), lstOf .frozen (a1.Guards : (List Int)), lstOf .frozen (a1.Gaps : (List T_api_End))])), (5, .cells (cellsOf r5))], [], []⟩) h87 (by kernel_rfl) (fun _ => by kernel_rfl) ?_ ?_
          · rintro x44 oh86 h86
            unfold d_law14_FlankAgrees_2 at h86
            refine pwp_seq ?_
            refine pwp_seq ?_
            refine r_reg ?_
            refine p_run 3 (by kernel_rfl) ?_
            refine p_len (L := (r4 : (List T_api_Setting))) (by kernel_rfl) ?_
            refine e_end (by kernel_rfl) ?_
            refine q_next ?_
            rcases o_cond h86 with ⟨hb, h86⟩ | ⟨hb, h86⟩
            · refine r_cond_t hb (by kernel_rfl) ?_
              refine pwp_skip ?_
              refine q_next ?_
              refine pwp_seq ?_
              refine pwp_block ?_
              refine pwp_seq ?_
              refine r_regd (by kernel_rfl) (by kernel_rfl) ?_
              refine p_run 3 (by kernel_rfl) ?_
              obtain ⟨x47, h88, h86⟩ := o_bind h86
              refine p_ix h88 (by kernel_rfl) ?_
              refine p_run 5 (by kernel_rfl) ?_
              obtain ⟨x48, h89, h86⟩ := o_bind h86
              refine p_ix h89 (by kernel_rfl) ?_
              refine e_end (by kernel_rfl) ?_
              refine q_next ?_
              rcases o_cond h86 with ⟨hb, h86⟩ | ⟨hb, h86⟩
              · refine r_cond_t hb (by kernel_rfl) ?_
                refine pwp_seq ?_
                refine r_reg ?_
                refine e_end (by kernel_rfl) ?_
                refine q_next ?_
                refine pwp_ret ?_
                refine q_block_ret ?_
                refine q_seq_ret ?_
                cases h86
                refine q_lout_ret fun he => ?_
                subst he
                have h90 := o_outr h62
                refine q_block_ret ?_
                refine q_block_ret ?_
                refine q_seq_ret ?_
                cases h90
                refine q_lout_ret fun he => ?_
                subst he
                have h91 := o_outr h
                refine q_block_ret ?_
                refine q_seq_ret ?_
                cases h91
                exact q_ret (by kernel_rfl) (by kernel_rfl) (by kernel_rfl)
              · refine r_cond_f hb (by kernel_rfl) ?_
                refine pwp_skip ?_
                refine q_block ?_
                refine q_next ?_
                refine r_reg ?_
                refine e_end (by kernel_rfl) ?_
                cases h86
                exact q_lback (by kernel_rfl)
            · refine r_cond_f hb (by kernel_rfl) ?_
              refine pwp_exit ?_
              refine q_seq_exit ?_
              cases h86
              exact q_lexit (by kernel_rfl) (by kernel_rfl)
          · rintro _ s' rfl hs
            have h62 := o_outl h62
            refine q_block_hit ?_
            refine q_block ?_
            refine q_next (pwp_wkr hs ?_)
            refine r_reg ?_
            refine e_end (by kernel_rfl) ?_
            cases h62
            exact q_lback (by kernel_rfl)
      · refine r_cond_f hb (by kernel_rfl) ?_
        refine pwp_exit ?_
        refine q_seq_exit ?_
        cases h62
        exact q_lexit (by kernel_rfl) (by kernel_rfl)
    · rintro _ s' rfl hs
      have h := o_outl h
      refine q_block_hit ?_
      refine q_next (pwp_wkr hs ?_)
      refine pwp_seq ?_
      refine r_reg ?_
      obtain ⟨r49, h92, h⟩ := o_bind h
      refine p_call (d_law14_alive_ok  r49 h92) (by kernel_rfl) (by kernel_rfl) ?_
      refine e_end (by kernel_rfl) ?_
      refine q_next ?_
      refine pwp_ret ?_
      cases h
      exact q_ret (by kernel_rfl) (by kernel_rfl) (by kernel_rfl)

end PM
