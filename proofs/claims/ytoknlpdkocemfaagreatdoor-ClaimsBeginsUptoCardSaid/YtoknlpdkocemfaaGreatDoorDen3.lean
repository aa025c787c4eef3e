/-
  Plain functions for the program's functions, and the proofs that the program does them. Printed by den.py.
-/
import Derived.Test.YtoknlpdkocemfaaGreatDoorDen2
namespace PM
open Go Go.RowKit
attribute [local irreducible] pops pwp

/-! slices.IndexFunc[[]api.Step,api.Step] -/
noncomputable def d_slices_IndexFunc_api_Step__claims_follow_c1_0 (a0 : (List T_api_Step)) (a1_0 : T_api_Track) : Int → Option (Int ⊕ (Unit ⊕ Int)) := fun x3 =>
  bif decide (x3 < ((a0.length : Nat) : Int)) then (
    (ixO a0 x3).bind fun x6 =>
    (d_claims_follow_c1 x6 a1_0).bind fun r7 =>
    bif r7 then (
      some (.inr (.inr x3))
    ) else (
      some (.inl (w64 (x3 + 1)))
    )
  ) else (
    some (.inr (.inl ()))
  )

noncomputable def d_slices_IndexFunc_api_Step__claims_follow_c1 (a0 : (List T_api_Step)) (a1_0 : T_api_Track) : Option Int :=
  onInl (α := Unit) (β := Int) (loopO (d_slices_IndexFunc_api_Step__claims_follow_c1_0 a0 a1_0) 0) fun _ =>
  some (-1)
theorem d_slices_IndexFunc_api_Step__claims_follow_c1_ok (a0 : (List T_api_Step)) (a1_0 : T_api_Track) (r : Int) (h : d_slices_IndexFunc_api_Step__claims_follow_c1 a0 a1_0 = some r) : PCall Go.Proofs.Tryz.prog GlS 120 [Enc.pv a0, .fn 85 [.cptr (cellsOf a1_0)]] (Enc.pv r) := by
  unfold d_slices_IndexFunc_api_Step__claims_follow_c1 at h
  refine pcall_of_pwp Go.Proofs.Tryz.func120 (by rfl) rfl Go.Proofs.Tryz.ntmps120 (by rfl) rfl ?_
  refine pwp_seq (r_reg ?_)
  refine zE ?_
  refine q_next (pwp_seq (pwp_seq (r_reg ?_)))
  refine zR 1 ?_
  refine p_len (L := (a0 : (List T_api_Step))) (by kernel_rfl) ?_
  refine zE ?_
  refine q_next (pwp_block ?_)
  obtain ⟨o8, h8, h⟩ := o_inl h
  refine r_loop2 19 0 (fun x3 => ⟨[(0, lstOf .frozen (a0 : (List T_api_Step))), (1, .fn 85 [.cptr (cellsOf a1_0)]), (7, .int .i64 ((a0.length : Nat) : Int)), (8, .int .i64 x3)], [], [], []⟩) (fun (_ : Unit) => ⟨[], [], [], []⟩) h8 (by kernel_rfl) (fun _ => by kernel_rfl) ?_ ?_
  · rintro x3 oh7 h7
    unfold d_slices_IndexFunc_api_Step__claims_follow_c1_0 at h7
    refine pwp_seq (r_reg ?_)
    refine zE ?_
    refine q_next (pwp_seq ?_)
    rcases o_cond h7 with ⟨hb, h7⟩ | ⟨hb, h7⟩
    · refine zT hb ?_
      refine pwp_skip (q_next (pwp_seq (pwp_block (pwp_seq (r_reg ?_)))))
      refine zE ?_
      refine q_next (pwp_seq (r_reg ?_))
      refine zR 3 ?_
      obtain ⟨x6, h9, h7⟩ := o_bind h7
      refine zI h9 ?_
      refine zR 1 ?_
      obtain ⟨r7, h10, h7⟩ := o_bind h7
      refine p_call (d_claims_follow_c1_ok _ _ r7 h10) (by kernel_rfl) (by kernel_rfl) ?_
      refine zN ?_
      refine q_next ?_
      rcases o_cond h7 with ⟨hb, h7⟩ | ⟨hb, h7⟩
      · refine zT hb ?_
        refine pwp_seq (r_reg ?_)
        refine zE ?_
        refine q_next (pwp_ret (q_block_ret (q_seq_ret ?_)))
        cases h7
        refine q_lout_ret fun he => ?_
        subst he
        have h11 := o_outr h
        refine q_block_ret (q_seq_ret ?_)
        cases h11
        exact zQ
      refine zU hb ?_
      refine pwp_skip (q_block (q_next (r_reg ?_)))
      refine zE ?_
      cases h7
      exact zB
    refine zU hb ?_
    refine pwp_exit (q_seq_exit ?_)
    cases h7
    exact zX
  rintro _ s' rfl hs
  have h := o_outl h
  refine q_block_hit ?_
  refine q_next (pwp_wkr hs ?_)
  refine pwp_seq (r_reg ?_)
  refine zE ?_
  refine q_next (pwp_ret ?_)
  cases h
  exact zQ

/-! slices.ContainsFunc[[]api.Step,api.Step] -/
noncomputable def d_slices_ContainsFunc_api_Step__claims_follow_c1 (a0 : (List T_api_Step)) (a1_0 : T_api_Track) : Option Bool :=
  (d_slices_IndexFunc_api_Step__claims_follow_c1 a0 a1_0).bind fun r1 =>
  some (decide (0 ≤ r1))
theorem d_slices_ContainsFunc_api_Step__claims_follow_c1_ok (a0 : (List T_api_Step)) (a1_0 : T_api_Track) (r : Bool) (h : d_slices_ContainsFunc_api_Step__claims_follow_c1 a0 a1_0 = some r) : PCall Go.Proofs.Tryz.prog GlS 86 [Enc.pv a0, .fn 85 [.cptr (cellsOf a1_0)]] (Enc.pv r) := by
  unfold d_slices_ContainsFunc_api_Step__claims_follow_c1 at h
  refine pcall_of_pwp Go.Proofs.Tryz.func86 (by rfl) rfl Go.Proofs.Tryz.ntmps86 (by rfl) rfl ?_
  refine pwp_seq (r_reg ?_)
  refine zE ?_
  refine q_next (pwp_seq (r_reg ?_))
  refine zR 2 ?_
  obtain ⟨r1, h1, h⟩ := o_bind h
  refine p_call (d_slices_IndexFunc_api_Step__claims_follow_c1_ok _ _ r1 h1) (by kernel_rfl) (by kernel_rfl) ?_
  refine zE ?_
  refine q_next (pwp_ret ?_)
  cases h
  exact zQ

/-! slices.Index[[]int,int] -/
noncomputable def d_slices_Index_int_0 (a0 : (List Int)) (a1 : Int) : Int → Option (Int ⊕ (Unit ⊕ Int)) := fun x2 =>
  bif decide (x2 < ((a0.length : Nat) : Int)) then (
    (ixO a0 x2).bind fun x4 =>
    bif decide (a1 = x4) then (
      some (.inr (.inr x2))
    ) else (
      some (.inl (w64 (x2 + 1)))
    )
  ) else (
    some (.inr (.inl ()))
  )

noncomputable def d_slices_Index_int (a0 : (List Int)) (a1 : Int) : Option Int :=
  onInl (α := Unit) (β := Int) (loopO (d_slices_Index_int_0 a0 a1) 0) fun _ =>
  some (-1)
theorem d_slices_Index_int_ok (a0 : (List Int)) (a1 : Int) (r : Int) (h : d_slices_Index_int a0 a1 = some r) : PCall Go.Proofs.Tryz.prog GlS 91 [Enc.pv a0, Enc.pv a1] (Enc.pv r) := by
  unfold d_slices_Index_int at h
  refine pcall_of_pwp Go.Proofs.Tryz.func91 (by rfl) rfl Go.Proofs.Tryz.ntmps91 (by rfl) rfl ?_
  refine pwp_seq (r_reg ?_)
  refine zE ?_
  refine q_next (pwp_seq (pwp_seq (r_reg ?_)))
  refine zR 1 ?_
  refine p_len (L := (a0 : (List Int))) (by kernel_rfl) ?_
  refine zE ?_
  refine q_next (pwp_block ?_)
  obtain ⟨o6, h6, h⟩ := o_inl h
  refine r_loop2 19 0 (fun x2 => ⟨[(0, lstOf .frozen (a0 : (List Int))), (1, .int .i64 a1), (7, .int .i64 ((a0.length : Nat) : Int)), (8, .int .i64 x2)], [], [], []⟩) (fun (_ : Unit) => ⟨[], [], [], []⟩) h6 (by kernel_rfl) (fun _ => by kernel_rfl) ?_ ?_
  · rintro x2 oh5 h5
    unfold d_slices_Index_int_0 at h5
    refine pwp_seq (r_reg ?_)
    refine zE ?_
    refine q_next (pwp_seq ?_)
    rcases o_cond h5 with ⟨hb, h5⟩ | ⟨hb, h5⟩
    · refine zT hb ?_
      refine pwp_skip (q_next (pwp_seq (pwp_block (pwp_seq (r_reg ?_)))))
      refine zE ?_
      refine q_next (pwp_seq (r_reg ?_))
      refine zR 3 ?_
      obtain ⟨x4, h7, h5⟩ := o_bind h5
      refine zI h7 ?_
      refine zE ?_
      refine q_next ?_
      rcases o_cond h5 with ⟨hb, h5⟩ | ⟨hb, h5⟩
      · refine zT hb ?_
        refine pwp_seq (r_reg ?_)
        refine zE ?_
        refine q_next (pwp_ret (q_block_ret (q_seq_ret ?_)))
        cases h5
        refine q_lout_ret fun he => ?_
        subst he
        have h8 := o_outr h
        refine q_block_ret (q_seq_ret ?_)
        cases h8
        exact zQ
      refine zU hb ?_
      refine pwp_skip (q_block (q_next (r_reg ?_)))
      refine zE ?_
      cases h5
      exact zB
    refine zU hb ?_
    refine pwp_exit (q_seq_exit ?_)
    cases h5
    exact zX
  rintro _ s' rfl hs
  have h := o_outl h
  refine q_block_hit ?_
  refine q_next (pwp_wkr hs ?_)
  refine pwp_seq (r_reg ?_)
  refine zE ?_
  refine q_next (pwp_ret ?_)
  cases h
  exact zQ

/-! slices.Contains[[]int,int] -/
noncomputable def d_slices_Contains_int (a0 : (List Int)) (a1 : Int) : Option Bool :=
  (d_slices_Index_int a0 a1).bind fun r1 =>
  some (decide (0 ≤ r1))
theorem d_slices_Contains_int_ok (a0 : (List Int)) (a1 : Int) (r : Bool) (h : d_slices_Contains_int a0 a1 = some r) : PCall Go.Proofs.Tryz.prog GlS 48 [Enc.pv a0, Enc.pv a1] (Enc.pv r) := by
  unfold d_slices_Contains_int at h
  refine pcall_of_pwp Go.Proofs.Tryz.func48 (by rfl) rfl Go.Proofs.Tryz.ntmps48 (by rfl) rfl ?_
  refine pwp_seq (r_reg ?_)
  refine zE ?_
  refine q_next (pwp_seq (r_reg ?_))
  refine zR 2 ?_
  obtain ⟨r1, h1, h⟩ := o_bind h
  refine p_call (d_slices_Index_int_ok _ _ r1 h1) (by kernel_rfl) (by kernel_rfl) ?_
  refine zE ?_
  refine q_next (pwp_ret ?_)
  cases h
  exact zQ

/-! claims.follow -/
noncomputable def d_claims_follow (a0 : T_api_Table) (a1 : T_api_Track) (a2 : Int) : Option (Int ⊕ T_api_Route) :=
  onInl (α := Unit) (β := (Int ⊕ T_api_Route)) (
    ((bif decide (a2 < 0) then some true else (
      some (decide (((a0.Routes.length : Nat) : Int) ≤ a2))
    )) : Option Bool).bind fun b2 =>
    bif b2 then (
      some (.inr (.inl 1))
    ) else (
      some (.inl ())
    )
  ) fun _ =>
  (ixO a0.Routes a2).bind fun x3 =>
  onInl (α := Unit) (β := (Int ⊕ T_api_Route)) (
    bif (!(decide (a1.CutSeq = 0))) then (
      some (.inr (.inl 11))
    ) else (
      some (.inl ())
    )
  ) fun _ =>
  onInl (α := Unit) (β := (Int ⊕ T_api_Route)) (
    bif ((decide (a1.End = (-1))) || (!(decide (a1.End = x3.Entry)))) then (
      some (.inr (.inl 10))
    ) else (
      some (.inl ())
    )
  ) fun _ =>
  onInl (α := Unit) (β := (Int ⊕ T_api_Route)) (
    (d_slices_ContainsFunc_api_Step__claims_follow_c1 x3.Path a1).bind fun r7 =>
    ((bif r7 then some true else (
      (d_slices_Contains_int a1.Routes a2).bind fun r9 =>
      some r9
    )) : Option Bool).bind fun b8 =>
    bif b8 then (
      some (.inr (.inl 8))
    ) else (
      some (.inl ())
    )
  ) fun _ =>
  onInl (α := Unit) (β := (Int ⊕ T_api_Route)) (
    bif ((decide (64 < (w64 (((a1.Steps.length : Nat) : Int) + ((x3.Path.length : Nat) : Int))))) || (decide (1073741824 < (w64 (a1.At + x3.Length))))) then (
      some (.inr (.inl 2))
    ) else (
      some (.inl ())
    )
  ) fun _ =>
  some (.inr x3)
theorem d_claims_follow_ok (a0 : T_api_Table) (a1 : T_api_Track) (a2 : Int) (r : (Int ⊕ T_api_Route)) (h : d_claims_follow a0 a1 a2 = some r) : PCallV Go.Proofs.Tryz.prog GlS 43 [Enc.pv a0, Enc.pv a1, Enc.pv a2] (panR 91 (fun r => Enc.pv r) r) := by
  unfold d_claims_follow at h
  refine pcallv_of_pwp Go.Proofs.Tryz.func43 (by rfl) rfl Go.Proofs.Tryz.ntmps43 (by rfl) rfl ?_
  refine pwp_seq (r_reg ?_)
  refine zE ?_
  refine q_next ?_
  obtain ⟨o3, h3, h⟩ := o_inl h
  refine r_join (o := o3) 74 (fun (_ : Unit) => ⟨[(2, .int .i64 a2), (3, .ref 3 0), (4, .ref 4 0), (6, .ref 6 0)], [(3, .cells (cellsOf a0)), (4, .cells (cellsOf a1)), (6, .cells ([.str ByteArray.empty, .int .i64 0, .int .i64 0, .nil, .nil, .nil, .int .i64 0, .int .i64 0, .nil, .nil, .nil, .nil, .nil, .nil]))], [], []⟩) ?_ ?_
  · refine pwp_seq (r_reg ?_)
    obtain ⟨b2, h4, h3⟩ := o_bind h3
    refine zR 3 ?_
    refine e_seg 6 17 (.bool b2) ?_ ?_
    · rcases o_cond h4 with ⟨hb, h4⟩ | ⟨hb, h4⟩
      · refine zS 11 hb ?_
        cases h4
        exact zF
      refine zS 11 hb ?_
      refine zR 3 ?_
      refine p_len (L := (a0.Routes : (List T_api_Route))) (by kernel_rfl) ?_
      cases h4
      exact zF
    refine zN ?_
    refine q_next ?_
    rcases o_cond h3 with ⟨hb, h3⟩ | ⟨hb, h3⟩
    · refine zT hb ?_
      refine r_regE ?_
      refine wlE_run 0 1 ?_
      refine zE ?_
      refine p_pan2V (d := 19) (y := (91, [(.i64, 1)])) (by kernel_rfl) fun ch hpan => ?_
      cases h3
      refine q_jout_pan ?_
      have h5 := o_outr h
      cases h5
      exact qv_pan hpan
    refine zU hb ?_
    refine pwp_skip ?_
    cases h3
    exact zJ
  rintro _ rfl
  have h := o_outl h
  refine pwp_seq (r_reg ?_)
  refine zR 3 ?_
  obtain ⟨x3, h6, h⟩ := o_bind h
  refine zI h6 ?_
  refine zE ?_
  refine q_next ?_
  obtain ⟨o8, h8, h⟩ := o_inl h
  refine r_join (o := o8) 74 (fun (_ : Unit) => ⟨[(2, .int .i64 a2), (4, .ref 4 0), (6, .ref 6 0), (7, .ref 7 0)], [(4, .cells (cellsOf a1)), (6, .cells ([.str ByteArray.empty, .int .i64 0, .int .i64 0, .nil, .nil, .nil, .int .i64 0, .int .i64 0, .nil, .nil, .nil, .nil, .nil, .nil])), (7, .cells (cellsOf x3))], [], []⟩) ?_ ?_
  · refine pwp_seq (r_reg ?_)
    refine zE ?_
    refine q_next ?_
    rcases o_cond h8 with ⟨hb, h8⟩ | ⟨hb, h8⟩
    · refine zT hb ?_
      refine r_regE ?_
      refine wlE_run 0 1 ?_
      refine zE ?_
      refine p_pan2V (d := 29) (y := (91, [(.i64, 11)])) (by kernel_rfl) fun ch hpan => ?_
      cases h8
      refine q_jout_pan ?_
      have h9 := o_outr h
      cases h9
      exact qv_pan hpan
    refine zU hb ?_
    refine pwp_skip ?_
    cases h8
    exact zJ
  rintro _ rfl
  have h := o_outl h
  obtain ⟨o11, h11, h⟩ := o_inl h
  refine r_join (o := o11) 74 (fun (_ : Unit) => ⟨[(2, .int .i64 a2), (4, .ref 4 0), (6, .ref 6 0), (7, .ref 7 0)], [(4, .cells (cellsOf a1)), (6, .cells ([.str ByteArray.empty, .int .i64 0, .int .i64 0, .nil, .nil, .nil, .int .i64 0, .int .i64 0, .nil, .nil, .nil, .nil, .nil, .nil])), (7, .cells (cellsOf x3))], [], []⟩) ?_ ?_
  · refine pwp_seq (r_reg ?_)
    refine zR 4 ?_
    refine e_segb 6 39 ((decide (a1.End = (-1))) || (!(decide (a1.End = x3.Entry)))) (fun x hx => ?_) ?_
    · rcases b_or hx with ⟨hb, hx⟩ | ⟨hb, hx⟩
      · refine zS 33 hb ?_
        subst hx
        exact zF
      refine zS 33 hb ?_
      subst hx
      exact zF
    refine zN ?_
    refine q_next ?_
    rcases o_cond h11 with ⟨hb, h11⟩ | ⟨hb, h11⟩
    · refine zT hb ?_
      refine r_regE ?_
      refine wlE_run 0 1 ?_
      refine zE ?_
      refine p_pan2V (d := 41) (y := (91, [(.i64, 10)])) (by kernel_rfl) fun ch hpan => ?_
      cases h11
      refine q_jout_pan ?_
      have h12 := o_outr h
      cases h12
      exact qv_pan hpan
    refine zU hb ?_
    refine pwp_skip ?_
    cases h11
    exact zJ
  rintro _ rfl
  have h := o_outl h
  refine pwp_seq (r_reg ?_)
  refine zE ?_
  refine q_next ?_
  obtain ⟨o17, h17, h⟩ := o_inl h
  refine r_join (o := o17) 74 (fun (_ : Unit) => ⟨[(4, .cptr (cellsOf a1)), (6, .ref 6 0), (7, .ref 7 0)], [(6, .cells ([.str ByteArray.empty, .int .i64 0, .int .i64 0, .nil, .nil, .nil, .int .i64 0, .int .i64 0, .nil, .nil, .nil, .nil, .nil, .nil])), (7, .cells (cellsOf x3))], [], []⟩) ?_ ?_
  · refine pwp_seq ?_
    refine g_frz 4 [6, 7] (cs := cellsOf a1) (cs' := cellsOf a1) (by kernel_rfl) (by kernel_rfl) (by kernel_rfl) (by kernel_rfl) ?_
    refine r_reg ?_
    refine zR 3 ?_
    obtain ⟨r7, h18, h17⟩ := o_bind h17
    refine p_call (d_slices_ContainsFunc_api_Step__claims_follow_c1_ok _ _ r7 h18) (by kernel_rfl) (by kernel_rfl) ?_
    obtain ⟨b8, h19, h17⟩ := o_bind h17
    refine zR 1 ?_
    refine e_seg 5 52 (.bool b8) ?_ ?_
    · rcases o_cond h19 with ⟨hb, h19⟩ | ⟨hb, h19⟩
      · refine zS 47 hb ?_
        cases h19
        exact zF
      refine zS 47 hb ?_
      refine zR 3 ?_
      obtain ⟨r9, h20, h19⟩ := o_bind h19
      refine p_call (d_slices_Contains_int_ok _ _ r9 h20) (by kernel_rfl) (by kernel_rfl) ?_
      cases h19
      exact zF
    refine zN ?_
    refine q_next ?_
    rcases o_cond h17 with ⟨hb, h17⟩ | ⟨hb, h17⟩
    · refine zT hb ?_
      refine r_regE ?_
      refine wlE_run 0 1 ?_
      refine zE ?_
      refine p_pan2V (d := 54) (y := (91, [(.i64, 8)])) (by kernel_rfl) fun ch hpan => ?_
      cases h17
      refine q_jout_pan ?_
      have h21 := o_outr h
      cases h21
      exact qv_pan hpan
    refine zU hb ?_
    refine pwp_skip ?_
    cases h17
    exact zJ
  rintro _ rfl
  have h := o_outl h
  obtain ⟨o23, h23, h⟩ := o_inl h
  refine r_join (o := o23) 74 (fun (_ : Unit) => ⟨[(6, .ref 6 0), (7, .ref 7 0)], [(6, .cells ([.str ByteArray.empty, .int .i64 0, .int .i64 0, .nil, .nil, .nil, .int .i64 0, .int .i64 0, .nil, .nil, .nil, .nil, .nil, .nil])), (7, .cells (cellsOf x3))], [], []⟩) ?_ ?_
  · refine pwp_seq (r_reg ?_)
    refine zR 2 ?_
    refine p_len (L := (a1.Steps : (List T_api_Step))) (by kernel_rfl) ?_
    refine zR 2 ?_
    refine p_len (L := (x3.Path : (List T_api_Step))) (by kernel_rfl) ?_
    refine zR 3 ?_
    refine e_segb 7 70 ((decide (64 < (w64 (((a1.Steps.length : Nat) : Int) + ((x3.Path.length : Nat) : Int))))) || (decide (1073741824 < (w64 (a1.At + x3.Length))))) (fun x hx => ?_) ?_
    · rcases b_or hx with ⟨hb, hx⟩ | ⟨hb, hx⟩
      · refine zS 63 hb ?_
        subst hx
        exact zF
      refine zS 63 hb ?_
      subst hx
      exact zF
    refine zN ?_
    refine q_next ?_
    rcases o_cond h23 with ⟨hb, h23⟩ | ⟨hb, h23⟩
    · refine zT hb ?_
      refine r_regE ?_
      refine wlE_run 0 1 ?_
      refine zE ?_
      refine p_pan2V (d := 72) (y := (91, [(.i64, 2)])) (by kernel_rfl) fun ch hpan => ?_
      cases h23
      refine q_jout_pan ?_
      have h24 := o_outr h
      cases h24
      exact qv_pan hpan
    refine zU hb ?_
    refine pwp_skip ?_
    cases h23
    exact zJ
  rintro _ rfl
  have h := o_outl h
  refine pwp_seq (r_reg ?_)
  refine zE ?_
  refine q_next (pwp_ret ?_)
  cases h
  exact ⟨_, rfl, q_ret (by kernel_rfl) (by kernel_rfl) (by kernel_rfl)⟩

/-! slices.Clone[[]int,int] -/
noncomputable def d_slices_Clone_int (a0 : (List Int)) : Option (List Int) :=
  (appO ([] : (List Int)) a0).bind fun x1 =>
  some x1
theorem d_slices_Clone_int_ok (a0 : (List Int)) (r : (List Int)) (h : d_slices_Clone_int a0 = some r) : PCall Go.Proofs.Tryz.prog GlS 88 [Enc.pv a0] (lstOf (.own 7) r) := by
  unfold d_slices_Clone_int at h
  refine pcall_of_pwp Go.Proofs.Tryz.func88 (by rfl) rfl Go.Proofs.Tryz.ntmps88 (by rfl) rfl ?_
  refine pwp_seq (r_reg ?_)
  refine zE ?_
  refine q_next (pwp_seq (pwp_seq (r_reg ?_)))
  refine zE ?_
  refine q_next ?_
  refine pwp_condU (e := ((a0 : (List Int)).map cellsOf).isEmpty) (by kernel_rfl) (fun hub => ?_) ?_
  · have hN := clone_nil (ub_nil hub) h
    refine pwp_seq (r_reg ?_)
    refine zE ?_
    refine q_next ?_
    refine g_nil 2 7 1 8 (by kernel_rfl) (by kernel_rfl) ?_
    refine pwp_ret (q_seq_ret ?_)
    cases hN
    exact zQ
  refine pwp_skip (q_next (pwp_seq (r_reg ?_)))
  refine zR 2 ?_
  obtain ⟨x1, h1, h⟩ := o_bind h
  refine p_appn (tk := 7) h1 (by kernel_rfl) ?_
  refine zE ?_
  refine q_next (pwp_ret ?_)
  cases h
  exact zQ
theorem d_slices_Clone_int_fz (a0 : (List Int)) (r : (List Int)) (h : d_slices_Clone_int a0 = some r) : PCall Go.Proofs.Tryz.prog GlS 88 [Enc.pv a0] (Enc.pv r) :=
  (d_slices_Clone_int_ok a0 r h).freeze (by kernel_rfl) (by kernel_rfl) (by kernel_rfl)

/-! claims.inLast -/
noncomputable def d_claims_inLast_0 (a0 : T_api_Layout) (a1 : T_api_Route) (x1 : Int) : (Int × Int) → Option ((Int × Int) ⊕ (Int ⊕ Int)) := fun (x9, x10) =>
  bif decide (x10 < ((a1.Path.length : Nat) : Int)) then (
    onInl (α := Int) (β := ((Int × Int) ⊕ (Int ⊕ Int))) (
      (ixO a1.Path x10).bind fun x23 =>
      (d_layout_Section a0 x23.El).bind fun r24 =>
      bif decide (r24 = x1) then (
        (d_claims_length a0 x23).bind fun r25 =>
        some (.inl (w64 (x9 + r25)))
      ) else (
        some (.inl x9)
      )
    ) fun x22 =>
    some (.inl (x22, w64 (x10 + 1)))
  ) else (
    some (.inr (.inl x9))
  )

noncomputable def d_claims_inLast (a0 : T_api_Layout) (a1 : T_api_Route) : Option Int :=
  bif decide (((a1.Sections.length : Nat) : Int) = 0) then (
    some 0
  ) else (
    (ixO a1.Sections (w64 (((a1.Sections.length : Nat) : Int) - 1))).bind fun x1 =>
    onInl (α := Int) (β := Int) (loopO (d_claims_inLast_0 a0 a1 x1) (0, 0)) fun x18 =>
    some x18
  )
theorem d_claims_inLast_ok (a0 : T_api_Layout) (a1 : T_api_Route) (r : Int) (h : d_claims_inLast a0 a1 = some r) : PCall Go.Proofs.Tryz.prog GlS 45 [Enc.pv a0, Enc.pv a1] (Enc.pv r) := by
  unfold d_claims_inLast at h
  refine pcall_of_pwp Go.Proofs.Tryz.func45 (by rfl) rfl Go.Proofs.Tryz.ntmps45 (by rfl) rfl ?_
  refine pwp_seq (r_reg ?_)
  refine zE ?_
  refine q_next (pwp_seq (pwp_seq (r_reg ?_)))
  refine zR 2 ?_
  refine p_len (L := (a1.Sections : (List Int))) (by kernel_rfl) ?_
  refine zE ?_
  refine q_next ?_
  rcases o_cond h with ⟨hb, h⟩ | ⟨hb, h⟩
  · refine zT hb ?_
    refine pwp_seq (r_reg ?_)
    refine zE ?_
    refine q_next (pwp_ret (q_seq_ret ?_))
    cases h
    exact zQ
  refine zU hb ?_
  refine pwp_skip (q_next (pwp_seq (r_reg ?_)))
  refine zR 4 ?_
  refine p_len (L := (a1.Sections : (List Int))) (by kernel_rfl) ?_
  refine zR 1 ?_
  obtain ⟨x1, h1, h⟩ := o_bind h
  refine zI h1 ?_
  refine zE ?_
  refine q_next (pwp_seq (r_reg ?_))
  refine zE ?_
  refine q_next (pwp_seq (pwp_seq (r_reg ?_)))
  refine zR 2 ?_
  refine p_len (L := (a1.Path : (List T_api_Step))) (by kernel_rfl) ?_
  refine zE ?_
  refine q_next (pwp_block ?_)
  obtain ⟨o17, h17, h⟩ := o_inl h
  refine r_loop2 41 0 (fun (x9, x10) => ⟨[(2, .ref 2 0), (5, .int .i64 x1), (6, .int .i64 x9), (22, lstOf .frozen (a1.Path : (List T_api_Step))), (23, .int .i64 ((a1.Path.length : Nat) : Int)), (24, .int .i64 x10)], [(2, .cells (cellsOf a0))], [], []⟩) (fun x18 => ⟨[(6, .int .i64 x18)], [], [], []⟩) h17 (by kernel_rfl) (fun _ => by kernel_rfl) ?_ ?_
  · rintro ⟨x9, x10⟩ oh16 h16
    unfold d_claims_inLast_0 at h16
    refine pwp_seq (r_reg ?_)
    refine zE ?_
    refine q_next (pwp_seq ?_)
    rcases o_cond h16 with ⟨hb, h16⟩ | ⟨hb, h16⟩
    · refine zT hb ?_
      refine pwp_skip (q_next ?_)
      obtain ⟨o21, h21, h16⟩ := o_inl h16
      refine r_join (o := o21) 41 (fun x22 => ⟨[(2, .ref 2 0), (5, .int .i64 x1), (6, .int .i64 x22), (22, lstOf .frozen (a1.Path : (List T_api_Step))), (23, .int .i64 ((a1.Path.length : Nat) : Int)), (24, .int .i64 x10)], [(2, .cells (cellsOf a0))], [], []⟩) ?_ ?_
      · refine pwp_block (pwp_seq (r_reg ?_))
        obtain ⟨x23, h22, h21⟩ := o_bind h21
        refine zI h22 ?_
        refine zE ?_
        refine q_next (pwp_seq (r_reg ?_))
        refine zR 3 ?_
        obtain ⟨r24, h23, h21⟩ := o_bind h21
        refine p_call (d_layout_Section_ok _ _ r24 h23) (by kernel_rfl) (by kernel_rfl) ?_
        refine zE ?_
        refine q_next ?_
        rcases o_cond h21 with ⟨hb, h21⟩ | ⟨hb, h21⟩
        · refine zT hb ?_
          refine r_reg ?_
          refine zR 3 ?_
          obtain ⟨r25, h24, h21⟩ := o_bind h21
          refine p_call (d_claims_length_ok _ _ r25 h24) (by kernel_rfl) (by kernel_rfl) ?_
          refine zE ?_
          refine q_block ?_
          cases h21
          exact zJ
        refine zU hb ?_
        refine pwp_skip (q_block ?_)
        cases h21
        exact zJ
      rintro x22 rfl
      have h16 := o_outl h16
      refine r_reg ?_
      refine zE ?_
      cases h16
      exact zB
    refine zU hb ?_
    refine pwp_exit (q_seq_exit ?_)
    cases h16
    exact zX
  rintro x18 s' rfl hs
  have h := o_outl h
  refine q_block_hit ?_
  refine q_next (pwp_wkr hs ?_)
  refine pwp_seq (r_reg ?_)
  refine zE ?_
  refine q_next (pwp_ret ?_)
  cases h
  exact zQ

/-! claims.Extend -/
noncomputable def d_claims_Extend (a0 : T_api_Layout) (a1 : T_api_Table) (a2 : T_api_Track) (a3 : Int) : Option (T_api_Track × Int) :=
  panVB (d_claims_follow a1 a2 a3) (fun e2 =>
    some ((T_api_Track.mk 0 0 0 0 [] [] [] [] [] 0 0 0 0 0), e2)
  ) fun r1 =>
  Option.bind (α := ((List T_api_Step) × (List Int) × (List Int) × (List Int) × (List Int))) (
    (d_slices_Clone_api_Step a2.Steps).bind fun r13 =>
    (d_slices_Clone_int a2.Routes).bind fun r14 =>
    (d_slices_Clone_int a2.Starts).bind fun r15 =>
    (d_slices_Clone_int a2.Ends).bind fun r16 =>
    (d_slices_Clone_int a2.Done).bind fun r17 =>
    some (r13, r14, r15, r16, r17)
  ) fun (x8, x9, x10, x11, x12) =>
  (appO x8 r1.Path).bind fun x18 =>
  (appO x9 [a3]).bind fun x19 =>
  (d_claims_inLast a0 r1).bind fun r20 =>
  (appO x10 [w64 ((w64 (a2.At + r1.Length)) - r20)]).bind fun x21 =>
  (appO x11 [w64 (a2.At + r1.Length)]).bind fun x22 =>
  some ((T_api_Track.mk a2.Id a2.Origin r1.Exit (w64 (a2.At + r1.Length)) x18 x19 x21 x22 x12 a2.Min a2.Sent a2.Accepted a2.Cut a2.CutSeq), 0)
set_option maxRecDepth 100000 in
theorem d_claims_Extend_ok (a0 : T_api_Layout) (a1 : T_api_Table) (a2 : T_api_Track) (a3 : Int) (r : (T_api_Track × Int)) (h : d_claims_Extend a0 a1 a2 a3 = some r) : PCall Go.Proofs.Tryz.prog GlS 17 [Enc.pv a0, Enc.pv a1, Enc.pv a2, Enc.pv a3] (.tup [Enc.pv r.1, Enc.pv r.2]) := by
  unfold d_claims_Extend at h
  refine pcall_of_pwpV Go.Proofs.Tryz.func17 (by rfl) rfl Go.Proofs.Tryz.ntmps17 (by rfl) rfl ?_
  refine pwpD_seq (r_reg ?_)
  refine zE ?_
  refine qd_next ?_
  refine pwpD_defer 1 42 [.ref 8 0, .ref 9 0] (by rfl) ?_
  refine zE ?_
  refine ⟨by kernel_rfl, by kernel_rfl, by kernel_rfl, ?_⟩
  refine pwp_seq (r_regE ?_)
  refine wlE_run 0 3 ?_
  refine zE ?_
  rcases o_panV h with ⟨e2, h1, h⟩ | ⟨r1, h1, h⟩
  · refine p_callNV (d_claims_follow_ok _ _ _ (.inl e2) h1) (by kernel_rfl) fun ch hpan => ?_
    refine q_seq_pan ?_
    refine qw_pan hpan (q_dendV (x := some (91, [(.i64, e2)])) (caps := [.ref 8 0, .ref 9 0]) (by kernel_rfl) Go.Proofs.Tryz.func42 (by rfl) rfl Go.Proofs.Tryz.ntmps42 (by rfl) ?_)
    refine pwpV_wkr ((wkr_ren 1 (by kernel_rfl)).trans (.of (j := ⟨[(0, .ref 1008 0), (1, .ref 1009 0), (25, .ref 1008 0), (26, .ref 1009 0), (75, .fn 42 [.ref 1008 0, .ref 1009 0])], [(1008, .cells ([.int .i64 0, .int .i64 0, .int .i64 0, .int .i64 0, .nil, .nil, .nil, .nil, .nil, .int .i64 0, .int .i64 0, .int .i64 0, .int .i64 0, .int .i64 0])), (1009, .cells ([.int .i64 0]))], [], []⟩) (n := 5900076) (by kernel_rfl) (by kernel_rfl))) ?_
    refine r_recoverV ⟨rfl, rfl, rfl, rfl, fun _ _ => rfl, fun _ _ => rfl⟩ (by kernel_rfl) ?_
    refine pwp_seq (r_reg ?_)
    refine zR 1 ?_
    refine p_ifn (t := 20) (b := true) (by kernel_rfl) (by kernel_rfl) ?_
    refine zN ?_
    refine q_next ?_
    refine r_cond_t (b := true) rfl (by kernel_rfl) ?_
    refine pwp_seq (r_reg ?_)
    refine zE ?_
    refine q_next (pwp_seq (r_reg ?_))
    refine zR 1 ?_
    refine p_tya (cs := [(.i64, e2)]) (by kernel_rfl) ?_
    refine zE ?_
    refine q_next (pwp_seq (r_reg ?_))
    refine zE ?_
    refine q_next ?_
    refine r_cond_t (b := true) rfl (by kernel_rfl) ?_
    refine r_reg ?_
    refine zE ?_
    cases h
    exact q_dfin (by kernel_rfl) (by kernel_rfl) (by kernel_rfl)
  refine p_callSV (d_claims_follow_ok _ _ _ (.inr r1) h1) (by kernel_rfl) (by kernel_rfl) ?_
  refine wlE_run 4 2 ?_
  refine zE ?_
  refine wlE_end (q_next (pwp_seq (r_regi ?_)))
  refine wl_run 0 1 ?_
  refine zE ?_
  refine wl_ren 3 ⟨[(3, .int .i64 a3), (4, .ref 3004 0), (8, .ref 3008 0), (9, .ref 3009 0), (10, .ref 3010 0), (16, Enc.pv a2), (58, .fn 42 [.ref 3008 0, .ref 3009 0])], [(3004, .cells (cellsOf a0)), (3008, .cells ([.int .i64 0, .int .i64 0, .int .i64 0, .int .i64 0, .nil, .nil, .nil, .nil, .nil, .int .i64 0, .int .i64 0, .int .i64 0, .int .i64 0, .int .i64 0])), (3009, .cells ([.int .i64 0])), (3010, .cells (cellsOf r1))], [], []⟩ 100059 (by kernel_rfl) (by kernel_rfl) (by kernel_rfl) ?_
  obtain ⟨o7, h7, h⟩ := o_bind h
  refine p_inl (f := 44) (asx := [Enc.pv a2]) (by kernel_rfl) Go.Proofs.Tryz.func44 (by rfl) rfl Go.Proofs.Tryz.ntmps44 (by rfl) ?_
  refine r_joinI o7 5900083 (fun (x8, x9, x10, x11, x12) => ⟨[(2, .ref 2 0), (27, .int .i64 a3), (28, .ref 3004 0), (32, .ref 3008 0), (33, .ref 3009 0), (34, .ref 3010 0), (82, .fn 42 [.ref 3008 0, .ref 3009 0])], [(2, .cells ([.int .i64 a2.Id, .int .i64 a2.Origin, .int .i64 a2.End, .int .i64 a2.At, lstOf (.own 5007) (x8 : (List T_api_Step)), lstOf (.own 9007) (x9 : (List Int)), lstOf (.own 13007) (x10 : (List Int)), lstOf (.own 17007) (x11 : (List Int)), lstOf (.own 21007) (x12 : (List Int)), .int .i64 a2.Min, .int .i64 a2.Sent, .int .i64 a2.Accepted, .int .i64 a2.Cut, .int .i64 a2.CutSeq])), (3004, .cells (cellsOf a0)), (3008, .cells ([.int .i64 0, .int .i64 0, .int .i64 0, .int .i64 0, .nil, .nil, .nil, .nil, .nil, .int .i64 0, .int .i64 0, .int .i64 0, .int .i64 0, .int .i64 0])), (3009, .cells ([.int .i64 0])), (3010, .cells (cellsOf r1))], [(5007, (((x8).map cellsOf).length, 3)), (9007, (((x9).map cellsOf).length, 1)), (13007, (((x10).map cellsOf).length, 1)), (17007, (((x11).map cellsOf).length, 1)), (21007, (((x12).map cellsOf).length, 1))], []⟩) ?_ ?_
  · refine pwp_seq (r_reg ?_)
    refine zE ?_
    refine q_next (pwp_seq (r_reg ?_))
    refine zR 2 ?_
    obtain ⟨r13, h8, h7⟩ := o_bind h7
    refine p_call (d_slices_Clone_api_Step_ok _ r13 h8) (by kernel_rfl) (by kernel_rfl) ?_
    refine zE ?_
    refine q_next (pwp_seq (r_reg ?_))
    refine zR 2 ?_
    obtain ⟨r14, h9, h7⟩ := o_bind h7
    refine p_call (d_slices_Clone_int_ok _ r14 h9) (by kernel_rfl) (by kernel_rfl) ?_
    refine zE ?_
    refine q_next (pwp_seq (r_reg ?_))
    refine zR 2 ?_
    obtain ⟨r15, h10, h7⟩ := o_bind h7
    refine p_call (d_slices_Clone_int_ok _ r15 h10) (by kernel_rfl) (by kernel_rfl) ?_
    refine zE ?_
    refine q_next (pwp_seq (r_reg ?_))
    refine zR 2 ?_
    obtain ⟨r16, h11, h7⟩ := o_bind h7
    refine p_call (d_slices_Clone_int_ok _ r16 h11) (by kernel_rfl) (by kernel_rfl) ?_
    refine zE ?_
    refine q_next (pwp_seq (r_reg ?_))
    refine zR 2 ?_
    obtain ⟨r17, h12, h7⟩ := o_bind h7
    refine p_call (d_slices_Clone_int_ok _ r17 h12) (by kernel_rfl) (by kernel_rfl) ?_
    refine zE ?_
    refine q_next (pwp_seq (r_reg ?_))
    refine zE ?_
    refine q_next (pwp_ret ?_)
    cases h7
    exact q_ij (by kernel_rfl) (by kernel_rfl)
  obtain ⟨x8, x9, x10, x11, x12⟩ := o7
  refine q_inl (r := .agg [.int .i64 a2.Id, .int .i64 a2.Origin, .int .i64 a2.End, .int .i64 a2.At, lstOf (.own 5007) (x8 : (List T_api_Step)), lstOf (.own 9007) (x9 : (List Int)), lstOf (.own 13007) (x10 : (List Int)), lstOf (.own 17007) (x11 : (List Int)), lstOf (.own 21007) (x12 : (List Int)), .int .i64 a2.Min, .int .i64 a2.Sent, .int .i64 a2.Accepted, .int .i64 a2.Cut, .int .i64 a2.CutSeq]) (by kernel_rfl) ?_
  refine wl_ren 4 ⟨[(3, .int .i64 a3), (4, .ref 3004 0), (8, .ref 3008 0), (9, .ref 3009 0), (10, .ref 3010 0), (17, .agg [.int .i64 a2.Id, .int .i64 a2.Origin, .int .i64 a2.End, .int .i64 a2.At, lstOf (.own 4005007) (x8 : (List T_api_Step)), lstOf (.own 4009007) (x9 : (List Int)), lstOf (.own 4013007) (x10 : (List Int)), lstOf (.own 4017007) (x11 : (List Int)), lstOf (.own 4021007) (x12 : (List Int)), .int .i64 a2.Min, .int .i64 a2.Sent, .int .i64 a2.Accepted, .int .i64 a2.Cut, .int .i64 a2.CutSeq]), (58, .fn 42 [.ref 3008 0, .ref 3009 0])], [(3004, .cells (cellsOf a0)), (3008, .cells ([.int .i64 0, .int .i64 0, .int .i64 0, .int .i64 0, .nil, .nil, .nil, .nil, .nil, .int .i64 0, .int .i64 0, .int .i64 0, .int .i64 0, .int .i64 0])), (3009, .cells ([.int .i64 0])), (3010, .cells (cellsOf r1))], [(4005007, (((x8).map cellsOf).length, 3)), (4009007, (((x9).map cellsOf).length, 1)), (4013007, (((x10).map cellsOf).length, 1)), (4017007, (((x11).map cellsOf).length, 1)), (4021007, (((x12).map cellsOf).length, 1))], []⟩ 100059 (by kernel_rfl) (by kernel_rfl) (by kernel_rfl) ?_
  refine wl_ren 3 ⟨[(3, .int .i64 a3), (4, .ref 4 0), (8, .ref 8 0), (9, .ref 9 0), (10, .ref 10 0), (17, .agg [.int .i64 a2.Id, .int .i64 a2.Origin, .int .i64 a2.End, .int .i64 a2.At, lstOf (.own 4005007) (x8 : (List T_api_Step)), lstOf (.own 4009007) (x9 : (List Int)), lstOf (.own 4013007) (x10 : (List Int)), lstOf (.own 4017007) (x11 : (List Int)), lstOf (.own 4021007) (x12 : (List Int)), .int .i64 a2.Min, .int .i64 a2.Sent, .int .i64 a2.Accepted, .int .i64 a2.Cut, .int .i64 a2.CutSeq]), (58, .fn 42 [.ref 8 0, .ref 9 0])], [(4, .cells (cellsOf a0)), (8, .cells ([.int .i64 0, .int .i64 0, .int .i64 0, .int .i64 0, .nil, .nil, .nil, .nil, .nil, .int .i64 0, .int .i64 0, .int .i64 0, .int .i64 0, .int .i64 0])), (9, .cells ([.int .i64 0])), (10, .cells (cellsOf r1))], [(4005007, (((x8).map cellsOf).length, 3)), (4009007, (((x9).map cellsOf).length, 1)), (4013007, (((x10).map cellsOf).length, 1)), (4017007, (((x11).map cellsOf).length, 1)), (4021007, (((x12).map cellsOf).length, 1))], []⟩ 100059 (by kernel_rfl) (by kernel_rfl) (by kernel_rfl) ?_
  refine wl_run 2 1 ?_
  refine zE ?_
  refine wl_end (q_next (pwp_seq (r_reg ?_)))
  refine zE ?_
  refine q_next (pwp_seq (r_reg ?_))
  refine zE ?_
  refine q_next (pwp_seq (r_reg ?_))
  refine zR 4 ?_
  obtain ⟨x18, h13, h⟩ := o_bind h
  refine p_app (tk := 4005007) h13 (by kernel_rfl) (by kernel_rfl) ?_
  refine zE ?_
  refine q_next (pwp_seq (r_reg ?_))
  refine zR 4 ?_
  obtain ⟨x19, h14, h⟩ := o_bind h
  refine p_app (tk := 4009007) h14 (by kernel_rfl) (by kernel_rfl) ?_
  refine zE ?_
  refine q_next (pwp_seq ?_)
  refine r_regd (by kernel_rfl) (by kernel_rfl) ?_
  refine zR 6 ?_
  obtain ⟨r20, h15, h⟩ := o_bind h
  refine p_call (d_claims_inLast_ok _ _ r20 h15) (by kernel_rfl) (by kernel_rfl) ?_
  refine zR 2 ?_
  obtain ⟨x21, h16, h⟩ := o_bind h
  refine p_app (tk := 4013007) h16 (by kernel_rfl) (by kernel_rfl) ?_
  refine zE ?_
  refine q_next (pwp_seq (r_reg ?_))
  refine zR 5 ?_
  obtain ⟨x22, h17, h⟩ := o_bind h
  refine p_app (tk := 4017007) h17 (by kernel_rfl) (by kernel_rfl) ?_
  refine zE ?_
  refine q_next (pwp_seq (r_reg ?_))
  refine zE ?_
  refine q_next (pwp_ret ?_)
  refine qw_ret (q_dendV (x := none) (caps := [.ref 8 0, .ref 9 0]) (by kernel_rfl) Go.Proofs.Tryz.func42 (by rfl) rfl Go.Proofs.Tryz.ntmps42 (by rfl) ?_)
  refine pwpV_wkr ((wkr_ren 5 (by kernel_rfl)).trans (.of (j := ⟨[(0, .ref 5008 0), (1, .ref 5009 0), (25, .ref 5008 0), (26, .ref 5009 0), (75, .fn 42 [.ref 5008 0, .ref 5009 0])], [(5008, .cells ([.int .i64 a2.Id, .int .i64 a2.Origin, .int .i64 r1.Exit, .int .i64 (w64 (a2.At + r1.Length)), lstOf (.own 4005007) (x18 : (List T_api_Step)), lstOf (.own 4009007) (x19 : (List Int)), lstOf (.own 4013007) (x21 : (List Int)), lstOf (.own 4017007) (x22 : (List Int)), lstOf (.own 4021007) (x12 : (List Int)), .int .i64 a2.Min, .int .i64 a2.Sent, .int .i64 a2.Accepted, .int .i64 a2.Cut, .int .i64 a2.CutSeq])), (5009, .cells ([.int .i64 0]))], [(4005007, (((x18).map cellsOf).length, 3)), (4009007, (((x19).map cellsOf).length, 1)), (4013007, (((x21).map cellsOf).length, 1)), (4017007, (((x22).map cellsOf).length, 1)), (4021007, (((x12).map cellsOf).length, 1))], []⟩) (n := 5900076) (by kernel_rfl) (by kernel_rfl))) ?_
  refine r_recoverV ⟨rfl, rfl, rfl, rfl, fun _ _ => rfl, fun _ _ => rfl⟩ (by kernel_rfl) ?_
  refine pwp_seq (r_reg ?_)
  refine zR 1 ?_
  refine p_ifn (t := 20) (b := false) (by kernel_rfl) (by kernel_rfl) ?_
  refine zN ?_
  refine q_next ?_
  refine r_cond_f (b := false) rfl (by kernel_rfl) ?_
  refine pwp_skip ?_
  cases h
  exact q_dfin (by kernel_rfl) (by kernel_rfl) (by kernel_rfl)

/-! integrity.Rear -/
noncomputable def d_integrity_Rear (a0 : T_api_Train) (a1 : Int) : Option Int :=
  bif ((decide (a1 < (-2147483648))) || (decide ((w64 (a1 - a0.Length)) < (-2147483648)))) then (
    some (-2147483648)
  ) else (
    some (w64 (a1 - a0.Length))
  )
theorem d_integrity_Rear_ok (a0 : T_api_Train) (a1 : Int) (r : Int) (h : d_integrity_Rear a0 a1 = some r) : PCall Go.Proofs.Tryz.prog GlS 49 [Enc.pv a0, Enc.pv a1] (Enc.pv r) := by
  unfold d_integrity_Rear at h
  refine pcall_of_pwp Go.Proofs.Tryz.func49 (by rfl) rfl Go.Proofs.Tryz.ntmps49 (by rfl) rfl ?_
  refine pwp_seq (r_reg ?_)
  refine zE ?_
  refine q_next (pwp_seq (pwp_seq (r_reg ?_)))
  refine zR 3 ?_
  refine e_segb 6 13 ((decide (a1 < (-2147483648))) || (decide ((w64 (a1 - a0.Length)) < (-2147483648)))) (fun x hx => ?_) ?_
  · rcases b_or hx with ⟨hb, hx⟩ | ⟨hb, hx⟩
    · refine zS 7 hb ?_
      subst hx
      exact zF
    refine zS 7 hb ?_
    subst hx
    exact zF
  refine zN ?_
  refine q_next ?_
  rcases o_cond h with ⟨hb, h⟩ | ⟨hb, h⟩
  · refine zT hb ?_
    refine pwp_seq (r_reg ?_)
    refine zE ?_
    refine q_next (pwp_ret (q_seq_ret ?_))
    cases h
    exact zQ
  refine zU hb ?_
  refine pwp_skip (q_next (pwp_seq (r_reg ?_)))
  refine zE ?_
  refine q_next (pwp_ret ?_)
  cases h
  exact zQ

/-! integrity.Beyond -/
noncomputable def d_integrity_Beyond (a0 : T_api_Train) (a1 : T_api_Report) (a2 : Int) : Option Bool :=
  ((bif a1.Whole then (
    (d_integrity_Rear a0 a1.Min).bind fun r2 =>
    some (decide (a2 ≤ r2))
  ) else some false) : Option Bool).bind fun b1 =>
  some b1
theorem d_integrity_Beyond_ok (a0 : T_api_Train) (a1 : T_api_Report) (a2 : Int) (r : Bool) (h : d_integrity_Beyond a0 a1 a2 = some r) : PCall Go.Proofs.Tryz.prog GlS 47 [Enc.pv a0, Enc.pv a1, Enc.pv a2] (Enc.pv r) := by
  unfold d_integrity_Beyond at h
  refine pcall_of_pwp Go.Proofs.Tryz.func47 (by rfl) rfl Go.Proofs.Tryz.ntmps47 (by rfl) rfl ?_
  refine pwp_seq (r_reg ?_)
  refine zE ?_
  refine q_next (pwp_seq (r_reg ?_))
  obtain ⟨b1, h1, h⟩ := o_bind h
  refine zR 3 ?_
  refine e_seg 7 16 (.bool b1) ?_ ?_
  · rcases o_cond h1 with ⟨hb, h1⟩ | ⟨hb, h1⟩
    · refine zS 9 hb ?_
      refine zR 3 ?_
      obtain ⟨r2, h2, h1⟩ := o_bind h1
      refine p_call (d_integrity_Rear_ok _ _ r2 h2) (by kernel_rfl) (by kernel_rfl) ?_
      cases h1
      exact zF
    refine zS 9 hb ?_
    cases h1
    exact zF
  refine zE ?_
  refine q_next (pwp_ret ?_)
  cases h
  exact zQ

/-! claims.Report -/
noncomputable def d_claims_Report_0 (a2 : T_api_Train) (a4 : T_api_Report) : ((List Int) × (List Int) × (List Int) × (List Int)) → Option (((List Int) × (List Int) × (List Int) × (List Int)) ⊕ (((List Int) × (List Int) × (List Int) × (List Int)) ⊕ T_api_Track)) := fun (x51, x52, x53, x54) =>
  ((bif decide (0 < ((x52.length : Nat) : Int)) then (
    some (decide (0 < ((x53.length : Nat) : Int)))
  ) else some false) : Option Bool).bind fun b76 =>
  ((bif b76 then (
    some (decide (0 < ((x54.length : Nat) : Int)))
  ) else some false) : Option Bool).bind fun b77 =>
  ((bif b77 then (
    (ixO x53 0).bind fun x79 =>
    (d_integrity_Beyond a2 a4 x79).bind fun r80 =>
    some r80
  ) else some false) : Option Bool).bind fun b78 =>
  bif b78 then (
    onInl (α := (List Int)) (β := (((List Int) × (List Int) × (List Int) × (List Int)) ⊕ (((List Int) × (List Int) × (List Int) × (List Int)) ⊕ T_api_Track))) (
      (ixO x52 0).bind fun x86 =>
      (d_slices_Contains_int x51 x86).bind fun r87 =>
      bif (!r87) then (
        (ixO x52 0).bind fun x88 =>
        (appO x51 [x88]).bind fun x89 =>
        some (.inl x89)
      ) else (
        some (.inl x51)
      )
    ) fun x85 =>
    (slO x52 (some 1) none none).bind fun x90 =>
    (slO x53 (some 1) none none).bind fun x91 =>
    (slO x54 (some 1) none none).bind fun x92 =>
    some (.inl (x85, x90, x91, x92))
  ) else (
    some (.inr (.inl (x52, x53, x54, x51)))
  )

noncomputable def d_claims_Report_1 (a0 : T_api_Layout) (r125 : Int) : (Int × (List T_api_Step)) → Option ((Int × (List T_api_Step)) ⊕ ((Int × (List T_api_Step)) ⊕ ((Int × (List T_api_Step)) ⊕ T_api_Track))) := fun (x139, x140) =>
  ((bif decide (2 ≤ ((x140.length : Nat) : Int)) then (
    (ixO x140 0).bind fun x150 =>
    (d_claims_length a0 x150).bind fun r151 =>
    some (decide ((w64 (x139 + r151)) ≤ r125))
  ) else some false) : Option Bool).bind fun b149 =>
  bif b149 then (
    (ixO x140 0).bind fun x152 =>
    (d_claims_length a0 x152).bind fun r153 =>
    (slO x140 (some 1) none none).bind fun x154 =>
    some (.inl (w64 (x139 + r153), x154))
  ) else (
    some (.inr (.inl (x139, x140)))
  )

noncomputable def d_claims_Report (a0 : T_api_Layout) (a1 : T_api_Table) (a2 : T_api_Train) (a3 : T_api_Track) (a4 : T_api_Report) : Option T_api_Track :=
  Option.bind (α := ((List T_api_Step) × (List Int) × (List Int) × (List Int) × (List Int))) (
    (d_slices_Clone_api_Step a3.Steps).bind fun r11 =>
    (d_slices_Clone_int a3.Routes).bind fun r12 =>
    (d_slices_Clone_int a3.Starts).bind fun r13 =>
    (d_slices_Clone_int a3.Ends).bind fun r14 =>
    (d_slices_Clone_int a3.Done).bind fun r15 =>
    some (r11, r12, r13, r14, r15)
  ) fun (x6, x7, x8, x9, x10) =>
  onInl (α := Unit) (β := T_api_Track) (
    bif ((!(decide (a3.CutSeq = 0))) && (decide (a3.CutSeq ≤ (max a3.Accepted (min a3.Sent a4.Accepted))))) then (
      none
    ) else (
      some (.inl ())
    )
  ) fun _ =>
  onInl (α := ((List Int) × (List Int) × (List Int) × (List Int))) (β := T_api_Track) (loopO (d_claims_Report_0 a2 a4) (x10, x7, x8, x9)) fun (x72, x73, x74, x75) =>
  onInl (α := (Int × (List T_api_Step))) (β := T_api_Track) (
    bif a4.Whole then (
      (d_integrity_Rear a2 (max a3.Min a4.Min)).bind fun r125 =>
      onInl (α := (Int × (List T_api_Step))) (β := ((Int × (List T_api_Step)) ⊕ T_api_Track)) (loopO (d_claims_Report_1 a0 r125) (a3.Origin, x6)) fun (x147, x148) =>
      some (.inl (x147, x148))
    ) else (
      some (.inl (a3.Origin, x6))
    )
  ) fun (x123, x124) =>
  some (T_api_Track.mk a3.Id x123 a3.End a3.At x124 x72 x73 x74 x75 (max a3.Min a4.Min) a3.Sent (max a3.Accepted (min a3.Sent a4.Accepted)) a3.Cut a3.CutSeq)
set_option maxRecDepth 100000 in
theorem d_claims_Report_ok (a0 : T_api_Layout) (a1 : T_api_Table) (a2 : T_api_Train) (a3 : T_api_Track) (a4 : T_api_Report) (r : T_api_Track) (h : d_claims_Report a0 a1 a2 a3 a4 = some r) : PCall Go.Proofs.Tryz.prog GlS 18 [Enc.pv a0, Enc.pv a1, Enc.pv a2, Enc.pv a3, Enc.pv a4] (Enc.pv r) := by
  unfold d_claims_Report at h
  refine pcall_of_pwp Go.Proofs.Tryz.func18 (by rfl) rfl Go.Proofs.Tryz.ntmps18 (by rfl) rfl ?_
  refine pwp_seq (r_reg ?_)
  refine zE ?_
  refine q_next (pwp_seq (r_regi ?_))
  refine wl_run 0 1 ?_
  refine zE ?_
  refine wl_ren 1 ⟨[(5, .ref 1005 0), (6, .ref 1006 0), (7, .ref 1007 0), (8, .ref 1008 0), (9, .ref 1009 0), (10, .ref 1010 0), (12, Enc.pv a3)], [(1005, .cells (cellsOf a0)), (1006, .cells (cellsOf a1)), (1007, .cells (cellsOf a2)), (1008, .cells (cellsOf a3)), (1009, .cells (cellsOf a4)), (1010, .cells ([.int .i64 0, .int .i64 0, .int .i64 0, .int .i64 0, .nil, .nil, .nil, .nil, .nil, .int .i64 0, .int .i64 0, .int .i64 0, .int .i64 0, .int .i64 0]))], [], []⟩ 135 (by kernel_rfl) (by kernel_rfl) (by kernel_rfl) ?_
  obtain ⟨o6, h6, h⟩ := o_bind h
  refine p_inl (f := 44) (asx := [Enc.pv a3]) (by kernel_rfl) Go.Proofs.Tryz.func44 (by rfl) rfl Go.Proofs.Tryz.ntmps44 (by rfl) ?_
  refine r_joinI o6 13500159 (fun (x6, x7, x8, x9, x10) => ⟨[(2, .ref 2 0), (29, .ref 1005 0), (30, .ref 1006 0), (31, .ref 1007 0), (32, .ref 1008 0), (33, .ref 1009 0), (34, .ref 1010 0)], [(2, .cells ([.int .i64 a3.Id, .int .i64 a3.Origin, .int .i64 a3.End, .int .i64 a3.At, lstOf (.own 5007) (x6 : (List T_api_Step)), lstOf (.own 9007) (x7 : (List Int)), lstOf (.own 13007) (x8 : (List Int)), lstOf (.own 17007) (x9 : (List Int)), lstOf (.own 21007) (x10 : (List Int)), .int .i64 a3.Min, .int .i64 a3.Sent, .int .i64 a3.Accepted, .int .i64 a3.Cut, .int .i64 a3.CutSeq])), (1005, .cells (cellsOf a0)), (1006, .cells (cellsOf a1)), (1007, .cells (cellsOf a2)), (1008, .cells (cellsOf a3)), (1009, .cells (cellsOf a4)), (1010, .cells ([.int .i64 0, .int .i64 0, .int .i64 0, .int .i64 0, .nil, .nil, .nil, .nil, .nil, .int .i64 0, .int .i64 0, .int .i64 0, .int .i64 0, .int .i64 0]))], [(5007, (((x6).map cellsOf).length, 3)), (9007, (((x7).map cellsOf).length, 1)), (13007, (((x8).map cellsOf).length, 1)), (17007, (((x9).map cellsOf).length, 1)), (21007, (((x10).map cellsOf).length, 1))], []⟩) ?_ ?_
  · refine pwp_seq (r_reg ?_)
    refine zE ?_
    refine q_next (pwp_seq (r_reg ?_))
    refine zR 2 ?_
    obtain ⟨r11, h7, h6⟩ := o_bind h6
    refine p_call (d_slices_Clone_api_Step_ok _ r11 h7) (by kernel_rfl) (by kernel_rfl) ?_
    refine zE ?_
    refine q_next (pwp_seq (r_reg ?_))
    refine zR 2 ?_
    obtain ⟨r12, h8, h6⟩ := o_bind h6
    refine p_call (d_slices_Clone_int_ok _ r12 h8) (by kernel_rfl) (by kernel_rfl) ?_
    refine zE ?_
    refine q_next (pwp_seq (r_reg ?_))
    refine zR 2 ?_
    obtain ⟨r13, h9, h6⟩ := o_bind h6
    refine p_call (d_slices_Clone_int_ok _ r13 h9) (by kernel_rfl) (by kernel_rfl) ?_
    refine zE ?_
    refine q_next (pwp_seq (r_reg ?_))
    refine zR 2 ?_
    obtain ⟨r14, h10, h6⟩ := o_bind h6
    refine p_call (d_slices_Clone_int_ok _ r14 h10) (by kernel_rfl) (by kernel_rfl) ?_
    refine zE ?_
    refine q_next (pwp_seq (r_reg ?_))
    refine zR 2 ?_
    obtain ⟨r15, h11, h6⟩ := o_bind h6
    refine p_call (d_slices_Clone_int_ok _ r15 h11) (by kernel_rfl) (by kernel_rfl) ?_
    refine zE ?_
    refine q_next (pwp_seq (r_reg ?_))
    refine zE ?_
    refine q_next (pwp_ret ?_)
    cases h6
    exact q_ij (by kernel_rfl) (by kernel_rfl)
  obtain ⟨x6, x7, x8, x9, x10⟩ := o6
  refine q_inl (r := .agg [.int .i64 a3.Id, .int .i64 a3.Origin, .int .i64 a3.End, .int .i64 a3.At, lstOf (.own 5007) (x6 : (List T_api_Step)), lstOf (.own 9007) (x7 : (List Int)), lstOf (.own 13007) (x8 : (List Int)), lstOf (.own 17007) (x9 : (List Int)), lstOf (.own 21007) (x10 : (List Int)), .int .i64 a3.Min, .int .i64 a3.Sent, .int .i64 a3.Accepted, .int .i64 a3.Cut, .int .i64 a3.CutSeq]) (by kernel_rfl) ?_
  refine wl_ren 2 ⟨[(5, .ref 1005 0), (6, .ref 1006 0), (7, .ref 1007 0), (8, .ref 1008 0), (9, .ref 1009 0), (10, .ref 1010 0), (13, .agg [.int .i64 a3.Id, .int .i64 a3.Origin, .int .i64 a3.End, .int .i64 a3.At, lstOf (.own 2005007) (x6 : (List T_api_Step)), lstOf (.own 2009007) (x7 : (List Int)), lstOf (.own 2013007) (x8 : (List Int)), lstOf (.own 2017007) (x9 : (List Int)), lstOf (.own 2021007) (x10 : (List Int)), .int .i64 a3.Min, .int .i64 a3.Sent, .int .i64 a3.Accepted, .int .i64 a3.Cut, .int .i64 a3.CutSeq])], [(1005, .cells (cellsOf a0)), (1006, .cells (cellsOf a1)), (1007, .cells (cellsOf a2)), (1008, .cells (cellsOf a3)), (1009, .cells (cellsOf a4)), (1010, .cells ([.int .i64 0, .int .i64 0, .int .i64 0, .int .i64 0, .nil, .nil, .nil, .nil, .nil, .int .i64 0, .int .i64 0, .int .i64 0, .int .i64 0, .int .i64 0]))], [(2005007, (((x6).map cellsOf).length, 3)), (2009007, (((x7).map cellsOf).length, 1)), (2013007, (((x8).map cellsOf).length, 1)), (2017007, (((x9).map cellsOf).length, 1)), (2021007, (((x10).map cellsOf).length, 1))], []⟩ 135 (by kernel_rfl) (by kernel_rfl) (by kernel_rfl) ?_
  refine wl_ren 1 ⟨[(5, .ref 5 0), (6, .ref 6 0), (7, .ref 7 0), (8, .ref 8 0), (9, .ref 9 0), (10, .ref 10 0), (13, .agg [.int .i64 a3.Id, .int .i64 a3.Origin, .int .i64 a3.End, .int .i64 a3.At, lstOf (.own 2005007) (x6 : (List T_api_Step)), lstOf (.own 2009007) (x7 : (List Int)), lstOf (.own 2013007) (x8 : (List Int)), lstOf (.own 2017007) (x9 : (List Int)), lstOf (.own 2021007) (x10 : (List Int)), .int .i64 a3.Min, .int .i64 a3.Sent, .int .i64 a3.Accepted, .int .i64 a3.Cut, .int .i64 a3.CutSeq])], [(5, .cells (cellsOf a0)), (6, .cells (cellsOf a1)), (7, .cells (cellsOf a2)), (8, .cells (cellsOf a3)), (9, .cells (cellsOf a4)), (10, .cells ([.int .i64 0, .int .i64 0, .int .i64 0, .int .i64 0, .nil, .nil, .nil, .nil, .nil, .int .i64 0, .int .i64 0, .int .i64 0, .int .i64 0, .int .i64 0]))], [(2005007, (((x6).map cellsOf).length, 3)), (2009007, (((x7).map cellsOf).length, 1)), (2013007, (((x8).map cellsOf).length, 1)), (2017007, (((x9).map cellsOf).length, 1)), (2021007, (((x10).map cellsOf).length, 1))], []⟩ 135 (by kernel_rfl) (by kernel_rfl) (by kernel_rfl) ?_
  refine wl_run 2 1 ?_
  refine zE ?_
  refine wl_end (q_next (pwp_seq (r_reg ?_)))
  refine zE ?_
  refine q_next (pwp_seq (r_reg ?_))
  refine zE ?_
  refine q_next ?_
  obtain ⟨o12, h12, h⟩ := o_inl h
  refine r_join (o := o12) 135 (fun (_ : Unit) => ⟨[(5, .ref 5 0), (7, .ref 7 0), (8, .ref 8 0), (9, .ref 9 0), (10, .ref 10 0)], [(5, .cells (cellsOf a0)), (7, .cells (cellsOf a2)), (8, .cells ([.int .i64 a3.Id, .int .i64 a3.Origin, .int .i64 a3.End, .int .i64 a3.At, lstOf (.own 2005007) (x6 : (List T_api_Step)), lstOf (.own 2009007) (x7 : (List Int)), lstOf (.own 2013007) (x8 : (List Int)), lstOf (.own 2017007) (x9 : (List Int)), lstOf (.own 2021007) (x10 : (List Int)), .int .i64 (max a3.Min a4.Min), .int .i64 a3.Sent, .int .i64 (max a3.Accepted (min a3.Sent a4.Accepted)), .int .i64 a3.Cut, .int .i64 a3.CutSeq])), (9, .cells (cellsOf a4)), (10, .cells ([.int .i64 0, .int .i64 0, .int .i64 0, .int .i64 0, .nil, .nil, .nil, .nil, .nil, .int .i64 0, .int .i64 0, .int .i64 0, .int .i64 0, .int .i64 0]))], [(2005007, (((x6).map cellsOf).length, 3)), (2009007, (((x7).map cellsOf).length, 1)), (2013007, (((x8).map cellsOf).length, 1)), (2017007, (((x9).map cellsOf).length, 1)), (2021007, (((x10).map cellsOf).length, 1))], []⟩) ?_ ?_
  · refine pwp_seq (r_reg ?_)
    refine zR 4 ?_
    refine e_segb 6 38 ((!(decide (a3.CutSeq = 0))) && (decide (a3.CutSeq ≤ (max a3.Accepted (min a3.Sent a4.Accepted))))) (fun x hx => ?_) ?_
    · rcases b_and hx with ⟨hb, hx⟩ | ⟨hb, hx⟩
      · refine zS 32 hb ?_
        subst hx
        exact zF
      refine zS 32 hb ?_
      subst hx
      exact zF
    refine zN ?_
    refine q_next ?_
    rcases o_cond h12 with ⟨hb, h12⟩ | ⟨hb, h12⟩
    · refine zT hb ?_
      cases h12
    refine zU hb ?_
    refine pwp_skip ?_
    cases h12
    exact zJ
  rintro _ rfl
  have h := o_outl h
  refine pwp_seq (pwp_block ?_)
  obtain ⟨o65, h65, h⟩ := o_inl h
  refine r_loop2 135 0 (fun (x51, x52, x53, x54) => ⟨[(5, .ref 5 0), (7, .ref 7 0), (8, .ref 8 0), (9, .ref 9 0), (10, .ref 10 0)], [(5, .cells (cellsOf a0)), (7, .cells (cellsOf a2)), (8, .cells ([.int .i64 a3.Id, .int .i64 a3.Origin, .int .i64 a3.End, .int .i64 a3.At, lstOf (.own 2005007) (x6 : (List T_api_Step)), lstOf .frozen (x52 : (List Int)), lstOf .frozen (x53 : (List Int)), lstOf .frozen (x54 : (List Int)), lstOf (.own 2021007) (x51 : (List Int)), .int .i64 (max a3.Min a4.Min), .int .i64 a3.Sent, .int .i64 (max a3.Accepted (min a3.Sent a4.Accepted)), .int .i64 a3.Cut, .int .i64 a3.CutSeq])), (9, .cells (cellsOf a4)), (10, .cells ([.int .i64 0, .int .i64 0, .int .i64 0, .int .i64 0, .nil, .nil, .nil, .nil, .nil, .int .i64 0, .int .i64 0, .int .i64 0, .int .i64 0, .int .i64 0]))], [(2005007, (((x6).map cellsOf).length, 3)), (2021007, (((x51).map cellsOf).length, 1))], []⟩) (fun (x72, x73, x74, x75) => ⟨[(5, .ref 5 0), (7, .ref 7 0), (8, .ref 8 0), (9, .ref 9 0), (10, .ref 10 0)], [(5, .cells (cellsOf a0)), (7, .cells (cellsOf a2)), (8, .cells ([.int .i64 a3.Id, .int .i64 a3.Origin, .int .i64 a3.End, .int .i64 a3.At, lstOf (.own 2005007) (x6 : (List T_api_Step)), lstOf .frozen (x72 : (List Int)), lstOf .frozen (x73 : (List Int)), lstOf .frozen (x74 : (List Int)), lstOf (.own 2021007) (x75 : (List Int)), .int .i64 (max a3.Min a4.Min), .int .i64 a3.Sent, .int .i64 (max a3.Accepted (min a3.Sent a4.Accepted)), .int .i64 a3.Cut, .int .i64 a3.CutSeq])), (9, .cells (cellsOf a4)), (10, .cells ([.int .i64 0, .int .i64 0, .int .i64 0, .int .i64 0, .nil, .nil, .nil, .nil, .nil, .int .i64 0, .int .i64 0, .int .i64 0, .int .i64 0, .int .i64 0]))], [(2005007, (((x6).map cellsOf).length, 3)), (2021007, (((x75).map cellsOf).length, 1))], []⟩) h65 (by kernel_rfl) (fun _ => by kernel_rfl) ?_ ?_
  · rintro ⟨x51, x52, x53, x54⟩ oh64 h64
    unfold d_claims_Report_0 at h64
    refine pwp_seq (pwp_seq ?_)
    refine r_regd (by kernel_rfl) (by kernel_rfl) ?_
    refine zR 2 ?_
    refine p_len (L := (x52 : (List Int))) (by kernel_rfl) ?_
    obtain ⟨b76, h66, h64⟩ := o_bind h64
    refine zR 2 ?_
    refine e_seg 5 52 (.bool b76) ?_ ?_
    · rcases o_cond h66 with ⟨hb, h66⟩ | ⟨hb, h66⟩
      · refine zS 47 hb ?_
        refine zR 2 ?_
        refine p_len (L := (x53 : (List Int))) (by kernel_rfl) ?_
        cases h66
        exact zF
      refine zS 47 hb ?_
      cases h66
      exact zF
    obtain ⟨b77, h67, h64⟩ := o_bind h64
    refine zR 1 ?_
    refine e_seg 5 58 (.bool b77) ?_ ?_
    · rcases o_cond h67 with ⟨hb, h67⟩ | ⟨hb, h67⟩
      · refine zS 53 hb ?_
        refine zR 2 ?_
        refine p_len (L := (x54 : (List Int))) (by kernel_rfl) ?_
        cases h67
        exact zF
      refine zS 53 hb ?_
      cases h67
      exact zF
    obtain ⟨b78, h68, h64⟩ := o_bind h64
    refine zR 1 ?_
    refine e_seg 8 67 (.bool b78) ?_ ?_
    · rcases o_cond h68 with ⟨hb, h68⟩ | ⟨hb, h68⟩
      · refine zS 59 hb ?_
        refine zR 4 ?_
        obtain ⟨x79, h69, h68⟩ := o_bind h68
        refine zI h69 ?_
        refine zR 1 ?_
        obtain ⟨r80, h70, h68⟩ := o_bind h68
        refine p_call (d_integrity_Beyond_ok _ _ _ r80 h70) (by kernel_rfl) (by kernel_rfl) ?_
        cases h68
        exact zF
      refine zS 59 hb ?_
      cases h68
      exact zF
    refine zN ?_
    refine q_next ?_
    rcases o_cond h64 with ⟨hb, h64⟩ | ⟨hb, h64⟩
    · refine zT hb ?_
      refine pwp_skip (q_next (pwp_block ?_))
      obtain ⟨o75, h75, h64⟩ := o_inl h64
      refine r_join (o := o75) 135 (fun x85 => ⟨[(5, .ref 5 0), (7, .ref 7 0), (8, .ref 8 0), (9, .ref 9 0), (10, .ref 10 0)], [(5, .cells (cellsOf a0)), (7, .cells (cellsOf a2)), (8, .cells ([.int .i64 a3.Id, .int .i64 a3.Origin, .int .i64 a3.End, .int .i64 a3.At, lstOf (.own 2005007) (x6 : (List T_api_Step)), lstOf .frozen (x52 : (List Int)), lstOf .frozen (x53 : (List Int)), lstOf .frozen (x54 : (List Int)), lstOf (.own 2021007) (x85 : (List Int)), .int .i64 (max a3.Min a4.Min), .int .i64 a3.Sent, .int .i64 (max a3.Accepted (min a3.Sent a4.Accepted)), .int .i64 a3.Cut, .int .i64 a3.CutSeq])), (9, .cells (cellsOf a4)), (10, .cells ([.int .i64 0, .int .i64 0, .int .i64 0, .int .i64 0, .nil, .nil, .nil, .nil, .nil, .int .i64 0, .int .i64 0, .int .i64 0, .int .i64 0, .int .i64 0]))], [(2005007, (((x6).map cellsOf).length, 3)), (2021007, (((x85).map cellsOf).length, 1))], []⟩) ?_ ?_
      · refine pwp_seq ?_
        refine r_regd (by kernel_rfl) (by kernel_rfl) ?_
        refine zR 4 ?_
        obtain ⟨x86, h76, h75⟩ := o_bind h75
        refine zI h76 ?_
        refine zR 1 ?_
        obtain ⟨r87, h77, h75⟩ := o_bind h75
        refine p_call (d_slices_Contains_int_ok _ _ r87 h77) (by kernel_rfl) (by kernel_rfl) ?_
        refine zE ?_
        refine q_next ?_
        rcases o_cond h75 with ⟨hb, h75⟩ | ⟨hb, h75⟩
        · refine zT hb ?_
          refine r_regd (by kernel_rfl) (by kernel_rfl) ?_
          refine zR 4 ?_
          obtain ⟨x88, h78, h75⟩ := o_bind h75
          refine zI h78 ?_
          refine zR 2 ?_
          obtain ⟨x89, h79, h75⟩ := o_bind h75
          refine p_app (tk := 2021007) h79 (by kernel_rfl) (by kernel_rfl) ?_
          refine zE ?_
          cases h75
          exact zJ
        refine zU hb ?_
        refine pwp_skip ?_
        cases h75
        exact zJ
      rintro x85 rfl
      have h64 := o_outl h64
      refine r_regd (by kernel_rfl) (by kernel_rfl) ?_
      refine zR 2 ?_
      obtain ⟨x90, h80, h64⟩ := o_bind h64
      refine p_sl h80 .frozen (by kernel_rfl) (by kernel_rfl) (by kernel_rfl) ?_
      refine zR 2 ?_
      obtain ⟨x91, h81, h64⟩ := o_bind h64
      refine p_sl h81 .frozen (by kernel_rfl) (by kernel_rfl) (by kernel_rfl) ?_
      refine zR 2 ?_
      obtain ⟨x92, h82, h64⟩ := o_bind h64
      refine p_sl h82 .frozen (by kernel_rfl) (by kernel_rfl) (by kernel_rfl) ?_
      refine zE ?_
      refine q_block ?_
      cases h64
      exact zB
    refine zU hb ?_
    refine pwp_exit (q_seq_exit ?_)
    cases h64
    exact zX
  rintro ⟨x72, x73, x74, x75⟩ s' rfl hs
  have h := o_outl h
  refine q_block_hit ?_
  refine q_next (pwp_wkr hs ?_)
  obtain ⟨o110, h110, h⟩ := o_inl h
  refine r_join (o := o110) 135 (fun (x123, x124) => ⟨[(8, .ref 8 0), (10, .ref 10 0)], [(8, .cells ([.int .i64 a3.Id, .int .i64 x123, .int .i64 a3.End, .int .i64 a3.At, lstOf .frozen (x124 : (List T_api_Step)), lstOf .frozen (x72 : (List Int)), lstOf .frozen (x73 : (List Int)), lstOf .frozen (x74 : (List Int)), lstOf (.own 2021007) (x75 : (List Int)), .int .i64 (max a3.Min a4.Min), .int .i64 a3.Sent, .int .i64 (max a3.Accepted (min a3.Sent a4.Accepted)), .int .i64 a3.Cut, .int .i64 a3.CutSeq])), (10, .cells ([.int .i64 0, .int .i64 0, .int .i64 0, .int .i64 0, .nil, .nil, .nil, .nil, .nil, .int .i64 0, .int .i64 0, .int .i64 0, .int .i64 0, .int .i64 0]))], [(2021007, (((x75).map cellsOf).length, 1))], []⟩) ?_ ?_
  · refine pwp_seq (r_reg ?_)
    refine zE ?_
    refine q_next ?_
    rcases o_cond h110 with ⟨hb, h110⟩ | ⟨hb, h110⟩
    · refine zT hb ?_
      refine pwp_seq (r_reg ?_)
      refine zR 3 ?_
      obtain ⟨r125, h111, h110⟩ := o_bind h110
      refine p_call (d_integrity_Rear_ok _ _ r125 h111) (by kernel_rfl) (by kernel_rfl) ?_
      refine zE ?_
      refine q_next (pwp_block ?_)
      obtain ⟨o131, h131, h110⟩ := o_inl h110
      refine r_loop2 135 2 (fun (x139, x140) => ⟨[(5, .ref 5 0), (8, .ref 8 0), (10, .ref 10 0), (11, .int .i64 r125)], [(5, .cells (cellsOf a0)), (8, .cells ([.int .i64 a3.Id, .int .i64 x139, .int .i64 a3.End, .int .i64 a3.At, lstOf .frozen (x140 : (List T_api_Step)), lstOf .frozen (x72 : (List Int)), lstOf .frozen (x73 : (List Int)), lstOf .frozen (x74 : (List Int)), lstOf (.own 2021007) (x75 : (List Int)), .int .i64 (max a3.Min a4.Min), .int .i64 a3.Sent, .int .i64 (max a3.Accepted (min a3.Sent a4.Accepted)), .int .i64 a3.Cut, .int .i64 a3.CutSeq])), (10, .cells ([.int .i64 0, .int .i64 0, .int .i64 0, .int .i64 0, .nil, .nil, .nil, .nil, .nil, .int .i64 0, .int .i64 0, .int .i64 0, .int .i64 0, .int .i64 0]))], [(2021007, (((x75).map cellsOf).length, 1))], []⟩) (fun (x147, x148) => ⟨[(8, .ref 8 0), (10, .ref 10 0)], [(8, .cells ([.int .i64 a3.Id, .int .i64 x147, .int .i64 a3.End, .int .i64 a3.At, lstOf .frozen (x148 : (List T_api_Step)), lstOf .frozen (x72 : (List Int)), lstOf .frozen (x73 : (List Int)), lstOf .frozen (x74 : (List Int)), lstOf (.own 2021007) (x75 : (List Int)), .int .i64 (max a3.Min a4.Min), .int .i64 a3.Sent, .int .i64 (max a3.Accepted (min a3.Sent a4.Accepted)), .int .i64 a3.Cut, .int .i64 a3.CutSeq])), (10, .cells ([.int .i64 0, .int .i64 0, .int .i64 0, .int .i64 0, .nil, .nil, .nil, .nil, .nil, .int .i64 0, .int .i64 0, .int .i64 0, .int .i64 0, .int .i64 0]))], [(2021007, (((x75).map cellsOf).length, 1))], []⟩) h131 (by kernel_rfl) (fun _ => by kernel_rfl) ?_ ?_
      · rintro ⟨x139, x140⟩ oh130 h130
        unfold d_claims_Report_1 at h130
        refine pwp_seq (pwp_seq ?_)
        refine r_regd (by kernel_rfl) (by kernel_rfl) ?_
        refine zR 2 ?_
        refine p_len (L := (x140 : (List T_api_Step))) (by kernel_rfl) ?_
        obtain ⟨b149, h132, h130⟩ := o_bind h130
        refine zR 2 ?_
        refine e_seg 12 119 (.bool b149) ?_ ?_
        · rcases o_cond h132 with ⟨hb, h132⟩ | ⟨hb, h132⟩
          · refine zS 107 hb ?_
            refine zR 5 ?_
            obtain ⟨x150, h133, h132⟩ := o_bind h132
            refine zI h133 ?_
            refine zR 1 ?_
            obtain ⟨r151, h134, h132⟩ := o_bind h132
            refine p_call (d_claims_length_ok _ _ r151 h134) (by kernel_rfl) (by kernel_rfl) ?_
            cases h132
            exact zF
          refine zS 107 hb ?_
          cases h132
          exact zF
        refine zN ?_
        refine q_next ?_
        rcases o_cond h130 with ⟨hb, h130⟩ | ⟨hb, h130⟩
        · refine zT hb ?_
          refine pwp_skip (q_next (pwp_block (pwp_seq ?_)))
          refine r_regd (by kernel_rfl) (by kernel_rfl) ?_
          refine zR 5 ?_
          obtain ⟨x152, h135, h130⟩ := o_bind h130
          refine zI h135 ?_
          refine zR 1 ?_
          obtain ⟨r153, h136, h130⟩ := o_bind h130
          refine p_call (d_claims_length_ok _ _ r153 h136) (by kernel_rfl) (by kernel_rfl) ?_
          refine zE ?_
          refine q_next (r_reg ?_)
          refine zR 2 ?_
          obtain ⟨x154, h137, h130⟩ := o_bind h130
          refine p_sl h137 .frozen (by kernel_rfl) (by kernel_rfl) (by kernel_rfl) ?_
          refine zE ?_
          refine q_block ?_
          cases h130
          exact zB
        refine zU hb ?_
        refine pwp_exit (q_seq_exit ?_)
        cases h130
        exact zX
      rintro ⟨x147, x148⟩ s' rfl hs
      have h110 := o_outl h110
      refine q_block_hit ?_
      cases h110
      exact q_join_w hs (by kernel_rfl) (by kernel_rfl)
    refine zU hb ?_
    refine pwp_skip ?_
    cases h110
    exact zJ
  rintro ⟨x123, x124⟩ rfl
  have h := o_outl h
  refine pwp_seq (r_reg ?_)
  refine zE ?_
  refine q_next (pwp_ret ?_)
  cases h
  exact zQ

/-! signallingref07.SameInts -/
noncomputable def d_ref07_SameInts_0 (a0 : (List Int)) (a1 : (List Int)) : Int → Option (Int ⊕ (Unit ⊕ Bool)) := fun x3 =>
  bif decide (x3 < ((a0.length : Nat) : Int)) then (
    (ixO a0 x3).bind fun x6 =>
    (ixO a1 x3).bind fun x7 =>
    bif (!(decide (x6 = x7))) then (
      some (.inr (.inr false))
    ) else (
      some (.inl (w64 (x3 + 1)))
    )
  ) else (
    some (.inr (.inl ()))
  )

noncomputable def d_ref07_SameInts (a0 : (List Int)) (a1 : (List Int)) : Option Bool :=
  bif (!(decide (((a0.length : Nat) : Int) = ((a1.length : Nat) : Int)))) then (
    some false
  ) else (
    onInl (α := Unit) (β := Bool) (loopO (d_ref07_SameInts_0 a0 a1) 0) fun _ =>
    some true
  )
theorem d_ref07_SameInts_ok (a0 : (List Int)) (a1 : (List Int)) (r : Bool) (h : d_ref07_SameInts a0 a1 = some r) : PCall Go.Proofs.Tryz.prog GlS 19 [Enc.pv a0, Enc.pv a1] (Enc.pv r) := by
  unfold d_ref07_SameInts at h
  refine pcall_of_pwp Go.Proofs.Tryz.func19 (by rfl) rfl Go.Proofs.Tryz.ntmps19 (by rfl) rfl ?_
  refine pwp_seq (r_reg ?_)
  refine zE ?_
  refine q_next (pwp_seq (pwp_seq (r_reg ?_)))
  refine zR 1 ?_
  refine p_len (L := (a0 : (List Int))) (by kernel_rfl) ?_
  refine zR 1 ?_
  refine p_len (L := (a1 : (List Int))) (by kernel_rfl) ?_
  refine zE ?_
  refine q_next ?_
  rcases o_cond h with ⟨hb, h⟩ | ⟨hb, h⟩
  · refine zT hb ?_
    refine pwp_seq (r_reg ?_)
    refine zE ?_
    refine q_next (pwp_ret (q_seq_ret ?_))
    cases h
    exact zQ
  refine zU hb ?_
  refine pwp_skip (q_next (pwp_seq (pwp_seq (r_reg ?_))))
  refine zR 1 ?_
  refine p_len (L := (a0 : (List Int))) (by kernel_rfl) ?_
  refine zE ?_
  refine q_next (pwp_block ?_)
  obtain ⟨o8, h8, h⟩ := o_inl h
  refine r_loop2 26 0 (fun x3 => ⟨[(0, lstOf .frozen (a0 : (List Int))), (1, lstOf .frozen (a1 : (List Int))), (12, .int .i64 ((a0.length : Nat) : Int)), (13, .int .i64 x3)], [], [], []⟩) (fun (_ : Unit) => ⟨[], [], [], []⟩) h8 (by kernel_rfl) (fun _ => by kernel_rfl) ?_ ?_
  · rintro x3 oh7 h7
    unfold d_ref07_SameInts_0 at h7
    refine pwp_seq (r_reg ?_)
    refine zE ?_
    refine q_next (pwp_seq ?_)
    rcases o_cond h7 with ⟨hb, h7⟩ | ⟨hb, h7⟩
    · refine zT hb ?_
      refine pwp_skip (q_next (pwp_seq (pwp_block (pwp_seq (r_reg ?_)))))
      refine zE ?_
      refine q_next (pwp_seq ?_)
      refine r_regd (by kernel_rfl) (by kernel_rfl) ?_
      refine zR 2 ?_
      obtain ⟨x6, h9, h7⟩ := o_bind h7
      refine zI h9 ?_
      refine zR 3 ?_
      obtain ⟨x7, h10, h7⟩ := o_bind h7
      refine zI h10 ?_
      refine zE ?_
      refine q_next ?_
      rcases o_cond h7 with ⟨hb, h7⟩ | ⟨hb, h7⟩
      · refine zT hb ?_
        refine pwp_seq (r_reg ?_)
        refine zE ?_
        refine q_next (pwp_ret (q_block_ret (q_seq_ret ?_)))
        cases h7
        refine q_lout_ret fun he => ?_
        subst he
        have h11 := o_outr h
        refine q_block_ret (q_seq_ret ?_)
        cases h11
        exact zQ
      refine zU hb ?_
      refine pwp_skip (q_block (q_next (r_reg ?_)))
      refine zE ?_
      cases h7
      exact zB
    refine zU hb ?_
    refine pwp_exit (q_seq_exit ?_)
    cases h7
    exact zX
  rintro _ s' rfl hs
  have h := o_outl h
  refine q_block_hit ?_
  refine q_next (pwp_wkr hs ?_)
  refine pwp_seq (r_reg ?_)
  refine zE ?_
  refine q_next (pwp_ret ?_)
  cases h
  exact zQ

/-! signallinglaw40.alive -/
noncomputable def d_law40_alive : Option Bool :=
  (d_law07_Line ).bind fun r1 =>
  (d_ref16_Build r1).bind fun r2 =>
  (d_claims_Begin r1 (T_api_Train.mk 1 (ByteArray.mk #[116]) 5000 3000 50 50 100 0 0 0) (T_api_Body.mk [(T_api_Step.mk 0 0 1)] 15000 5000)).bind fun r3 =>
  (d_claims_Extend r1 r2.1 r3.1 0).bind fun r4 =>
  (d_claims_Extend r1 r2.1 r4.1 0).bind fun r5 =>
  (d_claims_Report r1 r2.1 (T_api_Train.mk 1 (ByteArray.mk #[116]) 5000 3000 50 50 100 0 0 0) r4.1 (T_api_Report.mk 10000 0 0 0 true)).bind fun r6 =>
  ((bif (((((decide (r3.2 = 0)) && (decide (r3.1.Origin = (-15000)))) && (decide (r3.1.At = 5000))) && (decide (r3.1.End = 0))) && (decide (r4.2 = 0))) then (
    (d_ref07_SameInts r4.1.Ends [25000]).bind fun r8 =>
    some r8
  ) else some false) : Option Bool).bind fun b7 =>
  ((bif b7 then (
    (d_ref07_SameInts r4.1.Starts [5000]).bind fun r10 =>
    some r10
  ) else some false) : Option Bool).bind fun b9 =>
  ((bif ((b9 && (decide (r4.1.At = 25000))) && (decide (r5.2 = 10))) then (
    some (decide (((r6.Routes.length : Nat) : Int) = 0))
  ) else some false) : Option Bool).bind fun b11 =>
  ((bif b11 then (
    (d_ref07_SameInts r6.Done [0]).bind fun r13 =>
    some r13
  ) else some false) : Option Bool).bind fun b12 =>
  ((bif b12 then (
    some (decide (((r6.Steps.length : Nat) : Int) = 1))
  ) else some false) : Option Bool).bind fun b14 =>
  some (b14 && (decide (r6.Origin = 5000)))
theorem d_law40_alive_ok (r : Bool) (h : d_law40_alive = some r) : PCall Go.Proofs.Tryz.prog GlS 6 [] (Enc.pv r) := by
  unfold d_law40_alive at h
  refine pcall_of_pwp Go.Proofs.Tryz.func6 (by rfl) rfl Go.Proofs.Tryz.ntmps6 (by rfl) rfl ?_
  refine pwp_seq (r_reg ?_)
  refine zE ?_
  refine q_next (pwp_seq (r_reg ?_))
  obtain ⟨r1, h1, h⟩ := o_bind h
  refine p_call (d_law07_Line_ok  r1 h1) (by kernel_rfl) (by kernel_rfl) ?_
  refine zE ?_
  refine q_next (pwp_seq (r_reg ?_))
  refine zR 1 ?_
  obtain ⟨r2, h2, h⟩ := o_bind h
  refine p_call (d_ref16_Build_ok _ r2 h2) (by kernel_rfl) (by kernel_rfl) ?_
  refine zE ?_
  refine q_next (pwp_seq (r_reg ?_))
  refine zE ?_
  refine q_next (pwp_seq (r_reg ?_))
  refine zR 5 ?_
  obtain ⟨r3, h3, h⟩ := o_bind h
  refine p_call (d_claims_Begin_ok _ _ _ r3 h3) (by kernel_rfl) (by kernel_rfl) ?_
  refine zE ?_
  refine q_next (pwp_seq (r_reg ?_))
  refine zR 3 ?_
  obtain ⟨r4, h4, h⟩ := o_bind h
  refine p_call (d_claims_Extend_ok _ _ _ _ r4 h4) (by kernel_rfl) (by kernel_rfl) ?_
  refine zE ?_
  refine q_next (pwp_seq (r_reg ?_))
  refine zR 3 ?_
  obtain ⟨r5, h5, h⟩ := o_bind h
  refine p_call (d_claims_Extend_ok _ _ _ _ r5 h5) (by kernel_rfl) (by kernel_rfl) ?_
  refine zE ?_
  refine q_next (pwp_seq (r_reg ?_))
  refine zR 5 ?_
  obtain ⟨r6, h6, h⟩ := o_bind h
  refine p_call (d_claims_Report_ok _ _ _ _ _ r6 h6) (by kernel_rfl) (by kernel_rfl) ?_
  refine zE ?_
  refine q_next (pwp_seq (r_reg ?_))
  refine zR 3 ?_
  refine e_segb 4 54 ((decide (r3.2 = 0)) && (decide (r3.1.Origin = (-15000)))) (fun x hx => ?_) ?_
  · rcases b_and hx with ⟨hb, hx⟩ | ⟨hb, hx⟩
    · refine zS 50 hb ?_
      subst hx
      exact zF
    refine zS 50 hb ?_
    subst hx
    exact zF
  refine zR 1 ?_
  refine e_segb 4 59 (((decide (r3.2 = 0)) && (decide (r3.1.Origin = (-15000)))) && (decide (r3.1.At = 5000))) (fun x hx => ?_) ?_
  · rcases b_and hx with ⟨hb, hx⟩ | ⟨hb, hx⟩
    · refine zS 55 hb ?_
      subst hx
      exact zF
    refine zS 55 hb ?_
    subst hx
    exact zF
  refine zR 1 ?_
  refine e_segb 4 64 ((((decide (r3.2 = 0)) && (decide (r3.1.Origin = (-15000)))) && (decide (r3.1.At = 5000))) && (decide (r3.1.End = 0))) (fun x hx => ?_) ?_
  · rcases b_and hx with ⟨hb, hx⟩ | ⟨hb, hx⟩
    · refine zS 60 hb ?_
      subst hx
      exact zF
    refine zS 60 hb ?_
    subst hx
    exact zF
  refine zR 1 ?_
  refine e_segb 3 68 (((((decide (r3.2 = 0)) && (decide (r3.1.Origin = (-15000)))) && (decide (r3.1.At = 5000))) && (decide (r3.1.End = 0))) && (decide (r4.2 = 0))) (fun x hx => ?_) ?_
  · rcases b_and hx with ⟨hb, hx⟩ | ⟨hb, hx⟩
    · refine zS 65 hb ?_
      subst hx
      exact zF
    refine zS 65 hb ?_
    subst hx
    exact zF
  obtain ⟨b7, h7, h⟩ := o_bind h
  refine zR 1 ?_
  refine e_seg 5 74 (.bool b7) ?_ ?_
  · rcases o_cond h7 with ⟨hb, h7⟩ | ⟨hb, h7⟩
    · refine zS 69 hb ?_
      refine zR 3 ?_
      obtain ⟨r8, h8, h7⟩ := o_bind h7
      refine p_call (d_ref07_SameInts_ok _ _ r8 h8) (by kernel_rfl) (by kernel_rfl) ?_
      cases h7
      exact zF
    refine zS 69 hb ?_
    cases h7
    exact zF
  obtain ⟨b9, h9, h⟩ := o_bind h
  refine zR 1 ?_
  refine e_seg 5 80 (.bool b9) ?_ ?_
  · rcases o_cond h9 with ⟨hb, h9⟩ | ⟨hb, h9⟩
    · refine zS 75 hb ?_
      refine zR 3 ?_
      obtain ⟨r10, h10, h9⟩ := o_bind h9
      refine p_call (d_ref07_SameInts_ok _ _ r10 h10) (by kernel_rfl) (by kernel_rfl) ?_
      cases h9
      exact zF
    refine zS 75 hb ?_
    cases h9
    exact zF
  refine zR 1 ?_
  refine e_segb 4 85 (b9 && (decide (r4.1.At = 25000))) (fun x hx => ?_) ?_
  · rcases b_and hx with ⟨hb, hx⟩ | ⟨hb, hx⟩
    · refine zS 81 hb ?_
      subst hx
      exact zF
    refine zS 81 hb ?_
    subst hx
    exact zF
  refine zR 1 ?_
  refine e_segb 3 89 ((b9 && (decide (r4.1.At = 25000))) && (decide (r5.2 = 10))) (fun x hx => ?_) ?_
  · rcases b_and hx with ⟨hb, hx⟩ | ⟨hb, hx⟩
    · refine zS 86 hb ?_
      subst hx
      exact zF
    refine zS 86 hb ?_
    subst hx
    exact zF
  obtain ⟨b11, h11, h⟩ := o_bind h
  refine zR 1 ?_
  refine e_seg 5 95 (.bool b11) ?_ ?_
  · rcases o_cond h11 with ⟨hb, h11⟩ | ⟨hb, h11⟩
    · refine zS 90 hb ?_
      refine zR 2 ?_
      refine p_len (L := (r6.Routes : (List Int))) (by kernel_rfl) ?_
      cases h11
      exact zF
    refine zS 90 hb ?_
    cases h11
    exact zF
  obtain ⟨b12, h12, h⟩ := o_bind h
  refine zR 1 ?_
  refine e_seg 5 101 (.bool b12) ?_ ?_
  · rcases o_cond h12 with ⟨hb, h12⟩ | ⟨hb, h12⟩
    · refine zS 96 hb ?_
      refine zR 3 ?_
      obtain ⟨r13, h13, h12⟩ := o_bind h12
      refine p_call (d_ref07_SameInts_ok _ _ r13 h13) (by kernel_rfl) (by kernel_rfl) ?_
      cases h12
      exact zF
    refine zS 96 hb ?_
    cases h12
    exact zF
  obtain ⟨b14, h14, h⟩ := o_bind h
  refine zR 1 ?_
  refine e_seg 5 107 (.bool b14) ?_ ?_
  · rcases o_cond h14 with ⟨hb, h14⟩ | ⟨hb, h14⟩
    · refine zS 102 hb ?_
      refine zR 2 ?_
      refine p_len (L := (r6.Steps : (List T_api_Step))) (by kernel_rfl) ?_
      cases h14
      exact zF
    refine zS 102 hb ?_
    cases h14
    exact zF
  refine zR 1 ?_
  refine e_segb 4 112 (b14 && (decide (r6.Origin = 5000))) (fun x hx => ?_) ?_
  · rcases b_and hx with ⟨hb, hx⟩ | ⟨hb, hx⟩
    · refine zS 108 hb ?_
      subst hx
      exact zF
    refine zS 108 hb ?_
    subst hx
    exact zF
  refine zE ?_
  refine q_next (pwp_ret ?_)
  cases h
  exact zQ

/-! signallingref30.in -/
noncomputable def d_ref30_in (a0 : Int) (a1 : Int) (a2 : Int) : Option Bool :=
  some ((decide (a1 ≤ a0)) && (decide (a0 ≤ a2)))
theorem d_ref30_in_ok (a0 : Int) (a1 : Int) (a2 : Int) (r : Bool) (h : d_ref30_in a0 a1 a2 = some r) : PCall Go.Proofs.Tryz.prog GlS 68 [Enc.pv a0, Enc.pv a1, Enc.pv a2] (Enc.pv r) := by
  unfold d_ref30_in at h
  refine pcall_of_pwp Go.Proofs.Tryz.func68 (by rfl) rfl Go.Proofs.Tryz.ntmps68 (by rfl) rfl ?_
  refine pwp_seq (r_reg ?_)
  refine zE ?_
  refine q_next (pwp_seq (r_reg ?_))
  refine zR 4 ?_
  refine e_segb 4 14 ((decide (a1 ≤ a0)) && (decide (a0 ≤ a2))) (fun x hx => ?_) ?_
  · rcases b_and hx with ⟨hb, hx⟩ | ⟨hb, hx⟩
    · refine zS 10 hb ?_
      subst hx
      exact zF
    refine zS 10 hb ?_
    subst hx
    exact zF
  refine zE ?_
  refine q_next (pwp_ret ?_)
  cases h
  exact zQ

/-! signallingref30.Check -/
noncomputable def d_ref30_Check (a0 : T_api_Train) : Option Int :=
  (d_ref05_Name a0.Name).bind fun r1 =>
  bif (!r1) then (
    some 3
  ) else (
    (d_ref30_in a0.Id 1 99).bind fun r2 =>
    ((bif (!r2) then some true else (
      (d_ref30_in a0.Length 1 50000).bind fun r4 =>
      some (!r4)
    )) : Option Bool).bind fun b3 =>
    ((bif b3 then some true else (
      (d_ref30_in a0.Speed 1 10000).bind fun r6 =>
      some (!r6)
    )) : Option Bool).bind fun b5 =>
    ((bif b5 then some true else (
      (d_ref30_in a0.Accel 1 200).bind fun r8 =>
      some (!r8)
    )) : Option Bool).bind fun b7 =>
    ((bif b7 then some true else (
      (d_ref30_in a0.Service 1 200).bind fun r10 =>
      some (!r10)
    )) : Option Bool).bind fun b9 =>
    bif b9 then (
      some 1
    ) else (
      (d_ref30_in a0.Emergency a0.Service 200).bind fun r11 =>
      ((bif (!r11) then some true else (
        (d_ref30_in a0.Delay 0 5).bind fun r13 =>
        some (!r13)
      )) : Option Bool).bind fun b12 =>
      ((bif b12 then some true else (
        (d_ref30_in a0.Const 0 500).bind fun r15 =>
        some (!r15)
      )) : Option Bool).bind fun b14 =>
      ((bif b14 then some true else (
        (d_ref30_in a0.Rate 0 100).bind fun r17 =>
        some (!r17)
      )) : Option Bool).bind fun b16 =>
      bif b16 then (
        some 1
      ) else (
        some 0
      )
    )
  )
theorem d_ref30_Check_ok (a0 : T_api_Train) (r : Int) (h : d_ref30_Check a0 = some r) : PCall Go.Proofs.Tryz.prog GlS 28 [Enc.pv a0] (Enc.pv r) := by
  unfold d_ref30_Check at h
  refine pcall_of_pwp Go.Proofs.Tryz.func28 (by rfl) rfl Go.Proofs.Tryz.ntmps28 (by rfl) rfl ?_
  refine pwp_seq (r_reg ?_)
  refine zE ?_
  refine q_next (pwp_seq (pwp_seq (r_reg ?_)))
  refine zR 2 ?_
  obtain ⟨r1, h1, h⟩ := o_bind h
  refine p_call (d_ref05_Name_ok _ r1 h1) (by kernel_rfl) (by kernel_rfl) ?_
  refine zE ?_
  refine q_next ?_
  rcases o_cond h with ⟨hb, h⟩ | ⟨hb, h⟩
  · refine zT hb ?_
    refine pwp_seq (r_reg ?_)
    refine zE ?_
    refine q_next (pwp_ret (q_seq_ret ?_))
    cases h
    exact zQ
  refine zU hb ?_
  refine pwp_skip (q_next (pwp_seq (pwp_seq (r_reg ?_))))
  refine zR 2 ?_
  obtain ⟨r2, h2, h⟩ := o_bind h
  refine p_call (d_ref30_in_ok _ _ _ r2 h2) (by kernel_rfl) (by kernel_rfl) ?_
  obtain ⟨b3, h3, h⟩ := o_bind h
  refine zR 2 ?_
  refine e_seg 5 16 (.bool b3) ?_ ?_
  · rcases o_cond h3 with ⟨hb, h3⟩ | ⟨hb, h3⟩
    · refine zS 11 hb ?_
      cases h3
      exact zF
    refine zS 11 hb ?_
    refine zR 2 ?_
    obtain ⟨r4, h4, h3⟩ := o_bind h3
    refine p_call (d_ref30_in_ok _ _ _ r4 h4) (by kernel_rfl) (by kernel_rfl) ?_
    cases h3
    exact zF
  obtain ⟨b5, h5, h⟩ := o_bind h
  refine zR 1 ?_
  refine e_seg 5 22 (.bool b5) ?_ ?_
  · rcases o_cond h5 with ⟨hb, h5⟩ | ⟨hb, h5⟩
    · refine zS 17 hb ?_
      cases h5
      exact zF
    refine zS 17 hb ?_
    refine zR 2 ?_
    obtain ⟨r6, h6, h5⟩ := o_bind h5
    refine p_call (d_ref30_in_ok _ _ _ r6 h6) (by kernel_rfl) (by kernel_rfl) ?_
    cases h5
    exact zF
  obtain ⟨b7, h7, h⟩ := o_bind h
  refine zR 1 ?_
  refine e_seg 5 28 (.bool b7) ?_ ?_
  · rcases o_cond h7 with ⟨hb, h7⟩ | ⟨hb, h7⟩
    · refine zS 23 hb ?_
      cases h7
      exact zF
    refine zS 23 hb ?_
    refine zR 2 ?_
    obtain ⟨r8, h8, h7⟩ := o_bind h7
    refine p_call (d_ref30_in_ok _ _ _ r8 h8) (by kernel_rfl) (by kernel_rfl) ?_
    cases h7
    exact zF
  obtain ⟨b9, h9, h⟩ := o_bind h
  refine zR 1 ?_
  refine e_seg 5 34 (.bool b9) ?_ ?_
  · rcases o_cond h9 with ⟨hb, h9⟩ | ⟨hb, h9⟩
    · refine zS 29 hb ?_
      cases h9
      exact zF
    refine zS 29 hb ?_
    refine zR 2 ?_
    obtain ⟨r10, h10, h9⟩ := o_bind h9
    refine p_call (d_ref30_in_ok _ _ _ r10 h10) (by kernel_rfl) (by kernel_rfl) ?_
    cases h9
    exact zF
  refine zN ?_
  refine q_next ?_
  rcases o_cond h with ⟨hb, h⟩ | ⟨hb, h⟩
  · refine zT hb ?_
    refine pwp_seq (r_reg ?_)
    refine zE ?_
    refine q_next (pwp_ret (q_seq_ret ?_))
    cases h
    exact zQ
  refine zU hb ?_
  refine pwp_skip (q_next (pwp_seq (pwp_seq (r_reg ?_))))
  refine zR 4 ?_
  obtain ⟨r11, h11, h⟩ := o_bind h
  refine p_call (d_ref30_in_ok _ _ _ r11 h11) (by kernel_rfl) (by kernel_rfl) ?_
  obtain ⟨b12, h12, h⟩ := o_bind h
  refine zR 2 ?_
  refine e_seg 5 46 (.bool b12) ?_ ?_
  · rcases o_cond h12 with ⟨hb, h12⟩ | ⟨hb, h12⟩
    · refine zS 41 hb ?_
      cases h12
      exact zF
    refine zS 41 hb ?_
    refine zR 2 ?_
    obtain ⟨r13, h13, h12⟩ := o_bind h12
    refine p_call (d_ref30_in_ok _ _ _ r13 h13) (by kernel_rfl) (by kernel_rfl) ?_
    cases h12
    exact zF
  obtain ⟨b14, h14, h⟩ := o_bind h
  refine zR 1 ?_
  refine e_seg 5 52 (.bool b14) ?_ ?_
  · rcases o_cond h14 with ⟨hb, h14⟩ | ⟨hb, h14⟩
    · refine zS 47 hb ?_
      cases h14
      exact zF
    refine zS 47 hb ?_
    refine zR 2 ?_
    obtain ⟨r15, h15, h14⟩ := o_bind h14
    refine p_call (d_ref30_in_ok _ _ _ r15 h15) (by kernel_rfl) (by kernel_rfl) ?_
    cases h14
    exact zF
  obtain ⟨b16, h16, h⟩ := o_bind h
  refine zR 1 ?_
  refine e_seg 5 58 (.bool b16) ?_ ?_
  · rcases o_cond h16 with ⟨hb, h16⟩ | ⟨hb, h16⟩
    · refine zS 53 hb ?_
      cases h16
      exact zF
    refine zS 53 hb ?_
    refine zR 2 ?_
    obtain ⟨r17, h17, h16⟩ := o_bind h16
    refine p_call (d_ref30_in_ok _ _ _ r17 h17) (by kernel_rfl) (by kernel_rfl) ?_
    cases h16
    exact zF
  refine zN ?_
  refine q_next ?_
  rcases o_cond h with ⟨hb, h⟩ | ⟨hb, h⟩
  · refine zT hb ?_
    refine pwp_seq (r_reg ?_)
    refine zE ?_
    refine q_next (pwp_ret (q_seq_ret ?_))
    cases h
    exact zQ
  refine zU hb ?_
  refine pwp_skip (q_next (pwp_seq (r_reg ?_)))
  refine zE ?_
  refine q_next (pwp_ret ?_)
  cases h
  exact zQ

/-! signallingref11.long -/
noncomputable def d_ref11_long (a0 : T_api_Layout) (a1 : T_api_Step) : Option Int :=
  (ixO a0.Elements a1.El).bind fun x1 =>
  some x1.Length
theorem d_ref11_long_ok (a0 : T_api_Layout) (a1 : T_api_Step) (r : Int) (h : d_ref11_long a0 a1 = some r) : PCall Go.Proofs.Tryz.prog GlS 70 [Enc.pv a0, Enc.pv a1] (Enc.pv r) := by
  unfold d_ref11_long at h
  refine pcall_of_pwp Go.Proofs.Tryz.func70 (by rfl) rfl Go.Proofs.Tryz.ntmps70 (by rfl) rfl ?_
  refine pwp_seq (r_reg ?_)
  refine zE ?_
  refine q_next (pwp_seq (r_reg ?_))
  refine zR 4 ?_
  obtain ⟨x1, h1, h⟩ := o_bind h
  refine zI h1 ?_
  refine zE ?_
  refine q_next (pwp_ret ?_)
  cases h
  exact zQ

/-! signallingref11.Stretch -/
noncomputable def d_ref11_Stretch_0 (a0 : T_api_Layout) (a1 : T_api_Body) : (Int × Int) → Option ((Int × Int) ⊕ (Int ⊕ Int)) := fun (x3, x4) =>
  bif decide ((w64 (x4 + 1)) < ((a1.Steps.length : Nat) : Int)) then (
    (ixO a1.Steps x4).bind fun x8 =>
    (d_ref11_long a0 x8).bind fun r9 =>
    some (.inl (w64 (x3 + r9), w64 (x4 + 1)))
  ) else (
    some (.inr (.inl x3))
  )

noncomputable def d_ref11_Stretch (a0 : T_api_Layout) (a1 : T_api_Body) : Option Int :=
  onInl (α := Int) (β := Int) (loopO (d_ref11_Stretch_0 a0 a1) (a1.Head, 0)) fun x7 =>
  some x7
theorem d_ref11_Stretch_ok (a0 : T_api_Layout) (a1 : T_api_Body) (r : Int) (h : d_ref11_Stretch a0 a1 = some r) : PCall Go.Proofs.Tryz.prog GlS 71 [Enc.pv a0, Enc.pv a1] (Enc.pv r) := by
  unfold d_ref11_Stretch at h
  refine pcall_of_pwp Go.Proofs.Tryz.func71 (by rfl) rfl Go.Proofs.Tryz.ntmps71 (by rfl) rfl ?_
  refine pwp_seq (r_reg ?_)
  refine zE ?_
  refine q_next (pwp_seq (r_reg ?_))
  refine zE ?_
  refine q_next (pwp_seq (pwp_seq (r_reg ?_)))
  refine zE ?_
  refine q_next (pwp_block ?_)
  obtain ⟨o6, h6, h⟩ := o_inl h
  refine r_loop2 27 0 (fun (x3, x4) => ⟨[(2, .ref 2 0), (3, .ref 3 0), (5, .int .i64 x3), (6, .int .i64 x4)], [(2, .cells (cellsOf a0)), (3, .cells (cellsOf a1))], [], []⟩) (fun x7 => ⟨[(5, .int .i64 x7)], [], [], []⟩) h6 (by kernel_rfl) (fun _ => by kernel_rfl) ?_ ?_
  · rintro ⟨x3, x4⟩ oh5 h5
    unfold d_ref11_Stretch_0 at h5
    refine pwp_seq (pwp_seq (r_reg ?_))
    refine zR 4 ?_
    refine p_len (L := (a1.Steps : (List T_api_Step))) (by kernel_rfl) ?_
    refine zE ?_
    refine q_next ?_
    rcases o_cond h5 with ⟨hb, h5⟩ | ⟨hb, h5⟩
    · refine zT hb ?_
      refine pwp_skip (q_next (pwp_seq (pwp_block ?_)))
      refine r_regd (by kernel_rfl) (by kernel_rfl) ?_
      refine zR 5 ?_
      obtain ⟨x8, h7, h5⟩ := o_bind h5
      refine zI h7 ?_
      refine zR 1 ?_
      obtain ⟨r9, h8, h5⟩ := o_bind h5
      refine p_call (d_ref11_long_ok _ _ r9 h8) (by kernel_rfl) (by kernel_rfl) ?_
      refine zE ?_
      refine q_block (q_next (r_reg ?_))
      refine zE ?_
      cases h5
      exact zB
    refine zU hb ?_
    refine pwp_exit (q_seq_exit ?_)
    cases h5
    exact zX
  rintro x7 s' rfl hs
  have h := o_outl h
  refine q_block_hit ?_
  refine q_next (pwp_wkr hs ?_)
  refine pwp_seq (r_reg ?_)
  refine zE ?_
  refine q_next (pwp_ret ?_)
  cases h
  exact zQ

/-! signallingref11.Check -/
noncomputable def d_ref11_Check (a0 : T_api_Layout) (a1 : T_api_Body) : Option Int :=
  (d_ref09_Valid a0 a1.Steps).bind fun r1 =>
  ((bif ((((!r1) || (decide (a1.Length < 1))) || (decide (1000000 < a1.Length))) || (decide (a1.Head < 1))) then some true else (
    (ixO a1.Steps (w64 (((a1.Steps.length : Nat) : Int) - 1))).bind fun x3 =>
    (d_ref11_long a0 x3).bind fun r4 =>
    some (decide (r4 < a1.Head))
  )) : Option Bool).bind fun b2 =>
  bif b2 then (
    some 1
  ) else (
    (d_ref11_Stretch a0 a1).bind fun r5 =>
    ((bif decide (r5 < a1.Length) then some true else (
      ((bif decide (1 < ((a1.Steps.length : Nat) : Int)) then (
        (ixO a1.Steps 0).bind fun x8 =>
        (d_ref11_long a0 x8).bind fun r9 =>
        some (decide (a1.Length ≤ (w64 (r5 - r9))))
      ) else some false) : Option Bool).bind fun b7 =>
      some b7
    )) : Option Bool).bind fun b6 =>
    bif b6 then (
      some 10
    ) else (
      some 0
    )
  )
theorem d_ref11_Check_ok (a0 : T_api_Layout) (a1 : T_api_Body) (r : Int) (h : d_ref11_Check a0 a1 = some r) : PCall Go.Proofs.Tryz.prog GlS 29 [Enc.pv a0, Enc.pv a1] (Enc.pv r) := by
  unfold d_ref11_Check at h
  refine pcall_of_pwp Go.Proofs.Tryz.func29 (by rfl) rfl Go.Proofs.Tryz.ntmps29 (by rfl) rfl ?_
  refine pwp_seq (r_reg ?_)
  refine zE ?_
  refine q_next (pwp_seq (pwp_seq ?_))
  refine r_regd (by kernel_rfl) (by kernel_rfl) ?_
  refine zR 3 ?_
  obtain ⟨r1, h1, h⟩ := o_bind h
  refine p_call (d_ref09_Valid_ok _ _ r1 h1) (by kernel_rfl) (by kernel_rfl) ?_
  refine zR 2 ?_
  refine e_segb 4 15 ((!r1) || (decide (a1.Length < 1))) (fun x hx => ?_) ?_
  · rcases b_or hx with ⟨hb, hx⟩ | ⟨hb, hx⟩
    · refine zS 11 hb ?_
      subst hx
      exact zF
    refine zS 11 hb ?_
    subst hx
    exact zF
  refine zR 1 ?_
  refine e_segb 4 20 (((!r1) || (decide (a1.Length < 1))) || (decide (1000000 < a1.Length))) (fun x hx => ?_) ?_
  · rcases b_or hx with ⟨hb, hx⟩ | ⟨hb, hx⟩
    · refine zS 16 hb ?_
      subst hx
      exact zF
    refine zS 16 hb ?_
    subst hx
    exact zF
  refine zR 1 ?_
  refine e_segb 4 25 ((((!r1) || (decide (a1.Length < 1))) || (decide (1000000 < a1.Length))) || (decide (a1.Head < 1))) (fun x hx => ?_) ?_
  · rcases b_or hx with ⟨hb, hx⟩ | ⟨hb, hx⟩
    · refine zS 21 hb ?_
      subst hx
      exact zF
    refine zS 21 hb ?_
    subst hx
    exact zF
  obtain ⟨b2, h2, h⟩ := o_bind h
  refine zR 1 ?_
  refine e_seg 14 40 (.bool b2) ?_ ?_
  · rcases o_cond h2 with ⟨hb, h2⟩ | ⟨hb, h2⟩
    · refine zS 26 hb ?_
      cases h2
      exact zF
    refine zS 26 hb ?_
    refine zR 7 ?_
    refine p_len (L := (a1.Steps : (List T_api_Step))) (by kernel_rfl) ?_
    refine zR 1 ?_
    obtain ⟨x3, h3, h2⟩ := o_bind h2
    refine zI h3 ?_
    refine zR 1 ?_
    obtain ⟨r4, h4, h2⟩ := o_bind h2
    refine p_call (d_ref11_long_ok _ _ r4 h4) (by kernel_rfl) (by kernel_rfl) ?_
    cases h2
    exact zF
  refine zN ?_
  refine q_next ?_
  rcases o_cond h with ⟨hb, h⟩ | ⟨hb, h⟩
  · refine zT hb ?_
    refine pwp_seq (r_reg ?_)
    refine zE ?_
    refine q_next (pwp_ret (q_seq_ret ?_))
    cases h
    exact zQ
  refine zU hb ?_
  refine pwp_skip (q_next (pwp_seq (r_reg ?_)))
  refine zR 2 ?_
  obtain ⟨r5, h5, h⟩ := o_bind h
  refine p_call (d_ref11_Stretch_ok _ _ r5 h5) (by kernel_rfl) (by kernel_rfl) ?_
  refine zE ?_
  refine q_next (pwp_seq (pwp_seq ?_))
  refine r_regd (by kernel_rfl) (by kernel_rfl) ?_
  obtain ⟨b6, h6, h⟩ := o_bind h
  refine zR 5 ?_
  refine e_seg 18 66 (.bool b6) ?_ ?_
  · rcases o_cond h6 with ⟨hb, h6⟩ | ⟨hb, h6⟩
    · refine zS 48 hb ?_
      cases h6
      exact zF
    refine zS 48 hb ?_
    refine zR 2 ?_
    refine p_len (L := (a1.Steps : (List T_api_Step))) (by kernel_rfl) ?_
    obtain ⟨b7, h7, h6⟩ := o_bind h6
    refine zR 2 ?_
    refine f_seg 12 65 (.bool b7) ?_ ?_
    · rcases o_cond h7 with ⟨hb, h7⟩ | ⟨hb, h7⟩
      · refine zS 53 hb ?_
        refine zR 4 ?_
        obtain ⟨x8, h8, h7⟩ := o_bind h7
        refine zI h8 ?_
        refine zR 1 ?_
        obtain ⟨r9, h9, h7⟩ := o_bind h7
        refine p_call (d_ref11_long_ok _ _ r9 h9) (by kernel_rfl) (by kernel_rfl) ?_
        cases h7
        exact zF
      refine zS 53 hb ?_
      cases h7
      exact zF
    cases h6
    exact zF
  refine zN ?_
  refine q_next ?_
  rcases o_cond h with ⟨hb, h⟩ | ⟨hb, h⟩
  · refine zT hb ?_
    refine pwp_seq (r_reg ?_)
    refine zE ?_
    refine q_next (pwp_ret (q_seq_ret ?_))
    cases h
    exact zQ
  refine zU hb ?_
  refine pwp_skip (q_next (pwp_seq (r_reg ?_)))
  refine zE ?_
  refine q_next (pwp_ret ?_)
  cases h
  exact zQ

/-! signallingref40.Begin -/
noncomputable def d_ref40_Begin (a0 : T_api_Layout) (a1 : T_api_Train) (a2 : T_api_Body) : Option (T_api_Track × Int) :=
  (d_ref07_Check a0).bind fun r1 =>
  ((bif (!(decide (r1 = 0))) then some true else (
    (d_ref30_Check a1).bind fun r3 =>
    some (!(decide (r3 = 0)))
  )) : Option Bool).bind fun b2 =>
  ((bif b2 then some true else (
    (d_ref11_Check a0 a2).bind fun r5 =>
    some (!(decide (r5 = 0)))
  )) : Option Bool).bind fun b4 =>
  bif (b4 || (!(decide (a2.Length = a1.Length)))) then (
    some ((T_api_Track.mk 0 0 0 0 [] [] [] [] [] 0 0 0 0 0), 1)
  ) else (
    (ixO a2.Steps (w64 (((a2.Steps.length : Nat) : Int) - 1))).bind fun x6 =>
    (d_ref07_Signal a0 (T_api_End.mk x6.El x6.Out)).bind fun r7 =>
    bif decide (r7 < 0) then (
      some ((T_api_Track.mk 0 0 0 0 [] [] [] [] [] 0 0 0 0 0), 9)
    ) else (
      (ixO a0.Elements x6.El).bind fun x8 =>
      (d_ref09_Length a0 a2.Steps).bind fun r9 =>
      (appO ([] : (List T_api_Step)) a2.Steps).bind fun x10 =>
      some ((T_api_Track.mk a1.Id (w64 ((w64 (x8.Length - r9)) - a2.Head)) r7 (w64 (x8.Length - a2.Head)) x10 [] [] [] [] 0 0 0 0 0), 0)
    )
  )
theorem d_ref40_Begin_ok (a0 : T_api_Layout) (a1 : T_api_Train) (a2 : T_api_Body) (r : (T_api_Track × Int)) (h : d_ref40_Begin a0 a1 a2 = some r) : PCall Go.Proofs.Tryz.prog GlS 8 [Enc.pv a0, Enc.pv a1, Enc.pv a2] (.tup [Enc.pv r.1, Enc.pv r.2]) := by
  unfold d_ref40_Begin at h
  refine pcall_of_pwp Go.Proofs.Tryz.func8 (by rfl) rfl Go.Proofs.Tryz.ntmps8 (by rfl) rfl ?_
  refine pwp_seq (r_reg ?_)
  refine zE ?_
  refine q_next (pwp_seq (pwp_seq (r_reg ?_)))
  refine zR 1 ?_
  obtain ⟨r1, h1, h⟩ := o_bind h
  refine p_call (d_ref07_Check_ok _ r1 h1) (by kernel_rfl) (by kernel_rfl) ?_
  obtain ⟨b2, h2, h⟩ := o_bind h
  refine zR 2 ?_
  refine e_seg 4 19 (.bool b2) ?_ ?_
  · rcases o_cond h2 with ⟨hb, h2⟩ | ⟨hb, h2⟩
    · refine zS 15 hb ?_
      cases h2
      exact zF
    refine zS 15 hb ?_
    refine zR 1 ?_
    obtain ⟨r3, h3, h2⟩ := o_bind h2
    refine p_call (d_ref30_Check_ok _ r3 h3) (by kernel_rfl) (by kernel_rfl) ?_
    cases h2
    exact zF
  obtain ⟨b4, h4, h⟩ := o_bind h
  refine zR 1 ?_
  refine e_seg 5 25 (.bool b4) ?_ ?_
  · rcases o_cond h4 with ⟨hb, h4⟩ | ⟨hb, h4⟩
    · refine zS 20 hb ?_
      cases h4
      exact zF
    refine zS 20 hb ?_
    refine zR 2 ?_
    obtain ⟨r5, h5, h4⟩ := o_bind h4
    refine p_call (d_ref11_Check_ok _ _ r5 h5) (by kernel_rfl) (by kernel_rfl) ?_
    cases h4
    exact zF
  refine zR 1 ?_
  refine e_segb 6 32 (b4 || (!(decide (a2.Length = a1.Length)))) (fun x hx => ?_) ?_
  · rcases b_or hx with ⟨hb, hx⟩ | ⟨hb, hx⟩
    · refine zS 26 hb ?_
      subst hx
      exact zF
    refine zS 26 hb ?_
    subst hx
    exact zF
  refine zN ?_
  refine q_next ?_
  rcases o_cond h with ⟨hb, h⟩ | ⟨hb, h⟩
  · refine zT hb ?_
    refine pwp_seq (r_reg ?_)
    refine zE ?_
    refine q_next (pwp_ret (q_seq_ret ?_))
    cases h
    exact zQ
  refine zU hb ?_
  refine pwp_skip (q_next (pwp_seq (r_reg ?_)))
  refine zR 4 ?_
  refine p_len (L := (a2.Steps : (List T_api_Step))) (by kernel_rfl) ?_
  refine zR 1 ?_
  obtain ⟨x6, h6, h⟩ := o_bind h
  refine zI h6 ?_
  refine zE ?_
  refine q_next (pwp_seq (r_reg ?_))
  refine zR 6 ?_
  obtain ⟨r7, h7, h⟩ := o_bind h
  refine p_call (d_ref07_Signal_ok _ _ r7 h7) (by kernel_rfl) (by kernel_rfl) ?_
  refine zE ?_
  refine q_next (pwp_seq (pwp_seq (r_reg ?_)))
  refine zE ?_
  refine q_next ?_
  rcases o_cond h with ⟨hb, h⟩ | ⟨hb, h⟩
  · refine zT hb ?_
    refine pwp_seq (r_reg ?_)
    refine zE ?_
    refine q_next (pwp_ret (q_seq_ret ?_))
    cases h
    exact zQ
  refine zU hb ?_
  refine pwp_skip (q_next (pwp_seq (r_reg ?_)))
  refine zR 4 ?_
  obtain ⟨x8, h8, h⟩ := o_bind h
  refine zI h8 ?_
  refine zE ?_
  refine q_next (pwp_seq ?_)
  refine r_regd (by kernel_rfl) (by kernel_rfl) ?_
  refine zR 11 ?_
  obtain ⟨r9, h9, h⟩ := o_bind h
  refine p_call (d_ref09_Length_ok _ _ r9 h9) (by kernel_rfl) (by kernel_rfl) ?_
  refine zE ?_
  refine q_next (pwp_seq (r_reg ?_))
  refine zR 4 ?_
  obtain ⟨x10, h10, h⟩ := o_bind h
  refine p_appn (tk := 80) h10 (by kernel_rfl) ?_
  refine zE ?_
  refine q_next (pwp_seq (r_reg ?_))
  refine zE ?_
  refine q_next (pwp_ret ?_)
  cases h
  exact zQ

/-! signallingref09.SameSteps -/
noncomputable def d_ref09_SameSteps_0 (a0 : (List T_api_Step)) (a1 : (List T_api_Step)) : Int → Option (Int ⊕ (Unit ⊕ Bool)) := fun x3 =>
  bif decide (x3 < ((a0.length : Nat) : Int)) then (
    (ixO a0 x3).bind fun x6 =>
    (ixO a1 x3).bind fun x7 =>
    bif (!(eq_T_api_Step x6 x7)) then (
      some (.inr (.inr false))
    ) else (
      some (.inl (w64 (x3 + 1)))
    )
  ) else (
    some (.inr (.inl ()))
  )

noncomputable def d_ref09_SameSteps (a0 : (List T_api_Step)) (a1 : (List T_api_Step)) : Option Bool :=
  bif (!(decide (((a0.length : Nat) : Int) = ((a1.length : Nat) : Int)))) then (
    some false
  ) else (
    onInl (α := Unit) (β := Bool) (loopO (d_ref09_SameSteps_0 a0 a1) 0) fun _ =>
    some true
  )
theorem d_ref09_SameSteps_ok (a0 : (List T_api_Step)) (a1 : (List T_api_Step)) (r : Bool) (h : d_ref09_SameSteps a0 a1 = some r) : PCall Go.Proofs.Tryz.prog GlS 32 [Enc.pv a0, Enc.pv a1] (Enc.pv r) := by
  unfold d_ref09_SameSteps at h
  refine pcall_of_pwp Go.Proofs.Tryz.func32 (by rfl) rfl Go.Proofs.Tryz.ntmps32 (by rfl) rfl ?_
  refine pwp_seq (r_reg ?_)
  refine zE ?_
  refine q_next (pwp_seq (pwp_seq (r_reg ?_)))
  refine zR 1 ?_
  refine p_len (L := (a0 : (List T_api_Step))) (by kernel_rfl) ?_
  refine zR 1 ?_
  refine p_len (L := (a1 : (List T_api_Step))) (by kernel_rfl) ?_
  refine zE ?_
  refine q_next ?_
  rcases o_cond h with ⟨hb, h⟩ | ⟨hb, h⟩
  · refine zT hb ?_
    refine pwp_seq (r_reg ?_)
    refine zE ?_
    refine q_next (pwp_ret (q_seq_ret ?_))
    cases h
    exact zQ
  refine zU hb ?_
  refine pwp_skip (q_next (pwp_seq (pwp_seq (r_reg ?_))))
  refine zE ?_
  refine q_next (pwp_block ?_)
  obtain ⟨o8, h8, h⟩ := o_inl h
  refine r_loop2 26 0 (fun x3 => ⟨[(0, lstOf .frozen (a0 : (List T_api_Step))), (1, lstOf .frozen (a1 : (List T_api_Step))), (5, .int .i64 x3)], [], [], []⟩) (fun (_ : Unit) => ⟨[], [], [], []⟩) h8 (by kernel_rfl) (fun _ => by kernel_rfl) ?_ ?_
  · rintro x3 oh7 h7
    unfold d_ref09_SameSteps_0 at h7
    refine pwp_seq (pwp_seq (r_reg ?_))
    refine zR 2 ?_
    refine p_len (L := (a0 : (List T_api_Step))) (by kernel_rfl) ?_
    refine zE ?_
    refine q_next ?_
    rcases o_cond h7 with ⟨hb, h7⟩ | ⟨hb, h7⟩
    · refine zT hb ?_
      refine pwp_skip (q_next (pwp_seq (pwp_block (pwp_seq ?_))))
      refine r_regd (by kernel_rfl) (by kernel_rfl) ?_
      refine zR 2 ?_
      obtain ⟨x6, h9, h7⟩ := o_bind h7
      refine zI h9 ?_
      refine zR 3 ?_
      obtain ⟨x7, h10, h7⟩ := o_bind h7
      refine zI h10 ?_
      refine zE ?_
      refine q_next ?_
      rcases o_cond h7 with ⟨hb, h7⟩ | ⟨hb, h7⟩
      · refine zT hb ?_
        refine pwp_seq (r_reg ?_)
        refine zE ?_
        refine q_next (pwp_ret (q_block_ret (q_seq_ret ?_)))
        cases h7
        refine q_lout_ret fun he => ?_
        subst he
        have h11 := o_outr h
        refine q_block_ret (q_seq_ret ?_)
        cases h11
        exact zQ
      refine zU hb ?_
      refine pwp_skip (q_block (q_next (r_reg ?_)))
      refine zE ?_
      cases h7
      exact zB
    refine zU hb ?_
    refine pwp_exit (q_seq_exit ?_)
    cases h7
    exact zX
  rintro _ s' rfl hs
  have h := o_outl h
  refine q_block_hit ?_
  refine q_next (pwp_wkr hs ?_)
  refine pwp_seq (r_reg ?_)
  refine zE ?_
  refine q_next (pwp_ret ?_)
  cases h
  exact zQ

/-! signallingref40.Same -/
noncomputable def d_ref40_Same (a0 : T_api_Track) (a1 : T_api_Track) : Option Bool :=
  ((bif (((((((((!(decide (a0.Id = a1.Id))) || (!(decide (a0.Origin = a1.Origin)))) || (!(decide (a0.End = a1.End)))) || (!(decide (a0.At = a1.At)))) || (!(decide (a0.Min = a1.Min)))) || (!(decide (a0.Sent = a1.Sent)))) || (!(decide (a0.Accepted = a1.Accepted)))) || (!(decide (a0.Cut = a1.Cut)))) || (!(decide (a0.CutSeq = a1.CutSeq)))) then some true else (
    (d_ref09_SameSteps a0.Steps a1.Steps).bind fun r2 =>
    some (!r2)
  )) : Option Bool).bind fun b1 =>
  bif b1 then (
    some false
  ) else (
    (d_ref07_SameInts a0.Routes a1.Routes).bind fun r3 =>
    ((bif r3 then (
      (d_ref07_SameInts a0.Starts a1.Starts).bind fun r5 =>
      some r5
    ) else some false) : Option Bool).bind fun b4 =>
    ((bif b4 then (
      (d_ref07_SameInts a0.Ends a1.Ends).bind fun r7 =>
      some r7
    ) else some false) : Option Bool).bind fun b6 =>
    ((bif b6 then (
      (d_ref07_SameInts a0.Done a1.Done).bind fun r9 =>
      some r9
    ) else some false) : Option Bool).bind fun b8 =>
    some b8
  )
theorem d_ref40_Same_ok (a0 : T_api_Track) (a1 : T_api_Track) (r : Bool) (h : d_ref40_Same a0 a1 = some r) : PCall Go.Proofs.Tryz.prog GlS 9 [Enc.pv a0, Enc.pv a1] (Enc.pv r) := by
  unfold d_ref40_Same at h
  refine pcall_of_pwp Go.Proofs.Tryz.func9 (by rfl) rfl Go.Proofs.Tryz.ntmps9 (by rfl) rfl ?_
  refine pwp_seq (r_reg ?_)
  refine zE ?_
  refine q_next (pwp_seq (pwp_seq (r_reg ?_)))
  refine zR 6 ?_
  refine e_segb 6 16 ((!(decide (a0.Id = a1.Id))) || (!(decide (a0.Origin = a1.Origin)))) (fun x hx => ?_) ?_
  · rcases b_or hx with ⟨hb, hx⟩ | ⟨hb, hx⟩
    · refine zS 10 hb ?_
      subst hx
      exact zF
    refine zS 10 hb ?_
    subst hx
    exact zF
  refine zR 1 ?_
  refine e_segb 6 23 (((!(decide (a0.Id = a1.Id))) || (!(decide (a0.Origin = a1.Origin)))) || (!(decide (a0.End = a1.End)))) (fun x hx => ?_) ?_
  · rcases b_or hx with ⟨hb, hx⟩ | ⟨hb, hx⟩
    · refine zS 17 hb ?_
      subst hx
      exact zF
    refine zS 17 hb ?_
    subst hx
    exact zF
  refine zR 1 ?_
  refine e_segb 6 30 ((((!(decide (a0.Id = a1.Id))) || (!(decide (a0.Origin = a1.Origin)))) || (!(decide (a0.End = a1.End)))) || (!(decide (a0.At = a1.At)))) (fun x hx => ?_) ?_
  · rcases b_or hx with ⟨hb, hx⟩ | ⟨hb, hx⟩
    · refine zS 24 hb ?_
      subst hx
      exact zF
    refine zS 24 hb ?_
    subst hx
    exact zF
  refine zR 1 ?_
  refine e_segb 6 37 (((((!(decide (a0.Id = a1.Id))) || (!(decide (a0.Origin = a1.Origin)))) || (!(decide (a0.End = a1.End)))) || (!(decide (a0.At = a1.At)))) || (!(decide (a0.Min = a1.Min)))) (fun x hx => ?_) ?_
  · rcases b_or hx with ⟨hb, hx⟩ | ⟨hb, hx⟩
    · refine zS 31 hb ?_
      subst hx
      exact zF
    refine zS 31 hb ?_
    subst hx
    exact zF
  refine zR 1 ?_
  refine e_segb 6 44 ((((((!(decide (a0.Id = a1.Id))) || (!(decide (a0.Origin = a1.Origin)))) || (!(decide (a0.End = a1.End)))) || (!(decide (a0.At = a1.At)))) || (!(decide (a0.Min = a1.Min)))) || (!(decide (a0.Sent = a1.Sent)))) (fun x hx => ?_) ?_
  · rcases b_or hx with ⟨hb, hx⟩ | ⟨hb, hx⟩
    · refine zS 38 hb ?_
      subst hx
      exact zF
    refine zS 38 hb ?_
    subst hx
    exact zF
  refine zR 1 ?_
  refine e_segb 6 51 (((((((!(decide (a0.Id = a1.Id))) || (!(decide (a0.Origin = a1.Origin)))) || (!(decide (a0.End = a1.End)))) || (!(decide (a0.At = a1.At)))) || (!(decide (a0.Min = a1.Min)))) || (!(decide (a0.Sent = a1.Sent)))) || (!(decide (a0.Accepted = a1.Accepted)))) (fun x hx => ?_) ?_
  · rcases b_or hx with ⟨hb, hx⟩ | ⟨hb, hx⟩
    · refine zS 45 hb ?_
      subst hx
      exact zF
    refine zS 45 hb ?_
    subst hx
    exact zF
  refine zR 1 ?_
  refine e_segb 6 58 ((((((((!(decide (a0.Id = a1.Id))) || (!(decide (a0.Origin = a1.Origin)))) || (!(decide (a0.End = a1.End)))) || (!(decide (a0.At = a1.At)))) || (!(decide (a0.Min = a1.Min)))) || (!(decide (a0.Sent = a1.Sent)))) || (!(decide (a0.Accepted = a1.Accepted)))) || (!(decide (a0.Cut = a1.Cut)))) (fun x hx => ?_) ?_
  · rcases b_or hx with ⟨hb, hx⟩ | ⟨hb, hx⟩
    · refine zS 52 hb ?_
      subst hx
      exact zF
    refine zS 52 hb ?_
    subst hx
    exact zF
  refine zR 1 ?_
  refine e_segb 6 65 (((((((((!(decide (a0.Id = a1.Id))) || (!(decide (a0.Origin = a1.Origin)))) || (!(decide (a0.End = a1.End)))) || (!(decide (a0.At = a1.At)))) || (!(decide (a0.Min = a1.Min)))) || (!(decide (a0.Sent = a1.Sent)))) || (!(decide (a0.Accepted = a1.Accepted)))) || (!(decide (a0.Cut = a1.Cut)))) || (!(decide (a0.CutSeq = a1.CutSeq)))) (fun x hx => ?_) ?_
  · rcases b_or hx with ⟨hb, hx⟩ | ⟨hb, hx⟩
    · refine zS 59 hb ?_
      subst hx
      exact zF
    refine zS 59 hb ?_
    subst hx
    exact zF
  obtain ⟨b1, h1, h⟩ := o_bind h
  refine zR 1 ?_
  refine e_seg 7 73 (.bool b1) ?_ ?_
  · rcases o_cond h1 with ⟨hb, h1⟩ | ⟨hb, h1⟩
    · refine zS 66 hb ?_
      cases h1
      exact zF
    refine zS 66 hb ?_
    refine zR 4 ?_
    obtain ⟨r2, h2, h1⟩ := o_bind h1
    refine p_call (d_ref09_SameSteps_ok _ _ r2 h2) (by kernel_rfl) (by kernel_rfl) ?_
    cases h1
    exact zF
  refine zN ?_
  refine q_next ?_
  rcases o_cond h with ⟨hb, h⟩ | ⟨hb, h⟩
  · refine zT hb ?_
    refine pwp_seq (r_reg ?_)
    refine zE ?_
    refine q_next (pwp_ret (q_seq_ret ?_))
    cases h
    exact zQ
  refine zU hb ?_
  refine pwp_skip (q_next (pwp_seq (r_reg ?_)))
  refine zR 4 ?_
  obtain ⟨r3, h3, h⟩ := o_bind h
  refine p_call (d_ref07_SameInts_ok _ _ r3 h3) (by kernel_rfl) (by kernel_rfl) ?_
  obtain ⟨b4, h4, h⟩ := o_bind h
  refine zR 1 ?_
  refine e_seg 6 85 (.bool b4) ?_ ?_
  · rcases o_cond h4 with ⟨hb, h4⟩ | ⟨hb, h4⟩
    · refine zS 79 hb ?_
      refine zR 4 ?_
      obtain ⟨r5, h5, h4⟩ := o_bind h4
      refine p_call (d_ref07_SameInts_ok _ _ r5 h5) (by kernel_rfl) (by kernel_rfl) ?_
      cases h4
      exact zF
    refine zS 79 hb ?_
    cases h4
    exact zF
  obtain ⟨b6, h6, h⟩ := o_bind h
  refine zR 1 ?_
  refine e_seg 6 92 (.bool b6) ?_ ?_
  · rcases o_cond h6 with ⟨hb, h6⟩ | ⟨hb, h6⟩
    · refine zS 86 hb ?_
      refine zR 4 ?_
      obtain ⟨r7, h7, h6⟩ := o_bind h6
      refine p_call (d_ref07_SameInts_ok _ _ r7 h7) (by kernel_rfl) (by kernel_rfl) ?_
      cases h6
      exact zF
    refine zS 86 hb ?_
    cases h6
    exact zF
  obtain ⟨b8, h8, h⟩ := o_bind h
  refine zR 1 ?_
  refine e_seg 6 99 (.bool b8) ?_ ?_
  · rcases o_cond h8 with ⟨hb, h8⟩ | ⟨hb, h8⟩
    · refine zS 93 hb ?_
      refine zR 4 ?_
      obtain ⟨r9, h9, h8⟩ := o_bind h8
      refine p_call (d_ref07_SameInts_ok _ _ r9 h9) (by kernel_rfl) (by kernel_rfl) ?_
      cases h8
      exact zF
    refine zS 93 hb ?_
    cases h8
    exact zF
  refine zE ?_
  refine q_next (pwp_ret ?_)
  cases h
  exact zQ

/-! signallinglaw40.ClaimsBegins -/
noncomputable def d_law40_ClaimsBegins (a0 : T_api_Layout) (a1 : T_api_Train) (a2 : T_api_Body) : Option Bool :=
  (d_law07_Few a0).bind fun r1 =>
  ((bif (!r1) then some true else (
    some (decide (60 < ((a2.Steps.length : Nat) : Int)))
  )) : Option Bool).bind fun b2 =>
  bif b2 then (
    (d_law40_alive ).bind fun r3 =>
    some r3
  ) else (
    (d_claims_Begin a0 a1 a2).bind fun r4 =>
    (d_ref40_Begin a0 a1 a2).bind fun r5 =>
    ((bif decide (r4.2 = r5.2) then (
      (d_ref40_Same r4.1 r5.1).bind fun r7 =>
      some r7
    ) else some false) : Option Bool).bind fun b6 =>
    ((bif b6 then (
      (d_law40_alive ).bind fun r9 =>
      some r9
    ) else some false) : Option Bool).bind fun b8 =>
    some b8
  )
theorem d_law40_ClaimsBegins_ok (a0 : T_api_Layout) (a1 : T_api_Train) (a2 : T_api_Body) (r : Bool) (h : d_law40_ClaimsBegins a0 a1 a2 = some r) : PCall Go.Proofs.Tryz.prog GlS 3 [Enc.pv a0, Enc.pv a1, Enc.pv a2] (Enc.pv r) := by
  unfold d_law40_ClaimsBegins at h
  refine pcall_of_pwp Go.Proofs.Tryz.func3 (by rfl) rfl Go.Proofs.Tryz.ntmps3 (by rfl) rfl ?_
  refine pwp_seq (r_reg ?_)
  refine zE ?_
  refine q_next (pwp_seq (pwp_seq (r_reg ?_)))
  refine zR 1 ?_
  obtain ⟨r1, h1, h⟩ := o_bind h
  refine p_call (d_law07_Few_ok _ r1 h1) (by kernel_rfl) (by kernel_rfl) ?_
  obtain ⟨b2, h2, h⟩ := o_bind h
  refine zR 2 ?_
  refine e_seg 5 19 (.bool b2) ?_ ?_
  · rcases o_cond h2 with ⟨hb, h2⟩ | ⟨hb, h2⟩
    · refine zS 14 hb ?_
      cases h2
      exact zF
    refine zS 14 hb ?_
    refine zR 2 ?_
    refine p_len (L := (a2.Steps : (List T_api_Step))) (by kernel_rfl) ?_
    cases h2
    exact zF
  refine zN ?_
  refine q_next ?_
  rcases o_cond h with ⟨hb, h⟩ | ⟨hb, h⟩
  · refine zT hb ?_
    refine pwp_seq (r_reg ?_)
    obtain ⟨r3, h3, h⟩ := o_bind h
    refine p_call (d_law40_alive_ok  r3 h3) (by kernel_rfl) (by kernel_rfl) ?_
    refine zE ?_
    refine q_next (pwp_ret (q_seq_ret ?_))
    cases h
    exact zQ
  refine zU hb ?_
  refine pwp_skip (q_next (pwp_seq (r_reg ?_)))
  refine zR 3 ?_
  obtain ⟨r4, h4, h⟩ := o_bind h
  refine p_call (d_claims_Begin_ok _ _ _ r4 h4) (by kernel_rfl) (by kernel_rfl) ?_
  refine zE ?_
  refine q_next (pwp_seq (r_reg ?_))
  refine zR 3 ?_
  obtain ⟨r5, h5, h⟩ := o_bind h
  refine p_call (d_ref40_Begin_ok _ _ _ r5 h5) (by kernel_rfl) (by kernel_rfl) ?_
  refine zE ?_
  refine q_next (pwp_seq (r_reg ?_))
  obtain ⟨b6, h6, h⟩ := o_bind h
  refine zR 4 ?_
  refine e_seg 4 42 (.bool b6) ?_ ?_
  · rcases o_cond h6 with ⟨hb, h6⟩ | ⟨hb, h6⟩
    · refine zS 38 hb ?_
      refine zR 2 ?_
      obtain ⟨r7, h7, h6⟩ := o_bind h6
      refine p_call (d_ref40_Same_ok _ _ r7 h7) (by kernel_rfl) (by kernel_rfl) ?_
      cases h6
      exact zF
    refine zS 38 hb ?_
    cases h6
    exact zF
  obtain ⟨b8, h8, h⟩ := o_bind h
  refine zR 1 ?_
  refine e_seg 2 45 (.bool b8) ?_ ?_
  · rcases o_cond h8 with ⟨hb, h8⟩ | ⟨hb, h8⟩
    · refine zS 43 hb ?_
      obtain ⟨r9, h9, h8⟩ := o_bind h8
      refine p_call (d_law40_alive_ok  r9 h9) (by kernel_rfl) (by kernel_rfl) ?_
      cases h8
      exact zF
    refine zS 43 hb ?_
    cases h8
    exact zF
  refine zE ?_
  refine q_next (pwp_ret ?_)
  cases h
  exact zQ

/-! claims.Claimed$1 -/
noncomputable def d_claims_Claimed_c1 (a0 : T_api_Track) : Option (List Int) :=
  some a0.Routes
theorem d_claims_Claimed_c1_ok (a0 : T_api_Track) (r : (List Int)) (h : d_claims_Claimed_c1 a0 = some r) : PCall Go.Proofs.Tryz.prog GlS 34 [Enc.pv a0] (Enc.pv r) := by
  unfold d_claims_Claimed_c1 at h
  refine pcall_of_pwp Go.Proofs.Tryz.func34 (by rfl) rfl Go.Proofs.Tryz.ntmps34 (by rfl) rfl ?_
  refine pwp_seq (r_reg ?_)
  refine zE ?_
  refine q_next (pwp_seq (r_reg ?_))
  refine zE ?_
  refine q_next (pwp_ret ?_)
  cases h
  exact zQ

/-! claims.among -/
noncomputable def d_claims_among_1 (a1 : Int) (x1 : (List Bool)) (r58 : (List Int)) : (Int × (List Bool)) → Option ((Int × (List Bool)) ⊕ ((List Bool) ⊕ ((Int × (List Bool)) ⊕ ((List Bool) ⊕ (List Bool))))) := fun (x66, x67) =>
  bif decide (x66 < ((r58.length : Nat) : Int)) then (
    onInl (α := (List Bool)) (β := ((Int × (List Bool)) ⊕ ((List Bool) ⊕ ((Int × (List Bool)) ⊕ ((List Bool) ⊕ (List Bool)))))) (
      (ixO r58 x66).bind fun x80 =>
      bif ((decide (0 ≤ x80)) && (decide (x80 < a1))) then (
        (xixO 0 (((x1 : (List Bool)).map cellsOf).length) x80).bind fun j81 =>
        (xldO x67 (((x1 : (List Bool)).map cellsOf).length) j81).bind fun x82 =>
        some (.inl (x67.set j81 true))
      ) else (
        some (.inl x67)
      )
    ) fun x79 =>
    some (.inl (w64 (x66 + 1), x79))
  ) else (
    some (.inr (.inl x67))
  )

noncomputable def d_claims_among_0 (a0 : (List T_api_Track)) (a1 : Int) (x1 : (List Bool)) : (Int × (List Bool)) → Option ((Int × (List Bool)) ⊕ ((List Bool) ⊕ (List Bool))) := fun (x28, x29) =>
  bif decide (x28 < ((a0.length : Nat) : Int)) then (
    (ixO a0 x28).bind fun x57 =>
    (d_claims_Claimed_c1 x57).bind fun r58 =>
    onInl (α := (List Bool)) (β := ((Int × (List Bool)) ⊕ ((List Bool) ⊕ (List Bool)))) (loopO (d_claims_among_1 a1 x1 r58) (0, x29)) fun x75 =>
    some (.inl (w64 (x28 + 1), x75))
  ) else (
    some (.inr (.inl x29))
  )

noncomputable def d_claims_among__claims_Claimed_c1 (a0 : (List T_api_Track)) (a1 : Int) : Option (List Bool) :=
  bif ((decide (a1 < 0)) || (decide (48 < a1))) then (
    some ([] : (List Bool))
  ) else (
    (mkxO a1 a1 1 (false : Bool)).bind fun x1 =>
    onInl (α := (List Bool)) (β := (List Bool)) (loopO (d_claims_among_0 a0 a1 x1) (0, x1)) fun x56 =>
    some x56
  )
theorem d_claims_among__claims_Claimed_c1_ok (a0 : (List T_api_Track)) (a1 : Int) (r : (List Bool)) (h : d_claims_among__claims_Claimed_c1 a0 a1 = some r) : PCall Go.Proofs.Tryz.prog GlS 33 [Enc.pv a0, Enc.pv a1, .fn 34 []] (Enc.pv r) := by
  unfold d_claims_among__claims_Claimed_c1 at h
  refine pcall_of_pwp Go.Proofs.Tryz.func33 (by rfl) rfl Go.Proofs.Tryz.ntmps33 (by rfl) rfl ?_
  refine pwp_seq (r_reg ?_)
  refine zE ?_
  refine q_next (pwp_seq (pwp_seq (r_reg ?_)))
  refine zR 3 ?_
  refine e_segb 3 17 ((decide (a1 < 0)) || (decide (48 < a1))) (fun x hx => ?_) ?_
  · rcases b_or hx with ⟨hb, hx⟩ | ⟨hb, hx⟩
    · refine zS 14 hb ?_
      subst hx
      exact zF
    refine zS 14 hb ?_
    subst hx
    exact zF
  refine zN ?_
  refine q_next ?_
  rcases o_cond h with ⟨hb, h⟩ | ⟨hb, h⟩
  · refine zT hb ?_
    refine pwp_seq (r_reg ?_)
    refine zE ?_
    refine q_next (pwp_ret (q_seq_ret ?_))
    cases h
    exact zQ
  refine zU hb ?_
  refine pwp_skip (q_next (pwp_seq (r_reg ?_)))
  refine zR 1 ?_
  obtain ⟨x1, h1, h⟩ := o_bind h
  refine p_xmk (z := (false : Bool)) 19 h1 (by kernel_rfl) (by kernel_rfl) ?_
  refine zE ?_
  refine q_next (pwp_seq (pwp_seq (r_reg ?_)))
  refine zR 1 ?_
  refine p_len (L := (a0 : (List T_api_Track))) (by kernel_rfl) ?_
  refine zE ?_
  refine q_next (pwp_block ?_)
  obtain ⟨o53, h53, h⟩ := o_inl h
  refine r_loop2 47 0 (fun (x28, x29) => ⟨[(1, .int .i64 a1), (2, .fn 34 []), (7, .ex 19 1 1 (((x1 : (List Bool)).map cellsOf).length) 0 (((x1 : (List Bool)).map cellsOf).length)), (20, lstOf .frozen (a0 : (List T_api_Track))), (21, .int .i64 ((a0.length : Nat) : Int)), (22, .int .i64 x28)], [], [(19, (((x1 : (List Bool)).map cellsOf).length, 0))], [(19, (1, (1, (x29 : (List Bool)).map cellsOf)))]⟩) (fun x56 => ⟨[(7, .ex 19 1 1 (((x1 : (List Bool)).map cellsOf).length) 0 (((x1 : (List Bool)).map cellsOf).length))], [], [(19, (((x1 : (List Bool)).map cellsOf).length, 0))], [(19, (1, (1, (x56 : (List Bool)).map cellsOf)))]⟩) h53 (by kernel_rfl) (fun _ => by kernel_rfl) ?_ ?_
  · rintro ⟨x28, x29⟩ oh52 h52
    unfold d_claims_among_0 at h52
    refine pwp_seq (r_reg ?_)
    refine zE ?_
    refine q_next (pwp_seq ?_)
    rcases o_cond h52 with ⟨hb, h52⟩ | ⟨hb, h52⟩
    · refine zT hb ?_
      refine pwp_skip (q_next (pwp_seq (pwp_block (pwp_seq (r_reg ?_)))))
      obtain ⟨x57, h54, h52⟩ := o_bind h52
      refine zI h54 ?_
      refine zE ?_
      refine q_next (pwp_seq (r_reg ?_))
      refine zR 2 ?_
      obtain ⟨r58, h55, h52⟩ := o_bind h52
      refine p_call (d_claims_Claimed_c1_ok _ r58 h55) (by kernel_rfl) (by kernel_rfl) ?_
      refine p_len (L := (r58 : (List Int))) (by kernel_rfl) ?_
      refine zE ?_
      refine q_next (pwp_block ?_)
      obtain ⟨o71, h71, h52⟩ := o_inl h52
      refine r_loop2 47 2 (fun (x66, x67) => ⟨[(1, .int .i64 a1), (2, .fn 34 []), (7, .ex 19 1 1 (((x1 : (List Bool)).map cellsOf).length) 0 (((x1 : (List Bool)).map cellsOf).length)), (20, lstOf .frozen (a0 : (List T_api_Track))), (21, .int .i64 ((a0.length : Nat) : Int)), (22, .int .i64 x28), (28, lstOf .frozen (r58 : (List Int))), (29, .int .i64 ((r58.length : Nat) : Int)), (30, .int .i64 x66)], [], [(19, (((x1 : (List Bool)).map cellsOf).length, 0))], [(19, (1, (1, (x67 : (List Bool)).map cellsOf)))]⟩) (fun x75 => ⟨[(1, .int .i64 a1), (2, .fn 34 []), (7, .ex 19 1 1 (((x1 : (List Bool)).map cellsOf).length) 0 (((x1 : (List Bool)).map cellsOf).length)), (20, lstOf .frozen (a0 : (List T_api_Track))), (21, .int .i64 ((a0.length : Nat) : Int)), (22, .int .i64 x28)], [], [(19, (((x1 : (List Bool)).map cellsOf).length, 0))], [(19, (1, (1, (x75 : (List Bool)).map cellsOf)))]⟩) h71 (by kernel_rfl) (fun _ => by kernel_rfl) ?_ ?_
      · rintro ⟨x66, x67⟩ oh70 h70
        unfold d_claims_among_1 at h70
        refine pwp_seq (r_reg ?_)
        refine zE ?_
        refine q_next (pwp_seq ?_)
        rcases o_cond h70 with ⟨hb, h70⟩ | ⟨hb, h70⟩
        · refine zT hb ?_
          refine pwp_skip (q_next ?_)
          obtain ⟨o75, h75, h70⟩ := o_inl h70
          refine r_join (o := o75) 47 (fun x79 => ⟨[(1, .int .i64 a1), (2, .fn 34 []), (7, .ex 19 1 1 (((x1 : (List Bool)).map cellsOf).length) 0 (((x1 : (List Bool)).map cellsOf).length)), (20, lstOf .frozen (a0 : (List T_api_Track))), (21, .int .i64 ((a0.length : Nat) : Int)), (22, .int .i64 x28), (28, lstOf .frozen (r58 : (List Int))), (29, .int .i64 ((r58.length : Nat) : Int)), (30, .int .i64 x66)], [], [(19, (((x1 : (List Bool)).map cellsOf).length, 0))], [(19, (1, (1, (x79 : (List Bool)).map cellsOf)))]⟩) ?_ ?_
          · refine pwp_block (pwp_seq (r_reg ?_))
            obtain ⟨x80, h76, h75⟩ := o_bind h75
            refine zI h76 ?_
            refine zE ?_
            refine q_next (pwp_seq (r_reg ?_))
            refine zR 3 ?_
            refine e_segb 4 40 ((decide (0 ≤ x80)) && (decide (x80 < a1))) (fun x hx => ?_) ?_
            · rcases b_and hx with ⟨hb, hx⟩ | ⟨hb, hx⟩
              · refine zS 36 hb ?_
                subst hx
                exact zF
              refine zS 36 hb ?_
              subst hx
              exact zF
            refine zN ?_
            refine q_next ?_
            rcases o_cond h75 with ⟨hb, h75⟩ | ⟨hb, h75⟩
            · refine zT hb ?_
              refine r_reg ?_
              refine zR 2 ?_
              obtain ⟨j81, h77, h75⟩ := o_bind h75
              refine p_xix (tk := 19) (k := 1) (N := ((x1 : (List Bool)).map cellsOf).length) h77 (by kernel_rfl) ?_
              obtain ⟨x82, h78, h75⟩ := o_bind h75
              refine p_xst (L := (x67 : (List Bool))) (tk := 19) (N := ((x1 : (List Bool)).map cellsOf).length) (j := j81) (y := x82) (y' := true) h78 0 1 [.bool true] (by kernel_rfl) (by kernel_rfl) ?_
              refine zN ?_
              refine q_block ?_
              cases h75
              exact zJ
            refine zU hb ?_
            refine pwp_skip (q_block ?_)
            cases h75
            exact zJ
          rintro x79 rfl
          have h70 := o_outl h70
          refine r_reg ?_
          refine zE ?_
          cases h70
          exact zB
        refine zU hb ?_
        refine pwp_exit (q_seq_exit ?_)
        cases h70
        exact zX
      rintro x75 s' rfl hs
      have h52 := o_outl h52
      refine q_block_hit (q_block ?_)
      refine q_next (pwp_wkr hs ?_)
      refine r_reg ?_
      refine zE ?_
      cases h52
      exact zB
    refine zU hb ?_
    refine pwp_exit (q_seq_exit ?_)
    cases h52
    exact zX
  rintro x56 s' rfl hs
  have h := o_outl h
  refine q_block_hit ?_
  refine q_next (pwp_wkr hs ?_)
  refine pwp_seq (r_reg ?_)
  refine zE ?_
  refine q_next ?_
  refine pwp_wkr (wkr_share (xss := (x56 : (List Bool)).map cellsOf) 19 1 1 (((x1 : (List Bool)).map cellsOf).length) [6, 7, 46] [] (by kernel_rfl) (by kernel_rfl) (by kernel_rfl) (by kernel_rfl)) ?_
  refine pwp_ret ?_
  cases h
  exact zQ

/-! claims.Claimed -/
noncomputable def d_claims_Claimed (a0 : (List T_api_Track)) (a1 : Int) : Option (List Bool) :=
  (d_claims_among__claims_Claimed_c1 a0 a1).bind fun r1 =>
  some r1
theorem d_claims_Claimed_ok (a0 : (List T_api_Track)) (a1 : Int) (r : (List Bool)) (h : d_claims_Claimed a0 a1 = some r) : PCall Go.Proofs.Tryz.prog GlS 11 [Enc.pv a0, Enc.pv a1] (Enc.pv r) := by
  unfold d_claims_Claimed at h
  refine pcall_of_pwp Go.Proofs.Tryz.func11 (by rfl) rfl Go.Proofs.Tryz.ntmps11 (by rfl) rfl ?_
  refine pwp_seq (r_reg ?_)
  refine zE ?_
  refine q_next (pwp_seq (r_reg ?_))
  refine zR 2 ?_
  obtain ⟨r1, h1, h⟩ := o_bind h
  refine p_call (d_claims_among__claims_Claimed_c1_ok _ _ r1 h1) (by kernel_rfl) (by kernel_rfl) ?_
  refine zE ?_
  refine q_next (pwp_ret ?_)
  cases h
  exact zQ

/-! signallingref40.Has -/
noncomputable def d_ref40_Has_0 (a0 : (List Int)) (a1 : Int) : Int → Option (Int ⊕ (Unit ⊕ Bool)) := fun x2 =>
  bif decide (x2 < ((a0.length : Nat) : Int)) then (
    (ixO a0 x2).bind fun x4 =>
    bif decide (x4 = a1) then (
      some (.inr (.inr true))
    ) else (
      some (.inl (w64 (x2 + 1)))
    )
  ) else (
    some (.inr (.inl ()))
  )

noncomputable def d_ref40_Has (a0 : (List Int)) (a1 : Int) : Option Bool :=
  onInl (α := Unit) (β := Bool) (loopO (d_ref40_Has_0 a0 a1) 0) fun _ =>
  some false
theorem d_ref40_Has_ok (a0 : (List Int)) (a1 : Int) (r : Bool) (h : d_ref40_Has a0 a1 = some r) : PCall Go.Proofs.Tryz.prog GlS 35 [Enc.pv a0, Enc.pv a1] (Enc.pv r) := by
  unfold d_ref40_Has at h
  refine pcall_of_pwp Go.Proofs.Tryz.func35 (by rfl) rfl Go.Proofs.Tryz.ntmps35 (by rfl) rfl ?_
  refine pwp_seq (r_reg ?_)
  refine zE ?_
  refine q_next (pwp_seq (pwp_seq (r_reg ?_)))
  refine zR 1 ?_
  refine p_len (L := (a0 : (List Int))) (by kernel_rfl) ?_
  refine zE ?_
  refine q_next (pwp_block ?_)
  obtain ⟨o6, h6, h⟩ := o_inl h
  refine r_loop2 17 0 (fun x2 => ⟨[(1, .int .i64 a1), (7, lstOf .frozen (a0 : (List Int))), (8, .int .i64 ((a0.length : Nat) : Int)), (9, .int .i64 x2)], [], [], []⟩) (fun (_ : Unit) => ⟨[], [], [], []⟩) h6 (by kernel_rfl) (fun _ => by kernel_rfl) ?_ ?_
  · rintro x2 oh5 h5
    unfold d_ref40_Has_0 at h5
    refine pwp_seq (r_reg ?_)
    refine zE ?_
    refine q_next (pwp_seq ?_)
    rcases o_cond h5 with ⟨hb, h5⟩ | ⟨hb, h5⟩
    · refine zT hb ?_
      refine pwp_skip (q_next (pwp_seq (pwp_block (pwp_seq (r_reg ?_)))))
      obtain ⟨x4, h7, h5⟩ := o_bind h5
      refine zI h7 ?_
      refine zE ?_
      refine q_next (pwp_seq (r_reg ?_))
      refine zE ?_
      refine q_next ?_
      rcases o_cond h5 with ⟨hb, h5⟩ | ⟨hb, h5⟩
      · refine zT hb ?_
        refine pwp_seq (r_reg ?_)
        refine zE ?_
        refine q_next (pwp_ret (q_block_ret (q_seq_ret ?_)))
        cases h5
        refine q_lout_ret fun he => ?_
        subst he
        have h8 := o_outr h
        refine q_block_ret (q_seq_ret ?_)
        cases h8
        exact zQ
      refine zU hb ?_
      refine pwp_skip (q_block (q_next (r_reg ?_)))
      refine zE ?_
      cases h5
      exact zB
    refine zU hb ?_
    refine pwp_exit (q_seq_exit ?_)
    cases h5
    exact zX
  rintro _ s' rfl hs
  have h := o_outl h
  refine q_block_hit ?_
  refine q_next (pwp_wkr hs ?_)
  refine pwp_seq (r_reg ?_)
  refine zE ?_
  refine q_next (pwp_ret ?_)
  cases h
  exact zQ

end PM
