/-
  Plain functions for the program's functions, and the proofs that the program does them. Printed by den.py.
-/
import Derived.Test.YtoknlpdkocemfaaGreatDoorDen2
namespace PM
open Go Go.RowKit
attribute [local irreducible] pops pwp

/-! layout.checkBalises -/
noncomputable def d_layout_checkBalises_0 (a0 : T_api_Layout) : Int → Option (Int ⊕ (Unit ⊕ Int)) := fun x8 =>
  bif decide (x8 < ((a0.Balises.length : Nat) : Int)) then (
    (ixO a0.Balises x8).bind fun x16 =>
    (d_layout_within x16.Id 1 1073741824).bind fun r17 =>
    ((bif (!r17) then some true else (
      (d_layout_within x16.El 0 (w64 (((a0.Elements.length : Nat) : Int) - 1))).bind fun r19 =>
      some (!r19)
    )) : Option Bool).bind fun b18 =>
    ((bif b18 then some true else (
      (ixO a0.Elements x16.El).bind fun x21 =>
      (d_layout_within x16.Offset 0 x21.Length).bind fun r22 =>
      some (!r22)
    )) : Option Bool).bind fun b20 =>
    bif b20 then (
      some (.inr (.inr 1))
    ) else (
      some (.inl (w64 (x8 + 1)))
    )
  ) else (
    some (.inr (.inl ()))
  )

noncomputable def d_layout_checkBalises_1 (a0 : T_api_Layout) : (Int × (List (Int × Bool))) → Option ((Int × (List (Int × Bool))) ⊕ (Unit ⊕ Int)) := fun (x24, x25) =>
  bif decide (x24 < ((a0.Balises.length : Nat) : Int)) then (
    (ixO a0.Balises x24).bind fun x27 =>
    bif ((mget (x25 : (List (Int × Bool))) x27.Id).getD false) then (
      some (.inr (.inr 8))
    ) else (
      some (.inl (w64 (x24 + 1), (mset x27.Id true x25)))
    )
  ) else (
    some (.inr (.inl ()))
  )

noncomputable def d_layout_checkBalises (a0 : T_api_Layout) : Option Int :=
  onInl (α := Unit) (β := Int) (loopO (d_layout_checkBalises_0 a0) 0) fun _ =>
  onInl (α := Unit) (β := Int) (loopO (d_layout_checkBalises_1 a0) (0, ([] : (List (Int × Bool))))) fun _ =>
  some 0
theorem d_layout_checkBalises_ok (a0 : T_api_Layout) (r : Int) (h : d_layout_checkBalises a0 = some r) : PCall Go.Proofs.Tryz.prog GlS 56 [Enc.pv a0] (Enc.pv r) := by
  unfold d_layout_checkBalises at h
  refine pcall_of_pwp Go.Proofs.Tryz.func56 (by rfl) rfl Go.Proofs.Tryz.ntmps56 (by rfl) rfl ?_
  refine pwp_seq (r_reg ?_)
  refine zE ?_
  refine q_next (pwp_seq (pwp_seq (r_reg ?_)))
  refine zR 2 ?_
  refine p_len (L := (a0.Balises : (List T_api_Balise))) (by kernel_rfl) ?_
  refine zE ?_
  refine q_next (pwp_block ?_)
  obtain ⟨o18, h18, h⟩ := o_inl h
  refine r_loop2 59 0 (fun x8 => ⟨[(1, .ref 1 0), (9, lstOf .frozen (a0.Balises : (List T_api_Balise))), (10, .int .i64 ((a0.Balises.length : Nat) : Int)), (11, .int .i64 x8)], [(1, .cells (cellsOf a0))], [], []⟩) (fun (_ : Unit) => ⟨[(1, .ref 1 0)], [(1, .cells (cellsOf a0))], [], []⟩) h18 (by kernel_rfl) (fun _ => by kernel_rfl) ?_ ?_
  · rintro x8 oh17 h17
    unfold d_layout_checkBalises_0 at h17
    refine pwp_seq (r_reg ?_)
    refine zE ?_
    refine q_next (pwp_seq ?_)
    rcases o_cond h17 with ⟨hb, h17⟩ | ⟨hb, h17⟩
    · refine zT hb ?_
      refine pwp_skip (q_next (pwp_seq (pwp_block (pwp_seq (r_reg ?_)))))
      obtain ⟨x16, h19, h17⟩ := o_bind h17
      refine zI h19 ?_
      refine zE ?_
      refine q_next (pwp_seq ?_)
      refine r_regd (by kernel_rfl) (by kernel_rfl) ?_
      refine zR 2 ?_
      obtain ⟨r17, h20, h17⟩ := o_bind h17
      refine p_call (d_layout_within_ok _ _ _ r17 h20) (by kernel_rfl) (by kernel_rfl) ?_
      obtain ⟨b18, h21, h17⟩ := o_bind h17
      refine zR 2 ?_
      refine e_seg 9 28 (.bool b18) ?_ ?_
      · rcases o_cond h21 with ⟨hb, h21⟩ | ⟨hb, h21⟩
        · refine zS 19 hb ?_
          cases h21
          exact zF
        refine zS 19 hb ?_
        refine zR 4 ?_
        refine p_len (L := (a0.Elements : (List T_api_Element))) (by kernel_rfl) ?_
        refine zR 1 ?_
        obtain ⟨r19, h22, h21⟩ := o_bind h21
        refine p_call (d_layout_within_ok _ _ _ r19 h22) (by kernel_rfl) (by kernel_rfl) ?_
        cases h21
        exact zF
      obtain ⟨b20, h23, h17⟩ := o_bind h17
      refine zR 1 ?_
      refine e_seg 12 41 (.bool b20) ?_ ?_
      · rcases o_cond h23 with ⟨hb, h23⟩ | ⟨hb, h23⟩
        · refine zS 29 hb ?_
          cases h23
          exact zF
        refine zS 29 hb ?_
        refine zR 6 ?_
        obtain ⟨x21, h24, h23⟩ := o_bind h23
        refine zI h24 ?_
        refine zR 2 ?_
        obtain ⟨r22, h25, h23⟩ := o_bind h23
        refine p_call (d_layout_within_ok _ _ _ r22 h25) (by kernel_rfl) (by kernel_rfl) ?_
        cases h23
        exact zF
      refine zN ?_
      refine q_next ?_
      rcases o_cond h17 with ⟨hb, h17⟩ | ⟨hb, h17⟩
      · refine zT hb ?_
        refine pwp_seq (r_reg ?_)
        refine zE ?_
        refine q_next (pwp_ret (q_block_ret (q_seq_ret ?_)))
        cases h17
        refine q_lout_ret fun he => ?_
        subst he
        have h26 := o_outr h
        refine q_block_ret (q_seq_ret ?_)
        cases h26
        exact zQ
      refine zU hb ?_
      refine pwp_skip (q_block (q_next (r_reg ?_)))
      refine zE ?_
      cases h17
      exact zB
    refine zU hb ?_
    refine pwp_exit (q_seq_exit ?_)
    cases h17
    exact zX
  rintro _ s' rfl hs
  have h := o_outl h
  refine q_block_hit ?_
  refine q_next (pwp_wkr hs ?_)
  refine pwp_seq (r_reg ?_)
  refine zE ?_
  refine q_next (pwp_seq (pwp_seq (r_reg ?_)))
  refine zR 2 ?_
  refine p_len (L := (a0.Balises : (List T_api_Balise))) (by kernel_rfl) ?_
  refine zE ?_
  refine q_next (pwp_block ?_)
  obtain ⟨o32, h32, h⟩ := o_inl h
  refine r_loop2 59 2 (fun (x24, x25) => ⟨[(5, .mp 43), (45, lstOf .frozen (a0.Balises : (List T_api_Balise))), (46, .int .i64 ((a0.Balises.length : Nat) : Int)), (47, .int .i64 x24)], [(43, .map (mpOf (x25 : (List (Int × Bool)))))], [], []⟩) (fun (_ : Unit) => ⟨[], [], [], []⟩) h32 (by kernel_rfl) (fun _ => by kernel_rfl) ?_ ?_
  · rintro ⟨x24, x25⟩ oh31 h31
    unfold d_layout_checkBalises_1 at h31
    refine pwp_seq (r_reg ?_)
    refine zE ?_
    refine q_next (pwp_seq ?_)
    rcases o_cond h31 with ⟨hb, h31⟩ | ⟨hb, h31⟩
    · refine zT hb ?_
      refine pwp_skip (q_next (pwp_seq (pwp_block (pwp_seq (r_reg ?_)))))
      obtain ⟨x27, h33, h31⟩ := o_bind h31
      refine zI h33 ?_
      refine zE ?_
      refine q_next (pwp_seq (pwp_seq (r_reg ?_)))
      refine zR 3 ?_
      refine p_lookup (m := (x25 : (List (Int × Bool)))) (k := x27.Id) false 43 (by kernel_rfl) (by kernel_rfl) ?_
      refine zN ?_
      refine q_next ?_
      rcases o_cond h31 with ⟨hb, h31⟩ | ⟨hb, h31⟩
      · refine zT hb ?_
        refine pwp_seq (r_reg ?_)
        refine zE ?_
        refine q_next (pwp_ret (q_seq_ret (q_block_ret (q_seq_ret ?_))))
        cases h31
        refine q_lout_ret fun he => ?_
        subst he
        have h34 := o_outr h
        refine q_block_ret (q_seq_ret ?_)
        cases h34
        exact zQ
      refine zU hb ?_
      refine pwp_skip (q_next (r_reg ?_))
      refine zR 3 ?_
      refine p_mset (m := (x25 : (List (Int × Bool)))) (k := x27.Id) (v := true) 43 (by kernel_rfl) (by kernel_rfl) (by kernel_rfl) ?_
      refine zN ?_
      refine q_block (q_next (r_reg ?_))
      refine zE ?_
      cases h31
      exact zB
    refine zU hb ?_
    refine pwp_exit (q_seq_exit ?_)
    cases h31
    exact zX
  rintro _ s' rfl hs
  have h := o_outl h
  refine q_block_hit ?_
  refine q_next (pwp_wkr hs ?_)
  refine pwp_seq (r_reg ?_)
  refine zE ?_
  refine q_next (pwp_ret ?_)
  cases h
  exact zQ

/-! layout.Check -/
noncomputable def d_layout_Check (a0 : T_api_Layout) : Option Int :=
  (d_layout_countsFit a0).bind fun r1 =>
  bif (!r1) then (
    some 2
  ) else (
    (d_layout_checkNames a0).bind fun r2 =>
    bif (!(decide (r2 = 0))) then (
      some r2
    ) else (
      (d_layout_elementsFit a0).bind fun r3 =>
      ((bif (!r3) then some true else (
        (d_layout_sectionsUsed a0).bind fun r5 =>
        some (!r5)
      )) : Option Bool).bind fun b4 =>
      bif b4 then (
        some 1
      ) else (
        (d_layout_joinEnds a0).bind fun r6 =>
        bif (!(decide (r6.2 = 0))) then (
          some r6.2
        ) else (
          (d_layout_checkSignals a0 r6.1).bind fun r7 =>
          bif (!(decide (r7 = 0))) then (
            some r7
          ) else (
            (d_layout_checkBalises a0).bind fun r8 =>
            some r8
          )
        )
      )
    )
  )
theorem d_layout_Check_ok (a0 : T_api_Layout) (r : Int) (h : d_layout_Check a0 = some r) : PCall Go.Proofs.Tryz.prog GlS 20 [Enc.pv a0] (Enc.pv r) := by
  unfold d_layout_Check at h
  refine pcall_of_pwp Go.Proofs.Tryz.func20 (by rfl) rfl Go.Proofs.Tryz.ntmps20 (by rfl) rfl ?_
  refine pwp_seq (r_reg ?_)
  refine zE ?_
  refine q_next (pwp_seq (pwp_seq (r_reg ?_)))
  refine zR 1 ?_
  obtain ⟨r1, h1, h⟩ := o_bind h
  refine p_call (d_layout_countsFit_ok _ r1 h1) (by kernel_rfl) (by kernel_rfl) ?_
  refine zE ?_
  refine q_next ?_
  rcases o_cond h with ⟨hb, h⟩ | ⟨hb, h⟩
  · refine zT hb ?_
    refine pwp_seq (r_reg ?_)
    refine zE ?_
    refine q_next (pwp_ret (q_seq_ret ?_))
    cases h
    exact zQ
  refine zU hb ?_
  refine pwp_skip (q_next (pwp_seq (pwp_seq (r_reg ?_))))
  refine zR 1 ?_
  obtain ⟨r2, h2, h⟩ := o_bind h
  refine p_call (d_layout_checkNames_ok _ r2 h2) (by kernel_rfl) (by kernel_rfl) ?_
  refine zE ?_
  refine q_next (pwp_seq (r_reg ?_))
  refine zE ?_
  refine q_next ?_
  rcases o_cond h with ⟨hb, h⟩ | ⟨hb, h⟩
  · refine zT hb ?_
    refine pwp_seq (r_reg ?_)
    refine zE ?_
    refine q_next (pwp_ret (q_seq_ret ?_))
    cases h
    exact zQ
  refine zU hb ?_
  refine pwp_skip (q_next (pwp_seq (pwp_seq (r_reg ?_))))
  refine zR 1 ?_
  obtain ⟨r3, h3, h⟩ := o_bind h
  refine p_call (d_layout_elementsFit_ok _ r3 h3) (by kernel_rfl) (by kernel_rfl) ?_
  obtain ⟨b4, h4, h⟩ := o_bind h
  refine zR 2 ?_
  refine e_seg 4 22 (.bool b4) ?_ ?_
  · rcases o_cond h4 with ⟨hb, h4⟩ | ⟨hb, h4⟩
    · refine zS 18 hb ?_
      cases h4
      exact zF
    refine zS 18 hb ?_
    refine zR 1 ?_
    obtain ⟨r5, h5, h4⟩ := o_bind h4
    refine p_call (d_layout_sectionsUsed_ok _ r5 h5) (by kernel_rfl) (by kernel_rfl) ?_
    cases h4
    exact zF
  refine zN ?_
  refine q_next ?_
  rcases o_cond h with ⟨hb, h⟩ | ⟨hb, h⟩
  · refine zT hb ?_
    refine pwp_seq (r_reg ?_)
    refine zE ?_
    refine q_next (pwp_ret (q_seq_ret ?_))
    cases h
    exact zQ
  refine zU hb ?_
  refine pwp_skip (q_next (pwp_seq (r_reg ?_)))
  refine zR 1 ?_
  obtain ⟨r6, h6, h⟩ := o_bind h
  refine p_call (d_layout_joinEnds_ok _ r6 h6) (by kernel_rfl) (by kernel_rfl) ?_
  refine zE ?_
  refine q_next (pwp_seq (pwp_seq (r_reg ?_)))
  refine zE ?_
  refine q_next ?_
  rcases o_cond h with ⟨hb, h⟩ | ⟨hb, h⟩
  · refine zT hb ?_
    refine pwp_seq (r_reg ?_)
    refine zE ?_
    refine q_next (pwp_ret (q_seq_ret ?_))
    cases h
    exact zQ
  refine zU hb ?_
  refine pwp_skip (q_next (pwp_seq (pwp_seq (r_reg ?_))))
  refine zR 2 ?_
  obtain ⟨r7, h7, h⟩ := o_bind h
  refine p_call (d_layout_checkSignals_ok _ _ r7 h7) (by kernel_rfl) (by kernel_rfl) ?_
  refine zE ?_
  refine q_next (pwp_seq (r_reg ?_))
  refine zE ?_
  refine q_next ?_
  rcases o_cond h with ⟨hb, h⟩ | ⟨hb, h⟩
  · refine zT hb ?_
    refine pwp_seq (r_reg ?_)
    refine zE ?_
    refine q_next (pwp_ret (q_seq_ret ?_))
    cases h
    exact zQ
  refine zU hb ?_
  refine pwp_skip (q_next (pwp_seq (r_reg ?_)))
  refine zR 1 ?_
  obtain ⟨r8, h8, h⟩ := o_bind h
  refine p_call (d_layout_checkBalises_ok _ r8 h8) (by kernel_rfl) (by kernel_rfl) ?_
  refine zE ?_
  refine q_next (pwp_ret ?_)
  cases h
  exact zQ

/-! num.Clamp -/
noncomputable def d_num_Clamp (a0 : Int) (a1 : Int) (a2 : Int) : Option Int :=
  some (max a1 (min a0 a2))
theorem d_num_Clamp_ok (a0 : Int) (a1 : Int) (a2 : Int) (r : Int) (h : d_num_Clamp a0 a1 a2 = some r) : PCall Go.Proofs.Tryz.prog GlS 95 [Enc.pv a0, Enc.pv a1, Enc.pv a2] (Enc.pv r) := by
  unfold d_num_Clamp at h
  refine pcall_of_pwp Go.Proofs.Tryz.func95 (by rfl) rfl Go.Proofs.Tryz.ntmps95 (by rfl) rfl ?_
  refine pwp_seq (r_reg ?_)
  refine zE ?_
  refine q_next (pwp_seq (r_reg ?_))
  refine zE ?_
  refine q_next (pwp_ret ?_)
  cases h
  exact zQ

/-! train.ranged -/
noncomputable def d_train_ranged (a0 : T_api_Train) : Option T_api_Train :=
  (d_num_Clamp a0.Id 1 99).bind fun r1 =>
  (d_num_Clamp a0.Length 1 50000).bind fun r2 =>
  (d_num_Clamp a0.Speed 1 10000).bind fun r3 =>
  (d_num_Clamp a0.Accel 1 200).bind fun r4 =>
  (d_num_Clamp a0.Service 1 200).bind fun r5 =>
  (d_num_Clamp a0.Emergency a0.Service 200).bind fun r6 =>
  (d_num_Clamp a0.Delay 0 5).bind fun r7 =>
  (d_num_Clamp a0.Const 0 500).bind fun r8 =>
  (d_num_Clamp a0.Rate 0 100).bind fun r9 =>
  some (T_api_Train.mk r1 a0.Name r2 r3 r4 r5 r6 r7 r8 r9)
theorem d_train_ranged_ok (a0 : T_api_Train) (r : T_api_Train) (h : d_train_ranged a0 = some r) : PCall Go.Proofs.Tryz.prog GlS 58 [Enc.pv a0] (Enc.pv r) := by
  unfold d_train_ranged at h
  refine pcall_of_pwp Go.Proofs.Tryz.func58 (by rfl) rfl Go.Proofs.Tryz.ntmps58 (by rfl) rfl ?_
  refine pwp_seq (r_reg ?_)
  refine zE ?_
  refine q_next (pwp_seq ?_)
  refine r_regd (by kernel_rfl) (by kernel_rfl) ?_
  refine zR 2 ?_
  obtain ⟨r1, h1, h⟩ := o_bind h
  refine p_call (d_num_Clamp_ok _ _ _ r1 h1) (by kernel_rfl) (by kernel_rfl) ?_
  refine zR 4 ?_
  obtain ⟨r2, h2, h⟩ := o_bind h
  refine p_call (d_num_Clamp_ok _ _ _ r2 h2) (by kernel_rfl) (by kernel_rfl) ?_
  refine zR 2 ?_
  obtain ⟨r3, h3, h⟩ := o_bind h
  refine p_call (d_num_Clamp_ok _ _ _ r3 h3) (by kernel_rfl) (by kernel_rfl) ?_
  refine zR 2 ?_
  obtain ⟨r4, h4, h⟩ := o_bind h
  refine p_call (d_num_Clamp_ok _ _ _ r4 h4) (by kernel_rfl) (by kernel_rfl) ?_
  refine zR 2 ?_
  obtain ⟨r5, h5, h⟩ := o_bind h
  refine p_call (d_num_Clamp_ok _ _ _ r5 h5) (by kernel_rfl) (by kernel_rfl) ?_
  refine zR 4 ?_
  obtain ⟨r6, h6, h⟩ := o_bind h
  refine p_call (d_num_Clamp_ok _ _ _ r6 h6) (by kernel_rfl) (by kernel_rfl) ?_
  refine zR 2 ?_
  obtain ⟨r7, h7, h⟩ := o_bind h
  refine p_call (d_num_Clamp_ok _ _ _ r7 h7) (by kernel_rfl) (by kernel_rfl) ?_
  refine zR 2 ?_
  obtain ⟨r8, h8, h⟩ := o_bind h
  refine p_call (d_num_Clamp_ok _ _ _ r8 h8) (by kernel_rfl) (by kernel_rfl) ?_
  refine zR 2 ?_
  obtain ⟨r9, h9, h⟩ := o_bind h
  refine p_call (d_num_Clamp_ok _ _ _ r9 h9) (by kernel_rfl) (by kernel_rfl) ?_
  refine zE ?_
  refine q_next (pwp_ret ?_)
  cases h
  exact zQ

/-! train.Check -/
noncomputable def d_train_Check (a0 : T_api_Train) : Option Int :=
  (d_words_Name a0.Name).bind fun r1 =>
  bif (!r1) then (
    some 3
  ) else (
    (d_train_ranged a0).bind fun r2 =>
    bif (!(eq_T_api_Train a0 r2)) then (
      some 1
    ) else (
      some 0
    )
  )
theorem d_train_Check_ok (a0 : T_api_Train) (r : Int) (h : d_train_Check a0 = some r) : PCall Go.Proofs.Tryz.prog GlS 21 [Enc.pv a0] (Enc.pv r) := by
  unfold d_train_Check at h
  refine pcall_of_pwp Go.Proofs.Tryz.func21 (by rfl) rfl Go.Proofs.Tryz.ntmps21 (by rfl) rfl ?_
  refine pwp_seq (r_reg ?_)
  refine zE ?_
  refine q_next (pwp_seq (pwp_seq (r_reg ?_)))
  refine zR 2 ?_
  obtain ⟨r1, h1, h⟩ := o_bind h
  refine p_call (d_words_Name_ok _ r1 h1) (by kernel_rfl) (by kernel_rfl) ?_
  refine zE ?_
  refine q_next ?_
  rcases o_cond h with ⟨hb, h⟩ | ⟨hb, h⟩
  · refine zT hb ?_
    refine pwp_seq (r_reg ?_)
    refine zE ?_
    refine q_next (pwp_ret (q_seq_ret ?_))
    cases h
    exact zQ
  refine zU hb ?_
  refine pwp_skip (q_next (pwp_seq (pwp_seq ?_)))
  refine r_regd (by kernel_rfl) (by kernel_rfl) ?_
  refine zR 2 ?_
  obtain ⟨r2, h2, h⟩ := o_bind h
  refine p_call (d_train_ranged_ok _ r2 h2) (by kernel_rfl) (by kernel_rfl) ?_
  refine zE ?_
  refine q_next ?_
  rcases o_cond h with ⟨hb, h⟩ | ⟨hb, h⟩
  · refine zT hb ?_
    refine pwp_seq (r_reg ?_)
    refine zE ?_
    refine q_next (pwp_ret (q_seq_ret ?_))
    cases h
    exact zQ
  refine zU hb ?_
  refine pwp_skip (q_next (pwp_seq (r_reg ?_)))
  refine zE ?_
  refine q_next (pwp_ret ?_)
  cases h
  exact zQ

/-! walk.passage -/
noncomputable def d_walk_passage (a0 : T_api_Layout) : Option T_api_Layout :=
  some a0
theorem d_walk_passage_ok (a0 : T_api_Layout) (r : T_api_Layout) (h : d_walk_passage a0 = some r) : PCall Go.Proofs.Tryz.prog GlS 96 [Enc.pv a0] (.fn 122 [.cptr (cellsOf r)]) := by
  unfold d_walk_passage at h
  refine pcall_of_pwp Go.Proofs.Tryz.func96 (by rfl) rfl Go.Proofs.Tryz.ntmps96 (by rfl) rfl ?_
  refine pwp_seq (r_reg ?_)
  refine zE ?_
  refine q_next (pwp_seq (r_reg ?_))
  refine zE ?_
  refine q_next ?_
  refine g_frz 1 [] (cs := cellsOf a0) (cs' := cellsOf a0) (by kernel_rfl) (by kernel_rfl) (by kernel_rfl) (by kernel_rfl) ?_
  refine pwp_ret ?_
  cases h
  exact zQ

/-! walk.exists -/
noncomputable def d_walk_exists (a0 : T_api_Layout) (a1 : Int) : Option Bool :=
  ((bif decide (0 ≤ a1) then (
    some (decide (a1 < ((a0.Elements.length : Nat) : Int)))
  ) else some false) : Option Bool).bind fun b1 =>
  some b1
theorem d_walk_exists_ok (a0 : T_api_Layout) (a1 : Int) (r : Bool) (h : d_walk_exists a0 a1 = some r) : PCall Go.Proofs.Tryz.prog GlS 62 [Enc.pv a0, Enc.pv a1] (Enc.pv r) := by
  unfold d_walk_exists at h
  refine pcall_of_pwp Go.Proofs.Tryz.func62 (by rfl) rfl Go.Proofs.Tryz.ntmps62 (by rfl) rfl ?_
  refine pwp_seq (r_reg ?_)
  refine zE ?_
  refine q_next (pwp_seq (r_reg ?_))
  obtain ⟨b1, h1, h⟩ := o_bind h
  refine zR 3 ?_
  refine e_seg 6 13 (.bool b1) ?_ ?_
  · rcases o_cond h1 with ⟨hb, h1⟩ | ⟨hb, h1⟩
    · refine zS 7 hb ?_
      refine zR 3 ?_
      refine p_len (L := (a0.Elements : (List T_api_Element))) (by kernel_rfl) ?_
      cases h1
      exact zF
    refine zS 7 hb ?_
    cases h1
    exact zF
  refine zE ?_
  refine q_next (pwp_ret ?_)
  cases h
  exact zQ

/-! rail.Need -/
noncomputable def d_rail_Need_0 (a0 : Int) (a1 : Int) (a2 : Int) : Int → Option (Int ⊕ (Unit ⊕ (Int × Bool))) := fun x2 =>
  bif decide (x2 < 10) then (
    (ixO tab_rail_passages x2).bind fun x4 =>
    bif (((decide (x4.kind_ = a0)) && (decide (x4.in_ = a1))) && (decide (x4.out_ = a2))) then (
      some (.inr (.inr (x4.need_, true)))
    ) else (
      some (.inl (w64 (x2 + 1)))
    )
  ) else (
    some (.inr (.inl ()))
  )

noncomputable def d_rail_Need (a0 : Int) (a1 : Int) (a2 : Int) : Option (Int × Bool) :=
  onInl (α := Unit) (β := (Int × Bool)) (loopO (d_rail_Need_0 a0 a1 a2) 0) fun _ =>
  some (0, false)
theorem d_rail_Need_ok (a0 : Int) (a1 : Int) (a2 : Int) (r : (Int × Bool)) (h : d_rail_Need a0 a1 a2 = some r) : PCall Go.Proofs.Tryz.prog GlS 124 [Enc.pv a0, Enc.pv a1, Enc.pv a2] (.tup [Enc.pv r.1, Enc.pv r.2]) := by
  unfold d_rail_Need at h
  refine pcall_of_pwp Go.Proofs.Tryz.func124 (by rfl) rfl Go.Proofs.Tryz.ntmps124 (by rfl) rfl ?_
  refine pwp_seq (r_reg ?_)
  refine zE ?_
  refine q_next (pwp_seq (pwp_seq (r_reg ?_)))
  refine zE ?_
  refine q_next (pwp_block ?_)
  obtain ⟨o6, h6, h⟩ := o_inl h
  refine r_loop2 33 0 (fun x2 => ⟨[(0, .int .i64 a0), (1, .int .i64 a1), (2, .int .i64 a2), (10, .agg (tab_rail_passages.flatMap cellsOf)), (11, .int .i64 x2)], [], [], []⟩) (fun (_ : Unit) => ⟨[], [], [], []⟩) h6 (by kernel_rfl) (fun _ => by kernel_rfl) ?_ ?_
  · rintro x2 oh5 h5
    unfold d_rail_Need_0 at h5
    refine pwp_seq (r_reg ?_)
    refine zE ?_
    refine q_next (pwp_seq ?_)
    rcases o_cond h5 with ⟨hb, h5⟩ | ⟨hb, h5⟩
    · refine zT hb ?_
      refine pwp_skip (q_next (pwp_seq (pwp_block (pwp_seq (r_reg ?_)))))
      obtain ⟨x4, h7, h5⟩ := o_bind h5
      refine p_tix (tab := tab_rail_passages) h7 true 10 4 (by kernel_rfl) (by kernel_rfl) (by kernel_rfl) (by kernel_rfl) ?_
      refine zE ?_
      refine q_next (pwp_seq (r_reg ?_))
      refine zR 5 ?_
      refine e_segb 5 23 ((decide (x4.kind_ = a0)) && (decide (x4.in_ = a1))) (fun x hx => ?_) ?_
      · rcases b_and hx with ⟨hb, hx⟩ | ⟨hb, hx⟩
        · refine zS 18 hb ?_
          subst hx
          exact zF
        refine zS 18 hb ?_
        subst hx
        exact zF
      refine zR 1 ?_
      refine e_segb 5 29 (((decide (x4.kind_ = a0)) && (decide (x4.in_ = a1))) && (decide (x4.out_ = a2))) (fun x hx => ?_) ?_
      · rcases b_and hx with ⟨hb, hx⟩ | ⟨hb, hx⟩
        · refine zS 24 hb ?_
          subst hx
          exact zF
        refine zS 24 hb ?_
        subst hx
        exact zF
      refine zN ?_
      refine q_next ?_
      rcases o_cond h5 with ⟨hb, h5⟩ | ⟨hb, h5⟩
      · refine zT hb ?_
        refine pwp_seq (r_reg ?_)
        refine zE ?_
        refine q_next (pwp_ret (q_block_ret (q_seq_ret ?_)))
        cases h5
        refine q_lout_ret fun he => ?_
        subst he
        have h8 := o_outr h
        refine q_block_ret (q_seq_ret ?_)
        cases h8
        exact zQ
      refine zU hb ?_
      refine pwp_skip (q_block (q_next (r_reg ?_)))
      refine zE ?_
      cases h5
      exact zB
    refine zU hb ?_
    refine pwp_exit (q_seq_exit ?_)
    cases h5
    exact zX
  rintro _ s' rfl hs
  have h := o_outl h
  refine q_block_hit ?_
  refine q_next (pwp_wkr hs ?_)
  refine pwp_seq (r_reg ?_)
  refine zE ?_
  refine q_next (pwp_ret ?_)
  cases h
  exact zQ

/-! walk.possible -/
noncomputable def d_walk_possible (a0 : T_api_Layout) (a1 : T_api_Step) : Option (Int × Bool) :=
  (d_walk_exists a0 a1.El).bind fun r1 =>
  bif (!r1) then (
    some (0, false)
  ) else (
    (ixO a0.Elements a1.El).bind fun x2 =>
    (d_rail_Need x2.Kind a1.In a1.Out).bind fun r3 =>
    some (r3.1, r3.2)
  )
theorem d_walk_possible_ok (a0 : T_api_Layout) (a1 : T_api_Step) (r : (Int × Bool)) (h : d_walk_possible a0 a1 = some r) : PCall Go.Proofs.Tryz.prog GlS 97 [Enc.pv a0, Enc.pv a1] (.tup [Enc.pv r.1, Enc.pv r.2]) := by
  unfold d_walk_possible at h
  refine pcall_of_pwp Go.Proofs.Tryz.func97 (by rfl) rfl Go.Proofs.Tryz.ntmps97 (by rfl) rfl ?_
  refine pwp_seq (r_reg ?_)
  refine zE ?_
  refine q_next (pwp_seq (pwp_seq (r_reg ?_)))
  refine zR 3 ?_
  obtain ⟨r1, h1, h⟩ := o_bind h
  refine p_call (d_walk_exists_ok _ _ r1 h1) (by kernel_rfl) (by kernel_rfl) ?_
  refine zE ?_
  refine q_next ?_
  rcases o_cond h with ⟨hb, h⟩ | ⟨hb, h⟩
  · refine zT hb ?_
    refine pwp_seq (r_reg ?_)
    refine zE ?_
    refine q_next (pwp_ret (q_seq_ret ?_))
    cases h
    exact zQ
  refine zU hb ?_
  refine pwp_skip (q_next (pwp_seq ?_))
  refine r_regd (by kernel_rfl) (by kernel_rfl) ?_
  refine zR 4 ?_
  obtain ⟨x2, h2, h⟩ := o_bind h
  refine zI h2 ?_
  refine zR 6 ?_
  obtain ⟨r3, h3, h⟩ := o_bind h
  refine p_call (d_rail_Need_ok _ _ _ r3 h3) (by kernel_rfl) (by kernel_rfl) ?_
  refine zE ?_
  refine q_next (pwp_ret ?_)
  cases h
  exact zQ

/-! layout.Joined -/
noncomputable def d_layout_Joined_0 (a0 : T_api_Layout) (a1 : T_api_End) : Int → Option (Int ⊕ (Unit ⊕ (T_api_End × Bool))) := fun x2 =>
  bif decide (x2 < ((a0.Joints.length : Nat) : Int)) then (
    (ixO a0.Joints x2).bind fun x4 =>
    bif eq_T_api_End x4.A a1 then (
      some (.inr (.inr (x4.B, true)))
    ) else (
      bif eq_T_api_End x4.B a1 then (
        some (.inr (.inr (x4.A, true)))
      ) else (
        some (.inl (w64 (x2 + 1)))
      )
    )
  ) else (
    some (.inr (.inl ()))
  )

noncomputable def d_layout_Joined (a0 : T_api_Layout) (a1 : T_api_End) : Option (T_api_End × Bool) :=
  onInl (α := Unit) (β := (T_api_End × Bool)) (loopO (d_layout_Joined_0 a0 a1) 0) fun _ =>
  some ((T_api_End.mk 0 0), false)
theorem d_layout_Joined_ok (a0 : T_api_Layout) (a1 : T_api_End) (r : (T_api_End × Bool)) (h : d_layout_Joined a0 a1 = some r) : PCall Go.Proofs.Tryz.prog GlS 123 [Enc.pv a0, Enc.pv a1] (.tup [Enc.pv r.1, Enc.pv r.2]) := by
  unfold d_layout_Joined at h
  refine pcall_of_pwp Go.Proofs.Tryz.func123 (by rfl) rfl Go.Proofs.Tryz.ntmps123 (by rfl) rfl ?_
  refine pwp_seq (r_reg ?_)
  refine zE ?_
  refine q_next (pwp_seq (pwp_seq (r_reg ?_)))
  refine zR 2 ?_
  refine p_len (L := (a0.Joints : (List T_api_Joint))) (by kernel_rfl) ?_
  refine zE ?_
  refine q_next (pwp_block ?_)
  obtain ⟨o8, h8, h⟩ := o_inl h
  refine r_loop2 29 0 (fun x2 => ⟨[(3, .ref 3 0), (4, .ref 4 0), (9, lstOf .frozen (a0.Joints : (List T_api_Joint))), (10, .int .i64 ((a0.Joints.length : Nat) : Int)), (11, .int .i64 x2)], [(3, .cells (cellsOf a1)), (4, .cells ([.int .i64 0, .int .i64 0]))], [], []⟩) (fun (_ : Unit) => ⟨[(4, .ref 4 0)], [(4, .cells ([.int .i64 0, .int .i64 0]))], [], []⟩) h8 (by kernel_rfl) (fun _ => by kernel_rfl) ?_ ?_
  · rintro x2 oh7 h7
    unfold d_layout_Joined_0 at h7
    refine pwp_seq (r_reg ?_)
    refine zE ?_
    refine q_next (pwp_seq ?_)
    rcases o_cond h7 with ⟨hb, h7⟩ | ⟨hb, h7⟩
    · refine zT hb ?_
      refine pwp_skip (q_next (pwp_seq (pwp_block (pwp_seq (r_reg ?_)))))
      obtain ⟨x4, h9, h7⟩ := o_bind h7
      refine zI h9 ?_
      refine zE ?_
      refine q_next (pwp_seq (pwp_seq (r_reg ?_)))
      refine zE ?_
      refine q_next ?_
      rcases o_cond h7 with ⟨hb, h7⟩ | ⟨hb, h7⟩
      · refine zT hb ?_
        refine pwp_seq (r_reg ?_)
        refine zE ?_
        refine q_next (pwp_ret (q_seq_ret (q_block_ret (q_seq_ret ?_))))
        cases h7
        refine q_lout_ret fun he => ?_
        subst he
        have h10 := o_outr h
        refine q_block_ret (q_seq_ret ?_)
        cases h10
        exact zQ
      refine zU hb ?_
      refine pwp_skip (q_next (pwp_seq (r_reg ?_)))
      refine zE ?_
      refine q_next ?_
      rcases o_cond h7 with ⟨hb, h7⟩ | ⟨hb, h7⟩
      · refine zT hb ?_
        refine pwp_seq (r_reg ?_)
        refine zE ?_
        refine q_next (pwp_ret (q_block_ret (q_seq_ret ?_)))
        cases h7
        refine q_lout_ret fun he => ?_
        subst he
        have h11 := o_outr h
        refine q_block_ret (q_seq_ret ?_)
        cases h11
        exact zQ
      refine zU hb ?_
      refine pwp_skip (q_block (q_next (r_reg ?_)))
      refine zE ?_
      cases h7
      exact zB
    refine zU hb ?_
    refine pwp_exit (q_seq_exit ?_)
    cases h7
    exact zX
  rintro _ s' rfl hs
  have h := o_outl h
  refine q_block_hit ?_
  refine q_next (pwp_wkr hs ?_)
  refine pwp_seq (r_reg ?_)
  refine zE ?_
  refine q_next (pwp_ret ?_)
  cases h
  exact zQ

/-! walk.passage$1 -/
noncomputable def d_walk_passage_1 (a0 : T_api_Step) (c0 : T_api_Layout) : Option (T_api_End × Bool) :=
  (d_layout_Joined c0 (T_api_End.mk a0.El a0.Out)).bind fun r1 =>
  some (r1.1, r1.2)
theorem d_walk_passage_1_ok (a0 : T_api_Step) (c0 : T_api_Layout) (r : (T_api_End × Bool)) (h : d_walk_passage_1 a0 c0 = some r) : PCall Go.Proofs.Tryz.prog GlS 122 [Enc.pv a0, .cptr (cellsOf c0)] (.tup [Enc.pv r.1, Enc.pv r.2]) := by
  unfold d_walk_passage_1 at h
  refine pcall_of_pwp Go.Proofs.Tryz.func122 (by rfl) rfl Go.Proofs.Tryz.ntmps122 (by rfl) rfl ?_
  refine pwp_seq (r_reg ?_)
  refine zE ?_
  refine q_next (pwp_seq (r_reg ?_))
  refine zR 6 ?_
  obtain ⟨r1, h1, h⟩ := o_bind h
  refine p_call (d_layout_Joined_ok _ _ r1 h1) (by kernel_rfl) (by kernel_rfl) ?_
  refine zE ?_
  refine q_next (pwp_ret ?_)
  cases h
  exact zQ

/-! walk.Valid -/
noncomputable def d_walk_Valid_1 (x49 : T_api_Step) (x51 : (List T_api_Step)) : Int → Option (Int ⊕ (Unit ⊕ (Unit ⊕ (Int ⊕ (Unit ⊕ Bool))))) := fun x53 =>
  bif decide (x53 < ((x51.length : Nat) : Int)) then (
    (ixO x51 x53).bind fun x55 =>
    bif decide (x55.El = x49.El) then (
      some (.inr (.inr (.inr (.inr (.inr false)))))
    ) else (
      some (.inl (w64 (x53 + 1)))
    )
  ) else (
    some (.inr (.inl ()))
  )

noncomputable def d_walk_Valid_0 (a0 : T_api_Layout) (a1 : (List T_api_Step)) (r2 : T_api_Layout) : Int → Option (Int ⊕ (Unit ⊕ Bool)) := fun x21 =>
  bif decide (x21 < ((a1.length : Nat) : Int)) then (
    onInl (α := Unit) (β := (Int ⊕ (Unit ⊕ Bool))) (
      (ixO a1 x21).bind fun x49 =>
      (d_walk_possible a0 x49).bind fun r50 =>
      bif (!r50.2) then (
        some (.inr (.inr (.inr false)))
      ) else (
        (slO a1 none (some x21) none).bind fun x51 =>
        onInl (α := Unit) (β := (Unit ⊕ (Int ⊕ (Unit ⊕ Bool)))) (loopO (d_walk_Valid_1 x49 x51) 0) fun _ =>
        bif decide (x21 = 0) then (
          some (.inl ())
        ) else (
          (ixO a1 (w64 (x21 - 1))).bind fun x56 =>
          (d_walk_passage_1 x56 r2).bind fun r57 =>
          bif (((!r57.2) || (!(decide (r57.1.El = x49.El)))) || (!(decide (r57.1.Side = x49.In)))) then (
            some (.inr (.inr (.inr false)))
          ) else (
            some (.inl ())
          )
        )
      )
    ) fun _ =>
    some (.inl (w64 (x21 + 1)))
  ) else (
    some (.inr (.inl ()))
  )

noncomputable def d_walk_Valid (a0 : T_api_Layout) (a1 : (List T_api_Step)) : Option Bool :=
  ((bif decide (((a1.length : Nat) : Int) = 0) then some true else (
    some (decide (64 < ((a1.length : Nat) : Int)))
  )) : Option Bool).bind fun b1 =>
  bif b1 then (
    some false
  ) else (
    (d_walk_passage a0).bind fun r2 =>
    onInl (α := Unit) (β := Bool) (loopO (d_walk_Valid_0 a0 a1 r2) 0) fun _ =>
    some true
  )
theorem d_walk_Valid_ok (a0 : T_api_Layout) (a1 : (List T_api_Step)) (r : Bool) (h : d_walk_Valid a0 a1 = some r) : PCall Go.Proofs.Tryz.prog GlS 59 [Enc.pv a0, Enc.pv a1] (Enc.pv r) := by
  unfold d_walk_Valid at h
  refine pcall_of_pwp Go.Proofs.Tryz.func59 (by rfl) rfl Go.Proofs.Tryz.ntmps59 (by rfl) rfl ?_
  refine pwp_seq (r_reg ?_)
  refine zE ?_
  refine q_next (pwp_seq (pwp_seq (r_reg ?_)))
  refine zR 1 ?_
  refine p_len (L := (a1 : (List T_api_Step))) (by kernel_rfl) ?_
  obtain ⟨b1, h1, h⟩ := o_bind h
  refine zR 2 ?_
  refine e_seg 4 21 (.bool b1) ?_ ?_
  · rcases o_cond h1 with ⟨hb, h1⟩ | ⟨hb, h1⟩
    · refine zS 17 hb ?_
      cases h1
      exact zF
    refine zS 17 hb ?_
    refine zR 1 ?_
    refine p_len (L := (a1 : (List T_api_Step))) (by kernel_rfl) ?_
    cases h1
    exact zF
  refine zN ?_
  refine q_next ?_
  rcases o_cond h with ⟨hb, h⟩ | ⟨hb, h⟩
  · refine zT hb ?_
    refine pwp_seq (r_reg ?_)
    refine zE ?_
    refine q_next (pwp_ret (q_seq_ret ?_))
    cases h
    exact zQ
  refine zU hb ?_
  refine pwp_skip (q_next (pwp_seq (r_reg ?_)))
  refine zR 1 ?_
  obtain ⟨r2, h2, h⟩ := o_bind h
  refine p_call (d_walk_passage_ok _ r2 h2) (by kernel_rfl) (by kernel_rfl) ?_
  refine zE ?_
  refine q_next (pwp_seq (pwp_seq (r_reg ?_)))
  refine zR 1 ?_
  refine p_len (L := (a1 : (List T_api_Step))) (by kernel_rfl) ?_
  refine zE ?_
  refine q_next (pwp_block ?_)
  obtain ⟨o98, h98, h⟩ := o_inl h
  refine r_loop2 82 0 (fun x21 => ⟨[(1, lstOf .frozen (a1 : (List T_api_Step))), (2, .ref 2 0), (5, .fn 122 [.cptr (cellsOf r2)]), (24, lstOf .frozen (a1 : (List T_api_Step))), (25, .int .i64 ((a1.length : Nat) : Int)), (26, .int .i64 x21)], [(2, .cells (cellsOf a0))], [], []⟩) (fun (_ : Unit) => ⟨[], [], [], []⟩) h98 (by kernel_rfl) (fun _ => by kernel_rfl) ?_ ?_
  · rintro x21 oh97 h97
    unfold d_walk_Valid_0 at h97
    refine pwp_seq (r_reg ?_)
    refine zE ?_
    refine q_next (pwp_seq ?_)
    rcases o_cond h97 with ⟨hb, h97⟩ | ⟨hb, h97⟩
    · refine zT hb ?_
      refine pwp_skip (q_next ?_)
      obtain ⟨o122, h122, h97⟩ := o_inl h97
      refine r_join (o := o122) 82 (fun (_ : Unit) => ⟨[(1, lstOf .frozen (a1 : (List T_api_Step))), (2, .ref 2 0), (5, .fn 122 [.cptr (cellsOf r2)]), (24, lstOf .frozen (a1 : (List T_api_Step))), (25, .int .i64 ((a1.length : Nat) : Int)), (26, .int .i64 x21)], [(2, .cells (cellsOf a0))], [], []⟩) ?_ ?_
      · refine pwp_block (pwp_seq (r_reg ?_))
        refine zR 1 ?_
        obtain ⟨x49, h123, h122⟩ := o_bind h122
        refine zI h123 ?_
        refine zE ?_
        refine q_next (pwp_seq (pwp_seq (r_reg ?_)))
        refine zR 2 ?_
        obtain ⟨r50, h124, h122⟩ := o_bind h122
        refine p_call (d_walk_possible_ok _ _ r50 h124) (by kernel_rfl) (by kernel_rfl) ?_
        refine zE ?_
        refine q_next (pwp_seq (r_reg ?_))
        refine zE ?_
        refine q_next ?_
        rcases o_cond h122 with ⟨hb, h122⟩ | ⟨hb, h122⟩
        · refine zT hb ?_
          refine pwp_seq (r_reg ?_)
          refine zE ?_
          refine q_next (pwp_ret (q_seq_ret (q_block_ret ?_)))
          cases h122
          refine q_jout_ret ?_
          have h125 := o_outr h97
          cases h125
          refine q_lout_ret fun he => ?_
          subst he
          have h126 := o_outr h
          refine q_block_ret (q_seq_ret ?_)
          cases h126
          exact zQ
        refine zU hb ?_
        refine pwp_skip (q_next (pwp_seq (pwp_seq (r_reg ?_))))
        refine zR 2 ?_
        obtain ⟨x51, h127, h122⟩ := o_bind h122
        refine p_sl h127 .frozen (by kernel_rfl) (by kernel_rfl) (by kernel_rfl) ?_
        refine p_len (L := (x51 : (List T_api_Step))) (by kernel_rfl) ?_
        refine zE ?_
        refine q_next (pwp_block ?_)
        obtain ⟨o137, h137, h122⟩ := o_inl h122
        refine r_loop2 82 2 (fun x53 => ⟨[(1, lstOf .frozen (a1 : (List T_api_Step))), (2, .ref 2 0), (5, .fn 122 [.cptr (cellsOf r2)]), (6, .int .i64 x21), (7, .ref 7 0), (24, lstOf .frozen (a1 : (List T_api_Step))), (25, .int .i64 ((a1.length : Nat) : Int)), (26, .int .i64 x21), (41, lstOf .frozen (x51 : (List T_api_Step))), (42, .int .i64 ((x51.length : Nat) : Int)), (43, .int .i64 x53)], [(2, .cells (cellsOf a0)), (7, .cells (cellsOf x49))], [], []⟩) (fun (_ : Unit) => ⟨[(1, lstOf .frozen (a1 : (List T_api_Step))), (2, .ref 2 0), (5, .fn 122 [.cptr (cellsOf r2)]), (6, .int .i64 x21), (7, .ref 7 0), (24, lstOf .frozen (a1 : (List T_api_Step))), (25, .int .i64 ((a1.length : Nat) : Int)), (26, .int .i64 x21)], [(2, .cells (cellsOf a0)), (7, .cells (cellsOf x49))], [], []⟩) h137 (by kernel_rfl) (fun _ => by kernel_rfl) ?_ ?_
        · rintro x53 oh136 h136
          unfold d_walk_Valid_1 at h136
          refine pwp_seq (r_reg ?_)
          refine zE ?_
          refine q_next (pwp_seq ?_)
          rcases o_cond h136 with ⟨hb, h136⟩ | ⟨hb, h136⟩
          · refine zT hb ?_
            refine pwp_skip (q_next (pwp_seq (pwp_block (pwp_seq (r_reg ?_)))))
            obtain ⟨x55, h138, h136⟩ := o_bind h136
            refine zI h138 ?_
            refine zE ?_
            refine q_next (pwp_seq (r_reg ?_))
            refine zE ?_
            refine q_next ?_
            rcases o_cond h136 with ⟨hb, h136⟩ | ⟨hb, h136⟩
            · refine zT hb ?_
              refine pwp_seq (r_reg ?_)
              refine zE ?_
              refine q_next (pwp_ret (q_block_ret (q_seq_ret ?_)))
              cases h136
              refine q_lout_ret fun he => ?_
              subst he
              have h139 := o_outr h122
              refine q_block_ret (q_seq_ret (q_block_ret ?_))
              cases h139
              refine q_jout_ret ?_
              have h140 := o_outr h97
              cases h140
              refine q_lout_ret fun he => ?_
              subst he
              have h141 := o_outr h
              refine q_block_ret (q_seq_ret ?_)
              cases h141
              exact zQ
            refine zU hb ?_
            refine pwp_skip (q_block (q_next (r_reg ?_)))
            refine zE ?_
            cases h136
            exact zB
          refine zU hb ?_
          refine pwp_exit (q_seq_exit ?_)
          cases h136
          exact zX
        rintro _ s' rfl hs
        have h122 := o_outl h122
        refine q_block_hit ?_
        refine q_next (pwp_wkr hs ?_)
        refine pwp_seq (pwp_seq (r_reg ?_))
        refine zE ?_
        refine q_next ?_
        rcases o_cond h122 with ⟨hb, h122⟩ | ⟨hb, h122⟩
        · refine zT hb ?_
          refine pwp_exit (q_seq_exit (q_block_hit ?_))
          cases h122
          exact zJ
        refine zU hb ?_
        refine pwp_skip (q_next (pwp_seq (r_reg ?_)))
        refine zR 4 ?_
        obtain ⟨x56, h142, h122⟩ := o_bind h122
        refine zI h142 ?_
        refine zR 1 ?_
        obtain ⟨r57, h143, h122⟩ := o_bind h122
        refine p_call (d_walk_passage_1_ok _ _ r57 h143) (by kernel_rfl) (by kernel_rfl) ?_
        refine zE ?_
        refine q_next (pwp_seq (r_reg ?_))
        refine zR 3 ?_
        refine e_segb 6 73 ((!r57.2) || (!(decide (r57.1.El = x49.El)))) (fun x hx => ?_) ?_
        · rcases b_or hx with ⟨hb, hx⟩ | ⟨hb, hx⟩
          · refine zS 67 hb ?_
            subst hx
            exact zF
          refine zS 67 hb ?_
          subst hx
          exact zF
        refine zR 1 ?_
        refine e_segb 6 80 (((!r57.2) || (!(decide (r57.1.El = x49.El)))) || (!(decide (r57.1.Side = x49.In)))) (fun x hx => ?_) ?_
        · rcases b_or hx with ⟨hb, hx⟩ | ⟨hb, hx⟩
          · refine zS 74 hb ?_
            subst hx
            exact zF
          refine zS 74 hb ?_
          subst hx
          exact zF
        refine zN ?_
        refine q_next ?_
        rcases o_cond h122 with ⟨hb, h122⟩ | ⟨hb, h122⟩
        · refine zT hb ?_
          refine pwp_seq (r_reg ?_)
          refine zE ?_
          refine q_next (pwp_ret (q_block_ret ?_))
          cases h122
          refine q_jout_ret ?_
          have h144 := o_outr h97
          cases h144
          refine q_lout_ret fun he => ?_
          subst he
          have h145 := o_outr h
          refine q_block_ret (q_seq_ret ?_)
          cases h145
          exact zQ
        refine zU hb ?_
        refine pwp_skip (q_block ?_)
        cases h122
        exact zJ
      rintro _ rfl
      have h97 := o_outl h97
      refine r_reg ?_
      refine zE ?_
      cases h97
      exact zB
    refine zU hb ?_
    refine pwp_exit (q_seq_exit ?_)
    cases h97
    exact zX
  rintro _ s' rfl hs
  have h := o_outl h
  refine q_block_hit ?_
  refine q_next (pwp_wkr hs ?_)
  refine pwp_seq (r_reg ?_)
  refine zE ?_
  refine q_next (pwp_ret ?_)
  cases h
  exact zQ

/-! body.last -/
noncomputable def d_body_last (a0 : T_api_Body) : Option T_api_Step :=
  (ixO a0.Steps (w64 (((a0.Steps.length : Nat) : Int) - 1))).bind fun x1 =>
  some x1
theorem d_body_last_ok (a0 : T_api_Body) (r : T_api_Step) (h : d_body_last a0 = some r) : PCall Go.Proofs.Tryz.prog GlS 60 [Enc.pv a0] (Enc.pv r) := by
  unfold d_body_last at h
  refine pcall_of_pwp Go.Proofs.Tryz.func60 (by rfl) rfl Go.Proofs.Tryz.ntmps60 (by rfl) rfl ?_
  refine pwp_seq (r_reg ?_)
  refine zE ?_
  refine q_next (pwp_seq (r_reg ?_))
  refine zR 4 ?_
  refine p_len (L := (a0.Steps : (List T_api_Step))) (by kernel_rfl) ?_
  refine zR 1 ?_
  obtain ⟨x1, h1, h⟩ := o_bind h
  refine zI h1 ?_
  refine zE ?_
  refine q_next (pwp_ret ?_)
  cases h
  exact zQ

/-! walk.Length -/
noncomputable def d_walk_Length_0 (a0 : T_api_Layout) (a1 : (List T_api_Step)) : (Int × Int) → Option ((Int × Int) ⊕ (Int ⊕ Int)) := fun (x8, x9) =>
  bif decide (x9 < ((a1.length : Nat) : Int)) then (
    onInl (α := Int) (β := ((Int × Int) ⊕ (Int ⊕ Int))) (
      (ixO a1 x9).bind fun x22 =>
      (d_walk_exists a0 x22.El).bind fun r23 =>
      bif r23 then (
        (ixO a0.Elements x22.El).bind fun x24 =>
        some (.inl (w64 (x8 + x24.Length)))
      ) else (
        some (.inl x8)
      )
    ) fun x21 =>
    some (.inl (x21, w64 (x9 + 1)))
  ) else (
    some (.inr (.inl x8))
  )

noncomputable def d_walk_Length (a0 : T_api_Layout) (a1 : (List T_api_Step)) : Option Int :=
  onInl (α := Int) (β := Int) (loopO (d_walk_Length_0 a0 a1) (0, 0)) fun x17 =>
  some x17
theorem d_walk_Length_ok (a0 : T_api_Layout) (a1 : (List T_api_Step)) (r : Int) (h : d_walk_Length a0 a1 = some r) : PCall Go.Proofs.Tryz.prog GlS 24 [Enc.pv a0, Enc.pv a1] (Enc.pv r) := by
  unfold d_walk_Length at h
  refine pcall_of_pwp Go.Proofs.Tryz.func24 (by rfl) rfl Go.Proofs.Tryz.ntmps24 (by rfl) rfl ?_
  refine pwp_seq (r_reg ?_)
  refine zE ?_
  refine q_next (pwp_seq (r_reg ?_))
  refine zE ?_
  refine q_next (pwp_seq (pwp_seq (r_reg ?_)))
  refine zR 1 ?_
  refine p_len (L := (a1 : (List T_api_Step))) (by kernel_rfl) ?_
  refine zE ?_
  refine q_next (pwp_block ?_)
  obtain ⟨o16, h16, h⟩ := o_inl h
  refine r_loop2 29 0 (fun (x8, x9) => ⟨[(2, .ref 2 0), (5, .int .i64 x8), (8, lstOf .frozen (a1 : (List T_api_Step))), (9, .int .i64 ((a1.length : Nat) : Int)), (10, .int .i64 x9)], [(2, .cells (cellsOf a0))], [], []⟩) (fun x17 => ⟨[(5, .int .i64 x17)], [], [], []⟩) h16 (by kernel_rfl) (fun _ => by kernel_rfl) ?_ ?_
  · rintro ⟨x8, x9⟩ oh15 h15
    unfold d_walk_Length_0 at h15
    refine pwp_seq (r_reg ?_)
    refine zE ?_
    refine q_next (pwp_seq ?_)
    rcases o_cond h15 with ⟨hb, h15⟩ | ⟨hb, h15⟩
    · refine zT hb ?_
      refine pwp_skip (q_next ?_)
      obtain ⟨o20, h20, h15⟩ := o_inl h15
      refine r_join (o := o20) 29 (fun x21 => ⟨[(2, .ref 2 0), (5, .int .i64 x21), (8, lstOf .frozen (a1 : (List T_api_Step))), (9, .int .i64 ((a1.length : Nat) : Int)), (10, .int .i64 x9)], [(2, .cells (cellsOf a0))], [], []⟩) ?_ ?_
      · refine pwp_block (pwp_seq (r_reg ?_))
        obtain ⟨x22, h21, h20⟩ := o_bind h20
        refine zI h21 ?_
        refine zE ?_
        refine q_next (pwp_seq (r_reg ?_))
        refine zR 3 ?_
        obtain ⟨r23, h22, h20⟩ := o_bind h20
        refine p_call (d_walk_exists_ok _ _ r23 h22) (by kernel_rfl) (by kernel_rfl) ?_
        refine zN ?_
        refine q_next ?_
        rcases o_cond h20 with ⟨hb, h20⟩ | ⟨hb, h20⟩
        · refine zT hb ?_
          refine r_reg ?_
          refine zR 5 ?_
          obtain ⟨x24, h23, h20⟩ := o_bind h20
          refine zI h23 ?_
          refine zE ?_
          refine q_block ?_
          cases h20
          exact zJ
        refine zU hb ?_
        refine pwp_skip (q_block ?_)
        cases h20
        exact zJ
      rintro x21 rfl
      have h15 := o_outl h15
      refine r_reg ?_
      refine zE ?_
      cases h15
      exact zB
    refine zU hb ?_
    refine pwp_exit (q_seq_exit ?_)
    cases h15
    exact zX
  rintro x17 s' rfl hs
  have h := o_outl h
  refine q_block_hit ?_
  refine q_next (pwp_wkr hs ?_)
  refine pwp_seq (r_reg ?_)
  refine zE ?_
  refine q_next (pwp_ret ?_)
  cases h
  exact zQ

/-! body.rearEnd -/
noncomputable def d_body_rearEnd (a0 : T_api_Layout) (a1 : T_api_Body) : Option Int :=
  (slO a1.Steps none (some (w64 (((a1.Steps.length : Nat) : Int) - 1))) none).bind fun x1 =>
  (d_walk_Length a0 x1).bind fun r2 =>
  some (w64 ((w64 (r2 + a1.Head)) - a1.Length))
theorem d_body_rearEnd_ok (a0 : T_api_Layout) (a1 : T_api_Body) (r : Int) (h : d_body_rearEnd a0 a1 = some r) : PCall Go.Proofs.Tryz.prog GlS 61 [Enc.pv a0, Enc.pv a1] (Enc.pv r) := by
  unfold d_body_rearEnd at h
  refine pcall_of_pwp Go.Proofs.Tryz.func61 (by rfl) rfl Go.Proofs.Tryz.ntmps61 (by rfl) rfl ?_
  refine pwp_seq (r_reg ?_)
  refine zE ?_
  refine q_next (pwp_seq ?_)
  refine r_regd (by kernel_rfl) (by kernel_rfl) ?_
  refine zR 5 ?_
  refine p_len (L := (a1.Steps : (List T_api_Step))) (by kernel_rfl) ?_
  refine zR 1 ?_
  obtain ⟨x1, h1, h⟩ := o_bind h
  refine p_sl h1 .frozen (by kernel_rfl) (by kernel_rfl) (by kernel_rfl) ?_
  obtain ⟨r2, h2, h⟩ := o_bind h
  refine p_call (d_walk_Length_ok _ _ r2 h2) (by kernel_rfl) (by kernel_rfl) ?_
  refine zE ?_
  refine q_next (pwp_seq (r_reg ?_))
  refine zE ?_
  refine q_next (pwp_ret ?_)
  cases h
  exact zQ

/-! body.Check -/
noncomputable def d_body_Check (a0 : T_api_Layout) (a1 : T_api_Body) : Option Int :=
  (d_walk_Valid a0 a1.Steps).bind fun r1 =>
  ((bif ((((!r1) || (decide (a1.Length < 1))) || (decide (1000000 < a1.Length))) || (decide (a1.Head < 1))) then some true else (
    (d_body_last a1).bind fun r3 =>
    (ixO a0.Elements r3.El).bind fun x4 =>
    some (decide (x4.Length < a1.Head))
  )) : Option Bool).bind fun b2 =>
  bif b2 then (
    some 1
  ) else (
    (d_body_rearEnd a0 a1).bind fun r5 =>
    ((bif decide (r5 < 0) then some true else (
      ((bif decide (1 < ((a1.Steps.length : Nat) : Int)) then (
        (ixO a1.Steps 0).bind fun x8 =>
        (ixO a0.Elements x8.El).bind fun x9 =>
        some (decide (x9.Length ≤ r5))
      ) else some false) : Option Bool).bind fun b7 =>
      some b7
    )) : Option Bool).bind fun b6 =>
    bif b6 then (
      some 10
    ) else (
      some 0
    )
  )
theorem d_body_Check_ok (a0 : T_api_Layout) (a1 : T_api_Body) (r : Int) (h : d_body_Check a0 a1 = some r) : PCall Go.Proofs.Tryz.prog GlS 22 [Enc.pv a0, Enc.pv a1] (Enc.pv r) := by
  unfold d_body_Check at h
  refine pcall_of_pwp Go.Proofs.Tryz.func22 (by rfl) rfl Go.Proofs.Tryz.ntmps22 (by rfl) rfl ?_
  refine pwp_seq (r_reg ?_)
  refine zE ?_
  refine q_next (pwp_seq (pwp_seq ?_))
  refine r_regd (by kernel_rfl) (by kernel_rfl) ?_
  refine zR 3 ?_
  obtain ⟨r1, h1, h⟩ := o_bind h
  refine p_call (d_walk_Valid_ok _ _ r1 h1) (by kernel_rfl) (by kernel_rfl) ?_
  refine zR 2 ?_
  refine e_segb 4 15 ((!r1) || (decide (a1.Length < 1))) (fun x hx => ?_) ?_
  · rcases b_or hx with ⟨hb, hx⟩ | ⟨hb, hx⟩
    · refine zS 11 hb ?_
      subst hx
      exact zF
    refine zS 11 hb ?_
    subst hx
    exact zF
  refine zR 1 ?_
  refine e_segb 4 20 (((!r1) || (decide (a1.Length < 1))) || (decide (1000000 < a1.Length))) (fun x hx => ?_) ?_
  · rcases b_or hx with ⟨hb, hx⟩ | ⟨hb, hx⟩
    · refine zS 16 hb ?_
      subst hx
      exact zF
    refine zS 16 hb ?_
    subst hx
    exact zF
  refine zR 1 ?_
  refine e_segb 4 25 ((((!r1) || (decide (a1.Length < 1))) || (decide (1000000 < a1.Length))) || (decide (a1.Head < 1))) (fun x hx => ?_) ?_
  · rcases b_or hx with ⟨hb, hx⟩ | ⟨hb, hx⟩
    · refine zS 21 hb ?_
      subst hx
      exact zF
    refine zS 21 hb ?_
    subst hx
    exact zF
  obtain ⟨b2, h2, h⟩ := o_bind h
  refine zR 1 ?_
  refine e_seg 12 38 (.bool b2) ?_ ?_
  · rcases o_cond h2 with ⟨hb, h2⟩ | ⟨hb, h2⟩
    · refine zS 26 hb ?_
      cases h2
      exact zF
    refine zS 26 hb ?_
    refine zR 5 ?_
    obtain ⟨r3, h3, h2⟩ := o_bind h2
    refine p_call (d_body_last_ok _ r3 h3) (by kernel_rfl) (by kernel_rfl) ?_
    refine zR 1 ?_
    obtain ⟨x4, h4, h2⟩ := o_bind h2
    refine zI h4 ?_
    cases h2
    exact zF
  refine zN ?_
  refine q_next ?_
  rcases o_cond h with ⟨hb, h⟩ | ⟨hb, h⟩
  · refine zT hb ?_
    refine pwp_seq (r_reg ?_)
    refine zE ?_
    refine q_next (pwp_ret (q_seq_ret ?_))
    cases h
    exact zQ
  refine zU hb ?_
  refine pwp_skip (q_next (pwp_seq (r_reg ?_)))
  refine zR 2 ?_
  obtain ⟨r5, h5, h⟩ := o_bind h
  refine p_call (d_body_rearEnd_ok _ _ r5 h5) (by kernel_rfl) (by kernel_rfl) ?_
  refine zE ?_
  refine q_next (pwp_seq (pwp_seq ?_))
  refine r_regd (by kernel_rfl) (by kernel_rfl) ?_
  obtain ⟨b6, h6, h⟩ := o_bind h
  refine zR 3 ?_
  refine e_seg 19 63 (.bool b6) ?_ ?_
  · rcases o_cond h6 with ⟨hb, h6⟩ | ⟨hb, h6⟩
    · refine zS 44 hb ?_
      cases h6
      exact zF
    refine zS 44 hb ?_
    refine zR 2 ?_
    refine p_len (L := (a1.Steps : (List T_api_Step))) (by kernel_rfl) ?_
    obtain ⟨b7, h7, h6⟩ := o_bind h6
    refine zR 2 ?_
    refine f_seg 13 62 (.bool b7) ?_ ?_
    · rcases o_cond h7 with ⟨hb, h7⟩ | ⟨hb, h7⟩
      · refine zS 49 hb ?_
        refine zR 5 ?_
        obtain ⟨x8, h8, h7⟩ := o_bind h7
        refine zI h8 ?_
        refine zR 2 ?_
        obtain ⟨x9, h9, h7⟩ := o_bind h7
        refine zI h9 ?_
        cases h7
        exact zF
      refine zS 49 hb ?_
      cases h7
      exact zF
    cases h6
    exact zF
  refine zN ?_
  refine q_next ?_
  rcases o_cond h with ⟨hb, h⟩ | ⟨hb, h⟩
  · refine zT hb ?_
    refine pwp_seq (r_reg ?_)
    refine zE ?_
    refine q_next (pwp_ret (q_seq_ret ?_))
    cases h
    exact zQ
  refine zU hb ?_
  refine pwp_skip (q_next (pwp_seq (r_reg ?_)))
  refine zE ?_
  refine q_next (pwp_ret ?_)
  cases h
  exact zQ

/-! claims.length -/
noncomputable def d_claims_length (a0 : T_api_Layout) (a1 : T_api_Step) : Option Int :=
  (d_walk_Length a0 [a1]).bind fun r1 =>
  some r1
theorem d_claims_length_ok (a0 : T_api_Layout) (a1 : T_api_Step) (r : Int) (h : d_claims_length a0 a1 = some r) : PCall Go.Proofs.Tryz.prog GlS 25 [Enc.pv a0, Enc.pv a1] (Enc.pv r) := by
  unfold d_claims_length at h
  refine pcall_of_pwp Go.Proofs.Tryz.func25 (by rfl) rfl Go.Proofs.Tryz.ntmps25 (by rfl) rfl ?_
  refine pwp_seq (r_reg ?_)
  refine zE ?_
  refine q_next (pwp_seq (r_reg ?_))
  refine zR 3 ?_
  obtain ⟨r1, h1, h⟩ := o_bind h
  refine p_call (d_walk_Length_ok _ _ r1 h1) (by kernel_rfl) (by kernel_rfl) ?_
  refine zE ?_
  refine q_next (pwp_ret ?_)
  cases h
  exact zQ

/-! slices.Clone[[]api.Step,api.Step] -/
noncomputable def d_slices_Clone_api_Step (a0 : (List T_api_Step)) : Option (List T_api_Step) :=
  (appO ([] : (List T_api_Step)) a0).bind fun x1 =>
  some x1
theorem d_slices_Clone_api_Step_ok (a0 : (List T_api_Step)) (r : (List T_api_Step)) (h : d_slices_Clone_api_Step a0 = some r) : PCall Go.Proofs.Tryz.prog GlS 26 [Enc.pv a0] (lstOf (.own 7) r) := by
  unfold d_slices_Clone_api_Step at h
  refine pcall_of_pwp Go.Proofs.Tryz.func26 (by rfl) rfl Go.Proofs.Tryz.ntmps26 (by rfl) rfl ?_
  refine pwp_seq (r_reg ?_)
  refine zE ?_
  refine q_next (pwp_seq (pwp_seq (r_reg ?_)))
  refine zE ?_
  refine q_next ?_
  refine pwp_condU (e := ((a0 : (List T_api_Step)).map cellsOf).isEmpty) (by kernel_rfl) (fun hub => ?_) ?_
  · have hN := clone_nil (ub_nil hub) h
    refine pwp_seq (r_reg ?_)
    refine zE ?_
    refine q_next ?_
    refine g_nil 2 7 3 24 (by kernel_rfl) (by kernel_rfl) ?_
    refine pwp_ret (q_seq_ret ?_)
    cases hN
    exact zQ
  refine pwp_skip (q_next (pwp_seq (r_reg ?_)))
  refine zR 2 ?_
  obtain ⟨x1, h1, h⟩ := o_bind h
  refine p_appn (tk := 7) h1 (by kernel_rfl) ?_
  refine zE ?_
  refine q_next (pwp_ret ?_)
  cases h
  exact zQ
theorem d_slices_Clone_api_Step_fz (a0 : (List T_api_Step)) (r : (List T_api_Step)) (h : d_slices_Clone_api_Step a0 = some r) : PCall Go.Proofs.Tryz.prog GlS 26 [Enc.pv a0] (Enc.pv r) :=
  (d_slices_Clone_api_Step_ok a0 r h).freeze (by kernel_rfl) (by kernel_rfl) (by kernel_rfl)

/-! claims.Begin -/
noncomputable def d_claims_Begin (a0 : T_api_Layout) (a1 : T_api_Train) (a2 : T_api_Body) : Option (T_api_Track × Int) :=
  (d_layout_Check a0).bind fun r1 =>
  ((bif (!(decide (r1 = 0))) then some true else (
    (d_train_Check a1).bind fun r3 =>
    some (!(decide (r3 = 0)))
  )) : Option Bool).bind fun b2 =>
  ((bif b2 then some true else (
    (d_body_Check a0 a2).bind fun r5 =>
    some (!(decide (r5 = 0)))
  )) : Option Bool).bind fun b4 =>
  ((bif (b4 || (!(decide (a2.Length = a1.Length)))) then some true else (
    some (decide (((a2.Steps.length : Nat) : Int) = 0))
  )) : Option Bool).bind fun b6 =>
  bif b6 then (
    some ((T_api_Track.mk 0 0 0 0 [] [] [] [] [] 0 0 0 0 0), 1)
  ) else (
    (ixO a2.Steps (w64 (((a2.Steps.length : Nat) : Int) - 1))).bind fun x7 =>
    (d_layout_Signal a0 (T_api_End.mk x7.El x7.Out)).bind fun r8 =>
    bif decide (r8 < 0) then (
      some ((T_api_Track.mk 0 0 0 0 [] [] [] [] [] 0 0 0 0 0), 9)
    ) else (
      (slO a2.Steps none (some (w64 (((a2.Steps.length : Nat) : Int) - 1))) none).bind fun x9 =>
      (d_walk_Length a0 x9).bind fun r10 =>
      (d_claims_length a0 x7).bind fun r11 =>
      (d_slices_Clone_api_Step a2.Steps).bind fun r12 =>
      some ((T_api_Track.mk a1.Id (w64 ((w64 (0 - r10)) - a2.Head)) r8 (w64 (r11 - a2.Head)) r12 [] [] [] [] 0 0 0 0 0), 0)
    )
  )
theorem d_claims_Begin_ok (a0 : T_api_Layout) (a1 : T_api_Train) (a2 : T_api_Body) (r : (T_api_Track × Int)) (h : d_claims_Begin a0 a1 a2 = some r) : PCall Go.Proofs.Tryz.prog GlS 7 [Enc.pv a0, Enc.pv a1, Enc.pv a2] (.tup [Enc.pv r.1, Enc.pv r.2]) := by
  unfold d_claims_Begin at h
  refine pcall_of_pwp Go.Proofs.Tryz.func7 (by rfl) rfl Go.Proofs.Tryz.ntmps7 (by rfl) rfl ?_
  refine pwp_seq (r_reg ?_)
  refine zE ?_
  refine q_next (pwp_seq (pwp_seq (r_reg ?_)))
  refine zR 1 ?_
  obtain ⟨r1, h1, h⟩ := o_bind h
  refine p_call (d_layout_Check_ok _ r1 h1) (by kernel_rfl) (by kernel_rfl) ?_
  obtain ⟨b2, h2, h⟩ := o_bind h
  refine zR 2 ?_
  refine e_seg 4 18 (.bool b2) ?_ ?_
  · rcases o_cond h2 with ⟨hb, h2⟩ | ⟨hb, h2⟩
    · refine zS 14 hb ?_
      cases h2
      exact zF
    refine zS 14 hb ?_
    refine zR 1 ?_
    obtain ⟨r3, h3, h2⟩ := o_bind h2
    refine p_call (d_train_Check_ok _ r3 h3) (by kernel_rfl) (by kernel_rfl) ?_
    cases h2
    exact zF
  obtain ⟨b4, h4, h⟩ := o_bind h
  refine zR 1 ?_
  refine e_seg 5 24 (.bool b4) ?_ ?_
  · rcases o_cond h4 with ⟨hb, h4⟩ | ⟨hb, h4⟩
    · refine zS 19 hb ?_
      cases h4
      exact zF
    refine zS 19 hb ?_
    refine zR 2 ?_
    obtain ⟨r5, h5, h4⟩ := o_bind h4
    refine p_call (d_body_Check_ok _ _ r5 h5) (by kernel_rfl) (by kernel_rfl) ?_
    cases h4
    exact zF
  refine zR 1 ?_
  refine e_segb 6 31 (b4 || (!(decide (a2.Length = a1.Length)))) (fun x hx => ?_) ?_
  · rcases b_or hx with ⟨hb, hx⟩ | ⟨hb, hx⟩
    · refine zS 25 hb ?_
      subst hx
      exact zF
    refine zS 25 hb ?_
    subst hx
    exact zF
  obtain ⟨b6, h6, h⟩ := o_bind h
  refine zR 1 ?_
  refine e_seg 5 37 (.bool b6) ?_ ?_
  · rcases o_cond h6 with ⟨hb, h6⟩ | ⟨hb, h6⟩
    · refine zS 32 hb ?_
      cases h6
      exact zF
    refine zS 32 hb ?_
    refine zR 2 ?_
    refine p_len (L := (a2.Steps : (List T_api_Step))) (by kernel_rfl) ?_
    cases h6
    exact zF
  refine zN ?_
  refine q_next ?_
  rcases o_cond h with ⟨hb, h⟩ | ⟨hb, h⟩
  · refine zT hb ?_
    refine pwp_seq (r_reg ?_)
    refine zE ?_
    refine q_next (pwp_ret (q_seq_ret ?_))
    cases h
    exact zQ
  refine zU hb ?_
  refine pwp_skip (q_next (pwp_seq (r_reg ?_)))
  refine zR 2 ?_
  refine p_len (L := (a2.Steps : (List T_api_Step))) (by kernel_rfl) ?_
  refine zE ?_
  refine q_next (pwp_seq (r_reg ?_))
  refine zR 3 ?_
  obtain ⟨x7, h7, h⟩ := o_bind h
  refine zI h7 ?_
  refine zE ?_
  refine q_next (pwp_seq (r_reg ?_))
  refine zR 6 ?_
  obtain ⟨r8, h8, h⟩ := o_bind h
  refine p_call (d_layout_Signal_ok _ _ r8 h8) (by kernel_rfl) (by kernel_rfl) ?_
  refine zE ?_
  refine q_next (pwp_seq (pwp_seq (r_reg ?_)))
  refine zE ?_
  refine q_next ?_
  rcases o_cond h with ⟨hb, h⟩ | ⟨hb, h⟩
  · refine zT hb ?_
    refine pwp_seq (r_reg ?_)
    refine zE ?_
    refine q_next (pwp_ret (q_seq_ret ?_))
    cases h
    exact zQ
  refine zU hb ?_
  refine pwp_skip (q_next (pwp_seq ?_))
  refine r_regd (by kernel_rfl) (by kernel_rfl) ?_
  refine zR 6 ?_
  obtain ⟨x9, h9, h⟩ := o_bind h
  refine p_sl h9 .frozen (by kernel_rfl) (by kernel_rfl) (by kernel_rfl) ?_
  obtain ⟨r10, h10, h⟩ := o_bind h
  refine p_call (d_walk_Length_ok _ _ r10 h10) (by kernel_rfl) (by kernel_rfl) ?_
  refine zR 7 ?_
  obtain ⟨r11, h11, h⟩ := o_bind h
  refine p_call (d_claims_length_ok _ _ r11 h11) (by kernel_rfl) (by kernel_rfl) ?_
  refine zR 5 ?_
  obtain ⟨r12, h12, h⟩ := o_bind h
  refine p_call (d_slices_Clone_api_Step_fz _ r12 h12) (by kernel_rfl) (by kernel_rfl) ?_
  refine zE ?_
  refine q_next (pwp_ret ?_)
  cases h
  exact zQ

/-! claims.follow$1$1 -/
noncomputable def d_claims_follow_c1_c1 (a0 : T_api_Step) (c0 : T_api_Step) : Option Bool :=
  some (decide (a0.El = c0.El))
theorem d_claims_follow_c1_c1_ok (a0 : T_api_Step) (c0 : T_api_Step) (r : Bool) (h : d_claims_follow_c1_c1 a0 c0 = some r) : PCall Go.Proofs.Tryz.prog GlS 87 [Enc.pv a0, .cptr (cellsOf c0)] (Enc.pv r) := by
  unfold d_claims_follow_c1_c1 at h
  refine pcall_of_pwp Go.Proofs.Tryz.func87 (by rfl) rfl Go.Proofs.Tryz.ntmps87 (by rfl) rfl ?_
  refine pwp_seq (r_reg ?_)
  refine zE ?_
  refine q_next (pwp_seq (r_reg ?_))
  refine zE ?_
  refine q_next (pwp_ret ?_)
  cases h
  exact zQ

/-! slices.IndexFunc[[]api.Step,api.Step] -/
noncomputable def d_slices_IndexFunc_api_Step_0 (a0 : (List T_api_Step)) (a1_0 : T_api_Step) : Int → Option (Int ⊕ (Unit ⊕ Int)) := fun x3 =>
  bif decide (x3 < ((a0.length : Nat) : Int)) then (
    (ixO a0 x3).bind fun x6 =>
    (d_claims_follow_c1_c1 x6 a1_0).bind fun r7 =>
    bif r7 then (
      some (.inr (.inr x3))
    ) else (
      some (.inl (w64 (x3 + 1)))
    )
  ) else (
    some (.inr (.inl ()))
  )

noncomputable def d_slices_IndexFunc_api_Step__claims_follow_c1_c1 (a0 : (List T_api_Step)) (a1_0 : T_api_Step) : Option Int :=
  onInl (α := Unit) (β := Int) (loopO (d_slices_IndexFunc_api_Step_0 a0 a1_0) 0) fun _ =>
  some (-1)
theorem d_slices_IndexFunc_api_Step__claims_follow_c1_c1_ok (a0 : (List T_api_Step)) (a1_0 : T_api_Step) (r : Int) (h : d_slices_IndexFunc_api_Step__claims_follow_c1_c1 a0 a1_0 = some r) : PCall Go.Proofs.Tryz.prog GlS 120 [Enc.pv a0, .fn 87 [.cptr (cellsOf a1_0)]] (Enc.pv r) := by
  unfold d_slices_IndexFunc_api_Step__claims_follow_c1_c1 at h
  refine pcall_of_pwp Go.Proofs.Tryz.func120 (by rfl) rfl Go.Proofs.Tryz.ntmps120 (by rfl) rfl ?_
  refine pwp_seq (r_reg ?_)
  refine zE ?_
  refine q_next (pwp_seq (pwp_seq (r_reg ?_)))
  refine zR 1 ?_
  refine p_len (L := (a0 : (List T_api_Step))) (by kernel_rfl) ?_
  refine zE ?_
  refine q_next (pwp_block ?_)
  obtain ⟨o8, h8, h⟩ := o_inl h
  refine r_loop2 19 0 (fun x3 => ⟨[(0, lstOf .frozen (a0 : (List T_api_Step))), (1, .fn 87 [.cptr (cellsOf a1_0)]), (7, .int .i64 ((a0.length : Nat) : Int)), (8, .int .i64 x3)], [], [], []⟩) (fun (_ : Unit) => ⟨[], [], [], []⟩) h8 (by kernel_rfl) (fun _ => by kernel_rfl) ?_ ?_
  · rintro x3 oh7 h7
    unfold d_slices_IndexFunc_api_Step_0 at h7
    refine pwp_seq (r_reg ?_)
    refine zE ?_
    refine q_next (pwp_seq ?_)
    rcases o_cond h7 with ⟨hb, h7⟩ | ⟨hb, h7⟩
    · refine zT hb ?_
      refine pwp_skip (q_next (pwp_seq (pwp_block (pwp_seq (r_reg ?_)))))
      refine zE ?_
      refine q_next (pwp_seq (r_reg ?_))
      refine zR 3 ?_
      obtain ⟨x6, h9, h7⟩ := o_bind h7
      refine zI h9 ?_
      refine zR 1 ?_
      obtain ⟨r7, h10, h7⟩ := o_bind h7
      refine p_call (d_claims_follow_c1_c1_ok _ _ r7 h10) (by kernel_rfl) (by kernel_rfl) ?_
      refine zN ?_
      refine q_next ?_
      rcases o_cond h7 with ⟨hb, h7⟩ | ⟨hb, h7⟩
      · refine zT hb ?_
        refine pwp_seq (r_reg ?_)
        refine zE ?_
        refine q_next (pwp_ret (q_block_ret (q_seq_ret ?_)))
        cases h7
        refine q_lout_ret fun he => ?_
        subst he
        have h11 := o_outr h
        refine q_block_ret (q_seq_ret ?_)
        cases h11
        exact zQ
      refine zU hb ?_
      refine pwp_skip (q_block (q_next (r_reg ?_)))
      refine zE ?_
      cases h7
      exact zB
    refine zU hb ?_
    refine pwp_exit (q_seq_exit ?_)
    cases h7
    exact zX
  rintro _ s' rfl hs
  have h := o_outl h
  refine q_block_hit ?_
  refine q_next (pwp_wkr hs ?_)
  refine pwp_seq (r_reg ?_)
  refine zE ?_
  refine q_next (pwp_ret ?_)
  cases h
  exact zQ

/-! slices.ContainsFunc[[]api.Step,api.Step] -/
noncomputable def d_slices_ContainsFunc_api_Step__claims_follow_c1_c1 (a0 : (List T_api_Step)) (a1_0 : T_api_Step) : Option Bool :=
  (d_slices_IndexFunc_api_Step__claims_follow_c1_c1 a0 a1_0).bind fun r1 =>
  some (decide (0 ≤ r1))
theorem d_slices_ContainsFunc_api_Step__claims_follow_c1_c1_ok (a0 : (List T_api_Step)) (a1_0 : T_api_Step) (r : Bool) (h : d_slices_ContainsFunc_api_Step__claims_follow_c1_c1 a0 a1_0 = some r) : PCall Go.Proofs.Tryz.prog GlS 86 [Enc.pv a0, .fn 87 [.cptr (cellsOf a1_0)]] (Enc.pv r) := by
  unfold d_slices_ContainsFunc_api_Step__claims_follow_c1_c1 at h
  refine pcall_of_pwp Go.Proofs.Tryz.func86 (by rfl) rfl Go.Proofs.Tryz.ntmps86 (by rfl) rfl ?_
  refine pwp_seq (r_reg ?_)
  refine zE ?_
  refine q_next (pwp_seq (r_reg ?_))
  refine zR 2 ?_
  obtain ⟨r1, h1, h⟩ := o_bind h
  refine p_call (d_slices_IndexFunc_api_Step__claims_follow_c1_c1_ok _ _ r1 h1) (by kernel_rfl) (by kernel_rfl) ?_
  refine zE ?_
  refine q_next (pwp_ret ?_)
  cases h
  exact zQ

/-! claims.follow$1 -/
noncomputable def d_claims_follow_c1 (a0 : T_api_Step) (c0 : T_api_Track) : Option Bool :=
  (d_slices_ContainsFunc_api_Step__claims_follow_c1_c1 c0.Steps a0).bind fun r1 =>
  some r1
theorem d_claims_follow_c1_ok (a0 : T_api_Step) (c0 : T_api_Track) (r : Bool) (h : d_claims_follow_c1 a0 c0 = some r) : PCall Go.Proofs.Tryz.prog GlS 85 [Enc.pv a0, .cptr (cellsOf c0)] (Enc.pv r) := by
  unfold d_claims_follow_c1 at h
  refine pcall_of_pwp Go.Proofs.Tryz.func85 (by rfl) rfl Go.Proofs.Tryz.ntmps85 (by rfl) rfl ?_
  refine pwp_seq (r_reg ?_)
  refine zE ?_
  refine q_next (pwp_seq ?_)
  refine g_frz 2 [] (cs := cellsOf a0) (cs' := cellsOf a0) (by kernel_rfl) (by kernel_rfl) (by kernel_rfl) (by kernel_rfl) ?_
  refine r_reg ?_
  refine zR 3 ?_
  obtain ⟨r1, h1, h⟩ := o_bind h
  refine p_call (d_slices_ContainsFunc_api_Step__claims_follow_c1_c1_ok _ _ r1 h1) (by kernel_rfl) (by kernel_rfl) ?_
  refine zE ?_
  refine q_next (pwp_ret ?_)
  cases h
  exact zQ

/-! slices.IndexFunc[[]api.Step,api.Step] -/
noncomputable def d_slices_IndexFunc_api_Step__claims_follow_c1_0 (a0 : (List T_api_Step)) (a1_0 : T_api_Track) : Int → Option (Int ⊕ (Unit ⊕ Int)) := fun x3 =>
  bif decide (x3 < ((a0.length : Nat) : Int)) then (
    (ixO a0 x3).bind fun x6 =>
    (d_claims_follow_c1 x6 a1_0).bind fun r7 =>
    bif r7 then (
      some (.inr (.inr x3))
    ) else (
      some (.inl (w64 (x3 + 1)))
    )
  ) else (
    some (.inr (.inl ()))
  )

noncomputable def d_slices_IndexFunc_api_Step__claims_follow_c1 (a0 : (List T_api_Step)) (a1_0 : T_api_Track) : Option Int :=
  onInl (α := Unit) (β := Int) (loopO (d_slices_IndexFunc_api_Step__claims_follow_c1_0 a0 a1_0) 0) fun _ =>
  some (-1)
theorem d_slices_IndexFunc_api_Step__claims_follow_c1_ok (a0 : (List T_api_Step)) (a1_0 : T_api_Track) (r : Int) (h : d_slices_IndexFunc_api_Step__claims_follow_c1 a0 a1_0 = some r) : PCall Go.Proofs.Tryz.prog GlS 120 [Enc.pv a0, .fn 85 [.cptr (cellsOf a1_0)]] (Enc.pv r) := by
  unfold d_slices_IndexFunc_api_Step__claims_follow_c1 at h
  refine pcall_of_pwp Go.Proofs.Tryz.func120 (by rfl) rfl Go.Proofs.Tryz.ntmps120 (by rfl) rfl ?_
  refine pwp_seq (r_reg ?_)
  refine zE ?_
  refine q_next (pwp_seq (pwp_seq (r_reg ?_)))
  refine zR 1 ?_
  refine p_len (L := (a0 : (List T_api_Step))) (by kernel_rfl) ?_
  refine zE ?_
  refine q_next (pwp_block ?_)
  obtain ⟨o8, h8, h⟩ := o_inl h
  refine r_loop2 19 0 (fun x3 => ⟨[(0, lstOf .frozen (a0 : (List T_api_Step))), (1, .fn 85 [.cptr (cellsOf a1_0)]), (7, .int .i64 ((a0.length : Nat) : Int)), (8, .int .i64 x3)], [], [], []⟩) (fun (_ : Unit) => ⟨[], [], [], []⟩) h8 (by kernel_rfl) (fun _ => by kernel_rfl) ?_ ?_
  · rintro x3 oh7 h7
    unfold d_slices_IndexFunc_api_Step__claims_follow_c1_0 at h7
    refine pwp_seq (r_reg ?_)
    refine zE ?_
    refine q_next (pwp_seq ?_)
    rcases o_cond h7 with ⟨hb, h7⟩ | ⟨hb, h7⟩
    · refine zT hb ?_
      refine pwp_skip (q_next (pwp_seq (pwp_block (pwp_seq (r_reg ?_)))))
      refine zE ?_
      refine q_next (pwp_seq (r_reg ?_))
      refine zR 3 ?_
      obtain ⟨x6, h9, h7⟩ := o_bind h7
      refine zI h9 ?_
      refine zR 1 ?_
      obtain ⟨r7, h10, h7⟩ := o_bind h7
      refine p_call (d_claims_follow_c1_ok _ _ r7 h10) (by kernel_rfl) (by kernel_rfl) ?_
      refine zN ?_
      refine q_next ?_
      rcases o_cond h7 with ⟨hb, h7⟩ | ⟨hb, h7⟩
      · refine zT hb ?_
        refine pwp_seq (r_reg ?_)
        refine zE ?_
        refine q_next (pwp_ret (q_block_ret (q_seq_ret ?_)))
        cases h7
        refine q_lout_ret fun he => ?_
        subst he
        have h11 := o_outr h
        refine q_block_ret (q_seq_ret ?_)
        cases h11
        exact zQ
      refine zU hb ?_
      refine pwp_skip (q_block (q_next (r_reg ?_)))
      refine zE ?_
      cases h7
      exact zB
    refine zU hb ?_
    refine pwp_exit (q_seq_exit ?_)
    cases h7
    exact zX
  rintro _ s' rfl hs
  have h := o_outl h
  refine q_block_hit ?_
  refine q_next (pwp_wkr hs ?_)
  refine pwp_seq (r_reg ?_)
  refine zE ?_
  refine q_next (pwp_ret ?_)
  cases h
  exact zQ

/-! slices.ContainsFunc[[]api.Step,api.Step] -/
noncomputable def d_slices_ContainsFunc_api_Step__claims_follow_c1 (a0 : (List T_api_Step)) (a1_0 : T_api_Track) : Option Bool :=
  (d_slices_IndexFunc_api_Step__claims_follow_c1 a0 a1_0).bind fun r1 =>
  some (decide (0 ≤ r1))
theorem d_slices_ContainsFunc_api_Step__claims_follow_c1_ok (a0 : (List T_api_Step)) (a1_0 : T_api_Track) (r : Bool) (h : d_slices_ContainsFunc_api_Step__claims_follow_c1 a0 a1_0 = some r) : PCall Go.Proofs.Tryz.prog GlS 86 [Enc.pv a0, .fn 85 [.cptr (cellsOf a1_0)]] (Enc.pv r) := by
  unfold d_slices_ContainsFunc_api_Step__claims_follow_c1 at h
  refine pcall_of_pwp Go.Proofs.Tryz.func86 (by rfl) rfl Go.Proofs.Tryz.ntmps86 (by rfl) rfl ?_
  refine pwp_seq (r_reg ?_)
  refine zE ?_
  refine q_next (pwp_seq (r_reg ?_))
  refine zR 2 ?_
  obtain ⟨r1, h1, h⟩ := o_bind h
  refine p_call (d_slices_IndexFunc_api_Step__claims_follow_c1_ok _ _ r1 h1) (by kernel_rfl) (by kernel_rfl) ?_
  refine zE ?_
  refine q_next (pwp_ret ?_)
  cases h
  exact zQ

/-! slices.Index[[]int,int] -/
noncomputable def d_slices_Index_int_0 (a0 : (List Int)) (a1 : Int) : Int → Option (Int ⊕ (Unit ⊕ Int)) := fun x2 =>
  bif decide (x2 < ((a0.length : Nat) : Int)) then (
    (ixO a0 x2).bind fun x4 =>
    bif decide (a1 = x4) then (
      some (.inr (.inr x2))
    ) else (
      some (.inl (w64 (x2 + 1)))
    )
  ) else (
    some (.inr (.inl ()))
  )

noncomputable def d_slices_Index_int (a0 : (List Int)) (a1 : Int) : Option Int :=
  onInl (α := Unit) (β := Int) (loopO (d_slices_Index_int_0 a0 a1) 0) fun _ =>
  some (-1)
theorem d_slices_Index_int_ok (a0 : (List Int)) (a1 : Int) (r : Int) (h : d_slices_Index_int a0 a1 = some r) : PCall Go.Proofs.Tryz.prog GlS 91 [Enc.pv a0, Enc.pv a1] (Enc.pv r) := by
  unfold d_slices_Index_int at h
  refine pcall_of_pwp Go.Proofs.Tryz.func91 (by rfl) rfl Go.Proofs.Tryz.ntmps91 (by rfl) rfl ?_
  refine pwp_seq (r_reg ?_)
  refine zE ?_
  refine q_next (pwp_seq (pwp_seq (r_reg ?_)))
  refine zR 1 ?_
  refine p_len (L := (a0 : (List Int))) (by kernel_rfl) ?_
  refine zE ?_
  refine q_next (pwp_block ?_)
  obtain ⟨o6, h6, h⟩ := o_inl h
  refine r_loop2 19 0 (fun x2 => ⟨[(0, lstOf .frozen (a0 : (List Int))), (1, .int .i64 a1), (7, .int .i64 ((a0.length : Nat) : Int)), (8, .int .i64 x2)], [], [], []⟩) (fun (_ : Unit) => ⟨[], [], [], []⟩) h6 (by kernel_rfl) (fun _ => by kernel_rfl) ?_ ?_
  · rintro x2 oh5 h5
    unfold d_slices_Index_int_0 at h5
    refine pwp_seq (r_reg ?_)
    refine zE ?_
    refine q_next (pwp_seq ?_)
    rcases o_cond h5 with ⟨hb, h5⟩ | ⟨hb, h5⟩
    · refine zT hb ?_
      refine pwp_skip (q_next (pwp_seq (pwp_block (pwp_seq (r_reg ?_)))))
      refine zE ?_
      refine q_next (pwp_seq (r_reg ?_))
      refine zR 3 ?_
      obtain ⟨x4, h7, h5⟩ := o_bind h5
      refine zI h7 ?_
      refine zE ?_
      refine q_next ?_
      rcases o_cond h5 with ⟨hb, h5⟩ | ⟨hb, h5⟩
      · refine zT hb ?_
        refine pwp_seq (r_reg ?_)
        refine zE ?_
        refine q_next (pwp_ret (q_block_ret (q_seq_ret ?_)))
        cases h5
        refine q_lout_ret fun he => ?_
        subst he
        have h8 := o_outr h
        refine q_block_ret (q_seq_ret ?_)
        cases h8
        exact zQ
      refine zU hb ?_
      refine pwp_skip (q_block (q_next (r_reg ?_)))
      refine zE ?_
      cases h5
      exact zB
    refine zU hb ?_
    refine pwp_exit (q_seq_exit ?_)
    cases h5
    exact zX
  rintro _ s' rfl hs
  have h := o_outl h
  refine q_block_hit ?_
  refine q_next (pwp_wkr hs ?_)
  refine pwp_seq (r_reg ?_)
  refine zE ?_
  refine q_next (pwp_ret ?_)
  cases h
  exact zQ

/-! slices.Contains[[]int,int] -/
noncomputable def d_slices_Contains_int (a0 : (List Int)) (a1 : Int) : Option Bool :=
  (d_slices_Index_int a0 a1).bind fun r1 =>
  some (decide (0 ≤ r1))
theorem d_slices_Contains_int_ok (a0 : (List Int)) (a1 : Int) (r : Bool) (h : d_slices_Contains_int a0 a1 = some r) : PCall Go.Proofs.Tryz.prog GlS 48 [Enc.pv a0, Enc.pv a1] (Enc.pv r) := by
  unfold d_slices_Contains_int at h
  refine pcall_of_pwp Go.Proofs.Tryz.func48 (by rfl) rfl Go.Proofs.Tryz.ntmps48 (by rfl) rfl ?_
  refine pwp_seq (r_reg ?_)
  refine zE ?_
  refine q_next (pwp_seq (r_reg ?_))
  refine zR 2 ?_
  obtain ⟨r1, h1, h⟩ := o_bind h
  refine p_call (d_slices_Index_int_ok _ _ r1 h1) (by kernel_rfl) (by kernel_rfl) ?_
  refine zE ?_
  refine q_next (pwp_ret ?_)
  cases h
  exact zQ

/-! claims.follow -/
noncomputable def d_claims_follow (a0 : T_api_Table) (a1 : T_api_Track) (a2 : Int) : Option (Int ⊕ T_api_Route) :=
  onInl (α := Unit) (β := (Int ⊕ T_api_Route)) (
    ((bif decide (a2 < 0) then some true else (
      some (decide (((a0.Routes.length : Nat) : Int) ≤ a2))
    )) : Option Bool).bind fun b2 =>
    bif b2 then (
      some (.inr (.inl 1))
    ) else (
      some (.inl ())
    )
  ) fun _ =>
  (ixO a0.Routes a2).bind fun x3 =>
  onInl (α := Unit) (β := (Int ⊕ T_api_Route)) (
    bif (!(decide (a1.CutSeq = 0))) then (
      some (.inr (.inl 11))
    ) else (
      some (.inl ())
    )
  ) fun _ =>
  onInl (α := Unit) (β := (Int ⊕ T_api_Route)) (
    bif ((decide (a1.End = (-1))) || (!(decide (a1.End = x3.Entry)))) then (
      some (.inr (.inl 10))
    ) else (
      some (.inl ())
    )
  ) fun _ =>
  onInl (α := Unit) (β := (Int ⊕ T_api_Route)) (
    (d_slices_ContainsFunc_api_Step__claims_follow_c1 x3.Path a1).bind fun r7 =>
    ((bif r7 then some true else (
      (d_slices_Contains_int a1.Routes a2).bind fun r9 =>
      some r9
    )) : Option Bool).bind fun b8 =>
    bif b8 then (
      some (.inr (.inl 8))
    ) else (
      some (.inl ())
    )
  ) fun _ =>
  onInl (α := Unit) (β := (Int ⊕ T_api_Route)) (
    bif ((decide (64 < (w64 (((a1.Steps.length : Nat) : Int) + ((x3.Path.length : Nat) : Int))))) || (decide (1073741824 < (w64 (a1.At + x3.Length))))) then (
      some (.inr (.inl 2))
    ) else (
      some (.inl ())
    )
  ) fun _ =>
  some (.inr x3)
theorem d_claims_follow_ok (a0 : T_api_Table) (a1 : T_api_Track) (a2 : Int) (r : (Int ⊕ T_api_Route)) (h : d_claims_follow a0 a1 a2 = some r) : PCallV Go.Proofs.Tryz.prog GlS 43 [Enc.pv a0, Enc.pv a1, Enc.pv a2] (panR 91 (fun r => Enc.pv r) r) := by
  unfold d_claims_follow at h
  refine pcallv_of_pwp Go.Proofs.Tryz.func43 (by rfl) rfl Go.Proofs.Tryz.ntmps43 (by rfl) rfl ?_
  refine pwp_seq (r_reg ?_)
  refine zE ?_
  refine q_next ?_
  obtain ⟨o3, h3, h⟩ := o_inl h
  refine r_join (o := o3) 74 (fun (_ : Unit) => ⟨[(2, .int .i64 a2), (3, .ref 3 0), (4, .ref 4 0), (6, .ref 6 0)], [(3, .cells (cellsOf a0)), (4, .cells (cellsOf a1)), (6, .cells ([.str ByteArray.empty, .int .i64 0, .int .i64 0, .nil, .nil, .nil, .int .i64 0, .int .i64 0, .nil, .nil, .nil, .nil, .nil, .nil]))], [], []⟩) ?_ ?_
  · refine pwp_seq (r_reg ?_)
    obtain ⟨b2, h4, h3⟩ := o_bind h3
    refine zR 3 ?_
    refine e_seg 6 17 (.bool b2) ?_ ?_
    · rcases o_cond h4 with ⟨hb, h4⟩ | ⟨hb, h4⟩
      · refine zS 11 hb ?_
        cases h4
        exact zF
      refine zS 11 hb ?_
      refine zR 3 ?_
      refine p_len (L := (a0.Routes : (List T_api_Route))) (by kernel_rfl) ?_
      cases h4
      exact zF
    refine zN ?_
    refine q_next ?_
    rcases o_cond h3 with ⟨hb, h3⟩ | ⟨hb, h3⟩
    · refine zT hb ?_
      refine r_regE ?_
      refine wlE_run 0 1 ?_
      refine zE ?_
      refine p_pan2V (d := 19) (y := (91, [(.i64, 1)])) (by kernel_rfl) fun ch hpan => ?_
      cases h3
      refine q_jout_pan ?_
      have h5 := o_outr h
      cases h5
      exact qv_pan hpan
    refine zU hb ?_
    refine pwp_skip ?_
    cases h3
    exact zJ
  rintro _ rfl
  have h := o_outl h
  refine pwp_seq (r_reg ?_)
  refine zR 3 ?_
  obtain ⟨x3, h6, h⟩ := o_bind h
  refine zI h6 ?_
  refine zE ?_
  refine q_next ?_
  obtain ⟨o8, h8, h⟩ := o_inl h
  refine r_join (o := o8) 74 (fun (_ : Unit) => ⟨[(2, .int .i64 a2), (4, .ref 4 0), (6, .ref 6 0), (7, .ref 7 0)], [(4, .cells (cellsOf a1)), (6, .cells ([.str ByteArray.empty, .int .i64 0, .int .i64 0, .nil, .nil, .nil, .int .i64 0, .int .i64 0, .nil, .nil, .nil, .nil, .nil, .nil])), (7, .cells (cellsOf x3))], [], []⟩) ?_ ?_
  · refine pwp_seq (r_reg ?_)
    refine zE ?_
    refine q_next ?_
    rcases o_cond h8 with ⟨hb, h8⟩ | ⟨hb, h8⟩
    · refine zT hb ?_
      refine r_regE ?_
      refine wlE_run 0 1 ?_
      refine zE ?_
      refine p_pan2V (d := 29) (y := (91, [(.i64, 11)])) (by kernel_rfl) fun ch hpan => ?_
      cases h8
      refine q_jout_pan ?_
      have h9 := o_outr h
      cases h9
      exact qv_pan hpan
    refine zU hb ?_
    refine pwp_skip ?_
    cases h8
    exact zJ
  rintro _ rfl
  have h := o_outl h
  obtain ⟨o11, h11, h⟩ := o_inl h
  refine r_join (o := o11) 74 (fun (_ : Unit) => ⟨[(2, .int .i64 a2), (4, .ref 4 0), (6, .ref 6 0), (7, .ref 7 0)], [(4, .cells (cellsOf a1)), (6, .cells ([.str ByteArray.empty, .int .i64 0, .int .i64 0, .nil, .nil, .nil, .int .i64 0, .int .i64 0, .nil, .nil, .nil, .nil, .nil, .nil])), (7, .cells (cellsOf x3))], [], []⟩) ?_ ?_
  · refine pwp_seq (r_reg ?_)
    refine zR 4 ?_
    refine e_segb 6 39 ((decide (a1.End = (-1))) || (!(decide (a1.End = x3.Entry)))) (fun x hx => ?_) ?_
    · rcases b_or hx with ⟨hb, hx⟩ | ⟨hb, hx⟩
      · refine zS 33 hb ?_
        subst hx
        exact zF
      refine zS 33 hb ?_
      subst hx
      exact zF
    refine zN ?_
    refine q_next ?_
    rcases o_cond h11 with ⟨hb, h11⟩ | ⟨hb, h11⟩
    · refine zT hb ?_
      refine r_regE ?_
      refine wlE_run 0 1 ?_
      refine zE ?_
      refine p_pan2V (d := 41) (y := (91, [(.i64, 10)])) (by kernel_rfl) fun ch hpan => ?_
      cases h11
      refine q_jout_pan ?_
      have h12 := o_outr h
      cases h12
      exact qv_pan hpan
    refine zU hb ?_
    refine pwp_skip ?_
    cases h11
    exact zJ
  rintro _ rfl
  have h := o_outl h
  refine pwp_seq (r_reg ?_)
  refine zE ?_
  refine q_next ?_
  obtain ⟨o17, h17, h⟩ := o_inl h
  refine r_join (o := o17) 74 (fun (_ : Unit) => ⟨[(4, .cptr (cellsOf a1)), (6, .ref 6 0), (7, .ref 7 0)], [(6, .cells ([.str ByteArray.empty, .int .i64 0, .int .i64 0, .nil, .nil, .nil, .int .i64 0, .int .i64 0, .nil, .nil, .nil, .nil, .nil, .nil])), (7, .cells (cellsOf x3))], [], []⟩) ?_ ?_
  · refine pwp_seq ?_
    refine g_frz 4 [6, 7] (cs := cellsOf a1) (cs' := cellsOf a1) (by kernel_rfl) (by kernel_rfl) (by kernel_rfl) (by kernel_rfl) ?_
    refine r_reg ?_
    refine zR 3 ?_
    obtain ⟨r7, h18, h17⟩ := o_bind h17
    refine p_call (d_slices_ContainsFunc_api_Step__claims_follow_c1_ok _ _ r7 h18) (by kernel_rfl) (by kernel_rfl) ?_
    obtain ⟨b8, h19, h17⟩ := o_bind h17
    refine zR 1 ?_
    refine e_seg 5 52 (.bool b8) ?_ ?_
    · rcases o_cond h19 with ⟨hb, h19⟩ | ⟨hb, h19⟩
      · refine zS 47 hb ?_
        cases h19
        exact zF
      refine zS 47 hb ?_
      refine zR 3 ?_
      obtain ⟨r9, h20, h19⟩ := o_bind h19
      refine p_call (d_slices_Contains_int_ok _ _ r9 h20) (by kernel_rfl) (by kernel_rfl) ?_
      cases h19
      exact zF
    refine zN ?_
    refine q_next ?_
    rcases o_cond h17 with ⟨hb, h17⟩ | ⟨hb, h17⟩
    · refine zT hb ?_
      refine r_regE ?_
      refine wlE_run 0 1 ?_
      refine zE ?_
      refine p_pan2V (d := 54) (y := (91, [(.i64, 8)])) (by kernel_rfl) fun ch hpan => ?_
      cases h17
      refine q_jout_pan ?_
      have h21 := o_outr h
      cases h21
      exact qv_pan hpan
    refine zU hb ?_
    refine pwp_skip ?_
    cases h17
    exact zJ
  rintro _ rfl
  have h := o_outl h
  obtain ⟨o23, h23, h⟩ := o_inl h
  refine r_join (o := o23) 74 (fun (_ : Unit) => ⟨[(6, .ref 6 0), (7, .ref 7 0)], [(6, .cells ([.str ByteArray.empty, .int .i64 0, .int .i64 0, .nil, .nil, .nil, .int .i64 0, .int .i64 0, .nil, .nil, .nil, .nil, .nil, .nil])), (7, .cells (cellsOf x3))], [], []⟩) ?_ ?_
  · refine pwp_seq (r_reg ?_)
    refine zR 2 ?_
    refine p_len (L := (a1.Steps : (List T_api_Step))) (by kernel_rfl) ?_
    refine zR 2 ?_
    refine p_len (L := (x3.Path : (List T_api_Step))) (by kernel_rfl) ?_
    refine zR 3 ?_
    refine e_segb 7 70 ((decide (64 < (w64 (((a1.Steps.length : Nat) : Int) + ((x3.Path.length : Nat) : Int))))) || (decide (1073741824 < (w64 (a1.At + x3.Length))))) (fun x hx => ?_) ?_
    · rcases b_or hx with ⟨hb, hx⟩ | ⟨hb, hx⟩
      · refine zS 63 hb ?_
        subst hx
        exact zF
      refine zS 63 hb ?_
      subst hx
      exact zF
    refine zN ?_
    refine q_next ?_
    rcases o_cond h23 with ⟨hb, h23⟩ | ⟨hb, h23⟩
    · refine zT hb ?_
      refine r_regE ?_
      refine wlE_run 0 1 ?_
      refine zE ?_
      refine p_pan2V (d := 72) (y := (91, [(.i64, 2)])) (by kernel_rfl) fun ch hpan => ?_
      cases h23
      refine q_jout_pan ?_
      have h24 := o_outr h
      cases h24
      exact qv_pan hpan
    refine zU hb ?_
    refine pwp_skip ?_
    cases h23
    exact zJ
  rintro _ rfl
  have h := o_outl h
  refine pwp_seq (r_reg ?_)
  refine zE ?_
  refine q_next (pwp_ret ?_)
  cases h
  exact ⟨_, rfl, q_ret (by kernel_rfl) (by kernel_rfl) (by kernel_rfl)⟩

/-! slices.Clone[[]int,int] -/
noncomputable def d_slices_Clone_int (a0 : (List Int)) : Option (List Int) :=
  (appO ([] : (List Int)) a0).bind fun x1 =>
  some x1
theorem d_slices_Clone_int_ok (a0 : (List Int)) (r : (List Int)) (h : d_slices_Clone_int a0 = some r) : PCall Go.Proofs.Tryz.prog GlS 88 [Enc.pv a0] (lstOf (.own 7) r) := by
  unfold d_slices_Clone_int at h
  refine pcall_of_pwp Go.Proofs.Tryz.func88 (by rfl) rfl Go.Proofs.Tryz.ntmps88 (by rfl) rfl ?_
  refine pwp_seq (r_reg ?_)
  refine zE ?_
  refine q_next (pwp_seq (pwp_seq (r_reg ?_)))
  refine zE ?_
  refine q_next ?_
  refine pwp_condU (e := ((a0 : (List Int)).map cellsOf).isEmpty) (by kernel_rfl) (fun hub => ?_) ?_
  · have hN := clone_nil (ub_nil hub) h
    refine pwp_seq (r_reg ?_)
    refine zE ?_
    refine q_next ?_
    refine g_nil 2 7 1 8 (by kernel_rfl) (by kernel_rfl) ?_
    refine pwp_ret (q_seq_ret ?_)
    cases hN
    exact zQ
  refine pwp_skip (q_next (pwp_seq (r_reg ?_)))
  refine zR 2 ?_
  obtain ⟨x1, h1, h⟩ := o_bind h
  refine p_appn (tk := 7) h1 (by kernel_rfl) ?_
  refine zE ?_
  refine q_next (pwp_ret ?_)
  cases h
  exact zQ
theorem d_slices_Clone_int_fz (a0 : (List Int)) (r : (List Int)) (h : d_slices_Clone_int a0 = some r) : PCall Go.Proofs.Tryz.prog GlS 88 [Enc.pv a0] (Enc.pv r) :=
  (d_slices_Clone_int_ok a0 r h).freeze (by kernel_rfl) (by kernel_rfl) (by kernel_rfl)

/-! claims.inLast -/
noncomputable def d_claims_inLast_0 (a0 : T_api_Layout) (a1 : T_api_Route) (x1 : Int) : (Int × Int) → Option ((Int × Int) ⊕ (Int ⊕ Int)) := fun (x9, x10) =>
  bif decide (x10 < ((a1.Path.length : Nat) : Int)) then (
    onInl (α := Int) (β := ((Int × Int) ⊕ (Int ⊕ Int))) (
      (ixO a1.Path x10).bind fun x23 =>
      (d_layout_Section a0 x23.El).bind fun r24 =>
      bif decide (r24 = x1) then (
        (d_claims_length a0 x23).bind fun r25 =>
        some (.inl (w64 (x9 + r25)))
      ) else (
        some (.inl x9)
      )
    ) fun x22 =>
    some (.inl (x22, w64 (x10 + 1)))
  ) else (
    some (.inr (.inl x9))
  )

noncomputable def d_claims_inLast (a0 : T_api_Layout) (a1 : T_api_Route) : Option Int :=
  bif decide (((a1.Sections.length : Nat) : Int) = 0) then (
    some 0
  ) else (
    (ixO a1.Sections (w64 (((a1.Sections.length : Nat) : Int) - 1))).bind fun x1 =>
    onInl (α := Int) (β := Int) (loopO (d_claims_inLast_0 a0 a1 x1) (0, 0)) fun x18 =>
    some x18
  )
theorem d_claims_inLast_ok (a0 : T_api_Layout) (a1 : T_api_Route) (r : Int) (h : d_claims_inLast a0 a1 = some r) : PCall Go.Proofs.Tryz.prog GlS 45 [Enc.pv a0, Enc.pv a1] (Enc.pv r) := by
  unfold d_claims_inLast at h
  refine pcall_of_pwp Go.Proofs.Tryz.func45 (by rfl) rfl Go.Proofs.Tryz.ntmps45 (by rfl) rfl ?_
  refine pwp_seq (r_reg ?_)
  refine zE ?_
  refine q_next (pwp_seq (pwp_seq (r_reg ?_)))
  refine zR 2 ?_
  refine p_len (L := (a1.Sections : (List Int))) (by kernel_rfl) ?_
  refine zE ?_
  refine q_next ?_
  rcases o_cond h with ⟨hb, h⟩ | ⟨hb, h⟩
  · refine zT hb ?_
    refine pwp_seq (r_reg ?_)
    refine zE ?_
    refine q_next (pwp_ret (q_seq_ret ?_))
    cases h
    exact zQ
  refine zU hb ?_
  refine pwp_skip (q_next (pwp_seq (r_reg ?_)))
  refine zR 4 ?_
  refine p_len (L := (a1.Sections : (List Int))) (by kernel_rfl) ?_
  refine zR 1 ?_
  obtain ⟨x1, h1, h⟩ := o_bind h
  refine zI h1 ?_
  refine zE ?_
  refine q_next (pwp_seq (r_reg ?_))
  refine zE ?_
  refine q_next (pwp_seq (pwp_seq (r_reg ?_)))
  refine zR 2 ?_
  refine p_len (L := (a1.Path : (List T_api_Step))) (by kernel_rfl) ?_
  refine zE ?_
  refine q_next (pwp_block ?_)
  obtain ⟨o17, h17, h⟩ := o_inl h
  refine r_loop2 41 0 (fun (x9, x10) => ⟨[(2, .ref 2 0), (5, .int .i64 x1), (6, .int .i64 x9), (22, lstOf .frozen (a1.Path : (List T_api_Step))), (23, .int .i64 ((a1.Path.length : Nat) : Int)), (24, .int .i64 x10)], [(2, .cells (cellsOf a0))], [], []⟩) (fun x18 => ⟨[(6, .int .i64 x18)], [], [], []⟩) h17 (by kernel_rfl) (fun _ => by kernel_rfl) ?_ ?_
  · rintro ⟨x9, x10⟩ oh16 h16
    unfold d_claims_inLast_0 at h16
    refine pwp_seq (r_reg ?_)
    refine zE ?_
    refine q_next (pwp_seq ?_)
    rcases o_cond h16 with ⟨hb, h16⟩ | ⟨hb, h16⟩
    · refine zT hb ?_
      refine pwp_skip (q_next ?_)
      obtain ⟨o21, h21, h16⟩ := o_inl h16
      refine r_join (o := o21) 41 (fun x22 => ⟨[(2, .ref 2 0), (5, .int .i64 x1), (6, .int .i64 x22), (22, lstOf .frozen (a1.Path : (List T_api_Step))), (23, .int .i64 ((a1.Path.length : Nat) : Int)), (24, .int .i64 x10)], [(2, .cells (cellsOf a0))], [], []⟩) ?_ ?_
      · refine pwp_block (pwp_seq (r_reg ?_))
        obtain ⟨x23, h22, h21⟩ := o_bind h21
        refine zI h22 ?_
        refine zE ?_
        refine q_next (pwp_seq (r_reg ?_))
        refine zR 3 ?_
        obtain ⟨r24, h23, h21⟩ := o_bind h21
        refine p_call (d_layout_Section_ok _ _ r24 h23) (by kernel_rfl) (by kernel_rfl) ?_
        refine zE ?_
        refine q_next ?_
        rcases o_cond h21 with ⟨hb, h21⟩ | ⟨hb, h21⟩
        · refine zT hb ?_
          refine r_reg ?_
          refine zR 3 ?_
          obtain ⟨r25, h24, h21⟩ := o_bind h21
          refine p_call (d_claims_length_ok _ _ r25 h24) (by kernel_rfl) (by kernel_rfl) ?_
          refine zE ?_
          refine q_block ?_
          cases h21
          exact zJ
        refine zU hb ?_
        refine pwp_skip (q_block ?_)
        cases h21
        exact zJ
      rintro x22 rfl
      have h16 := o_outl h16
      refine r_reg ?_
      refine zE ?_
      cases h16
      exact zB
    refine zU hb ?_
    refine pwp_exit (q_seq_exit ?_)
    cases h16
    exact zX
  rintro x18 s' rfl hs
  have h := o_outl h
  refine q_block_hit ?_
  refine q_next (pwp_wkr hs ?_)
  refine pwp_seq (r_reg ?_)
  refine zE ?_
  refine q_next (pwp_ret ?_)
  cases h
  exact zQ

/-! claims.Extend -/
noncomputable def d_claims_Extend (a0 : T_api_Layout) (a1 : T_api_Table) (a2 : T_api_Track) (a3 : Int) : Option (T_api_Track × Int) :=
  panVB (d_claims_follow a1 a2 a3) (fun e2 =>
    some ((T_api_Track.mk 0 0 0 0 [] [] [] [] [] 0 0 0 0 0), e2)
  ) fun r1 =>
  Option.bind (α := ((List T_api_Step) × (List Int) × (List Int) × (List Int) × (List Int))) (
    (d_slices_Clone_api_Step a2.Steps).bind fun r13 =>
    (d_slices_Clone_int a2.Routes).bind fun r14 =>
    (d_slices_Clone_int a2.Starts).bind fun r15 =>
    (d_slices_Clone_int a2.Ends).bind fun r16 =>
    (d_slices_Clone_int a2.Done).bind fun r17 =>
    some (r13, r14, r15, r16, r17)
  ) fun (x8, x9, x10, x11, x12) =>
  (appO x8 r1.Path).bind fun x18 =>
  (appO x9 [a3]).bind fun x19 =>
  (d_claims_inLast a0 r1).bind fun r20 =>
  (appO x10 [w64 ((w64 (a2.At + r1.Length)) - r20)]).bind fun x21 =>
  (appO x11 [w64 (a2.At + r1.Length)]).bind fun x22 =>
  some ((T_api_Track.mk a2.Id a2.Origin r1.Exit (w64 (a2.At + r1.Length)) x18 x19 x21 x22 x12 a2.Min a2.Sent a2.Accepted a2.Cut a2.CutSeq), 0)
set_option maxRecDepth 100000 in
theorem d_claims_Extend_ok (a0 : T_api_Layout) (a1 : T_api_Table) (a2 : T_api_Track) (a3 : Int) (r : (T_api_Track × Int)) (h : d_claims_Extend a0 a1 a2 a3 = some r) : PCall Go.Proofs.Tryz.prog GlS 17 [Enc.pv a0, Enc.pv a1, Enc.pv a2, Enc.pv a3] (.tup [Enc.pv r.1, Enc.pv r.2]) := by
  unfold d_claims_Extend at h
  refine pcall_of_pwpV Go.Proofs.Tryz.func17 (by rfl) rfl Go.Proofs.Tryz.ntmps17 (by rfl) rfl ?_
  refine pwpD_seq (r_reg ?_)
  refine zE ?_
  refine qd_next ?_
  refine pwpD_defer 1 42 [.ref 8 0, .ref 9 0] (by rfl) ?_
  refine zE ?_
  refine ⟨by kernel_rfl, by kernel_rfl, by kernel_rfl, ?_⟩
  refine pwp_seq (r_regE ?_)
  refine wlE_run 0 3 ?_
  refine zE ?_
  rcases o_panV h with ⟨e2, h1, h⟩ | ⟨r1, h1, h⟩
  · refine p_callNV (d_claims_follow_ok _ _ _ (.inl e2) h1) (by kernel_rfl) fun ch hpan => ?_
    refine q_seq_pan ?_
    refine qw_pan hpan (q_dendV (x := some (91, [(.i64, e2)])) (caps := [.ref 8 0, .ref 9 0]) (by kernel_rfl) Go.Proofs.Tryz.func42 (by rfl) rfl Go.Proofs.Tryz.ntmps42 (by rfl) ?_)
    refine pwpV_wkr ((wkr_ren 1 (by kernel_rfl)).trans (.of (j := ⟨[(0, .ref 1008 0), (1, .ref 1009 0), (25, .ref 1008 0), (26, .ref 1009 0), (75, .fn 42 [.ref 1008 0, .ref 1009 0])], [(1008, .cells ([.int .i64 0, .int .i64 0, .int .i64 0, .int .i64 0, .nil, .nil, .nil, .nil, .nil, .int .i64 0, .int .i64 0, .int .i64 0, .int .i64 0, .int .i64 0])), (1009, .cells ([.int .i64 0]))], [], []⟩) (n := 5900076) (by kernel_rfl) (by kernel_rfl))) ?_
    refine r_recoverV ⟨rfl, rfl, rfl, rfl, fun _ _ => rfl, fun _ _ => rfl⟩ (by kernel_rfl) ?_
    refine pwp_seq (r_reg ?_)
    refine zR 1 ?_
    refine p_ifn (t := 20) (b := true) (by kernel_rfl) (by kernel_rfl) ?_
    refine zN ?_
    refine q_next ?_
    refine r_cond_t (b := true) rfl (by kernel_rfl) ?_
    refine pwp_seq (r_reg ?_)
    refine zE ?_
    refine q_next (pwp_seq (r_reg ?_))
    refine zR 1 ?_
    refine p_tya (cs := [(.i64, e2)]) (by kernel_rfl) ?_
    refine zE ?_
    refine q_next (pwp_seq (r_reg ?_))
    refine zE ?_
    refine q_next ?_
    refine r_cond_t (b := true) rfl (by kernel_rfl) ?_
    refine r_reg ?_
    refine zE ?_
    cases h
    exact q_dfin (by kernel_rfl) (by kernel_rfl) (by kernel_rfl)
  refine p_callSV (d_claims_follow_ok _ _ _ (.inr r1) h1) (by kernel_rfl) (by kernel_rfl) ?_
  refine wlE_run 4 2 ?_
  refine zE ?_
  refine wlE_end (q_next (pwp_seq (r_regi ?_)))
  refine wl_run 0 1 ?_
  refine zE ?_
  refine wl_ren 3 ⟨[(3, .int .i64 a3), (4, .ref 3004 0), (8, .ref 3008 0), (9, .ref 3009 0), (10, .ref 3010 0), (16, Enc.pv a2), (58, .fn 42 [.ref 3008 0, .ref 3009 0])], [(3004, .cells (cellsOf a0)), (3008, .cells ([.int .i64 0, .int .i64 0, .int .i64 0, .int .i64 0, .nil, .nil, .nil, .nil, .nil, .int .i64 0, .int .i64 0, .int .i64 0, .int .i64 0, .int .i64 0])), (3009, .cells ([.int .i64 0])), (3010, .cells (cellsOf r1))], [], []⟩ 100059 (by kernel_rfl) (by kernel_rfl) (by kernel_rfl) ?_
  obtain ⟨o7, h7, h⟩ := o_bind h
  refine p_inl (f := 44) (asx := [Enc.pv a2]) (by kernel_rfl) Go.Proofs.Tryz.func44 (by rfl) rfl Go.Proofs.Tryz.ntmps44 (by rfl) ?_
  refine r_joinI o7 5900083 (fun (x8, x9, x10, x11, x12) => ⟨[(2, .ref 2 0), (27, .int .i64 a3), (28, .ref 3004 0), (32, .ref 3008 0), (33, .ref 3009 0), (34, .ref 3010 0), (82, .fn 42 [.ref 3008 0, .ref 3009 0])], [(2, .cells ([.int .i64 a2.Id, .int .i64 a2.Origin, .int .i64 a2.End, .int .i64 a2.At, lstOf (.own 5007) (x8 : (List T_api_Step)), lstOf (.own 9007) (x9 : (List Int)), lstOf (.own 13007) (x10 : (List Int)), lstOf (.own 17007) (x11 : (List Int)), lstOf (.own 21007) (x12 : (List Int)), .int .i64 a2.Min, .int .i64 a2.Sent, .int .i64 a2.Accepted, .int .i64 a2.Cut, .int .i64 a2.CutSeq])), (3004, .cells (cellsOf a0)), (3008, .cells ([.int .i64 0, .int .i64 0, .int .i64 0, .int .i64 0, .nil, .nil, .nil, .nil, .nil, .int .i64 0, .int .i64 0, .int .i64 0, .int .i64 0, .int .i64 0])), (3009, .cells ([.int .i64 0])), (3010, .cells (cellsOf r1))], [(5007, (((x8).map cellsOf).length, 3)), (9007, (((x9).map cellsOf).length, 1)), (13007, (((x10).map cellsOf).length, 1)), (17007, (((x11).map cellsOf).length, 1)), (21007, (((x12).map cellsOf).length, 1))], []⟩) ?_ ?_
  · refine pwp_seq (r_reg ?_)
    refine zE ?_
    refine q_next (pwp_seq (r_reg ?_))
    refine zR 2 ?_
    obtain ⟨r13, h8, h7⟩ := o_bind h7
    refine p_call (d_slices_Clone_api_Step_ok _ r13 h8) (by kernel_rfl) (by kernel_rfl) ?_
    refine zE ?_
    refine q_next (pwp_seq (r_reg ?_))
    refine zR 2 ?_
    obtain ⟨r14, h9, h7⟩ := o_bind h7
    refine p_call (d_slices_Clone_int_ok _ r14 h9) (by kernel_rfl) (by kernel_rfl) ?_
    refine zE ?_
    refine q_next (pwp_seq (r_reg ?_))
    refine zR 2 ?_
    obtain ⟨r15, h10, h7⟩ := o_bind h7
    refine p_call (d_slices_Clone_int_ok _ r15 h10) (by kernel_rfl) (by kernel_rfl) ?_
    refine zE ?_
    refine q_next (pwp_seq (r_reg ?_))
    refine zR 2 ?_
    obtain ⟨r16, h11, h7⟩ := o_bind h7
    refine p_call (d_slices_Clone_int_ok _ r16 h11) (by kernel_rfl) (by kernel_rfl) ?_
    refine zE ?_
    refine q_next (pwp_seq (r_reg ?_))
    refine zR 2 ?_
    obtain ⟨r17, h12, h7⟩ := o_bind h7
    refine p_call (d_slices_Clone_int_ok _ r17 h12) (by kernel_rfl) (by kernel_rfl) ?_
    refine zE ?_
    refine q_next (pwp_seq (r_reg ?_))
    refine zE ?_
    refine q_next (pwp_ret ?_)
    cases h7
    exact q_ij (by kernel_rfl) (by kernel_rfl)
  obtain ⟨x8, x9, x10, x11, x12⟩ := o7
  refine q_inl (r := .agg [.int .i64 a2.Id, .int .i64 a2.Origin, .int .i64 a2.End, .int .i64 a2.At, lstOf (.own 5007) (x8 : (List T_api_Step)), lstOf (.own 9007) (x9 : (List Int)), lstOf (.own 13007) (x10 : (List Int)), lstOf (.own 17007) (x11 : (List Int)), lstOf (.own 21007) (x12 : (List Int)), .int .i64 a2.Min, .int .i64 a2.Sent, .int .i64 a2.Accepted, .int .i64 a2.Cut, .int .i64 a2.CutSeq]) (by kernel_rfl) ?_
  refine wl_ren 4 ⟨[(3, .int .i64 a3), (4, .ref 3004 0), (8, .ref 3008 0), (9, .ref 3009 0), (10, .ref 3010 0), (17, .agg [.int .i64 a2.Id, .int .i64 a2.Origin, .int .i64 a2.End, .int .i64 a2.At, lstOf (.own 4005007) (x8 : (List T_api_Step)), lstOf (.own 4009007) (x9 : (List Int)), lstOf (.own 4013007) (x10 : (List Int)), lstOf (.own 4017007) (x11 : (List Int)), lstOf (.own 4021007) (x12 : (List Int)), .int .i64 a2.Min, .int .i64 a2.Sent, .int .i64 a2.Accepted, .int .i64 a2.Cut, .int .i64 a2.CutSeq]), (58, .fn 42 [.ref 3008 0, .ref 3009 0])], [(3004, .cells (cellsOf a0)), (3008, .cells ([.int .i64 0, .int .i64 0, .int .i64 0, .int .i64 0, .nil, .nil, .nil, .nil, .nil, .int .i64 0, .int .i64 0, .int .i64 0, .int .i64 0, .int .i64 0])), (3009, .cells ([.int .i64 0])), (3010, .cells (cellsOf r1))], [(4005007, (((x8).map cellsOf).length, 3)), (4009007, (((x9).map cellsOf).length, 1)), (4013007, (((x10).map cellsOf).length, 1)), (4017007, (((x11).map cellsOf).length, 1)), (4021007, (((x12).map cellsOf).length, 1))], []⟩ 100059 (by kernel_rfl) (by kernel_rfl) (by kernel_rfl) ?_
  refine wl_ren 3 ⟨[(3, .int .i64 a3), (4, .ref 4 0), (8, .ref 8 0), (9, .ref 9 0), (10, .ref 10 0), (17, .agg [.int .i64 a2.Id, .int .i64 a2.Origin, .int .i64 a2.End, .int .i64 a2.At, lstOf (.own 4005007) (x8 : (List T_api_Step)), lstOf (.own 4009007) (x9 : (List Int)), lstOf (.own 4013007) (x10 : (List Int)), lstOf (.own 4017007) (x11 : (List Int)), lstOf (.own 4021007) (x12 : (List Int)), .int .i64 a2.Min, .int .i64 a2.Sent, .int .i64 a2.Accepted, .int .i64 a2.Cut, .int .i64 a2.CutSeq]), (58, .fn 42 [.ref 8 0, .ref 9 0])], [(4, .cells (cellsOf a0)), (8, .cells ([.int .i64 0, .int .i64 0, .int .i64 0, .int .i64 0, .nil, .nil, .nil, .nil, .nil, .int .i64 0, .int .i64 0, .int .i64 0, .int .i64 0, .int .i64 0])), (9, .cells ([.int .i64 0])), (10, .cells (cellsOf r1))], [(4005007, (((x8).map cellsOf).length, 3)), (4009007, (((x9).map cellsOf).length, 1)), (4013007, (((x10).map cellsOf).length, 1)), (4017007, (((x11).map cellsOf).length, 1)), (4021007, (((x12).map cellsOf).length, 1))], []⟩ 100059 (by kernel_rfl) (by kernel_rfl) (by kernel_rfl) ?_
  refine wl_run 2 1 ?_
  refine zE ?_
  refine wl_end (q_next (pwp_seq (r_reg ?_)))
  refine zE ?_
  refine q_next (pwp_seq (r_reg ?_))
  refine zE ?_
  refine q_next (pwp_seq (r_reg ?_))
  refine zR 4 ?_
  obtain ⟨x18, h13, h⟩ := o_bind h
  refine p_app (tk := 4005007) h13 (by kernel_rfl) (by kernel_rfl) ?_
  refine zE ?_
  refine q_next (pwp_seq (r_reg ?_))
  refine zR 4 ?_
  obtain ⟨x19, h14, h⟩ := o_bind h
  refine p_app (tk := 4009007) h14 (by kernel_rfl) (by kernel_rfl) ?_
  refine zE ?_
  refine q_next (pwp_seq ?_)
  refine r_regd (by kernel_rfl) (by kernel_rfl) ?_
  refine zR 6 ?_
  obtain ⟨r20, h15, h⟩ := o_bind h
  refine p_call (d_claims_inLast_ok _ _ r20 h15) (by kernel_rfl) (by kernel_rfl) ?_
  refine zR 2 ?_
  obtain ⟨x21, h16, h⟩ := o_bind h
  refine p_app (tk := 4013007) h16 (by kernel_rfl) (by kernel_rfl) ?_
  refine zE ?_
  refine q_next (pwp_seq (r_reg ?_))
  refine zR 5 ?_
  obtain ⟨x22, h17, h⟩ := o_bind h
  refine p_app (tk := 4017007) h17 (by kernel_rfl) (by kernel_rfl) ?_
  refine zE ?_
  refine q_next (pwp_seq (r_reg ?_))
  refine zE ?_
  refine q_next (pwp_ret ?_)
  refine qw_ret (q_dendV (x := none) (caps := [.ref 8 0, .ref 9 0]) (by kernel_rfl) Go.Proofs.Tryz.func42 (by rfl) rfl Go.Proofs.Tryz.ntmps42 (by rfl) ?_)
  refine pwpV_wkr ((wkr_ren 5 (by kernel_rfl)).trans (.of (j := ⟨[(0, .ref 5008 0), (1, .ref 5009 0), (25, .ref 5008 0), (26, .ref 5009 0), (75, .fn 42 [.ref 5008 0, .ref 5009 0])], [(5008, .cells ([.int .i64 a2.Id, .int .i64 a2.Origin, .int .i64 r1.Exit, .int .i64 (w64 (a2.At + r1.Length)), lstOf (.own 4005007) (x18 : (List T_api_Step)), lstOf (.own 4009007) (x19 : (List Int)), lstOf (.own 4013007) (x21 : (List Int)), lstOf (.own 4017007) (x22 : (List Int)), lstOf (.own 4021007) (x12 : (List Int)), .int .i64 a2.Min, .int .i64 a2.Sent, .int .i64 a2.Accepted, .int .i64 a2.Cut, .int .i64 a2.CutSeq])), (5009, .cells ([.int .i64 0]))], [(4005007, (((x18).map cellsOf).length, 3)), (4009007, (((x19).map cellsOf).length, 1)), (4013007, (((x21).map cellsOf).length, 1)), (4017007, (((x22).map cellsOf).length, 1)), (4021007, (((x12).map cellsOf).length, 1))], []⟩) (n := 5900076) (by kernel_rfl) (by kernel_rfl))) ?_
  refine r_recoverV ⟨rfl, rfl, rfl, rfl, fun _ _ => rfl, fun _ _ => rfl⟩ (by kernel_rfl) ?_
  refine pwp_seq (r_reg ?_)
  refine zR 1 ?_
  refine p_ifn (t := 20) (b := false) (by kernel_rfl) (by kernel_rfl) ?_
  refine zN ?_
  refine q_next ?_
  refine r_cond_f (b := false) rfl (by kernel_rfl) ?_
  refine pwp_skip ?_
  cases h
  exact q_dfin (by kernel_rfl) (by kernel_rfl) (by kernel_rfl)

/-! claims.until -/
noncomputable def d_claims_until_0 (a0 : T_api_Layout) (a1 : (List T_api_Step)) (a3 : Int) : (Int × Int × (List T_api_Step)) → Option ((Int × Int × (List T_api_Step)) ⊕ ((List T_api_Step) ⊕ (List T_api_Step))) := fun (x13, x14, x15) =>
  bif decide (x14 < ((a1.length : Nat) : Int)) then (
    (ixO a1 x14).bind fun x22 =>
    onInl (α := (List T_api_Step)) (β := ((Int × Int × (List T_api_Step)) ⊕ ((List T_api_Step) ⊕ (List T_api_Step)))) (
      bif decide (x13 < a3) then (
        (appO x15 [x22]).bind fun x25 =>
        some (.inl x25)
      ) else (
        some (.inl x15)
      )
    ) fun x24 =>
    (d_claims_length a0 x22).bind fun r26 =>
    some (.inl (w64 (x13 + r26), w64 (x14 + 1), x24))
  ) else (
    some (.inr (.inl x15))
  )

noncomputable def d_claims_until (a0 : T_api_Layout) (a1 : (List T_api_Step)) (a2 : Int) (a3 : Int) : Option (List T_api_Step) :=
  onInl (α := (List T_api_Step)) (β := (List T_api_Step)) (loopO (d_claims_until_0 a0 a1 a3) (a2, 0, ([] : (List T_api_Step)))) fun x21 =>
  some x21
theorem d_claims_until_ok (a0 : T_api_Layout) (a1 : (List T_api_Step)) (a2 : Int) (a3 : Int) (r : (List T_api_Step)) (h : d_claims_until a0 a1 a2 a3 = some r) : PCall Go.Proofs.Tryz.prog GlS 90 [Enc.pv a0, Enc.pv a1, Enc.pv a2, Enc.pv a3] (lstOf (.own 100009) r) := by
  unfold d_claims_until at h
  refine pcall_of_pwp Go.Proofs.Tryz.func90 (by rfl) rfl Go.Proofs.Tryz.ntmps90 (by rfl) rfl ?_
  refine pwp_seq (r_reg ?_)
  refine zE ?_
  refine q_next (pwp_seq (r_reg ?_))
  refine zE ?_
  refine q_next (pwp_seq (r_reg ?_))
  refine zE ?_
  refine q_next (pwp_seq (pwp_seq (r_reg ?_)))
  refine zR 1 ?_
  refine p_len (L := (a1 : (List T_api_Step))) (by kernel_rfl) ?_
  refine zE ?_
  refine q_next (pwp_block ?_)
  refine g_nil 9 100009 3 24 (by kernel_rfl) (by kernel_rfl) ?_
  obtain ⟨o17, h17, h⟩ := o_inl h
  refine r_loop2 34 0 (fun (x13, x14, x15) => ⟨[(3, .int .i64 a3), (4, .ref 4 0), (9, lstOf (.own 100009) (x15 : (List T_api_Step))), (10, .int .i64 x13), (14, lstOf .frozen (a1 : (List T_api_Step))), (15, .int .i64 ((a1.length : Nat) : Int)), (16, .int .i64 x14)], [(4, .cells (cellsOf a0))], [(100009, (((x15).map cellsOf).length, 3))], []⟩) (fun x21 => ⟨[(9, lstOf (.own 100009) (x21 : (List T_api_Step)))], [], [(100009, (((x21).map cellsOf).length, 3))], []⟩) h17 (by kernel_rfl) (fun _ => by kernel_rfl) ?_ ?_
  · rintro ⟨x13, x14, x15⟩ oh16 h16
    unfold d_claims_until_0 at h16
    refine pwp_seq (r_reg ?_)
    refine zE ?_
    refine q_next (pwp_seq ?_)
    rcases o_cond h16 with ⟨hb, h16⟩ | ⟨hb, h16⟩
    · refine zT hb ?_
      refine pwp_skip (q_next (pwp_seq (pwp_block (pwp_seq (r_reg ?_)))))
      obtain ⟨x22, h18, h16⟩ := o_bind h16
      refine zI h18 ?_
      refine zE ?_
      refine q_next ?_
      obtain ⟨o20, h20, h16⟩ := o_inl h16
      refine r_join (o := o20) 34 (fun x24 => ⟨[(3, .int .i64 a3), (4, .ref 4 0), (9, lstOf (.own 100009) (x24 : (List T_api_Step))), (10, .int .i64 x13), (12, .ref 12 0), (14, lstOf .frozen (a1 : (List T_api_Step))), (15, .int .i64 ((a1.length : Nat) : Int)), (16, .int .i64 x14)], [(4, .cells (cellsOf a0)), (12, .cells (cellsOf x22))], [(100009, (((x24).map cellsOf).length, 3))], []⟩) ?_ ?_
      · refine pwp_seq (r_reg ?_)
        refine zE ?_
        refine q_next ?_
        rcases o_cond h20 with ⟨hb, h20⟩ | ⟨hb, h20⟩
        · refine zT hb ?_
          refine r_reg ?_
          refine zR 3 ?_
          obtain ⟨x25, h21, h20⟩ := o_bind h20
          refine p_app (tk := 100009) h21 (by kernel_rfl) (by kernel_rfl) ?_
          refine zE ?_
          cases h20
          exact zJ
        refine zU hb ?_
        refine pwp_skip ?_
        cases h20
        exact zJ
      rintro x24 rfl
      have h16 := o_outl h16
      refine r_reg ?_
      refine zR 3 ?_
      obtain ⟨r26, h22, h16⟩ := o_bind h16
      refine p_call (d_claims_length_ok _ _ r26 h22) (by kernel_rfl) (by kernel_rfl) ?_
      refine zE ?_
      refine q_block (q_next (r_reg ?_))
      refine zE ?_
      cases h16
      exact zB
    refine zU hb ?_
    refine pwp_exit (q_seq_exit ?_)
    cases h16
    exact zX
  rintro x21 s' rfl hs
  have h := o_outl h
  refine q_block_hit ?_
  refine q_next (pwp_wkr hs ?_)
  refine pwp_seq (r_reg ?_)
  refine zE ?_
  refine q_next (pwp_ret ?_)
  cases h
  exact zQ
theorem d_claims_until_fz (a0 : T_api_Layout) (a1 : (List T_api_Step)) (a2 : Int) (a3 : Int) (r : (List T_api_Step)) (h : d_claims_until a0 a1 a2 a3 = some r) : PCall Go.Proofs.Tryz.prog GlS 90 [Enc.pv a0, Enc.pv a1, Enc.pv a2, Enc.pv a3] (Enc.pv r) :=
  (d_claims_until_ok a0 a1 a2 a3 r h).freeze (by kernel_rfl) (by kernel_rfl) (by kernel_rfl)

/-! integrity.Rear -/
noncomputable def d_integrity_Rear (a0 : T_api_Train) (a1 : Int) : Option Int :=
  bif ((decide (a1 < (-2147483648))) || (decide ((w64 (a1 - a0.Length)) < (-2147483648)))) then (
    some (-2147483648)
  ) else (
    some (w64 (a1 - a0.Length))
  )
theorem d_integrity_Rear_ok (a0 : T_api_Train) (a1 : Int) (r : Int) (h : d_integrity_Rear a0 a1 = some r) : PCall Go.Proofs.Tryz.prog GlS 49 [Enc.pv a0, Enc.pv a1] (Enc.pv r) := by
  unfold d_integrity_Rear at h
  refine pcall_of_pwp Go.Proofs.Tryz.func49 (by rfl) rfl Go.Proofs.Tryz.ntmps49 (by rfl) rfl ?_
  refine pwp_seq (r_reg ?_)
  refine zE ?_
  refine q_next (pwp_seq (pwp_seq (r_reg ?_)))
  refine zR 3 ?_
  refine e_segb 6 13 ((decide (a1 < (-2147483648))) || (decide ((w64 (a1 - a0.Length)) < (-2147483648)))) (fun x hx => ?_) ?_
  · rcases b_or hx with ⟨hb, hx⟩ | ⟨hb, hx⟩
    · refine zS 7 hb ?_
      subst hx
      exact zF
    refine zS 7 hb ?_
    subst hx
    exact zF
  refine zN ?_
  refine q_next ?_
  rcases o_cond h with ⟨hb, h⟩ | ⟨hb, h⟩
  · refine zT hb ?_
    refine pwp_seq (r_reg ?_)
    refine zE ?_
    refine q_next (pwp_ret (q_seq_ret ?_))
    cases h
    exact zQ
  refine zU hb ?_
  refine pwp_skip (q_next (pwp_seq (r_reg ?_)))
  refine zE ?_
  refine q_next (pwp_ret ?_)
  cases h
  exact zQ

/-! integrity.Beyond -/
noncomputable def d_integrity_Beyond (a0 : T_api_Train) (a1 : T_api_Report) (a2 : Int) : Option Bool :=
  ((bif a1.Whole then (
    (d_integrity_Rear a0 a1.Min).bind fun r2 =>
    some (decide (a2 ≤ r2))
  ) else some false) : Option Bool).bind fun b1 =>
  some b1
theorem d_integrity_Beyond_ok (a0 : T_api_Train) (a1 : T_api_Report) (a2 : Int) (r : Bool) (h : d_integrity_Beyond a0 a1 a2 = some r) : PCall Go.Proofs.Tryz.prog GlS 47 [Enc.pv a0, Enc.pv a1, Enc.pv a2] (Enc.pv r) := by
  unfold d_integrity_Beyond at h
  refine pcall_of_pwp Go.Proofs.Tryz.func47 (by rfl) rfl Go.Proofs.Tryz.ntmps47 (by rfl) rfl ?_
  refine pwp_seq (r_reg ?_)
  refine zE ?_
  refine q_next (pwp_seq (r_reg ?_))
  obtain ⟨b1, h1, h⟩ := o_bind h
  refine zR 3 ?_
  refine e_seg 7 16 (.bool b1) ?_ ?_
  · rcases o_cond h1 with ⟨hb, h1⟩ | ⟨hb, h1⟩
    · refine zS 9 hb ?_
      refine zR 3 ?_
      obtain ⟨r2, h2, h1⟩ := o_bind h1
      refine p_call (d_integrity_Rear_ok _ _ r2 h2) (by kernel_rfl) (by kernel_rfl) ?_
      cases h1
      exact zF
    refine zS 9 hb ?_
    cases h1
    exact zF
  refine zE ?_
  refine q_next (pwp_ret ?_)
  cases h
  exact zQ

end PM
