/-
  Plain functions for the program's functions, and the proofs that the program does them. Printed by den.py.
-/
import Derived.Test.YtcobolgkboknbaaDoorDen2
namespace PM
open Go Go.RowKit
attribute [local irreducible] pops pwp

/-! signallingref06.Need -/
noncomputable def d_ref06_Need (a0 : Int) (a1 : Int) (a2 : Int) : Option (Int × Bool) :=
  bif ((decide (a0 = 1)) || (decide (a0 = 3))) then (
    some (0, (((decide ((min a1 a2) = 0)) && (decide ((max a1 a2) = 1))) || (((decide (a0 = 3)) && (decide ((min a1 a2) = 2))) && (decide ((max a1 a2) = 3)))))
  ) else (
    bif (((decide (a0 = 2)) && (decide ((min a1 a2) = 0))) && (decide ((max a1 a2) = 1))) then (
      some (1, true)
    ) else (
      bif (((decide (a0 = 2)) && (decide ((min a1 a2) = 0))) && (decide ((max a1 a2) = 2))) then (
        some (2, true)
      ) else (
        some (0, false)
      )
    )
  )
theorem d_ref06_Need_ok (a0 : Int) (a1 : Int) (a2 : Int) (r : (Int × Bool)) (h : d_ref06_Need a0 a1 a2 = some r) : PCall Go.Proofs.Tryd.prog GlS 63 [Enc.pv a0, Enc.pv a1, Enc.pv a2] (.tup [Enc.pv r.1, Enc.pv r.2]) := by
  unfold d_ref06_Need at h
  refine pcall_of_pwp Go.Proofs.Tryd.func63 (by rfl) rfl Go.Proofs.Tryd.ntmps63 (by rfl) rfl ?_
  refine pwp_seq (r_reg ?_)
  refine zE ?_
  refine q_next (pwp_seq (r_reg ?_))
  refine zE ?_
  refine q_next (pwp_seq (r_reg ?_))
  refine zE ?_
  refine q_next (pwp_seq (pwp_seq (r_reg ?_)))
  refine zR 3 ?_
  refine e_segb 3 21 ((decide (a0 = 1)) || (decide (a0 = 3))) (fun x hx => ?_) ?_
  · rcases b_or hx with ⟨hb, hx⟩ | ⟨hb, hx⟩
    · refine zS 18 hb ?_
      subst hx
      exact zF
    refine zS 18 hb ?_
    subst hx
    exact zF
  refine zN ?_
  refine q_next ?_
  rcases o_cond h with ⟨hb, h⟩ | ⟨hb, h⟩
  · refine zT hb ?_
    refine pwp_seq (r_reg ?_)
    refine zR 3 ?_
    refine e_segb 3 27 ((decide ((min a1 a2) = 0)) && (decide ((max a1 a2) = 1))) (fun x hx => ?_) ?_
    · rcases b_and hx with ⟨hb, hx⟩ | ⟨hb, hx⟩
      · refine zS 24 hb ?_
        subst hx
        exact zF
      refine zS 24 hb ?_
      subst hx
      exact zF
    refine zR 1 ?_
    refine e_segb 11 39 (((decide ((min a1 a2) = 0)) && (decide ((max a1 a2) = 1))) || (((decide (a0 = 3)) && (decide ((min a1 a2) = 2))) && (decide ((max a1 a2) = 3)))) (fun x hx => ?_) ?_
    · rcases b_or hx with ⟨hb, hx⟩ | ⟨hb, hx⟩
      · refine zS 28 hb ?_
        subst hx
        exact zF
      refine zS 28 hb ?_
      refine zR 3 ?_
      refine f_segb 3 34 ((decide (a0 = 3)) && (decide ((min a1 a2) = 2))) (fun x hx => ?_) ?_
      · rcases b_and hx with ⟨hb, hx⟩ | ⟨hb, hx⟩
        · refine zS 31 hb ?_
          subst hx
          exact zF
        refine zS 31 hb ?_
        subst hx
        exact zF
      refine zR 1 ?_
      refine f_segb 3 38 (((decide (a0 = 3)) && (decide ((min a1 a2) = 2))) && (decide ((max a1 a2) = 3))) (fun x hx => ?_) ?_
      · rcases b_and hx with ⟨hb, hx⟩ | ⟨hb, hx⟩
        · refine zS 35 hb ?_
          subst hx
          exact zF
        refine zS 35 hb ?_
        subst hx
        exact zF
      subst hx
      exact zF
    refine zE ?_
    refine q_next (pwp_ret (q_seq_ret ?_))
    cases h
    exact zQ
  refine zU hb ?_
  refine pwp_skip (q_next (pwp_seq (pwp_seq (r_reg ?_))))
  refine zR 3 ?_
  refine e_segb 3 45 ((decide (a0 = 2)) && (decide ((min a1 a2) = 0))) (fun x hx => ?_) ?_
  · rcases b_and hx with ⟨hb, hx⟩ | ⟨hb, hx⟩
    · refine zS 42 hb ?_
      subst hx
      exact zF
    refine zS 42 hb ?_
    subst hx
    exact zF
  refine zR 1 ?_
  refine e_segb 3 49 (((decide (a0 = 2)) && (decide ((min a1 a2) = 0))) && (decide ((max a1 a2) = 1))) (fun x hx => ?_) ?_
  · rcases b_and hx with ⟨hb, hx⟩ | ⟨hb, hx⟩
    · refine zS 46 hb ?_
      subst hx
      exact zF
    refine zS 46 hb ?_
    subst hx
    exact zF
  refine zN ?_
  refine q_next ?_
  rcases o_cond h with ⟨hb, h⟩ | ⟨hb, h⟩
  · refine zT hb ?_
    refine pwp_seq (r_reg ?_)
    refine zE ?_
    refine q_next (pwp_ret (q_seq_ret ?_))
    cases h
    exact zQ
  refine zU hb ?_
  refine pwp_skip (q_next (pwp_seq (pwp_seq (r_reg ?_))))
  refine zR 3 ?_
  refine e_segb 3 55 ((decide (a0 = 2)) && (decide ((min a1 a2) = 0))) (fun x hx => ?_) ?_
  · rcases b_and hx with ⟨hb, hx⟩ | ⟨hb, hx⟩
    · refine zS 52 hb ?_
      subst hx
      exact zF
    refine zS 52 hb ?_
    subst hx
    exact zF
  refine zR 1 ?_
  refine e_segb 3 59 (((decide (a0 = 2)) && (decide ((min a1 a2) = 0))) && (decide ((max a1 a2) = 2))) (fun x hx => ?_) ?_
  · rcases b_and hx with ⟨hb, hx⟩ | ⟨hb, hx⟩
    · refine zS 56 hb ?_
      subst hx
      exact zF
    refine zS 56 hb ?_
    subst hx
    exact zF
  refine zN ?_
  refine q_next ?_
  rcases o_cond h with ⟨hb, h⟩ | ⟨hb, h⟩
  · refine zT hb ?_
    refine pwp_seq (r_reg ?_)
    refine zE ?_
    refine q_next (pwp_ret (q_seq_ret ?_))
    cases h
    exact zQ
  refine zU hb ?_
  refine pwp_skip (q_next (pwp_seq (r_reg ?_)))
  refine zE ?_
  refine q_next (pwp_ret ?_)
  cases h
  exact zQ

/-! signallingref09.need -/
noncomputable def d_ref09_need (a0 : T_api_Layout) (a1 : T_api_Step) : Option (Int × Bool) :=
  (d_ref09_exists a0 a1.El).bind fun r1 =>
  bif (!r1) then (
    some (0, false)
  ) else (
    (ixO a0.Elements a1.El).bind fun x2 =>
    (d_ref06_Need x2.Kind a1.In a1.Out).bind fun r3 =>
    some (r3.1, r3.2)
  )
theorem d_ref09_need_ok (a0 : T_api_Layout) (a1 : T_api_Step) (r : (Int × Bool)) (h : d_ref09_need a0 a1 = some r) : PCall Go.Proofs.Tryd.prog GlS 58 [Enc.pv a0, Enc.pv a1] (.tup [Enc.pv r.1, Enc.pv r.2]) := by
  unfold d_ref09_need at h
  refine pcall_of_pwp Go.Proofs.Tryd.func58 (by rfl) rfl Go.Proofs.Tryd.ntmps58 (by rfl) rfl ?_
  refine pwp_seq (r_reg ?_)
  refine zE ?_
  refine q_next (pwp_seq (pwp_seq (r_reg ?_)))
  refine zR 3 ?_
  obtain ⟨r1, h1, h⟩ := o_bind h
  refine p_call (d_ref09_exists_ok _ _ r1 h1) (by kernel_rfl) (by kernel_rfl) ?_
  refine zE ?_
  refine q_next ?_
  rcases o_cond h with ⟨hb, h⟩ | ⟨hb, h⟩
  · refine zT hb ?_
    refine pwp_seq (r_reg ?_)
    refine zE ?_
    refine q_next (pwp_ret (q_seq_ret ?_))
    cases h
    exact zQ
  refine zU hb ?_
  refine pwp_skip (q_next (pwp_seq ?_))
  refine r_regd (by kernel_rfl) (by kernel_rfl) ?_
  refine zR 4 ?_
  obtain ⟨x2, h2, h⟩ := o_bind h
  refine zI h2 ?_
  refine zR 6 ?_
  obtain ⟨r3, h3, h⟩ := o_bind h
  refine p_call (d_ref06_Need_ok _ _ _ r3 h3) (by kernel_rfl) (by kernel_rfl) ?_
  refine zE ?_
  refine q_next (pwp_ret ?_)
  cases h
  exact zQ

/-! signallingref09.Next -/
noncomputable def d_ref09_Next (a0 : T_api_Layout) (a1 : T_api_Step) : Option (T_api_End × Bool) :=
  (d_ref07_Joined a0 (T_api_End.mk a1.El a1.Out)).bind fun r1 =>
  some (r1.1, r1.2)
theorem d_ref09_Next_ok (a0 : T_api_Layout) (a1 : T_api_Step) (r : (T_api_End × Bool)) (h : d_ref09_Next a0 a1 = some r) : PCall Go.Proofs.Tryd.prog GlS 59 [Enc.pv a0, Enc.pv a1] (.tup [Enc.pv r.1, Enc.pv r.2]) := by
  unfold d_ref09_Next at h
  refine pcall_of_pwp Go.Proofs.Tryd.func59 (by rfl) rfl Go.Proofs.Tryd.ntmps59 (by rfl) rfl ?_
  refine pwp_seq (r_reg ?_)
  refine zE ?_
  refine q_next (pwp_seq (r_reg ?_))
  refine zR 6 ?_
  obtain ⟨r1, h1, h⟩ := o_bind h
  refine p_call (d_ref07_Joined_ok _ _ r1 h1) (by kernel_rfl) (by kernel_rfl) ?_
  refine zE ?_
  refine q_next (pwp_ret ?_)
  cases h
  exact zQ

/-! signallingref09.Valid -/
noncomputable def d_ref09_Valid_1 (a1 : (List T_api_Step)) (x23 : Int) : Int → Option (Int ⊕ (Unit ⊕ (Int ⊕ (Unit ⊕ Bool)))) := fun x61 =>
  bif decide (x61 < x23) then (
    (ixO a1 x61).bind fun x64 =>
    (ixO a1 x23).bind fun x65 =>
    bif decide (x64.El = x65.El) then (
      some (.inr (.inr (.inr (.inr false))))
    ) else (
      some (.inl (w64 (x61 + 1)))
    )
  ) else (
    some (.inr (.inl ()))
  )

noncomputable def d_ref09_Valid_0 (a0 : T_api_Layout) (a1 : (List T_api_Step)) : Int → Option (Int ⊕ (Unit ⊕ Bool)) := fun x23 =>
  bif decide (x23 < ((a1.length : Nat) : Int)) then (
    (ixO a1 x23).bind fun x45 =>
    (d_ref09_need a0 x45).bind fun r46 =>
    bif (!r46.2) then (
      some (.inr (.inr false))
    ) else (
      onInl (α := Unit) (β := (Int ⊕ (Unit ⊕ Bool))) (
        bif decide (0 < x23) then (
          (ixO a1 (w64 (x23 - 1))).bind fun x53 =>
          (d_ref09_Next a0 x53).bind fun r54 =>
          ((bif (!r54.2) then some true else (
            (ixO a1 x23).bind fun x56 =>
            some (!(decide (r54.1.El = x56.El)))
          )) : Option Bool).bind fun b55 =>
          ((bif b55 then some true else (
            (ixO a1 x23).bind fun x58 =>
            some (!(decide (r54.1.Side = x58.In)))
          )) : Option Bool).bind fun b57 =>
          bif b57 then (
            some (.inr (.inr (.inr false)))
          ) else (
            some (.inl ())
          )
        ) else (
          some (.inl ())
        )
      ) fun _ =>
      onInl (α := Unit) (β := (Int ⊕ (Unit ⊕ Bool))) (loopO (d_ref09_Valid_1 a1 x23) 0) fun _ =>
      some (.inl (w64 (x23 + 1)))
    )
  ) else (
    some (.inr (.inl ()))
  )

noncomputable def d_ref09_Valid (a0 : T_api_Layout) (a1 : (List T_api_Step)) : Option Bool :=
  ((bif decide (((a1.length : Nat) : Int) = 0) then some true else (
    some (decide (64 < ((a1.length : Nat) : Int)))
  )) : Option Bool).bind fun b1 =>
  bif b1 then (
    some false
  ) else (
    onInl (α := Unit) (β := Bool) (loopO (d_ref09_Valid_0 a0 a1) 0) fun _ =>
    some true
  )
theorem d_ref09_Valid_ok (a0 : T_api_Layout) (a1 : (List T_api_Step)) (r : Bool) (h : d_ref09_Valid a0 a1 = some r) : PCall Go.Proofs.Tryd.prog GlS 25 [Enc.pv a0, Enc.pv a1] (Enc.pv r) := by
  unfold d_ref09_Valid at h
  refine pcall_of_pwp Go.Proofs.Tryd.func25 (by rfl) rfl Go.Proofs.Tryd.ntmps25 (by rfl) rfl ?_
  refine pwp_seq (r_reg ?_)
  refine zE ?_
  refine q_next (pwp_seq (pwp_seq (r_reg ?_)))
  refine zR 1 ?_
  refine p_len (L := (a1 : (List T_api_Step))) (by kernel_rfl) ?_
  obtain ⟨b1, h1, h⟩ := o_bind h
  refine zR 2 ?_
  refine e_seg 4 18 (.bool b1) ?_ ?_
  · rcases o_cond h1 with ⟨hb, h1⟩ | ⟨hb, h1⟩
    · refine zS 14 hb ?_
      cases h1
      exact zF
    refine zS 14 hb ?_
    refine zR 1 ?_
    refine p_len (L := (a1 : (List T_api_Step))) (by kernel_rfl) ?_
    cases h1
    exact zF
  refine zN ?_
  refine q_next ?_
  rcases o_cond h with ⟨hb, h⟩ | ⟨hb, h⟩
  · refine zT hb ?_
    refine pwp_seq (r_reg ?_)
    refine zE ?_
    refine q_next (pwp_ret (q_seq_ret ?_))
    cases h
    exact zQ
  refine zU hb ?_
  refine pwp_skip (q_next (pwp_seq (pwp_seq (r_reg ?_))))
  refine zE ?_
  refine q_next (pwp_block ?_)
  obtain ⟨o71, h71, h⟩ := o_inl h
  refine r_loop2 86 0 (fun x23 => ⟨[(1, lstOf .frozen (a1 : (List T_api_Step))), (2, .ref 2 0), (5, .int .i64 x23)], [(2, .cells (cellsOf a0))], [], []⟩) (fun (_ : Unit) => ⟨[], [], [], []⟩) h71 (by kernel_rfl) (fun _ => by kernel_rfl) ?_ ?_
  · rintro x23 oh70 h70
    unfold d_ref09_Valid_0 at h70
    refine pwp_seq (pwp_seq (r_reg ?_))
    refine zR 2 ?_
    refine p_len (L := (a1 : (List T_api_Step))) (by kernel_rfl) ?_
    refine zE ?_
    refine q_next ?_
    rcases o_cond h70 with ⟨hb, h70⟩ | ⟨hb, h70⟩
    · refine zT hb ?_
      refine pwp_skip (q_next (pwp_seq (pwp_block (pwp_seq ?_))))
      refine r_regd (by kernel_rfl) (by kernel_rfl) ?_
      refine zR 3 ?_
      obtain ⟨x45, h72, h70⟩ := o_bind h70
      refine zI h72 ?_
      refine zR 1 ?_
      obtain ⟨r46, h73, h70⟩ := o_bind h70
      refine p_call (d_ref09_need_ok _ _ r46 h73) (by kernel_rfl) (by kernel_rfl) ?_
      refine zE ?_
      refine q_next (pwp_seq (pwp_seq (r_reg ?_)))
      refine zE ?_
      refine q_next ?_
      rcases o_cond h70 with ⟨hb, h70⟩ | ⟨hb, h70⟩
      · refine zT hb ?_
        refine pwp_seq (r_reg ?_)
        refine zE ?_
        refine q_next (pwp_ret (q_seq_ret (q_block_ret (q_seq_ret ?_))))
        cases h70
        refine q_lout_ret fun he => ?_
        subst he
        have h74 := o_outr h
        refine q_block_ret (q_seq_ret ?_)
        cases h74
        exact zQ
      refine zU hb ?_
      refine pwp_skip (q_next ?_)
      obtain ⟨o83, h83, h70⟩ := o_inl h70
      refine r_join (o := o83) 86 (fun (_ : Unit) => ⟨[(1, lstOf .frozen (a1 : (List T_api_Step))), (2, .ref 2 0), (5, .int .i64 x23)], [(2, .cells (cellsOf a0))], [], []⟩) ?_ ?_
      · refine pwp_seq (r_reg ?_)
        refine zE ?_
        refine q_next ?_
        rcases o_cond h83 with ⟨hb, h83⟩ | ⟨hb, h83⟩
        · refine zT hb ?_
          refine pwp_seq ?_
          refine r_regd (by kernel_rfl) (by kernel_rfl) ?_
          refine zR 4 ?_
          obtain ⟨x53, h84, h83⟩ := o_bind h83
          refine zI h84 ?_
          refine zR 1 ?_
          obtain ⟨r54, h85, h83⟩ := o_bind h83
          refine p_call (d_ref09_Next_ok _ _ r54 h85) (by kernel_rfl) (by kernel_rfl) ?_
          refine zE ?_
          refine q_next (pwp_seq ?_)
          refine r_regd (by kernel_rfl) (by kernel_rfl) ?_
          obtain ⟨b55, h86, h83⟩ := o_bind h83
          refine zR 3 ?_
          refine e_seg 9 59 (.bool b55) ?_ ?_
          · rcases o_cond h86 with ⟨hb, h86⟩ | ⟨hb, h86⟩
            · refine zS 50 hb ?_
              cases h86
              exact zF
            refine zS 50 hb ?_
            refine zR 4 ?_
            obtain ⟨x56, h87, h86⟩ := o_bind h86
            refine zI h87 ?_
            cases h86
            exact zF
          obtain ⟨b57, h88, h83⟩ := o_bind h83
          refine zR 1 ?_
          refine e_seg 9 69 (.bool b57) ?_ ?_
          · rcases o_cond h88 with ⟨hb, h88⟩ | ⟨hb, h88⟩
            · refine zS 60 hb ?_
              cases h88
              exact zF
            refine zS 60 hb ?_
            refine zR 4 ?_
            obtain ⟨x58, h89, h88⟩ := o_bind h88
            refine zI h89 ?_
            cases h88
            exact zF
          refine zN ?_
          refine q_next ?_
          rcases o_cond h83 with ⟨hb, h83⟩ | ⟨hb, h83⟩
          · refine zT hb ?_
            refine pwp_seq (r_reg ?_)
            refine zE ?_
            refine q_next (pwp_ret ?_)
            cases h83
            refine q_jout_ret ?_
            have h90 := o_outr h70
            refine q_block_ret (q_seq_ret ?_)
            cases h90
            refine q_lout_ret fun he => ?_
            subst he
            have h91 := o_outr h
            refine q_block_ret (q_seq_ret ?_)
            cases h91
            exact zQ
          refine zU hb ?_
          refine pwp_skip ?_
          cases h83
          exact zJ
        refine zU hb ?_
        refine pwp_skip ?_
        cases h83
        exact zJ
      rintro _ rfl
      have h70 := o_outl h70
      refine pwp_seq (r_reg ?_)
      refine zE ?_
      refine q_next (pwp_block ?_)
      obtain ⟨o101, h101, h70⟩ := o_inl h70
      refine r_loop2 86 2 (fun x61 => ⟨[(1, lstOf .frozen (a1 : (List T_api_Step))), (2, .ref 2 0), (5, .int .i64 x23), (10, .int .i64 x61)], [(2, .cells (cellsOf a0))], [], []⟩) (fun (_ : Unit) => ⟨[(1, lstOf .frozen (a1 : (List T_api_Step))), (2, .ref 2 0), (5, .int .i64 x23)], [(2, .cells (cellsOf a0))], [], []⟩) h101 (by kernel_rfl) (fun _ => by kernel_rfl) ?_ ?_
      · rintro x61 oh100 h100
        unfold d_ref09_Valid_1 at h100
        refine pwp_seq (pwp_seq (r_reg ?_))
        refine zE ?_
        refine q_next ?_
        rcases o_cond h100 with ⟨hb, h100⟩ | ⟨hb, h100⟩
        · refine zT hb ?_
          refine pwp_skip (q_next (pwp_seq (pwp_block (pwp_seq ?_))))
          refine r_regd (by kernel_rfl) (by kernel_rfl) ?_
          refine zR 2 ?_
          obtain ⟨x64, h102, h100⟩ := o_bind h100
          refine zI h102 ?_
          refine zR 4 ?_
          obtain ⟨x65, h103, h100⟩ := o_bind h100
          refine zI h103 ?_
          refine zE ?_
          refine q_next ?_
          rcases o_cond h100 with ⟨hb, h100⟩ | ⟨hb, h100⟩
          · refine zT hb ?_
            refine pwp_seq (r_reg ?_)
            refine zE ?_
            refine q_next (pwp_ret (q_block_ret (q_seq_ret ?_)))
            cases h100
            refine q_lout_ret fun he => ?_
            subst he
            have h104 := o_outr h70
            refine q_block_ret (q_block_ret (q_seq_ret ?_))
            cases h104
            refine q_lout_ret fun he => ?_
            subst he
            have h105 := o_outr h
            refine q_block_ret (q_seq_ret ?_)
            cases h105
            exact zQ
          refine zU hb ?_
          refine pwp_skip (q_block (q_next (r_reg ?_)))
          refine zE ?_
          cases h100
          exact zB
        refine zU hb ?_
        refine pwp_exit (q_seq_exit ?_)
        cases h100
        exact zX
      rintro _ s' rfl hs
      have h70 := o_outl h70
      refine q_block_hit (q_block ?_)
      refine q_next (pwp_wkr hs ?_)
      refine r_reg ?_
      refine zE ?_
      cases h70
      exact zB
    refine zU hb ?_
    refine pwp_exit (q_seq_exit ?_)
    cases h70
    exact zX
  rintro _ s' rfl hs
  have h := o_outl h
  refine q_block_hit ?_
  refine q_next (pwp_wkr hs ?_)
  refine pwp_seq (r_reg ?_)
  refine zE ?_
  refine q_next (pwp_ret ?_)
  cases h
  exact zQ

/-! signallingref10.Valid -/
noncomputable def d_ref10_Valid_0 (a0 : (List T_api_Segment)) : Int → Option (Int ⊕ (Unit ⊕ Bool)) := fun x5 =>
  bif decide (x5 < ((a0.length : Nat) : Int)) then (
    (ixO a0 x5).bind fun x10 =>
    ((bif (((((((decide (x10.From < (-1073741824))) || (decide (x10.To ≤ x10.From))) || (decide (1073741824 < x10.To))) || (decide (x10.Grade < (-50)))) || (decide (50 < x10.Grade))) || (decide (x10.Speed < 1))) || (decide (10000 < x10.Speed))) then some true else (
      ((bif decide (0 < x5) then (
        (ixO a0 (w64 (x5 - 1))).bind fun x13 =>
        some (!(decide (x13.To = x10.From)))
      ) else some false) : Option Bool).bind fun b12 =>
      some b12
    )) : Option Bool).bind fun b11 =>
    bif b11 then (
      some (.inr (.inr false))
    ) else (
      some (.inl (w64 (x5 + 1)))
    )
  ) else (
    some (.inr (.inl ()))
  )

noncomputable def d_ref10_Valid (a0 : (List T_api_Segment)) : Option Bool :=
  onInl (α := Unit) (β := Bool) (loopO (d_ref10_Valid_0 a0) 0) fun _ =>
  some (decide (((a0.length : Nat) : Int) ≤ 128))
theorem d_ref10_Valid_ok (a0 : (List T_api_Segment)) (r : Bool) (h : d_ref10_Valid a0 = some r) : PCall Go.Proofs.Tryd.prog GlS 60 [Enc.pv a0] (Enc.pv r) := by
  unfold d_ref10_Valid at h
  refine pcall_of_pwp Go.Proofs.Tryd.func60 (by rfl) rfl Go.Proofs.Tryd.ntmps60 (by rfl) rfl ?_
  refine pwp_seq (r_reg ?_)
  refine zE ?_
  refine q_next (pwp_seq (pwp_seq (r_reg ?_)))
  refine zR 1 ?_
  refine p_len (L := (a0 : (List T_api_Segment))) (by kernel_rfl) ?_
  refine zE ?_
  refine q_next (pwp_block ?_)
  obtain ⟨o12, h12, h⟩ := o_inl h
  refine r_loop2 66 0 (fun x5 => ⟨[(0, lstOf .frozen (a0 : (List T_api_Segment))), (5, lstOf .frozen (a0 : (List T_api_Segment))), (6, .int .i64 ((a0.length : Nat) : Int)), (7, .int .i64 x5)], [], [], []⟩) (fun (_ : Unit) => ⟨[(0, lstOf .frozen (a0 : (List T_api_Segment)))], [], [], []⟩) h12 (by kernel_rfl) (fun _ => by kernel_rfl) ?_ ?_
  · rintro x5 oh11 h11
    unfold d_ref10_Valid_0 at h11
    refine pwp_seq (r_reg ?_)
    refine zE ?_
    refine q_next (pwp_seq ?_)
    rcases o_cond h11 with ⟨hb, h11⟩ | ⟨hb, h11⟩
    · refine zT hb ?_
      refine pwp_skip (q_next (pwp_seq (pwp_block (pwp_seq (r_reg ?_)))))
      refine zR 1 ?_
      obtain ⟨x10, h13, h11⟩ := o_bind h11
      refine zI h13 ?_
      refine zE ?_
      refine q_next (pwp_seq ?_)
      refine r_regd (by kernel_rfl) (by kernel_rfl) ?_
      refine zR 4 ?_
      refine e_segb 6 21 ((decide (x10.From < (-1073741824))) || (decide (x10.To ≤ x10.From))) (fun x hx => ?_) ?_
      · rcases b_or hx with ⟨hb, hx⟩ | ⟨hb, hx⟩
        · refine zS 15 hb ?_
          subst hx
          exact zF
        refine zS 15 hb ?_
        subst hx
        exact zF
      refine zR 1 ?_
      refine e_segb 4 26 (((decide (x10.From < (-1073741824))) || (decide (x10.To ≤ x10.From))) || (decide (1073741824 < x10.To))) (fun x hx => ?_) ?_
      · rcases b_or hx with ⟨hb, hx⟩ | ⟨hb, hx⟩
        · refine zS 22 hb ?_
          subst hx
          exact zF
        refine zS 22 hb ?_
        subst hx
        exact zF
      refine zR 1 ?_
      refine e_segb 4 31 ((((decide (x10.From < (-1073741824))) || (decide (x10.To ≤ x10.From))) || (decide (1073741824 < x10.To))) || (decide (x10.Grade < (-50)))) (fun x hx => ?_) ?_
      · rcases b_or hx with ⟨hb, hx⟩ | ⟨hb, hx⟩
        · refine zS 27 hb ?_
          subst hx
          exact zF
        refine zS 27 hb ?_
        subst hx
        exact zF
      refine zR 1 ?_
      refine e_segb 4 36 (((((decide (x10.From < (-1073741824))) || (decide (x10.To ≤ x10.From))) || (decide (1073741824 < x10.To))) || (decide (x10.Grade < (-50)))) || (decide (50 < x10.Grade))) (fun x hx => ?_) ?_
      · rcases b_or hx with ⟨hb, hx⟩ | ⟨hb, hx⟩
        · refine zS 32 hb ?_
          subst hx
          exact zF
        refine zS 32 hb ?_
        subst hx
        exact zF
      refine zR 1 ?_
      refine e_segb 4 41 ((((((decide (x10.From < (-1073741824))) || (decide (x10.To ≤ x10.From))) || (decide (1073741824 < x10.To))) || (decide (x10.Grade < (-50)))) || (decide (50 < x10.Grade))) || (decide (x10.Speed < 1))) (fun x hx => ?_) ?_
      · rcases b_or hx with ⟨hb, hx⟩ | ⟨hb, hx⟩
        · refine zS 37 hb ?_
          subst hx
          exact zF
        refine zS 37 hb ?_
        subst hx
        exact zF
      refine zR 1 ?_
      refine e_segb 4 46 (((((((decide (x10.From < (-1073741824))) || (decide (x10.To ≤ x10.From))) || (decide (1073741824 < x10.To))) || (decide (x10.Grade < (-50)))) || (decide (50 < x10.Grade))) || (decide (x10.Speed < 1))) || (decide (10000 < x10.Speed))) (fun x hx => ?_) ?_
      · rcases b_or hx with ⟨hb, hx⟩ | ⟨hb, hx⟩
        · refine zS 42 hb ?_
          subst hx
          exact zF
        refine zS 42 hb ?_
        subst hx
        exact zF
      obtain ⟨b11, h14, h11⟩ := o_bind h11
      refine zR 1 ?_
      refine e_seg 14 61 (.bool b11) ?_ ?_
      · rcases o_cond h14 with ⟨hb, h14⟩ | ⟨hb, h14⟩
        · refine zS 47 hb ?_
          cases h14
          exact zF
        refine zS 47 hb ?_
        obtain ⟨b12, h15, h14⟩ := o_bind h14
        refine zR 3 ?_
        refine f_seg 10 60 (.bool b12) ?_ ?_
        · rcases o_cond h15 with ⟨hb, h15⟩ | ⟨hb, h15⟩
          · refine zS 50 hb ?_
            refine zR 3 ?_
            obtain ⟨x13, h16, h15⟩ := o_bind h15
            refine zI h16 ?_
            cases h15
            exact zF
          refine zS 50 hb ?_
          cases h15
          exact zF
        cases h14
        exact zF
      refine zN ?_
      refine q_next ?_
      rcases o_cond h11 with ⟨hb, h11⟩ | ⟨hb, h11⟩
      · refine zT hb ?_
        refine pwp_seq (r_reg ?_)
        refine zE ?_
        refine q_next (pwp_ret (q_block_ret (q_seq_ret ?_)))
        cases h11
        refine q_lout_ret fun he => ?_
        subst he
        have h17 := o_outr h
        refine q_block_ret (q_seq_ret ?_)
        cases h17
        exact zQ
      refine zU hb ?_
      refine pwp_skip (q_block (q_next (r_reg ?_)))
      refine zE ?_
      cases h11
      exact zB
    refine zU hb ?_
    refine pwp_exit (q_seq_exit ?_)
    cases h11
    exact zX
  rintro _ s' rfl hs
  have h := o_outl h
  refine q_block_hit ?_
  refine q_next (pwp_wkr hs ?_)
  refine pwp_seq (r_reg ?_)
  refine zR 1 ?_
  refine p_len (L := (a0 : (List T_api_Segment))) (by kernel_rfl) ?_
  refine zE ?_
  refine q_next (pwp_ret ?_)
  cases h
  exact zQ

/-! signallingref10.Of -/
noncomputable def d_ref10_Of_0 (a0 : T_api_Layout) (a1 : (List T_api_Step)) : (Int × Int × (List T_api_Segment)) → Option ((Int × Int × (List T_api_Segment)) ⊕ ((List T_api_Segment) ⊕ (List T_api_Segment))) := fun (x18, x19, x20) =>
  bif decide (x19 < ((a1.length : Nat) : Int)) then (
    (ixO a1 x19).bind fun x29 =>
    ((bif decide (x29.El < 0) then some true else (
      some (decide (((a0.Elements.length : Nat) : Int) ≤ x29.El))
    )) : Option Bool).bind fun b30 =>
    bif b30 then (
      some (.inr (.inr ([] : (List T_api_Segment))))
    ) else (
      (ixO a0.Elements x29.El).bind fun x31 =>
      (d_ref06_Need x31.Kind x29.In x29.Out).bind fun r32 =>
      bif (!r32.2) then (
        some (.inr (.inr ([] : (List T_api_Segment))))
      ) else (
        onInl (α := Int) (β := ((Int × Int × (List T_api_Segment)) ⊕ ((List T_api_Segment) ⊕ (List T_api_Segment)))) (
          bif ((decide (x29.In = 0)) || ((decide (x29.In = 2)) && (decide (x31.Kind = 3)))) then (
            some (.inl x31.Grade)
          ) else (
            some (.inl (w64 (0 - x31.Grade)))
          )
        ) fun x33 =>
        onInl (α := Int) (β := ((Int × Int × (List T_api_Segment)) ⊕ ((List T_api_Segment) ⊕ (List T_api_Segment)))) (
          bif ((decide (x31.Kind = 2)) && ((decide (x29.In = 2)) || (decide (x29.Out = 2)))) then (
            some (.inl x31.Slow)
          ) else (
            some (.inl x31.Speed)
          )
        ) fun x34 =>
        (appO x20 [(T_api_Segment.mk x18 (w64 (x18 + x31.Length)) x33 x34)]).bind fun x35 =>
        some (.inl (w64 (x18 + x31.Length), w64 (x19 + 1), x35))
      )
    )
  ) else (
    some (.inr (.inl x20))
  )

noncomputable def d_ref10_Of (a0 : T_api_Layout) (a1 : (List T_api_Step)) (a2 : Int) : Option (List T_api_Segment) :=
  ((bif ((decide (a2 < (-1073741824))) || (decide (1073741824 < a2))) then some true else (
    some (decide (128 < ((a1.length : Nat) : Int)))
  )) : Option Bool).bind fun b1 =>
  bif b1 then (
    some ([] : (List T_api_Segment))
  ) else (
    onInl (α := (List T_api_Segment)) (β := (List T_api_Segment)) (loopO (d_ref10_Of_0 a0 a1) (a2, 0, ([] : (List T_api_Segment)))) fun x28 =>
    (d_ref10_Valid x28).bind fun r36 =>
    bif (!r36) then (
      some ([] : (List T_api_Segment))
    ) else (
      some x28
    )
  )
theorem d_ref10_Of_ok (a0 : T_api_Layout) (a1 : (List T_api_Step)) (a2 : Int) (r : (List T_api_Segment)) (h : d_ref10_Of a0 a1 a2 = some r) : PCall Go.Proofs.Tryd.prog GlS 27 [Enc.pv a0, Enc.pv a1, Enc.pv a2] (Enc.pv r) := by
  unfold d_ref10_Of at h
  refine pcall_of_pwp Go.Proofs.Tryd.func27 (by rfl) rfl Go.Proofs.Tryd.ntmps27 (by rfl) rfl ?_
  refine pwp_seq (r_reg ?_)
  refine zE ?_
  refine q_next (pwp_seq (pwp_seq (r_reg ?_)))
  refine zR 3 ?_
  refine e_segb 3 19 ((decide (a2 < (-1073741824))) || (decide (1073741824 < a2))) (fun x hx => ?_) ?_
  · rcases b_or hx with ⟨hb, hx⟩ | ⟨hb, hx⟩
    · refine zS 16 hb ?_
      subst hx
      exact zF
    refine zS 16 hb ?_
    subst hx
    exact zF
  obtain ⟨b1, h1, h⟩ := o_bind h
  refine zR 1 ?_
  refine e_seg 4 24 (.bool b1) ?_ ?_
  · rcases o_cond h1 with ⟨hb, h1⟩ | ⟨hb, h1⟩
    · refine zS 20 hb ?_
      cases h1
      exact zF
    refine zS 20 hb ?_
    refine zR 1 ?_
    refine p_len (L := (a1 : (List T_api_Step))) (by kernel_rfl) ?_
    cases h1
    exact zF
  refine zN ?_
  refine q_next ?_
  rcases o_cond h with ⟨hb, h⟩ | ⟨hb, h⟩
  · refine zT hb ?_
    refine pwp_seq (r_reg ?_)
    refine zE ?_
    refine q_next (pwp_ret (q_seq_ret ?_))
    cases h
    exact zQ
  refine zU hb ?_
  refine pwp_skip (q_next (pwp_seq (r_reg ?_)))
  refine zE ?_
  refine q_next (pwp_seq (pwp_seq (r_reg ?_)))
  refine zR 1 ?_
  refine p_len (L := (a1 : (List T_api_Step))) (by kernel_rfl) ?_
  refine zE ?_
  refine q_next (pwp_block ?_)
  refine g_nil 7 100007 4 32 (by kernel_rfl) (by kernel_rfl) ?_
  obtain ⟨o30, h30, h⟩ := o_inl h
  refine r_loop2 114 0 (fun (x18, x19, x20) => ⟨[(2, .int .i64 x18), (3, .ref 3 0), (7, lstOf (.own 100007) (x20 : (List T_api_Segment))), (25, lstOf .frozen (a1 : (List T_api_Step))), (26, .int .i64 ((a1.length : Nat) : Int)), (27, .int .i64 x19)], [(3, .cells (cellsOf a0))], [(100007, (((x20).map cellsOf).length, 4))], []⟩) (fun x28 => ⟨[(7, lstOf (.own 100007) (x28 : (List T_api_Segment)))], [], [(100007, (((x28).map cellsOf).length, 4))], []⟩) h30 (by kernel_rfl) (fun _ => by kernel_rfl) ?_ ?_
  · rintro ⟨x18, x19, x20⟩ oh29 h29
    unfold d_ref10_Of_0 at h29
    refine pwp_seq (r_reg ?_)
    refine zE ?_
    refine q_next (pwp_seq ?_)
    rcases o_cond h29 with ⟨hb, h29⟩ | ⟨hb, h29⟩
    · refine zT hb ?_
      refine pwp_skip (q_next (pwp_seq (pwp_block (pwp_seq (r_reg ?_)))))
      obtain ⟨x29, h31, h29⟩ := o_bind h29
      refine zI h31 ?_
      refine zE ?_
      refine q_next (pwp_seq (pwp_seq (r_reg ?_)))
      obtain ⟨b30, h32, h29⟩ := o_bind h29
      refine zR 4 ?_
      refine e_seg 7 41 (.bool b30) ?_ ?_
      · rcases o_cond h32 with ⟨hb, h32⟩ | ⟨hb, h32⟩
        · refine zS 34 hb ?_
          cases h32
          exact zF
        refine zS 34 hb ?_
        refine zR 4 ?_
        refine p_len (L := (a0.Elements : (List T_api_Element))) (by kernel_rfl) ?_
        cases h32
        exact zF
      refine zN ?_
      refine q_next ?_
      rcases o_cond h29 with ⟨hb, h29⟩ | ⟨hb, h29⟩
      · refine zT hb ?_
        refine pwp_seq (r_reg ?_)
        refine zE ?_
        refine q_next (pwp_ret (q_seq_ret (q_block_ret (q_seq_ret ?_))))
        cases h29
        refine q_lout_ret fun he => ?_
        subst he
        have h33 := o_outr h
        refine q_block_ret (q_seq_ret ?_)
        cases h33
        exact zQ
      refine zU hb ?_
      refine pwp_skip (q_next (pwp_seq (r_reg ?_)))
      refine zR 4 ?_
      obtain ⟨x31, h34, h29⟩ := o_bind h29
      refine zI h34 ?_
      refine zE ?_
      refine q_next (pwp_seq (pwp_seq (r_reg ?_)))
      refine zR 6 ?_
      obtain ⟨r32, h35, h29⟩ := o_bind h29
      refine p_call (d_ref06_Need_ok _ _ _ r32 h35) (by kernel_rfl) (by kernel_rfl) ?_
      refine zE ?_
      refine q_next (pwp_seq (r_reg ?_))
      refine zE ?_
      refine q_next ?_
      rcases o_cond h29 with ⟨hb, h29⟩ | ⟨hb, h29⟩
      · refine zT hb ?_
        refine pwp_seq (r_reg ?_)
        refine zE ?_
        refine q_next (pwp_ret (q_seq_ret (q_block_ret (q_seq_ret ?_))))
        cases h29
        refine q_lout_ret fun he => ?_
        subst he
        have h36 := o_outr h
        refine q_block_ret (q_seq_ret ?_)
        cases h36
        exact zQ
      refine zU hb ?_
      refine pwp_skip (q_next (pwp_seq (r_reg ?_)))
      refine zE ?_
      refine q_next ?_
      obtain ⟨o37, h37, h29⟩ := o_inl h29
      refine r_join (o := o37) 114 (fun x33 => ⟨[(3, .ref 3 0), (7, lstOf (.own 100007) (x20 : (List T_api_Segment))), (9, .ref 9 0), (10, .ref 10 0), (13, .ref 13 0), (25, lstOf .frozen (a1 : (List T_api_Step))), (26, .int .i64 ((a1.length : Nat) : Int)), (27, .int .i64 x19)], [(3, .cells (cellsOf a0)), (9, .cells (cellsOf x29)), (10, .cells (cellsOf x31)), (13, .cells ([.int .i64 x18, .int .i64 (w64 (x18 + x31.Length)), .int .i64 x33, .int .i64 x31.Speed]))], [(100007, (((x20).map cellsOf).length, 4))], []⟩) ?_ ?_
      · refine pwp_seq (r_reg ?_)
        refine zR 4 ?_
        refine e_segb 9 83 ((decide (x29.In = 0)) || ((decide (x29.In = 2)) && (decide (x31.Kind = 3)))) (fun x hx => ?_) ?_
        · rcases b_or hx with ⟨hb, hx⟩ | ⟨hb, hx⟩
          · refine zS 74 hb ?_
            subst hx
            exact zF
          refine zS 74 hb ?_
          refine zR 4 ?_
          refine f_segb 4 82 ((decide (x29.In = 2)) && (decide (x31.Kind = 3))) (fun x hx => ?_) ?_
          · rcases b_and hx with ⟨hb, hx⟩ | ⟨hb, hx⟩
            · refine zS 78 hb ?_
              subst hx
              exact zF
            refine zS 78 hb ?_
            subst hx
            exact zF
          subst hx
          exact zF
        refine zN ?_
        refine q_next ?_
        rcases o_cond h37 with ⟨hb, h37⟩ | ⟨hb, h37⟩
        · refine zT hb ?_
          refine r_reg ?_
          refine zE ?_
          cases h37
          exact zJ
        refine zU hb ?_
        refine pwp_skip ?_
        cases h37
        exact zJ
      rintro x33 rfl
      have h29 := o_outl h29
      obtain ⟨o38, h38, h29⟩ := o_inl h29
      refine r_join (o := o38) 114 (fun x34 => ⟨[(3, .ref 3 0), (7, lstOf (.own 100007) (x20 : (List T_api_Segment))), (13, .ref 13 0), (25, lstOf .frozen (a1 : (List T_api_Step))), (26, .int .i64 ((a1.length : Nat) : Int)), (27, .int .i64 x19)], [(3, .cells (cellsOf a0)), (13, .cells ([.int .i64 x18, .int .i64 (w64 (x18 + x31.Length)), .int .i64 x33, .int .i64 x34]))], [(100007, (((x20).map cellsOf).length, 4))], []⟩) ?_ ?_
      · refine pwp_seq (r_reg ?_)
        refine zR 4 ?_
        refine e_segb 9 99 ((decide (x31.Kind = 2)) && ((decide (x29.In = 2)) || (decide (x29.Out = 2)))) (fun x hx => ?_) ?_
        · rcases b_and hx with ⟨hb, hx⟩ | ⟨hb, hx⟩
          · refine zS 90 hb ?_
            refine zR 4 ?_
            refine f_segb 4 98 ((decide (x29.In = 2)) || (decide (x29.Out = 2))) (fun x hx => ?_) ?_
            · rcases b_or hx with ⟨hb, hx⟩ | ⟨hb, hx⟩
              · refine zS 94 hb ?_
                subst hx
                exact zF
              refine zS 94 hb ?_
              subst hx
              exact zF
            subst hx
            exact zF
          refine zS 90 hb ?_
          subst hx
          exact zF
        refine zN ?_
        refine q_next ?_
        rcases o_cond h38 with ⟨hb, h38⟩ | ⟨hb, h38⟩
        · refine zT hb ?_
          refine r_reg ?_
          refine zE ?_
          cases h38
          exact zJ
        refine zU hb ?_
        refine pwp_skip ?_
        cases h38
        exact zJ
      rintro x34 rfl
      have h29 := o_outl h29
      refine pwp_seq (r_reg ?_)
      refine zR 3 ?_
      obtain ⟨x35, h39, h29⟩ := o_bind h29
      refine p_app (tk := 100007) h39 (by kernel_rfl) (by kernel_rfl) ?_
      refine zE ?_
      refine q_next (r_reg ?_)
      refine zE ?_
      refine q_block (q_next (r_reg ?_))
      refine zE ?_
      cases h29
      exact zB
    refine zU hb ?_
    refine pwp_exit (q_seq_exit ?_)
    cases h29
    exact zX
  rintro x28 s' rfl hs
  have h := o_outl h
  refine q_block_hit ?_
  refine q_next (pwp_wkr hs ?_)
  refine pwp_seq (pwp_seq (r_reg ?_))
  refine zR 1 ?_
  obtain ⟨r36, h40, h⟩ := o_bind h
  refine p_call (d_ref10_Valid_ok _ r36 h40) (by kernel_rfl) (by kernel_rfl) ?_
  refine zE ?_
  refine q_next ?_
  rcases o_cond h with ⟨hb, h⟩ | ⟨hb, h⟩
  · refine zT hb ?_
    refine pwp_seq (r_reg ?_)
    refine zE ?_
    refine q_next (pwp_ret (q_seq_ret ?_))
    cases h
    exact zQ
  refine zU hb ?_
  refine pwp_skip (q_next (pwp_seq (r_reg ?_)))
  refine zE ?_
  refine q_next (pwp_ret ?_)
  cases h
  exact zQ

/-! signallingref43.Check -/
noncomputable def d_ref43_Check (a0 : T_api_Layout) (a1 : T_api_Restriction) : Option Int :=
  ((bif (((decide (a1.Id < 1)) || (decide (1073741824 < a1.Id))) || (decide (a1.El < 0))) then some true else (
    some (decide (((a0.Elements.length : Nat) : Int) ≤ a1.El))
  )) : Option Bool).bind fun b1 =>
  ((bif ((b1 || (decide (a1.From < 0))) || (decide (a1.To ≤ a1.From))) then some true else (
    (ixO a0.Elements a1.El).bind fun x3 =>
    some (decide (x3.Length < a1.To))
  )) : Option Bool).bind fun b2 =>
  bif ((b2 || (decide (a1.Speed < 100))) || (decide (10000 < a1.Speed))) then (
    some 1
  ) else (
    some 0
  )
theorem d_ref43_Check_ok (a0 : T_api_Layout) (a1 : T_api_Restriction) (r : Int) (h : d_ref43_Check a0 a1 = some r) : PCall Go.Proofs.Tryd.prog GlS 14 [Enc.pv a0, Enc.pv a1] (Enc.pv r) := by
  unfold d_ref43_Check at h
  refine pcall_of_pwp Go.Proofs.Tryd.func14 (by rfl) rfl Go.Proofs.Tryd.ntmps14 (by rfl) rfl ?_
  refine pwp_seq (r_reg ?_)
  refine zE ?_
  refine q_next (pwp_seq (pwp_seq ?_))
  refine r_regd (by kernel_rfl) (by kernel_rfl) ?_
  refine zR 4 ?_
  refine e_segb 4 12 ((decide (a1.Id < 1)) || (decide (1073741824 < a1.Id))) (fun x hx => ?_) ?_
  · rcases b_or hx with ⟨hb, hx⟩ | ⟨hb, hx⟩
    · refine zS 8 hb ?_
      subst hx
      exact zF
    refine zS 8 hb ?_
    subst hx
    exact zF
  refine zR 1 ?_
  refine e_segb 4 17 (((decide (a1.Id < 1)) || (decide (1073741824 < a1.Id))) || (decide (a1.El < 0))) (fun x hx => ?_) ?_
  · rcases b_or hx with ⟨hb, hx⟩ | ⟨hb, hx⟩
    · refine zS 13 hb ?_
      subst hx
      exact zF
    refine zS 13 hb ?_
    subst hx
    exact zF
  obtain ⟨b1, h1, h⟩ := o_bind h
  refine zR 1 ?_
  refine e_seg 7 25 (.bool b1) ?_ ?_
  · rcases o_cond h1 with ⟨hb, h1⟩ | ⟨hb, h1⟩
    · refine zS 18 hb ?_
      cases h1
      exact zF
    refine zS 18 hb ?_
    refine zR 4 ?_
    refine p_len (L := (a0.Elements : (List T_api_Element))) (by kernel_rfl) ?_
    cases h1
    exact zF
  refine zR 1 ?_
  refine e_segb 4 30 (b1 || (decide (a1.From < 0))) (fun x hx => ?_) ?_
  · rcases b_or hx with ⟨hb, hx⟩ | ⟨hb, hx⟩
    · refine zS 26 hb ?_
      subst hx
      exact zF
    refine zS 26 hb ?_
    subst hx
    exact zF
  refine zR 1 ?_
  refine e_segb 6 37 ((b1 || (decide (a1.From < 0))) || (decide (a1.To ≤ a1.From))) (fun x hx => ?_) ?_
  · rcases b_or hx with ⟨hb, hx⟩ | ⟨hb, hx⟩
    · refine zS 31 hb ?_
      subst hx
      exact zF
    refine zS 31 hb ?_
    subst hx
    exact zF
  obtain ⟨b2, h2, h⟩ := o_bind h
  refine zR 1 ?_
  refine e_seg 11 49 (.bool b2) ?_ ?_
  · rcases o_cond h2 with ⟨hb, h2⟩ | ⟨hb, h2⟩
    · refine zS 38 hb ?_
      cases h2
      exact zF
    refine zS 38 hb ?_
    refine zR 6 ?_
    obtain ⟨x3, h3, h2⟩ := o_bind h2
    refine zI h3 ?_
    cases h2
    exact zF
  refine zR 1 ?_
  refine e_segb 4 54 (b2 || (decide (a1.Speed < 100))) (fun x hx => ?_) ?_
  · rcases b_or hx with ⟨hb, hx⟩ | ⟨hb, hx⟩
    · refine zS 50 hb ?_
      subst hx
      exact zF
    refine zS 50 hb ?_
    subst hx
    exact zF
  refine zR 1 ?_
  refine e_segb 4 59 ((b2 || (decide (a1.Speed < 100))) || (decide (10000 < a1.Speed))) (fun x hx => ?_) ?_
  · rcases b_or hx with ⟨hb, hx⟩ | ⟨hb, hx⟩
    · refine zS 55 hb ?_
      subst hx
      exact zF
    refine zS 55 hb ?_
    subst hx
    exact zF
  refine zN ?_
  refine q_next ?_
  rcases o_cond h with ⟨hb, h⟩ | ⟨hb, h⟩
  · refine zT hb ?_
    refine pwp_seq (r_reg ?_)
    refine zE ?_
    refine q_next (pwp_ret (q_seq_ret ?_))
    cases h
    exact zQ
  refine zU hb ?_
  refine pwp_skip (q_next (pwp_seq (r_reg ?_)))
  refine zE ?_
  refine q_next (pwp_ret ?_)
  cases h
  exact zQ

/-! signallingref43.Part -/
noncomputable def d_ref43_Part (a0 : T_api_Layout) (a1 : T_api_Step) (a2 : Int) (a3 : T_api_Restriction) : Option (Int × Int) :=
  (ixO a0.Elements a1.El).bind fun x1 =>
  bif ((decide (a1.In = 0)) || ((decide (a1.In = 2)) && (decide (x1.Kind = 3)))) then (
    some (w64 (a2 + a3.From), w64 (a2 + a3.To))
  ) else (
    some (w64 ((w64 (a2 + x1.Length)) - a3.To), w64 ((w64 (a2 + x1.Length)) - a3.From))
  )
theorem d_ref43_Part_ok (a0 : T_api_Layout) (a1 : T_api_Step) (a2 : Int) (a3 : T_api_Restriction) (r : (Int × Int)) (h : d_ref43_Part a0 a1 a2 a3 = some r) : PCall Go.Proofs.Tryd.prog GlS 61 [Enc.pv a0, Enc.pv a1, Enc.pv a2, Enc.pv a3] (.tup [Enc.pv r.1, Enc.pv r.2]) := by
  unfold d_ref43_Part at h
  refine pcall_of_pwp Go.Proofs.Tryd.func61 (by rfl) rfl Go.Proofs.Tryd.ntmps61 (by rfl) rfl ?_
  refine pwp_seq (r_reg ?_)
  refine zE ?_
  refine q_next (pwp_seq (r_reg ?_))
  refine zR 4 ?_
  obtain ⟨x1, h1, h⟩ := o_bind h
  refine zI h1 ?_
  refine zE ?_
  refine q_next (pwp_seq (pwp_seq (r_reg ?_)))
  refine zR 4 ?_
  refine e_segb 9 29 ((decide (a1.In = 0)) || ((decide (a1.In = 2)) && (decide (x1.Kind = 3)))) (fun x hx => ?_) ?_
  · rcases b_or hx with ⟨hb, hx⟩ | ⟨hb, hx⟩
    · refine zS 20 hb ?_
      subst hx
      exact zF
    refine zS 20 hb ?_
    refine zR 4 ?_
    refine f_segb 4 28 ((decide (a1.In = 2)) && (decide (x1.Kind = 3))) (fun x hx => ?_) ?_
    · rcases b_and hx with ⟨hb, hx⟩ | ⟨hb, hx⟩
      · refine zS 24 hb ?_
        subst hx
        exact zF
      refine zS 24 hb ?_
      subst hx
      exact zF
    subst hx
    exact zF
  refine zN ?_
  refine q_next ?_
  rcases o_cond h with ⟨hb, h⟩ | ⟨hb, h⟩
  · refine zT hb ?_
    refine pwp_seq ?_
    refine r_regd (by kernel_rfl) (by kernel_rfl) ?_
    refine zE ?_
    refine q_next (pwp_ret (q_seq_ret ?_))
    cases h
    exact zQ
  refine zU hb ?_
  refine pwp_skip (q_next (pwp_seq ?_))
  refine r_regd (by kernel_rfl) (by kernel_rfl) ?_
  refine zE ?_
  refine q_next (pwp_ret ?_)
  cases h
  exact zQ

/-! signallingref10.Cut -/
noncomputable def d_ref10_Cut_0 (a0 : (List T_api_Segment)) (a1 : Int) (a2 : Int) : (Int × (List T_api_Segment)) → Option ((Int × (List T_api_Segment)) ⊕ ((List T_api_Segment) ⊕ (List T_api_Segment))) := fun (x16, x17) =>
  bif decide (x16 < ((a0.length : Nat) : Int)) then (
    onInl (α := (List T_api_Segment)) (β := ((Int × (List T_api_Segment)) ⊕ ((List T_api_Segment) ⊕ (List T_api_Segment)))) (
      (ixO a0 x16).bind fun x30 =>
      (d_ref10_Valid a0).bind fun r31 =>
      bif (r31 && (decide ((max x30.From a1) < (min x30.To a2)))) then (
        (appO x17 [(T_api_Segment.mk (max x30.From a1) (min x30.To a2) x30.Grade x30.Speed)]).bind fun x32 =>
        some (.inl x32)
      ) else (
        some (.inl x17)
      )
    ) fun x29 =>
    some (.inl (w64 (x16 + 1), x29))
  ) else (
    some (.inr (.inl x17))
  )

noncomputable def d_ref10_Cut (a0 : (List T_api_Segment)) (a1 : Int) (a2 : Int) : Option (List T_api_Segment) :=
  onInl (α := (List T_api_Segment)) (β := (List T_api_Segment)) (loopO (d_ref10_Cut_0 a0 a1 a2) (0, ([] : (List T_api_Segment)))) fun x25 =>
  some x25
theorem d_ref10_Cut_ok (a0 : (List T_api_Segment)) (a1 : Int) (a2 : Int) (r : (List T_api_Segment)) (h : d_ref10_Cut a0 a1 a2 = some r) : PCall Go.Proofs.Tryd.prog GlS 28 [Enc.pv a0, Enc.pv a1, Enc.pv a2] (lstOf (.own 100007) r) := by
  unfold d_ref10_Cut at h
  refine pcall_of_pwp Go.Proofs.Tryd.func28 (by rfl) rfl Go.Proofs.Tryd.ntmps28 (by rfl) rfl ?_
  refine pwp_seq (r_reg ?_)
  refine zE ?_
  refine q_next (pwp_seq (r_reg ?_))
  refine zE ?_
  refine q_next (pwp_seq (pwp_seq (r_reg ?_)))
  refine zR 1 ?_
  refine p_len (L := (a0 : (List T_api_Segment))) (by kernel_rfl) ?_
  refine zE ?_
  refine q_next (pwp_block ?_)
  refine g_nil 7 100007 4 32 (by kernel_rfl) (by kernel_rfl) ?_
  obtain ⟨o23, h23, h⟩ := o_inl h
  refine r_loop2 41 0 (fun (x16, x17) => ⟨[(0, lstOf .frozen (a0 : (List T_api_Segment))), (1, .int .i64 a1), (2, .int .i64 a2), (7, lstOf (.own 100007) (x17 : (List T_api_Segment))), (10, lstOf .frozen (a0 : (List T_api_Segment))), (11, .int .i64 ((a0.length : Nat) : Int)), (12, .int .i64 x16)], [], [(100007, (((x17).map cellsOf).length, 4))], []⟩) (fun x25 => ⟨[(7, lstOf (.own 100007) (x25 : (List T_api_Segment)))], [], [(100007, (((x25).map cellsOf).length, 4))], []⟩) h23 (by kernel_rfl) (fun _ => by kernel_rfl) ?_ ?_
  · rintro ⟨x16, x17⟩ oh22 h22
    unfold d_ref10_Cut_0 at h22
    refine pwp_seq (r_reg ?_)
    refine zE ?_
    refine q_next (pwp_seq ?_)
    rcases o_cond h22 with ⟨hb, h22⟩ | ⟨hb, h22⟩
    · refine zT hb ?_
      refine pwp_skip (q_next ?_)
      obtain ⟨o27, h27, h22⟩ := o_inl h22
      refine r_join (o := o27) 41 (fun x29 => ⟨[(0, lstOf .frozen (a0 : (List T_api_Segment))), (1, .int .i64 a1), (2, .int .i64 a2), (7, lstOf (.own 100007) (x29 : (List T_api_Segment))), (10, lstOf .frozen (a0 : (List T_api_Segment))), (11, .int .i64 ((a0.length : Nat) : Int)), (12, .int .i64 x16)], [], [(100007, (((x29).map cellsOf).length, 4))], []⟩) ?_ ?_
      · refine pwp_block (pwp_seq (r_reg ?_))
        obtain ⟨x30, h28, h27⟩ := o_bind h27
        refine zI h28 ?_
        refine zE ?_
        refine q_next (pwp_seq (r_reg ?_))
        refine zE ?_
        refine q_next (pwp_seq (r_reg ?_))
        refine zE ?_
        refine q_next (pwp_seq (r_reg ?_))
        refine zR 1 ?_
        obtain ⟨r31, h29, h27⟩ := o_bind h27
        refine p_call (d_ref10_Valid_ok _ r31 h29) (by kernel_rfl) (by kernel_rfl) ?_
        refine zR 1 ?_
        refine e_segb 6 34 (r31 && (decide ((max x30.From a1) < (min x30.To a2)))) (fun x hx => ?_) ?_
        · rcases b_and hx with ⟨hb, hx⟩ | ⟨hb, hx⟩
          · refine zS 28 hb ?_
            subst hx
            exact zF
          refine zS 28 hb ?_
          subst hx
          exact zF
        refine zN ?_
        refine q_next ?_
        rcases o_cond h27 with ⟨hb, h27⟩ | ⟨hb, h27⟩
        · refine zT hb ?_
          refine r_reg ?_
          refine zR 3 ?_
          obtain ⟨x32, h30, h27⟩ := o_bind h27
          refine p_app (tk := 100007) h30 (by kernel_rfl) (by kernel_rfl) ?_
          refine zE ?_
          refine q_block ?_
          cases h27
          exact zJ
        refine zU hb ?_
        refine pwp_skip (q_block ?_)
        cases h27
        exact zJ
      rintro x29 rfl
      have h22 := o_outl h22
      refine r_reg ?_
      refine zE ?_
      cases h22
      exact zB
    refine zU hb ?_
    refine pwp_exit (q_seq_exit ?_)
    cases h22
    exact zX
  rintro x25 s' rfl hs
  have h := o_outl h
  refine q_block_hit ?_
  refine q_next (pwp_wkr hs ?_)
  refine pwp_seq (r_reg ?_)
  refine zE ?_
  refine q_next (pwp_ret ?_)
  cases h
  exact zQ
theorem d_ref10_Cut_fz (a0 : (List T_api_Segment)) (a1 : Int) (a2 : Int) (r : (List T_api_Segment)) (h : d_ref10_Cut a0 a1 a2 = some r) : PCall Go.Proofs.Tryd.prog GlS 28 [Enc.pv a0, Enc.pv a1, Enc.pv a2] (Enc.pv r) :=
  (d_ref10_Cut_ok a0 a1 a2 r h).freeze (by kernel_rfl) (by kernel_rfl) (by kernel_rfl)

/-! signallingref10.Cut -/
noncomputable def d_ref10_Cut_X_0 (a0 : (List T_api_Segment)) (a1 : Int) (a2 : Int) : (Int × (List T_api_Segment)) → Option ((Int × (List T_api_Segment)) ⊕ ((List T_api_Segment) ⊕ (List T_api_Segment))) := fun (x16, x17) =>
  bif decide (x16 < ((a0.length : Nat) : Int)) then (
    onInl (α := (List T_api_Segment)) (β := ((Int × (List T_api_Segment)) ⊕ ((List T_api_Segment) ⊕ (List T_api_Segment)))) (
      (ixO a0 x16).bind fun x30 =>
      (d_ref10_Valid a0).bind fun r31 =>
      bif (r31 && (decide ((max x30.From a1) < (min x30.To a2)))) then (
        (appO x17 [(T_api_Segment.mk (max x30.From a1) (min x30.To a2) x30.Grade x30.Speed)]).bind fun x32 =>
        some (.inl x32)
      ) else (
        some (.inl x17)
      )
    ) fun x29 =>
    some (.inl (w64 (x16 + 1), x29))
  ) else (
    some (.inr (.inl x17))
  )

noncomputable def d_ref10_Cut_X (a0 : (List T_api_Segment)) (a1 : Int) (a2 : Int) : Option (List T_api_Segment) :=
  onInl (α := (List T_api_Segment)) (β := (List T_api_Segment)) (loopO (d_ref10_Cut_X_0 a0 a1 a2) (0, ([] : (List T_api_Segment)))) fun x25 =>
  some x25
theorem d_ref10_Cut_X_x (a0 : (List T_api_Segment)) (a1 : Int) (a2 : Int) (r : (List T_api_Segment)) (h : d_ref10_Cut_X a0 a1 a2 = some r) : PCallX Go.Proofs.Tryd.prog GlS 28 [Enc.pv a0, Enc.pv a1, Enc.pv a2] 4 32 (r.map cellsOf) := by
  unfold d_ref10_Cut_X at h
  refine pcallx_of_pwp Go.Proofs.Tryd.func28 (by rfl) rfl Go.Proofs.Tryd.ntmps28 (by rfl) rfl ?_
  refine pwp_seq (r_reg ?_)
  refine zE ?_
  refine q_next (pwp_seq (r_reg ?_))
  refine zE ?_
  refine q_next (pwp_seq (pwp_seq (r_reg ?_)))
  refine zR 1 ?_
  refine p_len (L := (a0 : (List T_api_Segment))) (by kernel_rfl) ?_
  refine zE ?_
  refine q_next (pwp_block ?_)
  refine pwp_wkr (wkr_nilX 7 100007 4 32 (by kernel_rfl) (by kernel_rfl)) ?_
  obtain ⟨o23, h23, h⟩ := o_inl h
  refine r_loop2 41 0 (fun (x16, x17) => ⟨[(0, lstOf .frozen (a0 : (List T_api_Segment))), (1, .int .i64 a1), (2, .int .i64 a2), (7, .ex 100007 4 32 (((x17 : (List T_api_Segment)).map cellsOf).length) 0 (((x17 : (List T_api_Segment)).map cellsOf).length)), (10, lstOf .frozen (a0 : (List T_api_Segment))), (11, .int .i64 ((a0.length : Nat) : Int)), (12, .int .i64 x16)], [], [(100007, (((x17 : (List T_api_Segment)).map cellsOf).length, 0))], [(100007, (4, (32, (x17 : (List T_api_Segment)).map cellsOf)))]⟩) (fun x25 => ⟨[(7, .ex 100007 4 32 (((x25 : (List T_api_Segment)).map cellsOf).length) 0 (((x25 : (List T_api_Segment)).map cellsOf).length))], [], [(100007, (((x25 : (List T_api_Segment)).map cellsOf).length, 0))], [(100007, (4, (32, (x25 : (List T_api_Segment)).map cellsOf)))]⟩) h23 (by kernel_rfl) (fun _ => by kernel_rfl) ?_ ?_
  · rintro ⟨x16, x17⟩ oh22 h22
    unfold d_ref10_Cut_X_0 at h22
    refine pwp_seq (r_reg ?_)
    refine zE ?_
    refine q_next (pwp_seq ?_)
    rcases o_cond h22 with ⟨hb, h22⟩ | ⟨hb, h22⟩
    · refine zT hb ?_
      refine pwp_skip (q_next ?_)
      obtain ⟨o27, h27, h22⟩ := o_inl h22
      refine r_join (o := o27) 41 (fun x29 => ⟨[(0, lstOf .frozen (a0 : (List T_api_Segment))), (1, .int .i64 a1), (2, .int .i64 a2), (7, .ex 100007 4 32 (((x29 : (List T_api_Segment)).map cellsOf).length) 0 (((x29 : (List T_api_Segment)).map cellsOf).length)), (10, lstOf .frozen (a0 : (List T_api_Segment))), (11, .int .i64 ((a0.length : Nat) : Int)), (12, .int .i64 x16)], [], [(100007, (((x29 : (List T_api_Segment)).map cellsOf).length, 0))], [(100007, (4, (32, (x29 : (List T_api_Segment)).map cellsOf)))]⟩) ?_ ?_
      · refine pwp_block (pwp_seq (r_reg ?_))
        obtain ⟨x30, h28, h27⟩ := o_bind h27
        refine zI h28 ?_
        refine zE ?_
        refine q_next (pwp_seq (r_reg ?_))
        refine zE ?_
        refine q_next (pwp_seq (r_reg ?_))
        refine zE ?_
        refine q_next (pwp_seq (r_reg ?_))
        refine zR 1 ?_
        obtain ⟨r31, h29, h27⟩ := o_bind h27
        refine p_call (d_ref10_Valid_ok _ r31 h29) (by kernel_rfl) (by kernel_rfl) ?_
        refine zR 1 ?_
        refine e_segb 6 34 (r31 && (decide ((max x30.From a1) < (min x30.To a2)))) (fun x hx => ?_) ?_
        · rcases b_and hx with ⟨hb, hx⟩ | ⟨hb, hx⟩
          · refine zS 28 hb ?_
            subst hx
            exact zF
          refine zS 28 hb ?_
          subst hx
          exact zF
        refine zN ?_
        refine q_next ?_
        rcases o_cond h27 with ⟨hb, h27⟩ | ⟨hb, h27⟩
        · refine zT hb ?_
          refine r_reg ?_
          refine zR 3 ?_
          obtain ⟨x32, h30, h27⟩ := o_bind h27
          refine p_xapp (tk := 100007) (N := ((x17 : (List T_api_Segment)).map cellsOf).length) h30 (by kernel_rfl) (by kernel_rfl) (by kernel_rfl) ?_
          refine zE ?_
          refine q_block ?_
          cases h27
          exact zJ
        refine zU hb ?_
        refine pwp_skip (q_block ?_)
        cases h27
        exact zJ
      rintro x29 rfl
      have h22 := o_outl h22
      refine r_reg ?_
      refine zE ?_
      cases h22
      exact zB
    refine zU hb ?_
    refine pwp_exit (q_seq_exit ?_)
    cases h22
    exact zX
  rintro x25 s' rfl hs
  have h := o_outl h
  refine q_block_hit ?_
  refine q_next (pwp_wkr hs ?_)
  refine pwp_seq (r_reg ?_)
  refine zE ?_
  refine q_next (pwp_ret ?_)
  have hq := Option.some.inj h
  subst hq
  exact q_xres 100007 (((x25 : (List T_api_Segment)).map cellsOf).length) (by kernel_rfl)

/-! signallingref10.Limit -/
noncomputable def d_ref10_Limit_0 (a0 : (List T_api_Segment)) (a1 : Int) (a2 : Int) (a3 : Int) : (Int × (List T_api_Segment)) → Option ((Int × (List T_api_Segment)) ⊕ ((List T_api_Segment) ⊕ (List T_api_Segment))) := fun (x57, x58) =>
  bif decide (x57 < ((a0.length : Nat) : Int)) then (
    onInl (α := (List T_api_Segment)) (β := ((Int × (List T_api_Segment)) ⊕ ((List T_api_Segment) ⊕ (List T_api_Segment)))) (
      (slO a0 (some x57) (some (w64 (x57 + 1))) none).bind fun x101 =>
      (d_ref10_Cut_X x101 a1 a2).bind fun r102 =>
      bif decide (((((r102 : (List T_api_Segment)).map cellsOf).length : Nat) : Int) = 0) then (
        (ixO a0 x57).bind fun x103 =>
        (appO x58 [x103]).bind fun x104 =>
        some (.inl x104)
      ) else (
        (xixO 0 (((r102 : (List T_api_Segment)).map cellsOf).length) 0).bind fun j105 =>
        (xldO r102 (((r102 : (List T_api_Segment)).map cellsOf).length) j105).bind fun x106 =>
        (xixO 0 (((r102 : (List T_api_Segment)).map cellsOf).length) 0).bind fun j107 =>
        (xldO r102 (((r102 : (List T_api_Segment)).map cellsOf).length) j107).bind fun x108 =>
        (d_ref10_Cut x101 (-1073741824) a1).bind fun r109 =>
        (appO x58 r109).bind fun x110 =>
        (appO x110 (r102.set j107 (T_api_Segment.mk x108.From x108.To x108.Grade (min x106.Speed a3)))).bind fun x111 =>
        (d_ref10_Cut x101 a2 1073741824).bind fun r112 =>
        (appO x111 r112).bind fun x113 =>
        some (.inl x113)
      )
    ) fun x100 =>
    some (.inl (w64 (x57 + 1), x100))
  ) else (
    some (.inr (.inl x58))
  )

noncomputable def d_ref10_Limit (a0 : (List T_api_Segment)) (a1 : Int) (a2 : Int) (a3 : Int) : Option (List T_api_Segment) :=
  (d_ref10_Valid a0).bind fun r1 =>
  bif ((!r1) || (decide (a3 < 1))) then (
    some ([] : (List T_api_Segment))
  ) else (
    onInl (α := (List T_api_Segment)) (β := (List T_api_Segment)) (loopO (d_ref10_Limit_0 a0 a1 a2 a3) (0, ([] : (List T_api_Segment)))) fun x86 =>
    bif decide (128 < ((x86.length : Nat) : Int)) then (
      some ([] : (List T_api_Segment))
    ) else (
      some x86
    )
  )
theorem d_ref10_Limit_ok (a0 : (List T_api_Segment)) (a1 : Int) (a2 : Int) (a3 : Int) (r : (List T_api_Segment)) (h : d_ref10_Limit a0 a1 a2 a3 = some r) : PCall Go.Proofs.Tryd.prog GlS 62 [Enc.pv a0, Enc.pv a1, Enc.pv a2, Enc.pv a3] (Enc.pv r) := by
  unfold d_ref10_Limit at h
  refine pcall_of_pwp Go.Proofs.Tryd.func62 (by rfl) rfl Go.Proofs.Tryd.ntmps62 (by rfl) rfl ?_
  refine pwp_seq (r_reg ?_)
  refine zE ?_
  refine q_next (pwp_seq (pwp_seq (r_reg ?_)))
  refine zR 1 ?_
  obtain ⟨r1, h1, h⟩ := o_bind h
  refine p_call (d_ref10_Valid_ok _ r1 h1) (by kernel_rfl) (by kernel_rfl) ?_
  refine zR 2 ?_
  refine e_segb 3 19 ((!r1) || (decide (a3 < 1))) (fun x hx => ?_) ?_
  · rcases b_or hx with ⟨hb, hx⟩ | ⟨hb, hx⟩
    · refine zS 16 hb ?_
      subst hx
      exact zF
    refine zS 16 hb ?_
    subst hx
    exact zF
  refine zN ?_
  refine q_next ?_
  rcases o_cond h with ⟨hb, h⟩ | ⟨hb, h⟩
  · refine zT hb ?_
    refine pwp_seq (r_reg ?_)
    refine zE ?_
    refine q_next (pwp_ret (q_seq_ret ?_))
    cases h
    exact zQ
  refine zU hb ?_
  refine pwp_skip (q_next (pwp_seq (r_reg ?_)))
  refine zE ?_
  refine q_next (pwp_seq (pwp_seq (r_reg ?_)))
  refine zR 1 ?_
  refine p_len (L := (a0 : (List T_api_Segment))) (by kernel_rfl) ?_
  refine zE ?_
  refine q_next (pwp_block ?_)
  refine g_nil 9 100009 4 32 (by kernel_rfl) (by kernel_rfl) ?_
  obtain ⟨o84, h84, h⟩ := o_inl h
  refine r_loop2 71 0 (fun (x57, x58) => ⟨[(0, lstOf .frozen (a0 : (List T_api_Segment))), (1, .int .i64 a1), (2, .int .i64 a2), (3, .int .i64 a3), (9, lstOf (.own 100009) (x58 : (List T_api_Segment))), (21, .int .i64 ((a0.length : Nat) : Int)), (22, .int .i64 x57)], [], [(100009, (((x58).map cellsOf).length, 4))], []⟩) (fun x86 => ⟨[(9, lstOf (.own 100009) (x86 : (List T_api_Segment)))], [], [(100009, (((x86).map cellsOf).length, 4))], []⟩) h84 (by kernel_rfl) (fun _ => by kernel_rfl) ?_ ?_
  · rintro ⟨x57, x58⟩ oh83 h83
    unfold d_ref10_Limit_0 at h83
    refine pwp_seq (r_reg ?_)
    refine zE ?_
    refine q_next (pwp_seq ?_)
    rcases o_cond h83 with ⟨hb, h83⟩ | ⟨hb, h83⟩
    · refine zT hb ?_
      refine pwp_skip (q_next ?_)
      obtain ⟨o98, h98, h83⟩ := o_inl h83
      refine r_join (o := o98) 71 (fun x100 => ⟨[(0, lstOf .frozen (a0 : (List T_api_Segment))), (1, .int .i64 a1), (2, .int .i64 a2), (3, .int .i64 a3), (9, lstOf (.own 100009) (x100 : (List T_api_Segment))), (21, .int .i64 ((a0.length : Nat) : Int)), (22, .int .i64 x57)], [], [(100009, (((x100).map cellsOf).length, 4))], []⟩) ?_ ?_
      · refine pwp_block (pwp_seq (r_reg ?_))
        refine zE ?_
        refine q_next (pwp_seq (r_reg ?_))
        refine zR 4 ?_
        obtain ⟨x101, h99, h98⟩ := o_bind h98
        refine p_sl h99 .frozen (by kernel_rfl) (by kernel_rfl) (by kernel_rfl) ?_
        refine zE ?_
        refine q_next (pwp_seq (r_reg ?_))
        refine zR 3 ?_
        obtain ⟨r102, h100, h98⟩ := o_bind h98
        refine p_callx (α := T_api_Segment) 33 (d_ref10_Cut_X_x _ _ _ r102 h100) (by kernel_rfl) (by kernel_rfl) ?_
        refine zE ?_
        refine q_next (pwp_seq (pwp_seq (r_reg ?_)))
        refine zE ?_
        refine q_next ?_
        rcases o_cond h98 with ⟨hb, h98⟩ | ⟨hb, h98⟩
        · refine zT hb ?_
          refine pwp_seq (r_reg ?_)
          refine zR 3 ?_
          obtain ⟨x103, h101, h98⟩ := o_bind h98
          refine zI h101 ?_
          refine zR 2 ?_
          obtain ⟨x104, h102, h98⟩ := o_bind h98
          refine p_app (tk := 100009) h102 (by kernel_rfl) (by kernel_rfl) ?_
          refine zE ?_
          refine q_next (pwp_exit (q_seq_exit (q_block_hit ?_)))
          cases h98
          exact zJ
        refine zU hb ?_
        refine pwp_skip (q_next (pwp_seq (r_reg ?_)))
        refine zR 2 ?_
        obtain ⟨j105, h103, h98⟩ := o_bind h98
        refine p_xix (tk := 33) (k := 4) (N := ((r102 : (List T_api_Segment)).map cellsOf).length) h103 (by kernel_rfl) ?_
        refine zR 1 ?_
        obtain ⟨x106, h104, h98⟩ := o_bind h98
        refine p_xld (L := (r102 : (List T_api_Segment))) (N := ((r102 : (List T_api_Segment)).map cellsOf).length) (j := j105) (y := x106) (v := .int .i64 x106.Speed) h104 false 1 3 (by kernel_rfl) (by kernel_rfl) ?_
        refine zR 2 ?_
        obtain ⟨j107, h105, h98⟩ := o_bind h98
        refine p_xix (tk := 33) (k := 4) (N := ((r102 : (List T_api_Segment)).map cellsOf).length) h105 (by kernel_rfl) ?_
        refine zR 1 ?_
        obtain ⟨x108, h106, h98⟩ := o_bind h98
        refine p_xst (L := (r102 : (List T_api_Segment))) (tk := 33) (N := ((r102 : (List T_api_Segment)).map cellsOf).length) (j := j107) (y := x108) (y' := (T_api_Segment.mk x108.From x108.To x108.Grade (min x106.Speed a3))) h106 3 1 [.int .i64 (min x106.Speed a3)] (by kernel_rfl) (by kernel_rfl) ?_
        refine zN ?_
        refine q_next (pwp_seq (r_reg ?_))
        refine zR 3 ?_
        obtain ⟨r109, h107, h98⟩ := o_bind h98
        refine p_call (d_ref10_Cut_ok _ _ _ r109 h107) (by kernel_rfl) (by kernel_rfl) ?_
        obtain ⟨x110, h108, h98⟩ := o_bind h98
        refine p_app (tk := 100009) h108 (by kernel_rfl) (by kernel_rfl) ?_
        refine zE ?_
        refine q_next (pwp_seq ?_)
        refine pwp_wkr (wkr_share (xss := ((r102.set j107 (T_api_Segment.mk x108.From x108.To x108.Grade (min x106.Speed a3))) : (List T_api_Segment)).map cellsOf) 33 4 32 (((r102 : (List T_api_Segment)).map cellsOf).length) [12, 33, 34, 44, 45] [] (by kernel_rfl) (by kernel_rfl) (by kernel_rfl) (by kernel_rfl)) ?_
        refine r_reg ?_
        refine zR 2 ?_
        obtain ⟨x111, h109, h98⟩ := o_bind h98
        refine p_app (tk := 100009) h109 (by kernel_rfl) (by kernel_rfl) ?_
        refine zE ?_
        refine q_next (r_reg ?_)
        refine zR 3 ?_
        obtain ⟨r112, h110, h98⟩ := o_bind h98
        refine p_call (d_ref10_Cut_ok _ _ _ r112 h110) (by kernel_rfl) (by kernel_rfl) ?_
        obtain ⟨x113, h111, h98⟩ := o_bind h98
        refine p_app (tk := 100009) h111 (by kernel_rfl) (by kernel_rfl) ?_
        refine zE ?_
        refine q_block ?_
        cases h98
        exact zJ
      rintro x100 rfl
      have h83 := o_outl h83
      refine r_reg ?_
      refine zE ?_
      cases h83
      exact zB
    refine zU hb ?_
    refine pwp_exit (q_seq_exit ?_)
    cases h83
    exact zX
  rintro x86 s' rfl hs
  have h := o_outl h
  refine q_block_hit ?_
  refine q_next (pwp_wkr hs ?_)
  refine pwp_seq (pwp_seq (r_reg ?_))
  refine zR 1 ?_
  refine p_len (L := (x86 : (List T_api_Segment))) (by kernel_rfl) ?_
  refine zE ?_
  refine q_next ?_
  rcases o_cond h with ⟨hb, h⟩ | ⟨hb, h⟩
  · refine zT hb ?_
    refine pwp_seq (r_reg ?_)
    refine zE ?_
    refine q_next (pwp_ret (q_seq_ret ?_))
    cases h
    exact zQ
  refine zU hb ?_
  refine pwp_skip (q_next (pwp_seq (r_reg ?_)))
  refine zE ?_
  refine q_next (pwp_ret ?_)
  cases h
  exact zQ

/-! signallingref43.Apply -/
noncomputable def d_ref43_Apply_1 (a1 : (List T_api_Step)) (a3 : T_api_Layout) (x85 : T_api_Restriction) : ((List T_api_Segment) × Int × Int) → Option (((List T_api_Segment) × Int × Int) ⊕ ((List T_api_Segment) ⊕ (((List T_api_Segment) × Int) ⊕ ((List T_api_Segment) ⊕ (List T_api_Segment))))) := fun (x97, x98, x99) =>
  bif decide (x99 < ((a1.length : Nat) : Int)) then (
    (ixO a1 x99).bind fun x112 =>
    onInl (α := (List T_api_Segment)) (β := (((List T_api_Segment) × Int × Int) ⊕ ((List T_api_Segment) ⊕ (((List T_api_Segment) × Int) ⊕ ((List T_api_Segment) ⊕ (List T_api_Segment)))))) (
      ((bif ((decide (x112.El = x85.El)) && x85.Active) then (
        (d_ref43_Check a3 x85).bind fun r119 =>
        some (decide (r119 = 0))
      ) else some false) : Option Bool).bind fun b118 =>
      bif b118 then (
        (d_ref43_Part a3 x112 x98 x85).bind fun r120 =>
        (d_ref10_Limit x97 r120.1 r120.2 x85.Speed).bind fun r121 =>
        some (.inl r121)
      ) else (
        some (.inl x97)
      )
    ) fun x117 =>
    (ixO a3.Elements x112.El).bind fun x122 =>
    some (.inl (x117, w64 (x98 + x122.Length), w64 (x99 + 1)))
  ) else (
    some (.inr (.inl x97))
  )

noncomputable def d_ref43_Apply_0 (a0 : (List T_api_Restriction)) (a1 : (List T_api_Step)) (a2 : Int) (a3 : T_api_Layout) : ((List T_api_Segment) × Int) → Option (((List T_api_Segment) × Int) ⊕ ((List T_api_Segment) ⊕ (List T_api_Segment))) := fun (x44, x45) =>
  bif decide (x45 < ((a0.length : Nat) : Int)) then (
    (ixO a0 x45).bind fun x85 =>
    onInl (α := (List T_api_Segment)) (β := (((List T_api_Segment) × Int) ⊕ ((List T_api_Segment) ⊕ (List T_api_Segment)))) (loopO (d_ref43_Apply_1 a1 a3 x85) (x44, a2, 0)) fun x111 =>
    some (.inl (x111, w64 (x45 + 1)))
  ) else (
    some (.inr (.inl x44))
  )

noncomputable def d_ref43_Apply (a0 : (List T_api_Restriction)) (a1 : (List T_api_Step)) (a2 : Int) (a3 : T_api_Layout) (a4 : (List T_api_Segment)) : Option (List T_api_Segment) :=
  (d_ref10_Valid a4).bind fun r1 =>
  ((bif (!r1) then some true else (
    (d_ref09_Valid a3 a1).bind fun r3 =>
    some (!r3)
  )) : Option Bool).bind fun b2 =>
  bif ((b2 || (decide (a2 < (-1073741824)))) || (decide (1073741824 < a2))) then (
    (appO ([] : (List T_api_Segment)) a4).bind fun x4 =>
    some x4
  ) else (
    (appO ([] : (List T_api_Segment)) a4).bind fun x5 =>
    onInl (α := (List T_api_Segment)) (β := (List T_api_Segment)) (loopO (d_ref43_Apply_0 a0 a1 a2 a3) (x5, 0)) fun x84 =>
    some x84
  )
theorem d_ref43_Apply_ok (a0 : (List T_api_Restriction)) (a1 : (List T_api_Step)) (a2 : Int) (a3 : T_api_Layout) (a4 : (List T_api_Segment)) (r : (List T_api_Segment)) (h : d_ref43_Apply a0 a1 a2 a3 a4 = some r) : PCall Go.Proofs.Tryd.prog GlS 26 [Enc.pv a0, Enc.pv a1, Enc.pv a2, Enc.pv a3, Enc.pv a4] (Enc.pv r) := by
  unfold d_ref43_Apply at h
  refine pcall_of_pwp Go.Proofs.Tryd.func26 (by rfl) rfl Go.Proofs.Tryd.ntmps26 (by rfl) rfl ?_
  refine pwp_seq (r_reg ?_)
  refine zE ?_
  refine q_next (pwp_seq (pwp_seq (r_reg ?_)))
  refine zR 1 ?_
  obtain ⟨r1, h1, h⟩ := o_bind h
  refine p_call (d_ref10_Valid_ok _ r1 h1) (by kernel_rfl) (by kernel_rfl) ?_
  obtain ⟨b2, h2, h⟩ := o_bind h
  refine zR 2 ?_
  refine e_seg 5 27 (.bool b2) ?_ ?_
  · rcases o_cond h2 with ⟨hb, h2⟩ | ⟨hb, h2⟩
    · refine zS 22 hb ?_
      cases h2
      exact zF
    refine zS 22 hb ?_
    refine zR 2 ?_
    obtain ⟨r3, h3, h2⟩ := o_bind h2
    refine p_call (d_ref09_Valid_ok _ _ r3 h3) (by kernel_rfl) (by kernel_rfl) ?_
    cases h2
    exact zF
  refine zR 1 ?_
  refine e_segb 3 31 (b2 || (decide (a2 < (-1073741824)))) (fun x hx => ?_) ?_
  · rcases b_or hx with ⟨hb, hx⟩ | ⟨hb, hx⟩
    · refine zS 28 hb ?_
      subst hx
      exact zF
    refine zS 28 hb ?_
    subst hx
    exact zF
  refine zR 1 ?_
  refine e_segb 3 35 ((b2 || (decide (a2 < (-1073741824)))) || (decide (1073741824 < a2))) (fun x hx => ?_) ?_
  · rcases b_or hx with ⟨hb, hx⟩ | ⟨hb, hx⟩
    · refine zS 32 hb ?_
      subst hx
      exact zF
    refine zS 32 hb ?_
    subst hx
    exact zF
  refine zN ?_
  refine q_next ?_
  rcases o_cond h with ⟨hb, h⟩ | ⟨hb, h⟩
  · refine zT hb ?_
    refine pwp_seq (r_reg ?_)
    refine zR 2 ?_
    obtain ⟨x4, h4, h⟩ := o_bind h
    refine p_appn (tk := 38) h4 (by kernel_rfl) ?_
    refine zE ?_
    refine q_next (pwp_ret (q_seq_ret ?_))
    cases h
    exact zQ
  refine zU hb ?_
  refine pwp_skip (q_next (pwp_seq (r_reg ?_)))
  refine zR 2 ?_
  obtain ⟨x5, h5, h⟩ := o_bind h
  refine p_appn (tk := 41) h5 (by kernel_rfl) ?_
  refine zE ?_
  refine q_next (pwp_seq (pwp_seq (r_reg ?_)))
  refine zR 1 ?_
  refine p_len (L := (a0 : (List T_api_Restriction))) (by kernel_rfl) ?_
  refine zE ?_
  refine q_next (pwp_block ?_)
  obtain ⟨o79, h79, h⟩ := o_inl h
  refine r_loop2 96 0 (fun (x44, x45) => ⟨[(1, lstOf .frozen (a1 : (List T_api_Step))), (2, .int .i64 a2), (8, .ref 8 0), (11, lstOf .frozen (x44 : (List T_api_Segment))), (42, lstOf .frozen (a0 : (List T_api_Restriction))), (43, .int .i64 ((a0.length : Nat) : Int)), (44, .int .i64 x45)], [(8, .cells (cellsOf a3))], [], []⟩) (fun x84 => ⟨[(11, lstOf .frozen (x84 : (List T_api_Segment)))], [], [], []⟩) h79 (by kernel_rfl) (fun _ => by kernel_rfl) ?_ ?_
  · rintro ⟨x44, x45⟩ oh78 h78
    unfold d_ref43_Apply_0 at h78
    refine pwp_seq (r_reg ?_)
    refine zE ?_
    refine q_next (pwp_seq ?_)
    rcases o_cond h78 with ⟨hb, h78⟩ | ⟨hb, h78⟩
    · refine zT hb ?_
      refine pwp_skip (q_next (pwp_seq (pwp_block (pwp_seq (r_reg ?_)))))
      obtain ⟨x85, h80, h78⟩ := o_bind h78
      refine zI h80 ?_
      refine zE ?_
      refine q_next (pwp_seq (r_reg ?_))
      refine zE ?_
      refine q_next (pwp_seq (r_reg ?_))
      refine zR 1 ?_
      refine p_len (L := (a1 : (List T_api_Step))) (by kernel_rfl) ?_
      refine zE ?_
      refine q_next (pwp_block ?_)
      obtain ⟨o104, h104, h78⟩ := o_inl h78
      refine r_loop2 96 2 (fun (x97, x98, x99) => ⟨[(1, lstOf .frozen (a1 : (List T_api_Step))), (2, .int .i64 a2), (8, .ref 8 0), (11, lstOf .frozen (x97 : (List T_api_Segment))), (13, .ref 13 0), (14, .int .i64 x98), (42, lstOf .frozen (a0 : (List T_api_Restriction))), (43, .int .i64 ((a0.length : Nat) : Int)), (44, .int .i64 x45), (49, lstOf .frozen (a1 : (List T_api_Step))), (50, .int .i64 ((a1.length : Nat) : Int)), (51, .int .i64 x99)], [(8, .cells (cellsOf a3)), (13, .cells (cellsOf x85))], [], []⟩) (fun x111 => ⟨[(1, lstOf .frozen (a1 : (List T_api_Step))), (2, .int .i64 a2), (8, .ref 8 0), (11, lstOf .frozen (x111 : (List T_api_Segment))), (42, lstOf .frozen (a0 : (List T_api_Restriction))), (43, .int .i64 ((a0.length : Nat) : Int)), (44, .int .i64 x45)], [(8, .cells (cellsOf a3))], [], []⟩) h104 (by kernel_rfl) (fun _ => by kernel_rfl) ?_ ?_
      · rintro ⟨x97, x98, x99⟩ oh103 h103
        unfold d_ref43_Apply_1 at h103
        refine pwp_seq (r_reg ?_)
        refine zE ?_
        refine q_next (pwp_seq ?_)
        rcases o_cond h103 with ⟨hb, h103⟩ | ⟨hb, h103⟩
        · refine zT hb ?_
          refine pwp_skip (q_next (pwp_seq (pwp_block (pwp_seq (r_reg ?_)))))
          obtain ⟨x112, h105, h103⟩ := o_bind h103
          refine zI h105 ?_
          refine zE ?_
          refine q_next ?_
          obtain ⟨o110, h110, h103⟩ := o_inl h103
          refine r_join (o := o110) 96 (fun x117 => ⟨[(1, lstOf .frozen (a1 : (List T_api_Step))), (2, .int .i64 a2), (8, .ref 8 0), (11, lstOf .frozen (x117 : (List T_api_Segment))), (13, .ref 13 0), (14, .int .i64 x98), (16, .ref 16 0), (42, lstOf .frozen (a0 : (List T_api_Restriction))), (43, .int .i64 ((a0.length : Nat) : Int)), (44, .int .i64 x45), (49, lstOf .frozen (a1 : (List T_api_Step))), (50, .int .i64 ((a1.length : Nat) : Int)), (51, .int .i64 x99)], [(8, .cells (cellsOf a3)), (13, .cells (cellsOf x85)), (16, .cells (cellsOf x112))], [], []⟩) ?_ ?_
          · refine pwp_seq (r_reg ?_)
            refine zR 6 ?_
            refine e_segb 3 63 ((decide (x112.El = x85.El)) && x85.Active) (fun x hx => ?_) ?_
            · rcases b_and hx with ⟨hb, hx⟩ | ⟨hb, hx⟩
              · refine zS 60 hb ?_
                subst hx
                exact zF
              refine zS 60 hb ?_
              subst hx
              exact zF
            obtain ⟨b118, h111, h110⟩ := o_bind h110
            refine zR 1 ?_
            refine e_seg 5 69 (.bool b118) ?_ ?_
            · rcases o_cond h111 with ⟨hb, h111⟩ | ⟨hb, h111⟩
              · refine zS 64 hb ?_
                refine zR 2 ?_
                obtain ⟨r119, h112, h111⟩ := o_bind h111
                refine p_call (d_ref43_Check_ok _ _ r119 h112) (by kernel_rfl) (by kernel_rfl) ?_
                cases h111
                exact zF
              refine zS 64 hb ?_
              cases h111
              exact zF
            refine zN ?_
            refine q_next ?_
            rcases o_cond h110 with ⟨hb, h110⟩ | ⟨hb, h110⟩
            · refine zT hb ?_
              refine pwp_seq (r_reg ?_)
              refine zR 4 ?_
              obtain ⟨r120, h113, h110⟩ := o_bind h110
              refine p_call (d_ref43_Part_ok _ _ _ _ r120 h113) (by kernel_rfl) (by kernel_rfl) ?_
              refine zE ?_
              refine q_next (r_reg ?_)
              refine zR 5 ?_
              obtain ⟨r121, h114, h110⟩ := o_bind h110
              refine p_call (d_ref10_Limit_ok _ _ _ _ r121 h114) (by kernel_rfl) (by kernel_rfl) ?_
              refine zE ?_
              cases h110
              exact zJ
            refine zU hb ?_
            refine pwp_skip ?_
            cases h110
            exact zJ
          rintro x117 rfl
          have h103 := o_outl h103
          refine r_reg ?_
          refine zR 5 ?_
          obtain ⟨x122, h115, h103⟩ := o_bind h103
          refine zI h115 ?_
          refine zE ?_
          refine q_block (q_next (r_reg ?_))
          refine zE ?_
          cases h103
          exact zB
        refine zU hb ?_
        refine pwp_exit (q_seq_exit ?_)
        cases h103
        exact zX
      rintro x111 s' rfl hs
      have h78 := o_outl h78
      refine q_block_hit (q_block ?_)
      refine q_next (pwp_wkr hs ?_)
      refine r_reg ?_
      refine zE ?_
      cases h78
      exact zB
    refine zU hb ?_
    refine pwp_exit (q_seq_exit ?_)
    cases h78
    exact zX
  rintro x84 s' rfl hs
  have h := o_outl h
  refine q_block_hit ?_
  refine q_next (pwp_wkr hs ?_)
  refine pwp_seq (r_reg ?_)
  refine zE ?_
  refine q_next (pwp_ret ?_)
  cases h
  exact zQ

/-! signallingref32.place -/
noncomputable def d_ref32_place (a0 : T_api_Element) (a1 : T_api_Step) (a2 : T_api_Balise) : Option Int :=
  bif decide (a1.In = 1) then (
    some (w64 (a0.Length - a2.Offset))
  ) else (
    some a2.Offset
  )
theorem d_ref32_place_ok (a0 : T_api_Element) (a1 : T_api_Step) (a2 : T_api_Balise) (r : Int) (h : d_ref32_place a0 a1 a2 = some r) : PCall Go.Proofs.Tryd.prog GlS 64 [Enc.pv a0, Enc.pv a1, Enc.pv a2] (Enc.pv r) := by
  unfold d_ref32_place at h
  refine pcall_of_pwp Go.Proofs.Tryd.func64 (by rfl) rfl Go.Proofs.Tryd.ntmps64 (by rfl) rfl ?_
  refine pwp_seq (r_reg ?_)
  refine zE ?_
  refine q_next (pwp_seq (pwp_seq (r_reg ?_)))
  refine zE ?_
  refine q_next ?_
  rcases o_cond h with ⟨hb, h⟩ | ⟨hb, h⟩
  · refine zT hb ?_
    refine pwp_seq (r_reg ?_)
    refine zE ?_
    refine q_next (pwp_ret (q_seq_ret ?_))
    cases h
    exact zQ
  refine zU hb ?_
  refine pwp_skip (q_next (pwp_seq (r_reg ?_)))
  refine zE ?_
  refine q_next (pwp_ret ?_)
  cases h
  exact zQ

/-! signallingref32.passes -/
noncomputable def d_ref32_passes (a0 : Int) (a1 : T_api_Step) : Option Bool :=
  some ((decide (a0 = 1)) || (decide ((w64 (a1.In + a1.Out)) = 1)))
theorem d_ref32_passes_ok (a0 : Int) (a1 : T_api_Step) (r : Bool) (h : d_ref32_passes a0 a1 = some r) : PCall Go.Proofs.Tryd.prog GlS 65 [Enc.pv a0, Enc.pv a1] (Enc.pv r) := by
  unfold d_ref32_passes at h
  refine pcall_of_pwp Go.Proofs.Tryd.func65 (by rfl) rfl Go.Proofs.Tryd.ntmps65 (by rfl) rfl ?_
  refine pwp_seq (r_reg ?_)
  refine zE ?_
  refine q_next (pwp_seq (r_reg ?_))
  refine zR 3 ?_
  refine e_segb 7 14 ((decide (a0 = 1)) || (decide ((w64 (a1.In + a1.Out)) = 1))) (fun x hx => ?_) ?_
  · rcases b_or hx with ⟨hb, hx⟩ | ⟨hb, hx⟩
    · refine zS 7 hb ?_
      subst hx
      exact zF
    refine zS 7 hb ?_
    subst hx
    exact zF
  refine zE ?_
  refine q_next (pwp_ret ?_)
  cases h
  exact zQ

/-! signallingref32.before -/
noncomputable def d_ref32_before (a0 : T_api_Linked) (a1 : T_api_Linked) : Option Bool :=
  some ((decide (a0.At < a1.At)) || ((decide (a0.At = a1.At)) && (decide (a0.Id < a1.Id))))
theorem d_ref32_before_ok (a0 : T_api_Linked) (a1 : T_api_Linked) (r : Bool) (h : d_ref32_before a0 a1 = some r) : PCall Go.Proofs.Tryd.prog GlS 85 [Enc.pv a0, Enc.pv a1] (Enc.pv r) := by
  unfold d_ref32_before at h
  refine pcall_of_pwp Go.Proofs.Tryd.func85 (by rfl) rfl Go.Proofs.Tryd.ntmps85 (by rfl) rfl ?_
  refine pwp_seq (r_reg ?_)
  refine zE ?_
  refine q_next (pwp_seq (r_reg ?_))
  refine zR 6 ?_
  refine e_segb 13 23 ((decide (a0.At < a1.At)) || ((decide (a0.At = a1.At)) && (decide (a0.Id < a1.Id)))) (fun x hx => ?_) ?_
  · rcases b_or hx with ⟨hb, hx⟩ | ⟨hb, hx⟩
    · refine zS 10 hb ?_
      subst hx
      exact zF
    refine zS 10 hb ?_
    refine zR 6 ?_
    refine f_segb 6 22 ((decide (a0.At = a1.At)) && (decide (a0.Id < a1.Id))) (fun x hx => ?_) ?_
    · rcases b_and hx with ⟨hb, hx⟩ | ⟨hb, hx⟩
      · refine zS 16 hb ?_
        subst hx
        exact zF
      refine zS 16 hb ?_
      subst hx
      exact zF
    subst hx
    exact zF
  refine zE ?_
  refine q_next (pwp_ret ?_)
  cases h
  exact zQ

/-! signallingref32.put -/
noncomputable def d_ref32_put_0 (a0 : (List T_api_Linked)) (a1 : T_api_Linked) : (Bool × Int × (List T_api_Linked)) → Option ((Bool × Int × (List T_api_Linked)) ⊕ (((List T_api_Linked) × Bool) ⊕ (List T_api_Linked))) := fun (x27, x28, x29) =>
  bif decide (x28 < ((a0.length : Nat) : Int)) then (
    onInl (α := ((List T_api_Linked) × Bool)) (β := ((Bool × Int × (List T_api_Linked)) ⊕ (((List T_api_Linked) × Bool) ⊕ (List T_api_Linked)))) (
      ((bif (!x27) then (
        (ixO a0 x28).bind fun x51 =>
        (d_ref32_before a1 x51).bind fun r52 =>
        some r52
      ) else some false) : Option Bool).bind fun b50 =>
      bif b50 then (
        (appO x29 [a1]).bind fun x53 =>
        some (.inl (x53, true))
      ) else (
        some (.inl (x29, x27))
      )
    ) fun (x48, x49) =>
    (ixO a0 x28).bind fun x54 =>
    (appO x48 [x54]).bind fun x55 =>
    some (.inl (x49, w64 (x28 + 1), x55))
  ) else (
    some (.inr (.inl (x29, x27)))
  )

noncomputable def d_ref32_put (a0 : (List T_api_Linked)) (a1 : T_api_Linked) : Option (List T_api_Linked) :=
  onInl (α := ((List T_api_Linked) × Bool)) (β := (List T_api_Linked)) (loopO (d_ref32_put_0 a0 a1) (false, 0, ([] : (List T_api_Linked)))) fun (x42, x43) =>
  onInl (α := (List T_api_Linked)) (β := (List T_api_Linked)) (
    bif (!x43) then (
      (appO x42 [a1]).bind fun x58 =>
      some (.inl x58)
    ) else (
      some (.inl x42)
    )
  ) fun x57 =>
  some x57
theorem d_ref32_put_ok (a0 : (List T_api_Linked)) (a1 : T_api_Linked) (r : (List T_api_Linked)) (h : d_ref32_put a0 a1 = some r) : PCall Go.Proofs.Tryd.prog GlS 66 [Enc.pv a0, Enc.pv a1] (lstOf (.own 100005) r) := by
  unfold d_ref32_put at h
  refine pcall_of_pwp Go.Proofs.Tryd.func66 (by rfl) rfl Go.Proofs.Tryd.ntmps66 (by rfl) rfl ?_
  refine pwp_seq (r_reg ?_)
  refine zE ?_
  refine q_next (pwp_seq (r_reg ?_))
  refine zE ?_
  refine q_next (pwp_seq (r_reg ?_))
  refine zE ?_
  refine q_next (pwp_seq (pwp_seq (r_reg ?_)))
  refine zE ?_
  refine q_next (pwp_block ?_)
  refine g_nil 5 100005 2 16 (by kernel_rfl) (by kernel_rfl) ?_
  obtain ⟨o35, h35, h⟩ := o_inl h
  refine r_loop2 42 0 (fun (x27, x28, x29) => ⟨[(0, lstOf .frozen (a0 : (List T_api_Linked))), (3, .ref 3 0), (5, lstOf (.own 100005) (x29 : (List T_api_Linked))), (6, .bool x27), (7, .int .i64 x28)], [(3, .cells (cellsOf a1))], [(100005, (((x29).map cellsOf).length, 2))], []⟩) (fun (x42, x43) => ⟨[(3, .ref 3 0), (5, lstOf (.own 100005) (x42 : (List T_api_Linked))), (6, .bool x43)], [(3, .cells (cellsOf a1))], [(100005, (((x42).map cellsOf).length, 2))], []⟩) h35 (by kernel_rfl) (fun _ => by kernel_rfl) ?_ ?_
  · rintro ⟨x27, x28, x29⟩ oh34 h34
    unfold d_ref32_put_0 at h34
    refine pwp_seq (pwp_seq (r_reg ?_))
    refine zR 2 ?_
    refine p_len (L := (a0 : (List T_api_Linked))) (by kernel_rfl) ?_
    refine zE ?_
    refine q_next ?_
    rcases o_cond h34 with ⟨hb, h34⟩ | ⟨hb, h34⟩
    · refine zT hb ?_
      refine pwp_skip (q_next (pwp_seq (pwp_block ?_)))
      obtain ⟨o40, h40, h34⟩ := o_inl h34
      refine r_join (o := o40) 42 (fun (x48, x49) => ⟨[(0, lstOf .frozen (a0 : (List T_api_Linked))), (3, .ref 3 0), (5, lstOf (.own 100005) (x48 : (List T_api_Linked))), (6, .bool x49), (7, .int .i64 x28)], [(3, .cells (cellsOf a1))], [(100005, (((x48).map cellsOf).length, 2))], []⟩) ?_ ?_
      · refine pwp_seq ?_
        refine r_regd (by kernel_rfl) (by kernel_rfl) ?_
        obtain ⟨b50, h41, h40⟩ := o_bind h40
        refine zR 3 ?_
        refine e_seg 7 23 (.bool b50) ?_ ?_
        · rcases o_cond h41 with ⟨hb, h41⟩ | ⟨hb, h41⟩
          · refine zS 16 hb ?_
            refine zR 3 ?_
            obtain ⟨x51, h42, h41⟩ := o_bind h41
            refine zI h42 ?_
            refine zR 1 ?_
            obtain ⟨r52, h43, h41⟩ := o_bind h41
            refine p_call (d_ref32_before_ok _ _ r52 h43) (by kernel_rfl) (by kernel_rfl) ?_
            cases h41
            exact zF
          refine zS 16 hb ?_
          cases h41
          exact zF
        refine zN ?_
        refine q_next ?_
        rcases o_cond h40 with ⟨hb, h40⟩ | ⟨hb, h40⟩
        · refine zT hb ?_
          refine pwp_seq (r_reg ?_)
          refine zR 3 ?_
          obtain ⟨x53, h44, h40⟩ := o_bind h40
          refine p_app (tk := 100005) h44 (by kernel_rfl) (by kernel_rfl) ?_
          refine zE ?_
          refine q_next (r_reg ?_)
          refine zE ?_
          cases h40
          exact zJ
        refine zU hb ?_
        refine pwp_skip ?_
        cases h40
        exact zJ
      rintro ⟨x48, x49⟩ rfl
      have h34 := o_outl h34
      refine r_reg ?_
      refine zR 3 ?_
      obtain ⟨x54, h45, h34⟩ := o_bind h34
      refine zI h45 ?_
      refine zR 2 ?_
      obtain ⟨x55, h46, h34⟩ := o_bind h34
      refine p_app (tk := 100005) h46 (by kernel_rfl) (by kernel_rfl) ?_
      refine zE ?_
      refine q_block (q_next (r_reg ?_))
      refine zE ?_
      cases h34
      exact zB
    refine zU hb ?_
    refine pwp_exit (q_seq_exit ?_)
    cases h34
    exact zX
  rintro ⟨x42, x43⟩ s' rfl hs
  have h := o_outl h
  refine q_block_hit ?_
  refine q_next (pwp_wkr hs ?_)
  obtain ⟨o48, h48, h⟩ := o_inl h
  refine r_join (o := o48) 42 (fun x57 => ⟨[(5, lstOf (.own 100005) (x57 : (List T_api_Linked)))], [], [(100005, (((x57).map cellsOf).length, 2))], []⟩) ?_ ?_
  · refine pwp_seq (r_reg ?_)
    refine zE ?_
    refine q_next ?_
    rcases o_cond h48 with ⟨hb, h48⟩ | ⟨hb, h48⟩
    · refine zT hb ?_
      refine r_reg ?_
      refine zR 3 ?_
      obtain ⟨x58, h49, h48⟩ := o_bind h48
      refine p_app (tk := 100005) h49 (by kernel_rfl) (by kernel_rfl) ?_
      refine zE ?_
      cases h48
      exact zJ
    refine zU hb ?_
    refine pwp_skip ?_
    cases h48
    exact zJ
  rintro x57 rfl
  have h := o_outl h
  refine pwp_seq (r_reg ?_)
  refine zE ?_
  refine q_next (pwp_ret ?_)
  cases h
  exact zQ
theorem d_ref32_put_fz (a0 : (List T_api_Linked)) (a1 : T_api_Linked) (r : (List T_api_Linked)) (h : d_ref32_put a0 a1 = some r) : PCall Go.Proofs.Tryd.prog GlS 66 [Enc.pv a0, Enc.pv a1] (Enc.pv r) :=
  (d_ref32_put_ok a0 a1 r h).freeze (by kernel_rfl) (by kernel_rfl) (by kernel_rfl)

/-! signallingref32.Of -/
noncomputable def d_ref32_Of_1 (a0 : T_api_Layout) (a1 : (List T_api_Step)) (a3 : Int) (x134 : Int) (x135 : Int) (x195 : T_api_Element) : ((List T_api_Linked) × Int) → Option (((List T_api_Linked) × Int) ⊕ ((List T_api_Linked) ⊕ ((Int × Int × (List T_api_Linked)) ⊕ ((List T_api_Linked) ⊕ (List T_api_Linked))))) := fun (x213, x214) =>
  bif decide (x214 < ((a0.Balises.length : Nat) : Int)) then (
    onInl (α := (List T_api_Linked)) (β := (((List T_api_Linked) × Int) ⊕ ((List T_api_Linked) ⊕ ((Int × Int × (List T_api_Linked)) ⊕ ((List T_api_Linked) ⊕ (List T_api_Linked)))))) (
      (ixO a0.Balises x214).bind fun x242 =>
      (ixO a1 x135).bind fun x243 =>
      (d_ref32_place x195 x243 x242).bind fun r244 =>
      (ixO a1 x135).bind fun x245 =>
      ((bif decide (x242.El = x245.El) then (
        (ixO a1 x135).bind fun x247 =>
        (d_ref32_passes x195.Kind x247).bind fun r248 =>
        some r248
      ) else some false) : Option Bool).bind fun b246 =>
      bif (b246 && (decide ((w64 (x134 + r244)) ≤ a3))) then (
        (d_ref32_put x213 (T_api_Linked.mk x242.Id (w64 (x134 + r244)))).bind fun r249 =>
        some (.inl r249)
      ) else (
        some (.inl x213)
      )
    ) fun x241 =>
    some (.inl (x241, w64 (x214 + 1)))
  ) else (
    some (.inr (.inl x213))
  )

noncomputable def d_ref32_Of_0 (a0 : T_api_Layout) (a1 : (List T_api_Step)) (a3 : Int) : (Int × Int × (List T_api_Linked)) → Option ((Int × Int × (List T_api_Linked)) ⊕ ((List T_api_Linked) ⊕ (List T_api_Linked))) := fun (x134, x135, x136) =>
  bif decide (x135 < ((a1.length : Nat) : Int)) then (
    (ixO a1 x135).bind fun x194 =>
    (ixO a0.Elements x194.El).bind fun x195 =>
    onInl (α := (List T_api_Linked)) (β := ((Int × Int × (List T_api_Linked)) ⊕ ((List T_api_Linked) ⊕ (List T_api_Linked)))) (loopO (d_ref32_Of_1 a0 a1 a3 x134 x135 x195) (x136, 0)) fun x232 =>
    some (.inl (w64 (x134 + x195.Length), w64 (x135 + 1), x232))
  ) else (
    some (.inr (.inl x136))
  )

noncomputable def d_ref32_Of (a0 : T_api_Layout) (a1 : (List T_api_Step)) (a2 : Int) (a3 : Int) : Option (List T_api_Linked) :=
  (d_ref09_Valid a0 a1).bind fun r1 =>
  bif (!r1) then (
    some ([] : (List T_api_Linked))
  ) else (
    onInl (α := (List T_api_Linked)) (β := (List T_api_Linked)) (loopO (d_ref32_Of_0 a0 a1 a3) (a2, 0, ([] : (List T_api_Linked)))) fun x193 =>
    some x193
  )
theorem d_ref32_Of_ok (a0 : T_api_Layout) (a1 : (List T_api_Step)) (a2 : Int) (a3 : Int) (r : (List T_api_Linked)) (h : d_ref32_Of a0 a1 a2 a3 = some r) : PCall Go.Proofs.Tryd.prog GlS 29 [Enc.pv a0, Enc.pv a1, Enc.pv a2, Enc.pv a3] (Enc.pv r) := by
  unfold d_ref32_Of at h
  refine pcall_of_pwp Go.Proofs.Tryd.func29 (by rfl) rfl Go.Proofs.Tryd.ntmps29 (by rfl) rfl ?_
  refine pwp_seq (r_reg ?_)
  refine zE ?_
  refine q_next (pwp_seq (pwp_seq (r_reg ?_)))
  refine zR 2 ?_
  obtain ⟨r1, h1, h⟩ := o_bind h
  refine p_call (d_ref09_Valid_ok _ _ r1 h1) (by kernel_rfl) (by kernel_rfl) ?_
  refine zE ?_
  refine q_next ?_
  rcases o_cond h with ⟨hb, h⟩ | ⟨hb, h⟩
  · refine zT hb ?_
    refine pwp_seq (r_reg ?_)
    refine zE ?_
    refine q_next (pwp_ret (q_seq_ret ?_))
    cases h
    exact zQ
  refine zU hb ?_
  refine pwp_skip (q_next (pwp_seq (r_reg ?_)))
  refine zE ?_
  refine q_next (pwp_seq (r_reg ?_))
  refine zE ?_
  refine q_next (pwp_seq (pwp_seq (r_reg ?_)))
  refine zE ?_
  refine q_next (pwp_block ?_)
  obtain ⟨o185, h185, h⟩ := o_inl h
  refine r_loop2 91 0 (fun (x134, x135, x136) => ⟨[(1, lstOf .frozen (a1 : (List T_api_Step))), (3, .int .i64 a3), (4, .ref 4 0), (9, lstOf .frozen (x136 : (List T_api_Linked))), (10, .int .i64 x134), (11, .int .i64 x135)], [(4, .cells (cellsOf a0))], [], []⟩) (fun x193 => ⟨[(9, lstOf .frozen (x193 : (List T_api_Linked)))], [], [], []⟩) h185 (by kernel_rfl) (fun _ => by kernel_rfl) ?_ ?_
  · rintro ⟨x134, x135, x136⟩ oh184 h184
    unfold d_ref32_Of_0 at h184
    refine pwp_seq (pwp_seq (r_reg ?_))
    refine zR 2 ?_
    refine p_len (L := (a1 : (List T_api_Step))) (by kernel_rfl) ?_
    refine zE ?_
    refine q_next ?_
    rcases o_cond h184 with ⟨hb, h184⟩ | ⟨hb, h184⟩
    · refine zT hb ?_
      refine pwp_skip (q_next (pwp_seq (pwp_block (pwp_seq ?_))))
      refine r_regd (by kernel_rfl) (by kernel_rfl) ?_
      refine zR 4 ?_
      obtain ⟨x194, h186, h184⟩ := o_bind h184
      refine zI h186 ?_
      refine zR 2 ?_
      obtain ⟨x195, h187, h184⟩ := o_bind h184
      refine zI h187 ?_
      refine zE ?_
      refine q_next (pwp_seq (pwp_seq (r_reg ?_)))
      refine zE ?_
      refine q_next (pwp_block ?_)
      obtain ⟨o223, h223, h184⟩ := o_inl h184
      refine r_loop2 91 2 (fun (x213, x214) => ⟨[(1, lstOf .frozen (a1 : (List T_api_Step))), (3, .int .i64 a3), (4, .ref 4 0), (9, lstOf .frozen (x213 : (List T_api_Linked))), (10, .int .i64 x134), (11, .int .i64 x135), (12, .ref 12 0), (13, .int .i64 x214)], [(4, .cells (cellsOf a0)), (12, .cells (cellsOf x195))], [], []⟩) (fun x232 => ⟨[(1, lstOf .frozen (a1 : (List T_api_Step))), (3, .int .i64 a3), (4, .ref 4 0), (9, lstOf .frozen (x232 : (List T_api_Linked))), (10, .int .i64 x134), (11, .int .i64 x135), (12, .ref 12 0)], [(4, .cells (cellsOf a0)), (12, .cells (cellsOf x195))], [], []⟩) h223 (by kernel_rfl) (fun _ => by kernel_rfl) ?_ ?_
      · rintro ⟨x213, x214⟩ oh222 h222
        unfold d_ref32_Of_1 at h222
        refine pwp_seq (pwp_seq (r_reg ?_))
        refine zR 3 ?_
        refine p_len (L := (a0.Balises : (List T_api_Balise))) (by kernel_rfl) ?_
        refine zE ?_
        refine q_next ?_
        rcases o_cond h222 with ⟨hb, h222⟩ | ⟨hb, h222⟩
        · refine zT hb ?_
          refine pwp_skip (q_next ?_)
          obtain ⟨o232, h232, h222⟩ := o_inl h222
          refine r_join (o := o232) 91 (fun x241 => ⟨[(1, lstOf .frozen (a1 : (List T_api_Step))), (3, .int .i64 a3), (4, .ref 4 0), (9, lstOf .frozen (x241 : (List T_api_Linked))), (10, .int .i64 x134), (11, .int .i64 x135), (12, .ref 12 0), (13, .int .i64 x214)], [(4, .cells (cellsOf a0)), (12, .cells (cellsOf x195))], [], []⟩) ?_ ?_
          · refine pwp_block (pwp_seq (r_reg ?_))
            refine zR 3 ?_
            obtain ⟨x242, h233, h232⟩ := o_bind h232
            refine zI h233 ?_
            refine zE ?_
            refine q_next (pwp_seq ?_)
            refine r_regd (by kernel_rfl) (by kernel_rfl) ?_
            refine zR 6 ?_
            obtain ⟨x243, h234, h232⟩ := o_bind h232
            refine zI h234 ?_
            refine zR 2 ?_
            obtain ⟨r244, h235, h232⟩ := o_bind h232
            refine p_call (d_ref32_place_ok _ _ _ r244 h235) (by kernel_rfl) (by kernel_rfl) ?_
            refine zE ?_
            refine q_next (pwp_seq ?_)
            refine r_regd (by kernel_rfl) (by kernel_rfl) ?_
            refine zR 4 ?_
            obtain ⟨x245, h236, h232⟩ := o_bind h232
            refine zI h236 ?_
            obtain ⟨b246, h237, h232⟩ := o_bind h232
            refine zR 4 ?_
            refine e_seg 8 76 (.bool b246) ?_ ?_
            · rcases o_cond h237 with ⟨hb, h237⟩ | ⟨hb, h237⟩
              · refine zS 68 hb ?_
                refine zR 4 ?_
                obtain ⟨x247, h238, h237⟩ := o_bind h237
                refine zI h238 ?_
                refine zR 1 ?_
                obtain ⟨r248, h239, h237⟩ := o_bind h237
                refine p_call (d_ref32_passes_ok _ _ r248 h239) (by kernel_rfl) (by kernel_rfl) ?_
                cases h237
                exact zF
              refine zS 68 hb ?_
              cases h237
              exact zF
            refine zR 1 ?_
            refine e_segb 5 82 (b246 && (decide ((w64 (x134 + r244)) ≤ a3))) (fun x hx => ?_) ?_
            · rcases b_and hx with ⟨hb, hx⟩ | ⟨hb, hx⟩
              · refine zS 77 hb ?_
                subst hx
                exact zF
              refine zS 77 hb ?_
              subst hx
              exact zF
            refine zN ?_
            refine q_next ?_
            rcases o_cond h232 with ⟨hb, h232⟩ | ⟨hb, h232⟩
            · refine zT hb ?_
              refine r_reg ?_
              refine zR 2 ?_
              obtain ⟨r249, h240, h232⟩ := o_bind h232
              refine p_call (d_ref32_put_ok _ _ r249 h240) (by kernel_rfl) (by kernel_rfl) ?_
              refine zE ?_
              refine q_block ?_
              cases h232
              exact zJ
            refine zU hb ?_
            refine pwp_skip (q_block ?_)
            cases h232
            exact zJ
          rintro x241 rfl
          have h222 := o_outl h222
          refine r_reg ?_
          refine zE ?_
          cases h222
          exact zB
        refine zU hb ?_
        refine pwp_exit (q_seq_exit ?_)
        cases h222
        exact zX
      rintro x232 s' rfl hs
      have h184 := o_outl h184
      refine q_block_hit ?_
      refine q_next (pwp_wkr hs ?_)
      refine r_reg ?_
      refine zE ?_
      refine q_block (q_next (r_reg ?_))
      refine zE ?_
      cases h184
      exact zB
    refine zU hb ?_
    refine pwp_exit (q_seq_exit ?_)
    cases h184
    exact zX
  rintro x193 s' rfl hs
  have h := o_outl h
  refine q_block_hit ?_
  refine q_next (pwp_wkr hs ?_)
  refine pwp_seq (r_reg ?_)
  refine zE ?_
  refine q_next (pwp_ret ?_)
  cases h
  exact zQ

/-! signallingref32.Valid -/
noncomputable def d_ref32_Valid_1 (a0 : (List T_api_Linked)) (x12 : Int) : Int → Option (Int ⊕ (Unit ⊕ (Int ⊕ (Unit ⊕ Bool)))) := fun x30 =>
  bif decide (x30 < x12) then (
    (ixO a0 x30).bind fun x33 =>
    (ixO a0 x12).bind fun x34 =>
    bif decide (x33.Id = x34.Id) then (
      some (.inr (.inr (.inr (.inr false))))
    ) else (
      some (.inl (w64 (x30 + 1)))
    )
  ) else (
    some (.inr (.inl ()))
  )

noncomputable def d_ref32_Valid_0 (a0 : (List T_api_Linked)) : Int → Option (Int ⊕ (Unit ⊕ Bool)) := fun x12 =>
  ((bif decide (x12 < ((a0.length : Nat) : Int)) then (
    some (decide (((a0.length : Nat) : Int) ≤ 24))
  ) else some false) : Option Bool).bind fun b24 =>
  bif b24 then (
    ((bif decide (0 < x12) then (
      (ixO a0 x12).bind fun x26 =>
      (ixO a0 (w64 (x12 - 1))).bind fun x27 =>
      some (decide (x26.At < x27.At))
    ) else some false) : Option Bool).bind fun b25 =>
    bif b25 then (
      some (.inr (.inr false))
    ) else (
      onInl (α := Unit) (β := (Int ⊕ (Unit ⊕ Bool))) (loopO (d_ref32_Valid_1 a0 x12) 0) fun _ =>
      some (.inl (w64 (x12 + 1)))
    )
  ) else (
    some (.inr (.inl ()))
  )

noncomputable def d_ref32_Valid (a0 : (List T_api_Linked)) : Option Bool :=
  onInl (α := Unit) (β := Bool) (loopO (d_ref32_Valid_0 a0) 0) fun _ =>
  some (decide (((a0.length : Nat) : Int) ≤ 24))
theorem d_ref32_Valid_ok (a0 : (List T_api_Linked)) (r : Bool) (h : d_ref32_Valid a0 = some r) : PCall Go.Proofs.Tryd.prog GlS 67 [Enc.pv a0] (Enc.pv r) := by
  unfold d_ref32_Valid at h
  refine pcall_of_pwp Go.Proofs.Tryd.func67 (by rfl) rfl Go.Proofs.Tryd.ntmps67 (by rfl) rfl ?_
  refine pwp_seq (r_reg ?_)
  refine zE ?_
  refine q_next (pwp_seq (pwp_seq (r_reg ?_)))
  refine zE ?_
  refine q_next (pwp_block ?_)
  obtain ⟨o40, h40, h⟩ := o_inl h
  refine r_loop2 51 0 (fun x12 => ⟨[(0, lstOf .frozen (a0 : (List T_api_Linked))), (3, .int .i64 x12)], [], [], []⟩) (fun (_ : Unit) => ⟨[(0, lstOf .frozen (a0 : (List T_api_Linked)))], [], [], []⟩) h40 (by kernel_rfl) (fun _ => by kernel_rfl) ?_ ?_
  · rintro x12 oh39 h39
    unfold d_ref32_Valid_0 at h39
    refine pwp_seq (pwp_seq (r_reg ?_))
    refine zR 2 ?_
    refine p_len (L := (a0 : (List T_api_Linked))) (by kernel_rfl) ?_
    obtain ⟨b24, h41, h39⟩ := o_bind h39
    refine zR 2 ?_
    refine e_seg 4 13 (.bool b24) ?_ ?_
    · rcases o_cond h41 with ⟨hb, h41⟩ | ⟨hb, h41⟩
      · refine zS 9 hb ?_
        refine zR 1 ?_
        refine p_len (L := (a0 : (List T_api_Linked))) (by kernel_rfl) ?_
        cases h41
        exact zF
      refine zS 9 hb ?_
      cases h41
      exact zF
    refine zN ?_
    refine q_next ?_
    rcases o_cond h39 with ⟨hb, h39⟩ | ⟨hb, h39⟩
    · refine zT hb ?_
      refine pwp_skip (q_next (pwp_seq (pwp_block (pwp_seq (pwp_seq ?_)))))
      refine r_regd (by kernel_rfl) (by kernel_rfl) ?_
      obtain ⟨b25, h42, h39⟩ := o_bind h39
      refine zR 3 ?_
      refine e_seg 13 31 (.bool b25) ?_ ?_
      · rcases o_cond h42 with ⟨hb, h42⟩ | ⟨hb, h42⟩
        · refine zS 18 hb ?_
          refine zR 2 ?_
          obtain ⟨x26, h43, h42⟩ := o_bind h42
          refine zI h43 ?_
          refine zR 5 ?_
          obtain ⟨x27, h44, h42⟩ := o_bind h42
          refine zI h44 ?_
          cases h42
          exact zF
        refine zS 18 hb ?_
        cases h42
        exact zF
      refine zN ?_
      refine q_next ?_
      rcases o_cond h39 with ⟨hb, h39⟩ | ⟨hb, h39⟩
      · refine zT hb ?_
        refine pwp_seq (r_reg ?_)
        refine zE ?_
        refine q_next (pwp_ret (q_seq_ret (q_block_ret (q_seq_ret ?_))))
        cases h39
        refine q_lout_ret fun he => ?_
        subst he
        have h45 := o_outr h
        refine q_block_ret (q_seq_ret ?_)
        cases h45
        exact zQ
      refine zU hb ?_
      refine pwp_skip (q_next (pwp_seq (r_reg ?_)))
      refine zE ?_
      refine q_next (pwp_block ?_)
      obtain ⟨o55, h55, h39⟩ := o_inl h39
      refine r_loop2 51 2 (fun x30 => ⟨[(0, lstOf .frozen (a0 : (List T_api_Linked))), (3, .int .i64 x12), (4, .int .i64 x30)], [], [], []⟩) (fun (_ : Unit) => ⟨[(0, lstOf .frozen (a0 : (List T_api_Linked))), (3, .int .i64 x12)], [], [], []⟩) h55 (by kernel_rfl) (fun _ => by kernel_rfl) ?_ ?_
      · rintro x30 oh54 h54
        unfold d_ref32_Valid_1 at h54
        refine pwp_seq (pwp_seq (r_reg ?_))
        refine zE ?_
        refine q_next ?_
        rcases o_cond h54 with ⟨hb, h54⟩ | ⟨hb, h54⟩
        · refine zT hb ?_
          refine pwp_skip (q_next (pwp_seq (pwp_block (pwp_seq ?_))))
          refine r_regd (by kernel_rfl) (by kernel_rfl) ?_
          refine zR 2 ?_
          obtain ⟨x33, h56, h54⟩ := o_bind h54
          refine zI h56 ?_
          refine zR 4 ?_
          obtain ⟨x34, h57, h54⟩ := o_bind h54
          refine zI h57 ?_
          refine zE ?_
          refine q_next ?_
          rcases o_cond h54 with ⟨hb, h54⟩ | ⟨hb, h54⟩
          · refine zT hb ?_
            refine pwp_seq (r_reg ?_)
            refine zE ?_
            refine q_next (pwp_ret (q_block_ret (q_seq_ret ?_)))
            cases h54
            refine q_lout_ret fun he => ?_
            subst he
            have h58 := o_outr h39
            refine q_block_ret (q_block_ret (q_seq_ret ?_))
            cases h58
            refine q_lout_ret fun he => ?_
            subst he
            have h59 := o_outr h
            refine q_block_ret (q_seq_ret ?_)
            cases h59
            exact zQ
          refine zU hb ?_
          refine pwp_skip (q_block (q_next (r_reg ?_)))
          refine zE ?_
          cases h54
          exact zB
        refine zU hb ?_
        refine pwp_exit (q_seq_exit ?_)
        cases h54
        exact zX
      rintro _ s' rfl hs
      have h39 := o_outl h39
      refine q_block_hit (q_block ?_)
      refine q_next (pwp_wkr hs ?_)
      refine r_reg ?_
      refine zE ?_
      cases h39
      exact zB
    refine zU hb ?_
    refine pwp_exit (q_seq_exit ?_)
    cases h39
    exact zX
  rintro _ s' rfl hs
  have h := o_outl h
  refine q_block_hit ?_
  refine q_next (pwp_wkr hs ?_)
  refine pwp_seq (r_reg ?_)
  refine zR 1 ?_
  refine p_len (L := (a0 : (List T_api_Linked))) (by kernel_rfl) ?_
  refine zE ?_
  refine q_next (pwp_ret ?_)
  cases h
  exact zQ

/-! signallingref45.Valid -/
noncomputable def d_ref45_Valid (a0 : T_api_Authority) : Option Bool :=
  ((bif ((decide (1 ≤ a0.Seq)) && (decide (a0.Seq ≤ 1073741824))) then (
    (d_ref10_Valid a0.Profile).bind fun r2 =>
    some r2
  ) else some false) : Option Bool).bind fun b1 =>
  ((bif (b1 && (decide (0 < ((a0.Profile.length : Nat) : Int)))) then (
    (ixO a0.Profile (w64 (((a0.Profile.length : Nat) : Int) - 1))).bind fun x4 =>
    some (decide (x4.To = a0.End))
  ) else some false) : Option Bool).bind fun b3 =>
  ((bif b3 then (
    (d_ref32_Valid a0.Links).bind fun r6 =>
    some r6
  ) else some false) : Option Bool).bind fun b5 =>
  some b5
theorem d_ref45_Valid_ok (a0 : T_api_Authority) (r : Bool) (h : d_ref45_Valid a0 = some r) : PCall Go.Proofs.Tryd.prog GlS 30 [Enc.pv a0] (Enc.pv r) := by
  unfold d_ref45_Valid at h
  refine pcall_of_pwp Go.Proofs.Tryd.func30 (by rfl) rfl Go.Proofs.Tryd.ntmps30 (by rfl) rfl ?_
  refine pwp_seq (r_reg ?_)
  refine zE ?_
  refine q_next (pwp_seq (r_reg ?_))
  refine zR 2 ?_
  refine p_len (L := (a0.Profile : (List T_api_Segment))) (by kernel_rfl) ?_
  refine zE ?_
  refine q_next (pwp_seq ?_)
  refine r_regd (by kernel_rfl) (by kernel_rfl) ?_
  refine zR 4 ?_
  refine e_segb 4 14 ((decide (1 ≤ a0.Seq)) && (decide (a0.Seq ≤ 1073741824))) (fun x hx => ?_) ?_
  · rcases b_and hx with ⟨hb, hx⟩ | ⟨hb, hx⟩
    · refine zS 10 hb ?_
      subst hx
      exact zF
    refine zS 10 hb ?_
    subst hx
    exact zF
  obtain ⟨b1, h1, h⟩ := o_bind h
  refine zR 1 ?_
  refine e_seg 4 19 (.bool b1) ?_ ?_
  · rcases o_cond h1 with ⟨hb, h1⟩ | ⟨hb, h1⟩
    · refine zS 15 hb ?_
      refine zR 2 ?_
      obtain ⟨r2, h2, h1⟩ := o_bind h1
      refine p_call (d_ref10_Valid_ok _ r2 h2) (by kernel_rfl) (by kernel_rfl) ?_
      cases h1
      exact zF
    refine zS 15 hb ?_
    cases h1
    exact zF
  refine zR 1 ?_
  refine e_segb 3 23 (b1 && (decide (0 < ((a0.Profile.length : Nat) : Int)))) (fun x hx => ?_) ?_
  · rcases b_and hx with ⟨hb, hx⟩ | ⟨hb, hx⟩
    · refine zS 20 hb ?_
      subst hx
      exact zF
    refine zS 20 hb ?_
    subst hx
    exact zF
  obtain ⟨b3, h3, h⟩ := o_bind h
  refine zR 1 ?_
  refine e_seg 11 35 (.bool b3) ?_ ?_
  · rcases o_cond h3 with ⟨hb, h3⟩ | ⟨hb, h3⟩
    · refine zS 24 hb ?_
      refine zR 4 ?_
      obtain ⟨x4, h4, h3⟩ := o_bind h3
      refine zI h4 ?_
      cases h3
      exact zF
    refine zS 24 hb ?_
    cases h3
    exact zF
  obtain ⟨b5, h5, h⟩ := o_bind h
  refine zR 1 ?_
  refine e_seg 4 40 (.bool b5) ?_ ?_
  · rcases o_cond h5 with ⟨hb, h5⟩ | ⟨hb, h5⟩
    · refine zS 36 hb ?_
      refine zR 2 ?_
      obtain ⟨r6, h6, h5⟩ := o_bind h5
      refine p_call (d_ref32_Valid_ok _ r6 h6) (by kernel_rfl) (by kernel_rfl) ?_
      cases h5
      exact zF
    refine zS 36 hb ?_
    cases h5
    exact zF
  refine zE ?_
  refine q_next (pwp_ret ?_)
  cases h
  exact zQ

/-! signallingref45.Build -/
noncomputable def d_ref45_Build (a0 : T_api_Layout) (a1 : T_api_Track) (a2 : (List T_api_Restriction)) (a3 : Int) : Option (T_api_Authority × Int) :=
  (d_ref09_Valid a0 a1.Steps).bind fun r1 =>
  bif (((!r1) || (decide (a3 < 1))) || (decide (1073741824 < a3))) then (
    some ((T_api_Authority.mk 0 0 [] []), 1)
  ) else (
    (d_ref10_Of a0 a1.Steps a1.Origin).bind fun r2 =>
    (d_ref43_Apply a2 a1.Steps a1.Origin a0 r2).bind fun r3 =>
    (d_ref10_Cut r3 a1.Origin a1.At).bind fun r4 =>
    (d_ref32_Of a0 a1.Steps a1.Origin a1.At).bind fun r5 =>
    (d_ref45_Valid (T_api_Authority.mk a3 a1.At r4 r5)).bind fun r6 =>
    bif (!r6) then (
      some ((T_api_Authority.mk 0 0 [] []), 2)
    ) else (
      some ((T_api_Authority.mk a3 a1.At r4 r5), 0)
    )
  )
theorem d_ref45_Build_ok (a0 : T_api_Layout) (a1 : T_api_Track) (a2 : (List T_api_Restriction)) (a3 : Int) (r : (T_api_Authority × Int)) (h : d_ref45_Build a0 a1 a2 a3 = some r) : PCall Go.Proofs.Tryd.prog GlS 10 [Enc.pv a0, Enc.pv a1, Enc.pv a2, Enc.pv a3] (.tup [Enc.pv r.1, Enc.pv r.2]) := by
  unfold d_ref45_Build at h
  refine pcall_of_pwp Go.Proofs.Tryd.func10 (by rfl) rfl Go.Proofs.Tryd.ntmps10 (by rfl) rfl ?_
  refine pwp_seq (r_reg ?_)
  refine zE ?_
  refine q_next (pwp_seq (pwp_seq (r_reg ?_)))
  refine zR 3 ?_
  obtain ⟨r1, h1, h⟩ := o_bind h
  refine p_call (d_ref09_Valid_ok _ _ r1 h1) (by kernel_rfl) (by kernel_rfl) ?_
  refine zR 2 ?_
  refine e_segb 3 20 ((!r1) || (decide (a3 < 1))) (fun x hx => ?_) ?_
  · rcases b_or hx with ⟨hb, hx⟩ | ⟨hb, hx⟩
    · refine zS 17 hb ?_
      subst hx
      exact zF
    refine zS 17 hb ?_
    subst hx
    exact zF
  refine zR 1 ?_
  refine e_segb 3 24 (((!r1) || (decide (a3 < 1))) || (decide (1073741824 < a3))) (fun x hx => ?_) ?_
  · rcases b_or hx with ⟨hb, hx⟩ | ⟨hb, hx⟩
    · refine zS 21 hb ?_
      subst hx
      exact zF
    refine zS 21 hb ?_
    subst hx
    exact zF
  refine zN ?_
  refine q_next ?_
  rcases o_cond h with ⟨hb, h⟩ | ⟨hb, h⟩
  · refine zT hb ?_
    refine pwp_seq (r_reg ?_)
    refine zE ?_
    refine q_next (pwp_ret (q_seq_ret ?_))
    cases h
    exact zQ
  refine zU hb ?_
  refine pwp_skip (q_next (pwp_seq ?_))
  refine r_regd (by kernel_rfl) (by kernel_rfl) ?_
  refine zR 11 ?_
  obtain ⟨r2, h2, h⟩ := o_bind h
  refine p_call (d_ref10_Of_ok _ _ _ r2 h2) (by kernel_rfl) (by kernel_rfl) ?_
  obtain ⟨r3, h3, h⟩ := o_bind h
  refine p_call (d_ref43_Apply_ok _ _ _ _ _ r3 h3) (by kernel_rfl) (by kernel_rfl) ?_
  refine zE ?_
  refine q_next (pwp_seq ?_)
  refine r_regd (by kernel_rfl) (by kernel_rfl) ?_
  refine zR 8 ?_
  obtain ⟨r4, h4, h⟩ := o_bind h
  refine p_call (d_ref10_Cut_fz _ _ _ r4 h4) (by kernel_rfl) (by kernel_rfl) ?_
  refine zR 7 ?_
  obtain ⟨r5, h5, h⟩ := o_bind h
  refine p_call (d_ref32_Of_ok _ _ _ _ r5 h5) (by kernel_rfl) (by kernel_rfl) ?_
  refine zE ?_
  refine q_next (pwp_seq (pwp_seq (r_reg ?_)))
  refine zR 1 ?_
  obtain ⟨r6, h6, h⟩ := o_bind h
  refine p_call (d_ref45_Valid_ok _ r6 h6) (by kernel_rfl) (by kernel_rfl) ?_
  refine zE ?_
  refine q_next ?_
  rcases o_cond h with ⟨hb, h⟩ | ⟨hb, h⟩
  · refine zT hb ?_
    refine pwp_seq (r_reg ?_)
    refine zE ?_
    refine q_next (pwp_ret (q_seq_ret ?_))
    cases h
    exact zQ
  refine zU hb ?_
  refine pwp_skip (q_next (pwp_seq (r_reg ?_)))
  refine zE ?_
  refine q_next (pwp_ret ?_)
  cases h
  exact zQ

/-! signallinglaw45.AuthorityBuilds -/
noncomputable def d_law45_AuthorityBuilds (a0 : T_api_Layout) (a1 : T_api_Track) (a2 : (List T_api_Restriction)) (a3 : Int) : Option Bool :=
  (d_law45_modest a1 a2).bind fun r1 =>
  ((bif (!r1) then some true else (
    (d_law45_fine a0 a1).bind fun r3 =>
    some (!r3)
  )) : Option Bool).bind fun b2 =>
  bif b2 then (
    (d_law45_alive ).bind fun r4 =>
    some r4
  ) else (
    (d_authority_Build a0 a1 a2 a3).bind fun r5 =>
    (d_ref45_Build a0 a1 a2 a3).bind fun r6 =>
    (d_ref45_Same r5.1 r6.1).bind fun r7 =>
    ((bif (r7 && (decide (r5.2 = r6.2))) then (
      (d_law45_alive ).bind fun r9 =>
      some r9
    ) else some false) : Option Bool).bind fun b8 =>
    some b8
  )
theorem d_law45_AuthorityBuilds_ok (a0 : T_api_Layout) (a1 : T_api_Track) (a2 : (List T_api_Restriction)) (a3 : Int) (r : Bool) (h : d_law45_AuthorityBuilds a0 a1 a2 a3 = some r) : PCall Go.Proofs.Tryd.prog GlS 3 [Enc.pv a0, Enc.pv a1, Enc.pv a2, Enc.pv a3] (Enc.pv r) := by
  unfold d_law45_AuthorityBuilds at h
  refine pcall_of_pwp Go.Proofs.Tryd.func3 (by rfl) rfl Go.Proofs.Tryd.ntmps3 (by rfl) rfl ?_
  refine pwp_seq (r_reg ?_)
  refine zE ?_
  refine q_next (pwp_seq (pwp_seq (r_reg ?_)))
  refine zR 2 ?_
  obtain ⟨r1, h1, h⟩ := o_bind h
  refine p_call (d_law45_modest_ok _ _ r1 h1) (by kernel_rfl) (by kernel_rfl) ?_
  obtain ⟨b2, h2, h⟩ := o_bind h
  refine zR 2 ?_
  refine e_seg 5 22 (.bool b2) ?_ ?_
  · rcases o_cond h2 with ⟨hb, h2⟩ | ⟨hb, h2⟩
    · refine zS 17 hb ?_
      cases h2
      exact zF
    refine zS 17 hb ?_
    refine zR 2 ?_
    obtain ⟨r3, h3, h2⟩ := o_bind h2
    refine p_call (d_law45_fine_ok _ _ r3 h3) (by kernel_rfl) (by kernel_rfl) ?_
    cases h2
    exact zF
  refine zN ?_
  refine q_next ?_
  rcases o_cond h with ⟨hb, h⟩ | ⟨hb, h⟩
  · refine zT hb ?_
    refine pwp_seq (r_reg ?_)
    obtain ⟨r4, h4, h⟩ := o_bind h
    refine p_call (d_law45_alive_ok  r4 h4) (by kernel_rfl) (by kernel_rfl) ?_
    refine zE ?_
    refine q_next (pwp_ret (q_seq_ret ?_))
    cases h
    exact zQ
  refine zU hb ?_
  refine pwp_skip (q_next (pwp_seq (r_reg ?_)))
  refine zR 4 ?_
  obtain ⟨r5, h5, h⟩ := o_bind h
  refine p_call (d_authority_Build_ok _ _ _ _ r5 h5) (by kernel_rfl) (by kernel_rfl) ?_
  refine zE ?_
  refine q_next (pwp_seq (r_reg ?_))
  refine zR 4 ?_
  obtain ⟨r6, h6, h⟩ := o_bind h
  refine p_call (d_ref45_Build_ok _ _ _ _ r6 h6) (by kernel_rfl) (by kernel_rfl) ?_
  refine zE ?_
  refine q_next (pwp_seq (r_reg ?_))
  refine zR 2 ?_
  obtain ⟨r7, h7, h⟩ := o_bind h
  refine p_call (d_ref45_Same_ok _ _ r7 h7) (by kernel_rfl) (by kernel_rfl) ?_
  refine zR 1 ?_
  refine e_segb 4 47 (r7 && (decide (r5.2 = r6.2))) (fun x hx => ?_) ?_
  · rcases b_and hx with ⟨hb, hx⟩ | ⟨hb, hx⟩
    · refine zS 43 hb ?_
      subst hx
      exact zF
    refine zS 43 hb ?_
    subst hx
    exact zF
  obtain ⟨b8, h8, h⟩ := o_bind h
  refine zR 1 ?_
  refine e_seg 2 50 (.bool b8) ?_ ?_
  · rcases o_cond h8 with ⟨hb, h8⟩ | ⟨hb, h8⟩
    · refine zS 48 hb ?_
      obtain ⟨r9, h9, h8⟩ := o_bind h8
      refine p_call (d_law45_alive_ok  r9 h9) (by kernel_rfl) (by kernel_rfl) ?_
      cases h8
      exact zF
    refine zS 48 hb ?_
    cases h8
    exact zF
  refine zE ?_
  refine q_next (pwp_ret ?_)
  cases h
  exact zQ

/-! signallinglaw45.below -/
noncomputable def d_law45_below_0 (a0 : (List T_api_Segment)) (a1 : (List T_api_Segment)) (x3 : T_api_Segment) : Int → Option (Int ⊕ (Unit ⊕ Bool)) := fun x7 =>
  bif decide (x7 < x3.To) then (
    (d_profile_At a0 x7).bind fun r10 =>
    (d_profile_At a1 x7).bind fun r11 =>
    bif (((((!r10.2) || (!r11.2)) || (!(decide (r10.1.Grade = r11.1.Grade)))) || (decide (r11.1.Speed < r10.1.Speed))) || (decide ((min r10.1.To r11.1.To) ≤ x7))) then (
      some (.inr (.inr false))
    ) else (
      some (.inl (min r10.1.To r11.1.To))
    )
  ) else (
    some (.inr (.inl ()))
  )

noncomputable def d_law45_below (a0 : (List T_api_Segment)) (a1 : (List T_api_Segment)) : Option Bool :=
  ((bif decide (((a0.length : Nat) : Int) = 0) then some true else (
    some (decide (300 < ((a0.length : Nat) : Int)))
  )) : Option Bool).bind fun b1 =>
  ((bif b1 then some true else (
    some (decide (300 < ((a1.length : Nat) : Int)))
  )) : Option Bool).bind fun b2 =>
  bif b2 then (
    some false
  ) else (
    (ixO a0 (w64 (((a0.length : Nat) : Int) - 1))).bind fun x3 =>
    (ixO a0 0).bind fun x4 =>
    onInl (α := Unit) (β := Bool) (loopO (d_law45_below_0 a0 a1 x3) x4.From) fun _ =>
    some true
  )
theorem d_law45_below_ok (a0 : (List T_api_Segment)) (a1 : (List T_api_Segment)) (r : Bool) (h : d_law45_below a0 a1 = some r) : PCall Go.Proofs.Tryd.prog GlS 12 [Enc.pv a0, Enc.pv a1] (Enc.pv r) := by
  unfold d_law45_below at h
  refine pcall_of_pwp Go.Proofs.Tryd.func12 (by rfl) rfl Go.Proofs.Tryd.ntmps12 (by rfl) rfl ?_
  refine pwp_seq (r_reg ?_)
  refine zE ?_
  refine q_next (pwp_seq (pwp_seq (r_reg ?_)))
  refine zR 1 ?_
  refine p_len (L := (a0 : (List T_api_Segment))) (by kernel_rfl) ?_
  obtain ⟨b1, h1, h⟩ := o_bind h
  refine zR 2 ?_
  refine e_seg 4 18 (.bool b1) ?_ ?_
  · rcases o_cond h1 with ⟨hb, h1⟩ | ⟨hb, h1⟩
    · refine zS 14 hb ?_
      cases h1
      exact zF
    refine zS 14 hb ?_
    refine zR 1 ?_
    refine p_len (L := (a0 : (List T_api_Segment))) (by kernel_rfl) ?_
    cases h1
    exact zF
  obtain ⟨b2, h2, h⟩ := o_bind h
  refine zR 1 ?_
  refine e_seg 4 23 (.bool b2) ?_ ?_
  · rcases o_cond h2 with ⟨hb, h2⟩ | ⟨hb, h2⟩
    · refine zS 19 hb ?_
      cases h2
      exact zF
    refine zS 19 hb ?_
    refine zR 1 ?_
    refine p_len (L := (a1 : (List T_api_Segment))) (by kernel_rfl) ?_
    cases h2
    exact zF
  refine zN ?_
  refine q_next ?_
  rcases o_cond h with ⟨hb, h⟩ | ⟨hb, h⟩
  · refine zT hb ?_
    refine pwp_seq (r_reg ?_)
    refine zE ?_
    refine q_next (pwp_ret (q_seq_ret ?_))
    cases h
    exact zQ
  refine zU hb ?_
  refine pwp_skip (q_next (pwp_seq (r_reg ?_)))
  refine zR 2 ?_
  refine p_len (L := (a0 : (List T_api_Segment))) (by kernel_rfl) ?_
  refine zR 1 ?_
  obtain ⟨x3, h3, h⟩ := o_bind h
  refine zI h3 ?_
  refine zE ?_
  refine q_next (pwp_seq (pwp_seq (r_reg ?_)))
  refine zR 1 ?_
  obtain ⟨x4, h4, h⟩ := o_bind h
  refine zI h4 ?_
  refine zE ?_
  refine q_next (pwp_block ?_)
  obtain ⟨o12, h12, h⟩ := o_inl h
  refine r_loop2 84 0 (fun x7 => ⟨[(0, lstOf .frozen (a0 : (List T_api_Segment))), (1, lstOf .frozen (a1 : (List T_api_Segment))), (5, .int .i64 x3.To), (6, .int .i64 x7)], [], [], []⟩) (fun (_ : Unit) => ⟨[], [], [], []⟩) h12 (by kernel_rfl) (fun _ => by kernel_rfl) ?_ ?_
  · rintro x7 oh11 h11
    unfold d_law45_below_0 at h11
    refine pwp_seq (pwp_seq (r_reg ?_))
    refine zE ?_
    refine q_next ?_
    rcases o_cond h11 with ⟨hb, h11⟩ | ⟨hb, h11⟩
    · refine zT hb ?_
      refine pwp_skip (q_next (pwp_block (pwp_seq (r_reg ?_))))
      refine zR 2 ?_
      obtain ⟨r10, h13, h11⟩ := o_bind h11
      refine p_call (d_profile_At_ok _ _ r10 h13) (by kernel_rfl) (by kernel_rfl) ?_
      refine zE ?_
      refine q_next (pwp_seq (r_reg ?_))
      refine zR 2 ?_
      obtain ⟨r11, h14, h11⟩ := o_bind h11
      refine p_call (d_profile_At_ok _ _ r11 h14) (by kernel_rfl) (by kernel_rfl) ?_
      refine zE ?_
      refine q_next (pwp_seq (pwp_seq (r_reg ?_)))
      refine zR 3 ?_
      refine e_segb 3 55 ((!r10.2) || (!r11.2)) (fun x hx => ?_) ?_
      · rcases b_or hx with ⟨hb, hx⟩ | ⟨hb, hx⟩
        · refine zS 52 hb ?_
          subst hx
          exact zF
        refine zS 52 hb ?_
        subst hx
        exact zF
      refine zR 1 ?_
      refine e_segb 6 62 (((!r10.2) || (!r11.2)) || (!(decide (r10.1.Grade = r11.1.Grade)))) (fun x hx => ?_) ?_
      · rcases b_or hx with ⟨hb, hx⟩ | ⟨hb, hx⟩
        · refine zS 56 hb ?_
          subst hx
          exact zF
        refine zS 56 hb ?_
        subst hx
        exact zF
      refine zR 1 ?_
      refine e_segb 6 69 ((((!r10.2) || (!r11.2)) || (!(decide (r10.1.Grade = r11.1.Grade)))) || (decide (r11.1.Speed < r10.1.Speed))) (fun x hx => ?_) ?_
      · rcases b_or hx with ⟨hb, hx⟩ | ⟨hb, hx⟩
        · refine zS 63 hb ?_
          subst hx
          exact zF
        refine zS 63 hb ?_
        subst hx
        exact zF
      refine zR 1 ?_
      refine e_segb 8 78 (((((!r10.2) || (!r11.2)) || (!(decide (r10.1.Grade = r11.1.Grade)))) || (decide (r11.1.Speed < r10.1.Speed))) || (decide ((min r10.1.To r11.1.To) ≤ x7))) (fun x hx => ?_) ?_
      · rcases b_or hx with ⟨hb, hx⟩ | ⟨hb, hx⟩
        · refine zS 70 hb ?_
          subst hx
          exact zF
        refine zS 70 hb ?_
        subst hx
        exact zF
      refine zN ?_
      refine q_next ?_
      rcases o_cond h11 with ⟨hb, h11⟩ | ⟨hb, h11⟩
      · refine zT hb ?_
        refine pwp_seq (r_reg ?_)
        refine zE ?_
        refine q_next (pwp_ret (q_seq_ret (q_block_ret ?_)))
        cases h11
        refine q_lout_ret fun he => ?_
        subst he
        have h15 := o_outr h
        refine q_block_ret (q_seq_ret ?_)
        cases h15
        exact zQ
      refine zU hb ?_
      refine pwp_skip (q_next (r_reg ?_))
      refine zE ?_
      refine q_block ?_
      cases h11
      exact zB
    refine zU hb ?_
    refine pwp_exit (q_seq_exit ?_)
    cases h11
    exact zX
  rintro _ s' rfl hs
  have h := o_outl h
  refine q_block_hit ?_
  refine q_next (pwp_wkr hs ?_)
  refine pwp_seq (r_reg ?_)
  refine zE ?_
  refine q_next (pwp_ret ?_)
  cases h
  exact zQ

end PM
