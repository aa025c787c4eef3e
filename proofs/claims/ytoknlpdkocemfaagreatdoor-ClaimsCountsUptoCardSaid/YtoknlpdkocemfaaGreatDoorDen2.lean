/-
  Plain functions for the program's functions, and the proofs that the program does them. Printed by den.py.
-/
import Derived.Test.YtoknlpdkocemfaaGreatDoorDen1
namespace PM
open Go Go.RowKit
attribute [local irreducible] pops pwp

/-! signallingref14.Search -/
noncomputable def d_ref14_Search_0 (a0 : T_api_Layout) (a1 : T_api_Route) : (Int × Int × Int) → Option ((Int × Int × Int) ⊕ (Unit ⊕ (T_api_Setting × Int × Bool))) := fun (x13, x14, x15) =>
  bif decide (x13 < 4) then (
    (d_ref07_Joined a0 (T_api_End.mk x14 x15)).bind fun r28 =>
    bif (!r28.2) then (
      some (.inr (.inr ((T_api_Setting.mk 0 0), (-1), true)))
    ) else (
      (d_ref07_Signal a0 r28.1).bind fun r29 =>
      bif decide (0 ≤ r29) then (
        some (.inr (.inr ((T_api_Setting.mk 0 0), r29, true)))
      ) else (
        (d_ref14_over a1.Path r28.1.El).bind fun r30 =>
        ((bif r30 then some true else (
          (d_ref14_over a1.Over r28.1.El).bind fun r32 =>
          some r32
        )) : Option Bool).bind fun b31 =>
        bif b31 then (
          some (.inr (.inr ((T_api_Setting.mk 0 0), (-1), true)))
        ) else (
          ((bif decide (r28.1.El < 0) then some true else (
            some (decide (((a0.Elements.length : Nat) : Int) ≤ r28.1.El))
          )) : Option Bool).bind fun b33 =>
          ((bif b33 then some true else (
            (ixO a0.Elements r28.1.El).bind fun x35 =>
            some ((decide (x35.Kind = 2)) && (decide (r28.1.Side = 0)))
          )) : Option Bool).bind fun b34 =>
          bif b34 then (
            some (.inr (.inr ((T_api_Setting.mk 0 0), (-1), false)))
          ) else (
            (ixO a0.Elements r28.1.El).bind fun x36 =>
            bif decide (x36.Kind = 2) then (
              (d_ref14_leg a1 r28.1).bind fun r37 =>
              some (.inr (.inr (r37.1, r37.2.1, r37.2.2)))
            ) else (
              (ixO a0.Elements r28.1.El).bind fun x38 =>
              (d_ref06_Out x38.Kind r28.1.Side 0).bind fun r39 =>
              some (.inl (w64 (x13 + 1), r28.1.El, r39.1))
            )
          )
        )
      )
    )
  ) else (
    some (.inr (.inl ()))
  )

noncomputable def d_ref14_Search (a0 : T_api_Layout) (a1 : T_api_Route) (a2 : T_api_End) : Option (T_api_Setting × Int × Bool) :=
  onInl (α := Unit) (β := (T_api_Setting × Int × Bool)) (loopO (d_ref14_Search_0 a0 a1) (0, a2.El, a2.Side)) fun _ =>
  some ((T_api_Setting.mk 0 0), (-1), false)
theorem d_ref14_Search_ok (a0 : T_api_Layout) (a1 : T_api_Route) (a2 : T_api_End) (r : (T_api_Setting × Int × Bool)) (h : d_ref14_Search a0 a1 a2 = some r) : PCall Go.Proofs.Tryz.prog GlS 75 [Enc.pv a0, Enc.pv a1, Enc.pv a2] (.tup [Enc.pv r.1, Enc.pv r.2.1, Enc.pv r.2.2]) := by
  unfold d_ref14_Search at h
  refine pcall_of_pwp Go.Proofs.Tryz.func75 (by rfl) rfl Go.Proofs.Tryz.ntmps75 (by rfl) rfl ?_
  refine pwp_seq (r_reg ?_)
  refine zE ?_
  refine q_next (pwp_seq (pwp_seq (r_reg ?_)))
  refine zE ?_
  refine q_next (pwp_block ?_)
  obtain ⟨o36, h36, h⟩ := o_inl h
  refine r_loop2 107 0 (fun (x13, x14, x15) => ⟨[(3, .ref 3 0), (4, .ref 4 0), (5, .ref 5 0), (6, .ref 6 0), (9, .int .i64 x13)], [(3, .cells (cellsOf a0)), (4, .cells (cellsOf a1)), (5, .cells ([.int .i64 x14, .int .i64 x15])), (6, .cells ([.int .i64 0, .int .i64 0]))], [], []⟩) (fun (_ : Unit) => ⟨[(6, .ref 6 0)], [(6, .cells ([.int .i64 0, .int .i64 0]))], [], []⟩) h36 (by kernel_rfl) (fun _ => by kernel_rfl) ?_ ?_
  · rintro ⟨x13, x14, x15⟩ oh35 h35
    unfold d_ref14_Search_0 at h35
    refine pwp_seq (pwp_seq (r_reg ?_))
    refine zE ?_
    refine q_next ?_
    rcases o_cond h35 with ⟨hb, h35⟩ | ⟨hb, h35⟩
    · refine zT hb ?_
      refine pwp_skip (q_next (pwp_seq (pwp_block (pwp_seq (r_reg ?_)))))
      refine zR 2 ?_
      obtain ⟨r28, h37, h35⟩ := o_bind h35
      refine p_call (d_ref07_Joined_ok _ _ r28 h37) (by kernel_rfl) (by kernel_rfl) ?_
      refine zE ?_
      refine q_next (pwp_seq (pwp_seq (r_reg ?_)))
      refine zE ?_
      refine q_next ?_
      rcases o_cond h35 with ⟨hb, h35⟩ | ⟨hb, h35⟩
      · refine zT hb ?_
        refine pwp_seq (r_reg ?_)
        refine zE ?_
        refine q_next (pwp_ret (q_seq_ret (q_block_ret (q_seq_ret ?_))))
        cases h35
        refine q_lout_ret fun he => ?_
        subst he
        have h38 := o_outr h
        refine q_block_ret (q_seq_ret ?_)
        cases h38
        exact zQ
      refine zU hb ?_
      refine pwp_skip (q_next (pwp_seq (r_reg ?_)))
      refine zR 2 ?_
      obtain ⟨r29, h39, h35⟩ := o_bind h35
      refine p_call (d_ref07_Signal_ok _ _ r29 h39) (by kernel_rfl) (by kernel_rfl) ?_
      refine zE ?_
      refine q_next (pwp_seq (pwp_seq (r_reg ?_)))
      refine zE ?_
      refine q_next ?_
      rcases o_cond h35 with ⟨hb, h35⟩ | ⟨hb, h35⟩
      · refine zT hb ?_
        refine pwp_seq (r_reg ?_)
        refine zE ?_
        refine q_next (pwp_ret (q_seq_ret (q_block_ret (q_seq_ret ?_))))
        cases h35
        refine q_lout_ret fun he => ?_
        subst he
        have h40 := o_outr h
        refine q_block_ret (q_seq_ret ?_)
        cases h40
        exact zQ
      refine zU hb ?_
      refine pwp_skip (q_next (pwp_seq (pwp_seq (r_reg ?_))))
      refine zR 4 ?_
      obtain ⟨r30, h41, h35⟩ := o_bind h35
      refine p_call (d_ref14_over_ok _ _ r30 h41) (by kernel_rfl) (by kernel_rfl) ?_
      obtain ⟨b31, h42, h35⟩ := o_bind h35
      refine zR 1 ?_
      refine e_seg 6 46 (.bool b31) ?_ ?_
      · rcases o_cond h42 with ⟨hb, h42⟩ | ⟨hb, h42⟩
        · refine zS 40 hb ?_
          cases h42
          exact zF
        refine zS 40 hb ?_
        refine zR 4 ?_
        obtain ⟨r32, h43, h42⟩ := o_bind h42
        refine p_call (d_ref14_over_ok _ _ r32 h43) (by kernel_rfl) (by kernel_rfl) ?_
        cases h42
        exact zF
      refine zN ?_
      refine q_next ?_
      rcases o_cond h35 with ⟨hb, h35⟩ | ⟨hb, h35⟩
      · refine zT hb ?_
        refine pwp_seq (r_reg ?_)
        refine zE ?_
        refine q_next (pwp_ret (q_seq_ret (q_block_ret (q_seq_ret ?_))))
        cases h35
        refine q_lout_ret fun he => ?_
        subst he
        have h44 := o_outr h
        refine q_block_ret (q_seq_ret ?_)
        cases h44
        exact zQ
      refine zU hb ?_
      refine pwp_skip (q_next (pwp_seq (pwp_seq (r_reg ?_))))
      obtain ⟨b33, h45, h35⟩ := o_bind h35
      refine zR 4 ?_
      refine e_seg 7 58 (.bool b33) ?_ ?_
      · rcases o_cond h45 with ⟨hb, h45⟩ | ⟨hb, h45⟩
        · refine zS 51 hb ?_
          cases h45
          exact zF
        refine zS 51 hb ?_
        refine zR 4 ?_
        refine p_len (L := (a0.Elements : (List T_api_Element))) (by kernel_rfl) ?_
        cases h45
        exact zF
      obtain ⟨b34, h46, h35⟩ := o_bind h35
      refine zR 1 ?_
      refine e_seg 14 73 (.bool b34) ?_ ?_
      · rcases o_cond h46 with ⟨hb, h46⟩ | ⟨hb, h46⟩
        · refine zS 59 hb ?_
          cases h46
          exact zF
        refine zS 59 hb ?_
        refine zR 4 ?_
        obtain ⟨x35, h47, h46⟩ := o_bind h46
        refine zI h47 ?_
        refine zR 4 ?_
        refine f_segb 4 72 ((decide (x35.Kind = 2)) && (decide (r28.1.Side = 0))) (fun x hx => ?_) ?_
        · rcases b_and hx with ⟨hb, hx⟩ | ⟨hb, hx⟩
          · refine zS 68 hb ?_
            subst hx
            exact zF
          refine zS 68 hb ?_
          subst hx
          exact zF
        cases h46
        exact zF
      refine zN ?_
      refine q_next ?_
      rcases o_cond h35 with ⟨hb, h35⟩ | ⟨hb, h35⟩
      · refine zT hb ?_
        refine pwp_seq (r_reg ?_)
        refine zE ?_
        refine q_next (pwp_ret (q_seq_ret (q_block_ret (q_seq_ret ?_))))
        cases h35
        refine q_lout_ret fun he => ?_
        subst he
        have h48 := o_outr h
        refine q_block_ret (q_seq_ret ?_)
        cases h48
        exact zQ
      refine zU hb ?_
      refine pwp_skip (q_next (pwp_seq (pwp_seq (r_reg ?_))))
      refine zR 4 ?_
      obtain ⟨x36, h49, h35⟩ := o_bind h35
      refine zI h49 ?_
      refine zE ?_
      refine q_next ?_
      rcases o_cond h35 with ⟨hb, h35⟩ | ⟨hb, h35⟩
      · refine zT hb ?_
        refine pwp_seq (r_reg ?_)
        refine zR 2 ?_
        obtain ⟨r37, h50, h35⟩ := o_bind h35
        refine p_call (d_ref14_leg_ok _ _ r37 h50) (by kernel_rfl) (by kernel_rfl) ?_
        refine zE ?_
        refine q_next (pwp_ret (q_seq_ret (q_block_ret (q_seq_ret ?_))))
        cases h35
        refine q_lout_ret fun he => ?_
        subst he
        have h51 := o_outr h
        refine q_block_ret (q_seq_ret ?_)
        cases h51
        exact zQ
      refine zU hb ?_
      refine pwp_skip (q_next (pwp_seq ?_))
      refine r_regd (by kernel_rfl) (by kernel_rfl) ?_
      refine zR 4 ?_
      obtain ⟨x38, h52, h35⟩ := o_bind h35
      refine zI h52 ?_
      refine zR 4 ?_
      obtain ⟨r39, h53, h35⟩ := o_bind h35
      refine p_call (d_ref06_Out_ok _ _ _ r39 h53) (by kernel_rfl) (by kernel_rfl) ?_
      refine zE ?_
      refine q_next (r_reg ?_)
      refine zE ?_
      refine q_block (q_next (r_reg ?_))
      refine zE ?_
      cases h35
      exact zB
    refine zU hb ?_
    refine pwp_exit (q_seq_exit ?_)
    cases h35
    exact zX
  rintro _ s' rfl hs
  have h := o_outl h
  refine q_block_hit ?_
  refine q_next (pwp_wkr hs ?_)
  refine pwp_seq (r_reg ?_)
  refine zE ?_
  refine q_next (pwp_ret ?_)
  cases h
  exact zQ

/-! signallingref14.put -/
noncomputable def d_ref14_put_0 (a0 : (List T_api_Setting)) (a1 : T_api_Setting) : (Bool × Int × (List T_api_Setting)) → Option ((Bool × Int × (List T_api_Setting)) ⊕ (((List T_api_Setting) × Bool) ⊕ (List T_api_Setting))) := fun (x24, x25, x26) =>
  bif decide (x25 < ((a0.length : Nat) : Int)) then (
    onInl (α := ((List T_api_Setting) × Bool)) (β := ((Bool × Int × (List T_api_Setting)) ⊕ (((List T_api_Setting) × Bool) ⊕ (List T_api_Setting)))) (
      ((bif (!x24) then (
        (ixO a0 x25).bind fun x45 =>
        some (decide (a1.El < x45.El))
      ) else some false) : Option Bool).bind fun b44 =>
      bif b44 then (
        (appO x26 [a1]).bind fun x46 =>
        some (.inl (x46, true))
      ) else (
        some (.inl (x26, x24))
      )
    ) fun (x42, x43) =>
    (ixO a0 x25).bind fun x47 =>
    (appO x42 [x47]).bind fun x48 =>
    some (.inl (x43, w64 (x25 + 1), x48))
  ) else (
    some (.inr (.inl (x26, x24)))
  )

noncomputable def d_ref14_put (a0 : (List T_api_Setting)) (a1 : T_api_Setting) : Option (List T_api_Setting) :=
  (d_ref14_has a0 a1).bind fun r1 =>
  bif r1 then (
    some a0
  ) else (
    onInl (α := ((List T_api_Setting) × Bool)) (β := (List T_api_Setting)) (loopO (d_ref14_put_0 a0 a1) (false, 0, ([] : (List T_api_Setting)))) fun (x37, x38) =>
    onInl (α := (List T_api_Setting)) (β := (List T_api_Setting)) (
      bif (!x38) then (
        (appO x37 [a1]).bind fun x51 =>
        some (.inl x51)
      ) else (
        some (.inl x37)
      )
    ) fun x50 =>
    some x50
  )
theorem d_ref14_put_ok (a0 : (List T_api_Setting)) (a1 : T_api_Setting) (r : (List T_api_Setting)) (h : d_ref14_put a0 a1 = some r) : PCall Go.Proofs.Tryz.prog GlS 76 [Enc.pv a0, Enc.pv a1] (Enc.pv r) := by
  unfold d_ref14_put at h
  refine pcall_of_pwp Go.Proofs.Tryz.func76 (by rfl) rfl Go.Proofs.Tryz.ntmps76 (by rfl) rfl ?_
  refine pwp_seq (r_reg ?_)
  refine zE ?_
  refine q_next (pwp_seq (pwp_seq (r_reg ?_)))
  refine zR 2 ?_
  obtain ⟨r1, h1, h⟩ := o_bind h
  refine p_call (d_ref14_has_ok _ _ r1 h1) (by kernel_rfl) (by kernel_rfl) ?_
  refine zN ?_
  refine q_next ?_
  rcases o_cond h with ⟨hb, h⟩ | ⟨hb, h⟩
  · refine zT hb ?_
    refine pwp_seq (r_reg ?_)
    refine zE ?_
    refine q_next (pwp_ret (q_seq_ret ?_))
    cases h
    exact zQ
  refine zU hb ?_
  refine pwp_skip (q_next (pwp_seq (r_reg ?_)))
  refine zE ?_
  refine q_next (pwp_seq (r_reg ?_))
  refine zE ?_
  refine q_next (pwp_seq (pwp_seq (r_reg ?_)))
  refine zE ?_
  refine q_next (pwp_block ?_)
  refine g_nil 5 100005 2 16 (by kernel_rfl) (by kernel_rfl) ?_
  obtain ⟨o30, h30, h⟩ := o_inl h
  refine r_loop2 48 0 (fun (x24, x25, x26) => ⟨[(0, lstOf .frozen (a0 : (List T_api_Setting))), (3, .ref 3 0), (5, lstOf (.own 100005) (x26 : (List T_api_Setting))), (6, .bool x24), (7, .int .i64 x25)], [(3, .cells (cellsOf a1))], [(100005, (((x26).map cellsOf).length, 2))], []⟩) (fun (x37, x38) => ⟨[(3, .ref 3 0), (5, lstOf (.own 100005) (x37 : (List T_api_Setting))), (6, .bool x38)], [(3, .cells (cellsOf a1))], [(100005, (((x37).map cellsOf).length, 2))], []⟩) h30 (by kernel_rfl) (fun _ => by kernel_rfl) ?_ ?_
  · rintro ⟨x24, x25, x26⟩ oh29 h29
    unfold d_ref14_put_0 at h29
    refine pwp_seq (pwp_seq (r_reg ?_))
    refine zR 2 ?_
    refine p_len (L := (a0 : (List T_api_Setting))) (by kernel_rfl) ?_
    refine zE ?_
    refine q_next ?_
    rcases o_cond h29 with ⟨hb, h29⟩ | ⟨hb, h29⟩
    · refine zT hb ?_
      refine pwp_skip (q_next (pwp_seq (pwp_block ?_)))
      obtain ⟨o34, h34, h29⟩ := o_inl h29
      refine r_join (o := o34) 48 (fun (x42, x43) => ⟨[(0, lstOf .frozen (a0 : (List T_api_Setting))), (3, .ref 3 0), (5, lstOf (.own 100005) (x42 : (List T_api_Setting))), (6, .bool x43), (7, .int .i64 x25)], [(3, .cells (cellsOf a1))], [(100005, (((x42).map cellsOf).length, 2))], []⟩) ?_ ?_
      · refine pwp_seq ?_
        refine r_regd (by kernel_rfl) (by kernel_rfl) ?_
        obtain ⟨b44, h35, h34⟩ := o_bind h34
        refine zR 3 ?_
        refine e_seg 9 29 (.bool b44) ?_ ?_
        · rcases o_cond h35 with ⟨hb, h35⟩ | ⟨hb, h35⟩
          · refine zS 20 hb ?_
            refine zR 2 ?_
            obtain ⟨x45, h36, h35⟩ := o_bind h35
            refine zI h36 ?_
            cases h35
            exact zF
          refine zS 20 hb ?_
          cases h35
          exact zF
        refine zN ?_
        refine q_next ?_
        rcases o_cond h34 with ⟨hb, h34⟩ | ⟨hb, h34⟩
        · refine zT hb ?_
          refine pwp_seq (r_reg ?_)
          refine zR 3 ?_
          obtain ⟨x46, h37, h34⟩ := o_bind h34
          refine p_app (tk := 100005) h37 (by kernel_rfl) (by kernel_rfl) ?_
          refine zE ?_
          refine q_next (r_reg ?_)
          refine zE ?_
          cases h34
          exact zJ
        refine zU hb ?_
        refine pwp_skip ?_
        cases h34
        exact zJ
      rintro ⟨x42, x43⟩ rfl
      have h29 := o_outl h29
      refine r_reg ?_
      refine zR 3 ?_
      obtain ⟨x47, h38, h29⟩ := o_bind h29
      refine zI h38 ?_
      refine zR 2 ?_
      obtain ⟨x48, h39, h29⟩ := o_bind h29
      refine p_app (tk := 100005) h39 (by kernel_rfl) (by kernel_rfl) ?_
      refine zE ?_
      refine q_block (q_next (r_reg ?_))
      refine zE ?_
      cases h29
      exact zB
    refine zU hb ?_
    refine pwp_exit (q_seq_exit ?_)
    cases h29
    exact zX
  rintro ⟨x37, x38⟩ s' rfl hs
  have h := o_outl h
  refine q_block_hit ?_
  refine q_next (pwp_wkr hs ?_)
  obtain ⟨o41, h41, h⟩ := o_inl h
  refine r_join (o := o41) 48 (fun x50 => ⟨[(5, lstOf (.own 100005) (x50 : (List T_api_Setting)))], [], [(100005, (((x50).map cellsOf).length, 2))], []⟩) ?_ ?_
  · refine pwp_seq (r_reg ?_)
    refine zE ?_
    refine q_next ?_
    rcases o_cond h41 with ⟨hb, h41⟩ | ⟨hb, h41⟩
    · refine zT hb ?_
      refine r_reg ?_
      refine zR 3 ?_
      obtain ⟨x51, h42, h41⟩ := o_bind h41
      refine p_app (tk := 100005) h42 (by kernel_rfl) (by kernel_rfl) ?_
      refine zE ?_
      cases h41
      exact zJ
    refine zU hb ?_
    refine pwp_skip ?_
    cases h41
    exact zJ
  rintro x50 rfl
  have h := o_outl h
  refine pwp_seq (r_reg ?_)
  refine zE ?_
  refine q_next (pwp_ret ?_)
  cases h
  exact zQ

/-! signallingref02.Has -/
noncomputable def d_ref02_Has_0 (a0 : (List Int)) (a1 : Int) : Int → Option (Int ⊕ (Unit ⊕ Bool)) := fun x2 =>
  bif decide (x2 < ((a0.length : Nat) : Int)) then (
    (ixO a0 x2).bind fun x4 =>
    bif decide (x4 = a1) then (
      some (.inr (.inr true))
    ) else (
      some (.inl (w64 (x2 + 1)))
    )
  ) else (
    some (.inr (.inl ()))
  )

noncomputable def d_ref02_Has (a0 : (List Int)) (a1 : Int) : Option Bool :=
  onInl (α := Unit) (β := Bool) (loopO (d_ref02_Has_0 a0 a1) 0) fun _ =>
  some false
theorem d_ref02_Has_ok (a0 : (List Int)) (a1 : Int) (r : Bool) (h : d_ref02_Has a0 a1 = some r) : PCall Go.Proofs.Tryz.prog GlS 129 [Enc.pv a0, Enc.pv a1] (Enc.pv r) := by
  unfold d_ref02_Has at h
  refine pcall_of_pwp Go.Proofs.Tryz.func129 (by rfl) rfl Go.Proofs.Tryz.ntmps129 (by rfl) rfl ?_
  refine pwp_seq (r_reg ?_)
  refine zE ?_
  refine q_next (pwp_seq (pwp_seq (r_reg ?_)))
  refine zE ?_
  refine q_next (pwp_block ?_)
  obtain ⟨o6, h6, h⟩ := o_inl h
  refine r_loop2 18 0 (fun x2 => ⟨[(0, lstOf .frozen (a0 : (List Int))), (1, .int .i64 a1), (5, .int .i64 x2)], [], [], []⟩) (fun (_ : Unit) => ⟨[], [], [], []⟩) h6 (by kernel_rfl) (fun _ => by kernel_rfl) ?_ ?_
  · rintro x2 oh5 h5
    unfold d_ref02_Has_0 at h5
    refine pwp_seq (pwp_seq (r_reg ?_))
    refine zR 2 ?_
    refine p_len (L := (a0 : (List Int))) (by kernel_rfl) ?_
    refine zE ?_
    refine q_next ?_
    rcases o_cond h5 with ⟨hb, h5⟩ | ⟨hb, h5⟩
    · refine zT hb ?_
      refine pwp_skip (q_next (pwp_seq (pwp_block (pwp_seq (r_reg ?_)))))
      refine zR 2 ?_
      obtain ⟨x4, h7, h5⟩ := o_bind h5
      refine zI h7 ?_
      refine zE ?_
      refine q_next ?_
      rcases o_cond h5 with ⟨hb, h5⟩ | ⟨hb, h5⟩
      · refine zT hb ?_
        refine pwp_seq (r_reg ?_)
        refine zE ?_
        refine q_next (pwp_ret (q_block_ret (q_seq_ret ?_)))
        cases h5
        refine q_lout_ret fun he => ?_
        subst he
        have h8 := o_outr h
        refine q_block_ret (q_seq_ret ?_)
        cases h8
        exact zQ
      refine zU hb ?_
      refine pwp_skip (q_block (q_next (r_reg ?_)))
      refine zE ?_
      cases h5
      exact zB
    refine zU hb ?_
    refine pwp_exit (q_seq_exit ?_)
    cases h5
    exact zX
  rintro _ s' rfl hs
  have h := o_outl h
  refine q_block_hit ?_
  refine q_next (pwp_wkr hs ?_)
  refine pwp_seq (r_reg ?_)
  refine zE ?_
  refine q_next (pwp_ret ?_)
  cases h
  exact zQ

/-! signallingref02.insert -/
noncomputable def d_ref02_insert_0 (a0 : (List Int)) (a1 : Int) : (Bool × Int × (List Int)) → Option ((Bool × Int × (List Int)) ⊕ (((List Int) × Bool) ⊕ (List Int))) := fun (x24, x25, x26) =>
  bif decide (x25 < ((a0.length : Nat) : Int)) then (
    onInl (α := ((List Int) × Bool)) (β := ((Bool × Int × (List Int)) ⊕ (((List Int) × Bool) ⊕ (List Int)))) (
      ((bif (!x24) then (
        (ixO a0 x25).bind fun x45 =>
        some (decide (a1 < x45))
      ) else some false) : Option Bool).bind fun b44 =>
      bif b44 then (
        (appO x26 [a1]).bind fun x46 =>
        some (.inl (x46, true))
      ) else (
        some (.inl (x26, x24))
      )
    ) fun (x42, x43) =>
    (ixO a0 x25).bind fun x47 =>
    (appO x42 [x47]).bind fun x48 =>
    some (.inl (x43, w64 (x25 + 1), x48))
  ) else (
    some (.inr (.inl (x26, x24)))
  )

noncomputable def d_ref02_insert (a0 : (List Int)) (a1 : Int) : Option (List Int) :=
  (d_ref02_Has a0 a1).bind fun r1 =>
  bif r1 then (
    some a0
  ) else (
    onInl (α := ((List Int) × Bool)) (β := (List Int)) (loopO (d_ref02_insert_0 a0 a1) (false, 0, ([] : (List Int)))) fun (x37, x38) =>
    onInl (α := (List Int)) (β := (List Int)) (
      bif (!x38) then (
        (appO x37 [a1]).bind fun x51 =>
        some (.inl x51)
      ) else (
        some (.inl x37)
      )
    ) fun x50 =>
    some x50
  )
theorem d_ref02_insert_ok (a0 : (List Int)) (a1 : Int) (r : (List Int)) (h : d_ref02_insert a0 a1 = some r) : PCall Go.Proofs.Tryz.prog GlS 116 [Enc.pv a0, Enc.pv a1] (Enc.pv r) := by
  unfold d_ref02_insert at h
  refine pcall_of_pwp Go.Proofs.Tryz.func116 (by rfl) rfl Go.Proofs.Tryz.ntmps116 (by rfl) rfl ?_
  refine pwp_seq (r_reg ?_)
  refine zE ?_
  refine q_next (pwp_seq (pwp_seq (r_reg ?_)))
  refine zR 2 ?_
  obtain ⟨r1, h1, h⟩ := o_bind h
  refine p_call (d_ref02_Has_ok _ _ r1 h1) (by kernel_rfl) (by kernel_rfl) ?_
  refine zN ?_
  refine q_next ?_
  rcases o_cond h with ⟨hb, h⟩ | ⟨hb, h⟩
  · refine zT hb ?_
    refine pwp_seq (r_reg ?_)
    refine zE ?_
    refine q_next (pwp_ret (q_seq_ret ?_))
    cases h
    exact zQ
  refine zU hb ?_
  refine pwp_skip (q_next (pwp_seq (r_reg ?_)))
  refine zE ?_
  refine q_next (pwp_seq (r_reg ?_))
  refine zE ?_
  refine q_next (pwp_seq (pwp_seq (r_reg ?_)))
  refine zE ?_
  refine q_next (pwp_block ?_)
  refine g_nil 5 100005 1 8 (by kernel_rfl) (by kernel_rfl) ?_
  obtain ⟨o30, h30, h⟩ := o_inl h
  refine r_loop2 46 0 (fun (x24, x25, x26) => ⟨[(0, lstOf .frozen (a0 : (List Int))), (1, .int .i64 a1), (5, lstOf (.own 100005) (x26 : (List Int))), (6, .bool x24), (7, .int .i64 x25)], [], [(100005, (((x26).map cellsOf).length, 1))], []⟩) (fun (x37, x38) => ⟨[(1, .int .i64 a1), (5, lstOf (.own 100005) (x37 : (List Int))), (6, .bool x38)], [], [(100005, (((x37).map cellsOf).length, 1))], []⟩) h30 (by kernel_rfl) (fun _ => by kernel_rfl) ?_ ?_
  · rintro ⟨x24, x25, x26⟩ oh29 h29
    unfold d_ref02_insert_0 at h29
    refine pwp_seq (pwp_seq (r_reg ?_))
    refine zR 2 ?_
    refine p_len (L := (a0 : (List Int))) (by kernel_rfl) ?_
    refine zE ?_
    refine q_next ?_
    rcases o_cond h29 with ⟨hb, h29⟩ | ⟨hb, h29⟩
    · refine zT hb ?_
      refine pwp_skip (q_next (pwp_seq (pwp_block ?_)))
      obtain ⟨o34, h34, h29⟩ := o_inl h29
      refine r_join (o := o34) 46 (fun (x42, x43) => ⟨[(0, lstOf .frozen (a0 : (List Int))), (1, .int .i64 a1), (5, lstOf (.own 100005) (x42 : (List Int))), (6, .bool x43), (7, .int .i64 x25)], [], [(100005, (((x42).map cellsOf).length, 1))], []⟩) ?_ ?_
      · refine pwp_seq (r_reg ?_)
        obtain ⟨b44, h35, h34⟩ := o_bind h34
        refine zR 3 ?_
        refine e_seg 7 27 (.bool b44) ?_ ?_
        · rcases o_cond h35 with ⟨hb, h35⟩ | ⟨hb, h35⟩
          · refine zS 20 hb ?_
            refine zR 2 ?_
            obtain ⟨x45, h36, h35⟩ := o_bind h35
            refine zI h36 ?_
            cases h35
            exact zF
          refine zS 20 hb ?_
          cases h35
          exact zF
        refine zN ?_
        refine q_next ?_
        rcases o_cond h34 with ⟨hb, h34⟩ | ⟨hb, h34⟩
        · refine zT hb ?_
          refine pwp_seq (r_reg ?_)
          refine zR 3 ?_
          obtain ⟨x46, h37, h34⟩ := o_bind h34
          refine p_app (tk := 100005) h37 (by kernel_rfl) (by kernel_rfl) ?_
          refine zE ?_
          refine q_next (r_reg ?_)
          refine zE ?_
          cases h34
          exact zJ
        refine zU hb ?_
        refine pwp_skip ?_
        cases h34
        exact zJ
      rintro ⟨x42, x43⟩ rfl
      have h29 := o_outl h29
      refine r_reg ?_
      refine zR 3 ?_
      obtain ⟨x47, h38, h29⟩ := o_bind h29
      refine zI h38 ?_
      refine zR 2 ?_
      obtain ⟨x48, h39, h29⟩ := o_bind h29
      refine p_app (tk := 100005) h39 (by kernel_rfl) (by kernel_rfl) ?_
      refine zE ?_
      refine q_block (q_next (r_reg ?_))
      refine zE ?_
      cases h29
      exact zB
    refine zU hb ?_
    refine pwp_exit (q_seq_exit ?_)
    cases h29
    exact zX
  rintro ⟨x37, x38⟩ s' rfl hs
  have h := o_outl h
  refine q_block_hit ?_
  refine q_next (pwp_wkr hs ?_)
  obtain ⟨o41, h41, h⟩ := o_inl h
  refine r_join (o := o41) 46 (fun x50 => ⟨[(5, lstOf (.own 100005) (x50 : (List Int)))], [], [(100005, (((x50).map cellsOf).length, 1))], []⟩) ?_ ?_
  · refine pwp_seq (r_reg ?_)
    refine zE ?_
    refine q_next ?_
    rcases o_cond h41 with ⟨hb, h41⟩ | ⟨hb, h41⟩
    · refine zT hb ?_
      refine r_reg ?_
      refine zR 3 ?_
      obtain ⟨x51, h42, h41⟩ := o_bind h41
      refine p_app (tk := 100005) h42 (by kernel_rfl) (by kernel_rfl) ?_
      refine zE ?_
      cases h41
      exact zJ
    refine zU hb ?_
    refine pwp_skip ?_
    cases h41
    exact zJ
  rintro x50 rfl
  have h := o_outl h
  refine pwp_seq (r_reg ?_)
  refine zE ?_
  refine q_next (pwp_ret ?_)
  cases h
  exact zQ

/-! signallingref02.Make -/
noncomputable def d_ref02_Make_0 (a0 : (List Int)) : (Int × (List Int)) → Option ((Int × (List Int)) ⊕ ((List Int) ⊕ (List Int))) := fun (x6, x7) =>
  bif decide (x6 < ((a0.length : Nat) : Int)) then (
    (ixO a0 x6).bind fun x11 =>
    (d_ref02_insert x7 x11).bind fun r12 =>
    some (.inl (w64 (x6 + 1), r12))
  ) else (
    some (.inr (.inl x7))
  )

noncomputable def d_ref02_Make (a0 : (List Int)) : Option (List Int) :=
  onInl (α := (List Int)) (β := (List Int)) (loopO (d_ref02_Make_0 a0) (0, ([] : (List Int)))) fun x10 =>
  some x10
theorem d_ref02_Make_ok (a0 : (List Int)) (r : (List Int)) (h : d_ref02_Make a0 = some r) : PCall Go.Proofs.Tryz.prog GlS 115 [Enc.pv a0] (Enc.pv r) := by
  unfold d_ref02_Make at h
  refine pcall_of_pwp Go.Proofs.Tryz.func115 (by rfl) rfl Go.Proofs.Tryz.ntmps115 (by rfl) rfl ?_
  refine pwp_seq (r_reg ?_)
  refine zE ?_
  refine q_next (pwp_seq (r_reg ?_))
  refine zE ?_
  refine q_next (pwp_seq (pwp_seq (r_reg ?_)))
  refine zE ?_
  refine q_next (pwp_block ?_)
  obtain ⟨o8, h8, h⟩ := o_inl h
  refine r_loop2 18 0 (fun (x6, x7) => ⟨[(0, lstOf .frozen (a0 : (List Int))), (3, lstOf .frozen (x7 : (List Int))), (4, .int .i64 x6)], [], [], []⟩) (fun x10 => ⟨[(3, lstOf .frozen (x10 : (List Int)))], [], [], []⟩) h8 (by kernel_rfl) (fun _ => by kernel_rfl) ?_ ?_
  · rintro ⟨x6, x7⟩ oh7 h7
    unfold d_ref02_Make_0 at h7
    refine pwp_seq (pwp_seq (r_reg ?_))
    refine zR 2 ?_
    refine p_len (L := (a0 : (List Int))) (by kernel_rfl) ?_
    refine zE ?_
    refine q_next ?_
    rcases o_cond h7 with ⟨hb, h7⟩ | ⟨hb, h7⟩
    · refine zT hb ?_
      refine pwp_skip (q_next (pwp_seq (pwp_block (r_reg ?_))))
      refine zR 3 ?_
      obtain ⟨x11, h9, h7⟩ := o_bind h7
      refine zI h9 ?_
      refine zR 1 ?_
      obtain ⟨r12, h10, h7⟩ := o_bind h7
      refine p_call (d_ref02_insert_ok _ _ r12 h10) (by kernel_rfl) (by kernel_rfl) ?_
      refine zE ?_
      refine q_block (q_next (r_reg ?_))
      refine zE ?_
      cases h7
      exact zB
    refine zU hb ?_
    refine pwp_exit (q_seq_exit ?_)
    cases h7
    exact zX
  rintro x10 s' rfl hs
  have h := o_outl h
  refine q_block_hit ?_
  refine q_next (pwp_wkr hs ?_)
  refine pwp_seq (r_reg ?_)
  refine zE ?_
  refine q_next (pwp_ret ?_)
  cases h
  exact zQ

/-! signallingref02.Union -/
noncomputable def d_ref02_Union_0 (a1 : (List Int)) : ((List Int) × Int) → Option (((List Int) × Int) ⊕ ((List Int) ⊕ (List Int))) := fun (x4, x5) =>
  bif decide (x5 < ((a1.length : Nat) : Int)) then (
    (ixO a1 x5).bind fun x9 =>
    (d_ref02_insert x4 x9).bind fun r10 =>
    some (.inl (r10, w64 (x5 + 1)))
  ) else (
    some (.inr (.inl x4))
  )

noncomputable def d_ref02_Union (a0 : (List Int)) (a1 : (List Int)) : Option (List Int) :=
  (d_ref02_Make a0).bind fun r1 =>
  onInl (α := (List Int)) (β := (List Int)) (loopO (d_ref02_Union_0 a1) (r1, 0)) fun x8 =>
  some x8
theorem d_ref02_Union_ok (a0 : (List Int)) (a1 : (List Int)) (r : (List Int)) (h : d_ref02_Union a0 a1 = some r) : PCall Go.Proofs.Tryz.prog GlS 77 [Enc.pv a0, Enc.pv a1] (Enc.pv r) := by
  unfold d_ref02_Union at h
  refine pcall_of_pwp Go.Proofs.Tryz.func77 (by rfl) rfl Go.Proofs.Tryz.ntmps77 (by rfl) rfl ?_
  refine pwp_seq (r_reg ?_)
  refine zE ?_
  refine q_next (pwp_seq (r_reg ?_))
  refine zR 1 ?_
  obtain ⟨r1, h1, h⟩ := o_bind h
  refine p_call (d_ref02_Make_ok _ r1 h1) (by kernel_rfl) (by kernel_rfl) ?_
  refine zE ?_
  refine q_next (pwp_seq (pwp_seq (r_reg ?_)))
  refine zE ?_
  refine q_next (pwp_block ?_)
  obtain ⟨o7, h7, h⟩ := o_inl h
  refine r_loop2 22 0 (fun (x4, x5) => ⟨[(1, lstOf .frozen (a1 : (List Int))), (5, lstOf .frozen (x4 : (List Int))), (6, .int .i64 x5)], [], [], []⟩) (fun x8 => ⟨[(5, lstOf .frozen (x8 : (List Int)))], [], [], []⟩) h7 (by kernel_rfl) (fun _ => by kernel_rfl) ?_ ?_
  · rintro ⟨x4, x5⟩ oh6 h6
    unfold d_ref02_Union_0 at h6
    refine pwp_seq (pwp_seq (r_reg ?_))
    refine zR 2 ?_
    refine p_len (L := (a1 : (List Int))) (by kernel_rfl) ?_
    refine zE ?_
    refine q_next ?_
    rcases o_cond h6 with ⟨hb, h6⟩ | ⟨hb, h6⟩
    · refine zT hb ?_
      refine pwp_skip (q_next (pwp_seq (pwp_block (r_reg ?_))))
      refine zR 3 ?_
      obtain ⟨x9, h8, h6⟩ := o_bind h6
      refine zI h8 ?_
      refine zR 1 ?_
      obtain ⟨r10, h9, h6⟩ := o_bind h6
      refine p_call (d_ref02_insert_ok _ _ r10 h9) (by kernel_rfl) (by kernel_rfl) ?_
      refine zE ?_
      refine q_block (q_next (r_reg ?_))
      refine zE ?_
      cases h6
      exact zB
    refine zU hb ?_
    refine pwp_exit (q_seq_exit ?_)
    cases h6
    exact zX
  rintro x8 s' rfl hs
  have h := o_outl h
  refine q_block_hit ?_
  refine q_next (pwp_wkr hs ?_)
  refine pwp_seq (r_reg ?_)
  refine zE ?_
  refine q_next (pwp_ret ?_)
  cases h
  exact zQ

/-! signallingref14.Find -/
noncomputable def d_ref14_Find_0 (a0 : T_api_Layout) (a1 : T_api_Route) (r1 : (List T_api_End)) : (Int × (List T_api_Setting) × (List Int) × (List T_api_End)) → Option ((Int × (List T_api_Setting) × (List Int) × (List T_api_End)) ⊕ (((List T_api_Setting) × (List Int) × (List T_api_End)) ⊕ T_api_Route)) := fun (x55, x56, x57, x58) =>
  bif decide (x55 < ((r1.length : Nat) : Int)) then (
    onInl (α := ((List T_api_Setting) × (List Int) × (List T_api_End))) (β := ((Int × (List T_api_Setting) × (List Int) × (List T_api_End)) ⊕ (((List T_api_Setting) × (List Int) × (List T_api_End)) ⊕ T_api_Route))) (
      (ixO r1 x55).bind fun x101 =>
      (d_ref14_Search a0 (T_api_Route.mk a1.Name a1.Entry a1.Exit a1.Path a1.Points a1.Sections a1.Approach a1.Length a1.Over a1.OverPoints a1.OverSections x56 x57 x58) x101).bind fun r102 =>
      onInl (α := (List T_api_End)) (β := (((List T_api_Setting) × (List Int) × (List T_api_End)) ⊕ ((Int × (List T_api_Setting) × (List Int) × (List T_api_End)) ⊕ (((List T_api_Setting) × (List Int) × (List T_api_End)) ⊕ T_api_Route)))) (
        bif (!r102.2.2) then (
          (ixO r1 x55).bind fun x106 =>
          (appO x58 [x106]).bind fun x107 =>
          some (.inl x107)
        ) else (
          some (.inl x58)
        )
      ) fun x105 =>
      onInl (α := (List T_api_Setting)) (β := (((List T_api_Setting) × (List Int) × (List T_api_End)) ⊕ ((Int × (List T_api_Setting) × (List Int) × (List T_api_End)) ⊕ (((List T_api_Setting) × (List Int) × (List T_api_End)) ⊕ T_api_Route)))) (
        bif (!(decide (r102.1.Pos = 0))) then (
          (d_ref14_put x56 r102.1).bind fun r110 =>
          some (.inl r110)
        ) else (
          some (.inl x56)
        )
      ) fun x109 =>
      bif decide (0 ≤ r102.2.1) then (
        (d_ref02_Union x57 [r102.2.1]).bind fun r111 =>
        some (.inl (x109, r111, x105))
      ) else (
        some (.inl (x109, x57, x105))
      )
    ) fun (x98, x99, x100) =>
    some (.inl (w64 (x55 + 1), x98, x99, x100))
  ) else (
    some (.inr (.inl (x56, x57, x58)))
  )

noncomputable def d_ref14_Find (a0 : T_api_Layout) (a1 : T_api_Route) : Option T_api_Route :=
  (d_ref14_Sides a0 (T_api_Route.mk a1.Name a1.Entry a1.Exit a1.Path a1.Points a1.Sections a1.Approach a1.Length a1.Over a1.OverPoints a1.OverSections [] [] [])).bind fun r1 =>
  onInl (α := ((List T_api_Setting) × (List Int) × (List T_api_End))) (β := T_api_Route) (loopO (d_ref14_Find_0 a0 a1 r1) (0, ([] : (List T_api_Setting)), ([] : (List Int)), ([] : (List T_api_End)))) fun (x84, x85, x86) =>
  some (T_api_Route.mk a1.Name a1.Entry a1.Exit a1.Path a1.Points a1.Sections a1.Approach a1.Length a1.Over a1.OverPoints a1.OverSections x84 x85 x86)
theorem d_ref14_Find_ok (a0 : T_api_Layout) (a1 : T_api_Route) (r : T_api_Route) (h : d_ref14_Find a0 a1 = some r) : PCall Go.Proofs.Tryz.prog GlS 39 [Enc.pv a0, Enc.pv a1] (Enc.pv r) := by
  unfold d_ref14_Find at h
  refine pcall_of_pwp Go.Proofs.Tryz.func39 (by rfl) rfl Go.Proofs.Tryz.ntmps39 (by rfl) rfl ?_
  refine pwp_seq (r_reg ?_)
  refine zE ?_
  refine q_next (pwp_seq (r_reg ?_))
  refine zE ?_
  refine q_next (pwp_seq (r_reg ?_))
  refine zE ?_
  refine q_next (pwp_seq (r_reg ?_))
  refine zE ?_
  refine q_next (pwp_seq (r_reg ?_))
  refine zR 2 ?_
  obtain ⟨r1, h1, h⟩ := o_bind h
  refine p_call (d_ref14_Sides_ok _ _ r1 h1) (by kernel_rfl) (by kernel_rfl) ?_
  refine zE ?_
  refine q_next (pwp_seq (pwp_seq (r_reg ?_)))
  refine zE ?_
  refine q_next (pwp_block ?_)
  refine pwp_wkr (wkr_nilH 3 13 200313 2 16 (cs := [.str a1.Name, .int .i64 a1.Entry, .int .i64 a1.Exit, lstOf .frozen (a1.Path : (List T_api_Step)), lstOf .frozen (a1.Points : (List T_api_Setting)), lstOf .frozen (a1.Sections : (List Int)), .int .i64 a1.Approach, .int .i64 a1.Length, lstOf .frozen (a1.Over : (List T_api_Step)), lstOf .frozen (a1.OverPoints : (List T_api_Setting)), lstOf .frozen (a1.OverSections : (List Int)), .nil, .nil, .nil]) (by kernel_rfl) (by kernel_rfl) (by kernel_rfl)) ?_
  obtain ⟨o72, h72, h⟩ := o_inl h
  refine r_loop2 61 0 (fun (x55, x56, x57, x58) => ⟨[(2, .ref 2 0), (3, .ref 3 0), (4, .ref 4 0), (5, lstOf (.own 115005) (r1 : (List T_api_End))), (6, .int .i64 x55)], [(2, .cells (cellsOf a0)), (3, .cells ([.str a1.Name, .int .i64 a1.Entry, .int .i64 a1.Exit, lstOf .frozen (a1.Path : (List T_api_Step)), lstOf .frozen (a1.Points : (List T_api_Setting)), lstOf .frozen (a1.Sections : (List Int)), .int .i64 a1.Approach, .int .i64 a1.Length, lstOf .frozen (a1.Over : (List T_api_Step)), lstOf .frozen (a1.OverPoints : (List T_api_Setting)), lstOf .frozen (a1.OverSections : (List Int)), lstOf .frozen (x56 : (List T_api_Setting)), lstOf .frozen (x57 : (List Int)), lstOf (.own 200313) (x58 : (List T_api_End))])), (4, .cells ([.str ByteArray.empty, .int .i64 0, .int .i64 0, .nil, .nil, .nil, .int .i64 0, .int .i64 0, .nil, .nil, .nil, .nil, .nil, .nil]))], [(115005, (((r1).map cellsOf).length, 2)), (200313, (((x58).map cellsOf).length, 2))], []⟩) (fun (x84, x85, x86) => ⟨[(3, .ref 3 0), (4, .ref 4 0)], [(3, .cells ([.str a1.Name, .int .i64 a1.Entry, .int .i64 a1.Exit, lstOf .frozen (a1.Path : (List T_api_Step)), lstOf .frozen (a1.Points : (List T_api_Setting)), lstOf .frozen (a1.Sections : (List Int)), .int .i64 a1.Approach, .int .i64 a1.Length, lstOf .frozen (a1.Over : (List T_api_Step)), lstOf .frozen (a1.OverPoints : (List T_api_Setting)), lstOf .frozen (a1.OverSections : (List Int)), lstOf .frozen (x84 : (List T_api_Setting)), lstOf .frozen (x85 : (List Int)), lstOf (.own 200313) (x86 : (List T_api_End))])), (4, .cells ([.str ByteArray.empty, .int .i64 0, .int .i64 0, .nil, .nil, .nil, .int .i64 0, .int .i64 0, .nil, .nil, .nil, .nil, .nil, .nil]))], [(200313, (((x86).map cellsOf).length, 2))], []⟩) h72 (by kernel_rfl) (fun _ => by kernel_rfl) ?_ ?_
  · rintro ⟨x55, x56, x57, x58⟩ oh71 h71
    unfold d_ref14_Find_0 at h71
    refine pwp_seq (pwp_seq (r_reg ?_))
    refine zR 2 ?_
    refine p_len (L := (r1 : (List T_api_End))) (by kernel_rfl) ?_
    refine zE ?_
    refine q_next ?_
    rcases o_cond h71 with ⟨hb, h71⟩ | ⟨hb, h71⟩
    · refine zT hb ?_
      refine pwp_skip (q_next ?_)
      obtain ⟨o84, h84, h71⟩ := o_inl h71
      refine r_join (o := o84) 61 (fun (x98, x99, x100) => ⟨[(2, .ref 2 0), (3, .ref 3 0), (4, .ref 4 0), (5, lstOf (.own 115005) (r1 : (List T_api_End))), (6, .int .i64 x55)], [(2, .cells (cellsOf a0)), (3, .cells ([.str a1.Name, .int .i64 a1.Entry, .int .i64 a1.Exit, lstOf .frozen (a1.Path : (List T_api_Step)), lstOf .frozen (a1.Points : (List T_api_Setting)), lstOf .frozen (a1.Sections : (List Int)), .int .i64 a1.Approach, .int .i64 a1.Length, lstOf .frozen (a1.Over : (List T_api_Step)), lstOf .frozen (a1.OverPoints : (List T_api_Setting)), lstOf .frozen (a1.OverSections : (List Int)), lstOf .frozen (x98 : (List T_api_Setting)), lstOf .frozen (x99 : (List Int)), lstOf (.own 200313) (x100 : (List T_api_End))])), (4, .cells ([.str ByteArray.empty, .int .i64 0, .int .i64 0, .nil, .nil, .nil, .int .i64 0, .int .i64 0, .nil, .nil, .nil, .nil, .nil, .nil]))], [(115005, (((r1).map cellsOf).length, 2)), (200313, (((x100).map cellsOf).length, 2))], []⟩) ?_ ?_
      · refine pwp_block (pwp_seq ?_)
        refine r_regd (by kernel_rfl) (by kernel_rfl) ?_
        refine zR 4 ?_
        obtain ⟨x101, h85, h84⟩ := o_bind h84
        refine zI h85 ?_
        refine zR 1 ?_
        obtain ⟨r102, h86, h84⟩ := o_bind h84
        refine p_call (d_ref14_Search_ok _ _ _ r102 h86) (by kernel_rfl) (by kernel_rfl) ?_
        refine zE ?_
        refine q_next ?_
        obtain ⟨o89, h89, h84⟩ := o_inl h84
        refine r_join (o := o89) 61 (fun x105 => ⟨[(2, .ref 2 0), (3, .ref 3 0), (4, .ref 4 0), (5, lstOf (.own 115005) (r1 : (List T_api_End))), (6, .int .i64 x55), (7, .ref 7 0), (8, .int .i64 r102.2.1)], [(2, .cells (cellsOf a0)), (3, .cells ([.str a1.Name, .int .i64 a1.Entry, .int .i64 a1.Exit, lstOf .frozen (a1.Path : (List T_api_Step)), lstOf .frozen (a1.Points : (List T_api_Setting)), lstOf .frozen (a1.Sections : (List Int)), .int .i64 a1.Approach, .int .i64 a1.Length, lstOf .frozen (a1.Over : (List T_api_Step)), lstOf .frozen (a1.OverPoints : (List T_api_Setting)), lstOf .frozen (a1.OverSections : (List Int)), lstOf .frozen (x56 : (List T_api_Setting)), lstOf .frozen (x57 : (List Int)), lstOf (.own 200313) (x105 : (List T_api_End))])), (4, .cells ([.str ByteArray.empty, .int .i64 0, .int .i64 0, .nil, .nil, .nil, .int .i64 0, .int .i64 0, .nil, .nil, .nil, .nil, .nil, .nil])), (7, .cells (cellsOf r102.1))], [(115005, (((r1).map cellsOf).length, 2)), (200313, (((x105).map cellsOf).length, 2))], []⟩) ?_ ?_
        · refine pwp_seq (r_reg ?_)
          refine zE ?_
          refine q_next ?_
          rcases o_cond h89 with ⟨hb, h89⟩ | ⟨hb, h89⟩
          · refine zT hb ?_
            refine r_regd (by kernel_rfl) (by kernel_rfl) ?_
            refine zR 4 ?_
            obtain ⟨x106, h90, h89⟩ := o_bind h89
            refine zI h90 ?_
            refine zR 2 ?_
            obtain ⟨x107, h91, h89⟩ := o_bind h89
            refine p_app (tk := 200313) h91 (by kernel_rfl) (by kernel_rfl) ?_
            refine zE ?_
            cases h89
            exact zJ
          refine zU hb ?_
          refine pwp_skip ?_
          cases h89
          exact zJ
        rintro x105 rfl
        have h84 := o_outl h84
        obtain ⟨o93, h93, h84⟩ := o_inl h84
        refine r_join (o := o93) 61 (fun x109 => ⟨[(2, .ref 2 0), (3, .ref 3 0), (4, .ref 4 0), (5, lstOf (.own 115005) (r1 : (List T_api_End))), (6, .int .i64 x55), (8, .int .i64 r102.2.1)], [(2, .cells (cellsOf a0)), (3, .cells ([.str a1.Name, .int .i64 a1.Entry, .int .i64 a1.Exit, lstOf .frozen (a1.Path : (List T_api_Step)), lstOf .frozen (a1.Points : (List T_api_Setting)), lstOf .frozen (a1.Sections : (List Int)), .int .i64 a1.Approach, .int .i64 a1.Length, lstOf .frozen (a1.Over : (List T_api_Step)), lstOf .frozen (a1.OverPoints : (List T_api_Setting)), lstOf .frozen (a1.OverSections : (List Int)), lstOf .frozen (x109 : (List T_api_Setting)), lstOf .frozen (x57 : (List Int)), lstOf (.own 200313) (x105 : (List T_api_End))])), (4, .cells ([.str ByteArray.empty, .int .i64 0, .int .i64 0, .nil, .nil, .nil, .int .i64 0, .int .i64 0, .nil, .nil, .nil, .nil, .nil, .nil]))], [(115005, (((r1).map cellsOf).length, 2)), (200313, (((x105).map cellsOf).length, 2))], []⟩) ?_ ?_
        · refine pwp_seq (r_reg ?_)
          refine zE ?_
          refine q_next ?_
          rcases o_cond h93 with ⟨hb, h93⟩ | ⟨hb, h93⟩
          · refine zT hb ?_
            refine r_reg ?_
            refine zR 3 ?_
            obtain ⟨r110, h94, h93⟩ := o_bind h93
            refine p_call (d_ref14_put_ok _ _ r110 h94) (by kernel_rfl) (by kernel_rfl) ?_
            refine zE ?_
            cases h93
            exact zJ
          refine zU hb ?_
          refine pwp_skip ?_
          cases h93
          exact zJ
        rintro x109 rfl
        have h84 := o_outl h84
        refine pwp_seq (r_reg ?_)
        refine zE ?_
        refine q_next ?_
        rcases o_cond h84 with ⟨hb, h84⟩ | ⟨hb, h84⟩
        · refine zT hb ?_
          refine r_reg ?_
          refine zR 4 ?_
          obtain ⟨r111, h95, h84⟩ := o_bind h84
          refine p_call (d_ref02_Union_ok _ _ r111 h95) (by kernel_rfl) (by kernel_rfl) ?_
          refine zE ?_
          refine q_block ?_
          cases h84
          exact zJ
        refine zU hb ?_
        refine pwp_skip (q_block ?_)
        cases h84
        exact zJ
      rintro ⟨x98, x99, x100⟩ rfl
      have h71 := o_outl h71
      refine r_reg ?_
      refine zE ?_
      cases h71
      exact zB
    refine zU hb ?_
    refine pwp_exit (q_seq_exit ?_)
    cases h71
    exact zX
  rintro ⟨x84, x85, x86⟩ s' rfl hs
  have h := o_outl h
  refine q_block_hit ?_
  refine q_next (pwp_wkr hs ?_)
  refine pwp_seq (r_reg ?_)
  refine zE ?_
  refine q_next (pwp_ret ?_)
  cases h
  exact zQ

/-! signallingref16.Build -/
noncomputable def d_ref16_Build_0 (a0 : T_api_Layout) (r1 : ((List T_api_Route) × Int)) : (Int × (List T_api_Route)) → Option ((Int × (List T_api_Route)) ⊕ ((List T_api_Route) ⊕ (T_api_Table × Int))) := fun (x12, x13) =>
  bif decide (x12 < ((r1.1.length : Nat) : Int)) then (
    (ixO r1.1 x12).bind fun x19 =>
    (d_ref13_Find a0 x19).bind fun r20 =>
    (d_ref14_Find a0 r20).bind fun r21 =>
    (appO x13 [r21]).bind fun x22 =>
    some (.inl (w64 (x12 + 1), x22))
  ) else (
    some (.inr (.inl x13))
  )

noncomputable def d_ref16_Build_1 (a0 : T_api_Layout) (r2 : (List Int)) : (Int × (List Int)) → Option ((Int × (List Int)) ⊕ ((List Int) ⊕ (T_api_Table × Int))) := fun (x30, x31) =>
  bif decide (x30 < ((r2.length : Nat) : Int)) then (
    (ixO r2 x30).bind fun x36 =>
    (d_ref07_Section a0 x36).bind fun r37 =>
    (appO x31 [r37]).bind fun x38 =>
    some (.inl (w64 (x30 + 1), x38))
  ) else (
    some (.inr (.inl x31))
  )

noncomputable def d_ref16_Build (a0 : T_api_Layout) : Option (T_api_Table × Int) :=
  (d_ref12_All a0).bind fun r1 =>
  bif (!(decide (r1.2 = 0))) then (
    some ((T_api_Table.mk [] [] [] 0 0), r1.2)
  ) else (
    (d_ref07_Points a0).bind fun r2 =>
    onInl (α := (List T_api_Route)) (β := (T_api_Table × Int)) (loopO (d_ref16_Build_0 a0 r1) (0, ([] : (List T_api_Route)))) fun x18 =>
    onInl (α := (List Int)) (β := (T_api_Table × Int)) (loopO (d_ref16_Build_1 a0 r2) (0, ([] : (List Int)))) fun x35 =>
    some ((T_api_Table.mk x18 r2 x35 ((a0.Sections.length : Nat) : Int) ((a0.Signals.length : Nat) : Int)), 0)
  )
theorem d_ref16_Build_ok (a0 : T_api_Layout) (r : (T_api_Table × Int)) (h : d_ref16_Build a0 = some r) : PCall Go.Proofs.Tryz.prog GlS 16 [Enc.pv a0] (.tup [Enc.pv r.1, Enc.pv r.2]) := by
  unfold d_ref16_Build at h
  refine pcall_of_pwp Go.Proofs.Tryz.func16 (by rfl) rfl Go.Proofs.Tryz.ntmps16 (by rfl) rfl ?_
  refine pwp_seq (r_reg ?_)
  refine zE ?_
  refine q_next (pwp_seq (r_reg ?_))
  refine zR 1 ?_
  obtain ⟨r1, h1, h⟩ := o_bind h
  refine p_call (d_ref12_All_ok _ r1 h1) (by kernel_rfl) (by kernel_rfl) ?_
  refine zE ?_
  refine q_next (pwp_seq (pwp_seq (r_reg ?_)))
  refine zE ?_
  refine q_next ?_
  rcases o_cond h with ⟨hb, h⟩ | ⟨hb, h⟩
  · refine zT hb ?_
    refine pwp_seq (r_reg ?_)
    refine zE ?_
    refine q_next (pwp_ret (q_seq_ret ?_))
    cases h
    exact zQ
  refine zU hb ?_
  refine pwp_skip (q_next (pwp_seq ?_))
  refine r_regd (by kernel_rfl) (by kernel_rfl) ?_
  refine zR 1 ?_
  obtain ⟨r2, h2, h⟩ := o_bind h
  refine p_call (d_ref07_Points_fz _ r2 h2) (by kernel_rfl) (by kernel_rfl) ?_
  refine zR 2 ?_
  refine p_len (L := (a0.Sections : (List ByteArray))) (by kernel_rfl) ?_
  refine zR 2 ?_
  refine p_len (L := (a0.Signals : (List T_api_Signal))) (by kernel_rfl) ?_
  refine zE ?_
  refine q_next (pwp_seq (pwp_seq (r_reg ?_)))
  refine zR 1 ?_
  refine p_len (L := (r1.1 : (List T_api_Route))) (by kernel_rfl) ?_
  refine zE ?_
  refine q_next (pwp_block ?_)
  refine pwp_wkr (wkr_nilH 6 0 200600 14 264 (cs := [.nil, lstOf .frozen (r2 : (List Int)), .nil, .int .i64 ((a0.Sections.length : Nat) : Int), .int .i64 ((a0.Signals.length : Nat) : Int)]) (by kernel_rfl) (by kernel_rfl) (by kernel_rfl)) ?_
  obtain ⟨o16, h16, h⟩ := o_inl h
  refine r_loop2 63 0 (fun (x12, x13) => ⟨[(1, .ref 1 0), (2, .ref 2 0), (6, .ref 6 0), (29, lstOf .frozen (r1.1 : (List T_api_Route))), (30, .int .i64 ((r1.1.length : Nat) : Int)), (31, .int .i64 x12)], [(1, .cells (cellsOf a0)), (2, .cells ([.nil, .nil, .nil, .int .i64 0, .int .i64 0])), (6, .cells ([lstOf (.own 200600) (x13 : (List T_api_Route)), lstOf .frozen (r2 : (List Int)), .nil, .int .i64 ((a0.Sections.length : Nat) : Int), .int .i64 ((a0.Signals.length : Nat) : Int)]))], [(200600, (((x13).map cellsOf).length, 14))], []⟩) (fun x18 => ⟨[(1, .ref 1 0), (2, .ref 2 0), (6, .ref 6 0)], [(1, .cells (cellsOf a0)), (2, .cells ([.nil, .nil, .nil, .int .i64 0, .int .i64 0])), (6, .cells ([lstOf (.own 200600) (x18 : (List T_api_Route)), lstOf .frozen (r2 : (List Int)), .nil, .int .i64 ((a0.Sections.length : Nat) : Int), .int .i64 ((a0.Signals.length : Nat) : Int)]))], [(200600, (((x18).map cellsOf).length, 14))], []⟩) h16 (by kernel_rfl) (fun _ => by kernel_rfl) ?_ ?_
  · rintro ⟨x12, x13⟩ oh15 h15
    unfold d_ref16_Build_0 at h15
    refine pwp_seq (r_reg ?_)
    refine zE ?_
    refine q_next (pwp_seq ?_)
    rcases o_cond h15 with ⟨hb, h15⟩ | ⟨hb, h15⟩
    · refine zT hb ?_
      refine pwp_skip (q_next (pwp_seq (pwp_block (pwp_seq (r_reg ?_)))))
      obtain ⟨x19, h17, h15⟩ := o_bind h15
      refine zI h17 ?_
      refine zE ?_
      refine q_next ?_
      refine r_regd (by kernel_rfl) (by kernel_rfl) ?_
      refine zR 5 ?_
      obtain ⟨r20, h18, h15⟩ := o_bind h15
      refine p_call (d_ref13_Find_ok _ _ r20 h18) (by kernel_rfl) (by kernel_rfl) ?_
      obtain ⟨r21, h19, h15⟩ := o_bind h15
      refine p_call (d_ref14_Find_ok _ _ r21 h19) (by kernel_rfl) (by kernel_rfl) ?_
      refine zR 1 ?_
      obtain ⟨x22, h20, h15⟩ := o_bind h15
      refine p_app (tk := 200600) h20 (by kernel_rfl) (by kernel_rfl) ?_
      refine zE ?_
      refine q_block (q_next (r_reg ?_))
      refine zE ?_
      cases h15
      exact zB
    refine zU hb ?_
    refine pwp_exit (q_seq_exit ?_)
    cases h15
    exact zX
  rintro x18 s' rfl hs
  have h := o_outl h
  refine q_block_hit ?_
  refine q_next (pwp_wkr hs ?_)
  refine pwp_seq (pwp_seq (r_reg ?_))
  refine zR 2 ?_
  refine p_len (L := (r2 : (List Int))) (by kernel_rfl) ?_
  refine zE ?_
  refine q_next (pwp_block ?_)
  refine pwp_wkr (wkr_nilH 6 2 200602 1 8 (cs := [lstOf (.own 200600) (x18 : (List T_api_Route)), lstOf .frozen (r2 : (List Int)), .nil, .int .i64 ((a0.Sections.length : Nat) : Int), .int .i64 ((a0.Signals.length : Nat) : Int)]) (by kernel_rfl) (by kernel_rfl) (by kernel_rfl)) ?_
  obtain ⟨o31, h31, h⟩ := o_inl h
  refine r_loop2 63 2 (fun (x30, x31) => ⟨[(1, .ref 1 0), (2, .ref 2 0), (6, .ref 6 0), (47, lstOf .frozen (r2 : (List Int))), (48, .int .i64 ((r2.length : Nat) : Int)), (49, .int .i64 x30)], [(1, .cells (cellsOf a0)), (2, .cells ([.nil, .nil, .nil, .int .i64 0, .int .i64 0])), (6, .cells ([lstOf (.own 200600) (x18 : (List T_api_Route)), lstOf .frozen (r2 : (List Int)), lstOf (.own 200602) (x31 : (List Int)), .int .i64 ((a0.Sections.length : Nat) : Int), .int .i64 ((a0.Signals.length : Nat) : Int)]))], [(200600, (((x18).map cellsOf).length, 14)), (200602, (((x31).map cellsOf).length, 1))], []⟩) (fun x35 => ⟨[(2, .ref 2 0), (6, .ref 6 0)], [(2, .cells ([.nil, .nil, .nil, .int .i64 0, .int .i64 0])), (6, .cells ([lstOf (.own 200600) (x18 : (List T_api_Route)), lstOf .frozen (r2 : (List Int)), lstOf (.own 200602) (x35 : (List Int)), .int .i64 ((a0.Sections.length : Nat) : Int), .int .i64 ((a0.Signals.length : Nat) : Int)]))], [(200600, (((x18).map cellsOf).length, 14)), (200602, (((x35).map cellsOf).length, 1))], []⟩) h31 (by kernel_rfl) (fun _ => by kernel_rfl) ?_ ?_
  · rintro ⟨x30, x31⟩ oh30 h30
    unfold d_ref16_Build_1 at h30
    refine pwp_seq (r_reg ?_)
    refine zE ?_
    refine q_next (pwp_seq ?_)
    rcases o_cond h30 with ⟨hb, h30⟩ | ⟨hb, h30⟩
    · refine zT hb ?_
      refine pwp_skip (q_next (pwp_seq (pwp_block (pwp_seq (r_reg ?_)))))
      obtain ⟨x36, h32, h30⟩ := o_bind h30
      refine zI h32 ?_
      refine zE ?_
      refine q_next ?_
      refine r_regd (by kernel_rfl) (by kernel_rfl) ?_
      refine zR 4 ?_
      obtain ⟨r37, h33, h30⟩ := o_bind h30
      refine p_call (d_ref07_Section_ok _ _ r37 h33) (by kernel_rfl) (by kernel_rfl) ?_
      refine zR 1 ?_
      obtain ⟨x38, h34, h30⟩ := o_bind h30
      refine p_app (tk := 200602) h34 (by kernel_rfl) (by kernel_rfl) ?_
      refine zE ?_
      refine q_block (q_next (r_reg ?_))
      refine zE ?_
      cases h30
      exact zB
    refine zU hb ?_
    refine pwp_exit (q_seq_exit ?_)
    cases h30
    exact zX
  rintro x35 s' rfl hs
  have h := o_outl h
  refine q_block_hit ?_
  refine q_next (pwp_wkr hs ?_)
  refine pwp_seq (r_reg ?_)
  refine zE ?_
  refine q_next (pwp_ret ?_)
  cases h
  exact zQ

/-! layout.within -/
noncomputable def d_layout_within (a0 : Int) (a1 : Int) (a2 : Int) : Option Bool :=
  some ((decide (a1 ≤ a0)) && (decide (a0 ≤ a2)))
theorem d_layout_within_ok (a0 : Int) (a1 : Int) (a2 : Int) (r : Bool) (h : d_layout_within a0 a1 a2 = some r) : PCall Go.Proofs.Tryz.prog GlS 92 [Enc.pv a0, Enc.pv a1, Enc.pv a2] (Enc.pv r) := by
  unfold d_layout_within at h
  refine pcall_of_pwp Go.Proofs.Tryz.func92 (by rfl) rfl Go.Proofs.Tryz.ntmps92 (by rfl) rfl ?_
  refine pwp_seq (r_reg ?_)
  refine zE ?_
  refine q_next (pwp_seq (r_reg ?_))
  refine zR 4 ?_
  refine e_segb 4 14 ((decide (a1 ≤ a0)) && (decide (a0 ≤ a2))) (fun x hx => ?_) ?_
  · rcases b_and hx with ⟨hb, hx⟩ | ⟨hb, hx⟩
    · refine zS 10 hb ?_
      subst hx
      exact zF
    refine zS 10 hb ?_
    subst hx
    exact zF
  refine zE ?_
  refine q_next (pwp_ret ?_)
  cases h
  exact zQ

/-! layout.countsFit -/
noncomputable def d_layout_countsFit (a0 : T_api_Layout) : Option Bool :=
  (d_layout_within ((a0.Elements.length : Nat) : Int) 1 32).bind fun r1 =>
  ((bif r1 then (
    (d_layout_within ((a0.Sections.length : Nat) : Int) 1 24).bind fun r3 =>
    some r3
  ) else some false) : Option Bool).bind fun b2 =>
  ((bif b2 then (
    some (decide (((a0.Signals.length : Nat) : Int) ≤ 20))
  ) else some false) : Option Bool).bind fun b4 =>
  ((bif b4 then (
    some (decide (((a0.Balises.length : Nat) : Int) ≤ 24))
  ) else some false) : Option Bool).bind fun b5 =>
  some b5
theorem d_layout_countsFit_ok (a0 : T_api_Layout) (r : Bool) (h : d_layout_countsFit a0 = some r) : PCall Go.Proofs.Tryz.prog GlS 50 [Enc.pv a0] (Enc.pv r) := by
  unfold d_layout_countsFit at h
  refine pcall_of_pwp Go.Proofs.Tryz.func50 (by rfl) rfl Go.Proofs.Tryz.ntmps50 (by rfl) rfl ?_
  refine pwp_seq (r_reg ?_)
  refine zE ?_
  refine q_next (pwp_seq (r_reg ?_))
  refine zR 2 ?_
  refine p_len (L := (a0.Elements : (List T_api_Element))) (by kernel_rfl) ?_
  obtain ⟨r1, h1, h⟩ := o_bind h
  refine p_call (d_layout_within_ok _ _ _ r1 h1) (by kernel_rfl) (by kernel_rfl) ?_
  obtain ⟨b2, h2, h⟩ := o_bind h
  refine zR 1 ?_
  refine e_seg 5 12 (.bool b2) ?_ ?_
  · rcases o_cond h2 with ⟨hb, h2⟩ | ⟨hb, h2⟩
    · refine zS 7 hb ?_
      refine zR 2 ?_
      refine p_len (L := (a0.Sections : (List ByteArray))) (by kernel_rfl) ?_
      obtain ⟨r3, h3, h2⟩ := o_bind h2
      refine p_call (d_layout_within_ok _ _ _ r3 h3) (by kernel_rfl) (by kernel_rfl) ?_
      cases h2
      exact zF
    refine zS 7 hb ?_
    cases h2
    exact zF
  obtain ⟨b4, h4, h⟩ := o_bind h
  refine zR 1 ?_
  refine e_seg 5 18 (.bool b4) ?_ ?_
  · rcases o_cond h4 with ⟨hb, h4⟩ | ⟨hb, h4⟩
    · refine zS 13 hb ?_
      refine zR 2 ?_
      refine p_len (L := (a0.Signals : (List T_api_Signal))) (by kernel_rfl) ?_
      cases h4
      exact zF
    refine zS 13 hb ?_
    cases h4
    exact zF
  obtain ⟨b5, h5, h⟩ := o_bind h
  refine zR 1 ?_
  refine e_seg 5 24 (.bool b5) ?_ ?_
  · rcases o_cond h5 with ⟨hb, h5⟩ | ⟨hb, h5⟩
    · refine zS 19 hb ?_
      refine zR 2 ?_
      refine p_len (L := (a0.Balises : (List T_api_Balise))) (by kernel_rfl) ?_
      cases h5
      exact zF
    refine zS 19 hb ?_
    cases h5
    exact zF
  refine zE ?_
  refine q_next (pwp_ret ?_)
  cases h
  exact zQ

/-! words.Name -/
noncomputable def d_words_Name_0 (a0 : ByteArray) : Nat → Option (Nat ⊕ (Unit ⊕ Bool)) := fun x5 =>
  bif decide (x5 < a0.size) then (
    bif ((((decide ((((Go.Utf8.decode a0 x5).1 : Nat) : Int) < 97)) || (decide (122 < (((Go.Utf8.decode a0 x5).1 : Nat) : Int)))) && ((decide ((((Go.Utf8.decode a0 x5).1 : Nat) : Int) < 48)) || (decide (57 < (((Go.Utf8.decode a0 x5).1 : Nat) : Int))))) && (!(decide ((((Go.Utf8.decode a0 x5).1 : Nat) : Int) = 95)))) then (
      some (.inr (.inr false))
    ) else (
      some (.inl (x5 + (Go.Utf8.decode a0 x5).2))
    )
  ) else (
    some (.inr (.inl ()))
  )

noncomputable def d_words_Name (a0 : ByteArray) : Option Bool :=
  ((bif ((decide (a0 = ByteArray.empty)) || (decide (12 < ((a0.size : Nat) : Int)))) then some true else (
    (sixO a0 0).bind fun x2 =>
    some (decide (x2 < 97))
  )) : Option Bool).bind fun b1 =>
  ((bif b1 then some true else (
    (sixO a0 0).bind fun x4 =>
    some (decide (122 < x4))
  )) : Option Bool).bind fun b3 =>
  bif b3 then (
    some false
  ) else (
    onInl (α := Unit) (β := Bool) (loopO (d_words_Name_0 a0) 0) fun _ =>
    some true
  )
theorem d_words_Name_ok (a0 : ByteArray) (r : Bool) (h : d_words_Name a0 = some r) : PCall Go.Proofs.Tryz.prog GlS 57 [Enc.pv a0] (Enc.pv r) := by
  unfold d_words_Name at h
  refine pcall_of_pwp Go.Proofs.Tryz.func57 (by rfl) rfl Go.Proofs.Tryz.ntmps57 (by rfl) rfl ?_
  refine pwp_seq (r_reg ?_)
  refine zE ?_
  refine q_next (pwp_seq (pwp_seq (r_reg ?_)))
  refine zR 3 ?_
  refine e_segb 4 11 ((decide (a0 = ByteArray.empty)) || (decide (12 < ((a0.size : Nat) : Int)))) (fun x hx => ?_) ?_
  · rcases b_or hx with ⟨hb, hx⟩ | ⟨hb, hx⟩
    · refine zS 7 hb ?_
      subst hx
      exact zF
    refine zS 7 hb ?_
    subst hx
    exact zF
  obtain ⟨b1, h1, h⟩ := o_bind h
  refine zR 1 ?_
  refine e_seg 4 16 (.bool b1) ?_ ?_
  · rcases o_cond h1 with ⟨hb, h1⟩ | ⟨hb, h1⟩
    · refine zS 12 hb ?_
      cases h1
      exact zF
    refine zS 12 hb ?_
    refine zR 1 ?_
    obtain ⟨x2, h2, h1⟩ := o_bind h1
    refine p_six h2 (by kernel_rfl) ?_
    cases h1
    exact zF
  obtain ⟨b3, h3, h⟩ := o_bind h
  refine zR 1 ?_
  refine e_seg 4 21 (.bool b3) ?_ ?_
  · rcases o_cond h3 with ⟨hb, h3⟩ | ⟨hb, h3⟩
    · refine zS 17 hb ?_
      cases h3
      exact zF
    refine zS 17 hb ?_
    refine zR 1 ?_
    obtain ⟨x4, h4, h3⟩ := o_bind h3
    refine p_six h4 (by kernel_rfl) ?_
    cases h3
    exact zF
  refine zN ?_
  refine q_next ?_
  rcases o_cond h with ⟨hb, h⟩ | ⟨hb, h⟩
  · refine zT hb ?_
    refine pwp_seq (r_reg ?_)
    refine zE ?_
    refine q_next (pwp_ret (q_seq_ret ?_))
    cases h
    exact zQ
  refine zU hb ?_
  refine pwp_skip (q_next (pwp_seq (pwp_seq (r_reg ?_))))
  refine zR 1 ?_
  refine p_range (b := a0) (l := 23) (by kernel_rfl) ?_
  refine zN ?_
  refine q_next (pwp_block ?_)
  obtain ⟨o8, h8, h⟩ := o_inl h
  refine r_loop2 45 0 (fun x5 => ⟨[(23, .ref 23 0)], [(23, .iter a0 x5)], [], []⟩) (fun (_ : Unit) => ⟨[], [], [], []⟩) h8 (by kernel_rfl) (fun _ => by kernel_rfl) ?_ ?_
  · rintro x5 oh7 h7
    unfold d_words_Name_0 at h7
    refine pwp_seq (r_reg ?_)
    rcases o_cond h7 with ⟨hb, h7⟩ | ⟨hb, h7⟩
    · refine p_next_t (b := a0) (pos := x5) 23 (by kernel_rfl) hb (by kernel_rfl) ?_
      refine zE ?_
      refine q_next (pwp_seq ?_)
      refine r_cond_t (b := true) rfl (by kernel_rfl) ?_
      refine pwp_skip (q_next (pwp_block (pwp_seq (r_reg ?_))))
      refine zE ?_
      refine q_next (pwp_seq (r_reg ?_))
      refine zR 3 ?_
      refine e_segb 3 32 ((decide ((((Go.Utf8.decode a0 x5).1 : Nat) : Int) < 97)) || (decide (122 < (((Go.Utf8.decode a0 x5).1 : Nat) : Int)))) (fun x hx => ?_) ?_
      · rcases b_or hx with ⟨hb, hx⟩ | ⟨hb, hx⟩
        · refine zS 29 hb ?_
          subst hx
          exact zF
        refine zS 29 hb ?_
        subst hx
        exact zF
      refine zR 1 ?_
      refine e_segb 7 40 (((decide ((((Go.Utf8.decode a0 x5).1 : Nat) : Int) < 97)) || (decide (122 < (((Go.Utf8.decode a0 x5).1 : Nat) : Int)))) && ((decide ((((Go.Utf8.decode a0 x5).1 : Nat) : Int) < 48)) || (decide (57 < (((Go.Utf8.decode a0 x5).1 : Nat) : Int))))) (fun x hx => ?_) ?_
      · rcases b_and hx with ⟨hb, hx⟩ | ⟨hb, hx⟩
        · refine zS 33 hb ?_
          refine zR 3 ?_
          refine f_segb 3 39 ((decide ((((Go.Utf8.decode a0 x5).1 : Nat) : Int) < 48)) || (decide (57 < (((Go.Utf8.decode a0 x5).1 : Nat) : Int)))) (fun x hx => ?_) ?_
          · rcases b_or hx with ⟨hb, hx⟩ | ⟨hb, hx⟩
            · refine zS 36 hb ?_
              subst hx
              exact zF
            refine zS 36 hb ?_
            subst hx
            exact zF
          subst hx
          exact zF
        refine zS 33 hb ?_
        subst hx
        exact zF
      refine zR 1 ?_
      refine e_segb 3 44 ((((decide ((((Go.Utf8.decode a0 x5).1 : Nat) : Int) < 97)) || (decide (122 < (((Go.Utf8.decode a0 x5).1 : Nat) : Int)))) && ((decide ((((Go.Utf8.decode a0 x5).1 : Nat) : Int) < 48)) || (decide (57 < (((Go.Utf8.decode a0 x5).1 : Nat) : Int))))) && (!(decide ((((Go.Utf8.decode a0 x5).1 : Nat) : Int) = 95)))) (fun x hx => ?_) ?_
      · rcases b_and hx with ⟨hb, hx⟩ | ⟨hb, hx⟩
        · refine zS 41 hb ?_
          subst hx
          exact zF
        refine zS 41 hb ?_
        subst hx
        exact zF
      refine zN ?_
      refine q_next ?_
      rcases o_cond h7 with ⟨hb, h7⟩ | ⟨hb, h7⟩
      · refine zT hb ?_
        refine pwp_seq (r_reg ?_)
        refine zE ?_
        refine q_next (pwp_ret (q_block_ret ?_))
        cases h7
        refine q_lout_ret fun he => ?_
        subst he
        have h9 := o_outr h
        refine q_block_ret (q_seq_ret ?_)
        cases h9
        exact zQ
      refine zU hb ?_
      refine pwp_skip (q_block ?_)
      cases h7
      exact zB
    refine p_next_f (b := a0) (pos := x5) 23 (by kernel_rfl) hb (by kernel_rfl) ?_
    refine zE ?_
    refine q_next (pwp_seq ?_)
    refine r_cond_f (b := false) rfl (by kernel_rfl) ?_
    refine pwp_exit (q_seq_exit ?_)
    cases h7
    exact zX
  rintro _ s' rfl hs
  have h := o_outl h
  refine q_block_hit ?_
  refine q_next (pwp_wkr hs ?_)
  refine pwp_seq (r_reg ?_)
  refine zE ?_
  refine q_next (pwp_ret ?_)
  cases h
  exact zQ

/-! layout.checkNames -/
noncomputable def d_layout_checkNames_0 (a0 : T_api_Layout) : ((List ByteArray) × Int) → Option (((List ByteArray) × Int) ⊕ ((List ByteArray) ⊕ Int)) := fun (x4, x5) =>
  bif decide (x5 < ((a0.Elements.length : Nat) : Int)) then (
    (ixO a0.Elements x5).bind fun x9 =>
    (appO x4 [x9.Name]).bind fun x10 =>
    some (.inl (x10, w64 (x5 + 1)))
  ) else (
    some (.inr (.inl x4))
  )

noncomputable def d_layout_checkNames_1 (a0 : T_api_Layout) : ((List ByteArray) × Int) → Option (((List ByteArray) × Int) ⊕ ((List ByteArray) ⊕ Int)) := fun (x14, x15) =>
  bif decide (x15 < ((a0.Signals.length : Nat) : Int)) then (
    (ixO a0.Signals x15).bind fun x19 =>
    (appO x14 [x19.Name]).bind fun x20 =>
    some (.inl (x20, w64 (x15 + 1)))
  ) else (
    some (.inr (.inl x14))
  )

noncomputable def d_layout_checkNames_3 (x38 : (List ByteArray)) : Int → Option (Int ⊕ (Unit ⊕ (Int ⊕ (Unit ⊕ Int)))) := fun x41 =>
  bif decide (x41 < ((x38.length : Nat) : Int)) then (
    (ixO x38 x41).bind fun x44 =>
    (d_words_Name x44).bind fun r45 =>
    bif (!r45) then (
      some (.inr (.inr (.inr (.inr 3))))
    ) else (
      some (.inl (w64 (x41 + 1)))
    )
  ) else (
    some (.inr (.inl ()))
  )

noncomputable def d_layout_checkNames_2 (a0 : T_api_Layout) (x8 : (List ByteArray)) (x18 : (List ByteArray)) : Int → Option (Int ⊕ (Unit ⊕ Int)) := fun x29 =>
  bif decide (x29 < (([[a0.Name], a0.Sections, x8, x18].length : Nat) : Int)) then (
    (ixO [[a0.Name], a0.Sections, x8, x18] x29).bind fun x38 =>
    onInl (α := Unit) (β := (Int ⊕ (Unit ⊕ Int))) (loopO (d_layout_checkNames_3 x38) 0) fun _ =>
    some (.inl (w64 (x29 + 1)))
  ) else (
    some (.inr (.inl ()))
  )

noncomputable def d_layout_checkNames_5 (x59 : (List ByteArray)) : (Int × (List (ByteArray × Bool))) → Option ((Int × (List (ByteArray × Bool))) ⊕ (Unit ⊕ (Int ⊕ (Unit ⊕ Int)))) := fun (x61, x62) =>
  bif decide (x61 < ((x59.length : Nat) : Int)) then (
    (ixO x59 x61).bind fun x64 =>
    bif ((mget (x62 : (List (ByteArray × Bool))) x64).getD false) then (
      some (.inr (.inr (.inr (.inr 8))))
    ) else (
      some (.inl (w64 (x61 + 1), (mset x64 true x62)))
    )
  ) else (
    some (.inr (.inl ()))
  )

noncomputable def d_layout_checkNames_4 (a0 : T_api_Layout) (x8 : (List ByteArray)) (x18 : (List ByteArray)) : Int → Option (Int ⊕ (Unit ⊕ Int)) := fun x52 =>
  bif decide (x52 < (([[a0.Name], a0.Sections, x8, x18].length : Nat) : Int)) then (
    (ixO [[a0.Name], a0.Sections, x8, x18] x52).bind fun x59 =>
    onInl (α := Unit) (β := (Int ⊕ (Unit ⊕ Int))) (loopO (d_layout_checkNames_5 x59) (0, ([] : (List (ByteArray × Bool))))) fun _ =>
    some (.inl (w64 (x52 + 1)))
  ) else (
    some (.inr (.inl ()))
  )

noncomputable def d_layout_checkNames (a0 : T_api_Layout) : Option Int :=
  (mkO ByteArray ((a0.Elements.length : Nat) : Int)).bind fun x1 =>
  onInl (α := (List ByteArray)) (β := Int) (loopO (d_layout_checkNames_0 a0) (x1, 0)) fun x8 =>
  (mkO ByteArray ((a0.Signals.length : Nat) : Int)).bind fun x11 =>
  onInl (α := (List ByteArray)) (β := Int) (loopO (d_layout_checkNames_1 a0) (x11, 0)) fun x18 =>
  onInl (α := Unit) (β := Int) (loopO (d_layout_checkNames_2 a0 x8 x18) 0) fun _ =>
  onInl (α := Unit) (β := Int) (loopO (d_layout_checkNames_4 a0 x8 x18) 0) fun _ =>
  some 0
theorem d_layout_checkNames_ok (a0 : T_api_Layout) (r : Int) (h : d_layout_checkNames a0 = some r) : PCall Go.Proofs.Tryz.prog GlS 51 [Enc.pv a0] (Enc.pv r) := by
  unfold d_layout_checkNames at h
  refine pcall_of_pwp Go.Proofs.Tryz.func51 (by rfl) rfl Go.Proofs.Tryz.ntmps51 (by rfl) rfl ?_
  refine pwp_seq (r_reg ?_)
  refine zE ?_
  refine q_next (pwp_seq (r_reg ?_))
  refine zR 2 ?_
  refine p_len (L := (a0.Elements : (List T_api_Element))) (by kernel_rfl) ?_
  obtain ⟨x1, h1, h⟩ := o_bind h
  refine p_mks 22 h1 (by kernel_rfl) ?_
  refine zE ?_
  refine q_next (pwp_seq (pwp_seq (r_reg ?_)))
  refine zR 2 ?_
  refine p_len (L := (a0.Elements : (List T_api_Element))) (by kernel_rfl) ?_
  refine zE ?_
  refine q_next (pwp_block ?_)
  obtain ⟨o7, h7, h⟩ := o_inl h
  refine r_loop2 98 0 (fun (x4, x5) => ⟨[(1, .ref 1 0), (3, lstOf (.own 22) (x4 : (List ByteArray))), (24, lstOf .frozen (a0.Elements : (List T_api_Element))), (25, .int .i64 ((a0.Elements.length : Nat) : Int)), (26, .int .i64 x5)], [(1, .cells (cellsOf a0))], [(22, (((x4).map cellsOf).length, 1))], []⟩) (fun x8 => ⟨[(1, .ref 1 0), (3, lstOf (.own 22) (x8 : (List ByteArray)))], [(1, .cells (cellsOf a0))], [(22, (((x8).map cellsOf).length, 1))], []⟩) h7 (by kernel_rfl) (fun _ => by kernel_rfl) ?_ ?_
  · rintro ⟨x4, x5⟩ oh6 h6
    unfold d_layout_checkNames_0 at h6
    refine pwp_seq (r_reg ?_)
    refine zE ?_
    refine q_next (pwp_seq ?_)
    rcases o_cond h6 with ⟨hb, h6⟩ | ⟨hb, h6⟩
    · refine zT hb ?_
      refine pwp_skip (q_next (pwp_seq (pwp_block (pwp_seq (r_reg ?_)))))
      obtain ⟨x9, h8, h6⟩ := o_bind h6
      refine zI h8 ?_
      refine zE ?_
      refine q_next (r_reg ?_)
      refine zR 4 ?_
      obtain ⟨x10, h9, h6⟩ := o_bind h6
      refine p_app (tk := 22) h9 (by kernel_rfl) (by kernel_rfl) ?_
      refine zE ?_
      refine q_block (q_next (r_reg ?_))
      refine zE ?_
      cases h6
      exact zB
    refine zU hb ?_
    refine pwp_exit (q_seq_exit ?_)
    cases h6
    exact zX
  rintro x8 s' rfl hs
  have h := o_outl h
  refine q_block_hit ?_
  refine q_next (pwp_wkr hs ?_)
  refine pwp_seq (r_reg ?_)
  refine zR 2 ?_
  refine p_len (L := (a0.Signals : (List T_api_Signal))) (by kernel_rfl) ?_
  obtain ⟨x11, h10, h⟩ := o_bind h
  refine p_mks 39 h10 (by kernel_rfl) ?_
  refine zE ?_
  refine q_next (pwp_seq (pwp_seq (r_reg ?_)))
  refine zR 2 ?_
  refine p_len (L := (a0.Signals : (List T_api_Signal))) (by kernel_rfl) ?_
  refine zE ?_
  refine q_next (pwp_block ?_)
  obtain ⟨o16, h16, h⟩ := o_inl h
  refine r_loop2 98 2 (fun (x14, x15) => ⟨[(1, .ref 1 0), (3, lstOf (.own 22) (x8 : (List ByteArray))), (6, lstOf (.own 39) (x14 : (List ByteArray))), (41, lstOf .frozen (a0.Signals : (List T_api_Signal))), (42, .int .i64 ((a0.Signals.length : Nat) : Int)), (43, .int .i64 x15)], [(1, .cells (cellsOf a0))], [(22, (((x8).map cellsOf).length, 1)), (39, (((x14).map cellsOf).length, 1))], []⟩) (fun x18 => ⟨[(1, .ref 1 0), (3, lstOf (.own 22) (x8 : (List ByteArray))), (6, lstOf (.own 39) (x18 : (List ByteArray)))], [(1, .cells (cellsOf a0))], [(22, (((x8).map cellsOf).length, 1)), (39, (((x18).map cellsOf).length, 1))], []⟩) h16 (by kernel_rfl) (fun _ => by kernel_rfl) ?_ ?_
  · rintro ⟨x14, x15⟩ oh15 h15
    unfold d_layout_checkNames_1 at h15
    refine pwp_seq (r_reg ?_)
    refine zE ?_
    refine q_next (pwp_seq ?_)
    rcases o_cond h15 with ⟨hb, h15⟩ | ⟨hb, h15⟩
    · refine zT hb ?_
      refine pwp_skip (q_next (pwp_seq (pwp_block (pwp_seq (r_reg ?_)))))
      obtain ⟨x19, h17, h15⟩ := o_bind h15
      refine zI h17 ?_
      refine zE ?_
      refine q_next (r_reg ?_)
      refine zR 4 ?_
      obtain ⟨x20, h18, h15⟩ := o_bind h15
      refine p_app (tk := 39) h18 (by kernel_rfl) (by kernel_rfl) ?_
      refine zE ?_
      refine q_block (q_next (r_reg ?_))
      refine zE ?_
      cases h15
      exact zB
    refine zU hb ?_
    refine pwp_exit (q_seq_exit ?_)
    cases h15
    exact zX
  rintro x18 s' rfl hs
  have h := o_outl h
  refine q_block_hit ?_
  refine q_next (pwp_wkr hs ?_)
  refine pwp_seq (r_reg ?_)
  refine zE ?_
  refine q_next (pwp_seq (pwp_seq (r_reg ?_)))
  refine zR 1 ?_
  refine p_len (L := ([[a0.Name], a0.Sections, x8, x18] : (List (List ByteArray)))) (by kernel_rfl) ?_
  refine zE ?_
  refine q_next (pwp_block ?_)
  obtain ⟨o50, h50, h⟩ := o_inl h
  refine r_loop2 98 4 (fun x29 => ⟨[(9, lstOf .full ([[a0.Name], a0.Sections, x8, x18] : (List (List ByteArray)))), (61, lstOf .full ([[a0.Name], a0.Sections, x8, x18] : (List (List ByteArray)))), (62, .int .i64 (([[a0.Name], a0.Sections, x8, x18].length : Nat) : Int)), (63, .int .i64 x29)], [], [], []⟩) (fun (_ : Unit) => ⟨[(9, lstOf .full ([[a0.Name], a0.Sections, x8, x18] : (List (List ByteArray))))], [], [], []⟩) h50 (by kernel_rfl) (fun _ => by kernel_rfl) ?_ ?_
  · rintro x29 oh49 h49
    unfold d_layout_checkNames_2 at h49
    refine pwp_seq (r_reg ?_)
    refine zE ?_
    refine q_next (pwp_seq ?_)
    rcases o_cond h49 with ⟨hb, h49⟩ | ⟨hb, h49⟩
    · refine zT hb ?_
      refine pwp_skip (q_next (pwp_seq (pwp_block (pwp_seq (r_reg ?_)))))
      obtain ⟨x38, h51, h49⟩ := o_bind h49
      refine zI h51 ?_
      refine zE ?_
      refine q_next (pwp_seq (r_reg ?_))
      refine zR 1 ?_
      refine p_len (L := (x38 : (List ByteArray))) (by kernel_rfl) ?_
      refine zE ?_
      refine q_next (pwp_block ?_)
      obtain ⟨o61, h61, h49⟩ := o_inl h49
      refine r_loop2 98 6 (fun x41 => ⟨[(9, lstOf .full ([[a0.Name], a0.Sections, x8, x18] : (List (List ByteArray)))), (61, lstOf .full ([[a0.Name], a0.Sections, x8, x18] : (List (List ByteArray)))), (62, .int .i64 (([[a0.Name], a0.Sections, x8, x18].length : Nat) : Int)), (63, .int .i64 x29), (67, lstOf .frozen (x38 : (List ByteArray))), (68, .int .i64 ((x38.length : Nat) : Int)), (69, .int .i64 x41)], [], [], []⟩) (fun (_ : Unit) => ⟨[(9, lstOf .full ([[a0.Name], a0.Sections, x8, x18] : (List (List ByteArray)))), (61, lstOf .full ([[a0.Name], a0.Sections, x8, x18] : (List (List ByteArray)))), (62, .int .i64 (([[a0.Name], a0.Sections, x8, x18].length : Nat) : Int)), (63, .int .i64 x29)], [], [], []⟩) h61 (by kernel_rfl) (fun _ => by kernel_rfl) ?_ ?_
      · rintro x41 oh60 h60
        unfold d_layout_checkNames_3 at h60
        refine pwp_seq (r_reg ?_)
        refine zE ?_
        refine q_next (pwp_seq ?_)
        rcases o_cond h60 with ⟨hb, h60⟩ | ⟨hb, h60⟩
        · refine zT hb ?_
          refine pwp_skip (q_next (pwp_seq (pwp_block (pwp_seq (r_reg ?_)))))
          obtain ⟨x44, h62, h60⟩ := o_bind h60
          refine zI h62 ?_
          refine zE ?_
          refine q_next (pwp_seq (r_reg ?_))
          refine zR 1 ?_
          obtain ⟨r45, h63, h60⟩ := o_bind h60
          refine p_call (d_words_Name_ok _ r45 h63) (by kernel_rfl) (by kernel_rfl) ?_
          refine zE ?_
          refine q_next ?_
          rcases o_cond h60 with ⟨hb, h60⟩ | ⟨hb, h60⟩
          · refine zT hb ?_
            refine pwp_seq (r_reg ?_)
            refine zE ?_
            refine q_next (pwp_ret (q_block_ret (q_seq_ret ?_)))
            cases h60
            refine q_lout_ret fun he => ?_
            subst he
            have h64 := o_outr h49
            refine q_block_ret (q_block_ret (q_seq_ret ?_))
            cases h64
            refine q_lout_ret fun he => ?_
            subst he
            have h65 := o_outr h
            refine q_block_ret (q_seq_ret ?_)
            cases h65
            exact zQ
          refine zU hb ?_
          refine pwp_skip (q_block (q_next (r_reg ?_)))
          refine zE ?_
          cases h60
          exact zB
        refine zU hb ?_
        refine pwp_exit (q_seq_exit ?_)
        cases h60
        exact zX
      rintro _ s' rfl hs
      have h49 := o_outl h49
      refine q_block_hit (q_block ?_)
      refine q_next (pwp_wkr hs ?_)
      refine r_reg ?_
      refine zE ?_
      cases h49
      exact zB
    refine zU hb ?_
    refine pwp_exit (q_seq_exit ?_)
    cases h49
    exact zX
  rintro _ s' rfl hs
  have h := o_outl h
  refine q_block_hit ?_
  refine q_next (pwp_wkr hs ?_)
  refine pwp_seq (pwp_seq (r_reg ?_))
  refine zR 1 ?_
  refine p_len (L := ([[a0.Name], a0.Sections, x8, x18] : (List (List ByteArray)))) (by kernel_rfl) ?_
  refine zE ?_
  refine q_next (pwp_block ?_)
  obtain ⟨o91, h91, h⟩ := o_inl h
  refine r_loop2 98 8 (fun x52 => ⟨[(78, lstOf .full ([[a0.Name], a0.Sections, x8, x18] : (List (List ByteArray)))), (79, .int .i64 (([[a0.Name], a0.Sections, x8, x18].length : Nat) : Int)), (80, .int .i64 x52)], [], [], []⟩) (fun (_ : Unit) => ⟨[], [], [], []⟩) h91 (by kernel_rfl) (fun _ => by kernel_rfl) ?_ ?_
  · rintro x52 oh90 h90
    unfold d_layout_checkNames_4 at h90
    refine pwp_seq (r_reg ?_)
    refine zE ?_
    refine q_next (pwp_seq ?_)
    rcases o_cond h90 with ⟨hb, h90⟩ | ⟨hb, h90⟩
    · refine zT hb ?_
      refine pwp_skip (q_next (pwp_seq (pwp_block (pwp_seq (r_reg ?_)))))
      obtain ⟨x59, h92, h90⟩ := o_bind h90
      refine zI h92 ?_
      refine zE ?_
      refine q_next (pwp_seq (r_reg ?_))
      refine zE ?_
      refine q_next (pwp_seq (r_reg ?_))
      refine zR 1 ?_
      refine p_len (L := (x59 : (List ByteArray))) (by kernel_rfl) ?_
      refine zE ?_
      refine q_next (pwp_block ?_)
      obtain ⟨o100, h100, h90⟩ := o_inl h90
      refine r_loop2 98 10 (fun (x61, x62) => ⟨[(16, .mp 84), (78, lstOf .full ([[a0.Name], a0.Sections, x8, x18] : (List (List ByteArray)))), (79, .int .i64 (([[a0.Name], a0.Sections, x8, x18].length : Nat) : Int)), (80, .int .i64 x52), (85, lstOf .frozen (x59 : (List ByteArray))), (86, .int .i64 ((x59.length : Nat) : Int)), (87, .int .i64 x61)], [(84, .map (mpOf (x62 : (List (ByteArray × Bool)))))], [], []⟩) (fun (_ : Unit) => ⟨[(78, lstOf .full ([[a0.Name], a0.Sections, x8, x18] : (List (List ByteArray)))), (79, .int .i64 (([[a0.Name], a0.Sections, x8, x18].length : Nat) : Int)), (80, .int .i64 x52)], [], [], []⟩) h100 (by kernel_rfl) (fun _ => by kernel_rfl) ?_ ?_
      · rintro ⟨x61, x62⟩ oh99 h99
        unfold d_layout_checkNames_5 at h99
        refine pwp_seq (r_reg ?_)
        refine zE ?_
        refine q_next (pwp_seq ?_)
        rcases o_cond h99 with ⟨hb, h99⟩ | ⟨hb, h99⟩
        · refine zT hb ?_
          refine pwp_skip (q_next (pwp_seq (pwp_block (pwp_seq (r_reg ?_)))))
          obtain ⟨x64, h101, h99⟩ := o_bind h99
          refine zI h101 ?_
          refine zE ?_
          refine q_next (pwp_seq (pwp_seq (r_reg ?_)))
          refine zR 2 ?_
          refine p_lookup (m := (x62 : (List (ByteArray × Bool)))) (k := x64) false 84 (by kernel_rfl) (by kernel_rfl) ?_
          refine zN ?_
          refine q_next ?_
          rcases o_cond h99 with ⟨hb, h99⟩ | ⟨hb, h99⟩
          · refine zT hb ?_
            refine pwp_seq (r_reg ?_)
            refine zE ?_
            refine q_next (pwp_ret (q_seq_ret (q_block_ret (q_seq_ret ?_))))
            cases h99
            refine q_lout_ret fun he => ?_
            subst he
            have h102 := o_outr h90
            refine q_block_ret (q_block_ret (q_seq_ret ?_))
            cases h102
            refine q_lout_ret fun he => ?_
            subst he
            have h103 := o_outr h
            refine q_block_ret (q_seq_ret ?_)
            cases h103
            exact zQ
          refine zU hb ?_
          refine pwp_skip (q_next (r_reg ?_))
          refine zR 2 ?_
          refine p_mset (m := (x62 : (List (ByteArray × Bool)))) (k := x64) (v := true) 84 (by kernel_rfl) (by kernel_rfl) (by kernel_rfl) ?_
          refine zN ?_
          refine q_block (q_next (r_reg ?_))
          refine zE ?_
          cases h99
          exact zB
        refine zU hb ?_
        refine pwp_exit (q_seq_exit ?_)
        cases h99
        exact zX
      rintro _ s' rfl hs
      have h90 := o_outl h90
      refine q_block_hit (q_block ?_)
      refine q_next (pwp_wkr hs ?_)
      refine r_reg ?_
      refine zE ?_
      cases h90
      exact zB
    refine zU hb ?_
    refine pwp_exit (q_seq_exit ?_)
    cases h90
    exact zX
  rintro _ s' rfl hs
  have h := o_outl h
  refine q_block_hit ?_
  refine q_next (pwp_wkr hs ?_)
  refine pwp_seq (r_reg ?_)
  refine zE ?_
  refine q_next (pwp_ret ?_)
  cases h
  exact zQ

/-! layout.elementsFit -/
noncomputable def d_layout_elementsFit_0 (a0 : T_api_Layout) : Int → Option (Int ⊕ (Unit ⊕ Bool)) := fun x13 =>
  bif decide (x13 < ((a0.Elements.length : Nat) : Int)) then (
    (ixO a0.Elements x13).bind fun x26 =>
    (d_layout_within x26.Kind 1 3).bind fun r27 =>
    ((bif (!r27) then some true else (
      (d_layout_within x26.Length 500 1000000).bind fun r29 =>
      some (!r29)
    )) : Option Bool).bind fun b28 =>
    ((bif b28 then some true else (
      (d_layout_within x26.Grade (-50) 50).bind fun r31 =>
      some (!r31)
    )) : Option Bool).bind fun b30 =>
    ((bif b30 then some true else (
      (d_layout_within x26.Speed 100 10000).bind fun r33 =>
      some (!r33)
    )) : Option Bool).bind fun b32 =>
    ((bif b32 then some true else (
      (d_layout_within x26.Section 0 (w64 (((a0.Sections.length : Nat) : Int) - 1))).bind fun r35 =>
      some (!r35)
    )) : Option Bool).bind fun b34 =>
    bif b34 then (
      some (.inr (.inr false))
    ) else (
      ((bif decide (x26.Kind = 2) then (
        (d_layout_within x26.Slow 100 x26.Speed).bind fun r37 =>
        some (!r37)
      ) else some false) : Option Bool).bind fun b36 =>
      bif (b36 || ((!(decide (x26.Kind = 2))) && (!(decide (x26.Slow = 0))))) then (
        some (.inr (.inr false))
      ) else (
        some (.inl (w64 (x13 + 1)))
      )
    )
  ) else (
    some (.inr (.inl ()))
  )

noncomputable def d_layout_elementsFit (a0 : T_api_Layout) : Option Bool :=
  onInl (α := Unit) (β := Bool) (loopO (d_layout_elementsFit_0 a0) 0) fun _ =>
  some true
theorem d_layout_elementsFit_ok (a0 : T_api_Layout) (r : Bool) (h : d_layout_elementsFit a0 = some r) : PCall Go.Proofs.Tryz.prog GlS 52 [Enc.pv a0] (Enc.pv r) := by
  unfold d_layout_elementsFit at h
  refine pcall_of_pwp Go.Proofs.Tryz.func52 (by rfl) rfl Go.Proofs.Tryz.ntmps52 (by rfl) rfl ?_
  refine pwp_seq (r_reg ?_)
  refine zE ?_
  refine q_next (pwp_seq (pwp_seq (r_reg ?_)))
  refine zR 2 ?_
  refine p_len (L := (a0.Elements : (List T_api_Element))) (by kernel_rfl) ?_
  refine zE ?_
  refine q_next (pwp_block ?_)
  obtain ⟨o30, h30, h⟩ := o_inl h
  refine r_loop2 66 0 (fun x13 => ⟨[(1, .ref 1 0), (6, lstOf .frozen (a0.Elements : (List T_api_Element))), (7, .int .i64 ((a0.Elements.length : Nat) : Int)), (8, .int .i64 x13)], [(1, .cells (cellsOf a0))], [], []⟩) (fun (_ : Unit) => ⟨[], [], [], []⟩) h30 (by kernel_rfl) (fun _ => by kernel_rfl) ?_ ?_
  · rintro x13 oh29 h29
    unfold d_layout_elementsFit_0 at h29
    refine pwp_seq (r_reg ?_)
    refine zE ?_
    refine q_next (pwp_seq ?_)
    rcases o_cond h29 with ⟨hb, h29⟩ | ⟨hb, h29⟩
    · refine zT hb ?_
      refine pwp_skip (q_next (pwp_seq (pwp_block (pwp_seq (r_reg ?_)))))
      obtain ⟨x26, h31, h29⟩ := o_bind h29
      refine zI h31 ?_
      refine zE ?_
      refine q_next (pwp_seq (pwp_seq (r_reg ?_)))
      refine zR 2 ?_
      obtain ⟨r27, h32, h29⟩ := o_bind h29
      refine p_call (d_layout_within_ok _ _ _ r27 h32) (by kernel_rfl) (by kernel_rfl) ?_
      obtain ⟨b28, h33, h29⟩ := o_bind h29
      refine zR 2 ?_
      refine e_seg 5 21 (.bool b28) ?_ ?_
      · rcases o_cond h33 with ⟨hb, h33⟩ | ⟨hb, h33⟩
        · refine zS 16 hb ?_
          cases h33
          exact zF
        refine zS 16 hb ?_
        refine zR 2 ?_
        obtain ⟨r29, h34, h33⟩ := o_bind h33
        refine p_call (d_layout_within_ok _ _ _ r29 h34) (by kernel_rfl) (by kernel_rfl) ?_
        cases h33
        exact zF
      obtain ⟨b30, h35, h29⟩ := o_bind h29
      refine zR 1 ?_
      refine e_seg 5 27 (.bool b30) ?_ ?_
      · rcases o_cond h35 with ⟨hb, h35⟩ | ⟨hb, h35⟩
        · refine zS 22 hb ?_
          cases h35
          exact zF
        refine zS 22 hb ?_
        refine zR 2 ?_
        obtain ⟨r31, h36, h35⟩ := o_bind h35
        refine p_call (d_layout_within_ok _ _ _ r31 h36) (by kernel_rfl) (by kernel_rfl) ?_
        cases h35
        exact zF
      obtain ⟨b32, h37, h29⟩ := o_bind h29
      refine zR 1 ?_
      refine e_seg 5 33 (.bool b32) ?_ ?_
      · rcases o_cond h37 with ⟨hb, h37⟩ | ⟨hb, h37⟩
        · refine zS 28 hb ?_
          cases h37
          exact zF
        refine zS 28 hb ?_
        refine zR 2 ?_
        obtain ⟨r33, h38, h37⟩ := o_bind h37
        refine p_call (d_layout_within_ok _ _ _ r33 h38) (by kernel_rfl) (by kernel_rfl) ?_
        cases h37
        exact zF
      obtain ⟨b34, h39, h29⟩ := o_bind h29
      refine zR 1 ?_
      refine e_seg 9 43 (.bool b34) ?_ ?_
      · rcases o_cond h39 with ⟨hb, h39⟩ | ⟨hb, h39⟩
        · refine zS 34 hb ?_
          cases h39
          exact zF
        refine zS 34 hb ?_
        refine zR 4 ?_
        refine p_len (L := (a0.Sections : (List ByteArray))) (by kernel_rfl) ?_
        refine zR 1 ?_
        obtain ⟨r35, h40, h39⟩ := o_bind h39
        refine p_call (d_layout_within_ok _ _ _ r35 h40) (by kernel_rfl) (by kernel_rfl) ?_
        cases h39
        exact zF
      refine zN ?_
      refine q_next ?_
      rcases o_cond h29 with ⟨hb, h29⟩ | ⟨hb, h29⟩
      · refine zT hb ?_
        refine pwp_seq (r_reg ?_)
        refine zE ?_
        refine q_next (pwp_ret (q_seq_ret (q_block_ret (q_seq_ret ?_))))
        cases h29
        refine q_lout_ret fun he => ?_
        subst he
        have h41 := o_outr h
        refine q_block_ret (q_seq_ret ?_)
        cases h41
        exact zQ
      refine zU hb ?_
      refine pwp_skip (q_next (pwp_seq (r_reg ?_)))
      obtain ⟨b36, h42, h29⟩ := o_bind h29
      refine zR 4 ?_
      refine e_seg 7 54 (.bool b36) ?_ ?_
      · rcases o_cond h42 with ⟨hb, h42⟩ | ⟨hb, h42⟩
        · refine zS 47 hb ?_
          refine zR 4 ?_
          obtain ⟨r37, h43, h42⟩ := o_bind h42
          refine p_call (d_layout_within_ok _ _ _ r37 h43) (by kernel_rfl) (by kernel_rfl) ?_
          cases h42
          exact zF
        refine zS 47 hb ?_
        cases h42
        exact zF
      refine zR 1 ?_
      refine e_segb 9 64 (b36 || ((!(decide (x26.Kind = 2))) && (!(decide (x26.Slow = 0))))) (fun x hx => ?_) ?_
      · rcases b_or hx with ⟨hb, hx⟩ | ⟨hb, hx⟩
        · refine zS 55 hb ?_
          subst hx
          exact zF
        refine zS 55 hb ?_
        refine zR 4 ?_
        refine f_segb 4 63 ((!(decide (x26.Kind = 2))) && (!(decide (x26.Slow = 0)))) (fun x hx => ?_) ?_
        · rcases b_and hx with ⟨hb, hx⟩ | ⟨hb, hx⟩
          · refine zS 59 hb ?_
            subst hx
            exact zF
          refine zS 59 hb ?_
          subst hx
          exact zF
        subst hx
        exact zF
      refine zN ?_
      refine q_next ?_
      rcases o_cond h29 with ⟨hb, h29⟩ | ⟨hb, h29⟩
      · refine zT hb ?_
        refine pwp_seq (r_reg ?_)
        refine zE ?_
        refine q_next (pwp_ret (q_block_ret (q_seq_ret ?_)))
        cases h29
        refine q_lout_ret fun he => ?_
        subst he
        have h44 := o_outr h
        refine q_block_ret (q_seq_ret ?_)
        cases h44
        exact zQ
      refine zU hb ?_
      refine pwp_skip (q_block (q_next (r_reg ?_)))
      refine zE ?_
      cases h29
      exact zB
    refine zU hb ?_
    refine pwp_exit (q_seq_exit ?_)
    cases h29
    exact zX
  rintro _ s' rfl hs
  have h := o_outl h
  refine q_block_hit ?_
  refine q_next (pwp_wkr hs ?_)
  refine pwp_seq (r_reg ?_)
  refine zE ?_
  refine q_next (pwp_ret ?_)
  cases h
  exact zQ

/-! layout.Members -/
noncomputable def d_layout_Members_0 (a0 : T_api_Layout) (a1 : Int) : (Int × (List Int)) → Option ((Int × (List Int)) ⊕ ((List Int) ⊕ (List Int))) := fun (x13, x14) =>
  bif decide (x13 < ((a0.Elements.length : Nat) : Int)) then (
    onInl (α := (List Int)) (β := ((Int × (List Int)) ⊕ ((List Int) ⊕ (List Int)))) (
      (ixO a0.Elements x13).bind fun x24 =>
      bif decide (x24.Section = a1) then (
        (appO x14 [x13]).bind fun x25 =>
        some (.inl x25)
      ) else (
        some (.inl x14)
      )
    ) fun x23 =>
    some (.inl (w64 (x13 + 1), x23))
  ) else (
    some (.inr (.inl x14))
  )

noncomputable def d_layout_Members (a0 : T_api_Layout) (a1 : Int) : Option (List Int) :=
  ((bif decide (a1 < 0) then some true else (
    some (decide (((a0.Sections.length : Nat) : Int) ≤ a1))
  )) : Option Bool).bind fun b1 =>
  bif b1 then (
    some ([] : (List Int))
  ) else (
    onInl (α := (List Int)) (β := (List Int)) (loopO (d_layout_Members_0 a0 a1) (0, ([] : (List Int)))) fun x20 =>
    some x20
  )
theorem d_layout_Members_ok (a0 : T_api_Layout) (a1 : Int) (r : (List Int)) (h : d_layout_Members a0 a1 = some r) : PCall Go.Proofs.Tryz.prog GlS 93 [Enc.pv a0, Enc.pv a1] (lstOf (.own 100005) r) := by
  unfold d_layout_Members at h
  refine pcall_of_pwp Go.Proofs.Tryz.func93 (by rfl) rfl Go.Proofs.Tryz.ntmps93 (by rfl) rfl ?_
  refine pwp_seq (r_reg ?_)
  refine zE ?_
  refine q_next (pwp_seq (pwp_seq (r_reg ?_)))
  obtain ⟨b1, h1, h⟩ := o_bind h
  refine zR 3 ?_
  refine e_seg 6 16 (.bool b1) ?_ ?_
  · rcases o_cond h1 with ⟨hb, h1⟩ | ⟨hb, h1⟩
    · refine zS 10 hb ?_
      cases h1
      exact zF
    refine zS 10 hb ?_
    refine zR 3 ?_
    refine p_len (L := (a0.Sections : (List ByteArray))) (by kernel_rfl) ?_
    cases h1
    exact zF
  refine zN ?_
  refine q_next ?_
  rcases o_cond h with ⟨hb, h⟩ | ⟨hb, h⟩
  · refine zT hb ?_
    refine pwp_seq (r_reg ?_)
    refine zE ?_
    refine q_next ?_
    refine g_nil 4 100005 1 8 (by kernel_rfl) (by kernel_rfl) ?_
    refine pwp_ret (q_seq_ret ?_)
    cases h
    exact zQ
  refine zU hb ?_
  refine pwp_skip (q_next (pwp_seq (r_reg ?_)))
  refine zE ?_
  refine q_next (pwp_seq (pwp_seq (r_reg ?_)))
  refine zR 2 ?_
  refine p_len (L := (a0.Elements : (List T_api_Element))) (by kernel_rfl) ?_
  refine zE ?_
  refine q_next (pwp_block ?_)
  refine g_nil 5 100005 1 8 (by kernel_rfl) (by kernel_rfl) ?_
  obtain ⟨o18, h18, h⟩ := o_inl h
  refine r_loop2 35 0 (fun (x13, x14) => ⟨[(1, .int .i64 a1), (5, lstOf (.own 100005) (x14 : (List Int))), (18, lstOf .frozen (a0.Elements : (List T_api_Element))), (19, .int .i64 ((a0.Elements.length : Nat) : Int)), (20, .int .i64 x13)], [], [(100005, (((x14).map cellsOf).length, 1))], []⟩) (fun x20 => ⟨[(5, lstOf (.own 100005) (x20 : (List Int)))], [], [(100005, (((x20).map cellsOf).length, 1))], []⟩) h18 (by kernel_rfl) (fun _ => by kernel_rfl) ?_ ?_
  · rintro ⟨x13, x14⟩ oh17 h17
    unfold d_layout_Members_0 at h17
    refine pwp_seq (r_reg ?_)
    refine zE ?_
    refine q_next (pwp_seq ?_)
    rcases o_cond h17 with ⟨hb, h17⟩ | ⟨hb, h17⟩
    · refine zT hb ?_
      refine pwp_skip (q_next ?_)
      obtain ⟨o21, h21, h17⟩ := o_inl h17
      refine r_join (o := o21) 35 (fun x23 => ⟨[(1, .int .i64 a1), (5, lstOf (.own 100005) (x23 : (List Int))), (18, lstOf .frozen (a0.Elements : (List T_api_Element))), (19, .int .i64 ((a0.Elements.length : Nat) : Int)), (20, .int .i64 x13)], [], [(100005, (((x23).map cellsOf).length, 1))], []⟩) ?_ ?_
      · refine pwp_block (pwp_seq (r_reg ?_))
        refine zR 1 ?_
        obtain ⟨x24, h22, h21⟩ := o_bind h21
        refine zI h22 ?_
        refine zE ?_
        refine q_next (pwp_seq (r_reg ?_))
        refine zE ?_
        refine q_next ?_
        rcases o_cond h21 with ⟨hb, h21⟩ | ⟨hb, h21⟩
        · refine zT hb ?_
          refine r_reg ?_
          refine zR 3 ?_
          obtain ⟨x25, h23, h21⟩ := o_bind h21
          refine p_app (tk := 100005) h23 (by kernel_rfl) (by kernel_rfl) ?_
          refine zE ?_
          refine q_block ?_
          cases h21
          exact zJ
        refine zU hb ?_
        refine pwp_skip (q_block ?_)
        cases h21
        exact zJ
      rintro x23 rfl
      have h17 := o_outl h17
      refine r_reg ?_
      refine zE ?_
      cases h17
      exact zB
    refine zU hb ?_
    refine pwp_exit (q_seq_exit ?_)
    cases h17
    exact zX
  rintro x20 s' rfl hs
  have h := o_outl h
  refine q_block_hit ?_
  refine q_next (pwp_wkr hs ?_)
  refine pwp_seq (r_reg ?_)
  refine zE ?_
  refine q_next (pwp_ret ?_)
  cases h
  exact zQ
theorem d_layout_Members_fz (a0 : T_api_Layout) (a1 : Int) (r : (List Int)) (h : d_layout_Members a0 a1 = some r) : PCall Go.Proofs.Tryz.prog GlS 93 [Enc.pv a0, Enc.pv a1] (Enc.pv r) :=
  (d_layout_Members_ok a0 a1 r h).freeze (by kernel_rfl) (by kernel_rfl) (by kernel_rfl)

/-! layout.sectionsUsed -/
noncomputable def d_layout_sectionsUsed_0 (a0 : T_api_Layout) : Int → Option (Int ⊕ (Unit ⊕ Bool)) := fun x2 =>
  bif decide (x2 < ((a0.Sections.length : Nat) : Int)) then (
    (d_layout_Members a0 x2).bind fun r4 =>
    bif decide (((r4.length : Nat) : Int) = 0) then (
      some (.inr (.inr false))
    ) else (
      some (.inl (w64 (x2 + 1)))
    )
  ) else (
    some (.inr (.inl ()))
  )

noncomputable def d_layout_sectionsUsed (a0 : T_api_Layout) : Option Bool :=
  onInl (α := Unit) (β := Bool) (loopO (d_layout_sectionsUsed_0 a0) 0) fun _ =>
  some true
theorem d_layout_sectionsUsed_ok (a0 : T_api_Layout) (r : Bool) (h : d_layout_sectionsUsed a0 = some r) : PCall Go.Proofs.Tryz.prog GlS 53 [Enc.pv a0] (Enc.pv r) := by
  unfold d_layout_sectionsUsed at h
  refine pcall_of_pwp Go.Proofs.Tryz.func53 (by rfl) rfl Go.Proofs.Tryz.ntmps53 (by rfl) rfl ?_
  refine pwp_seq (r_reg ?_)
  refine zE ?_
  refine q_next (pwp_seq (pwp_seq (r_reg ?_)))
  refine zR 2 ?_
  refine p_len (L := (a0.Sections : (List ByteArray))) (by kernel_rfl) ?_
  refine zE ?_
  refine q_next (pwp_block ?_)
  obtain ⟨o6, h6, h⟩ := o_inl h
  refine r_loop2 16 0 (fun x2 => ⟨[(1, .ref 1 0), (6, .int .i64 ((a0.Sections.length : Nat) : Int)), (7, .int .i64 x2)], [(1, .cells (cellsOf a0))], [], []⟩) (fun (_ : Unit) => ⟨[], [], [], []⟩) h6 (by kernel_rfl) (fun _ => by kernel_rfl) ?_ ?_
  · rintro x2 oh5 h5
    unfold d_layout_sectionsUsed_0 at h5
    refine pwp_seq (r_reg ?_)
    refine zE ?_
    refine q_next (pwp_seq ?_)
    rcases o_cond h5 with ⟨hb, h5⟩ | ⟨hb, h5⟩
    · refine zT hb ?_
      refine pwp_skip (q_next (pwp_seq (pwp_block (pwp_seq (r_reg ?_)))))
      refine zE ?_
      refine q_next (pwp_seq (r_reg ?_))
      refine zR 2 ?_
      obtain ⟨r4, h7, h5⟩ := o_bind h5
      refine p_call (d_layout_Members_ok _ _ r4 h7) (by kernel_rfl) (by kernel_rfl) ?_
      refine p_len (L := (r4 : (List Int))) (by kernel_rfl) ?_
      refine zE ?_
      refine q_next ?_
      rcases o_cond h5 with ⟨hb, h5⟩ | ⟨hb, h5⟩
      · refine zT hb ?_
        refine pwp_seq (r_reg ?_)
        refine zE ?_
        refine q_next (pwp_ret (q_block_ret (q_seq_ret ?_)))
        cases h5
        refine q_lout_ret fun he => ?_
        subst he
        have h8 := o_outr h
        refine q_block_ret (q_seq_ret ?_)
        cases h8
        exact zQ
      refine zU hb ?_
      refine pwp_skip (q_block (q_next (r_reg ?_)))
      refine zE ?_
      cases h5
      exact zB
    refine zU hb ?_
    refine pwp_exit (q_seq_exit ?_)
    cases h5
    exact zX
  rintro _ s' rfl hs
  have h := o_outl h
  refine q_block_hit ?_
  refine q_next (pwp_wkr hs ?_)
  refine pwp_seq (r_reg ?_)
  refine zE ?_
  refine q_next (pwp_ret ?_)
  cases h
  exact zQ

/-! rail.Sides -/
noncomputable def d_rail_Sides (a0 : Int) : Option Int :=
  bif ((decide (a0 < 0)) || (decide (4 ≤ a0))) then (
    some 0
  ) else (
    (ixO tab_rail_sides a0).bind fun x1 =>
    some x1
  )
theorem d_rail_Sides_ok (a0 : Int) (r : Int) (h : d_rail_Sides a0 = some r) : PCall Go.Proofs.Tryz.prog GlS 121 [Enc.pv a0] (Enc.pv r) := by
  unfold d_rail_Sides at h
  refine pcall_of_pwp Go.Proofs.Tryz.func121 (by rfl) rfl Go.Proofs.Tryz.ntmps121 (by rfl) rfl ?_
  refine pwp_seq (r_reg ?_)
  refine zE ?_
  refine q_next (pwp_seq (pwp_seq (r_reg ?_)))
  refine zR 3 ?_
  refine e_segb 3 8 ((decide (a0 < 0)) || (decide (4 ≤ a0))) (fun x hx => ?_) ?_
  · rcases b_or hx with ⟨hb, hx⟩ | ⟨hb, hx⟩
    · refine zS 5 hb ?_
      subst hx
      exact zF
    refine zS 5 hb ?_
    subst hx
    exact zF
  refine zN ?_
  refine q_next ?_
  rcases o_cond h with ⟨hb, h⟩ | ⟨hb, h⟩
  · refine zT hb ?_
    refine pwp_seq (r_reg ?_)
    refine zE ?_
    refine q_next (pwp_ret (q_seq_ret ?_))
    cases h
    exact zQ
  refine zU hb ?_
  refine pwp_skip (q_next (pwp_seq (r_reg ?_)))
  refine zR 1 ?_
  obtain ⟨x1, h1, h⟩ := o_bind h
  refine p_gix h1 0 4 1 (by kernel_rfl) (by kernel_rfl) ?_
  refine p_gload (tab := tab_rail_sides) h1 false 1 (by kernel_rfl) (by kernel_rfl) (by kernel_rfl) ?_
  refine zE ?_
  refine q_next (pwp_ret ?_)
  cases h
  exact zQ

/-! layout.exists -/
noncomputable def d_layout_exists (a0 : T_api_Layout) (a1 : T_api_End) : Option Bool :=
  (d_layout_within a1.El 0 (w64 (((a0.Elements.length : Nat) : Int) - 1))).bind fun r1 =>
  ((bif r1 then (
    (ixO a0.Elements a1.El).bind fun x3 =>
    (d_rail_Sides x3.Kind).bind fun r4 =>
    (d_layout_within a1.Side 0 (w64 (r4 - 1))).bind fun r5 =>
    some r5
  ) else some false) : Option Bool).bind fun b2 =>
  some b2
theorem d_layout_exists_ok (a0 : T_api_Layout) (a1 : T_api_End) (r : Bool) (h : d_layout_exists a0 a1 = some r) : PCall Go.Proofs.Tryz.prog GlS 94 [Enc.pv a0, Enc.pv a1] (Enc.pv r) := by
  unfold d_layout_exists at h
  refine pcall_of_pwp Go.Proofs.Tryz.func94 (by rfl) rfl Go.Proofs.Tryz.ntmps94 (by rfl) rfl ?_
  refine pwp_seq (r_reg ?_)
  refine zE ?_
  refine q_next (pwp_seq ?_)
  refine r_regd (by kernel_rfl) (by kernel_rfl) ?_
  refine zR 4 ?_
  refine p_len (L := (a0.Elements : (List T_api_Element))) (by kernel_rfl) ?_
  refine zR 1 ?_
  obtain ⟨r1, h1, h⟩ := o_bind h
  refine p_call (d_layout_within_ok _ _ _ r1 h1) (by kernel_rfl) (by kernel_rfl) ?_
  obtain ⟨b2, h2, h⟩ := o_bind h
  refine zR 1 ?_
  refine e_seg 13 25 (.bool b2) ?_ ?_
  · rcases o_cond h2 with ⟨hb, h2⟩ | ⟨hb, h2⟩
    · refine zS 12 hb ?_
      refine zR 6 ?_
      obtain ⟨x3, h3, h2⟩ := o_bind h2
      refine zI h3 ?_
      refine zR 2 ?_
      obtain ⟨r4, h4, h2⟩ := o_bind h2
      refine p_call (d_rail_Sides_ok _ r4 h4) (by kernel_rfl) (by kernel_rfl) ?_
      refine zR 1 ?_
      obtain ⟨r5, h5, h2⟩ := o_bind h2
      refine p_call (d_layout_within_ok _ _ _ r5 h5) (by kernel_rfl) (by kernel_rfl) ?_
      cases h2
      exact zF
    refine zS 12 hb ?_
    cases h2
    exact zF
  refine zE ?_
  refine q_next (pwp_ret ?_)
  cases h
  exact zQ

/-! layout.joinEnds -/
noncomputable def d_layout_joinEnds_0 (a0 : T_api_Layout) : Int → Option (Int ⊕ (Unit ⊕ ((List (T_api_End × T_api_End)) × Int))) := fun x5 =>
  bif decide (x5 < ((a0.Joints.length : Nat) : Int)) then (
    (ixO a0.Joints x5).bind fun x10 =>
    (d_layout_exists a0 x10.A).bind fun r11 =>
    ((bif (!r11) then some true else (
      (d_layout_exists a0 x10.B).bind fun r13 =>
      some (!r13)
    )) : Option Bool).bind fun b12 =>
    bif (b12 || (eq_T_api_End x10.A x10.B)) then (
      some (.inr (.inr (([] : (List (T_api_End × T_api_End))), 1)))
    ) else (
      some (.inl (w64 (x5 + 1)))
    )
  ) else (
    some (.inr (.inl ()))
  )

noncomputable def d_layout_joinEnds_1 (a0 : T_api_Layout) : (Int × (List (T_api_End × T_api_End))) → Option ((Int × (List (T_api_End × T_api_End))) ⊕ ((List (T_api_End × T_api_End)) ⊕ ((List (T_api_End × T_api_End)) × Int))) := fun (x15, x16) =>
  bif decide (x15 < ((a0.Joints.length : Nat) : Int)) then (
    (ixO a0.Joints x15).bind fun x19 =>
    bif (((mget (x16 : (List (T_api_End × T_api_End))) x19.A).isSome) || ((mget (x16 : (List (T_api_End × T_api_End))) x19.B).isSome)) then (
      some (.inr (.inr (([] : (List (T_api_End × T_api_End))), 8)))
    ) else (
      some (.inl (w64 (x15 + 1), (mset x19.B x19.A (mset x19.A x19.B x16))))
    )
  ) else (
    some (.inr (.inl x16))
  )

noncomputable def d_layout_joinEnds (a0 : T_api_Layout) : Option ((List (T_api_End × T_api_End)) × Int) :=
  onInl (α := Unit) (β := ((List (T_api_End × T_api_End)) × Int)) (loopO (d_layout_joinEnds_0 a0) 0) fun _ =>
  onInl (α := (List (T_api_End × T_api_End))) (β := ((List (T_api_End × T_api_End)) × Int)) (loopO (d_layout_joinEnds_1 a0) (0, ([] : (List (T_api_End × T_api_End))))) fun x18 =>
  some (x18, 0)
theorem d_layout_joinEnds_ok (a0 : T_api_Layout) (r : ((List (T_api_End × T_api_End)) × Int)) (h : d_layout_joinEnds a0 = some r) : PCall Go.Proofs.Tryz.prog GlS 54 [Enc.pv a0] (.tup [fmOf (r.1 : (List (T_api_End × T_api_End))), Enc.pv r.2]) := by
  unfold d_layout_joinEnds at h
  refine pcall_of_pwp Go.Proofs.Tryz.func54 (by rfl) rfl Go.Proofs.Tryz.ntmps54 (by rfl) rfl ?_
  refine pwp_seq (r_reg ?_)
  refine zE ?_
  refine q_next (pwp_seq (pwp_seq (r_reg ?_)))
  refine zR 2 ?_
  refine p_len (L := (a0.Joints : (List T_api_Joint))) (by kernel_rfl) ?_
  refine zE ?_
  refine q_next (pwp_block ?_)
  obtain ⟨o12, h12, h⟩ := o_inl h
  refine r_loop2 78 0 (fun x5 => ⟨[(1, .ref 1 0), (14, lstOf .frozen (a0.Joints : (List T_api_Joint))), (15, .int .i64 ((a0.Joints.length : Nat) : Int)), (16, .int .i64 x5)], [(1, .cells (cellsOf a0))], [], []⟩) (fun (_ : Unit) => ⟨[(1, .ref 1 0)], [(1, .cells (cellsOf a0))], [], []⟩) h12 (by kernel_rfl) (fun _ => by kernel_rfl) ?_ ?_
  · rintro x5 oh11 h11
    unfold d_layout_joinEnds_0 at h11
    refine pwp_seq (r_reg ?_)
    refine zE ?_
    refine q_next (pwp_seq ?_)
    rcases o_cond h11 with ⟨hb, h11⟩ | ⟨hb, h11⟩
    · refine zT hb ?_
      refine pwp_skip (q_next (pwp_seq (pwp_block (pwp_seq (r_reg ?_)))))
      obtain ⟨x10, h13, h11⟩ := o_bind h11
      refine zI h13 ?_
      refine zE ?_
      refine q_next (pwp_seq (r_reg ?_))
      refine zR 3 ?_
      obtain ⟨r11, h14, h11⟩ := o_bind h11
      refine p_call (d_layout_exists_ok _ _ r11 h14) (by kernel_rfl) (by kernel_rfl) ?_
      obtain ⟨b12, h15, h11⟩ := o_bind h11
      refine zR 2 ?_
      refine e_seg 6 31 (.bool b12) ?_ ?_
      · rcases o_cond h15 with ⟨hb, h15⟩ | ⟨hb, h15⟩
        · refine zS 25 hb ?_
          cases h15
          exact zF
        refine zS 25 hb ?_
        refine zR 3 ?_
        obtain ⟨r13, h16, h15⟩ := o_bind h15
        refine p_call (d_layout_exists_ok _ _ r13 h16) (by kernel_rfl) (by kernel_rfl) ?_
        cases h15
        exact zF
      refine zR 1 ?_
      refine e_segb 6 38 (b12 || (eq_T_api_End x10.A x10.B)) (fun x hx => ?_) ?_
      · rcases b_or hx with ⟨hb, hx⟩ | ⟨hb, hx⟩
        · refine zS 32 hb ?_
          subst hx
          exact zF
        refine zS 32 hb ?_
        subst hx
        exact zF
      refine zN ?_
      refine q_next ?_
      rcases o_cond h11 with ⟨hb, h11⟩ | ⟨hb, h11⟩
      · refine zT hb ?_
        refine pwp_seq (r_reg ?_)
        refine zE ?_
        refine q_next (pwp_ret (q_block_ret (q_seq_ret ?_)))
        cases h11
        refine q_lout_ret fun he => ?_
        subst he
        have h17 := o_outr h
        refine q_block_ret (q_seq_ret ?_)
        cases h17
        exact zQ
      refine zU hb ?_
      refine pwp_skip (q_block (q_next (r_reg ?_)))
      refine zE ?_
      cases h11
      exact zB
    refine zU hb ?_
    refine pwp_exit (q_seq_exit ?_)
    cases h11
    exact zX
  rintro _ s' rfl hs
  have h := o_outl h
  refine q_block_hit ?_
  refine q_next (pwp_wkr hs ?_)
  refine pwp_seq (r_reg ?_)
  refine zE ?_
  refine q_next (pwp_seq (pwp_seq (r_reg ?_)))
  refine zR 2 ?_
  refine p_len (L := (a0.Joints : (List T_api_Joint))) (by kernel_rfl) ?_
  refine zE ?_
  refine q_next (pwp_block ?_)
  obtain ⟨o23, h23, h⟩ := o_inl h
  refine r_loop2 78 2 (fun (x15, x16) => ⟨[(6, .mp 40), (42, lstOf .frozen (a0.Joints : (List T_api_Joint))), (43, .int .i64 ((a0.Joints.length : Nat) : Int)), (44, .int .i64 x15)], [(40, .map (mpOf (x16 : (List (T_api_End × T_api_End)))))], [], []⟩) (fun x18 => ⟨[(6, .mp 40)], [(40, .map (mpOf (x18 : (List (T_api_End × T_api_End)))))], [], []⟩) h23 (by kernel_rfl) (fun _ => by kernel_rfl) ?_ ?_
  · rintro ⟨x15, x16⟩ oh22 h22
    unfold d_layout_joinEnds_1 at h22
    refine pwp_seq (r_reg ?_)
    refine zE ?_
    refine q_next (pwp_seq ?_)
    rcases o_cond h22 with ⟨hb, h22⟩ | ⟨hb, h22⟩
    · refine zT hb ?_
      refine pwp_skip (q_next (pwp_seq (pwp_block (pwp_seq (r_reg ?_)))))
      obtain ⟨x19, h24, h22⟩ := o_bind h22
      refine zI h24 ?_
      refine zE ?_
      refine q_next (pwp_seq (r_reg ?_))
      refine zR 3 ?_
      refine p_lookup2 (m := (x16 : (List (T_api_End × T_api_End)))) (k := x19.A) (T_api_End.mk 0 0) 40 (by kernel_rfl) (by kernel_rfl) ?_
      refine zE ?_
      refine q_next (pwp_seq (r_reg ?_))
      refine zR 3 ?_
      refine p_lookup2 (m := (x16 : (List (T_api_End × T_api_End)))) (k := x19.B) (T_api_End.mk 0 0) 40 (by kernel_rfl) (by kernel_rfl) ?_
      refine zE ?_
      refine q_next (pwp_seq (pwp_seq (r_reg ?_)))
      refine zR 2 ?_
      refine e_segb 2 65 (((mget (x16 : (List (T_api_End × T_api_End))) x19.A).isSome) || ((mget (x16 : (List (T_api_End × T_api_End))) x19.B).isSome)) (fun x hx => ?_) ?_
      · rcases b_or hx with ⟨hb, hx⟩ | ⟨hb, hx⟩
        · refine zS 63 hb ?_
          subst hx
          exact zF
        refine zS 63 hb ?_
        subst hx
        exact zF
      refine zN ?_
      refine q_next ?_
      rcases o_cond h22 with ⟨hb, h22⟩ | ⟨hb, h22⟩
      · refine zT hb ?_
        refine pwp_seq (r_reg ?_)
        refine zE ?_
        refine q_next (pwp_ret (q_seq_ret (q_block_ret (q_seq_ret ?_))))
        cases h22
        refine q_lout_ret fun he => ?_
        subst he
        have h25 := o_outr h
        refine q_block_ret (q_seq_ret ?_)
        cases h25
        exact zQ
      refine zU hb ?_
      refine pwp_skip (q_next ?_)
      refine r_regd (by kernel_rfl) (by kernel_rfl) ?_
      refine zR 10 ?_
      refine p_mset (m := (x16 : (List (T_api_End × T_api_End)))) (k := x19.A) (v := x19.B) 40 (by kernel_rfl) (by kernel_rfl) (by kernel_rfl) ?_
      refine p_mset (m := ((mset x19.A x19.B x16) : (List (T_api_End × T_api_End)))) (k := x19.B) (v := x19.A) 40 (by kernel_rfl) (by kernel_rfl) (by kernel_rfl) ?_
      refine zN ?_
      refine q_block (q_next (r_reg ?_))
      refine zE ?_
      cases h22
      exact zB
    refine zU hb ?_
    refine pwp_exit (q_seq_exit ?_)
    cases h22
    exact zX
  rintro x18 s' rfl hs
  have h := o_outl h
  refine q_block_hit ?_
  refine q_next (pwp_wkr hs ?_)
  refine pwp_seq (r_reg ?_)
  refine zE ?_
  refine q_next ?_
  refine g_shm 40 [] (x18 : (List (T_api_End × T_api_End))) (by kernel_rfl) (by kernel_rfl) (by kernel_rfl) ?_
  refine pwp_ret ?_
  cases h
  exact zQ

/-! layout.Signal -/
noncomputable def d_layout_Signal_0 (a0 : T_api_Layout) (a1 : T_api_End) : Int → Option (Int ⊕ (Unit ⊕ Int)) := fun x2 =>
  bif decide (x2 < ((a0.Signals.length : Nat) : Int)) then (
    (ixO a0.Signals x2).bind fun x4 =>
    bif eq_T_api_End x4.At a1 then (
      some (.inr (.inr x2))
    ) else (
      some (.inl (w64 (x2 + 1)))
    )
  ) else (
    some (.inr (.inl ()))
  )

noncomputable def d_layout_Signal (a0 : T_api_Layout) (a1 : T_api_End) : Option Int :=
  onInl (α := Unit) (β := Int) (loopO (d_layout_Signal_0 a0 a1) 0) fun _ =>
  some (-1)
theorem d_layout_Signal_ok (a0 : T_api_Layout) (a1 : T_api_End) (r : Int) (h : d_layout_Signal a0 a1 = some r) : PCall Go.Proofs.Tryz.prog GlS 23 [Enc.pv a0, Enc.pv a1] (Enc.pv r) := by
  unfold d_layout_Signal at h
  refine pcall_of_pwp Go.Proofs.Tryz.func23 (by rfl) rfl Go.Proofs.Tryz.ntmps23 (by rfl) rfl ?_
  refine pwp_seq (r_reg ?_)
  refine zE ?_
  refine q_next (pwp_seq (pwp_seq (r_reg ?_)))
  refine zR 2 ?_
  refine p_len (L := (a0.Signals : (List T_api_Signal))) (by kernel_rfl) ?_
  refine zE ?_
  refine q_next (pwp_block ?_)
  obtain ⟨o6, h6, h⟩ := o_inl h
  refine r_loop2 21 0 (fun x2 => ⟨[(3, .ref 3 0), (8, lstOf .frozen (a0.Signals : (List T_api_Signal))), (9, .int .i64 ((a0.Signals.length : Nat) : Int)), (10, .int .i64 x2)], [(3, .cells (cellsOf a1))], [], []⟩) (fun (_ : Unit) => ⟨[], [], [], []⟩) h6 (by kernel_rfl) (fun _ => by kernel_rfl) ?_ ?_
  · rintro x2 oh5 h5
    unfold d_layout_Signal_0 at h5
    refine pwp_seq (r_reg ?_)
    refine zE ?_
    refine q_next (pwp_seq ?_)
    rcases o_cond h5 with ⟨hb, h5⟩ | ⟨hb, h5⟩
    · refine zT hb ?_
      refine pwp_skip (q_next (pwp_seq (pwp_block (pwp_seq (r_reg ?_)))))
      refine zR 1 ?_
      obtain ⟨x4, h7, h5⟩ := o_bind h5
      refine zI h7 ?_
      refine zE ?_
      refine q_next (pwp_seq (r_reg ?_))
      refine zE ?_
      refine q_next ?_
      rcases o_cond h5 with ⟨hb, h5⟩ | ⟨hb, h5⟩
      · refine zT hb ?_
        refine pwp_seq (r_reg ?_)
        refine zE ?_
        refine q_next (pwp_ret (q_block_ret (q_seq_ret ?_)))
        cases h5
        refine q_lout_ret fun he => ?_
        subst he
        have h8 := o_outr h
        refine q_block_ret (q_seq_ret ?_)
        cases h8
        exact zQ
      refine zU hb ?_
      refine pwp_skip (q_block (q_next (r_reg ?_)))
      refine zE ?_
      cases h5
      exact zB
    refine zU hb ?_
    refine pwp_exit (q_seq_exit ?_)
    cases h5
    exact zX
  rintro _ s' rfl hs
  have h := o_outl h
  refine q_block_hit ?_
  refine q_next (pwp_wkr hs ?_)
  refine pwp_seq (r_reg ?_)
  refine zE ?_
  refine q_next (pwp_ret ?_)
  cases h
  exact zQ

/-! layout.Section -/
noncomputable def d_layout_Section (a0 : T_api_Layout) (a1 : Int) : Option Int :=
  ((bif decide (a1 < 0) then some true else (
    some (decide (((a0.Elements.length : Nat) : Int) ≤ a1))
  )) : Option Bool).bind fun b1 =>
  bif b1 then (
    some (-1)
  ) else (
    (ixO a0.Elements a1).bind fun x2 =>
    some x2.Section
  )
theorem d_layout_Section_ok (a0 : T_api_Layout) (a1 : Int) (r : Int) (h : d_layout_Section a0 a1 = some r) : PCall Go.Proofs.Tryz.prog GlS 89 [Enc.pv a0, Enc.pv a1] (Enc.pv r) := by
  unfold d_layout_Section at h
  refine pcall_of_pwp Go.Proofs.Tryz.func89 (by rfl) rfl Go.Proofs.Tryz.ntmps89 (by rfl) rfl ?_
  refine pwp_seq (r_reg ?_)
  refine zE ?_
  refine q_next (pwp_seq (pwp_seq (r_reg ?_)))
  obtain ⟨b1, h1, h⟩ := o_bind h
  refine zR 3 ?_
  refine e_seg 6 13 (.bool b1) ?_ ?_
  · rcases o_cond h1 with ⟨hb, h1⟩ | ⟨hb, h1⟩
    · refine zS 7 hb ?_
      cases h1
      exact zF
    refine zS 7 hb ?_
    refine zR 3 ?_
    refine p_len (L := (a0.Elements : (List T_api_Element))) (by kernel_rfl) ?_
    cases h1
    exact zF
  refine zN ?_
  refine q_next ?_
  rcases o_cond h with ⟨hb, h⟩ | ⟨hb, h⟩
  · refine zT hb ?_
    refine pwp_seq (r_reg ?_)
    refine zE ?_
    refine q_next (pwp_ret (q_seq_ret ?_))
    cases h
    exact zQ
  refine zU hb ?_
  refine pwp_skip (q_next (pwp_seq (r_reg ?_)))
  refine zR 3 ?_
  obtain ⟨x2, h2, h⟩ := o_bind h
  refine zI h2 ?_
  refine zE ?_
  refine q_next (pwp_ret ?_)
  cases h
  exact zQ

/-! layout.checkSignals -/
noncomputable def d_layout_checkSignals_0 (a0 : T_api_Layout) : Int → Option (Int ⊕ (Unit ⊕ Int)) := fun x5 =>
  bif decide (x5 < ((a0.Signals.length : Nat) : Int)) then (
    (ixO a0.Signals x5).bind fun x10 =>
    (d_layout_exists a0 x10.At).bind fun r11 =>
    ((bif (!r11) then some true else (
      (d_layout_within x10.Overlap 0 1000000).bind fun r13 =>
      some (!r13)
    )) : Option Bool).bind fun b12 =>
    bif b12 then (
      some (.inr (.inr 1))
    ) else (
      some (.inl (w64 (x5 + 1)))
    )
  ) else (
    some (.inr (.inl ()))
  )

noncomputable def d_layout_checkSignals_1 (a0 : T_api_Layout) : Int → Option (Int ⊕ (Unit ⊕ Int)) := fun x16 =>
  bif decide (x16 < ((a0.Signals.length : Nat) : Int)) then (
    (ixO a0.Signals x16).bind fun x19 =>
    (d_layout_Signal a0 x19.At).bind fun r20 =>
    bif (!(decide (r20 = x16))) then (
      some (.inr (.inr 8))
    ) else (
      some (.inl (w64 (x16 + 1)))
    )
  ) else (
    some (.inr (.inl ()))
  )

noncomputable def d_layout_checkSignals_2 (a0 : T_api_Layout) (a1 : (List (T_api_End × T_api_End))) : Int → Option (Int ⊕ (Unit ⊕ Int)) := fun x25 =>
  bif decide (x25 < ((a0.Signals.length : Nat) : Int)) then (
    (ixO a0.Signals x25).bind fun x30 =>
    ((bif (!((mget (a1 : (List (T_api_End × T_api_End))) x30.At).isSome)) then some true else (
      (d_layout_Section a0 (((mget (a1 : (List (T_api_End × T_api_End))) x30.At).getD (T_api_End.mk 0 0)).El)).bind fun r32 =>
      (d_layout_Section a0 x30.At.El).bind fun r33 =>
      some (decide (r32 = r33))
    )) : Option Bool).bind fun b31 =>
    bif b31 then (
      some (.inr (.inr 14))
    ) else (
      some (.inl (w64 (x25 + 1)))
    )
  ) else (
    some (.inr (.inl ()))
  )

noncomputable def d_layout_checkSignals (a0 : T_api_Layout) (a1 : (List (T_api_End × T_api_End))) : Option Int :=
  onInl (α := Unit) (β := Int) (loopO (d_layout_checkSignals_0 a0) 0) fun _ =>
  onInl (α := Unit) (β := Int) (loopO (d_layout_checkSignals_1 a0) 0) fun _ =>
  onInl (α := Unit) (β := Int) (loopO (d_layout_checkSignals_2 a0 a1) 0) fun _ =>
  some 0
theorem d_layout_checkSignals_ok (a0 : T_api_Layout) (a1 : (List (T_api_End × T_api_End))) (r : Int) (h : d_layout_checkSignals a0 a1 = some r) : PCall Go.Proofs.Tryz.prog GlS 55 [Enc.pv a0, fmOf (a1 : (List (T_api_End × T_api_End)))] (Enc.pv r) := by
  unfold d_layout_checkSignals at h
  refine pcall_of_pwp Go.Proofs.Tryz.func55 (by rfl) rfl Go.Proofs.Tryz.ntmps55 (by rfl) rfl ?_
  refine pwp_seq (r_reg ?_)
  refine zE ?_
  refine q_next (pwp_seq (pwp_seq (r_reg ?_)))
  refine zR 2 ?_
  refine p_len (L := (a0.Signals : (List T_api_Signal))) (by kernel_rfl) ?_
  refine zE ?_
  refine q_next (pwp_block ?_)
  obtain ⟨o12, h12, h⟩ := o_inl h
  refine r_loop2 76 0 (fun x5 => ⟨[(1, fmOf (a1 : (List (T_api_End × T_api_End)))), (2, .ref 2 0), (14, lstOf .frozen (a0.Signals : (List T_api_Signal))), (15, .int .i64 ((a0.Signals.length : Nat) : Int)), (16, .int .i64 x5)], [(2, .cells (cellsOf a0))], [], []⟩) (fun (_ : Unit) => ⟨[(1, fmOf (a1 : (List (T_api_End × T_api_End)))), (2, .ref 2 0)], [(2, .cells (cellsOf a0))], [], []⟩) h12 (by kernel_rfl) (fun _ => by kernel_rfl) ?_ ?_
  · rintro x5 oh11 h11
    unfold d_layout_checkSignals_0 at h11
    refine pwp_seq (r_reg ?_)
    refine zE ?_
    refine q_next (pwp_seq ?_)
    rcases o_cond h11 with ⟨hb, h11⟩ | ⟨hb, h11⟩
    · refine zT hb ?_
      refine pwp_skip (q_next (pwp_seq (pwp_block (pwp_seq (r_reg ?_)))))
      obtain ⟨x10, h13, h11⟩ := o_bind h11
      refine zI h13 ?_
      refine zE ?_
      refine q_next (pwp_seq (r_reg ?_))
      refine zR 3 ?_
      obtain ⟨r11, h14, h11⟩ := o_bind h11
      refine p_call (d_layout_exists_ok _ _ r11 h14) (by kernel_rfl) (by kernel_rfl) ?_
      obtain ⟨b12, h15, h11⟩ := o_bind h11
      refine zR 2 ?_
      refine e_seg 5 30 (.bool b12) ?_ ?_
      · rcases o_cond h15 with ⟨hb, h15⟩ | ⟨hb, h15⟩
        · refine zS 25 hb ?_
          cases h15
          exact zF
        refine zS 25 hb ?_
        refine zR 2 ?_
        obtain ⟨r13, h16, h15⟩ := o_bind h15
        refine p_call (d_layout_within_ok _ _ _ r13 h16) (by kernel_rfl) (by kernel_rfl) ?_
        cases h15
        exact zF
      refine zN ?_
      refine q_next ?_
      rcases o_cond h11 with ⟨hb, h11⟩ | ⟨hb, h11⟩
      · refine zT hb ?_
        refine pwp_seq (r_reg ?_)
        refine zE ?_
        refine q_next (pwp_ret (q_block_ret (q_seq_ret ?_)))
        cases h11
        refine q_lout_ret fun he => ?_
        subst he
        have h17 := o_outr h
        refine q_block_ret (q_seq_ret ?_)
        cases h17
        exact zQ
      refine zU hb ?_
      refine pwp_skip (q_block (q_next (r_reg ?_)))
      refine zE ?_
      cases h11
      exact zB
    refine zU hb ?_
    refine pwp_exit (q_seq_exit ?_)
    cases h11
    exact zX
  rintro _ s' rfl hs
  have h := o_outl h
  refine q_block_hit ?_
  refine q_next (pwp_wkr hs ?_)
  refine pwp_seq (pwp_seq (r_reg ?_))
  refine zR 2 ?_
  refine p_len (L := (a0.Signals : (List T_api_Signal))) (by kernel_rfl) ?_
  refine zE ?_
  refine q_next (pwp_block ?_)
  obtain ⟨o25, h25, h⟩ := o_inl h
  refine r_loop2 76 2 (fun x16 => ⟨[(1, fmOf (a1 : (List (T_api_End × T_api_End)))), (2, .ref 2 0), (33, lstOf .frozen (a0.Signals : (List T_api_Signal))), (34, .int .i64 ((a0.Signals.length : Nat) : Int)), (35, .int .i64 x16)], [(2, .cells (cellsOf a0))], [], []⟩) (fun (_ : Unit) => ⟨[(1, fmOf (a1 : (List (T_api_End × T_api_End)))), (2, .ref 2 0)], [(2, .cells (cellsOf a0))], [], []⟩) h25 (by kernel_rfl) (fun _ => by kernel_rfl) ?_ ?_
  · rintro x16 oh24 h24
    unfold d_layout_checkSignals_1 at h24
    refine pwp_seq (r_reg ?_)
    refine zE ?_
    refine q_next (pwp_seq ?_)
    rcases o_cond h24 with ⟨hb, h24⟩ | ⟨hb, h24⟩
    · refine zT hb ?_
      refine pwp_skip (q_next (pwp_seq (pwp_block (pwp_seq (r_reg ?_)))))
      refine zR 1 ?_
      obtain ⟨x19, h26, h24⟩ := o_bind h24
      refine zI h26 ?_
      refine zE ?_
      refine q_next (pwp_seq (r_reg ?_))
      refine zR 3 ?_
      obtain ⟨r20, h27, h24⟩ := o_bind h24
      refine p_call (d_layout_Signal_ok _ _ r20 h27) (by kernel_rfl) (by kernel_rfl) ?_
      refine zE ?_
      refine q_next ?_
      rcases o_cond h24 with ⟨hb, h24⟩ | ⟨hb, h24⟩
      · refine zT hb ?_
        refine pwp_seq (r_reg ?_)
        refine zE ?_
        refine q_next (pwp_ret (q_block_ret (q_seq_ret ?_)))
        cases h24
        refine q_lout_ret fun he => ?_
        subst he
        have h28 := o_outr h
        refine q_block_ret (q_seq_ret ?_)
        cases h28
        exact zQ
      refine zU hb ?_
      refine pwp_skip (q_block (q_next (r_reg ?_)))
      refine zE ?_
      cases h24
      exact zB
    refine zU hb ?_
    refine pwp_exit (q_seq_exit ?_)
    cases h24
    exact zX
  rintro _ s' rfl hs
  have h := o_outl h
  refine q_block_hit ?_
  refine q_next (pwp_wkr hs ?_)
  refine pwp_seq (pwp_seq (r_reg ?_))
  refine zR 2 ?_
  refine p_len (L := (a0.Signals : (List T_api_Signal))) (by kernel_rfl) ?_
  refine zE ?_
  refine q_next (pwp_block ?_)
  obtain ⟨o40, h40, h⟩ := o_inl h
  refine r_loop2 76 4 (fun x25 => ⟨[(1, fmOf (a1 : (List (T_api_End × T_api_End)))), (2, .ref 2 0), (48, lstOf .frozen (a0.Signals : (List T_api_Signal))), (49, .int .i64 ((a0.Signals.length : Nat) : Int)), (50, .int .i64 x25)], [(2, .cells (cellsOf a0))], [], []⟩) (fun (_ : Unit) => ⟨[], [], [], []⟩) h40 (by kernel_rfl) (fun _ => by kernel_rfl) ?_ ?_
  · rintro x25 oh39 h39
    unfold d_layout_checkSignals_2 at h39
    refine pwp_seq (r_reg ?_)
    refine zE ?_
    refine q_next (pwp_seq ?_)
    rcases o_cond h39 with ⟨hb, h39⟩ | ⟨hb, h39⟩
    · refine zT hb ?_
      refine pwp_skip (q_next (pwp_seq (pwp_block (pwp_seq (r_reg ?_)))))
      obtain ⟨x30, h41, h39⟩ := o_bind h39
      refine zI h41 ?_
      refine zE ?_
      refine q_next (pwp_seq (r_reg ?_))
      refine zR 3 ?_
      refine p_lookupF (m := (a1 : (List (T_api_End × T_api_End)))) (k := x30.At) (T_api_End.mk 0 0) true (by kernel_rfl) ?_
      refine zE ?_
      refine q_next (pwp_seq ?_)
      refine r_regd (by kernel_rfl) (by kernel_rfl) ?_
      obtain ⟨b31, h42, h39⟩ := o_bind h39
      refine zR 3 ?_
      refine e_seg 11 74 (.bool b31) ?_ ?_
      · rcases o_cond h42 with ⟨hb, h42⟩ | ⟨hb, h42⟩
        · refine zS 63 hb ?_
          cases h42
          exact zF
        refine zS 63 hb ?_
        refine zR 3 ?_
        obtain ⟨r32, h43, h42⟩ := o_bind h42
        refine p_call (d_layout_Section_ok _ _ r32 h43) (by kernel_rfl) (by kernel_rfl) ?_
        refine zR 4 ?_
        obtain ⟨r33, h44, h42⟩ := o_bind h42
        refine p_call (d_layout_Section_ok _ _ r33 h44) (by kernel_rfl) (by kernel_rfl) ?_
        cases h42
        exact zF
      refine zN ?_
      refine q_next ?_
      rcases o_cond h39 with ⟨hb, h39⟩ | ⟨hb, h39⟩
      · refine zT hb ?_
        refine pwp_seq (r_reg ?_)
        refine zE ?_
        refine q_next (pwp_ret (q_block_ret (q_seq_ret ?_)))
        cases h39
        refine q_lout_ret fun he => ?_
        subst he
        have h45 := o_outr h
        refine q_block_ret (q_seq_ret ?_)
        cases h45
        exact zQ
      refine zU hb ?_
      refine pwp_skip (q_block (q_next (r_reg ?_)))
      refine zE ?_
      cases h39
      exact zB
    refine zU hb ?_
    refine pwp_exit (q_seq_exit ?_)
    cases h39
    exact zX
  rintro _ s' rfl hs
  have h := o_outl h
  refine q_block_hit ?_
  refine q_next (pwp_wkr hs ?_)
  refine pwp_seq (r_reg ?_)
  refine zE ?_
  refine q_next (pwp_ret ?_)
  cases h
  exact zQ

end PM
