/-
  Plain functions for the program's functions, and the proofs that the program does them. Printed by den.py.
-/
import Derived.Test.YtcobolgkboknbaaDoorDen0
namespace PM
open Go Go.RowKit
attribute [local irreducible] pops pwp

/-! profile.speed -/
noncomputable def d_profile_speed (a0 : T_api_Element) (a1 : T_api_Step) : Option Int :=
  bif ((decide (a0.Kind = 2)) && ((decide (a1.In = 2)) || (decide (a1.Out = 2)))) then (
    some a0.Slow
  ) else (
    some a0.Speed
  )
theorem d_profile_speed_ok (a0 : T_api_Element) (a1 : T_api_Step) (r : Int) (h : d_profile_speed a0 a1 = some r) : PCall Go.Proofs.Tryd.prog GlS 37 [Enc.pv a0, Enc.pv a1] (Enc.pv r) := by
  unfold d_profile_speed at h
  refine pcall_of_pwp Go.Proofs.Tryd.func37 (by rfl) rfl Go.Proofs.Tryd.ntmps37 (by rfl) rfl ?_
  refine pwp_seq (r_reg ?_)
  refine zE ?_
  refine q_next (pwp_seq (pwp_seq (r_reg ?_)))
  refine zR 4 ?_
  refine e_segb 9 17 ((decide (a0.Kind = 2)) && ((decide (a1.In = 2)) || (decide (a1.Out = 2)))) (fun x hx => ?_) ?_
  · rcases b_and hx with ⟨hb, hx⟩ | ⟨hb, hx⟩
    · refine zS 8 hb ?_
      refine zR 4 ?_
      refine f_segb 4 16 ((decide (a1.In = 2)) || (decide (a1.Out = 2))) (fun x hx => ?_) ?_
      · rcases b_or hx with ⟨hb, hx⟩ | ⟨hb, hx⟩
        · refine zS 12 hb ?_
          subst hx
          exact zF
        refine zS 12 hb ?_
        subst hx
        exact zF
      subst hx
      exact zF
    refine zS 8 hb ?_
    subst hx
    exact zF
  refine zN ?_
  refine q_next ?_
  rcases o_cond h with ⟨hb, h⟩ | ⟨hb, h⟩
  · refine zT hb ?_
    refine pwp_seq (r_reg ?_)
    refine zE ?_
    refine q_next (pwp_ret (q_seq_ret ?_))
    cases h
    exact zQ
  refine zU hb ?_
  refine pwp_skip (q_next (pwp_seq (r_reg ?_)))
  refine zE ?_
  refine q_next (pwp_ret ?_)
  cases h
  exact zQ

/-! profile.Valid -/
noncomputable def d_profile_Valid_0 (a0 : (List T_api_Segment)) : Int → Option (Int ⊕ (Unit ⊕ Bool)) := fun x7 =>
  bif decide (x7 < ((a0.length : Nat) : Int)) then (
    (ixO a0 x7).bind fun x14 =>
    (d_profile_coordinate x14.From).bind fun r15 =>
    ((bif (!r15) then some true else (
      (d_profile_coordinate x14.To).bind fun r17 =>
      some (!r17)
    )) : Option Bool).bind fun b16 =>
    bif (((((b16 || (decide (x14.To ≤ x14.From))) || (decide (x14.Grade < (-50)))) || (decide (50 < x14.Grade))) || (decide (x14.Speed < 1))) || (decide (10000 < x14.Speed))) then (
      some (.inr (.inr false))
    ) else (
      ((bif decide (0 < x7) then (
        (ixO a0 (w64 (x7 - 1))).bind fun x19 =>
        some (!(decide (x14.From = x19.To)))
      ) else some false) : Option Bool).bind fun b18 =>
      bif b18 then (
        some (.inr (.inr false))
      ) else (
        some (.inl (w64 (x7 + 1)))
      )
    )
  ) else (
    some (.inr (.inl ()))
  )

noncomputable def d_profile_Valid (a0 : (List T_api_Segment)) : Option Bool :=
  bif decide (128 < ((a0.length : Nat) : Int)) then (
    some false
  ) else (
    onInl (α := Unit) (β := Bool) (loopO (d_profile_Valid_0 a0) 0) fun _ =>
    some true
  )
theorem d_profile_Valid_ok (a0 : (List T_api_Segment)) (r : Bool) (h : d_profile_Valid a0 = some r) : PCall Go.Proofs.Tryd.prog GlS 38 [Enc.pv a0] (Enc.pv r) := by
  unfold d_profile_Valid at h
  refine pcall_of_pwp Go.Proofs.Tryd.func38 (by rfl) rfl Go.Proofs.Tryd.ntmps38 (by rfl) rfl ?_
  refine pwp_seq (r_reg ?_)
  refine zE ?_
  refine q_next (pwp_seq (pwp_seq (r_reg ?_)))
  refine zR 1 ?_
  refine p_len (L := (a0 : (List T_api_Segment))) (by kernel_rfl) ?_
  refine zE ?_
  refine q_next ?_
  rcases o_cond h with ⟨hb, h⟩ | ⟨hb, h⟩
  · refine zT hb ?_
    refine pwp_seq (r_reg ?_)
    refine zE ?_
    refine q_next (pwp_ret (q_seq_ret ?_))
    cases h
    exact zQ
  refine zU hb ?_
  refine pwp_skip (q_next (pwp_seq (pwp_seq (r_reg ?_))))
  refine zR 1 ?_
  refine p_len (L := (a0 : (List T_api_Segment))) (by kernel_rfl) ?_
  refine zE ?_
  refine q_next (pwp_block ?_)
  obtain ⟨o18, h18, h⟩ := o_inl h
  refine r_loop2 66 0 (fun x7 => ⟨[(0, lstOf .frozen (a0 : (List T_api_Segment))), (8, lstOf .frozen (a0 : (List T_api_Segment))), (9, .int .i64 ((a0.length : Nat) : Int)), (10, .int .i64 x7)], [], [], []⟩) (fun (_ : Unit) => ⟨[], [], [], []⟩) h18 (by kernel_rfl) (fun _ => by kernel_rfl) ?_ ?_
  · rintro x7 oh17 h17
    unfold d_profile_Valid_0 at h17
    refine pwp_seq (r_reg ?_)
    refine zE ?_
    refine q_next (pwp_seq ?_)
    rcases o_cond h17 with ⟨hb, h17⟩ | ⟨hb, h17⟩
    · refine zT hb ?_
      refine pwp_skip (q_next (pwp_seq (pwp_block (pwp_seq (r_reg ?_)))))
      refine zR 1 ?_
      obtain ⟨x14, h19, h17⟩ := o_bind h17
      refine zI h19 ?_
      refine zE ?_
      refine q_next (pwp_seq (pwp_seq (r_reg ?_)))
      refine zR 2 ?_
      obtain ⟨r15, h20, h17⟩ := o_bind h17
      refine p_call (d_profile_coordinate_ok _ r15 h20) (by kernel_rfl) (by kernel_rfl) ?_
      obtain ⟨b16, h21, h17⟩ := o_bind h17
      refine zR 2 ?_
      refine e_seg 5 24 (.bool b16) ?_ ?_
      · rcases o_cond h21 with ⟨hb, h21⟩ | ⟨hb, h21⟩
        · refine zS 19 hb ?_
          cases h21
          exact zF
        refine zS 19 hb ?_
        refine zR 2 ?_
        obtain ⟨r17, h22, h21⟩ := o_bind h21
        refine p_call (d_profile_coordinate_ok _ r17 h22) (by kernel_rfl) (by kernel_rfl) ?_
        cases h21
        exact zF
      refine zR 1 ?_
      refine e_segb 6 31 (b16 || (decide (x14.To ≤ x14.From))) (fun x hx => ?_) ?_
      · rcases b_or hx with ⟨hb, hx⟩ | ⟨hb, hx⟩
        · refine zS 25 hb ?_
          subst hx
          exact zF
        refine zS 25 hb ?_
        subst hx
        exact zF
      refine zR 1 ?_
      refine e_segb 4 36 ((b16 || (decide (x14.To ≤ x14.From))) || (decide (x14.Grade < (-50)))) (fun x hx => ?_) ?_
      · rcases b_or hx with ⟨hb, hx⟩ | ⟨hb, hx⟩
        · refine zS 32 hb ?_
          subst hx
          exact zF
        refine zS 32 hb ?_
        subst hx
        exact zF
      refine zR 1 ?_
      refine e_segb 4 41 (((b16 || (decide (x14.To ≤ x14.From))) || (decide (x14.Grade < (-50)))) || (decide (50 < x14.Grade))) (fun x hx => ?_) ?_
      · rcases b_or hx with ⟨hb, hx⟩ | ⟨hb, hx⟩
        · refine zS 37 hb ?_
          subst hx
          exact zF
        refine zS 37 hb ?_
        subst hx
        exact zF
      refine zR 1 ?_
      refine e_segb 4 46 ((((b16 || (decide (x14.To ≤ x14.From))) || (decide (x14.Grade < (-50)))) || (decide (50 < x14.Grade))) || (decide (x14.Speed < 1))) (fun x hx => ?_) ?_
      · rcases b_or hx with ⟨hb, hx⟩ | ⟨hb, hx⟩
        · refine zS 42 hb ?_
          subst hx
          exact zF
        refine zS 42 hb ?_
        subst hx
        exact zF
      refine zR 1 ?_
      refine e_segb 4 51 (((((b16 || (decide (x14.To ≤ x14.From))) || (decide (x14.Grade < (-50)))) || (decide (50 < x14.Grade))) || (decide (x14.Speed < 1))) || (decide (10000 < x14.Speed))) (fun x hx => ?_) ?_
      · rcases b_or hx with ⟨hb, hx⟩ | ⟨hb, hx⟩
        · refine zS 47 hb ?_
          subst hx
          exact zF
        refine zS 47 hb ?_
        subst hx
        exact zF
      refine zN ?_
      refine q_next ?_
      rcases o_cond h17 with ⟨hb, h17⟩ | ⟨hb, h17⟩
      · refine zT hb ?_
        refine pwp_seq (r_reg ?_)
        refine zE ?_
        refine q_next (pwp_ret (q_seq_ret (q_block_ret (q_seq_ret ?_))))
        cases h17
        refine q_lout_ret fun he => ?_
        subst he
        have h23 := o_outr h
        refine q_block_ret (q_seq_ret ?_)
        cases h23
        exact zQ
      refine zU hb ?_
      refine pwp_skip (q_next (pwp_seq ?_))
      refine r_regd (by kernel_rfl) (by kernel_rfl) ?_
      obtain ⟨b18, h24, h17⟩ := o_bind h17
      refine zR 3 ?_
      refine e_seg 10 64 (.bool b18) ?_ ?_
      · rcases o_cond h24 with ⟨hb, h24⟩ | ⟨hb, h24⟩
        · refine zS 54 hb ?_
          refine zR 5 ?_
          obtain ⟨x19, h25, h24⟩ := o_bind h24
          refine zI h25 ?_
          cases h24
          exact zF
        refine zS 54 hb ?_
        cases h24
        exact zF
      refine zN ?_
      refine q_next ?_
      rcases o_cond h17 with ⟨hb, h17⟩ | ⟨hb, h17⟩
      · refine zT hb ?_
        refine pwp_seq (r_reg ?_)
        refine zE ?_
        refine q_next (pwp_ret (q_block_ret (q_seq_ret ?_)))
        cases h17
        refine q_lout_ret fun he => ?_
        subst he
        have h26 := o_outr h
        refine q_block_ret (q_seq_ret ?_)
        cases h26
        exact zQ
      refine zU hb ?_
      refine pwp_skip (q_block (q_next (r_reg ?_)))
      refine zE ?_
      cases h17
      exact zB
    refine zU hb ?_
    refine pwp_exit (q_seq_exit ?_)
    cases h17
    exact zX
  rintro _ s' rfl hs
  have h := o_outl h
  refine q_block_hit ?_
  refine q_next (pwp_wkr hs ?_)
  refine pwp_seq (r_reg ?_)
  refine zE ?_
  refine q_next (pwp_ret ?_)
  cases h
  exact zQ

/-! profile.Of -/
noncomputable def d_profile_Of_0 (a0 : T_api_Layout) (a1 : (List T_api_Step)) : (Int × Int × (List T_api_Segment)) → Option ((Int × Int × (List T_api_Segment)) ⊕ ((List T_api_Segment) ⊕ (List T_api_Segment))) := fun (x21, x22, x23) =>
  bif decide (x22 < ((a1.length : Nat) : Int)) then (
    (ixO a1 x22).bind fun x34 =>
    ((bif decide (x34.El < 0) then some true else (
      some (decide (((a0.Elements.length : Nat) : Int) ≤ x34.El))
    )) : Option Bool).bind fun b35 =>
    bif b35 then (
      some (.inr (.inr ([] : (List T_api_Segment))))
    ) else (
      (ixO a0.Elements x34.El).bind fun x36 =>
      (d_rail_Need x36.Kind x34.In x34.Out).bind fun r37 =>
      ((bif (!r37.2) then some true else (
        (d_profile_coordinate x21).bind fun r39 =>
        some (!r39)
      )) : Option Bool).bind fun b38 =>
      bif b38 then (
        some (.inr (.inr ([] : (List T_api_Segment))))
      ) else (
        (d_profile_gradient x36 x34).bind fun r40 =>
        (d_profile_speed x36 x34).bind fun r41 =>
        (appO x23 [(T_api_Segment.mk x21 (w64 (x21 + x36.Length)) r40 r41)]).bind fun x42 =>
        some (.inl (w64 (x21 + x36.Length), w64 (x22 + 1), x42))
      )
    )
  ) else (
    some (.inr (.inl x23))
  )

noncomputable def d_profile_Of (a0 : T_api_Layout) (a1 : (List T_api_Step)) (a2 : Int) : Option (List T_api_Segment) :=
  bif decide (128 < ((a1.length : Nat) : Int)) then (
    some ([] : (List T_api_Segment))
  ) else (
    onInl (α := (List T_api_Segment)) (β := (List T_api_Segment)) (loopO (d_profile_Of_0 a0 a1) (a2, 0, ([] : (List T_api_Segment)))) fun x33 =>
    (d_profile_Valid x33).bind fun r43 =>
    bif (!r43) then (
      some ([] : (List T_api_Segment))
    ) else (
      some x33
    )
  )
theorem d_profile_Of_ok (a0 : T_api_Layout) (a1 : (List T_api_Step)) (a2 : Int) (r : (List T_api_Segment)) (h : d_profile_Of a0 a1 a2 = some r) : PCall Go.Proofs.Tryd.prog GlS 13 [Enc.pv a0, Enc.pv a1, Enc.pv a2] (Enc.pv r) := by
  unfold d_profile_Of at h
  refine pcall_of_pwp Go.Proofs.Tryd.func13 (by rfl) rfl Go.Proofs.Tryd.ntmps13 (by rfl) rfl ?_
  refine pwp_seq (r_reg ?_)
  refine zE ?_
  refine q_next (pwp_seq (pwp_seq (r_reg ?_)))
  refine zR 1 ?_
  refine p_len (L := (a1 : (List T_api_Step))) (by kernel_rfl) ?_
  refine zE ?_
  refine q_next ?_
  rcases o_cond h with ⟨hb, h⟩ | ⟨hb, h⟩
  · refine zT hb ?_
    refine pwp_seq (r_reg ?_)
    refine zE ?_
    refine q_next (pwp_ret (q_seq_ret ?_))
    cases h
    exact zQ
  refine zU hb ?_
  refine pwp_skip (q_next (pwp_seq (r_reg ?_)))
  refine zE ?_
  refine q_next (pwp_seq (r_reg ?_))
  refine zE ?_
  refine q_next (pwp_seq (pwp_seq (r_reg ?_)))
  refine zR 1 ?_
  refine p_len (L := (a1 : (List T_api_Step))) (by kernel_rfl) ?_
  refine zE ?_
  refine q_next (pwp_block ?_)
  refine g_nil 7 100007 4 32 (by kernel_rfl) (by kernel_rfl) ?_
  obtain ⟨o35, h35, h⟩ := o_inl h
  refine r_loop2 81 0 (fun (x21, x22, x23) => ⟨[(3, .ref 3 0), (7, lstOf (.own 100007) (x23 : (List T_api_Segment))), (8, .int .i64 x21), (19, lstOf .frozen (a1 : (List T_api_Step))), (20, .int .i64 ((a1.length : Nat) : Int)), (21, .int .i64 x22)], [(3, .cells (cellsOf a0))], [(100007, (((x23).map cellsOf).length, 4))], []⟩) (fun x33 => ⟨[(7, lstOf (.own 100007) (x33 : (List T_api_Segment)))], [], [(100007, (((x33).map cellsOf).length, 4))], []⟩) h35 (by kernel_rfl) (fun _ => by kernel_rfl) ?_ ?_
  · rintro ⟨x21, x22, x23⟩ oh34 h34
    unfold d_profile_Of_0 at h34
    refine pwp_seq (r_reg ?_)
    refine zE ?_
    refine q_next (pwp_seq ?_)
    rcases o_cond h34 with ⟨hb, h34⟩ | ⟨hb, h34⟩
    · refine zT hb ?_
      refine pwp_skip (q_next (pwp_seq (pwp_block (pwp_seq (r_reg ?_)))))
      obtain ⟨x34, h36, h34⟩ := o_bind h34
      refine zI h36 ?_
      refine zE ?_
      refine q_next (pwp_seq (pwp_seq (r_reg ?_)))
      obtain ⟨b35, h37, h34⟩ := o_bind h34
      refine zR 4 ?_
      refine e_seg 7 35 (.bool b35) ?_ ?_
      · rcases o_cond h37 with ⟨hb, h37⟩ | ⟨hb, h37⟩
        · refine zS 28 hb ?_
          cases h37
          exact zF
        refine zS 28 hb ?_
        refine zR 4 ?_
        refine p_len (L := (a0.Elements : (List T_api_Element))) (by kernel_rfl) ?_
        cases h37
        exact zF
      refine zN ?_
      refine q_next ?_
      rcases o_cond h34 with ⟨hb, h34⟩ | ⟨hb, h34⟩
      · refine zT hb ?_
        refine pwp_seq (r_reg ?_)
        refine zE ?_
        refine q_next (pwp_ret (q_seq_ret (q_block_ret (q_seq_ret ?_))))
        cases h34
        refine q_lout_ret fun he => ?_
        subst he
        have h38 := o_outr h
        refine q_block_ret (q_seq_ret ?_)
        cases h38
        exact zQ
      refine zU hb ?_
      refine pwp_skip (q_next (pwp_seq (r_reg ?_)))
      refine zR 4 ?_
      obtain ⟨x36, h39, h34⟩ := o_bind h34
      refine zI h39 ?_
      refine zE ?_
      refine q_next (pwp_seq (pwp_seq (r_reg ?_)))
      refine zR 6 ?_
      obtain ⟨r37, h40, h34⟩ := o_bind h34
      refine p_call (d_rail_Need_ok _ _ _ r37 h40) (by kernel_rfl) (by kernel_rfl) ?_
      refine zE ?_
      refine q_next (pwp_seq (r_reg ?_))
      obtain ⟨b38, h41, h34⟩ := o_bind h34
      refine zR 3 ?_
      refine e_seg 4 58 (.bool b38) ?_ ?_
      · rcases o_cond h41 with ⟨hb, h41⟩ | ⟨hb, h41⟩
        · refine zS 54 hb ?_
          cases h41
          exact zF
        refine zS 54 hb ?_
        refine zR 1 ?_
        obtain ⟨r39, h42, h41⟩ := o_bind h41
        refine p_call (d_profile_coordinate_ok _ r39 h42) (by kernel_rfl) (by kernel_rfl) ?_
        cases h41
        exact zF
      refine zN ?_
      refine q_next ?_
      rcases o_cond h34 with ⟨hb, h34⟩ | ⟨hb, h34⟩
      · refine zT hb ?_
        refine pwp_seq (r_reg ?_)
        refine zE ?_
        refine q_next (pwp_ret (q_seq_ret (q_block_ret (q_seq_ret ?_))))
        cases h34
        refine q_lout_ret fun he => ?_
        subst he
        have h43 := o_outr h
        refine q_block_ret (q_seq_ret ?_)
        cases h43
        exact zQ
      refine zU hb ?_
      refine pwp_skip (q_next (pwp_seq (r_reg ?_)))
      refine zE ?_
      refine q_next (pwp_seq ?_)
      refine r_regd (by kernel_rfl) (by kernel_rfl) ?_
      refine zR 5 ?_
      obtain ⟨r40, h44, h34⟩ := o_bind h34
      refine p_call (d_profile_gradient_ok _ _ r40 h44) (by kernel_rfl) (by kernel_rfl) ?_
      refine zR 2 ?_
      obtain ⟨r41, h45, h34⟩ := o_bind h34
      refine p_call (d_profile_speed_ok _ _ r41 h45) (by kernel_rfl) (by kernel_rfl) ?_
      refine zR 2 ?_
      obtain ⟨x42, h46, h34⟩ := o_bind h34
      refine p_app (tk := 100007) h46 (by kernel_rfl) (by kernel_rfl) ?_
      refine zE ?_
      refine q_next (r_reg ?_)
      refine zE ?_
      refine q_block (q_next (r_reg ?_))
      refine zE ?_
      cases h34
      exact zB
    refine zU hb ?_
    refine pwp_exit (q_seq_exit ?_)
    cases h34
    exact zX
  rintro x33 s' rfl hs
  have h := o_outl h
  refine q_block_hit ?_
  refine q_next (pwp_wkr hs ?_)
  refine pwp_seq (pwp_seq (r_reg ?_))
  refine zR 1 ?_
  obtain ⟨r43, h47, h⟩ := o_bind h
  refine p_call (d_profile_Valid_ok _ r43 h47) (by kernel_rfl) (by kernel_rfl) ?_
  refine zE ?_
  refine q_next ?_
  rcases o_cond h with ⟨hb, h⟩ | ⟨hb, h⟩
  · refine zT hb ?_
    refine pwp_seq (r_reg ?_)
    refine zE ?_
    refine q_next (pwp_ret (q_seq_ret ?_))
    cases h
    exact zQ
  refine zU hb ?_
  refine pwp_skip (q_next (pwp_seq (r_reg ?_)))
  refine zE ?_
  refine q_next (pwp_ret ?_)
  cases h
  exact zQ

/-! slices.Clone[[]api.Segment,api.Segment] -/
noncomputable def d_slices_Clone_api_Segment (a0 : (List T_api_Segment)) : Option (List T_api_Segment) :=
  (appO ([] : (List T_api_Segment)) a0).bind fun x1 =>
  some x1
theorem d_slices_Clone_api_Segment_ok (a0 : (List T_api_Segment)) (r : (List T_api_Segment)) (h : d_slices_Clone_api_Segment a0 = some r) : PCall Go.Proofs.Tryd.prog GlS 49 [Enc.pv a0] (lstOf (.own 7) r) := by
  unfold d_slices_Clone_api_Segment at h
  refine pcall_of_pwp Go.Proofs.Tryd.func49 (by rfl) rfl Go.Proofs.Tryd.ntmps49 (by rfl) rfl ?_
  refine pwp_seq (r_reg ?_)
  refine zE ?_
  refine q_next (pwp_seq (pwp_seq (r_reg ?_)))
  refine zE ?_
  refine q_next ?_
  refine pwp_condU (e := ((a0 : (List T_api_Segment)).map cellsOf).isEmpty) (by kernel_rfl) (fun hub => ?_) ?_
  · have hN := clone_nil (ub_nil hub) h
    refine pwp_seq (r_reg ?_)
    refine zE ?_
    refine q_next ?_
    refine g_nil 2 7 4 32 (by kernel_rfl) (by kernel_rfl) ?_
    refine pwp_ret (q_seq_ret ?_)
    cases hN
    exact zQ
  refine pwp_skip (q_next (pwp_seq (r_reg ?_)))
  refine zR 2 ?_
  obtain ⟨x1, h1, h⟩ := o_bind h
  refine p_appn (tk := 7) h1 (by kernel_rfl) ?_
  refine zE ?_
  refine q_next (pwp_ret ?_)
  cases h
  exact zQ
theorem d_slices_Clone_api_Segment_fz (a0 : (List T_api_Segment)) (r : (List T_api_Segment)) (h : d_slices_Clone_api_Segment a0 = some r) : PCall Go.Proofs.Tryd.prog GlS 49 [Enc.pv a0] (Enc.pv r) :=
  (d_slices_Clone_api_Segment_ok a0 r h).freeze (by kernel_rfl) (by kernel_rfl) (by kernel_rfl)

/-! restriction.Check -/
noncomputable def d_restriction_Check (a0 : T_api_Layout) (a1 : T_api_Restriction) : Option Int :=
  ((bif (((decide (a1.Id < 1)) || (decide (1073741824 < a1.Id))) || (decide (a1.El < 0))) then some true else (
    some (decide (((a0.Elements.length : Nat) : Int) ≤ a1.El))
  )) : Option Bool).bind fun b1 =>
  bif b1 then (
    some 1
  ) else (
    ((bif ((decide (a1.From < 0)) || (decide (a1.To ≤ a1.From))) then some true else (
      (ixO a0.Elements a1.El).bind fun x3 =>
      some (decide (x3.Length < a1.To))
    )) : Option Bool).bind fun b2 =>
    bif ((b2 || (decide (a1.Speed < 100))) || (decide (10000 < a1.Speed))) then (
      some 1
    ) else (
      some 0
    )
  )
theorem d_restriction_Check_ok (a0 : T_api_Layout) (a1 : T_api_Restriction) (r : Int) (h : d_restriction_Check a0 a1 = some r) : PCall Go.Proofs.Tryd.prog GlS 50 [Enc.pv a0, Enc.pv a1] (Enc.pv r) := by
  unfold d_restriction_Check at h
  refine pcall_of_pwp Go.Proofs.Tryd.func50 (by rfl) rfl Go.Proofs.Tryd.ntmps50 (by rfl) rfl ?_
  refine pwp_seq (r_reg ?_)
  refine zE ?_
  refine q_next (pwp_seq (pwp_seq (r_reg ?_)))
  refine zR 4 ?_
  refine e_segb 4 12 ((decide (a1.Id < 1)) || (decide (1073741824 < a1.Id))) (fun x hx => ?_) ?_
  · rcases b_or hx with ⟨hb, hx⟩ | ⟨hb, hx⟩
    · refine zS 8 hb ?_
      subst hx
      exact zF
    refine zS 8 hb ?_
    subst hx
    exact zF
  refine zR 1 ?_
  refine e_segb 4 17 (((decide (a1.Id < 1)) || (decide (1073741824 < a1.Id))) || (decide (a1.El < 0))) (fun x hx => ?_) ?_
  · rcases b_or hx with ⟨hb, hx⟩ | ⟨hb, hx⟩
    · refine zS 13 hb ?_
      subst hx
      exact zF
    refine zS 13 hb ?_
    subst hx
    exact zF
  obtain ⟨b1, h1, h⟩ := o_bind h
  refine zR 1 ?_
  refine e_seg 7 25 (.bool b1) ?_ ?_
  · rcases o_cond h1 with ⟨hb, h1⟩ | ⟨hb, h1⟩
    · refine zS 18 hb ?_
      cases h1
      exact zF
    refine zS 18 hb ?_
    refine zR 4 ?_
    refine p_len (L := (a0.Elements : (List T_api_Element))) (by kernel_rfl) ?_
    cases h1
    exact zF
  refine zN ?_
  refine q_next ?_
  rcases o_cond h with ⟨hb, h⟩ | ⟨hb, h⟩
  · refine zT hb ?_
    refine pwp_seq (r_reg ?_)
    refine zE ?_
    refine q_next (pwp_ret (q_seq_ret ?_))
    cases h
    exact zQ
  refine zU hb ?_
  refine pwp_skip (q_next (pwp_seq (pwp_seq ?_)))
  refine r_regd (by kernel_rfl) (by kernel_rfl) ?_
  refine zR 4 ?_
  refine e_segb 6 35 ((decide (a1.From < 0)) || (decide (a1.To ≤ a1.From))) (fun x hx => ?_) ?_
  · rcases b_or hx with ⟨hb, hx⟩ | ⟨hb, hx⟩
    · refine zS 29 hb ?_
      subst hx
      exact zF
    refine zS 29 hb ?_
    subst hx
    exact zF
  obtain ⟨b2, h2, h⟩ := o_bind h
  refine zR 1 ?_
  refine e_seg 11 47 (.bool b2) ?_ ?_
  · rcases o_cond h2 with ⟨hb, h2⟩ | ⟨hb, h2⟩
    · refine zS 36 hb ?_
      cases h2
      exact zF
    refine zS 36 hb ?_
    refine zR 6 ?_
    obtain ⟨x3, h3, h2⟩ := o_bind h2
    refine zI h3 ?_
    cases h2
    exact zF
  refine zR 1 ?_
  refine e_segb 4 52 (b2 || (decide (a1.Speed < 100))) (fun x hx => ?_) ?_
  · rcases b_or hx with ⟨hb, hx⟩ | ⟨hb, hx⟩
    · refine zS 48 hb ?_
      subst hx
      exact zF
    refine zS 48 hb ?_
    subst hx
    exact zF
  refine zR 1 ?_
  refine e_segb 4 57 ((b2 || (decide (a1.Speed < 100))) || (decide (10000 < a1.Speed))) (fun x hx => ?_) ?_
  · rcases b_or hx with ⟨hb, hx⟩ | ⟨hb, hx⟩
    · refine zS 53 hb ?_
      subst hx
      exact zF
    refine zS 53 hb ?_
    subst hx
    exact zF
  refine zN ?_
  refine q_next ?_
  rcases o_cond h with ⟨hb, h⟩ | ⟨hb, h⟩
  · refine zT hb ?_
    refine pwp_seq (r_reg ?_)
    refine zE ?_
    refine q_next (pwp_ret (q_seq_ret ?_))
    cases h
    exact zQ
  refine zU hb ?_
  refine pwp_skip (q_next (pwp_seq (r_reg ?_)))
  refine zE ?_
  refine q_next (pwp_ret ?_)
  cases h
  exact zQ

/-! (profile.span).part -/
noncomputable def d_profile_span_part (a0 : T_profile_span) (a1 : T_api_Segment) : Option (T_api_Segment × Bool) :=
  some ((T_api_Segment.mk (max a1.From a0.from_) (min a1.To a0.to_) a1.Grade a1.Speed), decide ((max a1.From a0.from_) < (min a1.To a0.to_)))
theorem d_profile_span_part_ok (a0 : T_profile_span) (a1 : T_api_Segment) (r : (T_api_Segment × Bool)) (h : d_profile_span_part a0 a1 = some r) : PCall Go.Proofs.Tryd.prog GlS 52 [Enc.pv a0, Enc.pv a1] (.tup [Enc.pv r.1, Enc.pv r.2]) := by
  unfold d_profile_span_part at h
  refine pcall_of_pwp Go.Proofs.Tryd.func52 (by rfl) rfl Go.Proofs.Tryd.ntmps52 (by rfl) rfl ?_
  refine pwp_seq (r_reg ?_)
  refine zE ?_
  refine q_next (pwp_seq ?_)
  refine r_anyI 24 ⟨[(3, .ref 3 0), (4, .ref 4 0)], [(3, .cells ([.int .i64 (max a1.From a0.from_), .int .i64 (min a1.To a0.to_), .int .i64 a1.Grade, .int .i64 a1.Speed])), (4, .cells ([.int .i64 0, .int .i64 0, .int .i64 0, .int .i64 0]))], [], []⟩ (by kernel_rfl) ?_ ?_
  · refine pI_run [0, 1, 2, 3, 4, 5, 6, 7, 10] 5 (by kernel_rfl) ?_
    refine zR 9 ?_
    refine p_nilK (by kernel_rfl) ?_
    refine pI_node (n := 4) [8, 11] (by kernel_rfl) ⟨?_, ?_, trivial⟩
    · refine ⟨_, rfl, ?_⟩
      refine zR 1 ?_
      refine p_nilK (by kernel_rfl) ?_
      refine pI_run [9, 11, 12, 13] 0 (by kernel_rfl) ?_
      refine zR 4 ?_
      refine p_nilK (by kernel_rfl) ?_
      exact pI_leaf (by kernel_rfl) (.of (by kernel_rfl) (by kernel_rfl))
    refine ⟨_, rfl, ?_⟩
    refine zR 1 ?_
    refine p_nilK (by kernel_rfl) ?_
    refine pI_run [8, 9, 12, 13] 0 (by kernel_rfl) ?_
    refine zR 4 ?_
    refine p_nilK (by kernel_rfl) ?_
    exact pI_leaf (by kernel_rfl) (.of (by kernel_rfl) (by kernel_rfl))
  refine q_next (pwp_seq ?_)
  refine r_anyI 24 ⟨[(4, .ref 4 0), (5, .bool (decide ((max a1.From a0.from_) < (min a1.To a0.to_))))], [(4, .cells ([.int .i64 (max a1.From a0.from_), .int .i64 (min a1.To a0.to_), .int .i64 a1.Grade, .int .i64 a1.Speed]))], [], []⟩ (by kernel_rfl) ?_ ?_
  · refine pI_run [0, 1, 3] 5 (by kernel_rfl) ?_
    refine zR 3 ?_
    refine p_nilK (by kernel_rfl) ?_
    refine pI_node (n := 4) [2, 4, 6] (by kernel_rfl) ⟨?_, ?_, ?_, trivial⟩
    · refine ⟨_, rfl, ?_⟩
      refine zR 1 ?_
      refine p_nilK (by kernel_rfl) ?_
      refine pI_node (n := 3) [4, 6] (by kernel_rfl) ⟨?_, ?_, trivial⟩
      · refine ⟨_, rfl, ?_⟩
        refine zR 1 ?_
        refine p_nilK (by kernel_rfl) ?_
        refine pI_run [5, 6, 7] 0 (by kernel_rfl) ?_
        refine zR 3 ?_
        refine p_nilK (by kernel_rfl) ?_
        exact pI_leaf (by kernel_rfl) (.of (by kernel_rfl) (by kernel_rfl))
      refine ⟨_, rfl, ?_⟩
      refine zR 1 ?_
      refine p_nilK (by kernel_rfl) ?_
      refine pI_run [4, 5, 7] 0 (by kernel_rfl) ?_
      refine zR 3 ?_
      refine p_nilK (by kernel_rfl) ?_
      exact pI_leaf (by kernel_rfl) (.of (by kernel_rfl) (by kernel_rfl))
    · refine ⟨_, rfl, ?_⟩
      refine zR 1 ?_
      refine p_nilK (by kernel_rfl) ?_
      refine pI_node (n := 3) [2, 6] (by kernel_rfl) ⟨?_, ?_, trivial⟩
      · refine ⟨_, rfl, ?_⟩
        refine zR 1 ?_
        refine p_nilK (by kernel_rfl) ?_
        refine pI_run [5, 6, 7] 0 (by kernel_rfl) ?_
        refine zR 3 ?_
        refine p_nilK (by kernel_rfl) ?_
        exact pI_leaf (by kernel_rfl) (.of (by kernel_rfl) (by kernel_rfl))
      refine ⟨_, rfl, ?_⟩
      refine zR 1 ?_
      refine p_nilK (by kernel_rfl) ?_
      refine pI_run [2, 5, 7] 0 (by kernel_rfl) ?_
      refine zR 3 ?_
      refine p_nilK (by kernel_rfl) ?_
      exact pI_leaf (by kernel_rfl) (.of (by kernel_rfl) (by kernel_rfl))
    refine ⟨_, rfl, ?_⟩
    refine zR 1 ?_
    refine p_nilK (by kernel_rfl) ?_
    refine pI_run [2, 4, 5, 7] 0 (by kernel_rfl) ?_
    refine zR 4 ?_
    refine p_nilK (by kernel_rfl) ?_
    exact pI_leaf (by kernel_rfl) (.of (by kernel_rfl) (by kernel_rfl))
  refine q_next (pwp_ret ?_)
  cases h
  exact zQ

/-! profile.Limit -/
noncomputable def d_profile_Limit_1 (a3 : Int) (x169 : T_api_Segment) (r170 : (T_api_Segment × Bool)) : ((List T_api_Segment) × Int) → Option (((List T_api_Segment) × Int) ⊕ ((List T_api_Segment) ⊕ ((List T_api_Segment) ⊕ ((Int × (List T_api_Segment)) ⊕ ((List T_api_Segment) ⊕ (List T_api_Segment)))))) := fun (x177, x178) =>
  bif decide (x178 < (([(T_api_Segment.mk x169.From r170.1.From x169.Grade x169.Speed), (T_api_Segment.mk r170.1.From r170.1.To r170.1.Grade (min r170.1.Speed a3)), (T_api_Segment.mk r170.1.To x169.To x169.Grade x169.Speed)].length : Nat) : Int)) then (
    onInl (α := (List T_api_Segment)) (β := (((List T_api_Segment) × Int) ⊕ ((List T_api_Segment) ⊕ ((List T_api_Segment) ⊕ ((Int × (List T_api_Segment)) ⊕ ((List T_api_Segment) ⊕ (List T_api_Segment))))))) (
      (ixO [(T_api_Segment.mk x169.From r170.1.From x169.Grade x169.Speed), (T_api_Segment.mk r170.1.From r170.1.To r170.1.Grade (min r170.1.Speed a3)), (T_api_Segment.mk r170.1.To x169.To x169.Grade x169.Speed)] x178).bind fun x188 =>
      bif decide (x188.From < x188.To) then (
        (appO x177 [x188]).bind fun x189 =>
        some (.inl x189)
      ) else (
        some (.inl x177)
      )
    ) fun x187 =>
    some (.inl (x187, w64 (x178 + 1)))
  ) else (
    some (.inr (.inl x177))
  )

noncomputable def d_profile_Limit_0 (a0 : (List T_api_Segment)) (a1 : Int) (a2 : Int) (a3 : Int) : (Int × (List T_api_Segment)) → Option ((Int × (List T_api_Segment)) ⊕ ((List T_api_Segment) ⊕ (List T_api_Segment))) := fun (x101, x102) =>
  bif decide (x101 < ((a0.length : Nat) : Int)) then (
    onInl (α := (List T_api_Segment)) (β := ((Int × (List T_api_Segment)) ⊕ ((List T_api_Segment) ⊕ (List T_api_Segment)))) (
      (ixO a0 x101).bind fun x169 =>
      (d_profile_span_part (T_profile_span.mk a1 a2) x169).bind fun r170 =>
      bif (!r170.2) then (
        (appO x102 [x169]).bind fun x171 =>
        some (.inl x171)
      ) else (
        onInl (α := (List T_api_Segment)) (β := ((List T_api_Segment) ⊕ ((Int × (List T_api_Segment)) ⊕ ((List T_api_Segment) ⊕ (List T_api_Segment))))) (loopO (d_profile_Limit_1 a3 x169 r170) (x102, 0)) fun x184 =>
        some (.inl x184)
      )
    ) fun x168 =>
    some (.inl (w64 (x101 + 1), x168))
  ) else (
    some (.inr (.inl x102))
  )

noncomputable def d_profile_Limit (a0 : (List T_api_Segment)) (a1 : Int) (a2 : Int) (a3 : Int) : Option (List T_api_Segment) :=
  (d_profile_Valid a0).bind fun r1 =>
  bif ((!r1) || (decide (a3 < 1))) then (
    some ([] : (List T_api_Segment))
  ) else (
    onInl (α := (List T_api_Segment)) (β := (List T_api_Segment)) (loopO (d_profile_Limit_0 a0 a1 a2 a3) (0, ([] : (List T_api_Segment)))) fun x146 =>
    bif decide (128 < ((x146.length : Nat) : Int)) then (
      some ([] : (List T_api_Segment))
    ) else (
      some x146
    )
  )
theorem d_profile_Limit_ok (a0 : (List T_api_Segment)) (a1 : Int) (a2 : Int) (a3 : Int) (r : (List T_api_Segment)) (h : d_profile_Limit a0 a1 a2 a3 = some r) : PCall Go.Proofs.Tryd.prog GlS 81 [Enc.pv a0, Enc.pv a1, Enc.pv a2, Enc.pv a3] (Enc.pv r) := by
  unfold d_profile_Limit at h
  refine pcall_of_pwp Go.Proofs.Tryd.func81 (by rfl) rfl Go.Proofs.Tryd.ntmps81 (by rfl) rfl ?_
  refine pwp_seq (r_reg ?_)
  refine zE ?_
  refine q_next (pwp_seq (pwp_seq (r_reg ?_)))
  refine zR 1 ?_
  obtain ⟨r1, h1, h⟩ := o_bind h
  refine p_call (d_profile_Valid_ok _ r1 h1) (by kernel_rfl) (by kernel_rfl) ?_
  refine zR 2 ?_
  refine e_segb 3 24 ((!r1) || (decide (a3 < 1))) (fun x hx => ?_) ?_
  · rcases b_or hx with ⟨hb, hx⟩ | ⟨hb, hx⟩
    · refine zS 21 hb ?_
      subst hx
      exact zF
    refine zS 21 hb ?_
    subst hx
    exact zF
  refine zN ?_
  refine q_next ?_
  rcases o_cond h with ⟨hb, h⟩ | ⟨hb, h⟩
  · refine zT hb ?_
    refine pwp_seq (r_reg ?_)
    refine zE ?_
    refine q_next (pwp_ret (q_seq_ret ?_))
    cases h
    exact zQ
  refine zU hb ?_
  refine pwp_skip (q_next (pwp_seq (r_reg ?_)))
  refine zE ?_
  refine q_next (pwp_seq (pwp_seq (r_reg ?_)))
  refine zR 1 ?_
  refine p_len (L := (a0 : (List T_api_Segment))) (by kernel_rfl) ?_
  refine zE ?_
  refine q_next (pwp_block ?_)
  refine g_nil 9 100009 4 32 (by kernel_rfl) (by kernel_rfl) ?_
  obtain ⟨o136, h136, h⟩ := o_inl h
  refine r_loop2 82 0 (fun (x101, x102) => ⟨[(1, .int .i64 a1), (2, .int .i64 a2), (3, .int .i64 a3), (9, lstOf (.own 100009) (x102 : (List T_api_Segment))), (25, lstOf .frozen (a0 : (List T_api_Segment))), (26, .int .i64 ((a0.length : Nat) : Int)), (27, .int .i64 x101)], [], [(100009, (((x102).map cellsOf).length, 4))], []⟩) (fun x146 => ⟨[(9, lstOf (.own 100009) (x146 : (List T_api_Segment)))], [], [(100009, (((x146).map cellsOf).length, 4))], []⟩) h136 (by kernel_rfl) (fun _ => by kernel_rfl) ?_ ?_
  · rintro ⟨x101, x102⟩ oh135 h135
    unfold d_profile_Limit_0 at h135
    refine pwp_seq (r_reg ?_)
    refine zE ?_
    refine q_next (pwp_seq ?_)
    rcases o_cond h135 with ⟨hb, h135⟩ | ⟨hb, h135⟩
    · refine zT hb ?_
      refine pwp_skip (q_next ?_)
      obtain ⟨o157, h157, h135⟩ := o_inl h135
      refine r_join (o := o157) 82 (fun x168 => ⟨[(1, .int .i64 a1), (2, .int .i64 a2), (3, .int .i64 a3), (9, lstOf (.own 100009) (x168 : (List T_api_Segment))), (25, lstOf .frozen (a0 : (List T_api_Segment))), (26, .int .i64 ((a0.length : Nat) : Int)), (27, .int .i64 x101)], [], [(100009, (((x168).map cellsOf).length, 4))], []⟩) ?_ ?_
      · refine pwp_block (pwp_seq (r_reg ?_))
        obtain ⟨x169, h158, h157⟩ := o_bind h157
        refine zI h158 ?_
        refine zE ?_
        refine q_next (pwp_seq (r_reg ?_))
        refine zR 4 ?_
        obtain ⟨r170, h159, h157⟩ := o_bind h157
        refine p_call (d_profile_span_part_ok _ _ r170 h159) (by kernel_rfl) (by kernel_rfl) ?_
        refine zE ?_
        refine q_next (pwp_seq (pwp_seq (r_reg ?_)))
        refine zE ?_
        refine q_next ?_
        rcases o_cond h157 with ⟨hb, h157⟩ | ⟨hb, h157⟩
        · refine zT hb ?_
          refine pwp_seq (r_reg ?_)
          refine zR 3 ?_
          obtain ⟨x171, h160, h157⟩ := o_bind h157
          refine p_app (tk := 100009) h160 (by kernel_rfl) (by kernel_rfl) ?_
          refine zE ?_
          refine q_next (pwp_exit (q_seq_exit (q_block_hit ?_)))
          cases h157
          exact zJ
        refine zU hb ?_
        refine pwp_skip (q_next (pwp_seq ?_))
        refine r_anyI 82 ⟨[(1, .int .i64 a1), (2, .int .i64 a2), (3, .int .i64 a3), (9, lstOf (.own 100009) (x102 : (List T_api_Segment))), (12, .ref 12 0), (14, .ref 14 0), (15, .ref 15 0), (25, lstOf .frozen (a0 : (List T_api_Segment))), (26, .int .i64 ((a0.length : Nat) : Int)), (27, .int .i64 x101)], [(12, .cells (cellsOf r170.1)), (14, .cells (cellsOf x169)), (15, .cells (cellsOf x169))], [(100009, (((x102).map cellsOf).length, 4))], []⟩ (by kernel_rfl) ?_ ?_
        · refine pI_run [0] 5 (by kernel_rfl) ?_
          refine zR 1 ?_
          refine p_nilK (by kernel_rfl) ?_
          refine pI_node (n := 4) [1, 2, 3] (by kernel_rfl) ⟨?_, ?_, ?_, trivial⟩
          · refine ⟨_, rfl, ?_⟩
            refine zR 1 ?_
            refine p_nilK (by kernel_rfl) ?_
            refine pI_run [2, 3, 4, 5] 0 (by kernel_rfl) ?_
            refine zR 4 ?_
            refine p_nilK (by kernel_rfl) ?_
            exact pI_leaf (by kernel_rfl) (.of (by kernel_rfl) (by kernel_rfl))
          · refine ⟨_, rfl, ?_⟩
            refine zR 1 ?_
            refine p_nilK (by kernel_rfl) ?_
            refine pI_node (n := 3) [1, 3] (by kernel_rfl) ⟨?_, ?_, trivial⟩
            · refine ⟨_, rfl, ?_⟩
              refine zR 1 ?_
              refine p_nilK (by kernel_rfl) ?_
              refine pI_run [3, 4, 5] 0 (by kernel_rfl) ?_
              refine zR 3 ?_
              refine p_nilK (by kernel_rfl) ?_
              exact pI_leaf (by kernel_rfl) (.of (by kernel_rfl) (by kernel_rfl))
            refine ⟨_, rfl, ?_⟩
            refine zR 1 ?_
            refine p_nilK (by kernel_rfl) ?_
            refine pI_node (n := 2) [1, 4] (by kernel_rfl) ⟨?_, ?_, trivial⟩
            · refine ⟨_, rfl, ?_⟩
              refine zR 1 ?_
              refine p_nilK (by kernel_rfl) ?_
              refine pI_run [4, 5] 0 (by kernel_rfl) ?_
              refine zR 2 ?_
              refine p_nilK (by kernel_rfl) ?_
              exact pI_leaf (by kernel_rfl) (.of (by kernel_rfl) (by kernel_rfl))
            refine ⟨_, rfl, ?_⟩
            refine zR 1 ?_
            refine p_nilK (by kernel_rfl) ?_
            refine pI_run [1, 5] 0 (by kernel_rfl) ?_
            refine zR 2 ?_
            refine p_nilK (by kernel_rfl) ?_
            exact pI_leaf (by kernel_rfl) (.of (by kernel_rfl) (by kernel_rfl))
          refine ⟨_, rfl, ?_⟩
          refine zR 1 ?_
          refine p_nilK (by kernel_rfl) ?_
          refine pI_node (n := 3) [1, 2] (by kernel_rfl) ⟨?_, ?_, trivial⟩
          · refine ⟨_, rfl, ?_⟩
            refine zR 1 ?_
            refine p_nilK (by kernel_rfl) ?_
            refine pI_run [2, 4, 5] 0 (by kernel_rfl) ?_
            refine zR 3 ?_
            refine p_nilK (by kernel_rfl) ?_
            exact pI_leaf (by kernel_rfl) (.of (by kernel_rfl) (by kernel_rfl))
          refine ⟨_, rfl, ?_⟩
          refine zR 1 ?_
          refine p_nilK (by kernel_rfl) ?_
          refine pI_node (n := 2) [1, 4] (by kernel_rfl) ⟨?_, ?_, trivial⟩
          · refine ⟨_, rfl, ?_⟩
            refine zR 1 ?_
            refine p_nilK (by kernel_rfl) ?_
            refine pI_run [4, 5] 0 (by kernel_rfl) ?_
            refine zR 2 ?_
            refine p_nilK (by kernel_rfl) ?_
            exact pI_leaf (by kernel_rfl) (.of (by kernel_rfl) (by kernel_rfl))
          refine ⟨_, rfl, ?_⟩
          refine zR 1 ?_
          refine p_nilK (by kernel_rfl) ?_
          refine pI_run [1, 5] 0 (by kernel_rfl) ?_
          refine zR 2 ?_
          refine p_nilK (by kernel_rfl) ?_
          exact pI_leaf (by kernel_rfl) (.of (by kernel_rfl) (by kernel_rfl))
        refine q_next (pwp_seq ?_)
        refine r_anyI 82 ⟨[(1, .int .i64 a1), (2, .int .i64 a2), (3, .int .i64 a3), (9, lstOf (.own 100009) (x102 : (List T_api_Segment))), (12, .ref 12 0), (14, .ref 14 0), (15, .ref 15 0), (25, lstOf .frozen (a0 : (List T_api_Segment))), (26, .int .i64 ((a0.length : Nat) : Int)), (27, .int .i64 x101)], [(12, .cells (cellsOf r170.1)), (14, .cells ([.int .i64 x169.From, .int .i64 r170.1.From, .int .i64 x169.Grade, .int .i64 x169.Speed])), (15, .cells ([.int .i64 r170.1.To, .int .i64 x169.To, .int .i64 x169.Grade, .int .i64 x169.Speed]))], [(100009, (((x102).map cellsOf).length, 4))], []⟩ (by kernel_rfl) ?_ ?_
        · refine pI_run [0, 1, 2, 4] 4 (by kernel_rfl) ?_
          refine zR 4 ?_
          refine p_nilK (by kernel_rfl) ?_
          refine pI_node (n := 3) [3, 5] (by kernel_rfl) ⟨?_, ?_, trivial⟩
          · refine ⟨_, rfl, ?_⟩
            refine zR 1 ?_
            refine p_nilK (by kernel_rfl) ?_
            refine pI_run [5, 6, 7] 0 (by kernel_rfl) ?_
            refine zR 3 ?_
            refine p_nilK (by kernel_rfl) ?_
            exact pI_leaf (by kernel_rfl) (.of (by kernel_rfl) (by kernel_rfl))
          refine ⟨_, rfl, ?_⟩
          refine zR 1 ?_
          refine p_nilK (by kernel_rfl) ?_
          refine pI_run [3, 6, 7] 0 (by kernel_rfl) ?_
          refine zR 3 ?_
          refine p_nilK (by kernel_rfl) ?_
          exact pI_leaf (by kernel_rfl) (.of (by kernel_rfl) (by kernel_rfl))
        refine q_next (pwp_seq (r_reg ?_))
        refine zE ?_
        refine q_next (pwp_seq (r_reg ?_))
        refine zR 4 ?_
        refine p_len (L := ([(T_api_Segment.mk x169.From r170.1.From x169.Grade x169.Speed), (T_api_Segment.mk r170.1.From r170.1.To r170.1.Grade (min r170.1.Speed a3)), (T_api_Segment.mk r170.1.To x169.To x169.Grade x169.Speed)] : (List T_api_Segment))) (by kernel_rfl) ?_
        refine zE ?_
        refine q_next (pwp_block ?_)
        obtain ⟨o172, h172, h157⟩ := o_inl h157
        refine r_loop2 82 2 (fun (x177, x178) => ⟨[(1, .int .i64 a1), (2, .int .i64 a2), (3, .int .i64 a3), (9, lstOf (.own 100009) (x177 : (List T_api_Segment))), (25, lstOf .frozen (a0 : (List T_api_Segment))), (26, .int .i64 ((a0.length : Nat) : Int)), (27, .int .i64 x101), (61, lstOf .full ([(T_api_Segment.mk x169.From r170.1.From x169.Grade x169.Speed), (T_api_Segment.mk r170.1.From r170.1.To r170.1.Grade (min r170.1.Speed a3)), (T_api_Segment.mk r170.1.To x169.To x169.Grade x169.Speed)] : (List T_api_Segment))), (62, .int .i64 (([(T_api_Segment.mk x169.From r170.1.From x169.Grade x169.Speed), (T_api_Segment.mk r170.1.From r170.1.To r170.1.Grade (min r170.1.Speed a3)), (T_api_Segment.mk r170.1.To x169.To x169.Grade x169.Speed)].length : Nat) : Int)), (63, .int .i64 x178)], [], [(100009, (((x177).map cellsOf).length, 4))], []⟩) (fun x184 => ⟨[(1, .int .i64 a1), (2, .int .i64 a2), (3, .int .i64 a3), (9, lstOf (.own 100009) (x184 : (List T_api_Segment))), (25, lstOf .frozen (a0 : (List T_api_Segment))), (26, .int .i64 ((a0.length : Nat) : Int)), (27, .int .i64 x101)], [], [(100009, (((x184).map cellsOf).length, 4))], []⟩) h172 (by kernel_rfl) (fun _ => by kernel_rfl) ?_ ?_
        · rintro ⟨x177, x178⟩ oh171 h171
          unfold d_profile_Limit_1 at h171
          refine pwp_seq (r_reg ?_)
          refine zE ?_
          refine q_next (pwp_seq ?_)
          rcases o_cond h171 with ⟨hb, h171⟩ | ⟨hb, h171⟩
          · refine zT hb ?_
            refine pwp_skip (q_next ?_)
            obtain ⟨o175, h175, h171⟩ := o_inl h171
            refine r_join (o := o175) 82 (fun x187 => ⟨[(1, .int .i64 a1), (2, .int .i64 a2), (3, .int .i64 a3), (9, lstOf (.own 100009) (x187 : (List T_api_Segment))), (25, lstOf .frozen (a0 : (List T_api_Segment))), (26, .int .i64 ((a0.length : Nat) : Int)), (27, .int .i64 x101), (61, lstOf .full ([(T_api_Segment.mk x169.From r170.1.From x169.Grade x169.Speed), (T_api_Segment.mk r170.1.From r170.1.To r170.1.Grade (min r170.1.Speed a3)), (T_api_Segment.mk r170.1.To x169.To x169.Grade x169.Speed)] : (List T_api_Segment))), (62, .int .i64 (([(T_api_Segment.mk x169.From r170.1.From x169.Grade x169.Speed), (T_api_Segment.mk r170.1.From r170.1.To r170.1.Grade (min r170.1.Speed a3)), (T_api_Segment.mk r170.1.To x169.To x169.Grade x169.Speed)].length : Nat) : Int)), (63, .int .i64 x178)], [], [(100009, (((x187).map cellsOf).length, 4))], []⟩) ?_ ?_
            · refine pwp_block (pwp_seq (r_reg ?_))
              obtain ⟨x188, h176, h175⟩ := o_bind h175
              refine zI h176 ?_
              refine zE ?_
              refine q_next (pwp_seq (r_reg ?_))
              refine zE ?_
              refine q_next ?_
              rcases o_cond h175 with ⟨hb, h175⟩ | ⟨hb, h175⟩
              · refine zT hb ?_
                refine r_reg ?_
                refine zR 3 ?_
                obtain ⟨x189, h177, h175⟩ := o_bind h175
                refine p_app (tk := 100009) h177 (by kernel_rfl) (by kernel_rfl) ?_
                refine zE ?_
                refine q_block ?_
                cases h175
                exact zJ
              refine zU hb ?_
              refine pwp_skip (q_block ?_)
              cases h175
              exact zJ
            rintro x187 rfl
            have h171 := o_outl h171
            refine r_reg ?_
            refine zE ?_
            cases h171
            exact zB
          refine zU hb ?_
          refine pwp_exit (q_seq_exit ?_)
          cases h171
          exact zX
        rintro x184 s' rfl hs
        have h157 := o_outl h157
        refine q_block_hit (q_block ?_)
        cases h157
        exact q_join_w hs (by kernel_rfl) (by kernel_rfl)
      rintro x168 rfl
      have h135 := o_outl h135
      refine r_reg ?_
      refine zE ?_
      cases h135
      exact zB
    refine zU hb ?_
    refine pwp_exit (q_seq_exit ?_)
    cases h135
    exact zX
  rintro x146 s' rfl hs
  have h := o_outl h
  refine q_block_hit ?_
  refine q_next (pwp_wkr hs ?_)
  refine pwp_seq (pwp_seq (r_reg ?_))
  refine zR 1 ?_
  refine p_len (L := (x146 : (List T_api_Segment))) (by kernel_rfl) ?_
  refine zE ?_
  refine q_next ?_
  rcases o_cond h with ⟨hb, h⟩ | ⟨hb, h⟩
  · refine zT hb ?_
    refine pwp_seq (r_reg ?_)
    refine zE ?_
    refine q_next (pwp_ret (q_seq_ret ?_))
    cases h
    exact zQ
  refine zU hb ?_
  refine pwp_skip (q_next (pwp_seq (r_reg ?_)))
  refine zE ?_
  refine q_next (pwp_ret ?_)
  cases h
  exact zQ

/-! restriction.lowered -/
noncomputable def d_restriction_lowered_0 (a0 : T_api_Layout) (a1 : (List T_api_Step)) (a4 : T_api_Restriction) : ((List T_api_Segment) × Int × Int) → Option (((List T_api_Segment) × Int × Int) ⊕ ((List T_api_Segment) ⊕ (Option (List T_api_Segment)))) := fun (x31, x32, x33) =>
  bif decide (x33 < ((a1.length : Nat) : Int)) then (
    onInl (α := ((List T_api_Segment) × Int)) (β := (((List T_api_Segment) × Int × Int) ⊕ ((List T_api_Segment) ⊕ (Option (List T_api_Segment))))) (
      (ixO a1 x33).bind fun x81 =>
      ((bif decide (x81.El < 0) then some true else (
        some (decide (((a0.Elements.length : Nat) : Int) ≤ x81.El))
      )) : Option Bool).bind fun b82 =>
      bif b82 then (
        some (.inl (x31, x32))
      ) else (
        (ixO a0.Elements x81.El).bind fun x83 =>
        onInl (α := (List T_api_Segment)) (β := (((List T_api_Segment) × Int) ⊕ (((List T_api_Segment) × Int × Int) ⊕ ((List T_api_Segment) ⊕ (Option (List T_api_Segment)))))) (
          bif decide (x81.El = a4.El) then (
            onInl (α := (Int × Int)) (β := ((List T_api_Segment) ⊕ (((List T_api_Segment) × Int) ⊕ (((List T_api_Segment) × Int × Int) ⊕ ((List T_api_Segment) ⊕ (Option (List T_api_Segment))))))) (
              bif ((decide (x81.In = 0)) || ((decide (x81.In = 2)) && (decide (x83.Kind = 3)))) then (
                some (.inl (w64 (x32 + a4.From), w64 (x32 + a4.To)))
              ) else (
                some (.inl (w64 ((w64 (x32 + x83.Length)) - a4.To), w64 ((w64 (x32 + x83.Length)) - a4.From)))
              )
            ) fun (x90, x91) =>
            (d_profile_Limit x31 x90 x91 a4.Speed).bind fun r92 =>
            onInl (α := Unit) (β := ((List T_api_Segment) ⊕ (((List T_api_Segment) × Int) ⊕ (((List T_api_Segment) × Int × Int) ⊕ ((List T_api_Segment) ⊕ (Option (List T_api_Segment))))))) (
              ((bif decide (((r92.length : Nat) : Int) = 0) then (
                some (decide (0 < ((x31.length : Nat) : Int)))
              ) else some false) : Option Bool).bind fun b94 =>
              bif b94 then (
                some (.inr (.inr (.inr (.inr (.inr none)))))
              ) else (
                some (.inl ())
              )
            ) fun _ =>
            some (.inl r92)
          ) else (
            some (.inl x31)
          )
        ) fun x89 =>
        some (.inl (x89, w64 (x32 + x83.Length)))
      )
    ) fun (x79, x80) =>
    some (.inl (x79, x80, w64 (x33 + 1)))
  ) else (
    some (.inr (.inl x31))
  )

noncomputable def d_restriction_lowered (a0 : T_api_Layout) (a1 : (List T_api_Step)) (a2 : Int) (a3 : (List T_api_Segment)) (a4 : T_api_Restriction) : Option (Option (List T_api_Segment)) :=
  onInl (α := (List T_api_Segment)) (β := (Option (List T_api_Segment))) (loopO (d_restriction_lowered_0 a0 a1 a4) (a3, a2, 0)) fun x64 =>
  some (some x64)
theorem d_restriction_lowered_ok (a0 : T_api_Layout) (a1 : (List T_api_Step)) (a2 : Int) (a3 : (List T_api_Segment)) (a4 : T_api_Restriction) (r : (Option (List T_api_Segment))) (h : d_restriction_lowered a0 a1 a2 a3 a4 = some r) : PCallP Go.Proofs.Tryd.prog GlS 51 [Enc.pv a0, Enc.pv a1, Enc.pv a2, Enc.pv a3, Enc.pv a4] (r.map fun r => Enc.pv r) := by
  unfold d_restriction_lowered at h
  refine pcallp_of_pwp Go.Proofs.Tryd.func51 (by rfl) rfl Go.Proofs.Tryd.ntmps51 (by rfl) rfl ?_
  refine pwp_seq (r_reg ?_)
  refine zE ?_
  refine q_next (pwp_seq (r_reg ?_))
  refine zE ?_
  refine q_next (pwp_seq (pwp_seq (r_reg ?_)))
  refine zR 1 ?_
  refine p_len (L := (a1 : (List T_api_Step))) (by kernel_rfl) ?_
  refine zE ?_
  refine q_next (pwp_block ?_)
  obtain ⟨o124, h124, h⟩ := o_inl h
  refine r_loop2 101 0 (fun (x31, x32, x33) => ⟨[(3, lstOf .frozen (x31 : (List T_api_Segment))), (5, .ref 5 0), (9, .ref 9 0), (11, .int .i64 x32), (20, lstOf .frozen (a1 : (List T_api_Step))), (21, .int .i64 ((a1.length : Nat) : Int)), (22, .int .i64 x33)], [(5, .cells (cellsOf a0)), (9, .cells (cellsOf a4))], [], []⟩) (fun x64 => ⟨[(3, lstOf .frozen (x64 : (List T_api_Segment)))], [], [], []⟩) h124 (by kernel_rfl) (fun _ => by kernel_rfl) ?_ ?_
  · rintro ⟨x31, x32, x33⟩ oh123 h123
    unfold d_restriction_lowered_0 at h123
    refine pwp_seq (r_reg ?_)
    refine zE ?_
    refine q_next (pwp_seq ?_)
    rcases o_cond h123 with ⟨hb, h123⟩ | ⟨hb, h123⟩
    · refine zT hb ?_
      refine pwp_skip (q_next ?_)
      obtain ⟨o155, h155, h123⟩ := o_inl h123
      refine r_join (o := o155) 101 (fun (x79, x80) => ⟨[(3, lstOf .frozen (x79 : (List T_api_Segment))), (5, .ref 5 0), (9, .ref 9 0), (11, .int .i64 x80), (20, lstOf .frozen (a1 : (List T_api_Step))), (21, .int .i64 ((a1.length : Nat) : Int)), (22, .int .i64 x33)], [(5, .cells (cellsOf a0)), (9, .cells (cellsOf a4))], [], []⟩) ?_ ?_
      · refine pwp_block (pwp_seq (r_reg ?_))
        obtain ⟨x81, h156, h155⟩ := o_bind h155
        refine zI h156 ?_
        refine zE ?_
        refine q_next (pwp_seq (pwp_seq (r_reg ?_)))
        obtain ⟨b82, h157, h155⟩ := o_bind h155
        refine zR 4 ?_
        refine e_seg 7 36 (.bool b82) ?_ ?_
        · rcases o_cond h157 with ⟨hb, h157⟩ | ⟨hb, h157⟩
          · refine zS 29 hb ?_
            cases h157
            exact zF
          refine zS 29 hb ?_
          refine zR 4 ?_
          refine p_len (L := (a0.Elements : (List T_api_Element))) (by kernel_rfl) ?_
          cases h157
          exact zF
        refine zN ?_
        refine q_next ?_
        rcases o_cond h155 with ⟨hb, h155⟩ | ⟨hb, h155⟩
        · refine zT hb ?_
          refine pwp_exit (q_seq_exit (q_block_hit ?_))
          cases h155
          exact zJ
        refine zU hb ?_
        refine pwp_skip (q_next (pwp_seq (r_reg ?_)))
        refine zR 4 ?_
        obtain ⟨x83, h158, h155⟩ := o_bind h155
        refine zI h158 ?_
        refine zE ?_
        refine q_next (pwp_seq (r_reg ?_))
        refine zE ?_
        refine q_next ?_
        obtain ⟨o172, h172, h155⟩ := o_inl h155
        refine r_join (o := o172) 101 (fun x89 => ⟨[(3, lstOf .frozen (x89 : (List T_api_Segment))), (5, .ref 5 0), (9, .ref 9 0), (15, .int .i64 (w64 (x32 + x83.Length))), (20, lstOf .frozen (a1 : (List T_api_Step))), (21, .int .i64 ((a1.length : Nat) : Int)), (22, .int .i64 x33)], [(5, .cells (cellsOf a0)), (9, .cells (cellsOf a4))], [], []⟩) ?_ ?_
        · refine pwp_seq (r_reg ?_)
          refine zE ?_
          refine q_next ?_
          rcases o_cond h172 with ⟨hb, h172⟩ | ⟨hb, h172⟩
          · refine zT hb ?_
            refine pwp_seq ?_
            refine r_regd (by kernel_rfl) (by kernel_rfl) ?_
            refine zE ?_
            refine q_next ?_
            obtain ⟨o173, h173, h172⟩ := o_inl h172
            refine r_join (o := o173) 101 (fun (x90, x91) => ⟨[(3, lstOf .frozen (x31 : (List T_api_Segment))), (5, .ref 5 0), (9, .ref 9 0), (15, .int .i64 (w64 (x32 + x83.Length))), (16, .int .i64 x90), (17, .int .i64 x91), (20, lstOf .frozen (a1 : (List T_api_Step))), (21, .int .i64 ((a1.length : Nat) : Int)), (22, .int .i64 x33)], [(5, .cells (cellsOf a0)), (9, .cells (cellsOf a4))], [], []⟩) ?_ ?_
            · refine pwp_seq (r_reg ?_)
              refine zR 4 ?_
              refine e_segb 9 72 ((decide (x81.In = 0)) || ((decide (x81.In = 2)) && (decide (x83.Kind = 3)))) (fun x hx => ?_) ?_
              · rcases b_or hx with ⟨hb, hx⟩ | ⟨hb, hx⟩
                · refine zS 63 hb ?_
                  subst hx
                  exact zF
                refine zS 63 hb ?_
                refine zR 4 ?_
                refine f_segb 4 71 ((decide (x81.In = 2)) && (decide (x83.Kind = 3))) (fun x hx => ?_) ?_
                · rcases b_and hx with ⟨hb, hx⟩ | ⟨hb, hx⟩
                  · refine zS 67 hb ?_
                    subst hx
                    exact zF
                  refine zS 67 hb ?_
                  subst hx
                  exact zF
                subst hx
                exact zF
              refine zN ?_
              refine q_next ?_
              rcases o_cond h173 with ⟨hb, h173⟩ | ⟨hb, h173⟩
              · refine zT hb ?_
                refine r_regd (by kernel_rfl) (by kernel_rfl) ?_
                refine zE ?_
                cases h173
                exact zJ
              refine zU hb ?_
              refine pwp_skip ?_
              cases h173
              exact zJ
            rintro ⟨x90, x91⟩ rfl
            have h172 := o_outl h172
            refine pwp_seq (r_reg ?_)
            refine zR 5 ?_
            obtain ⟨r92, h174, h172⟩ := o_bind h172
            refine p_call (d_profile_Limit_ok _ _ _ _ r92 h174) (by kernel_rfl) (by kernel_rfl) ?_
            refine zE ?_
            refine q_next ?_
            obtain ⟨o180, h180, h172⟩ := o_inl h172
            refine r_join (o := o180) 101 (fun (_ : Unit) => ⟨[(5, .ref 5 0), (9, .ref 9 0), (15, .int .i64 (w64 (x32 + x83.Length))), (18, lstOf .frozen (r92 : (List T_api_Segment))), (20, lstOf .frozen (a1 : (List T_api_Step))), (21, .int .i64 ((a1.length : Nat) : Int)), (22, .int .i64 x33)], [(5, .cells (cellsOf a0)), (9, .cells (cellsOf a4))], [], []⟩) ?_ ?_
            · refine pwp_seq (r_reg ?_)
              refine zR 1 ?_
              refine p_len (L := (r92 : (List T_api_Segment))) (by kernel_rfl) ?_
              obtain ⟨b94, h181, h180⟩ := o_bind h180
              refine zR 2 ?_
              refine e_seg 4 94 (.bool b94) ?_ ?_
              · rcases o_cond h181 with ⟨hb, h181⟩ | ⟨hb, h181⟩
                · refine zS 90 hb ?_
                  refine zR 1 ?_
                  refine p_len (L := (x31 : (List T_api_Segment))) (by kernel_rfl) ?_
                  cases h181
                  exact zF
                refine zS 90 hb ?_
                cases h181
                exact zF
              refine zN ?_
              refine q_next ?_
              rcases o_cond h180 with ⟨hb, h180⟩ | ⟨hb, h180⟩
              · refine zT hb ?_
                refine r_regE ?_
                refine wlE_run 0 1 ?_
                refine zE ?_
                refine p_pan2 (d := 96) (by kernel_rfl) fun ch hpan => ?_
                cases h180
                refine q_jout_pan ?_
                have h182 := o_outr h172
                cases h182
                refine q_jout_pan ?_
                have h183 := o_outr h155
                refine q_block_pan ?_
                cases h183
                refine q_jout_pan ?_
                have h184 := o_outr h123
                cases h184
                refine q_lout_pan fun he => ?_
                subst he
                have h185 := o_outr h
                refine q_block_pan (q_seq_pan ?_)
                cases h185
                exact qp_pan hpan
              refine zU hb ?_
              refine pwp_skip ?_
              cases h180
              exact zJ
            rintro _ rfl
            have h172 := o_outl h172
            refine r_reg ?_
            refine zE ?_
            cases h172
            exact zJ
          refine zU hb ?_
          refine pwp_skip ?_
          cases h172
          exact zJ
        rintro x89 rfl
        have h155 := o_outl h155
        refine r_reg ?_
        refine zE ?_
        refine q_block ?_
        cases h155
        exact zJ
      rintro ⟨x79, x80⟩ rfl
      have h123 := o_outl h123
      refine r_reg ?_
      refine zE ?_
      cases h123
      exact zB
    refine zU hb ?_
    refine pwp_exit (q_seq_exit ?_)
    cases h123
    exact zX
  rintro x64 s' rfl hs
  have h := o_outl h
  refine q_block_hit ?_
  refine q_next (pwp_wkr hs ?_)
  refine pwp_seq (r_reg ?_)
  refine zE ?_
  refine q_next (pwp_ret ?_)
  cases h
  exact ⟨_, rfl, q_ret (by kernel_rfl) (by kernel_rfl) (by kernel_rfl)⟩

/-! restriction.Apply -/
noncomputable def d_restriction_Apply_0 (a0 : (List T_api_Restriction)) (a1 : (List T_api_Step)) (a2 : Int) (a3 : T_api_Layout) : (Int × (List T_api_Segment)) → Option ((Int × (List T_api_Segment)) ⊕ ((List T_api_Segment) ⊕ (List T_api_Segment))) := fun (x24, x25) =>
  bif decide (x24 < ((a0.length : Nat) : Int)) then (
    onInl (α := (List T_api_Segment)) (β := ((Int × (List T_api_Segment)) ⊕ ((List T_api_Segment) ⊕ (List T_api_Segment)))) (
      (ixO a0 x24).bind fun x41 =>
      ((bif x41.Active then (
        (d_restriction_Check a3 x41).bind fun r43 =>
        some (decide (r43 = 0))
      ) else some false) : Option Bool).bind fun b42 =>
      bif b42 then (
        panB (d_restriction_lowered a3 a1 a2 x25 x41) (
          some (.inr (.inr (.inr ([] : (List T_api_Segment)))))
        ) fun r44 =>
        some (.inl r44)
      ) else (
        some (.inl x25)
      )
    ) fun x40 =>
    some (.inl (w64 (x24 + 1), x40))
  ) else (
    some (.inr (.inl x25))
  )

noncomputable def d_restriction_Apply (a0 : (List T_api_Restriction)) (a1 : (List T_api_Step)) (a2 : Int) (a3 : T_api_Layout) (a4 : (List T_api_Segment)) : Option (List T_api_Segment) :=
  (d_slices_Clone_api_Segment a4).bind fun r1 =>
  (d_profile_Valid a4).bind fun r2 =>
  ((bif (!r2) then some true else (
    (d_walk_Valid a3 a1).bind fun r4 =>
    some (!r4)
  )) : Option Bool).bind fun b3 =>
  bif ((b3 || (decide (a2 < (-1073741824)))) || (decide (1073741824 < a2))) then (
    some r1
  ) else (
    onInl (α := (List T_api_Segment)) (β := (List T_api_Segment)) (loopO (d_restriction_Apply_0 a0 a1 a2 a3) (0, r1)) fun x35 =>
    some x35
  )
set_option maxRecDepth 100000 in
theorem d_restriction_Apply_ok (a0 : (List T_api_Restriction)) (a1 : (List T_api_Step)) (a2 : Int) (a3 : T_api_Layout) (a4 : (List T_api_Segment)) (r : (List T_api_Segment)) (h : d_restriction_Apply a0 a1 a2 a3 a4 = some r) : PCall Go.Proofs.Tryd.prog GlS 22 [Enc.pv a0, Enc.pv a1, Enc.pv a2, Enc.pv a3, Enc.pv a4] (Enc.pv r) := by
  unfold d_restriction_Apply at h
  refine pcall_of_pwpR Go.Proofs.Tryd.func22 (by rfl) rfl Go.Proofs.Tryd.ntmps22 (by rfl) rfl ?_
  refine pwpD_seq (r_reg ?_)
  refine zE ?_
  refine qd_next ?_
  refine pwpD_defer 1 48 [.ref 10 0] (by rfl) ?_
  refine zE ?_
  refine ⟨by kernel_rfl, by kernel_rfl, by kernel_rfl, ?_⟩
  refine pwp_seq (r_reg ?_)
  refine zR 1 ?_
  obtain ⟨r1, h1, h⟩ := o_bind h
  refine p_call (d_slices_Clone_api_Segment_ok _ r1 h1) (by kernel_rfl) (by kernel_rfl) ?_
  refine zE ?_
  refine q_next (pwp_seq (pwp_seq (r_reg ?_)))
  refine zR 1 ?_
  obtain ⟨r2, h2, h⟩ := o_bind h
  refine p_call (d_profile_Valid_ok _ r2 h2) (by kernel_rfl) (by kernel_rfl) ?_
  obtain ⟨b3, h3, h⟩ := o_bind h
  refine zR 2 ?_
  refine e_seg 5 24 (.bool b3) ?_ ?_
  · rcases o_cond h3 with ⟨hb, h3⟩ | ⟨hb, h3⟩
    · refine zS 19 hb ?_
      cases h3
      exact zF
    refine zS 19 hb ?_
    refine zR 2 ?_
    obtain ⟨r4, h4, h3⟩ := o_bind h3
    refine p_call (d_walk_Valid_ok _ _ r4 h4) (by kernel_rfl) (by kernel_rfl) ?_
    cases h3
    exact zF
  refine zR 1 ?_
  refine e_segb 3 28 (b3 || (decide (a2 < (-1073741824)))) (fun x hx => ?_) ?_
  · rcases b_or hx with ⟨hb, hx⟩ | ⟨hb, hx⟩
    · refine zS 25 hb ?_
      subst hx
      exact zF
    refine zS 25 hb ?_
    subst hx
    exact zF
  refine zR 1 ?_
  refine e_segb 3 32 ((b3 || (decide (a2 < (-1073741824)))) || (decide (1073741824 < a2))) (fun x hx => ?_) ?_
  · rcases b_or hx with ⟨hb, hx⟩ | ⟨hb, hx⟩
    · refine zS 29 hb ?_
      subst hx
      exact zF
    refine zS 29 hb ?_
    subst hx
    exact zF
  refine zN ?_
  refine q_next ?_
  rcases o_cond h with ⟨hb, h⟩ | ⟨hb, h⟩
  · refine zT hb ?_
    refine pwp_seq (r_reg ?_)
    refine zE ?_
    refine q_next (pwp_ret (q_seq_ret ?_))
    refine qr_ret (q_dendR (pan := false) (caps := [.ref 10 0]) (by kernel_rfl) Go.Proofs.Tryd.func48 (by rfl) rfl Go.Proofs.Tryd.ntmps48 (by rfl) ?_)
    refine pwpR_wkr ((wkr_ren 1 (by kernel_rfl)).trans (.of (j := ⟨[(0, .ref 1010 0), (13, .ref 1010 0), (59, .fn 48 [.ref 1010 0])], [(1010, .cells ([lstOf (.own 1015007) (r1 : (List T_api_Segment))]))], [(1015007, (((r1).map cellsOf).length, 4))], []⟩) (n := 5700060) (by kernel_rfl) (by kernel_rfl))) ?_
    refine r_recover ⟨rfl, rfl, rfl, rfl, fun _ _ => rfl, (fun a _ _ _ h => by simp [Act.eval] at h; simp [go_sem, h]), (fun a _ h => by simp [Act.eval] at h; simp [go_sem, h])⟩ (by kernel_rfl) ?_
    refine r_cond_f (b := false) rfl (by kernel_rfl) ?_
    refine pwp_skip ?_
    cases h
    exact q_dfin (by kernel_rfl) (by kernel_rfl) (by kernel_rfl)
  refine zU hb ?_
  refine pwp_skip (q_next (pwp_seq (pwp_seq (r_reg ?_))))
  refine zR 1 ?_
  refine p_len (L := (a0 : (List T_api_Restriction))) (by kernel_rfl) ?_
  refine zE ?_
  refine q_next (pwp_block ?_)
  obtain ⟨o45, h45, h⟩ := o_inl h
  refine r_loop2 100057 0 (fun (x24, x25) => ⟨[(1, lstOf .frozen (a1 : (List T_api_Step))), (2, .int .i64 a2), (8, .ref 8 0), (10, .ref 10 0), (34, lstOf .frozen (a0 : (List T_api_Restriction))), (35, .int .i64 ((a0.length : Nat) : Int)), (36, .int .i64 x24), (56, .fn 48 [.ref 10 0])], [(8, .cells (cellsOf a3)), (10, .cells ([lstOf .frozen (x25 : (List T_api_Segment))]))], [], []⟩) (fun x35 => ⟨[(10, .ref 10 0), (56, .fn 48 [.ref 10 0])], [(10, .cells ([lstOf .frozen (x35 : (List T_api_Segment))]))], [], []⟩) h45 (by kernel_rfl) (fun _ => by kernel_rfl) ?_ ?_
  · rintro ⟨x24, x25⟩ oh44 h44
    unfold d_restriction_Apply_0 at h44
    refine pwp_seq (r_reg ?_)
    refine zE ?_
    refine q_next (pwp_seq ?_)
    rcases o_cond h44 with ⟨hb, h44⟩ | ⟨hb, h44⟩
    · refine zT hb ?_
      refine pwp_skip (q_next ?_)
      obtain ⟨o52, h52, h44⟩ := o_inl h44
      refine r_join (o := o52) 100057 (fun x40 => ⟨[(1, lstOf .frozen (a1 : (List T_api_Step))), (2, .int .i64 a2), (8, .ref 8 0), (10, .ref 10 0), (34, lstOf .frozen (a0 : (List T_api_Restriction))), (35, .int .i64 ((a0.length : Nat) : Int)), (36, .int .i64 x24), (56, .fn 48 [.ref 10 0])], [(8, .cells (cellsOf a3)), (10, .cells ([lstOf .frozen (x40 : (List T_api_Segment))]))], [], []⟩) ?_ ?_
      · refine pwp_block (pwp_seq (r_reg ?_))
        obtain ⟨x41, h53, h52⟩ := o_bind h52
        refine zI h53 ?_
        refine zE ?_
        refine q_next (pwp_seq (r_reg ?_))
        obtain ⟨b42, h54, h52⟩ := o_bind h52
        refine zR 3 ?_
        refine e_seg 5 47 (.bool b42) ?_ ?_
        · rcases o_cond h54 with ⟨hb, h54⟩ | ⟨hb, h54⟩
          · refine zS 42 hb ?_
            refine zR 2 ?_
            obtain ⟨r43, h55, h54⟩ := o_bind h54
            refine p_call (d_restriction_Check_ok _ _ r43 h55) (by kernel_rfl) (by kernel_rfl) ?_
            cases h54
            exact zF
          refine zS 42 hb ?_
          cases h54
          exact zF
        refine zN ?_
        refine q_next ?_
        rcases o_cond h52 with ⟨hb, h52⟩ | ⟨hb, h52⟩
        · refine zT hb ?_
          refine r_regE ?_
          refine wlE_run 0 5 ?_
          refine zE ?_
          rcases o_pan h52 with ⟨h56, h52⟩ | ⟨r44, h56, h52⟩
          · refine p_callN (d_restriction_lowered_ok _ _ _ _ _ none h56) (by kernel_rfl) fun ch hpan => ?_
            refine q_block_pan ?_
            cases h52
            refine q_jout_pan ?_
            have h57 := o_outr h44
            cases h57
            refine q_lout_pan fun he => ?_
            subst he
            have h58 := o_outr h
            refine q_block_pan (q_seq_pan ?_)
            refine qr_pan hpan (q_dendR (pan := true) (caps := [.ref 10 0]) (by kernel_rfl) Go.Proofs.Tryd.func48 (by rfl) rfl Go.Proofs.Tryd.ntmps48 (by rfl) ?_)
            refine pwpR_wkr ((wkr_ren 17 (by kernel_rfl)).trans (.of (j := ⟨[(0, .ref 17010 0), (13, .ref 17010 0), (59, .fn 48 [.ref 17010 0])], [(17010, .cells ([lstOf .frozen (x25 : (List T_api_Segment))]))], [], []⟩) (n := 5700060) (by kernel_rfl) (by kernel_rfl))) ?_
            refine r_recover ⟨rfl, rfl, rfl, rfl, fun _ _ => rfl, (fun a _ _ _ h => by simp [Act.eval] at h; simp [go_sem, h]), (fun a _ h => by simp [Act.eval] at h; simp [go_sem, h])⟩ (by kernel_rfl) ?_
            refine r_cond_t (b := true) rfl (by kernel_rfl) ?_
            refine r_reg ?_
            refine zE ?_
            cases h58
            exact q_dfin (by kernel_rfl) (by kernel_rfl) (by kernel_rfl)
          refine p_callS (d_restriction_lowered_ok _ _ _ _ _ (some r44) h56) (by kernel_rfl) (by kernel_rfl) ?_
          refine wlE_run 6 1 ?_
          refine zE ?_
          refine wlE_end (q_block ?_)
          cases h52
          exact zJ
        refine zU hb ?_
        refine pwp_skip (q_block ?_)
        cases h52
        exact zJ
      rintro x40 rfl
      have h44 := o_outl h44
      refine r_reg ?_
      refine zE ?_
      cases h44
      exact zB
    refine zU hb ?_
    refine pwp_exit (q_seq_exit ?_)
    cases h44
    exact zX
  rintro x35 s' rfl hs
  have h := o_outl h
  refine q_block_hit ?_
  refine q_next (pwp_wkr hs ?_)
  refine pwp_seq (r_reg ?_)
  refine zE ?_
  refine q_next (pwp_ret ?_)
  refine qr_ret (q_dendR (pan := false) (caps := [.ref 10 0]) (by kernel_rfl) Go.Proofs.Tryd.func48 (by rfl) rfl Go.Proofs.Tryd.ntmps48 (by rfl) ?_)
  refine pwpR_wkr ((wkr_ren 19 (by kernel_rfl)).trans (.of (j := ⟨[(0, .ref 19010 0), (13, .ref 19010 0), (59, .fn 48 [.ref 19010 0])], [(19010, .cells ([lstOf .frozen (x35 : (List T_api_Segment))]))], [], []⟩) (n := 5700060) (by kernel_rfl) (by kernel_rfl))) ?_
  refine r_recover ⟨rfl, rfl, rfl, rfl, fun _ _ => rfl, (fun a _ _ _ h => by simp [Act.eval] at h; simp [go_sem, h]), (fun a _ h => by simp [Act.eval] at h; simp [go_sem, h])⟩ (by kernel_rfl) ?_
  refine r_cond_f (b := false) rfl (by kernel_rfl) ?_
  refine pwp_skip ?_
  cases h
  exact q_dfin (by kernel_rfl) (by kernel_rfl) (by kernel_rfl)

/-! profile.Cut -/
noncomputable def d_profile_Cut_0 (a0 : (List T_api_Segment)) (a1 : Int) (a2 : Int) : (Int × (List T_api_Segment)) → Option ((Int × (List T_api_Segment)) ⊕ ((List T_api_Segment) ⊕ (List T_api_Segment))) := fun (x17, x18) =>
  bif decide (x17 < ((a0.length : Nat) : Int)) then (
    onInl (α := (List T_api_Segment)) (β := ((Int × (List T_api_Segment)) ⊕ ((List T_api_Segment) ⊕ (List T_api_Segment)))) (
      (ixO a0 x17).bind fun x31 =>
      (d_profile_span_part (T_profile_span.mk a1 a2) x31).bind fun r32 =>
      bif r32.2 then (
        (appO x18 [r32.1]).bind fun x33 =>
        some (.inl x33)
      ) else (
        some (.inl x18)
      )
    ) fun x30 =>
    some (.inl (w64 (x17 + 1), x30))
  ) else (
    some (.inr (.inl x18))
  )

noncomputable def d_profile_Cut (a0 : (List T_api_Segment)) (a1 : Int) (a2 : Int) : Option (List T_api_Segment) :=
  (d_profile_Valid a0).bind fun r1 =>
  bif (!r1) then (
    some ([] : (List T_api_Segment))
  ) else (
    onInl (α := (List T_api_Segment)) (β := (List T_api_Segment)) (loopO (d_profile_Cut_0 a0 a1 a2) (0, ([] : (List T_api_Segment)))) fun x26 =>
    some x26
  )
theorem d_profile_Cut_ok (a0 : (List T_api_Segment)) (a1 : Int) (a2 : Int) (r : (List T_api_Segment)) (h : d_profile_Cut a0 a1 a2 = some r) : PCall Go.Proofs.Tryd.prog GlS 23 [Enc.pv a0, Enc.pv a1, Enc.pv a2] (lstOf (.own 100007) r) := by
  unfold d_profile_Cut at h
  refine pcall_of_pwp Go.Proofs.Tryd.func23 (by rfl) rfl Go.Proofs.Tryd.ntmps23 (by rfl) rfl ?_
  refine pwp_seq (r_reg ?_)
  refine zE ?_
  refine q_next (pwp_seq (pwp_seq (r_reg ?_)))
  refine zR 1 ?_
  obtain ⟨r1, h1, h⟩ := o_bind h
  refine p_call (d_profile_Valid_ok _ r1 h1) (by kernel_rfl) (by kernel_rfl) ?_
  refine zE ?_
  refine q_next ?_
  rcases o_cond h with ⟨hb, h⟩ | ⟨hb, h⟩
  · refine zT hb ?_
    refine pwp_seq (r_reg ?_)
    refine zE ?_
    refine q_next ?_
    refine g_nil 6 100007 4 32 (by kernel_rfl) (by kernel_rfl) ?_
    refine pwp_ret (q_seq_ret ?_)
    cases h
    exact zQ
  refine zU hb ?_
  refine pwp_skip (q_next (pwp_seq (r_reg ?_)))
  refine zE ?_
  refine q_next (pwp_seq (pwp_seq (r_reg ?_)))
  refine zR 1 ?_
  refine p_len (L := (a0 : (List T_api_Segment))) (by kernel_rfl) ?_
  refine zE ?_
  refine q_next (pwp_block ?_)
  refine g_nil 7 100007 4 32 (by kernel_rfl) (by kernel_rfl) ?_
  obtain ⟨o24, h24, h⟩ := o_inl h
  refine r_loop2 36 0 (fun (x17, x18) => ⟨[(1, .int .i64 a1), (2, .int .i64 a2), (7, lstOf (.own 100007) (x18 : (List T_api_Segment))), (15, lstOf .frozen (a0 : (List T_api_Segment))), (16, .int .i64 ((a0.length : Nat) : Int)), (17, .int .i64 x17)], [], [(100007, (((x18).map cellsOf).length, 4))], []⟩) (fun x26 => ⟨[(7, lstOf (.own 100007) (x26 : (List T_api_Segment)))], [], [(100007, (((x26).map cellsOf).length, 4))], []⟩) h24 (by kernel_rfl) (fun _ => by kernel_rfl) ?_ ?_
  · rintro ⟨x17, x18⟩ oh23 h23
    unfold d_profile_Cut_0 at h23
    refine pwp_seq (r_reg ?_)
    refine zE ?_
    refine q_next (pwp_seq ?_)
    rcases o_cond h23 with ⟨hb, h23⟩ | ⟨hb, h23⟩
    · refine zT hb ?_
      refine pwp_skip (q_next ?_)
      obtain ⟨o28, h28, h23⟩ := o_inl h23
      refine r_join (o := o28) 36 (fun x30 => ⟨[(1, .int .i64 a1), (2, .int .i64 a2), (7, lstOf (.own 100007) (x30 : (List T_api_Segment))), (15, lstOf .frozen (a0 : (List T_api_Segment))), (16, .int .i64 ((a0.length : Nat) : Int)), (17, .int .i64 x17)], [], [(100007, (((x30).map cellsOf).length, 4))], []⟩) ?_ ?_
      · refine pwp_block (pwp_seq (r_reg ?_))
        obtain ⟨x31, h29, h28⟩ := o_bind h28
        refine zI h29 ?_
        refine zE ?_
        refine q_next (pwp_seq (r_reg ?_))
        refine zR 4 ?_
        obtain ⟨r32, h30, h28⟩ := o_bind h28
        refine p_call (d_profile_span_part_ok _ _ r32 h30) (by kernel_rfl) (by kernel_rfl) ?_
        refine zE ?_
        refine q_next (pwp_seq (r_reg ?_))
        refine zE ?_
        refine q_next ?_
        rcases o_cond h28 with ⟨hb, h28⟩ | ⟨hb, h28⟩
        · refine zT hb ?_
          refine r_reg ?_
          refine zR 3 ?_
          obtain ⟨x33, h31, h28⟩ := o_bind h28
          refine p_app (tk := 100007) h31 (by kernel_rfl) (by kernel_rfl) ?_
          refine zE ?_
          refine q_block ?_
          cases h28
          exact zJ
        refine zU hb ?_
        refine pwp_skip (q_block ?_)
        cases h28
        exact zJ
      rintro x30 rfl
      have h23 := o_outl h23
      refine r_reg ?_
      refine zE ?_
      cases h23
      exact zB
    refine zU hb ?_
    refine pwp_exit (q_seq_exit ?_)
    cases h23
    exact zX
  rintro x26 s' rfl hs
  have h := o_outl h
  refine q_block_hit ?_
  refine q_next (pwp_wkr hs ?_)
  refine pwp_seq (r_reg ?_)
  refine zE ?_
  refine q_next (pwp_ret ?_)
  cases h
  exact zQ
theorem d_profile_Cut_fz (a0 : (List T_api_Segment)) (a1 : Int) (a2 : Int) (r : (List T_api_Segment)) (h : d_profile_Cut a0 a1 a2 = some r) : PCall Go.Proofs.Tryd.prog GlS 23 [Enc.pv a0, Enc.pv a1, Enc.pv a2] (Enc.pv r) :=
  (d_profile_Cut_ok a0 a1 a2 r h).freeze (by kernel_rfl) (by kernel_rfl) (by kernel_rfl)

/-! linking.passed -/
noncomputable def d_linking_passed (a0 : Int) (a1 : T_api_Step) : Option Bool :=
  bif decide (a0 = 1) then (
    some true
  ) else (
    onInl (α := Bool) (β := Bool) (
      bif decide (a0 = 2) then (
        some (.inl (decide (a0 = 2)))
      ) else (
        some (.inl (decide (a0 = 3)))
      )
    ) fun x1 =>
    bif x1 then (
      some (((decide (a1.In = 0)) && (decide (a1.Out = 1))) || ((decide (a1.In = 1)) && (decide (a1.Out = 0))))
    ) else (
      some false
    )
  )
theorem d_linking_passed_ok (a0 : Int) (a1 : T_api_Step) (r : Bool) (h : d_linking_passed a0 a1 = some r) : PCall Go.Proofs.Tryd.prog GlS 53 [Enc.pv a0, Enc.pv a1] (Enc.pv r) := by
  unfold d_linking_passed at h
  refine pcall_of_pwp Go.Proofs.Tryd.func53 (by rfl) rfl Go.Proofs.Tryd.ntmps53 (by rfl) rfl ?_
  refine pwp_seq (r_reg ?_)
  refine zE ?_
  refine q_next (pwp_seq (pwp_seq (r_reg ?_)))
  refine zE ?_
  refine q_next (pwp_block (pwp_seq (r_reg ?_)))
  refine zE ?_
  refine q_next ?_
  rcases o_cond h with ⟨hb, h⟩ | ⟨hb, h⟩
  · refine zT hb ?_
    refine pwp_seq (r_reg ?_)
    refine zE ?_
    refine q_next (pwp_ret (q_block_ret (q_seq_ret ?_)))
    cases h
    exact zQ
  refine zU hb ?_
  obtain ⟨o1, h1, h⟩ := o_inl h
  refine r_join (o := o1) 29 (fun x1 => ⟨[(3, .ref 3 0), (8, .bool x1)], [(3, .cells (cellsOf a1))], [], []⟩) ?_ ?_
  · refine pwp_seq (r_reg ?_)
    refine zE ?_
    refine q_next ?_
    rcases o_cond h1 with ⟨hb, h1⟩ | ⟨hb, h1⟩
    · refine zT hb ?_
      refine pwp_skip ?_
      cases h1
      exact zJ
    refine zU hb ?_
    refine r_reg ?_
    refine zE ?_
    cases h1
    exact zJ
  rintro x1 rfl
  have h := o_outl h
  rcases o_cond h with ⟨hb, h⟩ | ⟨hb, h⟩
  · refine zT hb ?_
    refine pwp_seq (r_reg ?_)
    refine zR 4 ?_
    refine e_segb 4 18 ((decide (a1.In = 0)) && (decide (a1.Out = 1))) (fun x hx => ?_) ?_
    · rcases b_and hx with ⟨hb, hx⟩ | ⟨hb, hx⟩
      · refine zS 14 hb ?_
        subst hx
        exact zF
      refine zS 14 hb ?_
      subst hx
      exact zF
    refine zR 1 ?_
    refine e_segb 9 28 (((decide (a1.In = 0)) && (decide (a1.Out = 1))) || ((decide (a1.In = 1)) && (decide (a1.Out = 0)))) (fun x hx => ?_) ?_
    · rcases b_or hx with ⟨hb, hx⟩ | ⟨hb, hx⟩
      · refine zS 19 hb ?_
        subst hx
        exact zF
      refine zS 19 hb ?_
      refine zR 4 ?_
      refine f_segb 4 27 ((decide (a1.In = 1)) && (decide (a1.Out = 0))) (fun x hx => ?_) ?_
      · rcases b_and hx with ⟨hb, hx⟩ | ⟨hb, hx⟩
        · refine zS 23 hb ?_
          subst hx
          exact zF
        refine zS 23 hb ?_
        subst hx
        exact zF
      subst hx
      exact zF
    refine zE ?_
    refine q_next (pwp_ret (q_block_ret (q_seq_ret ?_)))
    cases h
    exact zQ
  refine zU hb ?_
  refine pwp_skip (q_block (q_next (pwp_seq (r_reg ?_))))
  refine zE ?_
  refine q_next (pwp_ret ?_)
  cases h
  exact zQ

/-! cmp.isNaN[int] -/
noncomputable def d_cmp_isNaN_int (a0 : Int) : Option Bool :=
  some (!(decide (a0 = a0)))
theorem d_cmp_isNaN_int_ok (a0 : Int) (r : Bool) (h : d_cmp_isNaN_int a0 = some r) : PCall Go.Proofs.Tryd.prog GlS 83 [Enc.pv a0] (Enc.pv r) := by
  unfold d_cmp_isNaN_int at h
  refine pcall_of_pwp Go.Proofs.Tryd.func83 (by rfl) rfl Go.Proofs.Tryd.ntmps83 (by rfl) rfl ?_
  refine pwp_seq (r_reg ?_)
  refine zE ?_
  refine q_next (pwp_seq (r_reg ?_))
  refine zE ?_
  refine q_next (pwp_ret ?_)
  cases h
  exact zQ

/-! cmp.Compare[int] -/
noncomputable def d_cmp_Compare_int (a0 : Int) (a1 : Int) : Option Int :=
  (d_cmp_isNaN_int a0).bind fun r1 =>
  (d_cmp_isNaN_int a1).bind fun r2 =>
  bif r1 then (
    bif r2 then (
      some 0
    ) else (
      some (-1)
    )
  ) else (
    bif r2 then (
      some 1
    ) else (
      bif decide (a0 < a1) then (
        some (-1)
      ) else (
        bif decide (a1 < a0) then (
          some 1
        ) else (
          some 0
        )
      )
    )
  )
theorem d_cmp_Compare_int_ok (a0 : Int) (a1 : Int) (r : Int) (h : d_cmp_Compare_int a0 a1 = some r) : PCall Go.Proofs.Tryd.prog GlS 57 [Enc.pv a0, Enc.pv a1] (Enc.pv r) := by
  unfold d_cmp_Compare_int at h
  refine pcall_of_pwp Go.Proofs.Tryd.func57 (by rfl) rfl Go.Proofs.Tryd.ntmps57 (by rfl) rfl ?_
  refine pwp_seq (r_reg ?_)
  refine zE ?_
  refine q_next (pwp_seq (r_reg ?_))
  refine zR 1 ?_
  obtain ⟨r1, h1, h⟩ := o_bind h
  refine p_call (d_cmp_isNaN_int_ok _ r1 h1) (by kernel_rfl) (by kernel_rfl) ?_
  refine zE ?_
  refine q_next (pwp_seq (r_reg ?_))
  refine zR 1 ?_
  obtain ⟨r2, h2, h⟩ := o_bind h
  refine p_call (d_cmp_isNaN_int_ok _ r2 h2) (by kernel_rfl) (by kernel_rfl) ?_
  refine zE ?_
  refine q_next (pwp_seq (pwp_seq (r_reg ?_)))
  refine zE ?_
  refine q_next ?_
  rcases o_cond h with ⟨hb, h⟩ | ⟨hb, h⟩
  · refine zT hb ?_
    refine pwp_seq (pwp_seq (r_reg ?_))
    refine zE ?_
    refine q_next ?_
    rcases o_cond h with ⟨hb, h⟩ | ⟨hb, h⟩
    · refine zT hb ?_
      refine pwp_seq (r_reg ?_)
      refine zE ?_
      refine q_next (pwp_ret (q_seq_ret (q_seq_ret ?_)))
      cases h
      exact zQ
    refine zU hb ?_
    refine pwp_skip (q_next (pwp_seq (r_reg ?_)))
    refine zE ?_
    refine q_next (pwp_ret (q_seq_ret ?_))
    cases h
    exact zQ
  refine zU hb ?_
  refine pwp_skip (q_next (pwp_seq (pwp_seq (r_reg ?_))))
  refine zE ?_
  refine q_next ?_
  rcases o_cond h with ⟨hb, h⟩ | ⟨hb, h⟩
  · refine zT hb ?_
    refine pwp_seq (r_reg ?_)
    refine zE ?_
    refine q_next (pwp_ret (q_seq_ret ?_))
    cases h
    exact zQ
  refine zU hb ?_
  refine pwp_skip (q_next (pwp_seq (pwp_seq (r_reg ?_))))
  refine zE ?_
  refine q_next ?_
  rcases o_cond h with ⟨hb, h⟩ | ⟨hb, h⟩
  · refine zT hb ?_
    refine pwp_seq (r_reg ?_)
    refine zE ?_
    refine q_next (pwp_ret (q_seq_ret ?_))
    cases h
    exact zQ
  refine zU hb ?_
  refine pwp_skip (q_next (pwp_seq (pwp_seq (r_reg ?_))))
  refine zE ?_
  refine q_next ?_
  rcases o_cond h with ⟨hb, h⟩ | ⟨hb, h⟩
  · refine zT hb ?_
    refine pwp_seq (r_reg ?_)
    refine zE ?_
    refine q_next (pwp_ret (q_seq_ret ?_))
    cases h
    exact zQ
  refine zU hb ?_
  refine pwp_skip (q_next (pwp_seq (r_reg ?_)))
  refine zE ?_
  refine q_next (pwp_ret ?_)
  cases h
  exact zQ

theorem d_cmp_Compare_int_eq (a b : Int) : d_cmp_Compare_int a b = some (if a < b then -1 else if b < a then 1 else 0) := by
  unfold d_cmp_Compare_int d_cmp_isNaN_int
  by_cases h1 : a < b
  · simp [h1]
  · by_cases h2 : b < a <;> simp [h1, h2]

/-! cmp.Or[int] -/
noncomputable def d_cmp_Or_int_0 (a0 : (List Int)) : Int → Option (Int ⊕ (Unit ⊕ Int)) := fun x2 =>
  bif decide (x2 < ((a0.length : Nat) : Int)) then (
    (ixO a0 x2).bind fun x4 =>
    bif (!(decide (x4 = 0))) then (
      some (.inr (.inr x4))
    ) else (
      some (.inl (w64 (x2 + 1)))
    )
  ) else (
    some (.inr (.inl ()))
  )

noncomputable def d_cmp_Or_int (a0 : (List Int)) : Option Int :=
  onInl (α := Unit) (β := Int) (loopO (d_cmp_Or_int_0 a0) 0) fun _ =>
  some 0
theorem d_cmp_Or_int_ok (a0 : (List Int)) (r : Int) (h : d_cmp_Or_int a0 = some r) : PCall Go.Proofs.Tryd.prog GlS 56 [Enc.pv a0] (Enc.pv r) := by
  unfold d_cmp_Or_int at h
  refine pcall_of_pwp Go.Proofs.Tryd.func56 (by rfl) rfl Go.Proofs.Tryd.ntmps56 (by rfl) rfl ?_
  refine pwp_seq (r_reg ?_)
  refine zE ?_
  refine q_next (pwp_seq (r_reg ?_))
  refine zE ?_
  refine q_next (pwp_seq (pwp_seq (r_reg ?_)))
  refine zR 1 ?_
  refine p_len (L := (a0 : (List Int))) (by kernel_rfl) ?_
  refine zE ?_
  refine q_next (pwp_block ?_)
  obtain ⟨o6, h6, h⟩ := o_inl h
  refine r_loop2 18 0 (fun x2 => ⟨[(3, .int .i64 0), (6, lstOf .frozen (a0 : (List Int))), (7, .int .i64 ((a0.length : Nat) : Int)), (8, .int .i64 x2)], [], [], []⟩) (fun (_ : Unit) => ⟨[(3, .int .i64 0)], [], [], []⟩) h6 (by kernel_rfl) (fun _ => by kernel_rfl) ?_ ?_
  · rintro x2 oh5 h5
    unfold d_cmp_Or_int_0 at h5
    refine pwp_seq (r_reg ?_)
    refine zE ?_
    refine q_next (pwp_seq ?_)
    rcases o_cond h5 with ⟨hb, h5⟩ | ⟨hb, h5⟩
    · refine zT hb ?_
      refine pwp_skip (q_next (pwp_seq (pwp_block (pwp_seq (r_reg ?_)))))
      obtain ⟨x4, h7, h5⟩ := o_bind h5
      refine zI h7 ?_
      refine zE ?_
      refine q_next (pwp_seq (r_reg ?_))
      refine zE ?_
      refine q_next ?_
      rcases o_cond h5 with ⟨hb, h5⟩ | ⟨hb, h5⟩
      · refine zT hb ?_
        refine pwp_seq (r_reg ?_)
        refine zE ?_
        refine q_next (pwp_ret (q_block_ret (q_seq_ret ?_)))
        cases h5
        refine q_lout_ret fun he => ?_
        subst he
        have h8 := o_outr h
        refine q_block_ret (q_seq_ret ?_)
        cases h8
        exact zQ
      refine zU hb ?_
      refine pwp_skip (q_block (q_next (r_reg ?_)))
      refine zE ?_
      cases h5
      exact zB
    refine zU hb ?_
    refine pwp_exit (q_seq_exit ?_)
    cases h5
    exact zX
  rintro _ s' rfl hs
  have h := o_outl h
  refine q_block_hit ?_
  refine q_next (pwp_wkr hs ?_)
  refine pwp_seq (r_reg ?_)
  refine zE ?_
  refine q_next (pwp_ret ?_)
  cases h
  exact zQ

theorem d_cmp_Or_int_two (a b : Int) : d_cmp_Or_int [a, b] = some (if a = 0 then b else a) := by
  unfold d_cmp_Or_int
  by_cases h1 : a = 0
  · subst h1
    have e0 : d_cmp_Or_int_0 [0, b] 0 = some (.inl 1) := by simp [d_cmp_Or_int_0, ixO, w64, IntKind.wrap, IntKind.bits, IntKind.signed]
    rw [loop_more e0]
    by_cases h2 : b = 0
    · have e1 : d_cmp_Or_int_0 [0, b] 1 = some (.inl 2) := by simp [d_cmp_Or_int_0, ixO, w64, IntKind.wrap, IntKind.bits, IntKind.signed, h2]
      have e2 : d_cmp_Or_int_0 [0, b] 2 = some (.inr (.inl ())) := by simp [d_cmp_Or_int_0]
      rw [loop_more e1, loop_done e2]
      simp [onInl, onOut, h2]
    · have e1 : d_cmp_Or_int_0 [0, b] 1 = some (.inr (.inr b)) := by simp [d_cmp_Or_int_0, ixO, h2]
      rw [loop_done e1]
      simp [onInl, onOut]
  · have e0 : d_cmp_Or_int_0 [a, b] 0 = some (.inr (.inr a)) := by simp [d_cmp_Or_int_0, ixO, h1]
    rw [loop_done e0]
    simp [onInl, onOut, h1]

/-! linking.Of$1 -/
noncomputable def d_linking_Of_c1 (a0 : T_api_Linked) (a1 : T_api_Linked) : Option Int :=
  (d_cmp_Compare_int a0.At a1.At).bind fun r1 =>
  (d_cmp_Compare_int a0.Id a1.Id).bind fun r2 =>
  (d_cmp_Or_int [r1, r2]).bind fun r3 =>
  some r3
theorem d_linking_Of_c1_ok (a0 : T_api_Linked) (a1 : T_api_Linked) (r : Int) (h : d_linking_Of_c1 a0 a1 = some r) : PCall Go.Proofs.Tryd.prog GlS 55 [Enc.pv a0, Enc.pv a1] (Enc.pv r) := by
  unfold d_linking_Of_c1 at h
  refine pcall_of_pwp Go.Proofs.Tryd.func55 (by rfl) rfl Go.Proofs.Tryd.ntmps55 (by rfl) rfl ?_
  refine pwp_seq (r_reg ?_)
  refine zE ?_
  refine q_next (pwp_seq ?_)
  refine r_regd (by kernel_rfl) (by kernel_rfl) ?_
  refine zR 4 ?_
  obtain ⟨r1, h1, h⟩ := o_bind h
  refine p_call (d_cmp_Compare_int_ok _ _ r1 h1) (by kernel_rfl) (by kernel_rfl) ?_
  refine zR 4 ?_
  obtain ⟨r2, h2, h⟩ := o_bind h
  refine p_call (d_cmp_Compare_int_ok _ _ r2 h2) (by kernel_rfl) (by kernel_rfl) ?_
  refine zR 1 ?_
  obtain ⟨r3, h3, h⟩ := o_bind h
  refine p_call (d_cmp_Or_int_ok _ r3 h3) (by kernel_rfl) (by kernel_rfl) ?_
  refine zE ?_
  refine q_next (pwp_ret ?_)
  cases h
  exact zQ

/-! slices.insertionSortCmpFunc[api.Linked] -/
noncomputable def d_slices_insertionSortCmpFunc_api_Linked_1 (a0 : (List T_api_Linked)) (a1 : Int) : (Int × (List T_api_Linked)) → Option ((Int × (List T_api_Linked)) ⊕ ((List T_api_Linked) ⊕ ((Int × (List T_api_Linked)) ⊕ ((List T_api_Linked) ⊕ (List T_api_Linked))))) := fun (x108, x109) =>
  ((bif decide (a1 < x108) then (
    (xixO 0 (((a0 : (List T_api_Linked)).map cellsOf).length) x108).bind fun j126 =>
    (xldO x109 (((a0 : (List T_api_Linked)).map cellsOf).length) j126).bind fun x127 =>
    (xixO 0 (((a0 : (List T_api_Linked)).map cellsOf).length) (w64 (x108 - 1))).bind fun j128 =>
    (xldO x109 (((a0 : (List T_api_Linked)).map cellsOf).length) j128).bind fun x129 =>
    (d_linking_Of_c1 x127 x129).bind fun r130 =>
    some (decide (r130 < 0))
  ) else some false) : Option Bool).bind fun b125 =>
  bif b125 then (
    (xixO 0 (((a0 : (List T_api_Linked)).map cellsOf).length) (w64 (x108 - 1))).bind fun j131 =>
    (xldO x109 (((a0 : (List T_api_Linked)).map cellsOf).length) j131).bind fun x132 =>
    (xixO 0 (((a0 : (List T_api_Linked)).map cellsOf).length) x108).bind fun j133 =>
    (xldO x109 (((a0 : (List T_api_Linked)).map cellsOf).length) j133).bind fun x134 =>
    (xixO 0 (((a0 : (List T_api_Linked)).map cellsOf).length) x108).bind fun j135 =>
    (xldO x109 (((a0 : (List T_api_Linked)).map cellsOf).length) j135).bind fun x136 =>
    (xixO 0 (((a0 : (List T_api_Linked)).map cellsOf).length) (w64 (x108 - 1))).bind fun j137 =>
    (xldO (x109.set j135 x132) (((a0 : (List T_api_Linked)).map cellsOf).length) j137).bind fun x138 =>
    some (.inl (w64 (x108 - 1), ((x109.set j135 x132).set j137 x134)))
  ) else (
    some (.inr (.inl x109))
  )

noncomputable def d_slices_insertionSortCmpFunc_api_Linked_0 (a0 : (List T_api_Linked)) (a1 : Int) (a2 : Int) : (Int × (List T_api_Linked)) → Option ((Int × (List T_api_Linked)) ⊕ ((List T_api_Linked) ⊕ (List T_api_Linked))) := fun (x46, x47) =>
  bif decide (x46 < a2) then (
    onInl (α := (List T_api_Linked)) (β := ((Int × (List T_api_Linked)) ⊕ ((List T_api_Linked) ⊕ (List T_api_Linked)))) (loopO (d_slices_insertionSortCmpFunc_api_Linked_1 a0 a1) (x46, x47)) fun x124 =>
    some (.inl (w64 (x46 + 1), x124))
  ) else (
    some (.inr (.inl x47))
  )

noncomputable def d_slices_insertionSortCmpFunc_api_Linked__linking_Of_c1 (a0 : (List T_api_Linked)) (a1 : Int) (a2 : Int) : Option (List T_api_Linked) :=
  onInl (α := (List T_api_Linked)) (β := (List T_api_Linked)) (loopO (d_slices_insertionSortCmpFunc_api_Linked_0 a0 a1 a2) (w64 (a1 + 1), a0)) fun x93 =>
  some x93
theorem d_slices_insertionSortCmpFunc_api_Linked__linking_Of_c1_xc (a0 : (List T_api_Linked)) (a1 : Int) (a2 : Int) (r : (List T_api_Linked)) (h : d_slices_insertionSortCmpFunc_api_Linked__linking_Of_c1 a0 a1 a2 = some r) : XCall Go.Proofs.Tryd.prog GlS 87 2 16 (a0.map cellsOf) [Enc.pv a1, Enc.pv a2, .fn 55 []] none (r.map cellsOf) := by
  unfold d_slices_insertionSortCmpFunc_api_Linked__linking_Of_c1 at h
  refine xcall_of_pwpW Go.Proofs.Tryd.func87 (by rfl) rfl Go.Proofs.Tryd.ntmps87 (by rfl) rfl ?_
  refine pwp_seq (r_reg ?_)
  refine zE ?_
  refine q_next (pwp_block ?_)
  obtain ⟨o90, h90, h⟩ := o_inl h
  refine r_loop2 53 0 (fun (x46, x47) => ⟨[(0, .ex 1000000000 2 16 (((a0 : (List T_api_Linked)).map cellsOf).length) 0 (((a0 : (List T_api_Linked)).map cellsOf).length)), (1, .int .i64 a1), (2, .int .i64 a2), (3, .fn 55 []), (8, .int .i64 x46)], [], [(1000000000, (((a0 : (List T_api_Linked)).map cellsOf).length, 0))], [(1000000000, (2, (16, (x47 : (List T_api_Linked)).map cellsOf)))]⟩) (fun x93 => ⟨[], [], [(1000000000, (((a0 : (List T_api_Linked)).map cellsOf).length, 0))], [(1000000000, (2, (16, (x93 : (List T_api_Linked)).map cellsOf)))]⟩) h90 (by kernel_rfl) (fun _ => by kernel_rfl) ?_ ?_
  · rintro ⟨x46, x47⟩ oh89 h89
    unfold d_slices_insertionSortCmpFunc_api_Linked_0 at h89
    refine pwp_seq (pwp_seq (r_reg ?_))
    refine zE ?_
    refine q_next ?_
    rcases o_cond h89 with ⟨hb, h89⟩ | ⟨hb, h89⟩
    · refine zT hb ?_
      refine pwp_skip (q_next (pwp_seq (pwp_block (pwp_seq (r_reg ?_)))))
      refine zE ?_
      refine q_next (pwp_block ?_)
      obtain ⟨o120, h120, h89⟩ := o_inl h89
      refine r_loop2 53 2 (fun (x108, x109) => ⟨[(0, .ex 1000000000 2 16 (((a0 : (List T_api_Linked)).map cellsOf).length) 0 (((a0 : (List T_api_Linked)).map cellsOf).length)), (1, .int .i64 a1), (2, .int .i64 a2), (3, .fn 55 []), (8, .int .i64 x46), (9, .int .i64 x108)], [], [(1000000000, (((a0 : (List T_api_Linked)).map cellsOf).length, 0))], [(1000000000, (2, (16, (x109 : (List T_api_Linked)).map cellsOf)))]⟩) (fun x124 => ⟨[(0, .ex 1000000000 2 16 (((a0 : (List T_api_Linked)).map cellsOf).length) 0 (((a0 : (List T_api_Linked)).map cellsOf).length)), (1, .int .i64 a1), (2, .int .i64 a2), (3, .fn 55 []), (8, .int .i64 x46)], [], [(1000000000, (((a0 : (List T_api_Linked)).map cellsOf).length, 0))], [(1000000000, (2, (16, (x124 : (List T_api_Linked)).map cellsOf)))]⟩) h120 (by kernel_rfl) (fun _ => by kernel_rfl) ?_ ?_
      · rintro ⟨x108, x109⟩ oh119 h119
        unfold d_slices_insertionSortCmpFunc_api_Linked_1 at h119
        refine pwp_seq (pwp_seq ?_)
        refine r_regd (by kernel_rfl) (by kernel_rfl) ?_
        obtain ⟨b125, h121, h119⟩ := o_bind h119
        refine zR 4 ?_
        refine e_seg 13 34 (.bool b125) ?_ ?_
        · rcases o_cond h121 with ⟨hb, h121⟩ | ⟨hb, h121⟩
          · refine zS 21 hb ?_
            refine zR 3 ?_
            obtain ⟨j126, h122, h121⟩ := o_bind h121
            refine p_xix (tk := 1000000000) (k := 2) (N := ((a0 : (List T_api_Linked)).map cellsOf).length) h122 (by kernel_rfl) ?_
            obtain ⟨x127, h123, h121⟩ := o_bind h121
            refine p_xld (L := (x109 : (List T_api_Linked))) (N := ((a0 : (List T_api_Linked)).map cellsOf).length) (j := j126) (y := x127) (v := Enc.pv x127) h123 true 2 0 (by kernel_rfl) (by kernel_rfl) ?_
            refine zR 3 ?_
            obtain ⟨j128, h124, h121⟩ := o_bind h121
            refine p_xix (tk := 1000000000) (k := 2) (N := ((a0 : (List T_api_Linked)).map cellsOf).length) h124 (by kernel_rfl) ?_
            obtain ⟨x129, h125, h121⟩ := o_bind h121
            refine p_xld (L := (x109 : (List T_api_Linked))) (N := ((a0 : (List T_api_Linked)).map cellsOf).length) (j := j128) (y := x129) (v := Enc.pv x129) h125 true 2 0 (by kernel_rfl) (by kernel_rfl) ?_
            obtain ⟨r130, h126, h121⟩ := o_bind h121
            refine p_call (d_linking_Of_c1_ok _ _ r130 h126) (by kernel_rfl) (by kernel_rfl) ?_
            cases h121
            exact zF
          refine zS 21 hb ?_
          cases h121
          exact zF
        refine zN ?_
        refine q_next ?_
        rcases o_cond h119 with ⟨hb, h119⟩ | ⟨hb, h119⟩
        · refine zT hb ?_
          refine pwp_skip (q_next (pwp_seq (pwp_block ?_)))
          refine r_regd (by kernel_rfl) (by kernel_rfl) ?_
          refine zR 8 ?_
          obtain ⟨j131, h127, h119⟩ := o_bind h119
          refine p_xix (tk := 1000000000) (k := 2) (N := ((a0 : (List T_api_Linked)).map cellsOf).length) h127 (by kernel_rfl) ?_
          obtain ⟨x132, h128, h119⟩ := o_bind h119
          refine p_xld (L := (x109 : (List T_api_Linked))) (N := ((a0 : (List T_api_Linked)).map cellsOf).length) (j := j131) (y := x132) (v := Enc.pv x132) h128 true 2 0 (by kernel_rfl) (by kernel_rfl) ?_
          refine zR 2 ?_
          obtain ⟨j133, h129, h119⟩ := o_bind h119
          refine p_xix (tk := 1000000000) (k := 2) (N := ((a0 : (List T_api_Linked)).map cellsOf).length) h129 (by kernel_rfl) ?_
          obtain ⟨x134, h130, h119⟩ := o_bind h119
          refine p_xld (L := (x109 : (List T_api_Linked))) (N := ((a0 : (List T_api_Linked)).map cellsOf).length) (j := j133) (y := x134) (v := Enc.pv x134) h130 true 2 0 (by kernel_rfl) (by kernel_rfl) ?_
          obtain ⟨j135, h131, h119⟩ := o_bind h119
          refine p_xix (tk := 1000000000) (k := 2) (N := ((a0 : (List T_api_Linked)).map cellsOf).length) h131 (by kernel_rfl) ?_
          obtain ⟨x136, h132, h119⟩ := o_bind h119
          refine p_xst (L := (x109 : (List T_api_Linked))) (tk := 1000000000) (N := ((a0 : (List T_api_Linked)).map cellsOf).length) (j := j135) (y := x136) (y' := x132) h132 0 2 [.int .i64 x132.Id, .int .i64 x132.At] (by kernel_rfl) (by kernel_rfl) ?_
          obtain ⟨j137, h133, h119⟩ := o_bind h119
          refine p_xix (tk := 1000000000) (k := 2) (N := ((a0 : (List T_api_Linked)).map cellsOf).length) h133 (by kernel_rfl) ?_
          obtain ⟨x138, h134, h119⟩ := o_bind h119
          refine p_xst (L := ((x109.set j135 x132) : (List T_api_Linked))) (tk := 1000000000) (N := ((a0 : (List T_api_Linked)).map cellsOf).length) (j := j137) (y := x138) (y' := x134) h134 0 2 [.int .i64 x134.Id, .int .i64 x134.At] (by kernel_rfl) (by kernel_rfl) ?_
          refine zN ?_
          refine q_block (q_next (r_reg ?_))
          refine zE ?_
          cases h119
          exact zB
        refine zU hb ?_
        refine pwp_exit (q_seq_exit ?_)
        cases h119
        exact zX
      rintro x124 s' rfl hs
      have h89 := o_outl h89
      refine q_block_hit (q_block ?_)
      refine q_next (pwp_wkr hs ?_)
      refine r_reg ?_
      refine zE ?_
      cases h89
      exact zB
    refine zU hb ?_
    refine pwp_exit (q_seq_exit ?_)
    cases h89
    exact zX
  rintro x93 s' rfl hs
  have h := o_outl h
  refine q_block_hit ?_
  cases h
  exact q_xretW_w hs (by kernel_rfl)

/-! slices.swapRangeCmpFunc[api.Linked] -/
noncomputable def d_slices_swapRangeCmpFunc_api_Linked_0 (a0 : (List T_api_Linked)) (a1 : Int) (a2 : Int) (a3 : Int) : (Int × (List T_api_Linked)) → Option ((Int × (List T_api_Linked)) ⊕ ((List T_api_Linked) ⊕ (List T_api_Linked))) := fun (x9, x10) =>
  bif decide (x9 < a3) then (
    (xixO 0 (((a0 : (List T_api_Linked)).map cellsOf).length) (w64 (a2 + x9))).bind fun j20 =>
    (xldO x10 (((a0 : (List T_api_Linked)).map cellsOf).length) j20).bind fun x21 =>
    (xixO 0 (((a0 : (List T_api_Linked)).map cellsOf).length) (w64 (a1 + x9))).bind fun j22 =>
    (xldO x10 (((a0 : (List T_api_Linked)).map cellsOf).length) j22).bind fun x23 =>
    (xixO 0 (((a0 : (List T_api_Linked)).map cellsOf).length) (w64 (a1 + x9))).bind fun j24 =>
    (xldO x10 (((a0 : (List T_api_Linked)).map cellsOf).length) j24).bind fun x25 =>
    (xixO 0 (((a0 : (List T_api_Linked)).map cellsOf).length) (w64 (a2 + x9))).bind fun j26 =>
    (xldO (x10.set j24 x21) (((a0 : (List T_api_Linked)).map cellsOf).length) j26).bind fun x27 =>
    some (.inl (w64 (x9 + 1), ((x10.set j24 x21).set j26 x23)))
  ) else (
    some (.inr (.inl x10))
  )

noncomputable def d_slices_swapRangeCmpFunc_api_Linked__linking_Of_c1 (a0 : (List T_api_Linked)) (a1 : Int) (a2 : Int) (a3 : Int) : Option (List T_api_Linked) :=
  onInl (α := (List T_api_Linked)) (β := (List T_api_Linked)) (loopO (d_slices_swapRangeCmpFunc_api_Linked_0 a0 a1 a2 a3) (0, a0)) fun x19 =>
  some x19
theorem d_slices_swapRangeCmpFunc_api_Linked__linking_Of_c1_xc (a0 : (List T_api_Linked)) (a1 : Int) (a2 : Int) (a3 : Int) (r : (List T_api_Linked)) (h : d_slices_swapRangeCmpFunc_api_Linked__linking_Of_c1 a0 a1 a2 a3 = some r) : XCall Go.Proofs.Tryd.prog GlS 90 2 16 (a0.map cellsOf) [Enc.pv a1, Enc.pv a2, Enc.pv a3, .fn 55 []] none (r.map cellsOf) := by
  unfold d_slices_swapRangeCmpFunc_api_Linked__linking_Of_c1 at h
  refine xcall_of_pwpW Go.Proofs.Tryd.func90 (by rfl) rfl Go.Proofs.Tryd.ntmps90 (by rfl) rfl ?_
  refine pwp_seq (r_reg ?_)
  refine zE ?_
  refine q_next (pwp_block ?_)
  obtain ⟨o18, h18, h⟩ := o_inl h
  refine r_loop2 38 0 (fun (x9, x10) => ⟨[(0, .ex 1000000000 2 16 (((a0 : (List T_api_Linked)).map cellsOf).length) 0 (((a0 : (List T_api_Linked)).map cellsOf).length)), (1, .int .i64 a1), (2, .int .i64 a2), (3, .int .i64 a3), (10, .int .i64 x9)], [], [(1000000000, (((a0 : (List T_api_Linked)).map cellsOf).length, 0))], [(1000000000, (2, (16, (x10 : (List T_api_Linked)).map cellsOf)))]⟩) (fun x19 => ⟨[], [], [(1000000000, (((a0 : (List T_api_Linked)).map cellsOf).length, 0))], [(1000000000, (2, (16, (x19 : (List T_api_Linked)).map cellsOf)))]⟩) h18 (by kernel_rfl) (fun _ => by kernel_rfl) ?_ ?_
  · rintro ⟨x9, x10⟩ oh17 h17
    unfold d_slices_swapRangeCmpFunc_api_Linked_0 at h17
    refine pwp_seq (pwp_seq (r_reg ?_))
    refine zE ?_
    refine q_next ?_
    rcases o_cond h17 with ⟨hb, h17⟩ | ⟨hb, h17⟩
    · refine zT hb ?_
      refine pwp_skip (q_next (pwp_seq (pwp_block ?_)))
      refine r_regd (by kernel_rfl) (by kernel_rfl) ?_
      refine zR 12 ?_
      obtain ⟨j20, h19, h17⟩ := o_bind h17
      refine p_xix (tk := 1000000000) (k := 2) (N := ((a0 : (List T_api_Linked)).map cellsOf).length) h19 (by kernel_rfl) ?_
      obtain ⟨x21, h20, h17⟩ := o_bind h17
      refine p_xld (L := (x10 : (List T_api_Linked))) (N := ((a0 : (List T_api_Linked)).map cellsOf).length) (j := j20) (y := x21) (v := Enc.pv x21) h20 true 2 0 (by kernel_rfl) (by kernel_rfl) ?_
      refine zR 4 ?_
      obtain ⟨j22, h21, h17⟩ := o_bind h17
      refine p_xix (tk := 1000000000) (k := 2) (N := ((a0 : (List T_api_Linked)).map cellsOf).length) h21 (by kernel_rfl) ?_
      obtain ⟨x23, h22, h17⟩ := o_bind h17
      refine p_xld (L := (x10 : (List T_api_Linked))) (N := ((a0 : (List T_api_Linked)).map cellsOf).length) (j := j22) (y := x23) (v := Enc.pv x23) h22 true 2 0 (by kernel_rfl) (by kernel_rfl) ?_
      obtain ⟨j24, h23, h17⟩ := o_bind h17
      refine p_xix (tk := 1000000000) (k := 2) (N := ((a0 : (List T_api_Linked)).map cellsOf).length) h23 (by kernel_rfl) ?_
      obtain ⟨x25, h24, h17⟩ := o_bind h17
      refine p_xst (L := (x10 : (List T_api_Linked))) (tk := 1000000000) (N := ((a0 : (List T_api_Linked)).map cellsOf).length) (j := j24) (y := x25) (y' := x21) h24 0 2 [.int .i64 x21.Id, .int .i64 x21.At] (by kernel_rfl) (by kernel_rfl) ?_
      obtain ⟨j26, h25, h17⟩ := o_bind h17
      refine p_xix (tk := 1000000000) (k := 2) (N := ((a0 : (List T_api_Linked)).map cellsOf).length) h25 (by kernel_rfl) ?_
      obtain ⟨x27, h26, h17⟩ := o_bind h17
      refine p_xst (L := ((x10.set j24 x21) : (List T_api_Linked))) (tk := 1000000000) (N := ((a0 : (List T_api_Linked)).map cellsOf).length) (j := j26) (y := x27) (y' := x23) h26 0 2 [.int .i64 x23.Id, .int .i64 x23.At] (by kernel_rfl) (by kernel_rfl) ?_
      refine zN ?_
      refine q_block (q_next (r_reg ?_))
      refine zE ?_
      cases h17
      exact zB
    refine zU hb ?_
    refine pwp_exit (q_seq_exit ?_)
    cases h17
    exact zX
  rintro x19 s' rfl hs
  have h := o_outl h
  refine q_block_hit ?_
  cases h
  exact q_xretW_w hs (by kernel_rfl)

/-! slices.rotateCmpFunc[api.Linked] -/
noncomputable def d_slices_rotateCmpFunc_api_Linked_0 (a2 : Int) : (Int × (List T_api_Linked) × Int) → Option ((Int × (List T_api_Linked) × Int) ⊕ (((List T_api_Linked) × Int) ⊕ (List T_api_Linked))) := fun (x3, x4, x5) =>
  bif (!(decide (x3 = x5))) then (
    bif decide (x5 < x3) then (
      (d_slices_swapRangeCmpFunc_api_Linked__linking_Of_c1 x4 (w64 (a2 - x3)) a2 x5).bind fun r10 =>
      some (.inl (w64 (x3 - x5), r10, x5))
    ) else (
      (d_slices_swapRangeCmpFunc_api_Linked__linking_Of_c1 x4 (w64 (a2 - x3)) (w64 ((w64 (a2 + x5)) - x3)) x3).bind fun r11 =>
      some (.inl (x3, r11, w64 (x5 - x3)))
    )
  ) else (
    some (.inr (.inl (x4, x3)))
  )

noncomputable def d_slices_rotateCmpFunc_api_Linked__linking_Of_c1 (a0 : (List T_api_Linked)) (a1 : Int) (a2 : Int) (a3 : Int) : Option (List T_api_Linked) :=
  onInl (α := ((List T_api_Linked) × Int)) (β := (List T_api_Linked)) (loopO (d_slices_rotateCmpFunc_api_Linked_0 a2) (w64 (a2 - a1), a0, w64 (a3 - a2))) fun (x8, x9) =>
  (d_slices_swapRangeCmpFunc_api_Linked__linking_Of_c1 x8 (w64 (a2 - x9)) a2 x9).bind fun r12 =>
  some r12
theorem d_slices_rotateCmpFunc_api_Linked__linking_Of_c1_xc (a0 : (List T_api_Linked)) (a1 : Int) (a2 : Int) (a3 : Int) (r : (List T_api_Linked)) (h : d_slices_rotateCmpFunc_api_Linked__linking_Of_c1 a0 a1 a2 a3 = some r) : XCall Go.Proofs.Tryd.prog GlS 89 2 16 (a0.map cellsOf) [Enc.pv a1, Enc.pv a2, Enc.pv a3, .fn 55 []] none (r.map cellsOf) := by
  unfold d_slices_rotateCmpFunc_api_Linked__linking_Of_c1 at h
  refine xcall_of_pwpW Go.Proofs.Tryd.func89 (by rfl) rfl Go.Proofs.Tryd.ntmps89 (by rfl) rfl ?_
  refine pwp_seq (r_reg ?_)
  refine zE ?_
  refine q_next (pwp_seq (r_reg ?_))
  refine zE ?_
  refine q_next (pwp_seq (pwp_block ?_))
  obtain ⟨o6, h6, h⟩ := o_inl h
  refine r_loop2 58 0 (fun (x3, x4, x5) => ⟨[(0, .ex 1000000000 2 16 (((a0 : (List T_api_Linked)).map cellsOf).length) 0 (((a0 : (List T_api_Linked)).map cellsOf).length)), (2, .int .i64 a2), (4, .fn 55 []), (10, .int .i64 x3), (11, .int .i64 x5)], [], [(1000000000, (((a0 : (List T_api_Linked)).map cellsOf).length, 0))], [(1000000000, (2, (16, (x4 : (List T_api_Linked)).map cellsOf)))]⟩) (fun (x8, x9) => ⟨[(0, .ex 1000000000 2 16 (((a0 : (List T_api_Linked)).map cellsOf).length) 0 (((a0 : (List T_api_Linked)).map cellsOf).length)), (2, .int .i64 a2), (4, .fn 55 []), (10, .int .i64 x9)], [], [(1000000000, (((a0 : (List T_api_Linked)).map cellsOf).length, 0))], [(1000000000, (2, (16, (x8 : (List T_api_Linked)).map cellsOf)))]⟩) h6 (by kernel_rfl) (fun _ => by kernel_rfl) ?_ ?_
  · rintro ⟨x3, x4, x5⟩ oh5 h5
    unfold d_slices_rotateCmpFunc_api_Linked_0 at h5
    refine pwp_seq (pwp_seq (r_reg ?_))
    refine zE ?_
    refine q_next ?_
    rcases o_cond h5 with ⟨hb, h5⟩ | ⟨hb, h5⟩
    · refine zT hb ?_
      refine pwp_skip (q_next (pwp_block (pwp_seq (r_reg ?_))))
      refine zE ?_
      refine q_next ?_
      rcases o_cond h5 with ⟨hb, h5⟩ | ⟨hb, h5⟩
      · refine zT hb ?_
        refine pwp_seq (r_reg ?_)
        refine zR 7 ?_
        obtain ⟨r10, h7, h5⟩ := o_bind h5
        refine p_xcall (t := 1000000000) (L := (x4 : (List T_api_Linked))) (L' := (r10 : (List T_api_Linked))) (N := ((a0 : (List T_api_Linked)).map cellsOf).length) (by kernel_rfl) (by kernel_rfl) (by kernel_rfl) (d_slices_swapRangeCmpFunc_api_Linked__linking_Of_c1_xc _ _ _ _ r10 h7) ?_
        refine zN ?_
        refine q_next (r_reg ?_)
        refine zE ?_
        refine q_block ?_
        cases h5
        exact zB
      refine zU hb ?_
      refine pwp_seq (r_reg ?_)
      refine zR 11 ?_
      obtain ⟨r11, h8, h5⟩ := o_bind h5
      refine p_xcall (t := 1000000000) (L := (x4 : (List T_api_Linked))) (L' := (r11 : (List T_api_Linked))) (N := ((a0 : (List T_api_Linked)).map cellsOf).length) (by kernel_rfl) (by kernel_rfl) (by kernel_rfl) (d_slices_swapRangeCmpFunc_api_Linked__linking_Of_c1_xc _ _ _ _ r11 h8) ?_
      refine zN ?_
      refine q_next (r_reg ?_)
      refine zE ?_
      refine q_block ?_
      cases h5
      exact zB
    refine zU hb ?_
    refine pwp_exit (q_seq_exit ?_)
    cases h5
    exact zX
  rintro ⟨x8, x9⟩ s' rfl hs
  have h := o_outl h
  refine q_block_hit ?_
  refine q_next (pwp_wkr hs ?_)
  refine r_reg ?_
  refine zR 7 ?_
  obtain ⟨r12, h9, h⟩ := o_bind h
  refine p_xcall (t := 1000000000) (L := (x8 : (List T_api_Linked))) (L' := (r12 : (List T_api_Linked))) (N := ((a0 : (List T_api_Linked)).map cellsOf).length) (by kernel_rfl) (by kernel_rfl) (by kernel_rfl) (d_slices_swapRangeCmpFunc_api_Linked__linking_Of_c1_xc _ _ _ _ r12 h9) ?_
  refine zN ?_
  cases h
  exact q_xretW (by kernel_rfl)

end PM
