/-
  Plain functions for the program's functions, and the proofs that the program does them. Printed by den.py.
-/
import Derived.Test.YtoknlpdkocemfaaGreatDoorDen3
namespace PM
open Go Go.RowKit
attribute [local irreducible] pops pwp

/-! signallingref40.Claimed -/
noncomputable def d_ref40_Claimed_1 (a0 : (List T_api_Track)) (x26 : Int) : (Bool × Int) → Option ((Bool × Int) ⊕ (Bool ⊕ ((Int × (List Bool)) ⊕ ((List Bool) ⊕ (List Bool))))) := fun (x43, x44) =>
  bif decide (x44 < ((a0.length : Nat) : Int)) then (
    (ixO a0 x44).bind fun x49 =>
    ((bif x43 then some true else (
      (d_ref40_Has x49.Routes x26).bind fun r51 =>
      some r51
    )) : Option Bool).bind fun b50 =>
    some (.inl (b50, w64 (x44 + 1)))
  ) else (
    some (.inr (.inl x43))
  )

noncomputable def d_ref40_Claimed_0 (a0 : (List T_api_Track)) (a1 : Int) : (Int × (List Bool)) → Option ((Int × (List Bool)) ⊕ ((List Bool) ⊕ (List Bool))) := fun (x26, x27) =>
  bif ((decide (x26 < a1)) && (decide (a1 ≤ 48))) then (
    onInl (α := Bool) (β := ((Int × (List Bool)) ⊕ ((List Bool) ⊕ (List Bool)))) (loopO (d_ref40_Claimed_1 a0 x26) (false, 0)) fun x48 =>
    (appO x27 [x48]).bind fun x52 =>
    some (.inl (w64 (x26 + 1), x52))
  ) else (
    some (.inr (.inl x27))
  )

noncomputable def d_ref40_Claimed (a0 : (List T_api_Track)) (a1 : Int) : Option (List Bool) :=
  onInl (α := (List Bool)) (β := (List Bool)) (loopO (d_ref40_Claimed_0 a0 a1) (0, ([] : (List Bool)))) fun x40 =>
  some x40
theorem d_ref40_Claimed_ok (a0 : (List T_api_Track)) (a1 : Int) (r : (List Bool)) (h : d_ref40_Claimed a0 a1 = some r) : PCall Go.Proofs.Tryz.prog GlS 12 [Enc.pv a0, Enc.pv a1] (lstOf (.own 100005) r) := by
  unfold d_ref40_Claimed at h
  refine pcall_of_pwp Go.Proofs.Tryz.func12 (by rfl) rfl Go.Proofs.Tryz.ntmps12 (by rfl) rfl ?_
  refine pwp_seq (r_reg ?_)
  refine zE ?_
  refine q_next (pwp_seq (r_reg ?_))
  refine zE ?_
  refine q_next (pwp_seq (pwp_seq (r_reg ?_)))
  refine zE ?_
  refine q_next (pwp_block ?_)
  refine g_nil 5 100005 1 1 (by kernel_rfl) (by kernel_rfl) ?_
  obtain ⟨o35, h35, h⟩ := o_inl h
  refine r_loop2 38 0 (fun (x26, x27) => ⟨[(0, lstOf .frozen (a0 : (List T_api_Track))), (1, .int .i64 a1), (5, lstOf (.own 100005) (x27 : (List Bool))), (6, .int .i64 x26)], [], [(100005, (((x27).map cellsOf).length, 1))], []⟩) (fun x40 => ⟨[(5, lstOf (.own 100005) (x40 : (List Bool)))], [], [(100005, (((x40).map cellsOf).length, 1))], []⟩) h35 (by kernel_rfl) (fun _ => by kernel_rfl) ?_ ?_
  · rintro ⟨x26, x27⟩ oh34 h34
    unfold d_ref40_Claimed_0 at h34
    refine pwp_seq (pwp_seq (r_reg ?_))
    refine zR 4 ?_
    refine e_segb 3 16 ((decide (x26 < a1)) && (decide (a1 ≤ 48))) (fun x hx => ?_) ?_
    · rcases b_and hx with ⟨hb, hx⟩ | ⟨hb, hx⟩
      · refine zS 13 hb ?_
        subst hx
        exact zF
      refine zS 13 hb ?_
      subst hx
      exact zF
    refine zN ?_
    refine q_next ?_
    rcases o_cond h34 with ⟨hb, h34⟩ | ⟨hb, h34⟩
    · refine zT hb ?_
      refine pwp_skip (q_next (pwp_seq (pwp_block (pwp_seq (r_reg ?_)))))
      refine zE ?_
      refine q_next (pwp_seq (pwp_seq (r_reg ?_)))
      refine zR 1 ?_
      refine p_len (L := (a0 : (List T_api_Track))) (by kernel_rfl) ?_
      refine zE ?_
      refine q_next (pwp_block ?_)
      obtain ⟨o42, h42, h34⟩ := o_inl h34
      refine r_loop2 38 2 (fun (x43, x44) => ⟨[(0, lstOf .frozen (a0 : (List T_api_Track))), (1, .int .i64 a1), (5, lstOf (.own 100005) (x27 : (List Bool))), (6, .int .i64 x26), (7, .bool x43), (19, lstOf .frozen (a0 : (List T_api_Track))), (20, .int .i64 ((a0.length : Nat) : Int)), (21, .int .i64 x44)], [], [(100005, (((x27).map cellsOf).length, 1))], []⟩) (fun x48 => ⟨[(0, lstOf .frozen (a0 : (List T_api_Track))), (1, .int .i64 a1), (5, lstOf (.own 100005) (x27 : (List Bool))), (6, .int .i64 x26), (7, .bool x48)], [], [(100005, (((x27).map cellsOf).length, 1))], []⟩) h42 (by kernel_rfl) (fun _ => by kernel_rfl) ?_ ?_
      · rintro ⟨x43, x44⟩ oh41 h41
        unfold d_ref40_Claimed_1 at h41
        refine pwp_seq (r_reg ?_)
        refine zE ?_
        refine q_next (pwp_seq ?_)
        rcases o_cond h41 with ⟨hb, h41⟩ | ⟨hb, h41⟩
        · refine zT hb ?_
          refine pwp_skip (q_next (pwp_seq (pwp_block (pwp_seq (r_reg ?_)))))
          obtain ⟨x49, h43, h41⟩ := o_bind h41
          refine zI h43 ?_
          refine zE ?_
          refine q_next (r_reg ?_)
          obtain ⟨b50, h44, h41⟩ := o_bind h41
          refine zR 2 ?_
          refine e_seg 5 31 (.bool b50) ?_ ?_
          · rcases o_cond h44 with ⟨hb, h44⟩ | ⟨hb, h44⟩
            · refine zS 26 hb ?_
              cases h44
              exact zF
            refine zS 26 hb ?_
            refine zR 3 ?_
            obtain ⟨r51, h45, h44⟩ := o_bind h44
            refine p_call (d_ref40_Has_ok _ _ r51 h45) (by kernel_rfl) (by kernel_rfl) ?_
            cases h44
            exact zF
          refine zE ?_
          refine q_block (q_next (r_reg ?_))
          refine zE ?_
          cases h41
          exact zB
        refine zU hb ?_
        refine pwp_exit (q_seq_exit ?_)
        cases h41
        exact zX
      rintro x48 s' rfl hs
      have h34 := o_outl h34
      refine q_block_hit ?_
      refine q_next (pwp_wkr hs ?_)
      refine r_reg ?_
      refine zR 3 ?_
      obtain ⟨x52, h46, h34⟩ := o_bind h34
      refine p_app (tk := 100005) h46 (by kernel_rfl) (by kernel_rfl) ?_
      refine zE ?_
      refine q_block (q_next (r_reg ?_))
      refine zE ?_
      cases h34
      exact zB
    refine zU hb ?_
    refine pwp_exit (q_seq_exit ?_)
    cases h34
    exact zX
  rintro x40 s' rfl hs
  have h := o_outl h
  refine q_block_hit ?_
  refine q_next (pwp_wkr hs ?_)
  refine pwp_seq (r_reg ?_)
  refine zE ?_
  refine q_next (pwp_ret ?_)
  cases h
  exact zQ
theorem d_ref40_Claimed_fz (a0 : (List T_api_Track)) (a1 : Int) (r : (List Bool)) (h : d_ref40_Claimed a0 a1 = some r) : PCall Go.Proofs.Tryz.prog GlS 12 [Enc.pv a0, Enc.pv a1] (Enc.pv r) :=
  (d_ref40_Claimed_ok a0 a1 r h).freeze (by kernel_rfl) (by kernel_rfl) (by kernel_rfl)

/-! signallinglaw40.same -/
noncomputable def d_law40_same_0 (a0 : (List Bool)) (a1 : (List Bool)) : Int → Option (Int ⊕ (Unit ⊕ Bool)) := fun x3 =>
  bif decide (x3 < ((a0.length : Nat) : Int)) then (
    (ixO a0 x3).bind fun x6 =>
    (ixO a1 x3).bind fun x7 =>
    bif (!(x6 == x7)) then (
      some (.inr (.inr false))
    ) else (
      some (.inl (w64 (x3 + 1)))
    )
  ) else (
    some (.inr (.inl ()))
  )

noncomputable def d_law40_same (a0 : (List Bool)) (a1 : (List Bool)) : Option Bool :=
  bif (!(decide (((a0.length : Nat) : Int) = ((a1.length : Nat) : Int)))) then (
    some false
  ) else (
    onInl (α := Unit) (β := Bool) (loopO (d_law40_same_0 a0 a1) 0) fun _ =>
    some true
  )
theorem d_law40_same_ok (a0 : (List Bool)) (a1 : (List Bool)) (r : Bool) (h : d_law40_same a0 a1 = some r) : PCall Go.Proofs.Tryz.prog GlS 10 [Enc.pv a0, Enc.pv a1] (Enc.pv r) := by
  unfold d_law40_same at h
  refine pcall_of_pwp Go.Proofs.Tryz.func10 (by rfl) rfl Go.Proofs.Tryz.ntmps10 (by rfl) rfl ?_
  refine pwp_seq (r_reg ?_)
  refine zE ?_
  refine q_next (pwp_seq (pwp_seq (r_reg ?_)))
  refine zR 1 ?_
  refine p_len (L := (a0 : (List Bool))) (by kernel_rfl) ?_
  refine zR 1 ?_
  refine p_len (L := (a1 : (List Bool))) (by kernel_rfl) ?_
  refine zE ?_
  refine q_next ?_
  rcases o_cond h with ⟨hb, h⟩ | ⟨hb, h⟩
  · refine zT hb ?_
    refine pwp_seq (r_reg ?_)
    refine zE ?_
    refine q_next (pwp_ret (q_seq_ret ?_))
    cases h
    exact zQ
  refine zU hb ?_
  refine pwp_skip (q_next (pwp_seq (pwp_seq (r_reg ?_))))
  refine zR 1 ?_
  refine p_len (L := (a0 : (List Bool))) (by kernel_rfl) ?_
  refine zE ?_
  refine q_next (pwp_block ?_)
  obtain ⟨o8, h8, h⟩ := o_inl h
  refine r_loop2 26 0 (fun x3 => ⟨[(0, lstOf .frozen (a0 : (List Bool))), (1, lstOf .frozen (a1 : (List Bool))), (12, .int .i64 ((a0.length : Nat) : Int)), (13, .int .i64 x3)], [], [], []⟩) (fun (_ : Unit) => ⟨[], [], [], []⟩) h8 (by kernel_rfl) (fun _ => by kernel_rfl) ?_ ?_
  · rintro x3 oh7 h7
    unfold d_law40_same_0 at h7
    refine pwp_seq (r_reg ?_)
    refine zE ?_
    refine q_next (pwp_seq ?_)
    rcases o_cond h7 with ⟨hb, h7⟩ | ⟨hb, h7⟩
    · refine zT hb ?_
      refine pwp_skip (q_next (pwp_seq (pwp_block (pwp_seq (r_reg ?_)))))
      refine zE ?_
      refine q_next (pwp_seq ?_)
      refine r_regd (by kernel_rfl) (by kernel_rfl) ?_
      refine zR 2 ?_
      obtain ⟨x6, h9, h7⟩ := o_bind h7
      refine zI h9 ?_
      refine zR 3 ?_
      obtain ⟨x7, h10, h7⟩ := o_bind h7
      refine zI h10 ?_
      refine zE ?_
      refine q_next ?_
      rcases o_cond h7 with ⟨hb, h7⟩ | ⟨hb, h7⟩
      · refine zT hb ?_
        refine pwp_seq (r_reg ?_)
        refine zE ?_
        refine q_next (pwp_ret (q_block_ret (q_seq_ret ?_)))
        cases h7
        refine q_lout_ret fun he => ?_
        subst he
        have h11 := o_outr h
        refine q_block_ret (q_seq_ret ?_)
        cases h11
        exact zQ
      refine zU hb ?_
      refine pwp_skip (q_block (q_next (r_reg ?_)))
      refine zE ?_
      cases h7
      exact zB
    refine zU hb ?_
    refine pwp_exit (q_seq_exit ?_)
    cases h7
    exact zX
  rintro _ s' rfl hs
  have h := o_outl h
  refine q_block_hit ?_
  refine q_next (pwp_wkr hs ?_)
  refine pwp_seq (r_reg ?_)
  refine zE ?_
  refine q_next (pwp_ret ?_)
  cases h
  exact zQ

/-! claims.Passed$1 -/
noncomputable def d_claims_Passed_c1 (a0 : T_api_Track) : Option (List Int) :=
  some a0.Done
theorem d_claims_Passed_c1_ok (a0 : T_api_Track) (r : (List Int)) (h : d_claims_Passed_c1 a0 = some r) : PCall Go.Proofs.Tryz.prog GlS 36 [Enc.pv a0] (Enc.pv r) := by
  unfold d_claims_Passed_c1 at h
  refine pcall_of_pwp Go.Proofs.Tryz.func36 (by rfl) rfl Go.Proofs.Tryz.ntmps36 (by rfl) rfl ?_
  refine pwp_seq (r_reg ?_)
  refine zE ?_
  refine q_next (pwp_seq (r_reg ?_))
  refine zE ?_
  refine q_next (pwp_ret ?_)
  cases h
  exact zQ

/-! claims.among -/
noncomputable def d_claims_among__claims_Passed_c1_1 (a1 : Int) (x1 : (List Bool)) (r58 : (List Int)) : (Int × (List Bool)) → Option ((Int × (List Bool)) ⊕ ((List Bool) ⊕ ((Int × (List Bool)) ⊕ ((List Bool) ⊕ (List Bool))))) := fun (x66, x67) =>
  bif decide (x66 < ((r58.length : Nat) : Int)) then (
    onInl (α := (List Bool)) (β := ((Int × (List Bool)) ⊕ ((List Bool) ⊕ ((Int × (List Bool)) ⊕ ((List Bool) ⊕ (List Bool)))))) (
      (ixO r58 x66).bind fun x80 =>
      bif ((decide (0 ≤ x80)) && (decide (x80 < a1))) then (
        (xixO 0 (((x1 : (List Bool)).map cellsOf).length) x80).bind fun j81 =>
        (xldO x67 (((x1 : (List Bool)).map cellsOf).length) j81).bind fun x82 =>
        some (.inl (x67.set j81 true))
      ) else (
        some (.inl x67)
      )
    ) fun x79 =>
    some (.inl (w64 (x66 + 1), x79))
  ) else (
    some (.inr (.inl x67))
  )

noncomputable def d_claims_among__claims_Passed_c1_0 (a0 : (List T_api_Track)) (a1 : Int) (x1 : (List Bool)) : (Int × (List Bool)) → Option ((Int × (List Bool)) ⊕ ((List Bool) ⊕ (List Bool))) := fun (x28, x29) =>
  bif decide (x28 < ((a0.length : Nat) : Int)) then (
    (ixO a0 x28).bind fun x57 =>
    (d_claims_Passed_c1 x57).bind fun r58 =>
    onInl (α := (List Bool)) (β := ((Int × (List Bool)) ⊕ ((List Bool) ⊕ (List Bool)))) (loopO (d_claims_among__claims_Passed_c1_1 a1 x1 r58) (0, x29)) fun x75 =>
    some (.inl (w64 (x28 + 1), x75))
  ) else (
    some (.inr (.inl x29))
  )

noncomputable def d_claims_among__claims_Passed_c1 (a0 : (List T_api_Track)) (a1 : Int) : Option (List Bool) :=
  bif ((decide (a1 < 0)) || (decide (48 < a1))) then (
    some ([] : (List Bool))
  ) else (
    (mkxO a1 a1 1 (false : Bool)).bind fun x1 =>
    onInl (α := (List Bool)) (β := (List Bool)) (loopO (d_claims_among__claims_Passed_c1_0 a0 a1 x1) (0, x1)) fun x56 =>
    some x56
  )
theorem d_claims_among__claims_Passed_c1_ok (a0 : (List T_api_Track)) (a1 : Int) (r : (List Bool)) (h : d_claims_among__claims_Passed_c1 a0 a1 = some r) : PCall Go.Proofs.Tryz.prog GlS 33 [Enc.pv a0, Enc.pv a1, .fn 36 []] (Enc.pv r) := by
  unfold d_claims_among__claims_Passed_c1 at h
  refine pcall_of_pwp Go.Proofs.Tryz.func33 (by rfl) rfl Go.Proofs.Tryz.ntmps33 (by rfl) rfl ?_
  refine pwp_seq (r_reg ?_)
  refine zE ?_
  refine q_next (pwp_seq (pwp_seq (r_reg ?_)))
  refine zR 3 ?_
  refine e_segb 3 17 ((decide (a1 < 0)) || (decide (48 < a1))) (fun x hx => ?_) ?_
  · rcases b_or hx with ⟨hb, hx⟩ | ⟨hb, hx⟩
    · refine zS 14 hb ?_
      subst hx
      exact zF
    refine zS 14 hb ?_
    subst hx
    exact zF
  refine zN ?_
  refine q_next ?_
  rcases o_cond h with ⟨hb, h⟩ | ⟨hb, h⟩
  · refine zT hb ?_
    refine pwp_seq (r_reg ?_)
    refine zE ?_
    refine q_next (pwp_ret (q_seq_ret ?_))
    cases h
    exact zQ
  refine zU hb ?_
  refine pwp_skip (q_next (pwp_seq (r_reg ?_)))
  refine zR 1 ?_
  obtain ⟨x1, h1, h⟩ := o_bind h
  refine p_xmk (z := (false : Bool)) 19 h1 (by kernel_rfl) (by kernel_rfl) ?_
  refine zE ?_
  refine q_next (pwp_seq (pwp_seq (r_reg ?_)))
  refine zR 1 ?_
  refine p_len (L := (a0 : (List T_api_Track))) (by kernel_rfl) ?_
  refine zE ?_
  refine q_next (pwp_block ?_)
  obtain ⟨o53, h53, h⟩ := o_inl h
  refine r_loop2 47 0 (fun (x28, x29) => ⟨[(1, .int .i64 a1), (2, .fn 36 []), (7, .ex 19 1 1 (((x1 : (List Bool)).map cellsOf).length) 0 (((x1 : (List Bool)).map cellsOf).length)), (20, lstOf .frozen (a0 : (List T_api_Track))), (21, .int .i64 ((a0.length : Nat) : Int)), (22, .int .i64 x28)], [], [(19, (((x1 : (List Bool)).map cellsOf).length, 0))], [(19, (1, (1, (x29 : (List Bool)).map cellsOf)))]⟩) (fun x56 => ⟨[(7, .ex 19 1 1 (((x1 : (List Bool)).map cellsOf).length) 0 (((x1 : (List Bool)).map cellsOf).length))], [], [(19, (((x1 : (List Bool)).map cellsOf).length, 0))], [(19, (1, (1, (x56 : (List Bool)).map cellsOf)))]⟩) h53 (by kernel_rfl) (fun _ => by kernel_rfl) ?_ ?_
  · rintro ⟨x28, x29⟩ oh52 h52
    unfold d_claims_among__claims_Passed_c1_0 at h52
    refine pwp_seq (r_reg ?_)
    refine zE ?_
    refine q_next (pwp_seq ?_)
    rcases o_cond h52 with ⟨hb, h52⟩ | ⟨hb, h52⟩
    · refine zT hb ?_
      refine pwp_skip (q_next (pwp_seq (pwp_block (pwp_seq (r_reg ?_)))))
      obtain ⟨x57, h54, h52⟩ := o_bind h52
      refine zI h54 ?_
      refine zE ?_
      refine q_next (pwp_seq (r_reg ?_))
      refine zR 2 ?_
      obtain ⟨r58, h55, h52⟩ := o_bind h52
      refine p_call (d_claims_Passed_c1_ok _ r58 h55) (by kernel_rfl) (by kernel_rfl) ?_
      refine p_len (L := (r58 : (List Int))) (by kernel_rfl) ?_
      refine zE ?_
      refine q_next (pwp_block ?_)
      obtain ⟨o71, h71, h52⟩ := o_inl h52
      refine r_loop2 47 2 (fun (x66, x67) => ⟨[(1, .int .i64 a1), (2, .fn 36 []), (7, .ex 19 1 1 (((x1 : (List Bool)).map cellsOf).length) 0 (((x1 : (List Bool)).map cellsOf).length)), (20, lstOf .frozen (a0 : (List T_api_Track))), (21, .int .i64 ((a0.length : Nat) : Int)), (22, .int .i64 x28), (28, lstOf .frozen (r58 : (List Int))), (29, .int .i64 ((r58.length : Nat) : Int)), (30, .int .i64 x66)], [], [(19, (((x1 : (List Bool)).map cellsOf).length, 0))], [(19, (1, (1, (x67 : (List Bool)).map cellsOf)))]⟩) (fun x75 => ⟨[(1, .int .i64 a1), (2, .fn 36 []), (7, .ex 19 1 1 (((x1 : (List Bool)).map cellsOf).length) 0 (((x1 : (List Bool)).map cellsOf).length)), (20, lstOf .frozen (a0 : (List T_api_Track))), (21, .int .i64 ((a0.length : Nat) : Int)), (22, .int .i64 x28)], [], [(19, (((x1 : (List Bool)).map cellsOf).length, 0))], [(19, (1, (1, (x75 : (List Bool)).map cellsOf)))]⟩) h71 (by kernel_rfl) (fun _ => by kernel_rfl) ?_ ?_
      · rintro ⟨x66, x67⟩ oh70 h70
        unfold d_claims_among__claims_Passed_c1_1 at h70
        refine pwp_seq (r_reg ?_)
        refine zE ?_
        refine q_next (pwp_seq ?_)
        rcases o_cond h70 with ⟨hb, h70⟩ | ⟨hb, h70⟩
        · refine zT hb ?_
          refine pwp_skip (q_next ?_)
          obtain ⟨o75, h75, h70⟩ := o_inl h70
          refine r_join (o := o75) 47 (fun x79 => ⟨[(1, .int .i64 a1), (2, .fn 36 []), (7, .ex 19 1 1 (((x1 : (List Bool)).map cellsOf).length) 0 (((x1 : (List Bool)).map cellsOf).length)), (20, lstOf .frozen (a0 : (List T_api_Track))), (21, .int .i64 ((a0.length : Nat) : Int)), (22, .int .i64 x28), (28, lstOf .frozen (r58 : (List Int))), (29, .int .i64 ((r58.length : Nat) : Int)), (30, .int .i64 x66)], [], [(19, (((x1 : (List Bool)).map cellsOf).length, 0))], [(19, (1, (1, (x79 : (List Bool)).map cellsOf)))]⟩) ?_ ?_
          · refine pwp_block (pwp_seq (r_reg ?_))
            obtain ⟨x80, h76, h75⟩ := o_bind h75
            refine zI h76 ?_
            refine zE ?_
            refine q_next (pwp_seq (r_reg ?_))
            refine zR 3 ?_
            refine e_segb 4 40 ((decide (0 ≤ x80)) && (decide (x80 < a1))) (fun x hx => ?_) ?_
            · rcases b_and hx with ⟨hb, hx⟩ | ⟨hb, hx⟩
              · refine zS 36 hb ?_
                subst hx
                exact zF
              refine zS 36 hb ?_
              subst hx
              exact zF
            refine zN ?_
            refine q_next ?_
            rcases o_cond h75 with ⟨hb, h75⟩ | ⟨hb, h75⟩
            · refine zT hb ?_
              refine r_reg ?_
              refine zR 2 ?_
              obtain ⟨j81, h77, h75⟩ := o_bind h75
              refine p_xix (tk := 19) (k := 1) (N := ((x1 : (List Bool)).map cellsOf).length) h77 (by kernel_rfl) ?_
              obtain ⟨x82, h78, h75⟩ := o_bind h75
              refine p_xst (L := (x67 : (List Bool))) (tk := 19) (N := ((x1 : (List Bool)).map cellsOf).length) (j := j81) (y := x82) (y' := true) h78 0 1 [.bool true] (by kernel_rfl) (by kernel_rfl) ?_
              refine zN ?_
              refine q_block ?_
              cases h75
              exact zJ
            refine zU hb ?_
            refine pwp_skip (q_block ?_)
            cases h75
            exact zJ
          rintro x79 rfl
          have h70 := o_outl h70
          refine r_reg ?_
          refine zE ?_
          cases h70
          exact zB
        refine zU hb ?_
        refine pwp_exit (q_seq_exit ?_)
        cases h70
        exact zX
      rintro x75 s' rfl hs
      have h52 := o_outl h52
      refine q_block_hit (q_block ?_)
      refine q_next (pwp_wkr hs ?_)
      refine r_reg ?_
      refine zE ?_
      cases h52
      exact zB
    refine zU hb ?_
    refine pwp_exit (q_seq_exit ?_)
    cases h52
    exact zX
  rintro x56 s' rfl hs
  have h := o_outl h
  refine q_block_hit ?_
  refine q_next (pwp_wkr hs ?_)
  refine pwp_seq (r_reg ?_)
  refine zE ?_
  refine q_next ?_
  refine pwp_wkr (wkr_share (xss := (x56 : (List Bool)).map cellsOf) 19 1 1 (((x1 : (List Bool)).map cellsOf).length) [6, 7, 46] [] (by kernel_rfl) (by kernel_rfl) (by kernel_rfl) (by kernel_rfl)) ?_
  refine pwp_ret ?_
  cases h
  exact zQ

/-! claims.Passed -/
noncomputable def d_claims_Passed (a0 : (List T_api_Track)) (a1 : Int) : Option (List Bool) :=
  (d_claims_among__claims_Passed_c1 a0 a1).bind fun r1 =>
  some r1
theorem d_claims_Passed_ok (a0 : (List T_api_Track)) (a1 : Int) (r : (List Bool)) (h : d_claims_Passed a0 a1 = some r) : PCall Go.Proofs.Tryz.prog GlS 13 [Enc.pv a0, Enc.pv a1] (Enc.pv r) := by
  unfold d_claims_Passed at h
  refine pcall_of_pwp Go.Proofs.Tryz.func13 (by rfl) rfl Go.Proofs.Tryz.ntmps13 (by rfl) rfl ?_
  refine pwp_seq (r_reg ?_)
  refine zE ?_
  refine q_next (pwp_seq (r_reg ?_))
  refine zR 2 ?_
  obtain ⟨r1, h1, h⟩ := o_bind h
  refine p_call (d_claims_among__claims_Passed_c1_ok _ _ r1 h1) (by kernel_rfl) (by kernel_rfl) ?_
  refine zE ?_
  refine q_next (pwp_ret ?_)
  cases h
  exact zQ

/-! signallingref40.Passed -/
noncomputable def d_ref40_Passed_1 (a0 : (List T_api_Track)) (x26 : Int) : (Bool × Int) → Option ((Bool × Int) ⊕ (Bool ⊕ ((Int × (List Bool)) ⊕ ((List Bool) ⊕ (List Bool))))) := fun (x43, x44) =>
  bif decide (x44 < ((a0.length : Nat) : Int)) then (
    (ixO a0 x44).bind fun x49 =>
    ((bif x43 then some true else (
      (d_ref40_Has x49.Done x26).bind fun r51 =>
      some r51
    )) : Option Bool).bind fun b50 =>
    some (.inl (b50, w64 (x44 + 1)))
  ) else (
    some (.inr (.inl x43))
  )

noncomputable def d_ref40_Passed_0 (a0 : (List T_api_Track)) (a1 : Int) : (Int × (List Bool)) → Option ((Int × (List Bool)) ⊕ ((List Bool) ⊕ (List Bool))) := fun (x26, x27) =>
  bif ((decide (x26 < a1)) && (decide (a1 ≤ 48))) then (
    onInl (α := Bool) (β := ((Int × (List Bool)) ⊕ ((List Bool) ⊕ (List Bool)))) (loopO (d_ref40_Passed_1 a0 x26) (false, 0)) fun x48 =>
    (appO x27 [x48]).bind fun x52 =>
    some (.inl (w64 (x26 + 1), x52))
  ) else (
    some (.inr (.inl x27))
  )

noncomputable def d_ref40_Passed (a0 : (List T_api_Track)) (a1 : Int) : Option (List Bool) :=
  onInl (α := (List Bool)) (β := (List Bool)) (loopO (d_ref40_Passed_0 a0 a1) (0, ([] : (List Bool)))) fun x40 =>
  some x40
theorem d_ref40_Passed_ok (a0 : (List T_api_Track)) (a1 : Int) (r : (List Bool)) (h : d_ref40_Passed a0 a1 = some r) : PCall Go.Proofs.Tryz.prog GlS 14 [Enc.pv a0, Enc.pv a1] (lstOf (.own 100005) r) := by
  unfold d_ref40_Passed at h
  refine pcall_of_pwp Go.Proofs.Tryz.func14 (by rfl) rfl Go.Proofs.Tryz.ntmps14 (by rfl) rfl ?_
  refine pwp_seq (r_reg ?_)
  refine zE ?_
  refine q_next (pwp_seq (r_reg ?_))
  refine zE ?_
  refine q_next (pwp_seq (pwp_seq (r_reg ?_)))
  refine zE ?_
  refine q_next (pwp_block ?_)
  refine g_nil 5 100005 1 1 (by kernel_rfl) (by kernel_rfl) ?_
  obtain ⟨o35, h35, h⟩ := o_inl h
  refine r_loop2 38 0 (fun (x26, x27) => ⟨[(0, lstOf .frozen (a0 : (List T_api_Track))), (1, .int .i64 a1), (5, lstOf (.own 100005) (x27 : (List Bool))), (6, .int .i64 x26)], [], [(100005, (((x27).map cellsOf).length, 1))], []⟩) (fun x40 => ⟨[(5, lstOf (.own 100005) (x40 : (List Bool)))], [], [(100005, (((x40).map cellsOf).length, 1))], []⟩) h35 (by kernel_rfl) (fun _ => by kernel_rfl) ?_ ?_
  · rintro ⟨x26, x27⟩ oh34 h34
    unfold d_ref40_Passed_0 at h34
    refine pwp_seq (pwp_seq (r_reg ?_))
    refine zR 4 ?_
    refine e_segb 3 16 ((decide (x26 < a1)) && (decide (a1 ≤ 48))) (fun x hx => ?_) ?_
    · rcases b_and hx with ⟨hb, hx⟩ | ⟨hb, hx⟩
      · refine zS 13 hb ?_
        subst hx
        exact zF
      refine zS 13 hb ?_
      subst hx
      exact zF
    refine zN ?_
    refine q_next ?_
    rcases o_cond h34 with ⟨hb, h34⟩ | ⟨hb, h34⟩
    · refine zT hb ?_
      refine pwp_skip (q_next (pwp_seq (pwp_block (pwp_seq (r_reg ?_)))))
      refine zE ?_
      refine q_next (pwp_seq (pwp_seq (r_reg ?_)))
      refine zR 1 ?_
      refine p_len (L := (a0 : (List T_api_Track))) (by kernel_rfl) ?_
      refine zE ?_
      refine q_next (pwp_block ?_)
      obtain ⟨o42, h42, h34⟩ := o_inl h34
      refine r_loop2 38 2 (fun (x43, x44) => ⟨[(0, lstOf .frozen (a0 : (List T_api_Track))), (1, .int .i64 a1), (5, lstOf (.own 100005) (x27 : (List Bool))), (6, .int .i64 x26), (7, .bool x43), (19, lstOf .frozen (a0 : (List T_api_Track))), (20, .int .i64 ((a0.length : Nat) : Int)), (21, .int .i64 x44)], [], [(100005, (((x27).map cellsOf).length, 1))], []⟩) (fun x48 => ⟨[(0, lstOf .frozen (a0 : (List T_api_Track))), (1, .int .i64 a1), (5, lstOf (.own 100005) (x27 : (List Bool))), (6, .int .i64 x26), (7, .bool x48)], [], [(100005, (((x27).map cellsOf).length, 1))], []⟩) h42 (by kernel_rfl) (fun _ => by kernel_rfl) ?_ ?_
      · rintro ⟨x43, x44⟩ oh41 h41
        unfold d_ref40_Passed_1 at h41
        refine pwp_seq (r_reg ?_)
        refine zE ?_
        refine q_next (pwp_seq ?_)
        rcases o_cond h41 with ⟨hb, h41⟩ | ⟨hb, h41⟩
        · refine zT hb ?_
          refine pwp_skip (q_next (pwp_seq (pwp_block (pwp_seq (r_reg ?_)))))
          obtain ⟨x49, h43, h41⟩ := o_bind h41
          refine zI h43 ?_
          refine zE ?_
          refine q_next (r_reg ?_)
          obtain ⟨b50, h44, h41⟩ := o_bind h41
          refine zR 2 ?_
          refine e_seg 5 31 (.bool b50) ?_ ?_
          · rcases o_cond h44 with ⟨hb, h44⟩ | ⟨hb, h44⟩
            · refine zS 26 hb ?_
              cases h44
              exact zF
            refine zS 26 hb ?_
            refine zR 3 ?_
            obtain ⟨r51, h45, h44⟩ := o_bind h44
            refine p_call (d_ref40_Has_ok _ _ r51 h45) (by kernel_rfl) (by kernel_rfl) ?_
            cases h44
            exact zF
          refine zE ?_
          refine q_block (q_next (r_reg ?_))
          refine zE ?_
          cases h41
          exact zB
        refine zU hb ?_
        refine pwp_exit (q_seq_exit ?_)
        cases h41
        exact zX
      rintro x48 s' rfl hs
      have h34 := o_outl h34
      refine q_block_hit ?_
      refine q_next (pwp_wkr hs ?_)
      refine r_reg ?_
      refine zR 3 ?_
      obtain ⟨x52, h46, h34⟩ := o_bind h34
      refine p_app (tk := 100005) h46 (by kernel_rfl) (by kernel_rfl) ?_
      refine zE ?_
      refine q_block (q_next (r_reg ?_))
      refine zE ?_
      cases h34
      exact zB
    refine zU hb ?_
    refine pwp_exit (q_seq_exit ?_)
    cases h34
    exact zX
  rintro x40 s' rfl hs
  have h := o_outl h
  refine q_block_hit ?_
  refine q_next (pwp_wkr hs ?_)
  refine pwp_seq (r_reg ?_)
  refine zE ?_
  refine q_next (pwp_ret ?_)
  cases h
  exact zQ
theorem d_ref40_Passed_fz (a0 : (List T_api_Track)) (a1 : Int) (r : (List Bool)) (h : d_ref40_Passed a0 a1 = some r) : PCall Go.Proofs.Tryz.prog GlS 14 [Enc.pv a0, Enc.pv a1] (Enc.pv r) :=
  (d_ref40_Passed_ok a0 a1 r h).freeze (by kernel_rfl) (by kernel_rfl) (by kernel_rfl)

/-! signallinglaw40.ClaimsCounts -/
noncomputable def d_law40_ClaimsCounts_0 (a0 : (List T_api_Track)) : Int → Option (Int ⊕ (Unit ⊕ Bool)) := fun x5 =>
  bif decide (x5 < ((a0.length : Nat) : Int)) then (
    (ixO a0 x5).bind fun x9 =>
    ((bif decide (80 < ((x9.Routes.length : Nat) : Int)) then some true else (
      some (decide (80 < ((x9.Done.length : Nat) : Int)))
    )) : Option Bool).bind fun b10 =>
    bif b10 then (
      (d_law40_alive ).bind fun r11 =>
      some (.inr (.inr r11))
    ) else (
      some (.inl (w64 (x5 + 1)))
    )
  ) else (
    some (.inr (.inl ()))
  )

noncomputable def d_law40_ClaimsCounts (a0 : (List T_api_Track)) (a1 : Int) : Option Bool :=
  bif decide (20 < ((a0.length : Nat) : Int)) then (
    (d_law40_alive ).bind fun r1 =>
    some r1
  ) else (
    onInl (α := Unit) (β := Bool) (loopO (d_law40_ClaimsCounts_0 a0) 0) fun _ =>
    (d_claims_Claimed a0 a1).bind fun r12 =>
    (d_ref40_Claimed a0 a1).bind fun r13 =>
    (d_law40_same r12 r13).bind fun r14 =>
    ((bif r14 then (
      (d_claims_Passed a0 a1).bind fun r16 =>
      (d_ref40_Passed a0 a1).bind fun r17 =>
      (d_law40_same r16 r17).bind fun r18 =>
      some r18
    ) else some false) : Option Bool).bind fun b15 =>
    ((bif b15 then (
      (d_law40_alive ).bind fun r20 =>
      some r20
    ) else some false) : Option Bool).bind fun b19 =>
    some b19
  )
theorem d_law40_ClaimsCounts_ok (a0 : (List T_api_Track)) (a1 : Int) (r : Bool) (h : d_law40_ClaimsCounts a0 a1 = some r) : PCall Go.Proofs.Tryz.prog GlS 4 [Enc.pv a0, Enc.pv a1] (Enc.pv r) := by
  unfold d_law40_ClaimsCounts at h
  refine pcall_of_pwp Go.Proofs.Tryz.func4 (by rfl) rfl Go.Proofs.Tryz.ntmps4 (by rfl) rfl ?_
  refine pwp_seq (r_reg ?_)
  refine zE ?_
  refine q_next (pwp_seq (pwp_seq (r_reg ?_)))
  refine zR 1 ?_
  refine p_len (L := (a0 : (List T_api_Track))) (by kernel_rfl) ?_
  refine zE ?_
  refine q_next ?_
  rcases o_cond h with ⟨hb, h⟩ | ⟨hb, h⟩
  · refine zT hb ?_
    refine pwp_seq (r_reg ?_)
    obtain ⟨r1, h1, h⟩ := o_bind h
    refine p_call (d_law40_alive_ok  r1 h1) (by kernel_rfl) (by kernel_rfl) ?_
    refine zE ?_
    refine q_next (pwp_ret (q_seq_ret ?_))
    cases h
    exact zQ
  refine zU hb ?_
  refine pwp_skip (q_next (pwp_seq (pwp_seq (r_reg ?_))))
  refine zR 1 ?_
  refine p_len (L := (a0 : (List T_api_Track))) (by kernel_rfl) ?_
  refine zE ?_
  refine q_next (pwp_block ?_)
  obtain ⟨o11, h11, h⟩ := o_inl h
  refine r_loop2 48 0 (fun x5 => ⟨[(0, lstOf .frozen (a0 : (List T_api_Track))), (1, .int .i64 a1), (11, lstOf .frozen (a0 : (List T_api_Track))), (12, .int .i64 ((a0.length : Nat) : Int)), (13, .int .i64 x5)], [], [], []⟩) (fun (_ : Unit) => ⟨[(0, lstOf .frozen (a0 : (List T_api_Track))), (1, .int .i64 a1)], [], [], []⟩) h11 (by kernel_rfl) (fun _ => by kernel_rfl) ?_ ?_
  · rintro x5 oh10 h10
    unfold d_law40_ClaimsCounts_0 at h10
    refine pwp_seq (r_reg ?_)
    refine zE ?_
    refine q_next (pwp_seq ?_)
    rcases o_cond h10 with ⟨hb, h10⟩ | ⟨hb, h10⟩
    · refine zT hb ?_
      refine pwp_skip (q_next (pwp_seq (pwp_block (pwp_seq (r_reg ?_)))))
      obtain ⟨x9, h12, h10⟩ := o_bind h10
      refine zI h12 ?_
      refine zE ?_
      refine q_next (pwp_seq (r_reg ?_))
      refine zR 2 ?_
      refine p_len (L := (x9.Routes : (List Int))) (by kernel_rfl) ?_
      obtain ⟨b10, h13, h10⟩ := o_bind h10
      refine zR 2 ?_
      refine e_seg 5 26 (.bool b10) ?_ ?_
      · rcases o_cond h13 with ⟨hb, h13⟩ | ⟨hb, h13⟩
        · refine zS 21 hb ?_
          cases h13
          exact zF
        refine zS 21 hb ?_
        refine zR 2 ?_
        refine p_len (L := (x9.Done : (List Int))) (by kernel_rfl) ?_
        cases h13
        exact zF
      refine zN ?_
      refine q_next ?_
      rcases o_cond h10 with ⟨hb, h10⟩ | ⟨hb, h10⟩
      · refine zT hb ?_
        refine pwp_seq (r_reg ?_)
        obtain ⟨r11, h14, h10⟩ := o_bind h10
        refine p_call (d_law40_alive_ok  r11 h14) (by kernel_rfl) (by kernel_rfl) ?_
        refine zE ?_
        refine q_next (pwp_ret (q_block_ret (q_seq_ret ?_)))
        cases h10
        refine q_lout_ret fun he => ?_
        subst he
        have h15 := o_outr h
        refine q_block_ret (q_seq_ret ?_)
        cases h15
        exact zQ
      refine zU hb ?_
      refine pwp_skip (q_block (q_next (r_reg ?_)))
      refine zE ?_
      cases h10
      exact zB
    refine zU hb ?_
    refine pwp_exit (q_seq_exit ?_)
    cases h10
    exact zX
  rintro _ s' rfl hs
  have h := o_outl h
  refine q_block_hit ?_
  refine q_next (pwp_wkr hs ?_)
  refine pwp_seq (r_reg ?_)
  refine zR 2 ?_
  obtain ⟨r12, h16, h⟩ := o_bind h
  refine p_call (d_claims_Claimed_ok _ _ r12 h16) (by kernel_rfl) (by kernel_rfl) ?_
  refine zR 2 ?_
  obtain ⟨r13, h17, h⟩ := o_bind h
  refine p_call (d_ref40_Claimed_ok _ _ r13 h17) (by kernel_rfl) (by kernel_rfl) ?_
  obtain ⟨r14, h18, h⟩ := o_bind h
  refine p_call (d_law40_same_ok _ _ r14 h18) (by kernel_rfl) (by kernel_rfl) ?_
  obtain ⟨b15, h19, h⟩ := o_bind h
  refine zR 1 ?_
  refine e_seg 8 44 (.bool b15) ?_ ?_
  · rcases o_cond h19 with ⟨hb, h19⟩ | ⟨hb, h19⟩
    · refine zS 36 hb ?_
      refine zR 2 ?_
      obtain ⟨r16, h20, h19⟩ := o_bind h19
      refine p_call (d_claims_Passed_ok _ _ r16 h20) (by kernel_rfl) (by kernel_rfl) ?_
      refine zR 2 ?_
      obtain ⟨r17, h21, h19⟩ := o_bind h19
      refine p_call (d_ref40_Passed_fz _ _ r17 h21) (by kernel_rfl) (by kernel_rfl) ?_
      obtain ⟨r18, h22, h19⟩ := o_bind h19
      refine p_call (d_law40_same_ok _ _ r18 h22) (by kernel_rfl) (by kernel_rfl) ?_
      cases h19
      exact zF
    refine zS 36 hb ?_
    cases h19
    exact zF
  obtain ⟨b19, h23, h⟩ := o_bind h
  refine zR 1 ?_
  refine e_seg 2 47 (.bool b19) ?_ ?_
  · rcases o_cond h23 with ⟨hb, h23⟩ | ⟨hb, h23⟩
    · refine zS 45 hb ?_
      obtain ⟨r20, h24, h23⟩ := o_bind h23
      refine p_call (d_law40_alive_ok  r20 h24) (by kernel_rfl) (by kernel_rfl) ?_
      cases h23
      exact zF
    refine zS 45 hb ?_
    cases h23
    exact zF
  refine zE ?_
  refine q_next (pwp_ret ?_)
  cases h
  exact zQ

end PM
