/-
  Plain functions for the program's functions, and the proofs that the program does them. Printed by den.py.
-/
import Derived.Test.YtcobolgkboknbaaDoorDen3
namespace PM
open Go Go.RowKit
attribute [local irreducible] pops pwp

/-! signallinglaw45.AuthorityCovers -/
noncomputable def d_law45_AuthorityCovers_0 (a1 : T_api_Track) (r5 : (T_api_Authority × Int)) : Int → Option (Int ⊕ (Unit ⊕ Bool)) := fun x17 =>
  bif decide (x17 < ((r5.1.Links.length : Nat) : Int)) then (
    (ixO r5.1.Links x17).bind fun x22 =>
    ((bif decide (a1.At < x22.At) then some true else (
      ((bif decide (0 < x17) then (
        (ixO r5.1.Links (w64 (x17 - 1))).bind fun x25 =>
        some (decide (x22.At < x25.At))
      ) else some false) : Option Bool).bind fun b24 =>
      some b24
    )) : Option Bool).bind fun b23 =>
    bif b23 then (
      some (.inr (.inr false))
    ) else (
      some (.inl (w64 (x17 + 1)))
    )
  ) else (
    some (.inr (.inl ()))
  )

noncomputable def d_law45_AuthorityCovers (a0 : T_api_Layout) (a1 : T_api_Track) (a2 : (List T_api_Restriction)) (a3 : Int) : Option Bool :=
  (d_law45_modest a1 a2).bind fun r1 =>
  ((bif (!r1) then some true else (
    (d_law45_fine a0 a1).bind fun r3 =>
    some (!r3)
  )) : Option Bool).bind fun b2 =>
  bif b2 then (
    (d_law45_alive ).bind fun r4 =>
    some r4
  ) else (
    (d_authority_Build a0 a1 a2 a3).bind fun r5 =>
    bif (!(decide (r5.2 = 0))) then (
      ((bif ((decide (r5.2 = 1)) || (decide (r5.2 = 2))) then (
        some (decide (((r5.1.Profile.length : Nat) : Int) = 0))
      ) else some false) : Option Bool).bind fun b6 =>
      ((bif b6 then (
        (d_law45_alive ).bind fun r8 =>
        some r8
      ) else some false) : Option Bool).bind fun b7 =>
      some b7
    ) else (
      ((bif (((decide (((r5.1.Profile.length : Nat) : Int) = 0)) || (!(decide (r5.1.Seq = a3)))) || (!(decide (r5.1.End = a1.At)))) then some true else (
        (ixO r5.1.Profile 0).bind fun x10 =>
        some (!(decide (x10.From = a1.Origin)))
      )) : Option Bool).bind fun b9 =>
      ((bif b9 then some true else (
        (ixO r5.1.Profile (w64 (((r5.1.Profile.length : Nat) : Int) - 1))).bind fun x12 =>
        some (!(decide (x12.To = a1.At)))
      )) : Option Bool).bind fun b11 =>
      bif b11 then (
        some false
      ) else (
        onInl (α := Unit) (β := Bool) (loopO (d_law45_AuthorityCovers_0 a1 r5) 0) fun _ =>
        (d_profile_Of a0 a1.Steps a1.Origin).bind fun r26 =>
        (d_law45_below r5.1.Profile r26).bind fun r27 =>
        ((bif r27 then (
          (d_law45_alive ).bind fun r29 =>
          some r29
        ) else some false) : Option Bool).bind fun b28 =>
        some b28
      )
    )
  )
theorem d_law45_AuthorityCovers_ok (a0 : T_api_Layout) (a1 : T_api_Track) (a2 : (List T_api_Restriction)) (a3 : Int) (r : Bool) (h : d_law45_AuthorityCovers a0 a1 a2 a3 = some r) : PCall Go.Proofs.Tryd.prog GlS 4 [Enc.pv a0, Enc.pv a1, Enc.pv a2, Enc.pv a3] (Enc.pv r) := by
  unfold d_law45_AuthorityCovers at h
  refine pcall_of_pwp Go.Proofs.Tryd.func4 (by rfl) rfl Go.Proofs.Tryd.ntmps4 (by rfl) rfl ?_
  refine pwp_seq (r_reg ?_)
  refine zE ?_
  refine q_next (pwp_seq (pwp_seq (r_reg ?_)))
  refine zR 2 ?_
  obtain ⟨r1, h1, h⟩ := o_bind h
  refine p_call (d_law45_modest_ok _ _ r1 h1) (by kernel_rfl) (by kernel_rfl) ?_
  obtain ⟨b2, h2, h⟩ := o_bind h
  refine zR 2 ?_
  refine e_seg 5 23 (.bool b2) ?_ ?_
  · rcases o_cond h2 with ⟨hb, h2⟩ | ⟨hb, h2⟩
    · refine zS 18 hb ?_
      cases h2
      exact zF
    refine zS 18 hb ?_
    refine zR 2 ?_
    obtain ⟨r3, h3, h2⟩ := o_bind h2
    refine p_call (d_law45_fine_ok _ _ r3 h3) (by kernel_rfl) (by kernel_rfl) ?_
    cases h2
    exact zF
  refine zN ?_
  refine q_next ?_
  rcases o_cond h with ⟨hb, h⟩ | ⟨hb, h⟩
  · refine zT hb ?_
    refine pwp_seq (r_reg ?_)
    obtain ⟨r4, h4, h⟩ := o_bind h
    refine p_call (d_law45_alive_ok  r4 h4) (by kernel_rfl) (by kernel_rfl) ?_
    refine zE ?_
    refine q_next (pwp_ret (q_seq_ret ?_))
    cases h
    exact zQ
  refine zU hb ?_
  refine pwp_skip (q_next (pwp_seq (r_reg ?_)))
  refine zR 4 ?_
  obtain ⟨r5, h5, h⟩ := o_bind h
  refine p_call (d_authority_Build_ok _ _ _ _ r5 h5) (by kernel_rfl) (by kernel_rfl) ?_
  refine zE ?_
  refine q_next (pwp_seq (pwp_seq (r_reg ?_)))
  refine zE ?_
  refine q_next ?_
  rcases o_cond h with ⟨hb, h⟩ | ⟨hb, h⟩
  · refine zT hb ?_
    refine pwp_seq (r_reg ?_)
    refine zR 3 ?_
    refine e_segb 3 40 ((decide (r5.2 = 1)) || (decide (r5.2 = 2))) (fun x hx => ?_) ?_
    · rcases b_or hx with ⟨hb, hx⟩ | ⟨hb, hx⟩
      · refine zS 37 hb ?_
        subst hx
        exact zF
      refine zS 37 hb ?_
      subst hx
      exact zF
    obtain ⟨b6, h6, h⟩ := o_bind h
    refine zR 1 ?_
    refine e_seg 5 46 (.bool b6) ?_ ?_
    · rcases o_cond h6 with ⟨hb, h6⟩ | ⟨hb, h6⟩
      · refine zS 41 hb ?_
        refine zR 2 ?_
        refine p_len (L := (r5.1.Profile : (List T_api_Segment))) (by kernel_rfl) ?_
        cases h6
        exact zF
      refine zS 41 hb ?_
      cases h6
      exact zF
    obtain ⟨b7, h7, h⟩ := o_bind h
    refine zR 1 ?_
    refine e_seg 2 49 (.bool b7) ?_ ?_
    · rcases o_cond h7 with ⟨hb, h7⟩ | ⟨hb, h7⟩
      · refine zS 47 hb ?_
        obtain ⟨r8, h8, h7⟩ := o_bind h7
        refine p_call (d_law45_alive_ok  r8 h8) (by kernel_rfl) (by kernel_rfl) ?_
        cases h7
        exact zF
      refine zS 47 hb ?_
      cases h7
      exact zF
    refine zE ?_
    refine q_next (pwp_ret (q_seq_ret ?_))
    cases h
    exact zQ
  refine zU hb ?_
  refine pwp_skip (q_next (pwp_seq (r_reg ?_)))
  refine zR 2 ?_
  refine p_len (L := (r5.1.Profile : (List T_api_Segment))) (by kernel_rfl) ?_
  refine zE ?_
  refine q_next (pwp_seq (pwp_seq ?_))
  refine r_regd (by kernel_rfl) (by kernel_rfl) ?_
  refine zR 3 ?_
  refine e_segb 5 60 ((decide (((r5.1.Profile.length : Nat) : Int) = 0)) || (!(decide (r5.1.Seq = a3)))) (fun x hx => ?_) ?_
  · rcases b_or hx with ⟨hb, hx⟩ | ⟨hb, hx⟩
    · refine zS 55 hb ?_
      subst hx
      exact zF
    refine zS 55 hb ?_
    subst hx
    exact zF
  refine zR 1 ?_
  refine e_segb 6 67 (((decide (((r5.1.Profile.length : Nat) : Int) = 0)) || (!(decide (r5.1.Seq = a3)))) || (!(decide (r5.1.End = a1.At)))) (fun x hx => ?_) ?_
  · rcases b_or hx with ⟨hb, hx⟩ | ⟨hb, hx⟩
    · refine zS 61 hb ?_
      subst hx
      exact zF
    refine zS 61 hb ?_
    subst hx
    exact zF
  obtain ⟨b9, h9, h⟩ := o_bind h
  refine zR 1 ?_
  refine e_seg 9 77 (.bool b9) ?_ ?_
  · rcases o_cond h9 with ⟨hb, h9⟩ | ⟨hb, h9⟩
    · refine zS 68 hb ?_
      cases h9
      exact zF
    refine zS 68 hb ?_
    refine zR 2 ?_
    obtain ⟨x10, h10, h9⟩ := o_bind h9
    refine zI h10 ?_
    cases h9
    exact zF
  obtain ⟨b11, h11, h⟩ := o_bind h
  refine zR 1 ?_
  refine e_seg 11 89 (.bool b11) ?_ ?_
  · rcases o_cond h11 with ⟨hb, h11⟩ | ⟨hb, h11⟩
    · refine zS 78 hb ?_
      cases h11
      exact zF
    refine zS 78 hb ?_
    refine zR 4 ?_
    obtain ⟨x12, h12, h11⟩ := o_bind h11
    refine zI h12 ?_
    cases h11
    exact zF
  refine zN ?_
  refine q_next ?_
  rcases o_cond h with ⟨hb, h⟩ | ⟨hb, h⟩
  · refine zT hb ?_
    refine pwp_seq (r_reg ?_)
    refine zE ?_
    refine q_next (pwp_ret (q_seq_ret ?_))
    cases h
    exact zQ
  refine zU hb ?_
  refine pwp_skip (q_next (pwp_seq (pwp_seq (r_reg ?_))))
  refine zR 2 ?_
  refine p_len (L := (r5.1.Links : (List T_api_Linked))) (by kernel_rfl) ?_
  refine zE ?_
  refine q_next (pwp_block ?_)
  obtain ⟨o24, h24, h⟩ := o_inl h
  refine r_loop2 132 0 (fun x17 => ⟨[(4, .ref 4 0), (5, .ref 5 0), (9, .ref 9 0), (91, lstOf .frozen (r5.1.Links : (List T_api_Linked))), (92, .int .i64 ((r5.1.Links.length : Nat) : Int)), (93, .int .i64 x17)], [(4, .cells (cellsOf a0)), (5, .cells (cellsOf a1)), (9, .cells (cellsOf r5.1))], [], []⟩) (fun (_ : Unit) => ⟨[(4, .ref 4 0), (5, .ref 5 0), (9, .ref 9 0)], [(4, .cells (cellsOf a0)), (5, .cells (cellsOf a1)), (9, .cells (cellsOf r5.1))], [], []⟩) h24 (by kernel_rfl) (fun _ => by kernel_rfl) ?_ ?_
  · rintro x17 oh23 h23
    unfold d_law45_AuthorityCovers_0 at h23
    refine pwp_seq (r_reg ?_)
    refine zE ?_
    refine q_next (pwp_seq ?_)
    rcases o_cond h23 with ⟨hb, h23⟩ | ⟨hb, h23⟩
    · refine zT hb ?_
      refine pwp_skip (q_next (pwp_seq (pwp_block (pwp_seq (r_reg ?_)))))
      refine zR 1 ?_
      obtain ⟨x22, h25, h23⟩ := o_bind h23
      refine zI h25 ?_
      refine zE ?_
      refine q_next (pwp_seq ?_)
      refine r_regd (by kernel_rfl) (by kernel_rfl) ?_
      obtain ⟨b23, h26, h23⟩ := o_bind h23
      refine zR 6 ?_
      refine e_seg 15 118 (.bool b23) ?_ ?_
      · rcases o_cond h26 with ⟨hb, h26⟩ | ⟨hb, h26⟩
        · refine zS 103 hb ?_
          cases h26
          exact zF
        refine zS 103 hb ?_
        obtain ⟨b24, h27, h26⟩ := o_bind h26
        refine zR 3 ?_
        refine f_seg 11 117 (.bool b24) ?_ ?_
        · rcases o_cond h27 with ⟨hb, h27⟩ | ⟨hb, h27⟩
          · refine zS 106 hb ?_
            refine zR 4 ?_
            obtain ⟨x25, h28, h27⟩ := o_bind h27
            refine zI h28 ?_
            cases h27
            exact zF
          refine zS 106 hb ?_
          cases h27
          exact zF
        cases h26
        exact zF
      refine zN ?_
      refine q_next ?_
      rcases o_cond h23 with ⟨hb, h23⟩ | ⟨hb, h23⟩
      · refine zT hb ?_
        refine pwp_seq (r_reg ?_)
        refine zE ?_
        refine q_next (pwp_ret (q_block_ret (q_seq_ret ?_)))
        cases h23
        refine q_lout_ret fun he => ?_
        subst he
        have h29 := o_outr h
        refine q_block_ret (q_seq_ret ?_)
        cases h29
        exact zQ
      refine zU hb ?_
      refine pwp_skip (q_block (q_next (r_reg ?_)))
      refine zE ?_
      cases h23
      exact zB
    refine zU hb ?_
    refine pwp_exit (q_seq_exit ?_)
    cases h23
    exact zX
  rintro _ s' rfl hs
  have h := o_outl h
  refine q_block_hit ?_
  refine q_next (pwp_wkr hs ?_)
  refine pwp_seq ?_
  refine r_regd (by kernel_rfl) (by kernel_rfl) ?_
  refine zR 7 ?_
  obtain ⟨r26, h30, h⟩ := o_bind h
  refine p_call (d_profile_Of_ok _ _ _ r26 h30) (by kernel_rfl) (by kernel_rfl) ?_
  obtain ⟨r27, h31, h⟩ := o_bind h
  refine p_call (d_law45_below_ok _ _ r27 h31) (by kernel_rfl) (by kernel_rfl) ?_
  obtain ⟨b28, h32, h⟩ := o_bind h
  refine zR 1 ?_
  refine e_seg 2 131 (.bool b28) ?_ ?_
  · rcases o_cond h32 with ⟨hb, h32⟩ | ⟨hb, h32⟩
    · refine zS 129 hb ?_
      obtain ⟨r29, h33, h32⟩ := o_bind h32
      refine p_call (d_law45_alive_ok  r29 h33) (by kernel_rfl) (by kernel_rfl) ?_
      cases h32
      exact zF
    refine zS 129 hb ?_
    cases h32
    exact zF
  refine zE ?_
  refine q_next (pwp_ret ?_)
  cases h
  exact zQ

/-! signallinglaw45.AuthorityRestricts -/
noncomputable def d_law45_AuthorityRestricts_0 (a0 : T_api_Layout) (x6 : (List T_api_Restriction)) : Int → Option (Int ⊕ (Unit ⊕ Bool)) := fun x10 =>
  bif decide (x10 < ((x6.length : Nat) : Int)) then (
    (ixO x6 x10).bind fun x14 =>
    (d_ref43_Check a0 x14).bind fun r15 =>
    bif (!(decide (r15 = 0))) then (
      (d_law45_alive ).bind fun r16 =>
      some (.inr (.inr r16))
    ) else (
      some (.inl (w64 (x10 + 1)))
    )
  ) else (
    some (.inr (.inl ()))
  )

noncomputable def d_law45_AuthorityRestricts_1 (r17 : (T_api_Authority × Int)) (r18 : (T_api_Authority × Int)) : Int → Option (Int ⊕ (Unit ⊕ Bool)) := fun x23 =>
  bif decide (x23 < ((r17.1.Links.length : Nat) : Int)) then (
    (ixO r17.1.Links x23).bind fun x26 =>
    (ixO r18.1.Links x23).bind fun x27 =>
    bif (!(eq_T_api_Linked x26 x27)) then (
      some (.inr (.inr false))
    ) else (
      some (.inl (w64 (x23 + 1)))
    )
  ) else (
    some (.inr (.inl ()))
  )

noncomputable def d_law45_AuthorityRestricts (a0 : T_api_Layout) (a1 : T_api_Track) (a2 : (List T_api_Restriction)) (a3 : T_api_Restriction) (a4 : Int) : Option Bool :=
  (d_law45_modest a1 a2).bind fun r1 =>
  ((bif (!r1) then some true else (
    (d_law45_fine a0 a1).bind fun r3 =>
    some (!r3)
  )) : Option Bool).bind fun b2 =>
  bif b2 then (
    (d_law45_alive ).bind fun r4 =>
    some r4
  ) else (
    (appO ([] : (List T_api_Restriction)) a2).bind fun x5 =>
    (appO x5 [a3]).bind fun x6 =>
    onInl (α := Unit) (β := Bool) (loopO (d_law45_AuthorityRestricts_0 a0 x6) 0) fun _ =>
    (d_authority_Build a0 a1 a2 a4).bind fun r17 =>
    (d_authority_Build a0 a1 x6 a4).bind fun r18 =>
    bif ((!(decide (r17.2 = 0))) || (!(decide (r18.2 = 0)))) then (
      (d_law45_alive ).bind fun r19 =>
      some r19
    ) else (
      ((bif (!(decide (r17.1.End = r18.1.End))) then some true else (
        some (!(decide (((r17.1.Links.length : Nat) : Int) = ((r18.1.Links.length : Nat) : Int))))
      )) : Option Bool).bind fun b20 =>
      bif b20 then (
        some false
      ) else (
        onInl (α := Unit) (β := Bool) (loopO (d_law45_AuthorityRestricts_1 r17 r18) 0) fun _ =>
        (d_law45_below r18.1.Profile r17.1.Profile).bind fun r28 =>
        ((bif r28 then (
          (d_law45_alive ).bind fun r30 =>
          some r30
        ) else some false) : Option Bool).bind fun b29 =>
        some b29
      )
    )
  )
theorem d_law45_AuthorityRestricts_ok (a0 : T_api_Layout) (a1 : T_api_Track) (a2 : (List T_api_Restriction)) (a3 : T_api_Restriction) (a4 : Int) (r : Bool) (h : d_law45_AuthorityRestricts a0 a1 a2 a3 a4 = some r) : PCall Go.Proofs.Tryd.prog GlS 5 [Enc.pv a0, Enc.pv a1, Enc.pv a2, Enc.pv a3, Enc.pv a4] (Enc.pv r) := by
  unfold d_law45_AuthorityRestricts at h
  refine pcall_of_pwp Go.Proofs.Tryd.func5 (by rfl) rfl Go.Proofs.Tryd.ntmps5 (by rfl) rfl ?_
  refine pwp_seq (r_reg ?_)
  refine zE ?_
  refine q_next (pwp_seq (pwp_seq (r_reg ?_)))
  refine zR 2 ?_
  obtain ⟨r1, h1, h⟩ := o_bind h
  refine p_call (d_law45_modest_ok _ _ r1 h1) (by kernel_rfl) (by kernel_rfl) ?_
  obtain ⟨b2, h2, h⟩ := o_bind h
  refine zR 2 ?_
  refine e_seg 5 28 (.bool b2) ?_ ?_
  · rcases o_cond h2 with ⟨hb, h2⟩ | ⟨hb, h2⟩
    · refine zS 23 hb ?_
      cases h2
      exact zF
    refine zS 23 hb ?_
    refine zR 2 ?_
    obtain ⟨r3, h3, h2⟩ := o_bind h2
    refine p_call (d_law45_fine_ok _ _ r3 h3) (by kernel_rfl) (by kernel_rfl) ?_
    cases h2
    exact zF
  refine zN ?_
  refine q_next ?_
  rcases o_cond h with ⟨hb, h⟩ | ⟨hb, h⟩
  · refine zT hb ?_
    refine pwp_seq (r_reg ?_)
    obtain ⟨r4, h4, h⟩ := o_bind h
    refine p_call (d_law45_alive_ok  r4 h4) (by kernel_rfl) (by kernel_rfl) ?_
    refine zE ?_
    refine q_next (pwp_ret (q_seq_ret ?_))
    cases h
    exact zQ
  refine zU hb ?_
  refine pwp_skip (q_next (pwp_seq ?_))
  refine r_regd (by kernel_rfl) (by kernel_rfl) ?_
  refine zR 2 ?_
  obtain ⟨x5, h5, h⟩ := o_bind h
  refine p_appn (tk := 32) h5 (by kernel_rfl) ?_
  refine zR 2 ?_
  obtain ⟨x6, h6, h⟩ := o_bind h
  refine p_app (tk := 32) h6 (by kernel_rfl) (by kernel_rfl) ?_
  refine zE ?_
  refine q_next (pwp_seq (pwp_seq (r_reg ?_)))
  refine zR 1 ?_
  refine p_len (L := (x6 : (List T_api_Restriction))) (by kernel_rfl) ?_
  refine zE ?_
  refine q_next (pwp_block ?_)
  obtain ⟨o16, h16, h⟩ := o_inl h
  refine r_loop2 111 0 (fun x10 => ⟨[(2, lstOf .frozen (a2 : (List T_api_Restriction))), (4, .int .i64 a4), (5, .ref 5 0), (6, .ref 6 0), (11, lstOf (.own 32) (x6 : (List T_api_Restriction))), (36, lstOf (.own 32) (x6 : (List T_api_Restriction))), (37, .int .i64 ((x6.length : Nat) : Int)), (38, .int .i64 x10)], [(5, .cells (cellsOf a0)), (6, .cells (cellsOf a1))], [(32, (((x6).map cellsOf).length, 6))], []⟩) (fun (_ : Unit) => ⟨[(2, lstOf .frozen (a2 : (List T_api_Restriction))), (4, .int .i64 a4), (5, .ref 5 0), (6, .ref 6 0), (11, lstOf (.own 32) (x6 : (List T_api_Restriction)))], [(5, .cells (cellsOf a0)), (6, .cells (cellsOf a1))], [(32, (((x6).map cellsOf).length, 6))], []⟩) h16 (by kernel_rfl) (fun _ => by kernel_rfl) ?_ ?_
  · rintro x10 oh15 h15
    unfold d_law45_AuthorityRestricts_0 at h15
    refine pwp_seq (r_reg ?_)
    refine zE ?_
    refine q_next (pwp_seq ?_)
    rcases o_cond h15 with ⟨hb, h15⟩ | ⟨hb, h15⟩
    · refine zT hb ?_
      refine pwp_skip (q_next (pwp_seq (pwp_block (pwp_seq (r_reg ?_)))))
      obtain ⟨x14, h17, h15⟩ := o_bind h15
      refine zI h17 ?_
      refine zE ?_
      refine q_next (pwp_seq (r_reg ?_))
      refine zR 2 ?_
      obtain ⟨r15, h18, h15⟩ := o_bind h15
      refine p_call (d_ref43_Check_ok _ _ r15 h18) (by kernel_rfl) (by kernel_rfl) ?_
      refine zE ?_
      refine q_next ?_
      rcases o_cond h15 with ⟨hb, h15⟩ | ⟨hb, h15⟩
      · refine zT hb ?_
        refine pwp_seq (r_reg ?_)
        obtain ⟨r16, h19, h15⟩ := o_bind h15
        refine p_call (d_law45_alive_ok  r16 h19) (by kernel_rfl) (by kernel_rfl) ?_
        refine zE ?_
        refine q_next (pwp_ret (q_block_ret (q_seq_ret ?_)))
        cases h15
        refine q_lout_ret fun he => ?_
        subst he
        have h20 := o_outr h
        refine q_block_ret (q_seq_ret ?_)
        cases h20
        exact zQ
      refine zU hb ?_
      refine pwp_skip (q_block (q_next (r_reg ?_)))
      refine zE ?_
      cases h15
      exact zB
    refine zU hb ?_
    refine pwp_exit (q_seq_exit ?_)
    cases h15
    exact zX
  rintro _ s' rfl hs
  have h := o_outl h
  refine q_block_hit ?_
  refine q_next (pwp_wkr hs ?_)
  refine pwp_seq (r_reg ?_)
  refine zR 4 ?_
  obtain ⟨r17, h21, h⟩ := o_bind h
  refine p_call (d_authority_Build_ok _ _ _ _ r17 h21) (by kernel_rfl) (by kernel_rfl) ?_
  refine zE ?_
  refine q_next (pwp_seq (r_reg ?_))
  refine zR 4 ?_
  obtain ⟨r18, h22, h⟩ := o_bind h
  refine p_call (d_authority_Build_ok _ _ _ _ r18 h22) (by kernel_rfl) (by kernel_rfl) ?_
  refine zE ?_
  refine q_next (pwp_seq (pwp_seq (r_reg ?_)))
  refine zR 3 ?_
  refine e_segb 3 69 ((!(decide (r17.2 = 0))) || (!(decide (r18.2 = 0)))) (fun x hx => ?_) ?_
  · rcases b_or hx with ⟨hb, hx⟩ | ⟨hb, hx⟩
    · refine zS 66 hb ?_
      subst hx
      exact zF
    refine zS 66 hb ?_
    subst hx
    exact zF
  refine zN ?_
  refine q_next ?_
  rcases o_cond h with ⟨hb, h⟩ | ⟨hb, h⟩
  · refine zT hb ?_
    refine pwp_seq (r_reg ?_)
    obtain ⟨r19, h23, h⟩ := o_bind h
    refine p_call (d_law45_alive_ok  r19 h23) (by kernel_rfl) (by kernel_rfl) ?_
    refine zE ?_
    refine q_next (pwp_ret (q_seq_ret ?_))
    cases h
    exact zQ
  refine zU hb ?_
  refine pwp_skip (q_next (pwp_seq (pwp_seq (r_reg ?_))))
  obtain ⟨b20, h24, h⟩ := o_bind h
  refine zR 6 ?_
  refine e_seg 8 84 (.bool b20) ?_ ?_
  · rcases o_cond h24 with ⟨hb, h24⟩ | ⟨hb, h24⟩
    · refine zS 76 hb ?_
      cases h24
      exact zF
    refine zS 76 hb ?_
    refine zR 2 ?_
    refine p_len (L := (r17.1.Links : (List T_api_Linked))) (by kernel_rfl) ?_
    refine zR 2 ?_
    refine p_len (L := (r18.1.Links : (List T_api_Linked))) (by kernel_rfl) ?_
    cases h24
    exact zF
  refine zN ?_
  refine q_next ?_
  rcases o_cond h with ⟨hb, h⟩ | ⟨hb, h⟩
  · refine zT hb ?_
    refine pwp_seq (r_reg ?_)
    refine zE ?_
    refine q_next (pwp_ret (q_seq_ret ?_))
    cases h
    exact zQ
  refine zU hb ?_
  refine pwp_skip (q_next (pwp_seq (pwp_seq (r_reg ?_))))
  refine zR 2 ?_
  refine p_len (L := (r17.1.Links : (List T_api_Linked))) (by kernel_rfl) ?_
  refine zE ?_
  refine q_next (pwp_block ?_)
  obtain ⟨o32, h32, h⟩ := o_inl h
  refine r_loop2 111 2 (fun x23 => ⟨[(14, .ref 14 0), (16, .ref 16 0), (87, .int .i64 ((r17.1.Links.length : Nat) : Int)), (88, .int .i64 x23)], [(14, .cells (cellsOf r17.1)), (16, .cells (cellsOf r18.1))], [], []⟩) (fun (_ : Unit) => ⟨[(14, .ref 14 0), (16, .ref 16 0)], [(14, .cells (cellsOf r17.1)), (16, .cells (cellsOf r18.1))], [], []⟩) h32 (by kernel_rfl) (fun _ => by kernel_rfl) ?_ ?_
  · rintro x23 oh31 h31
    unfold d_law45_AuthorityRestricts_1 at h31
    refine pwp_seq (r_reg ?_)
    refine zE ?_
    refine q_next (pwp_seq ?_)
    rcases o_cond h31 with ⟨hb, h31⟩ | ⟨hb, h31⟩
    · refine zT hb ?_
      refine pwp_skip (q_next (pwp_seq (pwp_block (pwp_seq (r_reg ?_)))))
      refine zE ?_
      refine q_next (pwp_seq ?_)
      refine r_regd (by kernel_rfl) (by kernel_rfl) ?_
      refine zR 3 ?_
      obtain ⟨x26, h33, h31⟩ := o_bind h31
      refine zI h33 ?_
      refine zR 4 ?_
      obtain ⟨x27, h34, h31⟩ := o_bind h31
      refine zI h34 ?_
      refine zE ?_
      refine q_next ?_
      rcases o_cond h31 with ⟨hb, h31⟩ | ⟨hb, h31⟩
      · refine zT hb ?_
        refine pwp_seq (r_reg ?_)
        refine zE ?_
        refine q_next (pwp_ret (q_block_ret (q_seq_ret ?_)))
        cases h31
        refine q_lout_ret fun he => ?_
        subst he
        have h35 := o_outr h
        refine q_block_ret (q_seq_ret ?_)
        cases h35
        exact zQ
      refine zU hb ?_
      refine pwp_skip (q_block (q_next (r_reg ?_)))
      refine zE ?_
      cases h31
      exact zB
    refine zU hb ?_
    refine pwp_exit (q_seq_exit ?_)
    cases h31
    exact zX
  rintro _ s' rfl hs
  have h := o_outl h
  refine q_block_hit ?_
  refine q_next (pwp_wkr hs ?_)
  refine pwp_seq (r_reg ?_)
  refine zR 4 ?_
  obtain ⟨r28, h36, h⟩ := o_bind h
  refine p_call (d_law45_below_ok _ _ r28 h36) (by kernel_rfl) (by kernel_rfl) ?_
  obtain ⟨b29, h37, h⟩ := o_bind h
  refine zR 1 ?_
  refine e_seg 2 110 (.bool b29) ?_ ?_
  · rcases o_cond h37 with ⟨hb, h37⟩ | ⟨hb, h37⟩
    · refine zS 108 hb ?_
      obtain ⟨r30, h38, h37⟩ := o_bind h37
      refine p_call (d_law45_alive_ok  r30 h38) (by kernel_rfl) (by kernel_rfl) ?_
      cases h37
      exact zF
    refine zS 108 hb ?_
    cases h37
    exact zF
  refine zE ?_
  refine q_next (pwp_ret ?_)
  cases h
  exact zQ

end PM
