/-
  Plain functions for the program's functions, and the proofs that the program does them. Printed by den.py.
-/
import Derived.Test.YtoknlpdkocemfaaGreatDoorDen0
namespace PM
open Go Go.RowKit
attribute [local irreducible] pops pwp

/-! signallingref09.Sections -/
noncomputable def d_ref09_Sections_0 (a0 : T_api_Layout) (a1 : (List T_api_Step)) : (Int × (List Int)) → Option ((Int × (List Int)) ⊕ ((List Int) ⊕ (List Int))) := fun (x40, x41) =>
  bif decide (x40 < ((a1.length : Nat) : Int)) then (
    onInl (α := (List Int)) (β := ((Int × (List Int)) ⊕ ((List Int) ⊕ (List Int)))) (
      (ixO a1 x40).bind fun x72 =>
      (d_ref09_exists a0 x72.El).bind fun r73 =>
      ((bif r73 then (
        (ixO a1 x40).bind fun x75 =>
        (ixO a0.Elements x75.El).bind fun x76 =>
        (d_ref09_has x41 x76.Section).bind fun r77 =>
        some (!r77)
      ) else some false) : Option Bool).bind fun b74 =>
      bif b74 then (
        (ixO a1 x40).bind fun x78 =>
        (ixO a0.Elements x78.El).bind fun x79 =>
        (appO x41 [x79.Section]).bind fun x80 =>
        some (.inl x80)
      ) else (
        some (.inl x41)
      )
    ) fun x71 =>
    some (.inl (w64 (x40 + 1), x71))
  ) else (
    some (.inr (.inl x41))
  )

noncomputable def d_ref09_Sections (a0 : T_api_Layout) (a1 : (List T_api_Step)) : Option (List Int) :=
  onInl (α := (List Int)) (β := (List Int)) (loopO (d_ref09_Sections_0 a0 a1) (0, ([] : (List Int)))) fun x61 =>
  some x61
theorem d_ref09_Sections_ok (a0 : T_api_Layout) (a1 : (List T_api_Step)) (r : (List Int)) (h : d_ref09_Sections a0 a1 = some r) : PCall Go.Proofs.Tryz.prog GlS 84 [Enc.pv a0, Enc.pv a1] (lstOf (.own 100005) r) := by
  unfold d_ref09_Sections at h
  refine pcall_of_pwp Go.Proofs.Tryz.func84 (by rfl) rfl Go.Proofs.Tryz.ntmps84 (by rfl) rfl ?_
  refine pwp_seq (r_reg ?_)
  refine zE ?_
  refine q_next (pwp_seq (r_reg ?_))
  refine zE ?_
  refine q_next (pwp_seq (pwp_seq (r_reg ?_)))
  refine zE ?_
  refine q_next (pwp_block ?_)
  refine g_nil 5 100005 1 8 (by kernel_rfl) (by kernel_rfl) ?_
  obtain ⟨o59, h59, h⟩ := o_inl h
  refine r_loop2 49 0 (fun (x40, x41) => ⟨[(1, lstOf .frozen (a1 : (List T_api_Step))), (2, .ref 2 0), (5, lstOf (.own 100005) (x41 : (List Int))), (6, .int .i64 x40)], [(2, .cells (cellsOf a0))], [(100005, (((x41).map cellsOf).length, 1))], []⟩) (fun x61 => ⟨[(5, lstOf (.own 100005) (x61 : (List Int)))], [], [(100005, (((x61).map cellsOf).length, 1))], []⟩) h59 (by kernel_rfl) (fun _ => by kernel_rfl) ?_ ?_
  · rintro ⟨x40, x41⟩ oh58 h58
    unfold d_ref09_Sections_0 at h58
    refine pwp_seq (pwp_seq (r_reg ?_))
    refine zR 2 ?_
    refine p_len (L := (a1 : (List T_api_Step))) (by kernel_rfl) ?_
    refine zE ?_
    refine q_next ?_
    rcases o_cond h58 with ⟨hb, h58⟩ | ⟨hb, h58⟩
    · refine zT hb ?_
      refine pwp_skip (q_next ?_)
      obtain ⟨o69, h69, h58⟩ := o_inl h58
      refine r_join (o := o69) 49 (fun x71 => ⟨[(1, lstOf .frozen (a1 : (List T_api_Step))), (2, .ref 2 0), (5, lstOf (.own 100005) (x71 : (List Int))), (6, .int .i64 x40)], [(2, .cells (cellsOf a0))], [(100005, (((x71).map cellsOf).length, 1))], []⟩) ?_ ?_
      · refine pwp_block (pwp_seq ?_)
        refine r_regd (by kernel_rfl) (by kernel_rfl) ?_
        refine zR 3 ?_
        obtain ⟨x72, h70, h69⟩ := o_bind h69
        refine zI h70 ?_
        refine zR 2 ?_
        obtain ⟨r73, h71, h69⟩ := o_bind h69
        refine p_call (d_ref09_exists_ok _ _ r73 h71) (by kernel_rfl) (by kernel_rfl) ?_
        obtain ⟨b74, h72, h69⟩ := o_bind h69
        refine zR 1 ?_
        refine e_seg 14 34 (.bool b74) ?_ ?_
        · rcases o_cond h72 with ⟨hb, h72⟩ | ⟨hb, h72⟩
          · refine zS 20 hb ?_
            refine zR 5 ?_
            obtain ⟨x75, h73, h72⟩ := o_bind h72
            refine zI h73 ?_
            refine zR 2 ?_
            obtain ⟨x76, h74, h72⟩ := o_bind h72
            refine zI h74 ?_
            refine zR 2 ?_
            obtain ⟨r77, h75, h72⟩ := o_bind h72
            refine p_call (d_ref09_has_ok _ _ r77 h75) (by kernel_rfl) (by kernel_rfl) ?_
            cases h72
            exact zF
          refine zS 20 hb ?_
          cases h72
          exact zF
        refine zN ?_
        refine q_next ?_
        rcases o_cond h69 with ⟨hb, h69⟩ | ⟨hb, h69⟩
        · refine zT hb ?_
          refine r_regd (by kernel_rfl) (by kernel_rfl) ?_
          refine zR 5 ?_
          obtain ⟨x78, h76, h69⟩ := o_bind h69
          refine zI h76 ?_
          refine zR 2 ?_
          obtain ⟨x79, h77, h69⟩ := o_bind h69
          refine zI h77 ?_
          refine zR 3 ?_
          obtain ⟨x80, h78, h69⟩ := o_bind h69
          refine p_app (tk := 100005) h78 (by kernel_rfl) (by kernel_rfl) ?_
          refine zE ?_
          refine q_block ?_
          cases h69
          exact zJ
        refine zU hb ?_
        refine pwp_skip (q_block ?_)
        cases h69
        exact zJ
      rintro x71 rfl
      have h58 := o_outl h58
      refine r_reg ?_
      refine zE ?_
      cases h58
      exact zB
    refine zU hb ?_
    refine pwp_exit (q_seq_exit ?_)
    cases h58
    exact zX
  rintro x61 s' rfl hs
  have h := o_outl h
  refine q_block_hit ?_
  refine q_next (pwp_wkr hs ?_)
  refine pwp_seq (r_reg ?_)
  refine zE ?_
  refine q_next (pwp_ret ?_)
  cases h
  exact zQ
theorem d_ref09_Sections_fz (a0 : T_api_Layout) (a1 : (List T_api_Step)) (r : (List Int)) (h : d_ref09_Sections a0 a1 = some r) : PCall Go.Proofs.Tryz.prog GlS 84 [Enc.pv a0, Enc.pv a1] (Enc.pv r) :=
  (d_ref09_Sections_ok a0 a1 r h).freeze (by kernel_rfl) (by kernel_rfl) (by kernel_rfl)

/-! signallingref12.Fits -/
noncomputable def d_ref12_Fits_0 (a0 : T_api_Layout) (a2 : (List T_api_Step)) : (Int × Int) → Option ((Int × Int) ⊕ (Int ⊕ Bool)) := fun (x17, x18) =>
  bif decide (x18 < ((a2.length : Nat) : Int)) then (
    onInl (α := Int) (β := ((Int × Int) ⊕ (Int ⊕ Bool))) (
      (ixO a2 x18).bind fun x34 =>
      (d_ref07_Section a0 x34.El).bind fun r35 =>
      (ixO a2 (w64 (x18 - 1))).bind fun x36 =>
      (d_ref07_Section a0 x36.El).bind fun r37 =>
      bif (!(decide (r35 = r37))) then (
        some (.inl (w64 (x17 + 1)))
      ) else (
        some (.inl x17)
      )
    ) fun x33 =>
    some (.inl (x33, w64 (x18 + 1)))
  ) else (
    some (.inr (.inl x17))
  )

noncomputable def d_ref12_Fits (a0 : T_api_Layout) (a1 : T_api_End) (a2 : (List T_api_Step)) : Option Bool :=
  ((bif decide (((a2.length : Nat) : Int) = 0) then some true else (
    some (decide (12 < ((a2.length : Nat) : Int)))
  )) : Option Bool).bind fun b1 =>
  ((bif b1 then some true else (
    (ixO a2 0).bind fun x3 =>
    some (!(decide (x3.El = a1.El)))
  )) : Option Bool).bind fun b2 =>
  ((bif b2 then some true else (
    (ixO a2 0).bind fun x5 =>
    some (!(decide (x5.In = a1.Side)))
  )) : Option Bool).bind fun b4 =>
  ((bif b4 then some true else (
    (d_ref09_Valid a0 a2).bind fun r7 =>
    some (!r7)
  )) : Option Bool).bind fun b6 =>
  bif b6 then (
    some false
  ) else (
    onInl (α := Int) (β := Bool) (loopO (d_ref12_Fits_0 a0 a2) (1, 1)) fun x28 =>
    (d_ref09_Sections a0 a2).bind fun r38 =>
    some (decide (x28 = ((r38.length : Nat) : Int)))
  )
theorem d_ref12_Fits_ok (a0 : T_api_Layout) (a1 : T_api_End) (a2 : (List T_api_Step)) (r : Bool) (h : d_ref12_Fits a0 a1 a2 = some r) : PCall Go.Proofs.Tryz.prog GlS 127 [Enc.pv a0, Enc.pv a1, Enc.pv a2] (Enc.pv r) := by
  unfold d_ref12_Fits at h
  refine pcall_of_pwp Go.Proofs.Tryz.func127 (by rfl) rfl Go.Proofs.Tryz.ntmps127 (by rfl) rfl ?_
  refine pwp_seq (r_reg ?_)
  refine zE ?_
  refine q_next (pwp_seq (pwp_seq ?_))
  refine r_regd (by kernel_rfl) (by kernel_rfl) ?_
  refine zR 1 ?_
  refine p_len (L := (a2 : (List T_api_Step))) (by kernel_rfl) ?_
  obtain ⟨b1, h1, h⟩ := o_bind h
  refine zR 2 ?_
  refine e_seg 4 16 (.bool b1) ?_ ?_
  · rcases o_cond h1 with ⟨hb, h1⟩ | ⟨hb, h1⟩
    · refine zS 12 hb ?_
      cases h1
      exact zF
    refine zS 12 hb ?_
    refine zR 1 ?_
    refine p_len (L := (a2 : (List T_api_Step))) (by kernel_rfl) ?_
    cases h1
    exact zF
  obtain ⟨b2, h2, h⟩ := o_bind h
  refine zR 1 ?_
  refine e_seg 8 25 (.bool b2) ?_ ?_
  · rcases o_cond h2 with ⟨hb, h2⟩ | ⟨hb, h2⟩
    · refine zS 17 hb ?_
      cases h2
      exact zF
    refine zS 17 hb ?_
    refine zR 1 ?_
    obtain ⟨x3, h3, h2⟩ := o_bind h2
    refine zI h3 ?_
    cases h2
    exact zF
  obtain ⟨b4, h4, h⟩ := o_bind h
  refine zR 1 ?_
  refine e_seg 8 34 (.bool b4) ?_ ?_
  · rcases o_cond h4 with ⟨hb, h4⟩ | ⟨hb, h4⟩
    · refine zS 26 hb ?_
      cases h4
      exact zF
    refine zS 26 hb ?_
    refine zR 1 ?_
    obtain ⟨x5, h5, h4⟩ := o_bind h4
    refine zI h5 ?_
    cases h4
    exact zF
  obtain ⟨b6, h6, h⟩ := o_bind h
  refine zR 1 ?_
  refine e_seg 5 40 (.bool b6) ?_ ?_
  · rcases o_cond h6 with ⟨hb, h6⟩ | ⟨hb, h6⟩
    · refine zS 35 hb ?_
      cases h6
      exact zF
    refine zS 35 hb ?_
    refine zR 2 ?_
    obtain ⟨r7, h7, h6⟩ := o_bind h6
    refine p_call (d_ref09_Valid_ok _ _ r7 h7) (by kernel_rfl) (by kernel_rfl) ?_
    cases h6
    exact zF
  refine zN ?_
  refine q_next ?_
  rcases o_cond h with ⟨hb, h⟩ | ⟨hb, h⟩
  · refine zT hb ?_
    refine pwp_seq (r_reg ?_)
    refine zE ?_
    refine q_next (pwp_ret (q_seq_ret ?_))
    cases h
    exact zQ
  refine zU hb ?_
  refine pwp_skip (q_next (pwp_seq (r_reg ?_)))
  refine zE ?_
  refine q_next (pwp_seq (pwp_seq (r_reg ?_)))
  refine zE ?_
  refine q_next (pwp_block ?_)
  obtain ⟨o27, h27, h⟩ := o_inl h
  refine r_loop2 71 0 (fun (x17, x18) => ⟨[(2, lstOf .frozen (a2 : (List T_api_Step))), (3, .ref 3 0), (7, .int .i64 x17), (8, .int .i64 x18)], [(3, .cells (cellsOf a0))], [], []⟩) (fun x28 => ⟨[(2, lstOf .frozen (a2 : (List T_api_Step))), (3, .ref 3 0), (7, .int .i64 x28)], [(3, .cells (cellsOf a0))], [], []⟩) h27 (by kernel_rfl) (fun _ => by kernel_rfl) ?_ ?_
  · rintro ⟨x17, x18⟩ oh26 h26
    unfold d_ref12_Fits_0 at h26
    refine pwp_seq (pwp_seq (r_reg ?_))
    refine zR 2 ?_
    refine p_len (L := (a2 : (List T_api_Step))) (by kernel_rfl) ?_
    refine zE ?_
    refine q_next ?_
    rcases o_cond h26 with ⟨hb, h26⟩ | ⟨hb, h26⟩
    · refine zT hb ?_
      refine pwp_skip (q_next ?_)
      obtain ⟨o32, h32, h26⟩ := o_inl h26
      refine r_join (o := o32) 71 (fun x33 => ⟨[(2, lstOf .frozen (a2 : (List T_api_Step))), (3, .ref 3 0), (7, .int .i64 x33), (8, .int .i64 x18)], [(3, .cells (cellsOf a0))], [], []⟩) ?_ ?_
      · refine pwp_block (pwp_seq ?_)
        refine r_regd (by kernel_rfl) (by kernel_rfl) ?_
        refine zR 3 ?_
        obtain ⟨x34, h33, h32⟩ := o_bind h32
        refine zI h33 ?_
        refine zR 2 ?_
        obtain ⟨r35, h34, h32⟩ := o_bind h32
        refine p_call (d_ref07_Section_ok _ _ r35 h34) (by kernel_rfl) (by kernel_rfl) ?_
        refine zR 4 ?_
        obtain ⟨x36, h35, h32⟩ := o_bind h32
        refine zI h35 ?_
        refine zR 2 ?_
        obtain ⟨r37, h36, h32⟩ := o_bind h32
        refine p_call (d_ref07_Section_ok _ _ r37 h36) (by kernel_rfl) (by kernel_rfl) ?_
        refine zE ?_
        refine q_next ?_
        rcases o_cond h32 with ⟨hb, h32⟩ | ⟨hb, h32⟩
        · refine zT hb ?_
          refine r_reg ?_
          refine zE ?_
          refine q_block ?_
          cases h32
          exact zJ
        refine zU hb ?_
        refine pwp_skip (q_block ?_)
        cases h32
        exact zJ
      rintro x33 rfl
      have h26 := o_outl h26
      refine r_reg ?_
      refine zE ?_
      cases h26
      exact zB
    refine zU hb ?_
    refine pwp_exit (q_seq_exit ?_)
    cases h26
    exact zX
  rintro x28 s' rfl hs
  have h := o_outl h
  refine q_block_hit ?_
  refine q_next (pwp_wkr hs ?_)
  refine pwp_seq (r_reg ?_)
  refine zR 3 ?_
  obtain ⟨r38, h37, h⟩ := o_bind h
  refine p_call (d_ref09_Sections_ok _ _ r38 h37) (by kernel_rfl) (by kernel_rfl) ?_
  refine p_len (L := (r38 : (List Int))) (by kernel_rfl) ?_
  refine zE ?_
  refine q_next (pwp_ret ?_)
  cases h
  exact zQ

/-! signallingref07.Signal -/
noncomputable def d_ref07_Signal_0 (a0 : T_api_Layout) (a1 : T_api_End) : Int → Option (Int ⊕ (Unit ⊕ Int)) := fun x2 =>
  bif decide (x2 < ((a0.Signals.length : Nat) : Int)) then (
    (ixO a0.Signals x2).bind fun x4 =>
    bif eq_T_api_End x4.At a1 then (
      some (.inr (.inr x2))
    ) else (
      some (.inl (w64 (x2 + 1)))
    )
  ) else (
    some (.inr (.inl ()))
  )

noncomputable def d_ref07_Signal (a0 : T_api_Layout) (a1 : T_api_End) : Option Int :=
  onInl (α := Unit) (β := Int) (loopO (d_ref07_Signal_0 a0 a1) 0) fun _ =>
  some (-1)
theorem d_ref07_Signal_ok (a0 : T_api_Layout) (a1 : T_api_End) (r : Int) (h : d_ref07_Signal a0 a1 = some r) : PCall Go.Proofs.Tryz.prog GlS 30 [Enc.pv a0, Enc.pv a1] (Enc.pv r) := by
  unfold d_ref07_Signal at h
  refine pcall_of_pwp Go.Proofs.Tryz.func30 (by rfl) rfl Go.Proofs.Tryz.ntmps30 (by rfl) rfl ?_
  refine pwp_seq (r_reg ?_)
  refine zE ?_
  refine q_next (pwp_seq (pwp_seq (r_reg ?_)))
  refine zR 2 ?_
  refine p_len (L := (a0.Signals : (List T_api_Signal))) (by kernel_rfl) ?_
  refine zE ?_
  refine q_next (pwp_block ?_)
  obtain ⟨o6, h6, h⟩ := o_inl h
  refine r_loop2 21 0 (fun x2 => ⟨[(3, .ref 3 0), (8, lstOf .frozen (a0.Signals : (List T_api_Signal))), (9, .int .i64 ((a0.Signals.length : Nat) : Int)), (10, .int .i64 x2)], [(3, .cells (cellsOf a1))], [], []⟩) (fun (_ : Unit) => ⟨[], [], [], []⟩) h6 (by kernel_rfl) (fun _ => by kernel_rfl) ?_ ?_
  · rintro x2 oh5 h5
    unfold d_ref07_Signal_0 at h5
    refine pwp_seq (r_reg ?_)
    refine zE ?_
    refine q_next (pwp_seq ?_)
    rcases o_cond h5 with ⟨hb, h5⟩ | ⟨hb, h5⟩
    · refine zT hb ?_
      refine pwp_skip (q_next (pwp_seq (pwp_block (pwp_seq (r_reg ?_)))))
      refine zR 1 ?_
      obtain ⟨x4, h7, h5⟩ := o_bind h5
      refine zI h7 ?_
      refine zE ?_
      refine q_next (pwp_seq (r_reg ?_))
      refine zE ?_
      refine q_next ?_
      rcases o_cond h5 with ⟨hb, h5⟩ | ⟨hb, h5⟩
      · refine zT hb ?_
        refine pwp_seq (r_reg ?_)
        refine zE ?_
        refine q_next (pwp_ret (q_block_ret (q_seq_ret ?_)))
        cases h5
        refine q_lout_ret fun he => ?_
        subst he
        have h8 := o_outr h
        refine q_block_ret (q_seq_ret ?_)
        cases h8
        exact zQ
      refine zU hb ?_
      refine pwp_skip (q_block (q_next (r_reg ?_)))
      refine zE ?_
      cases h5
      exact zB
    refine zU hb ?_
    refine pwp_exit (q_seq_exit ?_)
    cases h5
    exact zX
  rintro _ s' rfl hs
  have h := o_outl h
  refine q_block_hit ?_
  refine q_next (pwp_wkr hs ?_)
  refine pwp_seq (r_reg ?_)
  refine zE ?_
  refine q_next (pwp_ret ?_)
  cases h
  exact zQ

/-! signallingref12.Ends -/
noncomputable def d_ref12_Ends (a0 : T_api_Layout) (a1 : T_api_Step) : Option (Int × Bool) :=
  (d_ref07_Signal a0 (T_api_End.mk a1.El a1.Out)).bind fun r1 =>
  (d_ref09_Next a0 a1).bind fun r2 =>
  some (r1, ((decide (0 ≤ r1)) || (!r2.2)))
theorem d_ref12_Ends_ok (a0 : T_api_Layout) (a1 : T_api_Step) (r : (Int × Bool)) (h : d_ref12_Ends a0 a1 = some r) : PCall Go.Proofs.Tryz.prog GlS 107 [Enc.pv a0, Enc.pv a1] (.tup [Enc.pv r.1, Enc.pv r.2]) := by
  unfold d_ref12_Ends at h
  refine pcall_of_pwp Go.Proofs.Tryz.func107 (by rfl) rfl Go.Proofs.Tryz.ntmps107 (by rfl) rfl ?_
  refine pwp_seq (r_reg ?_)
  refine zE ?_
  refine q_next (pwp_seq (r_reg ?_))
  refine zR 6 ?_
  obtain ⟨r1, h1, h⟩ := o_bind h
  refine p_call (d_ref07_Signal_ok _ _ r1 h1) (by kernel_rfl) (by kernel_rfl) ?_
  refine zE ?_
  refine q_next (pwp_seq (r_reg ?_))
  refine zR 2 ?_
  obtain ⟨r2, h2, h⟩ := o_bind h
  refine p_call (d_ref09_Next_ok _ _ r2 h2) (by kernel_rfl) (by kernel_rfl) ?_
  refine zE ?_
  refine q_next (pwp_seq (r_reg ?_))
  refine zR 4 ?_
  refine e_segb 3 28 ((decide (0 ≤ r1)) || (!r2.2)) (fun x hx => ?_) ?_
  · rcases b_or hx with ⟨hb, hx⟩ | ⟨hb, hx⟩
    · refine zS 25 hb ?_
      subst hx
      exact zF
    refine zS 25 hb ?_
    subst hx
    exact zF
  refine zE ?_
  refine q_next (pwp_ret ?_)
  cases h
  exact zQ

/-! (*signallingref12.Paths).search -/
noncomputable def d_ref12_Paths_search_0 (rc_d_ref12_Paths_search : T_signallingref12_Paths → T_api_Layout → T_api_End → T_api_End → (List T_api_Step) → Option T_signallingref12_Paths) (a1 : T_api_Layout) (a2 : T_api_End) (a4 : (List T_api_Step)) (r1 : (List T_api_Step)) : (Int × (List (List T_api_Step))) → Option ((Int × (List (List T_api_Step))) ⊕ ((List (List T_api_Step)) ⊕ T_signallingref12_Paths)) := fun (x23, x24) =>
  bif decide (x23 < ((r1.length : Nat) : Int)) then (
    onInl (α := (List (List T_api_Step))) (β := ((Int × (List (List T_api_Step))) ⊕ ((List (List T_api_Step)) ⊕ T_signallingref12_Paths))) (
      (appO ([] : (List T_api_Step)) a4).bind fun x58 =>
      (ixO r1 x23).bind fun x59 =>
      (appO x58 [x59]).bind fun x60 =>
      (d_ref12_Fits a1 a2 x60).bind fun r61 =>
      bif (!r61) then (
        some (.inl x24)
      ) else (
        (ixO r1 x23).bind fun x62 =>
        (d_ref12_Ends a1 x62).bind fun r63 =>
        bif r63.2 then (
          (appO x24 [x60]).bind fun x64 =>
          some (.inl x64)
        ) else (
          (ixO r1 x23).bind fun x65 =>
          (d_ref09_Next a1 x65).bind fun r66 =>
          (rc_d_ref12_Paths_search (T_signallingref12_Paths.mk x24) a1 a2 r66.1 x60).bind fun r67 =>
          some (.inl r67.L)
        )
      )
    ) fun x57 =>
    some (.inl (w64 (x23 + 1), x57))
  ) else (
    some (.inr (.inl x24))
  )

noncomputable def d_ref12_Paths_search_F (rc_d_ref12_Paths_search : T_signallingref12_Paths → T_api_Layout → T_api_End → T_api_End → (List T_api_Step) → Option T_signallingref12_Paths) (a0 : T_signallingref12_Paths) (a1 : T_api_Layout) (a2 : T_api_End) (a3 : T_api_End) (a4 : (List T_api_Step)) : Option T_signallingref12_Paths :=
  (d_ref09_Branches a1 a3).bind fun r1 =>
  onInl (α := (List (List T_api_Step))) (β := T_signallingref12_Paths) (loopO (d_ref12_Paths_search_0 rc_d_ref12_Paths_search a1 a2 a4 r1) (0, a0.L)) fun x46 =>
  some (T_signallingref12_Paths.mk x46)
theorem d_ref12_Paths_search_F_oc (rc_d_ref12_Paths_search : T_signallingref12_Paths → T_api_Layout → T_api_End → T_api_End → (List T_api_Step) → Option T_signallingref12_Paths) (hrc_d_ref12_Paths_search : ∀ (a0 : T_signallingref12_Paths) (a1 : T_api_Layout) (a2 : T_api_End) (a3 : T_api_End) (a4 : (List T_api_Step)) (r : T_signallingref12_Paths), rc_d_ref12_Paths_search a0 a1 a2 a3 a4 = some r → OCall Go.Proofs.Tryz.prog GlS 106 (some (.cells [.ex 1000000000 1 24 (((a0.L : (List (List T_api_Step))).map cellsOf).length) 0 (((a0.L : (List (List T_api_Step))).map cellsOf).length)])) [(1, 24, (a0.L : (List (List T_api_Step))).map cellsOf)] [.ref 1000000 0, Enc.pv a1, Enc.pv a2, Enc.pv a3, Enc.pv a4] (.tup []) (some (.cells [.ex 1000000000 1 24 (((r.L : (List (List T_api_Step))).map cellsOf).length) 0 (((r.L : (List (List T_api_Step))).map cellsOf).length)])) [(1, 24, (r.L : (List (List T_api_Step))).map cellsOf)]) (a0 : T_signallingref12_Paths) (a1 : T_api_Layout) (a2 : T_api_End) (a3 : T_api_End) (a4 : (List T_api_Step)) (r : T_signallingref12_Paths) (h : d_ref12_Paths_search_F rc_d_ref12_Paths_search a0 a1 a2 a3 a4 = some r) : OCall Go.Proofs.Tryz.prog GlS 106 (some (.cells [.ex 1000000000 1 24 (((a0.L : (List (List T_api_Step))).map cellsOf).length) 0 (((a0.L : (List (List T_api_Step))).map cellsOf).length)])) [(1, 24, (a0.L : (List (List T_api_Step))).map cellsOf)] [.ref 1000000 0, Enc.pv a1, Enc.pv a2, Enc.pv a3, Enc.pv a4] (.tup []) (some (.cells [.ex 1000000000 1 24 (((r.L : (List (List T_api_Step))).map cellsOf).length) 0 (((r.L : (List (List T_api_Step))).map cellsOf).length)])) [(1, 24, (r.L : (List (List T_api_Step))).map cellsOf)] := by
  unfold d_ref12_Paths_search_F at h
  refine ocall_of_pwp Go.Proofs.Tryz.func106 (by rfl) rfl Go.Proofs.Tryz.ntmps106 (by rfl) rfl rfl (of_decide_eq_true rfl) (by kernel_rfl) ?_
  refine pwp_seq (r_reg ?_)
  refine zE ?_
  refine q_next (pwp_seq (r_reg ?_))
  refine zR 2 ?_
  obtain ⟨r1, h1, h⟩ := o_bind h
  refine p_call (d_ref09_Branches_ok _ _ r1 h1) (by kernel_rfl) (by kernel_rfl) ?_
  refine zE ?_
  refine q_next (pwp_seq (r_reg ?_))
  refine zE ?_
  refine q_next (pwp_block ?_)
  obtain ⟨o45, h45, h⟩ := o_inl h
  refine r_loop2 76 0 (fun (x23, x24) => ⟨[(0, .ref 1000000 0), (4, lstOf .frozen (a4 : (List T_api_Step))), (6, .ref 6 0), (7, .ref 7 0), (10, lstOf (.own 119006) (r1 : (List T_api_Step))), (11, .int .i64 x23)], [(6, .cells (cellsOf a1)), (7, .cells (cellsOf a2)), (1000000, .cells ([.ex 1000000000 1 24 (((x24 : (List (List T_api_Step))).map cellsOf).length) 0 (((x24 : (List (List T_api_Step))).map cellsOf).length)]))], [(119006, (((r1).map cellsOf).length, 3)), (1000000000, (((x24 : (List (List T_api_Step))).map cellsOf).length, 0))], [(1000000000, (1, (24, (x24 : (List (List T_api_Step))).map cellsOf)))]⟩) (fun x46 => ⟨[], [(1000000, .cells ([.ex 1000000000 1 24 (((x46 : (List (List T_api_Step))).map cellsOf).length) 0 (((x46 : (List (List T_api_Step))).map cellsOf).length)]))], [(1000000000, (((x46 : (List (List T_api_Step))).map cellsOf).length, 0))], [(1000000000, (1, (24, (x46 : (List (List T_api_Step))).map cellsOf)))]⟩) h45 (by kernel_rfl) (fun _ => by kernel_rfl) ?_ ?_
  · rintro ⟨x23, x24⟩ oh44 h44
    unfold d_ref12_Paths_search_0 at h44
    refine pwp_seq (pwp_seq (r_reg ?_))
    refine zR 2 ?_
    refine p_len (L := (r1 : (List T_api_Step))) (by kernel_rfl) ?_
    refine zE ?_
    refine q_next ?_
    rcases o_cond h44 with ⟨hb, h44⟩ | ⟨hb, h44⟩
    · refine zT hb ?_
      refine pwp_skip (q_next ?_)
      obtain ⟨o56, h56, h44⟩ := o_inl h44
      refine r_join (o := o56) 76 (fun x57 => ⟨[(0, .ref 1000000 0), (4, lstOf .frozen (a4 : (List T_api_Step))), (6, .ref 6 0), (7, .ref 7 0), (10, lstOf (.own 119006) (r1 : (List T_api_Step))), (11, .int .i64 x23)], [(6, .cells (cellsOf a1)), (7, .cells (cellsOf a2)), (1000000, .cells ([.ex 1000000000 1 24 (((x57 : (List (List T_api_Step))).map cellsOf).length) 0 (((x57 : (List (List T_api_Step))).map cellsOf).length)]))], [(119006, (((r1).map cellsOf).length, 3)), (1000000000, (((x57 : (List (List T_api_Step))).map cellsOf).length, 0))], [(1000000000, (1, (24, (x57 : (List (List T_api_Step))).map cellsOf)))]⟩) ?_ ?_
      · refine pwp_block (pwp_seq (r_reg ?_))
        refine zE ?_
        refine q_next (pwp_seq (r_reg ?_))
        refine zR 2 ?_
        obtain ⟨x58, h57, h56⟩ := o_bind h56
        refine p_appn (tk := 28) h57 (by kernel_rfl) ?_
        refine zE ?_
        refine q_next (pwp_seq (r_reg ?_))
        refine zR 3 ?_
        obtain ⟨x59, h58, h56⟩ := o_bind h56
        refine zI h58 ?_
        refine zR 2 ?_
        obtain ⟨x60, h59, h56⟩ := o_bind h56
        refine p_app (tk := 28) h59 (by kernel_rfl) (by kernel_rfl) ?_
        refine zE ?_
        refine q_next (pwp_seq (pwp_seq (r_reg ?_)))
        refine zR 3 ?_
        obtain ⟨r61, h60, h56⟩ := o_bind h56
        refine p_call (d_ref12_Fits_ok _ _ _ r61 h60) (by kernel_rfl) (by kernel_rfl) ?_
        refine zE ?_
        refine q_next ?_
        rcases o_cond h56 with ⟨hb, h56⟩ | ⟨hb, h56⟩
        · refine zT hb ?_
          refine pwp_exit (q_seq_exit (q_block_hit ?_))
          cases h56
          exact zJ
        refine zU hb ?_
        refine pwp_skip (q_next (pwp_seq ?_))
        refine r_regd (by kernel_rfl) (by kernel_rfl) ?_
        refine zR 3 ?_
        obtain ⟨x62, h61, h56⟩ := o_bind h56
        refine zI h61 ?_
        refine zR 1 ?_
        obtain ⟨r63, h62, h56⟩ := o_bind h56
        refine p_call (d_ref12_Ends_ok _ _ r63 h62) (by kernel_rfl) (by kernel_rfl) ?_
        refine zE ?_
        refine q_next (pwp_seq (pwp_seq (r_reg ?_)))
        refine zE ?_
        refine q_next ?_
        rcases o_cond h56 with ⟨hb, h56⟩ | ⟨hb, h56⟩
        · refine zT hb ?_
          refine pwp_seq (r_reg ?_)
          refine zR 7 ?_
          obtain ⟨x64, h63, h56⟩ := o_bind h56
          refine p_xapp (tk := 1000000000) (N := ((x24 : (List (List T_api_Step))).map cellsOf).length) h63 (by kernel_rfl) (by kernel_rfl) (by kernel_rfl) ?_
          refine zE ?_
          refine q_next (pwp_exit (q_seq_exit (q_block_hit ?_)))
          cases h56
          exact zJ
        refine zU hb ?_
        refine pwp_skip (q_next (pwp_seq ?_))
        refine r_regd (by kernel_rfl) (by kernel_rfl) ?_
        refine zR 3 ?_
        obtain ⟨x65, h64, h56⟩ := o_bind h56
        refine zI h64 ?_
        refine zR 1 ?_
        obtain ⟨r66, h65, h56⟩ := o_bind h56
        refine p_call (d_ref09_Next_ok _ _ r66 h65) (by kernel_rfl) (by kernel_rfl) ?_
        refine zE ?_
        refine q_next (r_reg ?_)
        refine zR 5 ?_
        obtain ⟨r67, h66, h56⟩ := o_bind h56
        refine p_ocall (some 1000000) [1000000000] [] none (hrc_d_ref12_Paths_search _ _ _ _ _ r67 h66) (by kernel_rfl) (by kernel_rfl) (by kernel_rfl) (by kernel_rfl) (by kernel_rfl) ?_
        refine zN ?_
        refine q_block ?_
        cases h56
        exact zJ
      rintro x57 rfl
      have h44 := o_outl h44
      refine r_reg ?_
      refine zE ?_
      cases h44
      exact zB
    refine zU hb ?_
    refine pwp_exit (q_seq_exit ?_)
    cases h44
    exact zX
  rintro x46 s' rfl hs
  have h := o_outl h
  refine q_block_hit ?_
  cases h
  exact q_oret_w hs (by kernel_rfl) (by kernel_rfl) (by kernel_rfl)
noncomputable def d_ref12_Paths_search_N (n : Nat) : T_signallingref12_Paths → T_api_Layout → T_api_End → T_api_End → (List T_api_Step) → Option T_signallingref12_Paths := Nat.rec (fun _ _ _ _ _ => none) (fun _ ih => d_ref12_Paths_search_F ih) n
theorem d_ref12_Paths_search_N_oc : ∀ (n : Nat) (a0 : T_signallingref12_Paths) (a1 : T_api_Layout) (a2 : T_api_End) (a3 : T_api_End) (a4 : (List T_api_Step)) (r : T_signallingref12_Paths), d_ref12_Paths_search_N n a0 a1 a2 a3 a4 = some r → OCall Go.Proofs.Tryz.prog GlS 106 (some (.cells [.ex 1000000000 1 24 (((a0.L : (List (List T_api_Step))).map cellsOf).length) 0 (((a0.L : (List (List T_api_Step))).map cellsOf).length)])) [(1, 24, (a0.L : (List (List T_api_Step))).map cellsOf)] [.ref 1000000 0, Enc.pv a1, Enc.pv a2, Enc.pv a3, Enc.pv a4] (.tup []) (some (.cells [.ex 1000000000 1 24 (((r.L : (List (List T_api_Step))).map cellsOf).length) 0 (((r.L : (List (List T_api_Step))).map cellsOf).length)])) [(1, 24, (r.L : (List (List T_api_Step))).map cellsOf)]
  | 0, _, _, _, _, _, _, h => by cases h
  | n + 1, a0, a1, a2, a3, a4, r, h => d_ref12_Paths_search_F_oc (d_ref12_Paths_search_N n) (d_ref12_Paths_search_N_oc n) a0 a1 a2 a3 a4 r h
noncomputable def d_ref12_Paths_search (a0 : T_signallingref12_Paths) (a1 : T_api_Layout) (a2 : T_api_End) (a3 : T_api_End) (a4 : (List T_api_Step)) : Option T_signallingref12_Paths := d_ref12_Paths_search_F (d_ref12_Paths_search_N recFuel) a0 a1 a2 a3 a4
theorem d_ref12_Paths_search_oc (a0 : T_signallingref12_Paths) (a1 : T_api_Layout) (a2 : T_api_End) (a3 : T_api_End) (a4 : (List T_api_Step)) (r : T_signallingref12_Paths) (h : d_ref12_Paths_search a0 a1 a2 a3 a4 = some r) : OCall Go.Proofs.Tryz.prog GlS 106 (some (.cells [.ex 1000000000 1 24 (((a0.L : (List (List T_api_Step))).map cellsOf).length) 0 (((a0.L : (List (List T_api_Step))).map cellsOf).length)])) [(1, 24, (a0.L : (List (List T_api_Step))).map cellsOf)] [.ref 1000000 0, Enc.pv a1, Enc.pv a2, Enc.pv a3, Enc.pv a4] (.tup []) (some (.cells [.ex 1000000000 1 24 (((r.L : (List (List T_api_Step))).map cellsOf).length) 0 (((r.L : (List (List T_api_Step))).map cellsOf).length)])) [(1, 24, (r.L : (List (List T_api_Step))).map cellsOf)] := d_ref12_Paths_search_F_oc (d_ref12_Paths_search_N recFuel) (d_ref12_Paths_search_N_oc recFuel) a0 a1 a2 a3 a4 r h

/-! signallingref12.text -/
noncomputable def d_ref12_text (a0 : T_api_Layout) (a1 : Int) (a2 : Int) : Option ByteArray :=
  bif decide (a2 < 0) then (
    (ixO a0.Signals a1).bind fun x1 =>
    (saddO x1.Name (ByteArray.mk #[45, 101, 110, 100])).bind fun x2 =>
    some x2
  ) else (
    (ixO a0.Signals a1).bind fun x3 =>
    (saddO x3.Name (ByteArray.mk #[45])).bind fun x4 =>
    (ixO a0.Signals a2).bind fun x5 =>
    (saddO x4 x5.Name).bind fun x6 =>
    some x6
  )
theorem d_ref12_text_ok (a0 : T_api_Layout) (a1 : Int) (a2 : Int) (r : ByteArray) (h : d_ref12_text a0 a1 a2 = some r) : PCall Go.Proofs.Tryz.prog GlS 108 [Enc.pv a0, Enc.pv a1, Enc.pv a2] (Enc.pv r) := by
  unfold d_ref12_text at h
  refine pcall_of_pwp Go.Proofs.Tryz.func108 (by rfl) rfl Go.Proofs.Tryz.ntmps108 (by rfl) rfl ?_
  refine pwp_seq (r_reg ?_)
  refine zE ?_
  refine q_next (pwp_seq (pwp_seq (r_reg ?_)))
  refine zE ?_
  refine q_next ?_
  rcases o_cond h with ⟨hb, h⟩ | ⟨hb, h⟩
  · refine zT hb ?_
    refine pwp_seq (r_reg ?_)
    refine zR 3 ?_
    obtain ⟨x1, h1, h⟩ := o_bind h
    refine zI h1 ?_
    refine zR 2 ?_
    obtain ⟨x2, h2, h⟩ := o_bind h
    refine p_sadd h2 (by kernel_rfl) ?_
    refine zE ?_
    refine q_next (pwp_ret (q_seq_ret ?_))
    cases h
    exact zQ
  refine zU hb ?_
  refine pwp_skip (q_next (pwp_seq ?_))
  refine r_regd (by kernel_rfl) (by kernel_rfl) ?_
  refine zR 3 ?_
  obtain ⟨x3, h3, h⟩ := o_bind h
  refine zI h3 ?_
  refine zR 2 ?_
  obtain ⟨x4, h4, h⟩ := o_bind h
  refine p_sadd h4 (by kernel_rfl) ?_
  refine zR 3 ?_
  obtain ⟨x5, h5, h⟩ := o_bind h
  refine zI h5 ?_
  refine zR 2 ?_
  obtain ⟨x6, h6, h⟩ := o_bind h
  refine p_sadd h6 (by kernel_rfl) ?_
  refine zE ?_
  refine q_next (pwp_ret ?_)
  cases h
  exact zQ

/-! signallingref09.insert -/
noncomputable def d_ref09_insert_0 (a0 : (List T_api_Setting)) (a1 : T_api_Setting) : (Int × (List T_api_Setting)) → Option ((Int × (List T_api_Setting)) ⊕ (((List T_api_Setting) × Int) ⊕ (List T_api_Setting))) := fun (x18, x19) =>
  ((bif decide (x18 < ((a0.length : Nat) : Int)) then (
    (ixO a0 x18).bind fun x31 =>
    ((bif decide (x31.El < a1.El) then some true else (
      (ixO a0 x18).bind fun x33 =>
      ((bif decide (x33.El = a1.El) then (
        (ixO a0 x18).bind fun x35 =>
        some (decide (x35.Pos < a1.Pos))
      ) else some false) : Option Bool).bind fun b34 =>
      some b34
    )) : Option Bool).bind fun b32 =>
    some b32
  ) else some false) : Option Bool).bind fun b30 =>
  bif b30 then (
    (ixO a0 x18).bind fun x36 =>
    (appO x19 [x36]).bind fun x37 =>
    some (.inl (w64 (x18 + 1), x37))
  ) else (
    some (.inr (.inl (x19, x18)))
  )

noncomputable def d_ref09_insert (a0 : (List T_api_Setting)) (a1 : T_api_Setting) : Option (List T_api_Setting) :=
  onInl (α := ((List T_api_Setting) × Int)) (β := (List T_api_Setting)) (loopO (d_ref09_insert_0 a0 a1) (0, ([] : (List T_api_Setting)))) fun (x28, x29) =>
  onInl (α := (List T_api_Setting)) (β := (List T_api_Setting)) (
    ((bif decide (x29 = ((a0.length : Nat) : Int)) then some true else (
      (ixO a0 x29).bind fun x43 =>
      some (!(eq_T_api_Setting x43 a1))
    )) : Option Bool).bind fun b42 =>
    bif b42 then (
      (appO x28 [a1]).bind fun x44 =>
      some (.inl x44)
    ) else (
      some (.inl x28)
    )
  ) fun x41 =>
  (slO a0 (some x29) none none).bind fun x45 =>
  (appO x41 x45).bind fun x46 =>
  some x46
theorem d_ref09_insert_ok (a0 : (List T_api_Setting)) (a1 : T_api_Setting) (r : (List T_api_Setting)) (h : d_ref09_insert a0 a1 = some r) : PCall Go.Proofs.Tryz.prog GlS 118 [Enc.pv a0, Enc.pv a1] (lstOf (.own 100005) r) := by
  unfold d_ref09_insert at h
  refine pcall_of_pwp Go.Proofs.Tryz.func118 (by rfl) rfl Go.Proofs.Tryz.ntmps118 (by rfl) rfl ?_
  refine pwp_seq (r_reg ?_)
  refine zE ?_
  refine q_next (pwp_seq (r_reg ?_))
  refine zE ?_
  refine q_next (pwp_seq (r_reg ?_))
  refine zE ?_
  refine q_next (pwp_seq (pwp_block ?_))
  refine g_nil 5 100005 2 16 (by kernel_rfl) (by kernel_rfl) ?_
  obtain ⟨o26, h26, h⟩ := o_inl h
  refine r_loop2 72 0 (fun (x18, x19) => ⟨[(0, lstOf .frozen (a0 : (List T_api_Setting))), (3, .ref 3 0), (5, lstOf (.own 100005) (x19 : (List T_api_Setting))), (6, .int .i64 x18)], [(3, .cells (cellsOf a1))], [(100005, (((x19).map cellsOf).length, 2))], []⟩) (fun (x28, x29) => ⟨[(0, lstOf .frozen (a0 : (List T_api_Setting))), (3, .ref 3 0), (5, lstOf (.own 100005) (x28 : (List T_api_Setting))), (6, .int .i64 x29)], [(3, .cells (cellsOf a1))], [(100005, (((x28).map cellsOf).length, 2))], []⟩) h26 (by kernel_rfl) (fun _ => by kernel_rfl) ?_ ?_
  · rintro ⟨x18, x19⟩ oh25 h25
    unfold d_ref09_insert_0 at h25
    refine pwp_seq (pwp_seq ?_)
    refine r_regd (by kernel_rfl) (by kernel_rfl) ?_
    refine zR 2 ?_
    refine p_len (L := (a0 : (List T_api_Setting))) (by kernel_rfl) ?_
    obtain ⟨b30, h27, h25⟩ := o_bind h25
    refine zR 2 ?_
    refine e_seg 29 40 (.bool b30) ?_ ?_
    · rcases o_cond h27 with ⟨hb, h27⟩ | ⟨hb, h27⟩
      · refine zS 11 hb ?_
        refine zR 2 ?_
        obtain ⟨x31, h28, h27⟩ := o_bind h27
        refine zI h28 ?_
        obtain ⟨b32, h29, h27⟩ := o_bind h27
        refine zR 6 ?_
        refine f_seg 19 39 (.bool b32) ?_ ?_
        · rcases o_cond h29 with ⟨hb, h29⟩ | ⟨hb, h29⟩
          · refine zS 20 hb ?_
            cases h29
            exact zF
          refine zS 20 hb ?_
          refine zR 2 ?_
          obtain ⟨x33, h30, h29⟩ := o_bind h29
          refine zI h30 ?_
          obtain ⟨b34, h31, h29⟩ := o_bind h29
          refine zR 6 ?_
          refine f_seg 9 38 (.bool b34) ?_ ?_
          · rcases o_cond h31 with ⟨hb, h31⟩ | ⟨hb, h31⟩
            · refine zS 29 hb ?_
              refine zR 2 ?_
              obtain ⟨x35, h32, h31⟩ := o_bind h31
              refine zI h32 ?_
              cases h31
              exact zF
            refine zS 29 hb ?_
            cases h31
            exact zF
          cases h29
          exact zF
        cases h27
        exact zF
      refine zS 11 hb ?_
      cases h27
      exact zF
    refine zN ?_
    refine q_next ?_
    rcases o_cond h25 with ⟨hb, h25⟩ | ⟨hb, h25⟩
    · refine zT hb ?_
      refine pwp_skip (q_next (pwp_block (pwp_seq (r_reg ?_))))
      refine zR 3 ?_
      obtain ⟨x36, h33, h25⟩ := o_bind h25
      refine zI h33 ?_
      refine zR 2 ?_
      obtain ⟨x37, h34, h25⟩ := o_bind h25
      refine p_app (tk := 100005) h34 (by kernel_rfl) (by kernel_rfl) ?_
      refine zE ?_
      refine q_next (r_reg ?_)
      refine zE ?_
      refine q_block ?_
      cases h25
      exact zB
    refine zU hb ?_
    refine pwp_exit (q_seq_exit ?_)
    cases h25
    exact zX
  rintro ⟨x28, x29⟩ s' rfl hs
  have h := o_outl h
  refine q_block_hit ?_
  refine q_next (pwp_wkr hs ?_)
  obtain ⟨o38, h38, h⟩ := o_inl h
  refine r_join (o := o38) 72 (fun x41 => ⟨[(0, lstOf .frozen (a0 : (List T_api_Setting))), (5, lstOf (.own 100005) (x41 : (List T_api_Setting))), (6, .int .i64 x29)], [], [(100005, (((x41).map cellsOf).length, 2))], []⟩) ?_ ?_
  · refine pwp_seq ?_
    refine r_regd (by kernel_rfl) (by kernel_rfl) ?_
    refine zR 2 ?_
    refine p_len (L := (a0 : (List T_api_Setting))) (by kernel_rfl) ?_
    obtain ⟨b42, h39, h38⟩ := o_bind h38
    refine zR 2 ?_
    refine e_seg 7 61 (.bool b42) ?_ ?_
    · rcases o_cond h39 with ⟨hb, h39⟩ | ⟨hb, h39⟩
      · refine zS 54 hb ?_
        cases h39
        exact zF
      refine zS 54 hb ?_
      refine zR 2 ?_
      obtain ⟨x43, h40, h39⟩ := o_bind h39
      refine zI h40 ?_
      cases h39
      exact zF
    refine zN ?_
    refine q_next ?_
    rcases o_cond h38 with ⟨hb, h38⟩ | ⟨hb, h38⟩
    · refine zT hb ?_
      refine r_reg ?_
      refine zR 3 ?_
      obtain ⟨x44, h41, h38⟩ := o_bind h38
      refine p_app (tk := 100005) h41 (by kernel_rfl) (by kernel_rfl) ?_
      refine zE ?_
      cases h38
      exact zJ
    refine zU hb ?_
    refine pwp_skip ?_
    cases h38
    exact zJ
  rintro x41 rfl
  have h := o_outl h
  refine pwp_seq (r_reg ?_)
  refine zR 3 ?_
  obtain ⟨x45, h42, h⟩ := o_bind h
  refine p_sl h42 .frozen (by kernel_rfl) (by kernel_rfl) (by kernel_rfl) ?_
  obtain ⟨x46, h43, h⟩ := o_bind h
  refine p_app (tk := 100005) h43 (by kernel_rfl) (by kernel_rfl) ?_
  refine zE ?_
  refine q_next (pwp_seq (r_reg ?_))
  refine zE ?_
  refine q_next (pwp_ret ?_)
  cases h
  exact zQ
theorem d_ref09_insert_fz (a0 : (List T_api_Setting)) (a1 : T_api_Setting) (r : (List T_api_Setting)) (h : d_ref09_insert a0 a1 = some r) : PCall Go.Proofs.Tryz.prog GlS 118 [Enc.pv a0, Enc.pv a1] (Enc.pv r) :=
  (d_ref09_insert_ok a0 a1 r h).freeze (by kernel_rfl) (by kernel_rfl) (by kernel_rfl)

/-! signallingref09.Settings -/
noncomputable def d_ref09_Settings_0 (a0 : T_api_Layout) (a1 : (List T_api_Step)) : (Int × (List T_api_Setting)) → Option ((Int × (List T_api_Setting)) ⊕ ((List T_api_Setting) ⊕ (List T_api_Setting))) := fun (x20, x21) =>
  bif decide (x20 < ((a1.length : Nat) : Int)) then (
    onInl (α := (List T_api_Setting)) (β := ((Int × (List T_api_Setting)) ⊕ ((List T_api_Setting) ⊕ (List T_api_Setting)))) (
      (ixO a1 x20).bind fun x37 =>
      (d_ref09_need a0 x37).bind fun r38 =>
      bif (r38.2 && (!(decide (r38.1 = 0)))) then (
        (ixO a1 x20).bind fun x39 =>
        (d_ref09_insert x21 (T_api_Setting.mk x39.El r38.1)).bind fun r40 =>
        some (.inl r40)
      ) else (
        some (.inl x21)
      )
    ) fun x36 =>
    some (.inl (w64 (x20 + 1), x36))
  ) else (
    some (.inr (.inl x21))
  )

noncomputable def d_ref09_Settings (a0 : T_api_Layout) (a1 : (List T_api_Step)) : Option (List T_api_Setting) :=
  onInl (α := (List T_api_Setting)) (β := (List T_api_Setting)) (loopO (d_ref09_Settings_0 a0 a1) (0, ([] : (List T_api_Setting)))) fun x31 =>
  some x31
theorem d_ref09_Settings_ok (a0 : T_api_Layout) (a1 : (List T_api_Step)) (r : (List T_api_Setting)) (h : d_ref09_Settings a0 a1 = some r) : PCall Go.Proofs.Tryz.prog GlS 83 [Enc.pv a0, Enc.pv a1] (Enc.pv r) := by
  unfold d_ref09_Settings at h
  refine pcall_of_pwp Go.Proofs.Tryz.func83 (by rfl) rfl Go.Proofs.Tryz.ntmps83 (by rfl) rfl ?_
  refine pwp_seq (r_reg ?_)
  refine zE ?_
  refine q_next (pwp_seq (r_reg ?_))
  refine zE ?_
  refine q_next (pwp_seq (pwp_seq (r_reg ?_)))
  refine zE ?_
  refine q_next (pwp_block ?_)
  obtain ⟨o29, h29, h⟩ := o_inl h
  refine r_loop2 39 0 (fun (x20, x21) => ⟨[(1, lstOf .frozen (a1 : (List T_api_Step))), (2, .ref 2 0), (5, lstOf .frozen (x21 : (List T_api_Setting))), (6, .int .i64 x20)], [(2, .cells (cellsOf a0))], [], []⟩) (fun x31 => ⟨[(5, lstOf .frozen (x31 : (List T_api_Setting)))], [], [], []⟩) h29 (by kernel_rfl) (fun _ => by kernel_rfl) ?_ ?_
  · rintro ⟨x20, x21⟩ oh28 h28
    unfold d_ref09_Settings_0 at h28
    refine pwp_seq (pwp_seq (r_reg ?_))
    refine zR 2 ?_
    refine p_len (L := (a1 : (List T_api_Step))) (by kernel_rfl) ?_
    refine zE ?_
    refine q_next ?_
    rcases o_cond h28 with ⟨hb, h28⟩ | ⟨hb, h28⟩
    · refine zT hb ?_
      refine pwp_skip (q_next ?_)
      obtain ⟨o34, h34, h28⟩ := o_inl h28
      refine r_join (o := o34) 39 (fun x36 => ⟨[(1, lstOf .frozen (a1 : (List T_api_Step))), (2, .ref 2 0), (5, lstOf .frozen (x36 : (List T_api_Setting))), (6, .int .i64 x20)], [(2, .cells (cellsOf a0))], [], []⟩) ?_ ?_
      · refine pwp_block (pwp_seq ?_)
        refine r_regd (by kernel_rfl) (by kernel_rfl) ?_
        refine zR 3 ?_
        obtain ⟨x37, h35, h34⟩ := o_bind h34
        refine zI h35 ?_
        refine zR 1 ?_
        obtain ⟨r38, h36, h34⟩ := o_bind h34
        refine p_call (d_ref09_need_ok _ _ r38 h36) (by kernel_rfl) (by kernel_rfl) ?_
        refine zE ?_
        refine q_next (pwp_seq (r_reg ?_))
        refine zR 2 ?_
        refine e_segb 3 28 (r38.2 && (!(decide (r38.1 = 0)))) (fun x hx => ?_) ?_
        · rcases b_and hx with ⟨hb, hx⟩ | ⟨hb, hx⟩
          · refine zS 25 hb ?_
            subst hx
            exact zF
          refine zS 25 hb ?_
          subst hx
          exact zF
        refine zN ?_
        refine q_next ?_
        rcases o_cond h34 with ⟨hb, h34⟩ | ⟨hb, h34⟩
        · refine zT hb ?_
          refine r_reg ?_
          refine zR 3 ?_
          obtain ⟨x39, h37, h34⟩ := o_bind h34
          refine zI h37 ?_
          refine zR 4 ?_
          obtain ⟨r40, h38, h34⟩ := o_bind h34
          refine p_call (d_ref09_insert_ok _ _ r40 h38) (by kernel_rfl) (by kernel_rfl) ?_
          refine zE ?_
          refine q_block ?_
          cases h34
          exact zJ
        refine zU hb ?_
        refine pwp_skip (q_block ?_)
        cases h34
        exact zJ
      rintro x36 rfl
      have h28 := o_outl h28
      refine r_reg ?_
      refine zE ?_
      cases h28
      exact zB
    refine zU hb ?_
    refine pwp_exit (q_seq_exit ?_)
    cases h28
    exact zX
  rintro x31 s' rfl hs
  have h := o_outl h
  refine q_block_hit ?_
  refine q_next (pwp_wkr hs ?_)
  refine pwp_seq (r_reg ?_)
  refine zE ?_
  refine q_next (pwp_ret ?_)
  cases h
  exact zQ

/-! signallingref09.Length -/
noncomputable def d_ref09_Length_0 (a0 : T_api_Layout) (a1 : (List T_api_Step)) : (Int × Int) → Option ((Int × Int) ⊕ (Int ⊕ Int)) := fun (x10, x11) =>
  bif decide (x11 < ((a1.length : Nat) : Int)) then (
    onInl (α := Int) (β := ((Int × Int) ⊕ (Int ⊕ Int))) (
      (ixO a1 x11).bind fun x27 =>
      (d_ref09_exists a0 x27.El).bind fun r28 =>
      bif r28 then (
        (ixO a1 x11).bind fun x29 =>
        (ixO a0.Elements x29.El).bind fun x30 =>
        some (.inl (w64 (x10 + x30.Length)))
      ) else (
        some (.inl x10)
      )
    ) fun x26 =>
    some (.inl (x26, w64 (x11 + 1)))
  ) else (
    some (.inr (.inl x10))
  )

noncomputable def d_ref09_Length (a0 : T_api_Layout) (a1 : (List T_api_Step)) : Option Int :=
  onInl (α := Int) (β := Int) (loopO (d_ref09_Length_0 a0 a1) (0, 0)) fun x21 =>
  some x21
theorem d_ref09_Length_ok (a0 : T_api_Layout) (a1 : (List T_api_Step)) (r : Int) (h : d_ref09_Length a0 a1 = some r) : PCall Go.Proofs.Tryz.prog GlS 31 [Enc.pv a0, Enc.pv a1] (Enc.pv r) := by
  unfold d_ref09_Length at h
  refine pcall_of_pwp Go.Proofs.Tryz.func31 (by rfl) rfl Go.Proofs.Tryz.ntmps31 (by rfl) rfl ?_
  refine pwp_seq (r_reg ?_)
  refine zE ?_
  refine q_next (pwp_seq (r_reg ?_))
  refine zE ?_
  refine q_next (pwp_seq (pwp_seq (r_reg ?_)))
  refine zE ?_
  refine q_next (pwp_block ?_)
  obtain ⟨o20, h20, h⟩ := o_inl h
  refine r_loop2 33 0 (fun (x10, x11) => ⟨[(1, lstOf .frozen (a1 : (List T_api_Step))), (2, .ref 2 0), (5, .int .i64 x10), (6, .int .i64 x11)], [(2, .cells (cellsOf a0))], [], []⟩) (fun x21 => ⟨[(5, .int .i64 x21)], [], [], []⟩) h20 (by kernel_rfl) (fun _ => by kernel_rfl) ?_ ?_
  · rintro ⟨x10, x11⟩ oh19 h19
    unfold d_ref09_Length_0 at h19
    refine pwp_seq (pwp_seq (r_reg ?_))
    refine zR 2 ?_
    refine p_len (L := (a1 : (List T_api_Step))) (by kernel_rfl) ?_
    refine zE ?_
    refine q_next ?_
    rcases o_cond h19 with ⟨hb, h19⟩ | ⟨hb, h19⟩
    · refine zT hb ?_
      refine pwp_skip (q_next ?_)
      obtain ⟨o25, h25, h19⟩ := o_inl h19
      refine r_join (o := o25) 33 (fun x26 => ⟨[(1, lstOf .frozen (a1 : (List T_api_Step))), (2, .ref 2 0), (5, .int .i64 x26), (6, .int .i64 x11)], [(2, .cells (cellsOf a0))], [], []⟩) ?_ ?_
      · refine pwp_block (pwp_seq ?_)
        refine r_regd (by kernel_rfl) (by kernel_rfl) ?_
        refine zR 3 ?_
        obtain ⟨x27, h26, h25⟩ := o_bind h25
        refine zI h26 ?_
        refine zR 2 ?_
        obtain ⟨r28, h27, h25⟩ := o_bind h25
        refine p_call (d_ref09_exists_ok _ _ r28 h27) (by kernel_rfl) (by kernel_rfl) ?_
        refine zN ?_
        refine q_next ?_
        rcases o_cond h25 with ⟨hb, h25⟩ | ⟨hb, h25⟩
        · refine zT hb ?_
          refine r_regd (by kernel_rfl) (by kernel_rfl) ?_
          refine zR 5 ?_
          obtain ⟨x29, h28, h25⟩ := o_bind h25
          refine zI h28 ?_
          refine zR 2 ?_
          obtain ⟨x30, h29, h25⟩ := o_bind h25
          refine zI h29 ?_
          refine zE ?_
          refine q_block ?_
          cases h25
          exact zJ
        refine zU hb ?_
        refine pwp_skip (q_block ?_)
        cases h25
        exact zJ
      rintro x26 rfl
      have h19 := o_outl h19
      refine r_reg ?_
      refine zE ?_
      cases h19
      exact zB
    refine zU hb ?_
    refine pwp_exit (q_seq_exit ?_)
    cases h19
    exact zX
  rintro x21 s' rfl hs
  have h := o_outl h
  refine q_block_hit ?_
  refine q_next (pwp_wkr hs ?_)
  refine pwp_seq (r_reg ?_)
  refine zE ?_
  refine q_next (pwp_ret ?_)
  cases h
  exact zQ

/-! signallingref12.decimal -/
noncomputable def d_ref12_decimal_0 : (Int × ByteArray) → Option ((Int × ByteArray) ⊕ (ByteArray ⊕ ByteArray)) := fun (x2, x3) =>
  bif decide (0 < x2) then (
    (saddO (bytesOf [IntKind.u8.wrap (w64 (48 + (x2.tmod 10)))]) x3).bind fun x6 =>
    some (.inl (w64 (x2.tdiv 10), x6))
  ) else (
    some (.inr (.inl x3))
  )

noncomputable def d_ref12_decimal (a0 : Int) : Option ByteArray :=
  onInl (α := ByteArray) (β := ByteArray) (loopO (d_ref12_decimal_0) (a0, ByteArray.empty)) fun x5 =>
  some x5
theorem d_ref12_decimal_ok (a0 : Int) (r : ByteArray) (h : d_ref12_decimal a0 = some r) : PCall Go.Proofs.Tryz.prog GlS 109 [Enc.pv a0] (Enc.pv r) := by
  unfold d_ref12_decimal at h
  refine pcall_of_pwp Go.Proofs.Tryz.func109 (by rfl) rfl Go.Proofs.Tryz.ntmps109 (by rfl) rfl ?_
  refine pwp_seq (r_reg ?_)
  refine zE ?_
  refine q_next (pwp_seq (r_reg ?_))
  refine zE ?_
  refine q_next (pwp_seq (pwp_block ?_))
  obtain ⟨o4, h4, h⟩ := o_inl h
  refine r_loop2 17 0 (fun (x2, x3) => ⟨[(0, .int .i64 x2), (3, .str x3)], [], [], []⟩) (fun x5 => ⟨[(3, .str x5)], [], [], []⟩) h4 (by kernel_rfl) (fun _ => by kernel_rfl) ?_ ?_
  · rintro ⟨x2, x3⟩ oh3 h3
    unfold d_ref12_decimal_0 at h3
    refine pwp_seq (pwp_seq (r_reg ?_))
    refine zE ?_
    refine q_next ?_
    rcases o_cond h3 with ⟨hb, h3⟩ | ⟨hb, h3⟩
    · refine zT hb ?_
      refine pwp_skip (q_next (pwp_block (pwp_seq (r_reg ?_))))
      refine zR 5 ?_
      refine p_bstr (ns := [IntKind.u8.wrap (w64 (48 + (x2.tmod 10)))]) (by kernel_rfl) ?_
      refine zR 1 ?_
      obtain ⟨x6, h5, h3⟩ := o_bind h3
      refine p_sadd h5 (by kernel_rfl) ?_
      refine zE ?_
      refine q_next (r_reg ?_)
      refine zE ?_
      refine q_block ?_
      cases h3
      exact zB
    refine zU hb ?_
    refine pwp_exit (q_seq_exit ?_)
    cases h3
    exact zX
  rintro x5 s' rfl hs
  have h := o_outl h
  refine q_block_hit ?_
  refine q_next (pwp_wkr hs ?_)
  refine pwp_seq (r_reg ?_)
  refine zE ?_
  refine q_next (pwp_ret ?_)
  cases h
  exact zQ

/-! signallingref12.From -/
noncomputable def d_ref12_From_1 (a0 : T_api_Layout) (a1 : Int) (r4 : T_signallingref12_Paths) (x150 : Int) (r228 : (Int × Bool)) : (Int × Int) → Option ((Int × Int) ⊕ (Int ⊕ ((Int × (List T_api_Route)) ⊕ ((List T_api_Route) ⊕ (List T_api_Route))))) := fun (x252, x253) =>
  bif decide (x253 < x150) then (
    onInl (α := Int) (β := ((Int × Int) ⊕ (Int ⊕ ((Int × (List T_api_Route)) ⊕ ((List T_api_Route) ⊕ (List T_api_Route)))))) (
      (xixO 0 (((r4.L : (List (List T_api_Step))).map cellsOf).length) x253).bind fun j281 =>
      (xldO r4.L (((r4.L : (List (List T_api_Step))).map cellsOf).length) j281).bind fun x282 =>
      (xixO 0 (((r4.L : (List (List T_api_Step))).map cellsOf).length) x253).bind fun j283 =>
      (xldO r4.L (((r4.L : (List (List T_api_Step))).map cellsOf).length) j283).bind fun x284 =>
      (ixO x282 (w64 (((x284.length : Nat) : Int) - 1))).bind fun x285 =>
      (d_ref12_Ends a0 x285).bind fun r286 =>
      (d_ref12_text a0 a1 r286.1).bind fun r287 =>
      (d_ref12_text a0 a1 r228.1).bind fun r288 =>
      bif decide (r287 = r288) then (
        some (.inl (w64 (x252 + 1)))
      ) else (
        some (.inl x252)
      )
    ) fun x280 =>
    some (.inl (x280, w64 (x253 + 1)))
  ) else (
    some (.inr (.inl x252))
  )

noncomputable def d_ref12_From_0 (a0 : T_api_Layout) (a1 : Int) (r4 : T_signallingref12_Paths) : (Int × (List T_api_Route)) → Option ((Int × (List T_api_Route)) ⊕ ((List T_api_Route) ⊕ (List T_api_Route))) := fun (x150, x151) =>
  bif decide (x150 < ((((r4.L : (List (List T_api_Step))).map cellsOf).length : Nat) : Int)) then (
    (xixO 0 (((r4.L : (List (List T_api_Step))).map cellsOf).length) x150).bind fun j225 =>
    (xldO r4.L (((r4.L : (List (List T_api_Step))).map cellsOf).length) j225).bind fun x226 =>
    (ixO x226 (w64 (((x226.length : Nat) : Int) - 1))).bind fun x227 =>
    (d_ref12_Ends a0 x227).bind fun r228 =>
    (d_ref12_text a0 a1 r228.1).bind fun r229 =>
    (d_ref09_Settings a0 x226).bind fun r230 =>
    (d_ref09_Sections a0 x226).bind fun r231 =>
    (d_ref09_Length a0 x226).bind fun r232 =>
    (ixO a0.Signals a1).bind fun x233 =>
    (d_ref07_Section a0 x233.At.El).bind fun r234 =>
    onInl (α := Int) (β := ((Int × (List T_api_Route)) ⊕ ((List T_api_Route) ⊕ (List T_api_Route)))) (loopO (d_ref12_From_1 a0 a1 r4 x150 r228) (1, 0)) fun x271 =>
    onInl (α := ByteArray) (β := ((Int × (List T_api_Route)) ⊕ ((List T_api_Route) ⊕ (List T_api_Route)))) (
      bif decide (1 < x271) then (
        (saddO r229 (ByteArray.mk #[46])).bind fun x293 =>
        (d_ref12_decimal x271).bind fun r294 =>
        (saddO x293 r294).bind fun x295 =>
        some (.inl x295)
      ) else (
        some (.inl r229)
      )
    ) fun x292 =>
    (appO x151 [(T_api_Route.mk x292 a1 r228.1 x226 r230 r231 r234 r232 ([] : (List T_api_Step)) ([] : (List T_api_Setting)) ([] : (List Int)) ([] : (List T_api_Setting)) ([] : (List Int)) ([] : (List T_api_End)))]).bind fun x296 =>
    some (.inl (w64 (x150 + 1), x296))
  ) else (
    some (.inr (.inl x151))
  )

noncomputable def d_ref12_From (a0 : T_api_Layout) (a1 : Int) : Option (List T_api_Route) :=
  ((bif decide (a1 < 0) then some true else (
    some (decide (((a0.Signals.length : Nat) : Int) ≤ a1))
  )) : Option Bool).bind fun b1 =>
  bif b1 then (
    some ([] : (List T_api_Route))
  ) else (
    (ixO a0.Signals a1).bind fun x2 =>
    (d_ref07_Joined a0 x2.At).bind fun r3 =>
    bif (!r3.2) then (
      some ([] : (List T_api_Route))
    ) else (
      (d_ref12_Paths_search (T_signallingref12_Paths.mk []) a0 r3.1 r3.1 ([] : (List T_api_Step))).bind fun r4 =>
      onInl (α := (List T_api_Route)) (β := (List T_api_Route)) (loopO (d_ref12_From_0 a0 a1 r4) (0, ([] : (List T_api_Route)))) fun x224 =>
      some x224
    )
  )
theorem d_ref12_From_ok (a0 : T_api_Layout) (a1 : Int) (r : (List T_api_Route)) (h : d_ref12_From a0 a1 = some r) : PCall Go.Proofs.Tryz.prog GlS 73 [Enc.pv a0, Enc.pv a1] (lstOf (.own 100008) r) := by
  unfold d_ref12_From at h
  refine pcall_of_pwp Go.Proofs.Tryz.func73 (by rfl) rfl Go.Proofs.Tryz.ntmps73 (by rfl) rfl ?_
  refine pwp_seq (r_reg ?_)
  refine zE ?_
  refine q_next (pwp_seq (pwp_seq (r_reg ?_)))
  obtain ⟨b1, h1, h⟩ := o_bind h
  refine zR 3 ?_
  refine e_seg 6 26 (.bool b1) ?_ ?_
  · rcases o_cond h1 with ⟨hb, h1⟩ | ⟨hb, h1⟩
    · refine zS 20 hb ?_
      cases h1
      exact zF
    refine zS 20 hb ?_
    refine zR 3 ?_
    refine p_len (L := (a0.Signals : (List T_api_Signal))) (by kernel_rfl) ?_
    cases h1
    exact zF
  refine zN ?_
  refine q_next ?_
  rcases o_cond h with ⟨hb, h⟩ | ⟨hb, h⟩
  · refine zT hb ?_
    refine pwp_seq (r_reg ?_)
    refine zE ?_
    refine q_next ?_
    refine g_nil 4 100008 14 264 (by kernel_rfl) (by kernel_rfl) ?_
    refine pwp_ret (q_seq_ret ?_)
    cases h
    exact zQ
  refine zU hb ?_
  refine pwp_skip (q_next (pwp_seq ?_))
  refine r_regd (by kernel_rfl) (by kernel_rfl) ?_
  refine zR 4 ?_
  obtain ⟨x2, h2, h⟩ := o_bind h
  refine zI h2 ?_
  refine zR 2 ?_
  obtain ⟨r3, h3, h⟩ := o_bind h
  refine p_call (d_ref07_Joined_ok _ _ r3 h3) (by kernel_rfl) (by kernel_rfl) ?_
  refine zE ?_
  refine q_next (pwp_seq (pwp_seq (r_reg ?_)))
  refine zE ?_
  refine q_next ?_
  rcases o_cond h with ⟨hb, h⟩ | ⟨hb, h⟩
  · refine zT hb ?_
    refine pwp_seq (r_reg ?_)
    refine zE ?_
    refine q_next ?_
    refine g_nil 4 100008 14 264 (by kernel_rfl) (by kernel_rfl) ?_
    refine pwp_ret (q_seq_ret ?_)
    cases h
    exact zQ
  refine zU hb ?_
  refine pwp_skip (q_next (pwp_seq (r_reg ?_)))
  refine zE ?_
  refine q_next (pwp_seq (r_reg ?_))
  refine zR 4 ?_
  obtain ⟨r4, h4, h⟩ := o_bind h
  refine p_ocall (some 41) [304600] [(41, 0, 304600, 1, 24)] none (d_ref12_Paths_search_oc _ _ _ _ _ r4 h4) (by kernel_rfl) (by kernel_rfl) (by kernel_rfl) (by kernel_rfl) (by kernel_rfl) ?_
  refine zN ?_
  refine q_next (pwp_seq (r_reg ?_))
  refine zE ?_
  refine q_next (pwp_seq (pwp_seq (r_reg ?_)))
  refine zE ?_
  refine q_next (pwp_block ?_)
  refine g_nil 8 100008 14 264 (by kernel_rfl) (by kernel_rfl) ?_
  obtain ⟨o219, h219, h⟩ := o_inl h
  refine r_loop2 154 0 (fun (x150, x151) => ⟨[(1, .int .i64 a1), (2, .ref 2 0), (7, .ref 41 0), (8, lstOf (.own 100008) (x151 : (List T_api_Route))), (9, .int .i64 x150)], [(2, .cells (cellsOf a0)), (41, .cells ([.ex 304600 1 24 (((r4.L : (List (List T_api_Step))).map cellsOf).length) 0 (((r4.L : (List (List T_api_Step))).map cellsOf).length)]))], [(100008, (((x151).map cellsOf).length, 14)), (304600, (((r4.L : (List (List T_api_Step))).map cellsOf).length, 0))], [(304600, (1, (24, (r4.L : (List (List T_api_Step))).map cellsOf)))]⟩) (fun x224 => ⟨[(8, lstOf (.own 100008) (x224 : (List T_api_Route)))], [], [(100008, (((x224).map cellsOf).length, 14))], []⟩) h219 (by kernel_rfl) (fun _ => by kernel_rfl) ?_ ?_
  · rintro ⟨x150, x151⟩ oh218 h218
    unfold d_ref12_From_0 at h218
    refine pwp_seq (pwp_seq (r_reg ?_))
    refine zE ?_
    refine q_next ?_
    rcases o_cond h218 with ⟨hb, h218⟩ | ⟨hb, h218⟩
    · refine zT hb ?_
      refine pwp_skip (q_next (pwp_seq (pwp_block (pwp_seq (r_reg ?_)))))
      refine zR 5 ?_
      obtain ⟨j225, h220, h218⟩ := o_bind h218
      refine p_xix (tk := 304600) (k := 1) (N := ((r4.L : (List (List T_api_Step))).map cellsOf).length) h220 (by kernel_rfl) ?_
      obtain ⟨x226, h221, h218⟩ := o_bind h218
      refine p_xld (L := (r4.L : (List (List T_api_Step)))) (N := ((r4.L : (List (List T_api_Step))).map cellsOf).length) (j := j225) (y := x226) (v := lstOf .frozen (x226 : (List T_api_Step))) h221 false 1 0 (by kernel_rfl) (by kernel_rfl) ?_
      refine zE ?_
      refine q_next (pwp_seq ?_)
      refine r_regd (by kernel_rfl) (by kernel_rfl) ?_
      refine zR 3 ?_
      refine p_len (L := (x226 : (List T_api_Step))) (by kernel_rfl) ?_
      refine zR 1 ?_
      obtain ⟨x227, h222, h218⟩ := o_bind h218
      refine zI h222 ?_
      refine zR 1 ?_
      obtain ⟨r228, h223, h218⟩ := o_bind h218
      refine p_call (d_ref12_Ends_ok _ _ r228 h223) (by kernel_rfl) (by kernel_rfl) ?_
      refine zE ?_
      refine q_next (pwp_seq ?_)
      refine r_regd (by kernel_rfl) (by kernel_rfl) ?_
      refine zR 3 ?_
      obtain ⟨r229, h224, h218⟩ := o_bind h218
      refine p_call (d_ref12_text_ok _ _ _ r229 h224) (by kernel_rfl) (by kernel_rfl) ?_
      refine zR 5 ?_
      obtain ⟨r230, h225, h218⟩ := o_bind h218
      refine p_call (d_ref09_Settings_ok _ _ r230 h225) (by kernel_rfl) (by kernel_rfl) ?_
      refine zR 2 ?_
      obtain ⟨r231, h226, h218⟩ := o_bind h218
      refine p_call (d_ref09_Sections_fz _ _ r231 h226) (by kernel_rfl) (by kernel_rfl) ?_
      refine zR 2 ?_
      obtain ⟨r232, h227, h218⟩ := o_bind h218
      refine p_call (d_ref09_Length_ok _ _ r232 h227) (by kernel_rfl) (by kernel_rfl) ?_
      refine zE ?_
      refine q_next (pwp_seq ?_)
      refine r_regd (by kernel_rfl) (by kernel_rfl) ?_
      refine zR 4 ?_
      obtain ⟨x233, h228, h218⟩ := o_bind h218
      refine zI h228 ?_
      refine zR 3 ?_
      obtain ⟨r234, h229, h218⟩ := o_bind h218
      refine p_call (d_ref07_Section_ok _ _ r234 h229) (by kernel_rfl) (by kernel_rfl) ?_
      refine zE ?_
      refine q_next (pwp_seq (r_reg ?_))
      refine zE ?_
      refine q_next (pwp_seq (pwp_seq (r_reg ?_)))
      refine zE ?_
      refine q_next (pwp_block ?_)
      obtain ⟨o265, h265, h218⟩ := o_inl h218
      refine r_loop2 154 2 (fun (x252, x253) => ⟨[(1, .int .i64 a1), (2, .ref 2 0), (7, .ref 41 0), (8, lstOf (.own 100008) (x151 : (List T_api_Route))), (9, .int .i64 x150), (11, .int .i64 r228.1), (13, .ref 13 0), (14, .int .i64 x252), (15, .int .i64 x253)], [(2, .cells (cellsOf a0)), (13, .cells ([.str r229, .int .i64 a1, .int .i64 r228.1, lstOf .frozen (x226 : (List T_api_Step)), lstOf .frozen (r230 : (List T_api_Setting)), lstOf .frozen (r231 : (List Int)), .int .i64 r234, .int .i64 r232, .nil, .nil, .nil, .nil, .nil, .nil])), (41, .cells ([.ex 304600 1 24 (((r4.L : (List (List T_api_Step))).map cellsOf).length) 0 (((r4.L : (List (List T_api_Step))).map cellsOf).length)]))], [(100008, (((x151).map cellsOf).length, 14)), (304600, (((r4.L : (List (List T_api_Step))).map cellsOf).length, 0))], [(304600, (1, (24, (r4.L : (List (List T_api_Step))).map cellsOf)))]⟩) (fun x271 => ⟨[(1, .int .i64 a1), (2, .ref 2 0), (7, .ref 41 0), (8, lstOf (.own 100008) (x151 : (List T_api_Route))), (9, .int .i64 x150), (13, .ref 13 0), (14, .int .i64 x271)], [(2, .cells (cellsOf a0)), (13, .cells ([.str r229, .int .i64 a1, .int .i64 r228.1, lstOf .frozen (x226 : (List T_api_Step)), lstOf .frozen (r230 : (List T_api_Setting)), lstOf .frozen (r231 : (List Int)), .int .i64 r234, .int .i64 r232, .nil, .nil, .nil, .nil, .nil, .nil])), (41, .cells ([.ex 304600 1 24 (((r4.L : (List (List T_api_Step))).map cellsOf).length) 0 (((r4.L : (List (List T_api_Step))).map cellsOf).length)]))], [(100008, (((x151).map cellsOf).length, 14)), (304600, (((r4.L : (List (List T_api_Step))).map cellsOf).length, 0))], [(304600, (1, (24, (r4.L : (List (List T_api_Step))).map cellsOf)))]⟩) h265 (by kernel_rfl) (fun _ => by kernel_rfl) ?_ ?_
      · rintro ⟨x252, x253⟩ oh264 h264
        unfold d_ref12_From_1 at h264
        refine pwp_seq (pwp_seq (r_reg ?_))
        refine zE ?_
        refine q_next ?_
        rcases o_cond h264 with ⟨hb, h264⟩ | ⟨hb, h264⟩
        · refine zT hb ?_
          refine pwp_skip (q_next ?_)
          obtain ⟨o274, h274, h264⟩ := o_inl h264
          refine r_join (o := o274) 154 (fun x280 => ⟨[(1, .int .i64 a1), (2, .ref 2 0), (7, .ref 41 0), (8, lstOf (.own 100008) (x151 : (List T_api_Route))), (9, .int .i64 x150), (11, .int .i64 r228.1), (13, .ref 13 0), (14, .int .i64 x280), (15, .int .i64 x253)], [(2, .cells (cellsOf a0)), (13, .cells ([.str r229, .int .i64 a1, .int .i64 r228.1, lstOf .frozen (x226 : (List T_api_Step)), lstOf .frozen (r230 : (List T_api_Setting)), lstOf .frozen (r231 : (List Int)), .int .i64 r234, .int .i64 r232, .nil, .nil, .nil, .nil, .nil, .nil])), (41, .cells ([.ex 304600 1 24 (((r4.L : (List (List T_api_Step))).map cellsOf).length) 0 (((r4.L : (List (List T_api_Step))).map cellsOf).length)]))], [(100008, (((x151).map cellsOf).length, 14)), (304600, (((r4.L : (List (List T_api_Step))).map cellsOf).length, 0))], [(304600, (1, (24, (r4.L : (List (List T_api_Step))).map cellsOf)))]⟩) ?_ ?_
          · refine pwp_block (pwp_seq ?_)
            refine r_regd (by kernel_rfl) (by kernel_rfl) ?_
            refine zR 6 ?_
            obtain ⟨j281, h275, h274⟩ := o_bind h274
            refine p_xix (tk := 304600) (k := 1) (N := ((r4.L : (List (List T_api_Step))).map cellsOf).length) h275 (by kernel_rfl) ?_
            obtain ⟨x282, h276, h274⟩ := o_bind h274
            refine p_xld (L := (r4.L : (List (List T_api_Step)))) (N := ((r4.L : (List (List T_api_Step))).map cellsOf).length) (j := j281) (y := x282) (v := lstOf .frozen (x282 : (List T_api_Step))) h276 false 1 0 (by kernel_rfl) (by kernel_rfl) ?_
            refine zR 5 ?_
            obtain ⟨j283, h277, h274⟩ := o_bind h274
            refine p_xix (tk := 304600) (k := 1) (N := ((r4.L : (List (List T_api_Step))).map cellsOf).length) h277 (by kernel_rfl) ?_
            obtain ⟨x284, h278, h274⟩ := o_bind h274
            refine p_xld (L := (r4.L : (List (List T_api_Step)))) (N := ((r4.L : (List (List T_api_Step))).map cellsOf).length) (j := j283) (y := x284) (v := lstOf .frozen (x284 : (List T_api_Step))) h278 false 1 0 (by kernel_rfl) (by kernel_rfl) ?_
            refine p_len (L := (x284 : (List T_api_Step))) (by kernel_rfl) ?_
            refine zR 1 ?_
            obtain ⟨x285, h279, h274⟩ := o_bind h274
            refine zI h279 ?_
            refine zR 1 ?_
            obtain ⟨r286, h280, h274⟩ := o_bind h274
            refine p_call (d_ref12_Ends_ok _ _ r286 h280) (by kernel_rfl) (by kernel_rfl) ?_
            refine zE ?_
            refine q_next (pwp_seq ?_)
            refine r_regd (by kernel_rfl) (by kernel_rfl) ?_
            refine zR 3 ?_
            obtain ⟨r287, h281, h274⟩ := o_bind h274
            refine p_call (d_ref12_text_ok _ _ _ r287 h281) (by kernel_rfl) (by kernel_rfl) ?_
            refine zR 3 ?_
            obtain ⟨r288, h282, h274⟩ := o_bind h274
            refine p_call (d_ref12_text_ok _ _ _ r288 h282) (by kernel_rfl) (by kernel_rfl) ?_
            refine zE ?_
            refine q_next ?_
            rcases o_cond h274 with ⟨hb, h274⟩ | ⟨hb, h274⟩
            · refine zT hb ?_
              refine r_reg ?_
              refine zE ?_
              refine q_block ?_
              cases h274
              exact zJ
            refine zU hb ?_
            refine pwp_skip (q_block ?_)
            cases h274
            exact zJ
          rintro x280 rfl
          have h264 := o_outl h264
          refine r_reg ?_
          refine zE ?_
          cases h264
          exact zB
        refine zU hb ?_
        refine pwp_exit (q_seq_exit ?_)
        cases h264
        exact zX
      rintro x271 s' rfl hs
      have h218 := o_outl h218
      refine q_block_hit ?_
      refine q_next (pwp_wkr hs ?_)
      obtain ⟨o286, h286, h218⟩ := o_inl h218
      refine r_join (o := o286) 154 (fun x292 => ⟨[(1, .int .i64 a1), (2, .ref 2 0), (7, .ref 41 0), (8, lstOf (.own 100008) (x151 : (List T_api_Route))), (9, .int .i64 x150), (13, .ref 13 0)], [(2, .cells (cellsOf a0)), (13, .cells ([.str x292, .int .i64 a1, .int .i64 r228.1, lstOf .frozen (x226 : (List T_api_Step)), lstOf .frozen (r230 : (List T_api_Setting)), lstOf .frozen (r231 : (List Int)), .int .i64 r234, .int .i64 r232, .nil, .nil, .nil, .nil, .nil, .nil])), (41, .cells ([.ex 304600 1 24 (((r4.L : (List (List T_api_Step))).map cellsOf).length) 0 (((r4.L : (List (List T_api_Step))).map cellsOf).length)]))], [(100008, (((x151).map cellsOf).length, 14)), (304600, (((r4.L : (List (List T_api_Step))).map cellsOf).length, 0))], [(304600, (1, (24, (r4.L : (List (List T_api_Step))).map cellsOf)))]⟩) ?_ ?_
      · refine pwp_seq (r_reg ?_)
        refine zE ?_
        refine q_next ?_
        rcases o_cond h286 with ⟨hb, h286⟩ | ⟨hb, h286⟩
        · refine zT hb ?_
          refine r_regd (by kernel_rfl) (by kernel_rfl) ?_
          refine zR 2 ?_
          obtain ⟨x293, h287, h286⟩ := o_bind h286
          refine p_sadd h287 (by kernel_rfl) ?_
          refine zR 1 ?_
          obtain ⟨r294, h288, h286⟩ := o_bind h286
          refine p_call (d_ref12_decimal_ok _ r294 h288) (by kernel_rfl) (by kernel_rfl) ?_
          obtain ⟨x295, h289, h286⟩ := o_bind h286
          refine p_sadd h289 (by kernel_rfl) ?_
          refine zE ?_
          cases h286
          exact zJ
        refine zU hb ?_
        refine pwp_skip ?_
        cases h286
        exact zJ
      rintro x292 rfl
      have h218 := o_outl h218
      refine pwp_wkr (Wkr.of (n := 154) (j := ⟨[(1, .int .i64 a1), (2, .ref 2 0), (7, .ref 41 0), (8, lstOf (.own 100008) (x151 : (List T_api_Route))), (9, .int .i64 x150), (13, .ref 13 0)], [(2, .cells (cellsOf a0)), (13, .cells ([.str x292, .int .i64 a1, .int .i64 r228.1, lstOf .frozen (x226 : (List T_api_Step)), lstOf .frozen (r230 : (List T_api_Setting)), lstOf .frozen (r231 : (List Int)), .int .i64 r234, .int .i64 r232, lstOf .frozen (([] : (List T_api_Step)) : (List T_api_Step)), lstOf .frozen (([] : (List T_api_Setting)) : (List T_api_Setting)), lstOf .frozen (([] : (List Int)) : (List Int)), lstOf .frozen (([] : (List T_api_Setting)) : (List T_api_Setting)), lstOf .frozen (([] : (List Int)) : (List Int)), lstOf .frozen (([] : (List T_api_End)) : (List T_api_End))])), (41, .cells ([.ex 304600 1 24 (((r4.L : (List (List T_api_Step))).map cellsOf).length) 0 (((r4.L : (List (List T_api_Step))).map cellsOf).length)]))], [(100008, (((x151).map cellsOf).length, 14)), (304600, (((r4.L : (List (List T_api_Step))).map cellsOf).length, 0))], [(304600, (1, (24, (r4.L : (List (List T_api_Step))).map cellsOf)))]⟩) (by kernel_rfl) (by kernel_rfl)) ?_
      refine r_reg ?_
      refine zR 3 ?_
      obtain ⟨x296, h290, h218⟩ := o_bind h218
      refine p_app (tk := 100008) h290 (by kernel_rfl) (by kernel_rfl) ?_
      refine zE ?_
      refine q_block (q_next (r_reg ?_))
      refine zE ?_
      cases h218
      exact zB
    refine zU hb ?_
    refine pwp_exit (q_seq_exit ?_)
    cases h218
    exact zX
  rintro x224 s' rfl hs
  have h := o_outl h
  refine q_block_hit ?_
  refine q_next (pwp_wkr hs ?_)
  refine pwp_seq (r_reg ?_)
  refine zE ?_
  refine q_next (pwp_ret ?_)
  cases h
  exact zQ
theorem d_ref12_From_fz (a0 : T_api_Layout) (a1 : Int) (r : (List T_api_Route)) (h : d_ref12_From a0 a1 = some r) : PCall Go.Proofs.Tryz.prog GlS 73 [Enc.pv a0, Enc.pv a1] (Enc.pv r) :=
  (d_ref12_From_ok a0 a1 r h).freeze (by kernel_rfl) (by kernel_rfl) (by kernel_rfl)

/-! signallingref12.All -/
noncomputable def d_ref12_All_0 (a0 : T_api_Layout) : (Int × (List T_api_Route)) → Option ((Int × (List T_api_Route)) ⊕ ((List T_api_Route) ⊕ ((List T_api_Route) × Int))) := fun (x7, x8) =>
  bif decide (x7 < ((a0.Signals.length : Nat) : Int)) then (
    (d_ref12_From a0 x7).bind fun r12 =>
    (appO x8 r12).bind fun x13 =>
    some (.inl (w64 (x7 + 1), x13))
  ) else (
    some (.inr (.inl x8))
  )

noncomputable def d_ref12_All (a0 : T_api_Layout) : Option ((List T_api_Route) × Int) :=
  (d_ref07_Check a0).bind fun r1 =>
  bif (!(decide (r1 = 0))) then (
    some (([] : (List T_api_Route)), r1)
  ) else (
    onInl (α := (List T_api_Route)) (β := ((List T_api_Route) × Int)) (loopO (d_ref12_All_0 a0) (0, ([] : (List T_api_Route)))) fun x11 =>
    bif decide (48 < ((x11.length : Nat) : Int)) then (
      some (([] : (List T_api_Route)), 2)
    ) else (
      some (x11, 0)
    )
  )
theorem d_ref12_All_ok (a0 : T_api_Layout) (r : ((List T_api_Route) × Int)) (h : d_ref12_All a0 = some r) : PCall Go.Proofs.Tryz.prog GlS 37 [Enc.pv a0] (.tup [Enc.pv r.1, Enc.pv r.2]) := by
  unfold d_ref12_All at h
  refine pcall_of_pwp Go.Proofs.Tryz.func37 (by rfl) rfl Go.Proofs.Tryz.ntmps37 (by rfl) rfl ?_
  refine pwp_seq (r_reg ?_)
  refine zE ?_
  refine q_next (pwp_seq (r_reg ?_))
  refine zR 1 ?_
  obtain ⟨r1, h1, h⟩ := o_bind h
  refine p_call (d_ref07_Check_ok _ r1 h1) (by kernel_rfl) (by kernel_rfl) ?_
  refine zE ?_
  refine q_next (pwp_seq (pwp_seq (r_reg ?_)))
  refine zE ?_
  refine q_next ?_
  rcases o_cond h with ⟨hb, h⟩ | ⟨hb, h⟩
  · refine zT hb ?_
    refine pwp_seq (r_reg ?_)
    refine zE ?_
    refine q_next (pwp_ret (q_seq_ret ?_))
    cases h
    exact zQ
  refine zU hb ?_
  refine pwp_skip (q_next (pwp_seq (r_reg ?_)))
  refine zE ?_
  refine q_next (pwp_seq (pwp_seq (r_reg ?_)))
  refine zE ?_
  refine q_next (pwp_block ?_)
  refine g_nil 5 100005 14 264 (by kernel_rfl) (by kernel_rfl) ?_
  obtain ⟨o9, h9, h⟩ := o_inl h
  refine r_loop2 28 0 (fun (x7, x8) => ⟨[(1, .ref 1 0), (5, lstOf (.own 100005) (x8 : (List T_api_Route))), (6, .int .i64 x7)], [(1, .cells (cellsOf a0))], [(100005, (((x8).map cellsOf).length, 14))], []⟩) (fun x11 => ⟨[(5, lstOf (.own 100005) (x11 : (List T_api_Route)))], [], [(100005, (((x11).map cellsOf).length, 14))], []⟩) h9 (by kernel_rfl) (fun _ => by kernel_rfl) ?_ ?_
  · rintro ⟨x7, x8⟩ oh8 h8
    unfold d_ref12_All_0 at h8
    refine pwp_seq (pwp_seq (r_reg ?_))
    refine zR 3 ?_
    refine p_len (L := (a0.Signals : (List T_api_Signal))) (by kernel_rfl) ?_
    refine zE ?_
    refine q_next ?_
    rcases o_cond h8 with ⟨hb, h8⟩ | ⟨hb, h8⟩
    · refine zT hb ?_
      refine pwp_skip (q_next (pwp_seq (pwp_block (r_reg ?_))))
      refine zR 3 ?_
      obtain ⟨r12, h10, h8⟩ := o_bind h8
      refine p_call (d_ref12_From_ok _ _ r12 h10) (by kernel_rfl) (by kernel_rfl) ?_
      obtain ⟨x13, h11, h8⟩ := o_bind h8
      refine p_app (tk := 100005) h11 (by kernel_rfl) (by kernel_rfl) ?_
      refine zE ?_
      refine q_block (q_next (r_reg ?_))
      refine zE ?_
      cases h8
      exact zB
    refine zU hb ?_
    refine pwp_exit (q_seq_exit ?_)
    cases h8
    exact zX
  rintro x11 s' rfl hs
  have h := o_outl h
  refine q_block_hit ?_
  refine q_next (pwp_wkr hs ?_)
  refine pwp_seq (pwp_seq (r_reg ?_))
  refine zR 1 ?_
  refine p_len (L := (x11 : (List T_api_Route))) (by kernel_rfl) ?_
  refine zE ?_
  refine q_next ?_
  rcases o_cond h with ⟨hb, h⟩ | ⟨hb, h⟩
  · refine zT hb ?_
    refine pwp_seq (r_reg ?_)
    refine zE ?_
    refine q_next (pwp_ret (q_seq_ret ?_))
    cases h
    exact zQ
  refine zU hb ?_
  refine pwp_skip (q_next (pwp_seq (r_reg ?_)))
  refine zE ?_
  refine q_next (pwp_ret ?_)
  cases h
  exact zQ

/-! signallingref07.Points -/
noncomputable def d_ref07_Points_0 (a0 : T_api_Layout) : (Int × (List Int)) → Option ((Int × (List Int)) ⊕ ((List Int) ⊕ (List Int))) := fun (x12, x13) =>
  bif decide (x12 < ((a0.Elements.length : Nat) : Int)) then (
    onInl (α := (List Int)) (β := ((Int × (List Int)) ⊕ ((List Int) ⊕ (List Int)))) (
      (ixO a0.Elements x12).bind fun x23 =>
      bif decide (x23.Kind = 2) then (
        (appO x13 [x12]).bind fun x24 =>
        some (.inl x24)
      ) else (
        some (.inl x13)
      )
    ) fun x22 =>
    some (.inl (w64 (x12 + 1), x22))
  ) else (
    some (.inr (.inl x13))
  )

noncomputable def d_ref07_Points (a0 : T_api_Layout) : Option (List Int) :=
  onInl (α := (List Int)) (β := (List Int)) (loopO (d_ref07_Points_0 a0) (0, ([] : (List Int)))) fun x19 =>
  some x19
theorem d_ref07_Points_ok (a0 : T_api_Layout) (r : (List Int)) (h : d_ref07_Points a0 = some r) : PCall Go.Proofs.Tryz.prog GlS 38 [Enc.pv a0] (lstOf (.own 100003) r) := by
  unfold d_ref07_Points at h
  refine pcall_of_pwp Go.Proofs.Tryz.func38 (by rfl) rfl Go.Proofs.Tryz.ntmps38 (by rfl) rfl ?_
  refine pwp_seq (r_reg ?_)
  refine zE ?_
  refine q_next (pwp_seq (r_reg ?_))
  refine zE ?_
  refine q_next (pwp_seq (pwp_seq (r_reg ?_)))
  refine zR 2 ?_
  refine p_len (L := (a0.Elements : (List T_api_Element))) (by kernel_rfl) ?_
  refine zE ?_
  refine q_next (pwp_block ?_)
  refine g_nil 3 100003 1 8 (by kernel_rfl) (by kernel_rfl) ?_
  obtain ⟨o17, h17, h⟩ := o_inl h
  refine r_loop2 23 0 (fun (x12, x13) => ⟨[(3, lstOf (.own 100003) (x13 : (List Int))), (7, lstOf .frozen (a0.Elements : (List T_api_Element))), (8, .int .i64 ((a0.Elements.length : Nat) : Int)), (9, .int .i64 x12)], [], [(100003, (((x13).map cellsOf).length, 1))], []⟩) (fun x19 => ⟨[(3, lstOf (.own 100003) (x19 : (List Int)))], [], [(100003, (((x19).map cellsOf).length, 1))], []⟩) h17 (by kernel_rfl) (fun _ => by kernel_rfl) ?_ ?_
  · rintro ⟨x12, x13⟩ oh16 h16
    unfold d_ref07_Points_0 at h16
    refine pwp_seq (r_reg ?_)
    refine zE ?_
    refine q_next (pwp_seq ?_)
    rcases o_cond h16 with ⟨hb, h16⟩ | ⟨hb, h16⟩
    · refine zT hb ?_
      refine pwp_skip (q_next ?_)
      obtain ⟨o20, h20, h16⟩ := o_inl h16
      refine r_join (o := o20) 23 (fun x22 => ⟨[(3, lstOf (.own 100003) (x22 : (List Int))), (7, lstOf .frozen (a0.Elements : (List T_api_Element))), (8, .int .i64 ((a0.Elements.length : Nat) : Int)), (9, .int .i64 x12)], [], [(100003, (((x22).map cellsOf).length, 1))], []⟩) ?_ ?_
      · refine pwp_block (pwp_seq (r_reg ?_))
        refine zR 1 ?_
        obtain ⟨x23, h21, h20⟩ := o_bind h20
        refine zI h21 ?_
        refine zE ?_
        refine q_next (pwp_seq (r_reg ?_))
        refine zE ?_
        refine q_next ?_
        rcases o_cond h20 with ⟨hb, h20⟩ | ⟨hb, h20⟩
        · refine zT hb ?_
          refine r_reg ?_
          refine zR 3 ?_
          obtain ⟨x24, h22, h20⟩ := o_bind h20
          refine p_app (tk := 100003) h22 (by kernel_rfl) (by kernel_rfl) ?_
          refine zE ?_
          refine q_block ?_
          cases h20
          exact zJ
        refine zU hb ?_
        refine pwp_skip (q_block ?_)
        cases h20
        exact zJ
      rintro x22 rfl
      have h16 := o_outl h16
      refine r_reg ?_
      refine zE ?_
      cases h16
      exact zB
    refine zU hb ?_
    refine pwp_exit (q_seq_exit ?_)
    cases h16
    exact zX
  rintro x19 s' rfl hs
  have h := o_outl h
  refine q_block_hit ?_
  refine q_next (pwp_wkr hs ?_)
  refine pwp_seq (r_reg ?_)
  refine zE ?_
  refine q_next (pwp_ret ?_)
  cases h
  exact zQ
theorem d_ref07_Points_fz (a0 : T_api_Layout) (r : (List Int)) (h : d_ref07_Points a0 = some r) : PCall Go.Proofs.Tryz.prog GlS 38 [Enc.pv a0] (Enc.pv r) :=
  (d_ref07_Points_ok a0 r h).freeze (by kernel_rfl) (by kernel_rfl) (by kernel_rfl)

/-! signallingref13.exit -/
noncomputable def d_ref13_exit (a0 : T_api_Layout) (a1 : T_api_Route) : Option (T_api_Signal × Bool) :=
  ((bif decide (a1.Exit < 0) then some true else (
    some (decide (((a0.Signals.length : Nat) : Int) ≤ a1.Exit))
  )) : Option Bool).bind fun b1 =>
  bif b1 then (
    some ((T_api_Signal.mk ByteArray.empty (T_api_End.mk 0 0) 0), false)
  ) else (
    (ixO a0.Signals a1.Exit).bind fun x2 =>
    some (x2, true)
  )
theorem d_ref13_exit_ok (a0 : T_api_Layout) (a1 : T_api_Route) (r : (T_api_Signal × Bool)) (h : d_ref13_exit a0 a1 = some r) : PCall Go.Proofs.Tryz.prog GlS 78 [Enc.pv a0, Enc.pv a1] (.tup [Enc.pv r.1, Enc.pv r.2]) := by
  unfold d_ref13_exit at h
  refine pcall_of_pwp Go.Proofs.Tryz.func78 (by rfl) rfl Go.Proofs.Tryz.ntmps78 (by rfl) rfl ?_
  refine pwp_seq (r_reg ?_)
  refine zE ?_
  refine q_next (pwp_seq (pwp_seq (r_reg ?_)))
  obtain ⟨b1, h1, h⟩ := o_bind h
  refine zR 4 ?_
  refine e_seg 7 16 (.bool b1) ?_ ?_
  · rcases o_cond h1 with ⟨hb, h1⟩ | ⟨hb, h1⟩
    · refine zS 9 hb ?_
      cases h1
      exact zF
    refine zS 9 hb ?_
    refine zR 4 ?_
    refine p_len (L := (a0.Signals : (List T_api_Signal))) (by kernel_rfl) ?_
    cases h1
    exact zF
  refine zN ?_
  refine q_next ?_
  rcases o_cond h with ⟨hb, h⟩ | ⟨hb, h⟩
  · refine zT hb ?_
    refine pwp_seq (r_reg ?_)
    refine zE ?_
    refine q_next (pwp_ret (q_seq_ret ?_))
    cases h
    exact zQ
  refine zU hb ?_
  refine pwp_skip (q_next (pwp_seq (r_reg ?_)))
  refine zR 4 ?_
  obtain ⟨x2, h2, h⟩ := o_bind h
  refine zI h2 ?_
  refine zE ?_
  refine q_next (pwp_ret ?_)
  cases h
  exact zQ

/-! signallingref13.Blocked -/
noncomputable def d_ref13_Blocked_0 (a2 : (List T_api_Step)) (a3 : Int) : Int → Option (Int ⊕ (Unit ⊕ Bool)) := fun x2 =>
  bif decide (x2 < ((a2.length : Nat) : Int)) then (
    (ixO a2 x2).bind fun x4 =>
    bif decide (x4.El = a3) then (
      some (.inr (.inr true))
    ) else (
      some (.inl (w64 (x2 + 1)))
    )
  ) else (
    some (.inr (.inl ()))
  )

noncomputable def d_ref13_Blocked_1 (a0 : T_api_Layout) (a1 : T_api_Route) (a3 : Int) : Int → Option (Int ⊕ (Unit ⊕ Bool)) := fun x7 =>
  bif decide (x7 < ((a1.Sections.length : Nat) : Int)) then (
    (ixO a1.Sections x7).bind fun x10 =>
    (d_ref07_Section a0 a3).bind fun r11 =>
    bif decide (x10 = r11) then (
      some (.inr (.inr true))
    ) else (
      some (.inl (w64 (x7 + 1)))
    )
  ) else (
    some (.inr (.inl ()))
  )

noncomputable def d_ref13_Blocked (a0 : T_api_Layout) (a1 : T_api_Route) (a2 : (List T_api_Step)) (a3 : Int) : Option Bool :=
  onInl (α := Unit) (β := Bool) (loopO (d_ref13_Blocked_0 a2 a3) 0) fun _ =>
  onInl (α := Unit) (β := Bool) (loopO (d_ref13_Blocked_1 a0 a1 a3) 0) fun _ =>
  some false
theorem d_ref13_Blocked_ok (a0 : T_api_Layout) (a1 : T_api_Route) (a2 : (List T_api_Step)) (a3 : Int) (r : Bool) (h : d_ref13_Blocked a0 a1 a2 a3 = some r) : PCall Go.Proofs.Tryz.prog GlS 80 [Enc.pv a0, Enc.pv a1, Enc.pv a2, Enc.pv a3] (Enc.pv r) := by
  unfold d_ref13_Blocked at h
  refine pcall_of_pwp Go.Proofs.Tryz.func80 (by rfl) rfl Go.Proofs.Tryz.ntmps80 (by rfl) rfl ?_
  refine pwp_seq (r_reg ?_)
  refine zE ?_
  refine q_next (pwp_seq (pwp_seq (r_reg ?_)))
  refine zR 1 ?_
  refine p_len (L := (a2 : (List T_api_Step))) (by kernel_rfl) ?_
  refine zE ?_
  refine q_next (pwp_block ?_)
  obtain ⟨o6, h6, h⟩ := o_inl h
  refine r_loop2 37 0 (fun x2 => ⟨[(3, .int .i64 a3), (4, .ref 4 0), (5, .ref 5 0), (13, lstOf .frozen (a2 : (List T_api_Step))), (14, .int .i64 ((a2.length : Nat) : Int)), (15, .int .i64 x2)], [(4, .cells (cellsOf a0)), (5, .cells (cellsOf a1))], [], []⟩) (fun (_ : Unit) => ⟨[(3, .int .i64 a3), (4, .ref 4 0), (5, .ref 5 0)], [(4, .cells (cellsOf a0)), (5, .cells (cellsOf a1))], [], []⟩) h6 (by kernel_rfl) (fun _ => by kernel_rfl) ?_ ?_
  · rintro x2 oh5 h5
    unfold d_ref13_Blocked_0 at h5
    refine pwp_seq (r_reg ?_)
    refine zE ?_
    refine q_next (pwp_seq ?_)
    rcases o_cond h5 with ⟨hb, h5⟩ | ⟨hb, h5⟩
    · refine zT hb ?_
      refine pwp_skip (q_next (pwp_seq (pwp_block (pwp_seq (r_reg ?_)))))
      obtain ⟨x4, h7, h5⟩ := o_bind h5
      refine zI h7 ?_
      refine zE ?_
      refine q_next (pwp_seq (r_reg ?_))
      refine zE ?_
      refine q_next ?_
      rcases o_cond h5 with ⟨hb, h5⟩ | ⟨hb, h5⟩
      · refine zT hb ?_
        refine pwp_seq (r_reg ?_)
        refine zE ?_
        refine q_next (pwp_ret (q_block_ret (q_seq_ret ?_)))
        cases h5
        refine q_lout_ret fun he => ?_
        subst he
        have h8 := o_outr h
        refine q_block_ret (q_seq_ret ?_)
        cases h8
        exact zQ
      refine zU hb ?_
      refine pwp_skip (q_block (q_next (r_reg ?_)))
      refine zE ?_
      cases h5
      exact zB
    refine zU hb ?_
    refine pwp_exit (q_seq_exit ?_)
    cases h5
    exact zX
  rintro _ s' rfl hs
  have h := o_outl h
  refine q_block_hit ?_
  refine q_next (pwp_wkr hs ?_)
  refine pwp_seq (pwp_seq (r_reg ?_))
  refine zR 2 ?_
  refine p_len (L := (a1.Sections : (List Int))) (by kernel_rfl) ?_
  refine zE ?_
  refine q_next (pwp_block ?_)
  obtain ⟨o16, h16, h⟩ := o_inl h
  refine r_loop2 37 2 (fun x7 => ⟨[(3, .int .i64 a3), (4, .ref 4 0), (25, lstOf .frozen (a1.Sections : (List Int))), (26, .int .i64 ((a1.Sections.length : Nat) : Int)), (27, .int .i64 x7)], [(4, .cells (cellsOf a0))], [], []⟩) (fun (_ : Unit) => ⟨[], [], [], []⟩) h16 (by kernel_rfl) (fun _ => by kernel_rfl) ?_ ?_
  · rintro x7 oh15 h15
    unfold d_ref13_Blocked_1 at h15
    refine pwp_seq (r_reg ?_)
    refine zE ?_
    refine q_next (pwp_seq ?_)
    rcases o_cond h15 with ⟨hb, h15⟩ | ⟨hb, h15⟩
    · refine zT hb ?_
      refine pwp_skip (q_next (pwp_seq (pwp_block (pwp_seq (r_reg ?_)))))
      obtain ⟨x10, h17, h15⟩ := o_bind h15
      refine zI h17 ?_
      refine zE ?_
      refine q_next (pwp_seq (r_reg ?_))
      refine zR 3 ?_
      obtain ⟨r11, h18, h15⟩ := o_bind h15
      refine p_call (d_ref07_Section_ok _ _ r11 h18) (by kernel_rfl) (by kernel_rfl) ?_
      refine zE ?_
      refine q_next ?_
      rcases o_cond h15 with ⟨hb, h15⟩ | ⟨hb, h15⟩
      · refine zT hb ?_
        refine pwp_seq (r_reg ?_)
        refine zE ?_
        refine q_next (pwp_ret (q_block_ret (q_seq_ret ?_)))
        cases h15
        refine q_lout_ret fun he => ?_
        subst he
        have h19 := o_outr h
        refine q_block_ret (q_seq_ret ?_)
        cases h19
        exact zQ
      refine zU hb ?_
      refine pwp_skip (q_block (q_next (r_reg ?_)))
      refine zE ?_
      cases h15
      exact zB
    refine zU hb ?_
    refine pwp_exit (q_seq_exit ?_)
    cases h15
    exact zX
  rintro _ s' rfl hs
  have h := o_outl h
  refine q_block_hit ?_
  refine q_next (pwp_wkr hs ?_)
  refine pwp_seq (r_reg ?_)
  refine zE ?_
  refine q_next (pwp_ret ?_)
  cases h
  exact zQ

/-! signallingref13.Find -/
noncomputable def d_ref13_Find_0 (a0 : T_api_Layout) (a1 : T_api_Route) (r1 : (T_api_Signal × Bool)) : (Bool × T_api_End × (List T_api_Step)) → Option ((Bool × T_api_End × (List T_api_Step)) ⊕ ((List T_api_Step) ⊕ T_api_Route)) := fun (x24, x25, x26) =>
  ((bif x24 then (
    (d_ref09_Length a0 x26).bind fun r39 =>
    some (decide (r39 < r1.1.Overlap))
  ) else some false) : Option Bool).bind fun b38 =>
  ((bif b38 then (
    some (decide (((x26.length : Nat) : Int) < 12))
  ) else some false) : Option Bool).bind fun b40 =>
  ((bif b40 then (
    (d_ref13_Blocked a0 (T_api_Route.mk a1.Name a1.Entry a1.Exit a1.Path a1.Points a1.Sections a1.Approach a1.Length x26 [] [] a1.Flank a1.Guards a1.Gaps) x26 x25.El).bind fun r42 =>
    some (!r42)
  ) else some false) : Option Bool).bind fun b41 =>
  bif b41 then (
    (d_ref09_Branches a0 x25).bind fun r43 =>
    bif decide (((r43.length : Nat) : Int) = 0) then (
      some (.inr (.inl x26))
    ) else (
      (ixO r43 0).bind fun x44 =>
      (appO x26 [x44]).bind fun x45 =>
      (ixO r43 0).bind fun x46 =>
      (d_ref09_Next a0 x46).bind fun r47 =>
      some (.inl (r47.2, r47.1, x45))
    )
  ) else (
    some (.inr (.inl x26))
  )

noncomputable def d_ref13_Find (a0 : T_api_Layout) (a1 : T_api_Route) : Option T_api_Route :=
  (d_ref13_exit a0 (T_api_Route.mk a1.Name a1.Entry a1.Exit a1.Path a1.Points a1.Sections a1.Approach a1.Length [] [] [] a1.Flank a1.Guards a1.Gaps)).bind fun r1 =>
  bif (!r1.2) then (
    some (T_api_Route.mk a1.Name a1.Entry a1.Exit a1.Path a1.Points a1.Sections a1.Approach a1.Length [] [] [] a1.Flank a1.Guards a1.Gaps)
  ) else (
    (d_ref07_Joined a0 r1.1.At).bind fun r2 =>
    onInl (α := (List T_api_Step)) (β := T_api_Route) (loopO (d_ref13_Find_0 a0 a1 r1) (r2.2, r2.1, ([] : (List T_api_Step)))) fun x37 =>
    (d_ref09_Settings a0 x37).bind fun r48 =>
    (d_ref09_Sections a0 x37).bind fun r49 =>
    some (T_api_Route.mk a1.Name a1.Entry a1.Exit a1.Path a1.Points a1.Sections a1.Approach a1.Length x37 r48 r49 a1.Flank a1.Guards a1.Gaps)
  )
theorem d_ref13_Find_ok (a0 : T_api_Layout) (a1 : T_api_Route) (r : T_api_Route) (h : d_ref13_Find a0 a1 = some r) : PCall Go.Proofs.Tryz.prog GlS 40 [Enc.pv a0, Enc.pv a1] (Enc.pv r) := by
  unfold d_ref13_Find at h
  refine pcall_of_pwp Go.Proofs.Tryz.func40 (by rfl) rfl Go.Proofs.Tryz.ntmps40 (by rfl) rfl ?_
  refine pwp_seq (r_reg ?_)
  refine zE ?_
  refine q_next (pwp_seq (r_reg ?_))
  refine zE ?_
  refine q_next (pwp_seq (r_reg ?_))
  refine zE ?_
  refine q_next (pwp_seq (r_reg ?_))
  refine zE ?_
  refine q_next (pwp_seq (r_reg ?_))
  refine zR 2 ?_
  obtain ⟨r1, h1, h⟩ := o_bind h
  refine p_call (d_ref13_exit_ok _ _ r1 h1) (by kernel_rfl) (by kernel_rfl) ?_
  refine zE ?_
  refine q_next (pwp_seq (pwp_seq (r_reg ?_)))
  refine zE ?_
  refine q_next ?_
  rcases o_cond h with ⟨hb, h⟩ | ⟨hb, h⟩
  · refine zT hb ?_
    refine pwp_seq (r_reg ?_)
    refine zE ?_
    refine q_next (pwp_ret (q_seq_ret ?_))
    cases h
    exact zQ
  refine zU hb ?_
  refine pwp_skip (q_next (pwp_seq (r_reg ?_)))
  refine zR 3 ?_
  obtain ⟨r2, h2, h⟩ := o_bind h
  refine p_call (d_ref07_Joined_ok _ _ r2 h2) (by kernel_rfl) (by kernel_rfl) ?_
  refine zE ?_
  refine q_next (pwp_seq (pwp_block ?_))
  refine pwp_wkr (wkr_nilH 3 8 200308 3 24 (cs := [.str a1.Name, .int .i64 a1.Entry, .int .i64 a1.Exit, lstOf .frozen (a1.Path : (List T_api_Step)), lstOf .frozen (a1.Points : (List T_api_Setting)), lstOf .frozen (a1.Sections : (List Int)), .int .i64 a1.Approach, .int .i64 a1.Length, .nil, .nil, .nil, lstOf .frozen (a1.Flank : (List T_api_Setting)), lstOf .frozen (a1.Guards : (List Int)), lstOf .frozen (a1.Gaps : (List T_api_End))]) (by kernel_rfl) (by kernel_rfl) (by kernel_rfl)) ?_
  obtain ⟨o33, h33, h⟩ := o_inl h
  refine r_loop2 88 0 (fun (x24, x25, x26) => ⟨[(2, .ref 2 0), (3, .ref 3 0), (4, .ref 4 0), (5, .ref 5 0), (7, .ref 7 0), (8, .bool x24)], [(2, .cells (cellsOf a0)), (3, .cells ([.str a1.Name, .int .i64 a1.Entry, .int .i64 a1.Exit, lstOf .frozen (a1.Path : (List T_api_Step)), lstOf .frozen (a1.Points : (List T_api_Setting)), lstOf .frozen (a1.Sections : (List Int)), .int .i64 a1.Approach, .int .i64 a1.Length, lstOf (.own 200308) (x26 : (List T_api_Step)), .nil, .nil, lstOf .frozen (a1.Flank : (List T_api_Setting)), lstOf .frozen (a1.Guards : (List Int)), lstOf .frozen (a1.Gaps : (List T_api_End))])), (4, .cells ([.str ByteArray.empty, .int .i64 0, .int .i64 0, .nil, .nil, .nil, .int .i64 0, .int .i64 0, .nil, .nil, .nil, .nil, .nil, .nil])), (5, .cells (cellsOf r1.1)), (7, .cells (cellsOf x25))], [(200308, (((x26).map cellsOf).length, 3))], []⟩) (fun x37 => ⟨[(2, .ref 2 0), (3, .ref 3 0), (4, .ref 4 0)], [(2, .cells (cellsOf a0)), (3, .cells ([.str a1.Name, .int .i64 a1.Entry, .int .i64 a1.Exit, lstOf .frozen (a1.Path : (List T_api_Step)), lstOf .frozen (a1.Points : (List T_api_Setting)), lstOf .frozen (a1.Sections : (List Int)), .int .i64 a1.Approach, .int .i64 a1.Length, lstOf (.own 200308) (x37 : (List T_api_Step)), .nil, .nil, lstOf .frozen (a1.Flank : (List T_api_Setting)), lstOf .frozen (a1.Guards : (List Int)), lstOf .frozen (a1.Gaps : (List T_api_End))])), (4, .cells ([.str ByteArray.empty, .int .i64 0, .int .i64 0, .nil, .nil, .nil, .int .i64 0, .int .i64 0, .nil, .nil, .nil, .nil, .nil, .nil]))], [(200308, (((x37).map cellsOf).length, 3))], []⟩) h33 (by kernel_rfl) (fun _ => by kernel_rfl) ?_ ?_
  · rintro ⟨x24, x25, x26⟩ oh32 h32
    unfold d_ref13_Find_0 at h32
    refine pwp_seq (pwp_seq ?_)
    refine r_regd (by kernel_rfl) (by kernel_rfl) ?_
    obtain ⟨b38, h34, h32⟩ := o_bind h32
    refine zR 2 ?_
    refine e_seg 8 38 (.bool b38) ?_ ?_
    · rcases o_cond h34 with ⟨hb, h34⟩ | ⟨hb, h34⟩
      · refine zS 30 hb ?_
        refine zR 3 ?_
        obtain ⟨r39, h35, h34⟩ := o_bind h34
        refine p_call (d_ref09_Length_ok _ _ r39 h35) (by kernel_rfl) (by kernel_rfl) ?_
        cases h34
        exact zF
      refine zS 30 hb ?_
      cases h34
      exact zF
    obtain ⟨b40, h36, h32⟩ := o_bind h32
    refine zR 1 ?_
    refine e_seg 5 44 (.bool b40) ?_ ?_
    · rcases o_cond h36 with ⟨hb, h36⟩ | ⟨hb, h36⟩
      · refine zS 39 hb ?_
        refine zR 2 ?_
        refine p_len (L := (x26 : (List T_api_Step))) (by kernel_rfl) ?_
        cases h36
        exact zF
      refine zS 39 hb ?_
      cases h36
      exact zF
    obtain ⟨b41, h37, h32⟩ := o_bind h32
    refine zR 1 ?_
    refine e_seg 9 54 (.bool b41) ?_ ?_
    · rcases o_cond h37 with ⟨hb, h37⟩ | ⟨hb, h37⟩
      · refine zS 45 hb ?_
        refine zR 6 ?_
        obtain ⟨r42, h38, h37⟩ := o_bind h37
        refine p_call (d_ref13_Blocked_ok _ _ _ _ r42 h38) (by kernel_rfl) (by kernel_rfl) ?_
        cases h37
        exact zF
      refine zS 45 hb ?_
      cases h37
      exact zF
    refine zN ?_
    refine q_next ?_
    rcases o_cond h32 with ⟨hb, h32⟩ | ⟨hb, h32⟩
    · refine zT hb ?_
      refine pwp_skip (q_next (pwp_block (pwp_seq (r_reg ?_))))
      refine zR 2 ?_
      obtain ⟨r43, h39, h32⟩ := o_bind h32
      refine p_call (d_ref09_Branches_ok _ _ r43 h39) (by kernel_rfl) (by kernel_rfl) ?_
      refine zE ?_
      refine q_next (pwp_seq (pwp_seq (r_reg ?_)))
      refine zR 1 ?_
      refine p_len (L := (r43 : (List T_api_Step))) (by kernel_rfl) ?_
      refine zE ?_
      refine q_next ?_
      rcases o_cond h32 with ⟨hb, h32⟩ | ⟨hb, h32⟩
      · refine zT hb ?_
        refine pwp_exit (q_seq_exit ?_)
        refine q_block_miss rfl ?_
        cases h32
        exact zX
      refine zU hb ?_
      refine pwp_skip (q_next (pwp_seq ?_))
      refine r_regd (by kernel_rfl) (by kernel_rfl) ?_
      refine zR 3 ?_
      obtain ⟨x44, h40, h32⟩ := o_bind h32
      refine zI h40 ?_
      refine zR 2 ?_
      obtain ⟨x45, h41, h32⟩ := o_bind h32
      refine p_app (tk := 200308) h41 (by kernel_rfl) (by kernel_rfl) ?_
      refine zE ?_
      refine q_next ?_
      refine r_regd (by kernel_rfl) (by kernel_rfl) ?_
      refine zR 2 ?_
      obtain ⟨x46, h42, h32⟩ := o_bind h32
      refine zI h42 ?_
      refine zR 1 ?_
      obtain ⟨r47, h43, h32⟩ := o_bind h32
      refine p_call (d_ref09_Next_ok _ _ r47 h43) (by kernel_rfl) (by kernel_rfl) ?_
      refine zE ?_
      refine q_block ?_
      cases h32
      exact zB
    refine zU hb ?_
    refine pwp_exit (q_seq_exit ?_)
    cases h32
    exact zX
  rintro x37 s' rfl hs
  have h := o_outl h
  refine q_block_hit ?_
  refine q_next (pwp_wkr hs ?_)
  refine pwp_seq (r_reg ?_)
  refine zR 3 ?_
  obtain ⟨r48, h44, h⟩ := o_bind h
  refine p_call (d_ref09_Settings_ok _ _ r48 h44) (by kernel_rfl) (by kernel_rfl) ?_
  refine zE ?_
  refine q_next (pwp_seq (r_reg ?_))
  refine zR 3 ?_
  obtain ⟨r49, h45, h⟩ := o_bind h
  refine p_call (d_ref09_Sections_ok _ _ r49 h45) (by kernel_rfl) (by kernel_rfl) ?_
  refine zE ?_
  refine q_next (pwp_seq (r_reg ?_))
  refine zE ?_
  refine q_next (pwp_ret ?_)
  cases h
  exact zQ

/-! signallingref14.Beside -/
noncomputable def d_ref14_Beside_0 (a1 : T_api_Step) (x2 : T_api_Element) (r3 : (Int × Bool)) : (Int × (List T_api_End)) → Option ((Int × (List T_api_End)) ⊕ ((List T_api_End) ⊕ (List T_api_End))) := fun (x13, x14) =>
  (d_ref06_Sides x2.Kind).bind fun r20 =>
  bif decide (x13 < r20) then (
    onInl (α := (List T_api_End)) (β := ((Int × (List T_api_End)) ⊕ ((List T_api_End) ⊕ (List T_api_End)))) (
      bif ((r3.2 && (!(decide (x13 = a1.In)))) && (!(decide (x13 = a1.Out)))) then (
        (appO x14 [(T_api_End.mk a1.El x13)]).bind fun x23 =>
        some (.inl x23)
      ) else (
        some (.inl x14)
      )
    ) fun x22 =>
    some (.inl (w64 (x13 + 1), x22))
  ) else (
    some (.inr (.inl x14))
  )

noncomputable def d_ref14_Beside (a0 : T_api_Layout) (a1 : T_api_Step) : Option (List T_api_End) :=
  ((bif decide (a1.El < 0) then some true else (
    some (decide (((a0.Elements.length : Nat) : Int) ≤ a1.El))
  )) : Option Bool).bind fun b1 =>
  bif b1 then (
    some ([] : (List T_api_End))
  ) else (
    (ixO a0.Elements a1.El).bind fun x2 =>
    (d_ref06_Need x2.Kind a1.In a1.Out).bind fun r3 =>
    onInl (α := (List T_api_End)) (β := (List T_api_End)) (loopO (d_ref14_Beside_0 a1 x2 r3) (0, ([] : (List T_api_End)))) fun x19 =>
    some x19
  )
theorem d_ref14_Beside_ok (a0 : T_api_Layout) (a1 : T_api_Step) (r : (List T_api_End)) (h : d_ref14_Beside a0 a1 = some r) : PCall Go.Proofs.Tryz.prog GlS 110 [Enc.pv a0, Enc.pv a1] (lstOf (.own 100008) r) := by
  unfold d_ref14_Beside at h
  refine pcall_of_pwp Go.Proofs.Tryz.func110 (by rfl) rfl Go.Proofs.Tryz.ntmps110 (by rfl) rfl ?_
  refine pwp_seq (r_reg ?_)
  refine zE ?_
  refine q_next (pwp_seq (pwp_seq (r_reg ?_)))
  obtain ⟨b1, h1, h⟩ := o_bind h
  refine zR 4 ?_
  refine e_seg 7 20 (.bool b1) ?_ ?_
  · rcases o_cond h1 with ⟨hb, h1⟩ | ⟨hb, h1⟩
    · refine zS 13 hb ?_
      cases h1
      exact zF
    refine zS 13 hb ?_
    refine zR 4 ?_
    refine p_len (L := (a0.Elements : (List T_api_Element))) (by kernel_rfl) ?_
    cases h1
    exact zF
  refine zN ?_
  refine q_next ?_
  rcases o_cond h with ⟨hb, h⟩ | ⟨hb, h⟩
  · refine zT hb ?_
    refine pwp_seq (r_reg ?_)
    refine zE ?_
    refine q_next ?_
    refine g_nil 4 100008 2 16 (by kernel_rfl) (by kernel_rfl) ?_
    refine pwp_ret (q_seq_ret ?_)
    cases h
    exact zQ
  refine zU hb ?_
  refine pwp_skip (q_next (pwp_seq (r_reg ?_)))
  refine zR 4 ?_
  obtain ⟨x2, h2, h⟩ := o_bind h
  refine zI h2 ?_
  refine zE ?_
  refine q_next (pwp_seq (r_reg ?_))
  refine zR 5 ?_
  obtain ⟨r3, h3, h⟩ := o_bind h
  refine p_call (d_ref06_Need_ok _ _ _ r3 h3) (by kernel_rfl) (by kernel_rfl) ?_
  refine zE ?_
  refine q_next (pwp_seq (r_reg ?_))
  refine zE ?_
  refine q_next (pwp_seq (pwp_seq (r_reg ?_)))
  refine zE ?_
  refine q_next (pwp_block ?_)
  refine g_nil 8 100008 2 16 (by kernel_rfl) (by kernel_rfl) ?_
  obtain ⟨o17, h17, h⟩ := o_inl h
  refine r_loop2 64 0 (fun (x13, x14) => ⟨[(3, .ref 3 0), (5, .int .i64 x2.Kind), (7, .bool r3.2), (8, lstOf (.own 100008) (x14 : (List T_api_End))), (9, .int .i64 x13)], [(3, .cells (cellsOf a1))], [(100008, (((x14).map cellsOf).length, 2))], []⟩) (fun x19 => ⟨[(8, lstOf (.own 100008) (x19 : (List T_api_End)))], [], [(100008, (((x19).map cellsOf).length, 2))], []⟩) h17 (by kernel_rfl) (fun _ => by kernel_rfl) ?_ ?_
  · rintro ⟨x13, x14⟩ oh16 h16
    unfold d_ref14_Beside_0 at h16
    refine pwp_seq (pwp_seq (r_reg ?_))
    refine zR 2 ?_
    obtain ⟨r20, h18, h16⟩ := o_bind h16
    refine p_call (d_ref06_Sides_ok _ r20 h18) (by kernel_rfl) (by kernel_rfl) ?_
    refine zE ?_
    refine q_next ?_
    rcases o_cond h16 with ⟨hb, h16⟩ | ⟨hb, h16⟩
    · refine zT hb ?_
      refine pwp_skip (q_next ?_)
      obtain ⟨o20, h20, h16⟩ := o_inl h16
      refine r_join (o := o20) 64 (fun x22 => ⟨[(3, .ref 3 0), (5, .int .i64 x2.Kind), (7, .bool r3.2), (8, lstOf (.own 100008) (x22 : (List T_api_End))), (9, .int .i64 x13)], [(3, .cells (cellsOf a1))], [(100008, (((x22).map cellsOf).length, 2))], []⟩) ?_ ?_
      · refine pwp_block (pwp_seq (r_reg ?_))
        refine zR 2 ?_
        refine e_segb 5 49 (r3.2 && (!(decide (x13 = a1.In)))) (fun x hx => ?_) ?_
        · rcases b_and hx with ⟨hb, hx⟩ | ⟨hb, hx⟩
          · refine zS 44 hb ?_
            subst hx
            exact zF
          refine zS 44 hb ?_
          subst hx
          exact zF
        refine zR 1 ?_
        refine e_segb 5 55 ((r3.2 && (!(decide (x13 = a1.In)))) && (!(decide (x13 = a1.Out)))) (fun x hx => ?_) ?_
        · rcases b_and hx with ⟨hb, hx⟩ | ⟨hb, hx⟩
          · refine zS 50 hb ?_
            subst hx
            exact zF
          refine zS 50 hb ?_
          subst hx
          exact zF
        refine zN ?_
        refine q_next ?_
        rcases o_cond h20 with ⟨hb, h20⟩ | ⟨hb, h20⟩
        · refine zT hb ?_
          refine r_reg ?_
          refine zR 6 ?_
          obtain ⟨x23, h21, h20⟩ := o_bind h20
          refine p_app (tk := 100008) h21 (by kernel_rfl) (by kernel_rfl) ?_
          refine zE ?_
          refine q_block ?_
          cases h20
          exact zJ
        refine zU hb ?_
        refine pwp_skip (q_block ?_)
        cases h20
        exact zJ
      rintro x22 rfl
      have h16 := o_outl h16
      refine r_reg ?_
      refine zE ?_
      cases h16
      exact zB
    refine zU hb ?_
    refine pwp_exit (q_seq_exit ?_)
    cases h16
    exact zX
  rintro x19 s' rfl hs
  have h := o_outl h
  refine q_block_hit ?_
  refine q_next (pwp_wkr hs ?_)
  refine pwp_seq (r_reg ?_)
  refine zE ?_
  refine q_next (pwp_ret ?_)
  cases h
  exact zQ
theorem d_ref14_Beside_fz (a0 : T_api_Layout) (a1 : T_api_Step) (r : (List T_api_End)) (h : d_ref14_Beside a0 a1 = some r) : PCall Go.Proofs.Tryz.prog GlS 110 [Enc.pv a0, Enc.pv a1] (Enc.pv r) :=
  (d_ref14_Beside_ok a0 a1 r h).freeze (by kernel_rfl) (by kernel_rfl) (by kernel_rfl)

/-! signallingref14.Sides -/
noncomputable def d_ref14_Sides_0 (a0 : T_api_Layout) (a1 : T_api_Route) : (Int × (List T_api_End)) → Option ((Int × (List T_api_End)) ⊕ ((List T_api_End) ⊕ (List T_api_End))) := fun (x8, x9) =>
  bif decide (x8 < ((a1.Path.length : Nat) : Int)) then (
    (ixO a1.Path x8).bind fun x14 =>
    (d_ref14_Beside a0 x14).bind fun r15 =>
    (appO x9 r15).bind fun x16 =>
    some (.inl (w64 (x8 + 1), x16))
  ) else (
    some (.inr (.inl x9))
  )

noncomputable def d_ref14_Sides_1 (a0 : T_api_Layout) (a1 : T_api_Route) : ((List T_api_End) × Int) → Option (((List T_api_End) × Int) ⊕ ((List T_api_End) ⊕ (List T_api_End))) := fun (x20, x21) =>
  bif decide (x21 < ((a1.Over.length : Nat) : Int)) then (
    (ixO a1.Over x21).bind fun x26 =>
    (d_ref14_Beside a0 x26).bind fun r27 =>
    (appO x20 r27).bind fun x28 =>
    some (.inl (x28, w64 (x21 + 1)))
  ) else (
    some (.inr (.inl x20))
  )

noncomputable def d_ref14_Sides (a0 : T_api_Layout) (a1 : T_api_Route) : Option (List T_api_End) :=
  onInl (α := (List T_api_End)) (β := (List T_api_End)) (loopO (d_ref14_Sides_0 a0 a1) (0, ([] : (List T_api_End)))) fun x13 =>
  onInl (α := (List T_api_End)) (β := (List T_api_End)) (loopO (d_ref14_Sides_1 a0 a1) (x13, 0)) fun x25 =>
  some x25
theorem d_ref14_Sides_ok (a0 : T_api_Layout) (a1 : T_api_Route) (r : (List T_api_End)) (h : d_ref14_Sides a0 a1 = some r) : PCall Go.Proofs.Tryz.prog GlS 74 [Enc.pv a0, Enc.pv a1] (lstOf (.own 100005) r) := by
  unfold d_ref14_Sides at h
  refine pcall_of_pwp Go.Proofs.Tryz.func74 (by rfl) rfl Go.Proofs.Tryz.ntmps74 (by rfl) rfl ?_
  refine pwp_seq (r_reg ?_)
  refine zE ?_
  refine q_next (pwp_seq (r_reg ?_))
  refine zE ?_
  refine q_next (pwp_seq (pwp_seq (r_reg ?_)))
  refine zE ?_
  refine q_next (pwp_block ?_)
  refine g_nil 5 100005 2 16 (by kernel_rfl) (by kernel_rfl) ?_
  obtain ⟨o11, h11, h⟩ := o_inl h
  refine r_loop2 41 0 (fun (x8, x9) => ⟨[(2, .ref 2 0), (3, .ref 3 0), (5, lstOf (.own 100005) (x9 : (List T_api_End))), (6, .int .i64 x8)], [(2, .cells (cellsOf a0)), (3, .cells (cellsOf a1))], [(100005, (((x9).map cellsOf).length, 2))], []⟩) (fun x13 => ⟨[(2, .ref 2 0), (3, .ref 3 0), (5, lstOf (.own 100005) (x13 : (List T_api_End)))], [(2, .cells (cellsOf a0)), (3, .cells (cellsOf a1))], [(100005, (((x13).map cellsOf).length, 2))], []⟩) h11 (by kernel_rfl) (fun _ => by kernel_rfl) ?_ ?_
  · rintro ⟨x8, x9⟩ oh10 h10
    unfold d_ref14_Sides_0 at h10
    refine pwp_seq (pwp_seq (r_reg ?_))
    refine zR 3 ?_
    refine p_len (L := (a1.Path : (List T_api_Step))) (by kernel_rfl) ?_
    refine zE ?_
    refine q_next ?_
    rcases o_cond h10 with ⟨hb, h10⟩ | ⟨hb, h10⟩
    · refine zT hb ?_
      refine pwp_skip (q_next (pwp_seq (pwp_block ?_)))
      refine r_regd (by kernel_rfl) (by kernel_rfl) ?_
      refine zR 5 ?_
      obtain ⟨x14, h12, h10⟩ := o_bind h10
      refine zI h12 ?_
      refine zR 1 ?_
      obtain ⟨r15, h13, h10⟩ := o_bind h10
      refine p_call (d_ref14_Beside_fz _ _ r15 h13) (by kernel_rfl) (by kernel_rfl) ?_
      obtain ⟨x16, h14, h10⟩ := o_bind h10
      refine p_app (tk := 100005) h14 (by kernel_rfl) (by kernel_rfl) ?_
      refine zE ?_
      refine q_block (q_next (r_reg ?_))
      refine zE ?_
      cases h10
      exact zB
    refine zU hb ?_
    refine pwp_exit (q_seq_exit ?_)
    cases h10
    exact zX
  rintro x13 s' rfl hs
  have h := o_outl h
  refine q_block_hit ?_
  refine q_next (pwp_wkr hs ?_)
  refine pwp_seq (pwp_seq (r_reg ?_))
  refine zE ?_
  refine q_next (pwp_block ?_)
  obtain ⟨o22, h22, h⟩ := o_inl h
  refine r_loop2 41 2 (fun (x20, x21) => ⟨[(2, .ref 2 0), (3, .ref 3 0), (5, lstOf (.own 100005) (x20 : (List T_api_End))), (7, .int .i64 x21)], [(2, .cells (cellsOf a0)), (3, .cells (cellsOf a1))], [(100005, (((x20).map cellsOf).length, 2))], []⟩) (fun x25 => ⟨[(5, lstOf (.own 100005) (x25 : (List T_api_End)))], [], [(100005, (((x25).map cellsOf).length, 2))], []⟩) h22 (by kernel_rfl) (fun _ => by kernel_rfl) ?_ ?_
  · rintro ⟨x20, x21⟩ oh21 h21
    unfold d_ref14_Sides_1 at h21
    refine pwp_seq (pwp_seq (r_reg ?_))
    refine zR 3 ?_
    refine p_len (L := (a1.Over : (List T_api_Step))) (by kernel_rfl) ?_
    refine zE ?_
    refine q_next ?_
    rcases o_cond h21 with ⟨hb, h21⟩ | ⟨hb, h21⟩
    · refine zT hb ?_
      refine pwp_skip (q_next (pwp_seq (pwp_block ?_)))
      refine r_regd (by kernel_rfl) (by kernel_rfl) ?_
      refine zR 5 ?_
      obtain ⟨x26, h23, h21⟩ := o_bind h21
      refine zI h23 ?_
      refine zR 1 ?_
      obtain ⟨r27, h24, h21⟩ := o_bind h21
      refine p_call (d_ref14_Beside_fz _ _ r27 h24) (by kernel_rfl) (by kernel_rfl) ?_
      obtain ⟨x28, h25, h21⟩ := o_bind h21
      refine p_app (tk := 100005) h25 (by kernel_rfl) (by kernel_rfl) ?_
      refine zE ?_
      refine q_block (q_next (r_reg ?_))
      refine zE ?_
      cases h21
      exact zB
    refine zU hb ?_
    refine pwp_exit (q_seq_exit ?_)
    cases h21
    exact zX
  rintro x25 s' rfl hs
  have h := o_outl h
  refine q_block_hit ?_
  refine q_next (pwp_wkr hs ?_)
  refine pwp_seq (r_reg ?_)
  refine zE ?_
  refine q_next (pwp_ret ?_)
  cases h
  exact zQ
theorem d_ref14_Sides_fz (a0 : T_api_Layout) (a1 : T_api_Route) (r : (List T_api_End)) (h : d_ref14_Sides a0 a1 = some r) : PCall Go.Proofs.Tryz.prog GlS 74 [Enc.pv a0, Enc.pv a1] (Enc.pv r) :=
  (d_ref14_Sides_ok a0 a1 r h).freeze (by kernel_rfl) (by kernel_rfl) (by kernel_rfl)

/-! signallingref14.over -/
noncomputable def d_ref14_over_0 (a0 : (List T_api_Step)) (a1 : Int) : Int → Option (Int ⊕ (Unit ⊕ Bool)) := fun x2 =>
  bif decide (x2 < ((a0.length : Nat) : Int)) then (
    (ixO a0 x2).bind fun x4 =>
    bif decide (x4.El = a1) then (
      some (.inr (.inr true))
    ) else (
      some (.inl (w64 (x2 + 1)))
    )
  ) else (
    some (.inr (.inl ()))
  )

noncomputable def d_ref14_over (a0 : (List T_api_Step)) (a1 : Int) : Option Bool :=
  onInl (α := Unit) (β := Bool) (loopO (d_ref14_over_0 a0 a1) 0) fun _ =>
  some false
theorem d_ref14_over_ok (a0 : (List T_api_Step)) (a1 : Int) (r : Bool) (h : d_ref14_over a0 a1 = some r) : PCall Go.Proofs.Tryz.prog GlS 111 [Enc.pv a0, Enc.pv a1] (Enc.pv r) := by
  unfold d_ref14_over at h
  refine pcall_of_pwp Go.Proofs.Tryz.func111 (by rfl) rfl Go.Proofs.Tryz.ntmps111 (by rfl) rfl ?_
  refine pwp_seq (r_reg ?_)
  refine zE ?_
  refine q_next (pwp_seq (pwp_seq (r_reg ?_)))
  refine zE ?_
  refine q_next (pwp_block ?_)
  obtain ⟨o6, h6, h⟩ := o_inl h
  refine r_loop2 19 0 (fun x2 => ⟨[(0, lstOf .frozen (a0 : (List T_api_Step))), (1, .int .i64 a1), (5, .int .i64 x2)], [], [], []⟩) (fun (_ : Unit) => ⟨[], [], [], []⟩) h6 (by kernel_rfl) (fun _ => by kernel_rfl) ?_ ?_
  · rintro x2 oh5 h5
    unfold d_ref14_over_0 at h5
    refine pwp_seq (pwp_seq (r_reg ?_))
    refine zR 2 ?_
    refine p_len (L := (a0 : (List T_api_Step))) (by kernel_rfl) ?_
    refine zE ?_
    refine q_next ?_
    rcases o_cond h5 with ⟨hb, h5⟩ | ⟨hb, h5⟩
    · refine zT hb ?_
      refine pwp_skip (q_next (pwp_seq (pwp_block (pwp_seq (r_reg ?_)))))
      refine zR 2 ?_
      obtain ⟨x4, h7, h5⟩ := o_bind h5
      refine zI h7 ?_
      refine zE ?_
      refine q_next ?_
      rcases o_cond h5 with ⟨hb, h5⟩ | ⟨hb, h5⟩
      · refine zT hb ?_
        refine pwp_seq (r_reg ?_)
        refine zE ?_
        refine q_next (pwp_ret (q_block_ret (q_seq_ret ?_)))
        cases h5
        refine q_lout_ret fun he => ?_
        subst he
        have h8 := o_outr h
        refine q_block_ret (q_seq_ret ?_)
        cases h8
        exact zQ
      refine zU hb ?_
      refine pwp_skip (q_block (q_next (r_reg ?_)))
      refine zE ?_
      cases h5
      exact zB
    refine zU hb ?_
    refine pwp_exit (q_seq_exit ?_)
    cases h5
    exact zX
  rintro _ s' rfl hs
  have h := o_outl h
  refine q_block_hit ?_
  refine q_next (pwp_wkr hs ?_)
  refine pwp_seq (r_reg ?_)
  refine zE ?_
  refine q_next (pwp_ret ?_)
  cases h
  exact zQ

/-! signallingref14.has -/
noncomputable def d_ref14_has_0 (a0 : (List T_api_Setting)) (a1 : T_api_Setting) : Int → Option (Int ⊕ (Unit ⊕ Bool)) := fun x2 =>
  bif decide (x2 < ((a0.length : Nat) : Int)) then (
    (ixO a0 x2).bind fun x4 =>
    bif eq_T_api_Setting x4 a1 then (
      some (.inr (.inr true))
    ) else (
      some (.inl (w64 (x2 + 1)))
    )
  ) else (
    some (.inr (.inl ()))
  )

noncomputable def d_ref14_has (a0 : (List T_api_Setting)) (a1 : T_api_Setting) : Option Bool :=
  onInl (α := Unit) (β := Bool) (loopO (d_ref14_has_0 a0 a1) 0) fun _ =>
  some false
theorem d_ref14_has_ok (a0 : (List T_api_Setting)) (a1 : T_api_Setting) (r : Bool) (h : d_ref14_has a0 a1 = some r) : PCall Go.Proofs.Tryz.prog GlS 114 [Enc.pv a0, Enc.pv a1] (Enc.pv r) := by
  unfold d_ref14_has at h
  refine pcall_of_pwp Go.Proofs.Tryz.func114 (by rfl) rfl Go.Proofs.Tryz.ntmps114 (by rfl) rfl ?_
  refine pwp_seq (r_reg ?_)
  refine zE ?_
  refine q_next (pwp_seq (pwp_seq (r_reg ?_)))
  refine zE ?_
  refine q_next (pwp_block ?_)
  obtain ⟨o6, h6, h⟩ := o_inl h
  refine r_loop2 18 0 (fun x2 => ⟨[(0, lstOf .frozen (a0 : (List T_api_Setting))), (3, .ref 3 0), (5, .int .i64 x2)], [(3, .cells (cellsOf a1))], [], []⟩) (fun (_ : Unit) => ⟨[], [], [], []⟩) h6 (by kernel_rfl) (fun _ => by kernel_rfl) ?_ ?_
  · rintro x2 oh5 h5
    unfold d_ref14_has_0 at h5
    refine pwp_seq (pwp_seq (r_reg ?_))
    refine zR 2 ?_
    refine p_len (L := (a0 : (List T_api_Setting))) (by kernel_rfl) ?_
    refine zE ?_
    refine q_next ?_
    rcases o_cond h5 with ⟨hb, h5⟩ | ⟨hb, h5⟩
    · refine zT hb ?_
      refine pwp_skip (q_next (pwp_seq (pwp_block (pwp_seq ?_))))
      refine r_regd (by kernel_rfl) (by kernel_rfl) ?_
      refine zR 2 ?_
      obtain ⟨x4, h7, h5⟩ := o_bind h5
      refine zI h7 ?_
      refine zE ?_
      refine q_next ?_
      rcases o_cond h5 with ⟨hb, h5⟩ | ⟨hb, h5⟩
      · refine zT hb ?_
        refine pwp_seq (r_reg ?_)
        refine zE ?_
        refine q_next (pwp_ret (q_block_ret (q_seq_ret ?_)))
        cases h5
        refine q_lout_ret fun he => ?_
        subst he
        have h8 := o_outr h
        refine q_block_ret (q_seq_ret ?_)
        cases h8
        exact zQ
      refine zU hb ?_
      refine pwp_skip (q_block (q_next (r_reg ?_)))
      refine zE ?_
      cases h5
      exact zB
    refine zU hb ?_
    refine pwp_exit (q_seq_exit ?_)
    cases h5
    exact zX
  rintro _ s' rfl hs
  have h := o_outl h
  refine q_block_hit ?_
  refine q_next (pwp_wkr hs ?_)
  refine pwp_seq (r_reg ?_)
  refine zE ?_
  refine q_next (pwp_ret ?_)
  cases h
  exact zQ

/-! signallingref14.needs -/
noncomputable def d_ref14_needs (a0 : T_api_Route) (a1 : T_api_Setting) : Option Bool :=
  (d_ref14_has a0.Points a1).bind fun r1 =>
  ((bif r1 then some true else (
    (d_ref14_has a0.OverPoints a1).bind fun r3 =>
    some r3
  )) : Option Bool).bind fun b2 =>
  ((bif b2 then some true else (
    (d_ref14_has a0.Flank a1).bind fun r5 =>
    some r5
  )) : Option Bool).bind fun b4 =>
  some b4
theorem d_ref14_needs_ok (a0 : T_api_Route) (a1 : T_api_Setting) (r : Bool) (h : d_ref14_needs a0 a1 = some r) : PCall Go.Proofs.Tryz.prog GlS 128 [Enc.pv a0, Enc.pv a1] (Enc.pv r) := by
  unfold d_ref14_needs at h
  refine pcall_of_pwp Go.Proofs.Tryz.func128 (by rfl) rfl Go.Proofs.Tryz.ntmps128 (by rfl) rfl ?_
  refine pwp_seq (r_reg ?_)
  refine zE ?_
  refine q_next (pwp_seq (r_reg ?_))
  refine zR 3 ?_
  obtain ⟨r1, h1, h⟩ := o_bind h
  refine p_call (d_ref14_has_ok _ _ r1 h1) (by kernel_rfl) (by kernel_rfl) ?_
  obtain ⟨b2, h2, h⟩ := o_bind h
  refine zR 1 ?_
  refine e_seg 5 14 (.bool b2) ?_ ?_
  · rcases o_cond h2 with ⟨hb, h2⟩ | ⟨hb, h2⟩
    · refine zS 9 hb ?_
      cases h2
      exact zF
    refine zS 9 hb ?_
    refine zR 3 ?_
    obtain ⟨r3, h3, h2⟩ := o_bind h2
    refine p_call (d_ref14_has_ok _ _ r3 h3) (by kernel_rfl) (by kernel_rfl) ?_
    cases h2
    exact zF
  obtain ⟨b4, h4, h⟩ := o_bind h
  refine zR 1 ?_
  refine e_seg 5 20 (.bool b4) ?_ ?_
  · rcases o_cond h4 with ⟨hb, h4⟩ | ⟨hb, h4⟩
    · refine zS 15 hb ?_
      cases h4
      exact zF
    refine zS 15 hb ?_
    refine zR 3 ?_
    obtain ⟨r5, h5, h4⟩ := o_bind h4
    refine p_call (d_ref14_has_ok _ _ r5 h5) (by kernel_rfl) (by kernel_rfl) ?_
    cases h4
    exact zF
  refine zE ?_
  refine q_next (pwp_ret ?_)
  cases h
  exact zQ

/-! signallingref14.leg -/
noncomputable def d_ref14_leg (a0 : T_api_Route) (a1 : T_api_End) : Option (T_api_Setting × Int × Bool) :=
  onInl (α := (Int × Int)) (β := (T_api_Setting × Int × Bool)) (
    bif decide (a1.Side = 2) then (
      some (.inl (2, 1))
    ) else (
      some (.inl (1, 2))
    )
  ) fun (x1, x2) =>
  (d_ref14_needs a0 (T_api_Setting.mk a1.El x1)).bind fun r3 =>
  bif r3 then (
    some ((T_api_Setting.mk 0 0), (-1), false)
  ) else (
    some ((T_api_Setting.mk a1.El x2), (-1), true)
  )
theorem d_ref14_leg_ok (a0 : T_api_Route) (a1 : T_api_End) (r : (T_api_Setting × Int × Bool)) (h : d_ref14_leg a0 a1 = some r) : PCall Go.Proofs.Tryz.prog GlS 112 [Enc.pv a0, Enc.pv a1] (.tup [Enc.pv r.1, Enc.pv r.2.1, Enc.pv r.2.2]) := by
  unfold d_ref14_leg at h
  refine pcall_of_pwp Go.Proofs.Tryz.func112 (by rfl) rfl Go.Proofs.Tryz.ntmps112 (by rfl) rfl ?_
  refine pwp_seq (r_reg ?_)
  refine zE ?_
  refine q_next (pwp_seq (r_reg ?_))
  refine zE ?_
  refine q_next (pwp_seq (r_reg ?_))
  refine zE ?_
  refine q_next ?_
  obtain ⟨o1, h1, h⟩ := o_inl h
  refine r_join (o := o1) 29 (fun (x1, x2) => ⟨[(2, .ref 2 0), (4, .ref 4 0), (7, .ref 7 0), (8, .ref 8 0)], [(2, .cells (cellsOf a0)), (4, .cells ([.int .i64 0, .int .i64 0])), (7, .cells ([.int .i64 a1.El, .int .i64 x1])), (8, .cells ([.int .i64 a1.El, .int .i64 x2]))], [], []⟩) ?_ ?_
  · refine pwp_seq (r_reg ?_)
    refine zE ?_
    refine q_next ?_
    rcases o_cond h1 with ⟨hb, h1⟩ | ⟨hb, h1⟩
    · refine zT hb ?_
      refine pwp_seq (r_reg ?_)
      refine zE ?_
      refine q_next (r_reg ?_)
      refine zE ?_
      cases h1
      exact zJ
    refine zU hb ?_
    refine pwp_skip ?_
    cases h1
    exact zJ
  rintro ⟨x1, x2⟩ rfl
  have h := o_outl h
  refine pwp_seq (pwp_seq (r_reg ?_))
  refine zR 2 ?_
  obtain ⟨r3, h2, h⟩ := o_bind h
  refine p_call (d_ref14_needs_ok _ _ r3 h2) (by kernel_rfl) (by kernel_rfl) ?_
  refine zN ?_
  refine q_next ?_
  rcases o_cond h with ⟨hb, h⟩ | ⟨hb, h⟩
  · refine zT hb ?_
    refine pwp_seq (r_reg ?_)
    refine zE ?_
    refine q_next (pwp_ret (q_seq_ret ?_))
    cases h
    exact zQ
  refine zU hb ?_
  refine pwp_skip (q_next (pwp_seq (r_reg ?_)))
  refine zE ?_
  refine q_next (pwp_ret ?_)
  cases h
  exact zQ

/-! signallingref06.Out -/
noncomputable def d_ref06_Out_0 (a0 : Int) (a1 : Int) (a2 : Int) : Int → Option (Int ⊕ (Unit ⊕ (Int × Bool))) := fun x2 =>
  bif decide (x2 < 4) then (
    (d_ref06_Need a0 a1 x2).bind fun r4 =>
    bif (r4.2 && ((decide (r4.1 = 0)) || (decide (r4.1 = a2)))) then (
      some (.inr (.inr (x2, true)))
    ) else (
      some (.inl (w64 (x2 + 1)))
    )
  ) else (
    some (.inr (.inl ()))
  )

noncomputable def d_ref06_Out (a0 : Int) (a1 : Int) (a2 : Int) : Option (Int × Bool) :=
  onInl (α := Unit) (β := (Int × Bool)) (loopO (d_ref06_Out_0 a0 a1 a2) 0) fun _ =>
  some (0, false)
theorem d_ref06_Out_ok (a0 : Int) (a1 : Int) (a2 : Int) (r : (Int × Bool)) (h : d_ref06_Out a0 a1 a2 = some r) : PCall Go.Proofs.Tryz.prog GlS 113 [Enc.pv a0, Enc.pv a1, Enc.pv a2] (.tup [Enc.pv r.1, Enc.pv r.2]) := by
  unfold d_ref06_Out at h
  refine pcall_of_pwp Go.Proofs.Tryz.func113 (by rfl) rfl Go.Proofs.Tryz.ntmps113 (by rfl) rfl ?_
  refine pwp_seq (r_reg ?_)
  refine zE ?_
  refine q_next (pwp_seq (pwp_seq (r_reg ?_)))
  refine zE ?_
  refine q_next (pwp_block ?_)
  obtain ⟨o6, h6, h⟩ := o_inl h
  refine r_loop2 33 0 (fun x2 => ⟨[(0, .int .i64 a0), (1, .int .i64 a1), (2, .int .i64 a2), (8, .int .i64 x2)], [], [], []⟩) (fun (_ : Unit) => ⟨[], [], [], []⟩) h6 (by kernel_rfl) (fun _ => by kernel_rfl) ?_ ?_
  · rintro x2 oh5 h5
    unfold d_ref06_Out_0 at h5
    refine pwp_seq (pwp_seq (r_reg ?_))
    refine zE ?_
    refine q_next ?_
    rcases o_cond h5 with ⟨hb, h5⟩ | ⟨hb, h5⟩
    · refine zT hb ?_
      refine pwp_skip (q_next (pwp_seq (pwp_block (pwp_seq (r_reg ?_)))))
      refine zR 3 ?_
      obtain ⟨r4, h7, h5⟩ := o_bind h5
      refine p_call (d_ref06_Need_ok _ _ _ r4 h7) (by kernel_rfl) (by kernel_rfl) ?_
      refine zE ?_
      refine q_next (pwp_seq (r_reg ?_))
      refine zR 2 ?_
      refine e_segb 8 31 (r4.2 && ((decide (r4.1 = 0)) || (decide (r4.1 = a2)))) (fun x hx => ?_) ?_
      · rcases b_and hx with ⟨hb, hx⟩ | ⟨hb, hx⟩
        · refine zS 23 hb ?_
          refine zR 3 ?_
          refine f_segb 4 30 ((decide (r4.1 = 0)) || (decide (r4.1 = a2))) (fun x hx => ?_) ?_
          · rcases b_or hx with ⟨hb, hx⟩ | ⟨hb, hx⟩
            · refine zS 26 hb ?_
              subst hx
              exact zF
            refine zS 26 hb ?_
            subst hx
            exact zF
          subst hx
          exact zF
        refine zS 23 hb ?_
        subst hx
        exact zF
      refine zN ?_
      refine q_next ?_
      rcases o_cond h5 with ⟨hb, h5⟩ | ⟨hb, h5⟩
      · refine zT hb ?_
        refine pwp_seq (r_reg ?_)
        refine zE ?_
        refine q_next (pwp_ret (q_block_ret (q_seq_ret ?_)))
        cases h5
        refine q_lout_ret fun he => ?_
        subst he
        have h8 := o_outr h
        refine q_block_ret (q_seq_ret ?_)
        cases h8
        exact zQ
      refine zU hb ?_
      refine pwp_skip (q_block (q_next (r_reg ?_)))
      refine zE ?_
      cases h5
      exact zB
    refine zU hb ?_
    refine pwp_exit (q_seq_exit ?_)
    cases h5
    exact zX
  rintro _ s' rfl hs
  have h := o_outl h
  refine q_block_hit ?_
  refine q_next (pwp_wkr hs ?_)
  refine pwp_seq (r_reg ?_)
  refine zE ?_
  refine q_next (pwp_ret ?_)
  cases h
  exact zQ

end PM
