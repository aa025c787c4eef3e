/-
  Plain functions for the program's functions, and the proofs that the program does them. Printed by den.py.
-/
import Derived.Test.YtoadiglkifiofaaDoorDen3
namespace PM
open Go Go.RowKit
attribute [local irreducible] pops pwp

noncomputable def d_walk_Sections_0 (a0 : T_api_Layout) (a1 : (List T_api_Step)) : (Int × (List (Int × Bool)) × (List Int)) → Option ((Int × (List (Int × Bool)) × (List Int)) ⊕ ((List Int) ⊕ (List Int))) := fun (x23, x24, x25) =>
  bif decide (x23 < ((a1.length : Nat) : Int)) then (
    onInl (α := ((List Int) × (List (Int × Bool)))) (β := ((Int × (List (Int × Bool)) × (List Int)) ⊕ ((List Int) ⊕ (List Int)))) (
      (ixO a1 x23).bind fun x43 =>
      (d_walk_exists a0 x43.El).bind fun r44 =>
      bif (!r44) then (
        some (.inl (x25, x24))
      ) else (
        (ixO a0.Elements x43.El).bind fun x45 =>
        bif (!((mget (x24 : (List (Int × Bool))) x45.Section).getD false)) then (
          (appO x25 [x45.Section]).bind fun x46 =>
          some (.inl (x46, (mset x45.Section true x24)))
        ) else (
          some (.inl (x25, x24))
        )
      )
    ) fun (x41, x42) =>
    some (.inl (w64 (x23 + 1), x42, x41))
  ) else (
    some (.inr (.inl x25))
  )

noncomputable def d_walk_Sections (a0 : T_api_Layout) (a1 : (List T_api_Step)) : Option (List Int) :=
  onInl (α := (List Int)) (β := (List Int)) (loopO (d_walk_Sections_0 a0 a1) (0, ([] : (List (Int × Bool))), ([] : (List Int)))) fun x36 =>
  some x36
theorem d_walk_Sections_ok (a0 : T_api_Layout) (a1 : (List T_api_Step)) (r : (List Int)) (h : d_walk_Sections a0 a1 = some r) : PCall Go.Proofs.Tryd.prog GlS 27 [Enc.pv a0, Enc.pv a1] (lstOf (.own 100005) r) := by
  unfold d_walk_Sections at h
  refine pcall_of_pwp Go.Proofs.Tryd.func27 (by rfl) rfl Go.Proofs.Tryd.ntmps27 (by rfl) rfl ?_
  refine pwp_seq (r_reg ?_)
  refine e_end (by kernel_rfl) ?_
  refine q_next (pwp_seq (r_reg ?_))
  refine e_end (by kernel_rfl) ?_
  refine q_next (pwp_seq (r_reg ?_))
  refine e_end (by kernel_rfl) ?_
  refine q_next (pwp_seq (pwp_seq (r_reg ?_)))
  refine p_run 1 (by kernel_rfl) ?_
  refine p_len (L := (a1 : (List T_api_Step))) (by kernel_rfl) ?_
  refine e_end (by kernel_rfl) ?_
  refine q_next (pwp_block ?_)
  refine g_nil 5 100005 1 8 (by kernel_rfl) (by kernel_rfl) ?_
  obtain ⟨o29, h29, h⟩ := o_inl h
  refine r_loop2 41 0 (fun (x23, x24, x25) => ⟨[(2, .ref 2 0), (5, lstOf (.own 100005) (x25 : (List Int))), (6, .mp 10), (11, lstOf .frozen (a1 : (List T_api_Step))), (12, .int .i64 ((a1.length : Nat) : Int)), (13, .int .i64 x23)], [(2, .cells (cellsOf a0)), (10, .map (mpOf (x24 : (List (Int × Bool)))))], [(100005, (((x25).map cellsOf).length, 1))], []⟩) (fun x36 => ⟨[(5, lstOf (.own 100005) (x36 : (List Int)))], [], [(100005, (((x36).map cellsOf).length, 1))], []⟩) h29 (by kernel_rfl) (fun _ => by kernel_rfl) ?_ ?_
  · rintro ⟨x23, x24, x25⟩ oh28 h28
    unfold d_walk_Sections_0 at h28
    refine pwp_seq (r_reg ?_)
    refine e_end (by kernel_rfl) ?_
    refine q_next (pwp_seq ?_)
    rcases o_cond h28 with ⟨hb, h28⟩ | ⟨hb, h28⟩
    · refine r_cond_t hb (by kernel_rfl) ?_
      refine pwp_skip (q_next ?_)
      obtain ⟨o34, h34, h28⟩ := o_inl h28
      refine r_join (o := o34) 41 (fun (x41, x42) => ⟨[(2, .ref 2 0), (5, lstOf (.own 100005) (x41 : (List Int))), (6, .mp 10), (11, lstOf .frozen (a1 : (List T_api_Step))), (12, .int .i64 ((a1.length : Nat) : Int)), (13, .int .i64 x23)], [(2, .cells (cellsOf a0)), (10, .map (mpOf (x42 : (List (Int × Bool)))))], [(100005, (((x41).map cellsOf).length, 1))], []⟩) ?_ ?_
      · refine pwp_block (pwp_seq (r_reg ?_))
        obtain ⟨x43, h35, h34⟩ := o_bind h34
        refine p_ix h35 (by kernel_rfl) ?_
        refine e_end (by kernel_rfl) ?_
        refine q_next (pwp_seq (pwp_seq (r_reg ?_)))
        refine p_run 3 (by kernel_rfl) ?_
        obtain ⟨r44, h36, h34⟩ := o_bind h34
        refine p_call (d_walk_exists_ok _ _ r44 h36) (by kernel_rfl) (by kernel_rfl) ?_
        refine e_end (by kernel_rfl) ?_
        refine q_next ?_
        rcases o_cond h34 with ⟨hb, h34⟩ | ⟨hb, h34⟩
        · refine r_cond_t hb (by kernel_rfl) ?_
          refine pwp_exit (q_seq_exit (q_block_hit ?_))
          cases h34
          exact q_join (by kernel_rfl) (by kernel_rfl)
        refine r_cond_f hb (by kernel_rfl) ?_
        refine pwp_skip (q_next (pwp_seq (r_reg ?_)))
        refine p_run 4 (by kernel_rfl) ?_
        obtain ⟨x45, h37, h34⟩ := o_bind h34
        refine p_ix h37 (by kernel_rfl) ?_
        refine e_end (by kernel_rfl) ?_
        refine q_next (pwp_seq (r_reg ?_))
        refine p_run 2 (by kernel_rfl) ?_
        refine p_lookup (m := (x24 : (List (Int × Bool)))) (k := x45.Section) false 10 (by kernel_rfl) (by kernel_rfl) ?_
        refine e_end (by kernel_rfl) ?_
        refine q_next ?_
        rcases o_cond h34 with ⟨hb, h34⟩ | ⟨hb, h34⟩
        · refine r_cond_t hb (by kernel_rfl) ?_
          refine pwp_seq (r_reg ?_)
          refine p_run 2 (by kernel_rfl) ?_
          refine p_mset (m := (x24 : (List (Int × Bool)))) (k := x45.Section) (v := true) 10 (by kernel_rfl) (by kernel_rfl) (by kernel_rfl) ?_
          refine e_nil (by kernel_rfl) ?_
          refine q_next (r_reg ?_)
          refine p_run 3 (by kernel_rfl) ?_
          obtain ⟨x46, h38, h34⟩ := o_bind h34
          refine p_app (tk := 100005) h38 (by kernel_rfl) (by kernel_rfl) ?_
          refine e_end (by kernel_rfl) ?_
          refine q_block ?_
          cases h34
          exact q_join (by kernel_rfl) (by kernel_rfl)
        refine r_cond_f hb (by kernel_rfl) ?_
        refine pwp_skip (q_block ?_)
        cases h34
        exact q_join (by kernel_rfl) (by kernel_rfl)
      rintro ⟨x41, x42⟩ rfl
      have h28 := o_outl h28
      refine r_reg ?_
      refine e_end (by kernel_rfl) ?_
      cases h28
      exact q_lback (by kernel_rfl)
    refine r_cond_f hb (by kernel_rfl) ?_
    refine pwp_exit (q_seq_exit ?_)
    cases h28
    exact q_lexit (by kernel_rfl) (by kernel_rfl)
  rintro x36 s' rfl hs
  have h := o_outl h
  refine q_block_hit ?_
  refine q_next (pwp_wkr hs ?_)
  refine pwp_seq (r_reg ?_)
  refine e_end (by kernel_rfl) ?_
  refine q_next (pwp_ret ?_)
  cases h
  exact q_ret (by kernel_rfl) (by kernel_rfl) (by kernel_rfl)
noncomputable def d_overlap_Find (a0 : T_api_Layout) (a1 : T_api_Route) : Option T_api_Route :=
  (d_overlap_steps a0 a1).bind fun r1 =>
  (d_slices_Clone_api_Step a1.Path).bind fun r2 =>
  (d_slices_Clone_api_Setting a1.Points).bind fun r3 =>
  (d_slices_Clone_int a1.Sections).bind fun r4 =>
  (d_slices_Clone_api_Setting a1.Flank).bind fun r5 =>
  (d_slices_Clone_int a1.Guards).bind fun r6 =>
  (d_slices_Clone_api_End a1.Gaps).bind fun r7 =>
  (d_walk_Settings a0 r1).bind fun r8 =>
  (d_walk_Sections a0 r1).bind fun r9 =>
  some (T_api_Route.mk a1.Name a1.Entry a1.Exit r2 r3 r4 a1.Approach a1.Length r1 r8 r9 r5 r6 r7)
theorem d_overlap_Find_ok (a0 : T_api_Layout) (a1 : T_api_Route) (r : T_api_Route) (h : d_overlap_Find a0 a1 = some r) : PCall Go.Proofs.Tryd.prog GlS 8 [Enc.pv a0, Enc.pv a1] (Enc.pv r) := by
  unfold d_overlap_Find at h
  refine pcall_of_pwp Go.Proofs.Tryd.func8 (by rfl) rfl Go.Proofs.Tryd.ntmps8 (by rfl) rfl ?_
  refine pwp_seq (r_reg ?_)
  refine e_end (by kernel_rfl) ?_
  refine q_next (pwp_seq (r_reg ?_))
  refine p_run 2 (by kernel_rfl) ?_
  obtain ⟨r1, h1, h⟩ := o_bind h
  refine p_call (d_overlap_steps_ok _ _ r1 h1) (by kernel_rfl) (by kernel_rfl) ?_
  refine e_end (by kernel_rfl) ?_
  refine q_next (pwp_seq (r_reg ?_))
  refine p_run 2 (by kernel_rfl) ?_
  obtain ⟨r2, h2, h⟩ := o_bind h
  refine p_call (d_slices_Clone_api_Step_ok _ r2 h2) (by kernel_rfl) (by kernel_rfl) ?_
  refine e_end (by kernel_rfl) ?_
  refine q_next (pwp_seq (r_reg ?_))
  refine p_run 2 (by kernel_rfl) ?_
  obtain ⟨r3, h3, h⟩ := o_bind h
  refine p_call (d_slices_Clone_api_Setting_ok _ r3 h3) (by kernel_rfl) (by kernel_rfl) ?_
  refine e_end (by kernel_rfl) ?_
  refine q_next (pwp_seq (r_reg ?_))
  refine p_run 2 (by kernel_rfl) ?_
  obtain ⟨r4, h4, h⟩ := o_bind h
  refine p_call (d_slices_Clone_int_ok _ r4 h4) (by kernel_rfl) (by kernel_rfl) ?_
  refine e_end (by kernel_rfl) ?_
  refine q_next (pwp_seq (r_reg ?_))
  refine p_run 2 (by kernel_rfl) ?_
  obtain ⟨r5, h5, h⟩ := o_bind h
  refine p_call (d_slices_Clone_api_Setting_ok _ r5 h5) (by kernel_rfl) (by kernel_rfl) ?_
  refine e_end (by kernel_rfl) ?_
  refine q_next (pwp_seq (r_reg ?_))
  refine p_run 2 (by kernel_rfl) ?_
  obtain ⟨r6, h6, h⟩ := o_bind h
  refine p_call (d_slices_Clone_int_ok _ r6 h6) (by kernel_rfl) (by kernel_rfl) ?_
  refine e_end (by kernel_rfl) ?_
  refine q_next (pwp_seq (r_reg ?_))
  refine p_run 2 (by kernel_rfl) ?_
  obtain ⟨r7, h7, h⟩ := o_bind h
  refine p_call (d_slices_Clone_api_End_ok _ r7 h7) (by kernel_rfl) (by kernel_rfl) ?_
  refine e_end (by kernel_rfl) ?_
  refine q_next (pwp_seq (r_reg ?_))
  refine e_end (by kernel_rfl) ?_
  refine q_next (pwp_seq (r_reg ?_))
  refine p_run 2 (by kernel_rfl) ?_
  obtain ⟨r8, h8, h⟩ := o_bind h
  refine p_call (d_walk_Settings_ok _ _ r8 h8) (by kernel_rfl) (by kernel_rfl) ?_
  refine e_end (by kernel_rfl) ?_
  refine q_next (pwp_seq (r_reg ?_))
  refine p_run 2 (by kernel_rfl) ?_
  obtain ⟨r9, h9, h⟩ := o_bind h
  refine p_call (d_walk_Sections_ok _ _ r9 h9) (by kernel_rfl) (by kernel_rfl) ?_
  refine e_end (by kernel_rfl) ?_
  refine q_next (pwp_seq (r_reg ?_))
  refine e_end (by kernel_rfl) ?_
  refine q_next (pwp_ret ?_)
  cases h
  exact q_ret (by kernel_rfl) (by kernel_rfl) (by kernel_rfl)

noncomputable def d_law13_among_0 (a0 : (List Int)) (a1 : Int) : Int → Option (Int ⊕ (Unit ⊕ Bool)) := fun x2 =>
  bif decide (x2 < ((a0.length : Nat) : Int)) then (
    (ixO a0 x2).bind fun x4 =>
    bif decide (x4 = a1) then (
      some (.inr (.inr true))
    ) else (
      some (.inl (w64 (x2 + 1)))
    )
  ) else (
    some (.inr (.inl ()))
  )

noncomputable def d_law13_among (a0 : (List Int)) (a1 : Int) : Option Bool :=
  onInl (α := Unit) (β := Bool) (loopO (d_law13_among_0 a0 a1) 0) fun _ =>
  some false
theorem d_law13_among_ok (a0 : (List Int)) (a1 : Int) (r : Bool) (h : d_law13_among a0 a1 = some r) : PCall Go.Proofs.Tryd.prog GlS 29 [Enc.pv a0, Enc.pv a1] (Enc.pv r) := by
  unfold d_law13_among at h
  refine pcall_of_pwp Go.Proofs.Tryd.func29 (by rfl) rfl Go.Proofs.Tryd.ntmps29 (by rfl) rfl ?_
  refine pwp_seq (r_reg ?_)
  refine e_end (by kernel_rfl) ?_
  refine q_next (pwp_seq (pwp_seq (r_reg ?_)))
  refine p_run 1 (by kernel_rfl) ?_
  refine p_len (L := (a0 : (List Int))) (by kernel_rfl) ?_
  refine e_end (by kernel_rfl) ?_
  refine q_next (pwp_block ?_)
  obtain ⟨o6, h6, h⟩ := o_inl h
  refine r_loop2 17 0 (fun x2 => ⟨[(1, .int .i64 a1), (7, lstOf .frozen (a0 : (List Int))), (8, .int .i64 ((a0.length : Nat) : Int)), (9, .int .i64 x2)], [], [], []⟩) (fun (_ : Unit) => ⟨[], [], [], []⟩) h6 (by kernel_rfl) (fun _ => by kernel_rfl) ?_ ?_
  · rintro x2 oh5 h5
    unfold d_law13_among_0 at h5
    refine pwp_seq (r_reg ?_)
    refine e_end (by kernel_rfl) ?_
    refine q_next (pwp_seq ?_)
    rcases o_cond h5 with ⟨hb, h5⟩ | ⟨hb, h5⟩
    · refine r_cond_t hb (by kernel_rfl) ?_
      refine pwp_skip (q_next (pwp_seq (pwp_block (pwp_seq (r_reg ?_)))))
      obtain ⟨x4, h7, h5⟩ := o_bind h5
      refine p_ix h7 (by kernel_rfl) ?_
      refine e_end (by kernel_rfl) ?_
      refine q_next (pwp_seq (r_reg ?_))
      refine e_end (by kernel_rfl) ?_
      refine q_next ?_
      rcases o_cond h5 with ⟨hb, h5⟩ | ⟨hb, h5⟩
      · refine r_cond_t hb (by kernel_rfl) ?_
        refine pwp_seq (r_reg ?_)
        refine e_end (by kernel_rfl) ?_
        refine q_next (pwp_ret (q_block_ret (q_seq_ret ?_)))
        cases h5
        refine q_lout_ret fun he => ?_
        subst he
        have h8 := o_outr h
        refine q_block_ret (q_seq_ret ?_)
        cases h8
        exact q_ret (by kernel_rfl) (by kernel_rfl) (by kernel_rfl)
      refine r_cond_f hb (by kernel_rfl) ?_
      refine pwp_skip (q_block (q_next (r_reg ?_)))
      refine e_end (by kernel_rfl) ?_
      cases h5
      exact q_lback (by kernel_rfl)
    refine r_cond_f hb (by kernel_rfl) ?_
    refine pwp_exit (q_seq_exit ?_)
    cases h5
    exact q_lexit (by kernel_rfl) (by kernel_rfl)
  rintro _ s' rfl hs
  have h := o_outl h
  refine q_block_hit ?_
  refine q_next (pwp_wkr hs ?_)
  refine pwp_seq (r_reg ?_)
  refine e_end (by kernel_rfl) ?_
  refine q_next (pwp_ret ?_)
  cases h
  exact q_ret (by kernel_rfl) (by kernel_rfl) (by kernel_rfl)

noncomputable def d_law13_apart_0 (a1 : T_api_Route) : (Int × (List Int)) → Option ((Int × (List Int)) ⊕ ((List Int) ⊕ Bool)) := fun (x6, x7) =>
  bif decide (x6 < ((a1.Path.length : Nat) : Int)) then (
    (ixO a1.Path x6).bind fun x11 =>
    (appO x7 [x11.El]).bind fun x12 =>
    some (.inl (w64 (x6 + 1), x12))
  ) else (
    some (.inr (.inl x7))
  )

noncomputable def d_law13_apart_1 (a0 : T_api_Layout) (a1 : T_api_Route) : (Bool × Int × T_api_End × (List Int)) → Option ((Bool × Int × T_api_End × (List Int)) ⊕ (Unit ⊕ Bool)) := fun (x27, x28, x29, x30) =>
  bif decide (x28 < ((a1.Over.length : Nat) : Int)) then (
    (ixO a1.Over x28).bind fun x43 =>
    ((bif (((!x27) || (!(decide (x43.El = x29.El)))) || (!(decide (x43.In = x29.Side)))) then some true else (
      (d_law13_among x30 x43.El).bind fun r45 =>
      some r45
    )) : Option Bool).bind fun b44 =>
    ((bif b44 then some true else (
      (d_ref07_Section a0 x43.El).bind fun r47 =>
      (d_law13_among a1.Sections r47).bind fun r48 =>
      some r48
    )) : Option Bool).bind fun b46 =>
    ((bif b46 then some true else (
      (d_ref07_Section a0 x43.El).bind fun r50 =>
      (d_law13_among a1.OverSections r50).bind fun r51 =>
      some (!r51)
    )) : Option Bool).bind fun b49 =>
    bif b49 then (
      some (.inr (.inr false))
    ) else (
      (ixO a0.Elements x43.El).bind fun x52 =>
      bif (((decide (x52.Kind = 2)) && (decide (x43.In = 0))) && (!(decide (x43.Out = 1)))) then (
        some (.inr (.inr false))
      ) else (
        (appO x30 [x43.El]).bind fun x53 =>
        (d_ref09_Next a0 x43).bind fun r54 =>
        some (.inl (r54.2, w64 (x28 + 1), r54.1, x53))
      )
    )
  ) else (
    some (.inr (.inl ()))
  )

noncomputable def d_law13_apart (a0 : T_api_Layout) (a1 : T_api_Route) : Option Bool :=
  onInl (α := (List Int)) (β := Bool) (loopO (d_law13_apart_0 a1) (0, ([] : (List Int)))) fun x10 =>
  (ixO a0.Signals a1.Exit).bind fun x13 =>
  (d_ref07_Joined a0 x13.At).bind fun r14 =>
  onInl (α := Unit) (β := Bool) (loopO (d_law13_apart_1 a0 a1) (r14.2, 0, r14.1, x10)) fun _ =>
  ((bif decide (((a1.Over.length : Nat) : Int) = 0) then some true else (
    (d_ref09_Valid a0 a1.Over).bind fun r56 =>
    some r56
  )) : Option Bool).bind fun b55 =>
  some b55
theorem d_law13_apart_ok (a0 : T_api_Layout) (a1 : T_api_Route) (r : Bool) (h : d_law13_apart a0 a1 = some r) : PCall Go.Proofs.Tryd.prog GlS 10 [Enc.pv a0, Enc.pv a1] (Enc.pv r) := by
  unfold d_law13_apart at h
  refine pcall_of_pwp Go.Proofs.Tryd.func10 (by rfl) rfl Go.Proofs.Tryd.ntmps10 (by rfl) rfl ?_
  refine pwp_seq (r_reg ?_)
  refine e_end (by kernel_rfl) ?_
  refine q_next (pwp_seq (r_reg ?_))
  refine e_end (by kernel_rfl) ?_
  refine q_next (pwp_seq (pwp_seq (r_reg ?_)))
  refine p_run 2 (by kernel_rfl) ?_
  refine p_len (L := (a1.Path : (List T_api_Step))) (by kernel_rfl) ?_
  refine e_end (by kernel_rfl) ?_
  refine q_next (pwp_block ?_)
  refine pwp_wkr (wkr_fullX 5 100005 1 8 (by kernel_rfl) (by kernel_rfl)) ?_
  obtain ⟨o8, h8, h⟩ := o_inl h
  refine r_loop2 126 0 (fun (x6, x7) => ⟨[(2, .ref 2 0), (3, .ref 3 0), (5, .ex 100005 1 8 (((x7 : (List Int)).map cellsOf).length) 0 (((x7 : (List Int)).map cellsOf).length)), (14, lstOf .frozen (a1.Path : (List T_api_Step))), (15, .int .i64 ((a1.Path.length : Nat) : Int)), (16, .int .i64 x6)], [(2, .cells (cellsOf a0)), (3, .cells (cellsOf a1))], [(100005, (((x7 : (List Int)).map cellsOf).length, 0))], [(100005, (1, (8, (x7 : (List Int)).map cellsOf)))]⟩) (fun x10 => ⟨[(2, .ref 2 0), (3, .ref 3 0), (5, .ex 100005 1 8 (((x10 : (List Int)).map cellsOf).length) 0 (((x10 : (List Int)).map cellsOf).length))], [(2, .cells (cellsOf a0)), (3, .cells (cellsOf a1))], [(100005, (((x10 : (List Int)).map cellsOf).length, 0))], [(100005, (1, (8, (x10 : (List Int)).map cellsOf)))]⟩) h8 (by kernel_rfl) (fun _ => by kernel_rfl) ?_ ?_
  · rintro ⟨x6, x7⟩ oh7 h7
    unfold d_law13_apart_0 at h7
    refine pwp_seq (r_reg ?_)
    refine e_end (by kernel_rfl) ?_
    refine q_next (pwp_seq ?_)
    rcases o_cond h7 with ⟨hb, h7⟩ | ⟨hb, h7⟩
    · refine r_cond_t hb (by kernel_rfl) ?_
      refine pwp_skip (q_next (pwp_seq (pwp_block (pwp_seq (r_reg ?_)))))
      obtain ⟨x11, h9, h7⟩ := o_bind h7
      refine p_ix h9 (by kernel_rfl) ?_
      refine e_end (by kernel_rfl) ?_
      refine q_next (r_reg ?_)
      refine p_run 4 (by kernel_rfl) ?_
      obtain ⟨x12, h10, h7⟩ := o_bind h7
      refine p_xapp (tk := 100005) (N := ((x7 : (List Int)).map cellsOf).length) h10 (by kernel_rfl) (by kernel_rfl) (by kernel_rfl) ?_
      refine e_end (by kernel_rfl) ?_
      refine q_block (q_next (r_reg ?_))
      refine e_end (by kernel_rfl) ?_
      cases h7
      exact q_lback (by kernel_rfl)
    refine r_cond_f hb (by kernel_rfl) ?_
    refine pwp_exit (q_seq_exit ?_)
    cases h7
    exact q_lexit (by kernel_rfl) (by kernel_rfl)
  rintro x10 s' rfl hs
  have h := o_outl h
  refine q_block_hit ?_
  refine q_next (pwp_wkr hs ?_)
  refine pwp_seq ?_
  refine r_regd (by kernel_rfl) (by kernel_rfl) ?_
  refine p_run 5 (by kernel_rfl) ?_
  obtain ⟨x13, h11, h⟩ := o_bind h
  refine p_ix h11 (by kernel_rfl) ?_
  refine p_run 2 (by kernel_rfl) ?_
  obtain ⟨r14, h12, h⟩ := o_bind h
  refine p_call (d_ref07_Joined_ok _ _ r14 h12) (by kernel_rfl) (by kernel_rfl) ?_
  refine e_end (by kernel_rfl) ?_
  refine q_next (pwp_seq (pwp_seq (r_reg ?_)))
  refine p_run 2 (by kernel_rfl) ?_
  refine p_len (L := (a1.Over : (List T_api_Step))) (by kernel_rfl) ?_
  refine e_end (by kernel_rfl) ?_
  refine q_next (pwp_block ?_)
  obtain ⟨o42, h42, h⟩ := o_inl h
  refine r_loop2 126 2 (fun (x27, x28, x29, x30) => ⟨[(2, .ref 2 0), (3, .ref 3 0), (5, .ex 100005 1 8 (((x30 : (List Int)).map cellsOf).length) 0 (((x30 : (List Int)).map cellsOf).length)), (8, .ref 8 0), (9, .bool x27), (39, lstOf .frozen (a1.Over : (List T_api_Step))), (40, .int .i64 ((a1.Over.length : Nat) : Int)), (41, .int .i64 x28)], [(2, .cells (cellsOf a0)), (3, .cells (cellsOf a1)), (8, .cells (cellsOf x29))], [(100005, (((x30 : (List Int)).map cellsOf).length, 0))], [(100005, (1, (8, (x30 : (List Int)).map cellsOf)))]⟩) (fun (_ : Unit) => ⟨[(2, .ref 2 0), (3, .ref 3 0)], [(2, .cells (cellsOf a0)), (3, .cells (cellsOf a1))], [], []⟩) h42 (by kernel_rfl) (fun _ => by kernel_rfl) ?_ ?_
  · rintro ⟨x27, x28, x29, x30⟩ oh41 h41
    unfold d_law13_apart_1 at h41
    refine pwp_seq (r_reg ?_)
    refine e_end (by kernel_rfl) ?_
    refine q_next (pwp_seq ?_)
    rcases o_cond h41 with ⟨hb, h41⟩ | ⟨hb, h41⟩
    · refine r_cond_t hb (by kernel_rfl) ?_
      refine pwp_skip (q_next (pwp_seq (pwp_block (pwp_seq (r_reg ?_)))))
      obtain ⟨x43, h43, h41⟩ := o_bind h41
      refine p_ix h43 (by kernel_rfl) ?_
      refine e_end (by kernel_rfl) ?_
      refine q_next (pwp_seq (pwp_seq ?_))
      refine pwp_wkr (wkr_lock [100005] ⟨[(2, .ref 2 0), (3, .ref 3 0), (5, .ex 500100005 1 8 (((x30 : (List Int)).map cellsOf).length) 0 (((x30 : (List Int)).map cellsOf).length)), (8, .ref 8 0), (9, .bool x27), (11, .ref 11 0), (39, lstOf .frozen (a1.Over : (List T_api_Step))), (40, .int .i64 ((a1.Over.length : Nat) : Int)), (41, .int .i64 x28)], [(2, .cells (cellsOf a0)), (3, .cells (cellsOf a1)), (8, .cells (cellsOf x29)), (11, .cells (cellsOf x43))], [(500100005, (((x30 : (List Int)).map cellsOf).length, 0))], [(500100005, (1, (8, (x30 : (List Int)).map cellsOf)))]⟩ 126 (by kernel_rfl) (by kernel_rfl) (by kernel_rfl)) ?_
      refine r_regd (by kernel_rfl) (by kernel_rfl) ?_
      refine p_run 3 (by kernel_rfl) ?_
      refine e_segb 6 53 ((!x27) || (!(decide (x43.El = x29.El)))) (fun x hx => ?_) ?_
      · rcases b_or hx with ⟨hb, hx⟩ | ⟨hb, hx⟩
        · refine p_settle 47 hb (by kernel_rfl) (by kernel_rfl) ?_
          subst hx
          exact f_end (by kernel_rfl) (by kernel_rfl)
        refine p_settle 47 hb (by kernel_rfl) (by kernel_rfl) ?_
        subst hx
        exact f_end (by kernel_rfl) (by kernel_rfl)
      refine p_run 1 (by kernel_rfl) ?_
      refine e_segb 6 60 (((!x27) || (!(decide (x43.El = x29.El)))) || (!(decide (x43.In = x29.Side)))) (fun x hx => ?_) ?_
      · rcases b_or hx with ⟨hb, hx⟩ | ⟨hb, hx⟩
        · refine p_settle 54 hb (by kernel_rfl) (by kernel_rfl) ?_
          subst hx
          exact f_end (by kernel_rfl) (by kernel_rfl)
        refine p_settle 54 hb (by kernel_rfl) (by kernel_rfl) ?_
        subst hx
        exact f_end (by kernel_rfl) (by kernel_rfl)
      obtain ⟨b44, h44, h41⟩ := o_bind h41
      refine p_run 1 (by kernel_rfl) ?_
      refine e_seg 5 66 (.bool b44) ?_ ?_
      · rcases o_cond h44 with ⟨hb, h44⟩ | ⟨hb, h44⟩
        · refine p_settle 61 hb (by kernel_rfl) (by kernel_rfl) ?_
          cases h44
          exact f_end (by kernel_rfl) (by kernel_rfl)
        refine p_settle 61 hb (by kernel_rfl) (by kernel_rfl) ?_
        refine p_run 3 (by kernel_rfl) ?_
        obtain ⟨r45, h45, h44⟩ := o_bind h44
        refine p_callL [500100005] (d_law13_among_ok _ _ r45 h45) (by kernel_rfl) (by kernel_rfl) (by kernel_rfl) ?_
        cases h44
        exact f_end (by kernel_rfl) (by kernel_rfl)
      obtain ⟨b46, h46, h41⟩ := o_bind h41
      refine p_run 1 (by kernel_rfl) ?_
      refine e_seg 8 75 (.bool b46) ?_ ?_
      · rcases o_cond h46 with ⟨hb, h46⟩ | ⟨hb, h46⟩
        · refine p_settle 67 hb (by kernel_rfl) (by kernel_rfl) ?_
          cases h46
          exact f_end (by kernel_rfl) (by kernel_rfl)
        refine p_settle 67 hb (by kernel_rfl) (by kernel_rfl) ?_
        refine p_run 5 (by kernel_rfl) ?_
        obtain ⟨r47, h47, h46⟩ := o_bind h46
        refine p_call (d_ref07_Section_ok _ _ r47 h47) (by kernel_rfl) (by kernel_rfl) ?_
        obtain ⟨r48, h48, h46⟩ := o_bind h46
        refine p_call (d_law13_among_ok _ _ r48 h48) (by kernel_rfl) (by kernel_rfl) ?_
        cases h46
        exact f_end (by kernel_rfl) (by kernel_rfl)
      obtain ⟨b49, h49, h41⟩ := o_bind h41
      refine p_run 1 (by kernel_rfl) ?_
      refine e_seg 9 85 (.bool b49) ?_ ?_
      · rcases o_cond h49 with ⟨hb, h49⟩ | ⟨hb, h49⟩
        · refine p_settle 76 hb (by kernel_rfl) (by kernel_rfl) ?_
          cases h49
          exact f_end (by kernel_rfl) (by kernel_rfl)
        refine p_settle 76 hb (by kernel_rfl) (by kernel_rfl) ?_
        refine p_run 5 (by kernel_rfl) ?_
        obtain ⟨r50, h50, h49⟩ := o_bind h49
        refine p_call (d_ref07_Section_ok _ _ r50 h50) (by kernel_rfl) (by kernel_rfl) ?_
        obtain ⟨r51, h51, h49⟩ := o_bind h49
        refine p_call (d_law13_among_ok _ _ r51 h51) (by kernel_rfl) (by kernel_rfl) ?_
        cases h49
        exact f_end (by kernel_rfl) (by kernel_rfl)
      refine e_nil (by kernel_rfl) ?_
      refine q_next ?_
      rcases o_cond h41 with ⟨hb, h41⟩ | ⟨hb, h41⟩
      · refine r_cond_t hb (by kernel_rfl) ?_
        refine pwp_seq (r_reg ?_)
        refine e_end (by kernel_rfl) ?_
        refine q_next (pwp_ret (q_seq_ret (q_block_ret (q_seq_ret ?_))))
        cases h41
        refine q_lout_ret fun he => ?_
        subst he
        have h52 := o_outr h
        refine q_block_ret (q_seq_ret ?_)
        cases h52
        exact q_ret (by kernel_rfl) (by kernel_rfl) (by kernel_rfl)
      refine r_cond_f hb (by kernel_rfl) ?_
      refine pwp_skip (q_next (pwp_seq (pwp_seq (r_reg ?_))))
      refine p_run 4 (by kernel_rfl) ?_
      obtain ⟨x52, h53, h41⟩ := o_bind h41
      refine p_ix h53 (by kernel_rfl) ?_
      refine p_run 4 (by kernel_rfl) ?_
      refine e_segb 4 98 ((decide (x52.Kind = 2)) && (decide (x43.In = 0))) (fun x hx => ?_) ?_
      · rcases b_and hx with ⟨hb, hx⟩ | ⟨hb, hx⟩
        · refine p_settle 94 hb (by kernel_rfl) (by kernel_rfl) ?_
          subst hx
          exact f_end (by kernel_rfl) (by kernel_rfl)
        refine p_settle 94 hb (by kernel_rfl) (by kernel_rfl) ?_
        subst hx
        exact f_end (by kernel_rfl) (by kernel_rfl)
      refine p_run 1 (by kernel_rfl) ?_
      refine e_segb 4 103 (((decide (x52.Kind = 2)) && (decide (x43.In = 0))) && (!(decide (x43.Out = 1)))) (fun x hx => ?_) ?_
      · rcases b_and hx with ⟨hb, hx⟩ | ⟨hb, hx⟩
        · refine p_settle 99 hb (by kernel_rfl) (by kernel_rfl) ?_
          subst hx
          exact f_end (by kernel_rfl) (by kernel_rfl)
        refine p_settle 99 hb (by kernel_rfl) (by kernel_rfl) ?_
        subst hx
        exact f_end (by kernel_rfl) (by kernel_rfl)
      refine e_nil (by kernel_rfl) ?_
      refine q_next ?_
      rcases o_cond h41 with ⟨hb, h41⟩ | ⟨hb, h41⟩
      · refine r_cond_t hb (by kernel_rfl) ?_
        refine pwp_seq (r_reg ?_)
        refine e_end (by kernel_rfl) ?_
        refine q_next (pwp_ret (q_seq_ret (q_block_ret (q_seq_ret ?_))))
        cases h41
        refine q_lout_ret fun he => ?_
        subst he
        have h54 := o_outr h
        refine q_block_ret (q_seq_ret ?_)
        cases h54
        exact q_ret (by kernel_rfl) (by kernel_rfl) (by kernel_rfl)
      refine r_cond_f hb (by kernel_rfl) ?_
      refine pwp_skip (q_next (pwp_seq ?_))
      refine pwp_wkr (wkr_lock [100005] ⟨[(2, .ref 2 0), (3, .ref 3 0), (5, .ex 100005 1 8 (((x30 : (List Int)).map cellsOf).length) 0 (((x30 : (List Int)).map cellsOf).length)), (8, .ref 8 0), (11, .ref 11 0), (39, lstOf .frozen (a1.Over : (List T_api_Step))), (40, .int .i64 ((a1.Over.length : Nat) : Int)), (41, .int .i64 x28)], [(2, .cells (cellsOf a0)), (3, .cells (cellsOf a1)), (8, .cells (cellsOf x29)), (11, .cells (cellsOf x43))], [(100005, (((x30 : (List Int)).map cellsOf).length, 0))], [(100005, (1, (8, (x30 : (List Int)).map cellsOf)))]⟩ 126 (by kernel_rfl) (by kernel_rfl) (by kernel_rfl)) ?_
      refine r_reg ?_
      refine p_run 4 (by kernel_rfl) ?_
      obtain ⟨x53, h55, h41⟩ := o_bind h41
      refine p_xapp (tk := 100005) (N := ((x30 : (List Int)).map cellsOf).length) h55 (by kernel_rfl) (by kernel_rfl) (by kernel_rfl) ?_
      refine e_end (by kernel_rfl) ?_
      refine q_next (r_reg ?_)
      refine p_run 2 (by kernel_rfl) ?_
      obtain ⟨r54, h56, h41⟩ := o_bind h41
      refine p_call (d_ref09_Next_ok _ _ r54 h56) (by kernel_rfl) (by kernel_rfl) ?_
      refine e_end (by kernel_rfl) ?_
      refine q_block (q_next (r_reg ?_))
      refine e_end (by kernel_rfl) ?_
      cases h41
      exact q_lback (by kernel_rfl)
    refine r_cond_f hb (by kernel_rfl) ?_
    refine pwp_exit (q_seq_exit ?_)
    cases h41
    exact q_lexit (by kernel_rfl) (by kernel_rfl)
  rintro _ s' rfl hs
  have h := o_outl h
  refine q_block_hit ?_
  refine q_next (pwp_wkr hs ?_)
  refine pwp_seq (r_reg ?_)
  refine p_run 2 (by kernel_rfl) ?_
  refine p_len (L := (a1.Over : (List T_api_Step))) (by kernel_rfl) ?_
  obtain ⟨b55, h57, h⟩ := o_bind h
  refine p_run 2 (by kernel_rfl) ?_
  refine e_seg 5 125 (.bool b55) ?_ ?_
  · rcases o_cond h57 with ⟨hb, h57⟩ | ⟨hb, h57⟩
    · refine p_settle 120 hb (by kernel_rfl) (by kernel_rfl) ?_
      cases h57
      exact f_end (by kernel_rfl) (by kernel_rfl)
    refine p_settle 120 hb (by kernel_rfl) (by kernel_rfl) ?_
    refine p_run 3 (by kernel_rfl) ?_
    obtain ⟨r56, h58, h57⟩ := o_bind h57
    refine p_call (d_ref09_Valid_ok _ _ r56 h58) (by kernel_rfl) (by kernel_rfl) ?_
    cases h57
    exact f_end (by kernel_rfl) (by kernel_rfl)
  refine e_end (by kernel_rfl) ?_
  refine q_next (pwp_ret ?_)
  cases h
  exact q_ret (by kernel_rfl) (by kernel_rfl) (by kernel_rfl)

noncomputable def d_ref13_Blocked_0 (a2 : (List T_api_Step)) (a3 : Int) : Int → Option (Int ⊕ (Unit ⊕ Bool)) := fun x2 =>
  bif decide (x2 < ((a2.length : Nat) : Int)) then (
    (ixO a2 x2).bind fun x4 =>
    bif decide (x4.El = a3) then (
      some (.inr (.inr true))
    ) else (
      some (.inl (w64 (x2 + 1)))
    )
  ) else (
    some (.inr (.inl ()))
  )

noncomputable def d_ref13_Blocked_1 (a0 : T_api_Layout) (a1 : T_api_Route) (a3 : Int) : Int → Option (Int ⊕ (Unit ⊕ Bool)) := fun x7 =>
  bif decide (x7 < ((a1.Sections.length : Nat) : Int)) then (
    (ixO a1.Sections x7).bind fun x10 =>
    (d_ref07_Section a0 a3).bind fun r11 =>
    bif decide (x10 = r11) then (
      some (.inr (.inr true))
    ) else (
      some (.inl (w64 (x7 + 1)))
    )
  ) else (
    some (.inr (.inl ()))
  )

noncomputable def d_ref13_Blocked (a0 : T_api_Layout) (a1 : T_api_Route) (a2 : (List T_api_Step)) (a3 : Int) : Option Bool :=
  onInl (α := Unit) (β := Bool) (loopO (d_ref13_Blocked_0 a2 a3) 0) fun _ =>
  onInl (α := Unit) (β := Bool) (loopO (d_ref13_Blocked_1 a0 a1 a3) 0) fun _ =>
  some false
theorem d_ref13_Blocked_ok (a0 : T_api_Layout) (a1 : T_api_Route) (a2 : (List T_api_Step)) (a3 : Int) (r : Bool) (h : d_ref13_Blocked a0 a1 a2 a3 = some r) : PCall Go.Proofs.Tryd.prog GlS 14 [Enc.pv a0, Enc.pv a1, Enc.pv a2, Enc.pv a3] (Enc.pv r) := by
  unfold d_ref13_Blocked at h
  refine pcall_of_pwp Go.Proofs.Tryd.func14 (by rfl) rfl Go.Proofs.Tryd.ntmps14 (by rfl) rfl ?_
  refine pwp_seq (r_reg ?_)
  refine e_end (by kernel_rfl) ?_
  refine q_next (pwp_seq (pwp_seq (r_reg ?_)))
  refine p_run 1 (by kernel_rfl) ?_
  refine p_len (L := (a2 : (List T_api_Step))) (by kernel_rfl) ?_
  refine e_end (by kernel_rfl) ?_
  refine q_next (pwp_block ?_)
  obtain ⟨o6, h6, h⟩ := o_inl h
  refine r_loop2 37 0 (fun x2 => ⟨[(3, .int .i64 a3), (4, .ref 4 0), (5, .ref 5 0), (13, lstOf .frozen (a2 : (List T_api_Step))), (14, .int .i64 ((a2.length : Nat) : Int)), (15, .int .i64 x2)], [(4, .cells (cellsOf a0)), (5, .cells (cellsOf a1))], [], []⟩) (fun (_ : Unit) => ⟨[(3, .int .i64 a3), (4, .ref 4 0), (5, .ref 5 0)], [(4, .cells (cellsOf a0)), (5, .cells (cellsOf a1))], [], []⟩) h6 (by kernel_rfl) (fun _ => by kernel_rfl) ?_ ?_
  · rintro x2 oh5 h5
    unfold d_ref13_Blocked_0 at h5
    refine pwp_seq (r_reg ?_)
    refine e_end (by kernel_rfl) ?_
    refine q_next (pwp_seq ?_)
    rcases o_cond h5 with ⟨hb, h5⟩ | ⟨hb, h5⟩
    · refine r_cond_t hb (by kernel_rfl) ?_
      refine pwp_skip (q_next (pwp_seq (pwp_block (pwp_seq (r_reg ?_)))))
      obtain ⟨x4, h7, h5⟩ := o_bind h5
      refine p_ix h7 (by kernel_rfl) ?_
      refine e_end (by kernel_rfl) ?_
      refine q_next (pwp_seq (r_reg ?_))
      refine e_end (by kernel_rfl) ?_
      refine q_next ?_
      rcases o_cond h5 with ⟨hb, h5⟩ | ⟨hb, h5⟩
      · refine r_cond_t hb (by kernel_rfl) ?_
        refine pwp_seq (r_reg ?_)
        refine e_end (by kernel_rfl) ?_
        refine q_next (pwp_ret (q_block_ret (q_seq_ret ?_)))
        cases h5
        refine q_lout_ret fun he => ?_
        subst he
        have h8 := o_outr h
        refine q_block_ret (q_seq_ret ?_)
        cases h8
        exact q_ret (by kernel_rfl) (by kernel_rfl) (by kernel_rfl)
      refine r_cond_f hb (by kernel_rfl) ?_
      refine pwp_skip (q_block (q_next (r_reg ?_)))
      refine e_end (by kernel_rfl) ?_
      cases h5
      exact q_lback (by kernel_rfl)
    refine r_cond_f hb (by kernel_rfl) ?_
    refine pwp_exit (q_seq_exit ?_)
    cases h5
    exact q_lexit (by kernel_rfl) (by kernel_rfl)
  rintro _ s' rfl hs
  have h := o_outl h
  refine q_block_hit ?_
  refine q_next (pwp_wkr hs ?_)
  refine pwp_seq (pwp_seq (r_reg ?_))
  refine p_run 2 (by kernel_rfl) ?_
  refine p_len (L := (a1.Sections : (List Int))) (by kernel_rfl) ?_
  refine e_end (by kernel_rfl) ?_
  refine q_next (pwp_block ?_)
  obtain ⟨o16, h16, h⟩ := o_inl h
  refine r_loop2 37 2 (fun x7 => ⟨[(3, .int .i64 a3), (4, .ref 4 0), (25, lstOf .frozen (a1.Sections : (List Int))), (26, .int .i64 ((a1.Sections.length : Nat) : Int)), (27, .int .i64 x7)], [(4, .cells (cellsOf a0))], [], []⟩) (fun (_ : Unit) => ⟨[], [], [], []⟩) h16 (by kernel_rfl) (fun _ => by kernel_rfl) ?_ ?_
  · rintro x7 oh15 h15
    unfold d_ref13_Blocked_1 at h15
    refine pwp_seq (r_reg ?_)
    refine e_end (by kernel_rfl) ?_
    refine q_next (pwp_seq ?_)
    rcases o_cond h15 with ⟨hb, h15⟩ | ⟨hb, h15⟩
    · refine r_cond_t hb (by kernel_rfl) ?_
      refine pwp_skip (q_next (pwp_seq (pwp_block (pwp_seq (r_reg ?_)))))
      obtain ⟨x10, h17, h15⟩ := o_bind h15
      refine p_ix h17 (by kernel_rfl) ?_
      refine e_end (by kernel_rfl) ?_
      refine q_next (pwp_seq (r_reg ?_))
      refine p_run 3 (by kernel_rfl) ?_
      obtain ⟨r11, h18, h15⟩ := o_bind h15
      refine p_call (d_ref07_Section_ok _ _ r11 h18) (by kernel_rfl) (by kernel_rfl) ?_
      refine e_end (by kernel_rfl) ?_
      refine q_next ?_
      rcases o_cond h15 with ⟨hb, h15⟩ | ⟨hb, h15⟩
      · refine r_cond_t hb (by kernel_rfl) ?_
        refine pwp_seq (r_reg ?_)
        refine e_end (by kernel_rfl) ?_
        refine q_next (pwp_ret (q_block_ret (q_seq_ret ?_)))
        cases h15
        refine q_lout_ret fun he => ?_
        subst he
        have h19 := o_outr h
        refine q_block_ret (q_seq_ret ?_)
        cases h19
        exact q_ret (by kernel_rfl) (by kernel_rfl) (by kernel_rfl)
      refine r_cond_f hb (by kernel_rfl) ?_
      refine pwp_skip (q_block (q_next (r_reg ?_)))
      refine e_end (by kernel_rfl) ?_
      cases h15
      exact q_lback (by kernel_rfl)
    refine r_cond_f hb (by kernel_rfl) ?_
    refine pwp_exit (q_seq_exit ?_)
    cases h15
    exact q_lexit (by kernel_rfl) (by kernel_rfl)
  rintro _ s' rfl hs
  have h := o_outl h
  refine q_block_hit ?_
  refine q_next (pwp_wkr hs ?_)
  refine pwp_seq (r_reg ?_)
  refine e_end (by kernel_rfl) ?_
  refine q_next (pwp_ret ?_)
  cases h
  exact q_ret (by kernel_rfl) (by kernel_rfl) (by kernel_rfl)

noncomputable def d_law13_OverlapApart_0 (a0 : T_api_Layout) (r3 : ((List T_api_Route) × Int)) : Int → Option (Int ⊕ (Unit ⊕ Bool)) := fun x56 =>
  bif ((decide (x56 < ((r3.1.length : Nat) : Int))) && (decide (r3.2 = 0))) then (
    onInl (α := Unit) (β := (Int ⊕ (Unit ⊕ Bool))) (
      (ixO r3.1 x56).bind fun x135 =>
      (d_overlap_Find a0 x135).bind fun r136 =>
      bif decide (r136.Exit < 0) then (
        ((bif decide (0 < (w64 ((w64 (((r136.Over.length : Nat) : Int) + ((r136.OverPoints.length : Nat) : Int))) + ((r136.OverSections.length : Nat) : Int)))) then some true else (
          (d_overlap_Whole a0 r136).bind fun r138 =>
          some (!r138)
        )) : Option Bool).bind fun b137 =>
        bif b137 then (
          some (.inr (.inr (.inr false)))
        ) else (
          some (.inl ())
        )
      ) else (
        (d_law13_apart a0 r136).bind fun r139 =>
        bif (!r139) then (
          some (.inr (.inr (.inr false)))
        ) else (
          (d_overlap_Length a0 r136).bind fun r140 =>
          (ixO a0.Signals r136.Exit).bind fun x141 =>
          (d_ref07_Joined a0 x141.At).bind fun r142 =>
          onInl (α := (Bool × Int × Int)) (β := (Unit ⊕ (Int ⊕ (Unit ⊕ Bool)))) (
            bif decide (0 < ((r136.Over.length : Nat) : Int)) then (
              (ixO r136.Over (w64 (((r136.Over.length : Nat) : Int) - 1))).bind fun x150 =>
              (d_ref09_Next a0 x150).bind fun r151 =>
              (ixO a0.Elements x150.El).bind fun x152 =>
              (ixO a0.Signals r136.Exit).bind fun x153 =>
              bif decide (x153.Overlap ≤ (w64 (r140 - x152.Length))) then (
                some (.inr (.inr (.inr (.inr false))))
              ) else (
                some (.inl (r151.2, r151.1.El, r151.1.Side))
              )
            ) else (
              some (.inl (r142.2, r142.1.El, r142.1.Side))
            )
          ) fun (x147, x148, x149) =>
          (ixO a0.Signals r136.Exit).bind fun x154 =>
          ((bif decide (r140 < x154.Overlap) then (
            (d_overlap_Whole a0 r136).bind fun r156 =>
            ((bif r156 then some true else (
              ((bif x147 then (
                some (decide (((r136.Over.length : Nat) : Int) < 12))
              ) else some false) : Option Bool).bind fun b158 =>
              ((bif b158 then (
                (d_ref13_Blocked a0 r136 r136.Over x148).bind fun r160 =>
                some (!r160)
              ) else some false) : Option Bool).bind fun b159 =>
              some b159
            )) : Option Bool).bind fun b157 =>
            some b157
          ) else some false) : Option Bool).bind fun b155 =>
          bif b155 then (
            some (.inr (.inr (.inr false)))
          ) else (
            some (.inl ())
          )
        )
      )
    ) fun _ =>
    some (.inl (w64 (x56 + 1)))
  ) else (
    some (.inr (.inl ()))
  )

noncomputable def d_law13_OverlapApart (a0 : T_api_Layout) : Option Bool :=
  (d_law13_good a0).bind fun r1 =>
  bif (!r1) then (
    (d_law13_alive ).bind fun r2 =>
    some r2
  ) else (
    (d_ref12_All a0).bind fun r3 =>
    onInl (α := Unit) (β := Bool) (loopO (d_law13_OverlapApart_0 a0 r3) 0) fun _ =>
    (d_law13_alive ).bind fun r161 =>
    some r161
  )
theorem d_law13_OverlapApart_ok (a0 : T_api_Layout) (r : Bool) (h : d_law13_OverlapApart a0 = some r) : PCall Go.Proofs.Tryd.prog GlS 3 [Enc.pv a0] (Enc.pv r) := by
  unfold d_law13_OverlapApart at h
  refine pcall_of_pwp Go.Proofs.Tryd.func3 (by rfl) rfl Go.Proofs.Tryd.ntmps3 (by rfl) rfl ?_
  refine pwp_seq (r_reg ?_)
  refine e_end (by kernel_rfl) ?_
  refine q_next (pwp_seq (pwp_seq (r_reg ?_)))
  refine p_run 1 (by kernel_rfl) ?_
  obtain ⟨r1, h1, h⟩ := o_bind h
  refine p_call (d_law13_good_ok _ r1 h1) (by kernel_rfl) (by kernel_rfl) ?_
  refine e_end (by kernel_rfl) ?_
  refine q_next ?_
  rcases o_cond h with ⟨hb, h⟩ | ⟨hb, h⟩
  · refine r_cond_t hb (by kernel_rfl) ?_
    refine pwp_seq (r_reg ?_)
    obtain ⟨r2, h2, h⟩ := o_bind h
    refine p_call (d_law13_alive_ok  r2 h2) (by kernel_rfl) (by kernel_rfl) ?_
    refine e_end (by kernel_rfl) ?_
    refine q_next (pwp_ret (q_seq_ret ?_))
    cases h
    exact q_ret (by kernel_rfl) (by kernel_rfl) (by kernel_rfl)
  refine r_cond_f hb (by kernel_rfl) ?_
  refine pwp_skip (q_next (pwp_seq (r_reg ?_)))
  refine p_run 1 (by kernel_rfl) ?_
  obtain ⟨r3, h3, h⟩ := o_bind h
  refine p_call (d_ref12_All_ok _ r3 h3) (by kernel_rfl) (by kernel_rfl) ?_
  refine e_end (by kernel_rfl) ?_
  refine q_next (pwp_seq (pwp_seq (r_reg ?_)))
  refine e_end (by kernel_rfl) ?_
  refine q_next (pwp_block ?_)
  obtain ⟨o151, h151, h⟩ := o_inl h
  refine r_loop2 145 0 (fun x56 => ⟨[(1, .ref 1 0), (3, lstOf .frozen (r3.1 : (List T_api_Route))), (4, .int .i64 r3.2), (5, .int .i64 x56)], [(1, .cells (cellsOf a0))], [], []⟩) (fun (_ : Unit) => ⟨[], [], [], []⟩) h151 (by kernel_rfl) (fun _ => by kernel_rfl) ?_ ?_
  · rintro x56 oh150 h150
    unfold d_law13_OverlapApart_0 at h150
    refine pwp_seq (pwp_seq (r_reg ?_))
    refine p_run 2 (by kernel_rfl) ?_
    refine p_len (L := (r3.1 : (List T_api_Route))) (by kernel_rfl) ?_
    refine p_run 2 (by kernel_rfl) ?_
    refine e_segb 3 27 ((decide (x56 < ((r3.1.length : Nat) : Int))) && (decide (r3.2 = 0))) (fun x hx => ?_) ?_
    · rcases b_and hx with ⟨hb, hx⟩ | ⟨hb, hx⟩
      · refine p_settle 24 hb (by kernel_rfl) (by kernel_rfl) ?_
        subst hx
        exact f_end (by kernel_rfl) (by kernel_rfl)
      refine p_settle 24 hb (by kernel_rfl) (by kernel_rfl) ?_
      subst hx
      exact f_end (by kernel_rfl) (by kernel_rfl)
    refine e_nil (by kernel_rfl) ?_
    refine q_next ?_
    rcases o_cond h150 with ⟨hb, h150⟩ | ⟨hb, h150⟩
    · refine r_cond_t hb (by kernel_rfl) ?_
      refine pwp_skip (q_next ?_)
      obtain ⟨o188, h188, h150⟩ := o_inl h150
      refine r_join (o := o188) 145 (fun (_ : Unit) => ⟨[(1, .ref 1 0), (3, lstOf .frozen (r3.1 : (List T_api_Route))), (4, .int .i64 r3.2), (5, .int .i64 x56)], [(1, .cells (cellsOf a0))], [], []⟩) ?_ ?_
      · refine pwp_block (pwp_seq ?_)
        refine r_regd (by kernel_rfl) (by kernel_rfl) ?_
        refine p_run 3 (by kernel_rfl) ?_
        obtain ⟨x135, h189, h188⟩ := o_bind h188
        refine p_ix h189 (by kernel_rfl) ?_
        refine p_run 1 (by kernel_rfl) ?_
        obtain ⟨r136, h190, h188⟩ := o_bind h188
        refine p_call (d_overlap_Find_ok _ _ r136 h190) (by kernel_rfl) (by kernel_rfl) ?_
        refine e_end (by kernel_rfl) ?_
        refine q_next (pwp_seq (pwp_seq (r_reg ?_)))
        refine e_end (by kernel_rfl) ?_
        refine q_next ?_
        rcases o_cond h188 with ⟨hb, h188⟩ | ⟨hb, h188⟩
        · refine r_cond_t hb (by kernel_rfl) ?_
          refine pwp_seq (pwp_seq (r_reg ?_))
          refine p_run 2 (by kernel_rfl) ?_
          refine p_len (L := (r136.Over : (List T_api_Step))) (by kernel_rfl) ?_
          refine p_run 2 (by kernel_rfl) ?_
          refine p_len (L := (r136.OverPoints : (List T_api_Setting))) (by kernel_rfl) ?_
          refine p_run 3 (by kernel_rfl) ?_
          refine p_len (L := (r136.OverSections : (List Int))) (by kernel_rfl) ?_
          obtain ⟨b137, h191, h188⟩ := o_bind h188
          refine p_run 3 (by kernel_rfl) ?_
          refine e_seg 5 56 (.bool b137) ?_ ?_
          · rcases o_cond h191 with ⟨hb, h191⟩ | ⟨hb, h191⟩
            · refine p_settle 51 hb (by kernel_rfl) (by kernel_rfl) ?_
              cases h191
              exact f_end (by kernel_rfl) (by kernel_rfl)
            refine p_settle 51 hb (by kernel_rfl) (by kernel_rfl) ?_
            refine p_run 2 (by kernel_rfl) ?_
            obtain ⟨r138, h192, h191⟩ := o_bind h191
            refine p_call (d_overlap_Whole_ok _ _ r138 h192) (by kernel_rfl) (by kernel_rfl) ?_
            cases h191
            exact f_end (by kernel_rfl) (by kernel_rfl)
          refine e_nil (by kernel_rfl) ?_
          refine q_next ?_
          rcases o_cond h188 with ⟨hb, h188⟩ | ⟨hb, h188⟩
          · refine r_cond_t hb (by kernel_rfl) ?_
            refine pwp_seq (r_reg ?_)
            refine e_end (by kernel_rfl) ?_
            refine q_next (pwp_ret (q_seq_ret (q_seq_ret (q_block_ret ?_))))
            cases h188
            refine q_jout_ret ?_
            have h193 := o_outr h150
            cases h193
            refine q_lout_ret fun he => ?_
            subst he
            have h194 := o_outr h
            refine q_block_ret (q_seq_ret ?_)
            cases h194
            exact q_ret (by kernel_rfl) (by kernel_rfl) (by kernel_rfl)
          refine r_cond_f hb (by kernel_rfl) ?_
          refine pwp_skip (q_next (pwp_exit (q_seq_exit (q_block_hit ?_))))
          cases h188
          exact q_join (by kernel_rfl) (by kernel_rfl)
        refine r_cond_f hb (by kernel_rfl) ?_
        refine pwp_skip (q_next (pwp_seq (pwp_seq (r_reg ?_))))
        refine p_run 2 (by kernel_rfl) ?_
        obtain ⟨r139, h195, h188⟩ := o_bind h188
        refine p_call (d_law13_apart_ok _ _ r139 h195) (by kernel_rfl) (by kernel_rfl) ?_
        refine e_end (by kernel_rfl) ?_
        refine q_next ?_
        rcases o_cond h188 with ⟨hb, h188⟩ | ⟨hb, h188⟩
        · refine r_cond_t hb (by kernel_rfl) ?_
          refine pwp_seq (r_reg ?_)
          refine e_end (by kernel_rfl) ?_
          refine q_next (pwp_ret (q_seq_ret (q_block_ret ?_)))
          cases h188
          refine q_jout_ret ?_
          have h196 := o_outr h150
          cases h196
          refine q_lout_ret fun he => ?_
          subst he
          have h197 := o_outr h
          refine q_block_ret (q_seq_ret ?_)
          cases h197
          exact q_ret (by kernel_rfl) (by kernel_rfl) (by kernel_rfl)
        refine r_cond_f hb (by kernel_rfl) ?_
        refine pwp_skip (q_next (pwp_seq (r_reg ?_)))
        refine p_run 2 (by kernel_rfl) ?_
        obtain ⟨r140, h198, h188⟩ := o_bind h188
        refine p_call (d_overlap_Length_ok _ _ r140 h198) (by kernel_rfl) (by kernel_rfl) ?_
        refine e_end (by kernel_rfl) ?_
        refine q_next (pwp_seq ?_)
        refine r_regd (by kernel_rfl) (by kernel_rfl) ?_
        refine p_run 5 (by kernel_rfl) ?_
        obtain ⟨x141, h199, h188⟩ := o_bind h188
        refine p_ix h199 (by kernel_rfl) ?_
        refine p_run 2 (by kernel_rfl) ?_
        obtain ⟨r142, h200, h188⟩ := o_bind h188
        refine p_call (d_ref07_Joined_ok _ _ r142 h200) (by kernel_rfl) (by kernel_rfl) ?_
        refine e_end (by kernel_rfl) ?_
        refine q_next ?_
        obtain ⟨o208, h208, h188⟩ := o_inl h188
        refine r_join (o := o208) 145 (fun (x147, x148, x149) => ⟨[(1, .ref 1 0), (3, lstOf .frozen (r3.1 : (List T_api_Route))), (4, .int .i64 r3.2), (5, .int .i64 x56), (6, .ref 6 0), (7, .int .i64 r140), (8, .ref 8 0), (9, .bool x147)], [(1, .cells (cellsOf a0)), (6, .cells (cellsOf r136)), (8, .cells ([.int .i64 x148, .int .i64 x149]))], [], []⟩) ?_ ?_
        · refine pwp_seq (r_reg ?_)
          refine p_run 2 (by kernel_rfl) ?_
          refine p_len (L := (r136.Over : (List T_api_Step))) (by kernel_rfl) ?_
          refine e_end (by kernel_rfl) ?_
          refine q_next ?_
          rcases o_cond h208 with ⟨hb, h208⟩ | ⟨hb, h208⟩
          · refine r_cond_t hb (by kernel_rfl) ?_
            refine pwp_seq (r_reg ?_)
            refine p_run 4 (by kernel_rfl) ?_
            refine p_len (L := (r136.Over : (List T_api_Step))) (by kernel_rfl) ?_
            refine p_run 1 (by kernel_rfl) ?_
            obtain ⟨x150, h209, h208⟩ := o_bind h208
            refine p_ix h209 (by kernel_rfl) ?_
            refine e_end (by kernel_rfl) ?_
            refine q_next (pwp_seq (r_reg ?_))
            refine p_run 2 (by kernel_rfl) ?_
            obtain ⟨r151, h210, h208⟩ := o_bind h208
            refine p_call (d_ref09_Next_ok _ _ r151 h210) (by kernel_rfl) (by kernel_rfl) ?_
            refine e_end (by kernel_rfl) ?_
            refine q_next (pwp_seq ?_)
            refine r_regd (by kernel_rfl) (by kernel_rfl) ?_
            refine p_run 5 (by kernel_rfl) ?_
            obtain ⟨x152, h211, h208⟩ := o_bind h208
            refine p_ix h211 (by kernel_rfl) ?_
            refine p_run 7 (by kernel_rfl) ?_
            obtain ⟨x153, h212, h208⟩ := o_bind h208
            refine p_ix h212 (by kernel_rfl) ?_
            refine e_end (by kernel_rfl) ?_
            refine q_next ?_
            rcases o_cond h208 with ⟨hb, h208⟩ | ⟨hb, h208⟩
            · refine r_cond_t hb (by kernel_rfl) ?_
              refine pwp_seq (r_reg ?_)
              refine e_end (by kernel_rfl) ?_
              refine q_next (pwp_ret ?_)
              cases h208
              refine q_jout_ret ?_
              have h213 := o_outr h188
              refine q_block_ret ?_
              cases h213
              refine q_jout_ret ?_
              have h214 := o_outr h150
              cases h214
              refine q_lout_ret fun he => ?_
              subst he
              have h215 := o_outr h
              refine q_block_ret (q_seq_ret ?_)
              cases h215
              exact q_ret (by kernel_rfl) (by kernel_rfl) (by kernel_rfl)
            refine r_cond_f hb (by kernel_rfl) ?_
            refine pwp_skip ?_
            cases h208
            exact q_join (by kernel_rfl) (by kernel_rfl)
          refine r_cond_f hb (by kernel_rfl) ?_
          refine pwp_skip ?_
          cases h208
          exact q_join (by kernel_rfl) (by kernel_rfl)
        rintro ⟨x147, x148, x149⟩ rfl
        have h188 := o_outl h188
        refine pwp_seq (r_reg ?_)
        refine p_run 5 (by kernel_rfl) ?_
        obtain ⟨x154, h216, h188⟩ := o_bind h188
        refine p_ix h216 (by kernel_rfl) ?_
        obtain ⟨b155, h217, h188⟩ := o_bind h188
        refine p_run 4 (by kernel_rfl) ?_
        refine e_seg 23 143 (.bool b155) ?_ ?_
        · rcases o_cond h217 with ⟨hb, h217⟩ | ⟨hb, h217⟩
          · refine p_settle 120 hb (by kernel_rfl) (by kernel_rfl) ?_
            refine p_run 2 (by kernel_rfl) ?_
            obtain ⟨r156, h218, h217⟩ := o_bind h217
            refine p_call (d_overlap_Whole_ok _ _ r156 h218) (by kernel_rfl) (by kernel_rfl) ?_
            obtain ⟨b157, h219, h217⟩ := o_bind h217
            refine p_run 1 (by kernel_rfl) ?_
            refine f_seg 18 142 (.bool b157) ?_ ?_
            · rcases o_cond h219 with ⟨hb, h219⟩ | ⟨hb, h219⟩
              · refine p_settle 124 hb (by kernel_rfl) (by kernel_rfl) ?_
                cases h219
                exact f_end (by kernel_rfl) (by kernel_rfl)
              refine p_settle 124 hb (by kernel_rfl) (by kernel_rfl) ?_
              obtain ⟨b158, h220, h219⟩ := o_bind h219
              refine p_run 2 (by kernel_rfl) ?_
              refine f_seg 5 131 (.bool b158) ?_ ?_
              · rcases o_cond h220 with ⟨hb, h220⟩ | ⟨hb, h220⟩
                · refine p_settle 126 hb (by kernel_rfl) (by kernel_rfl) ?_
                  refine p_run 2 (by kernel_rfl) ?_
                  refine p_len (L := (r136.Over : (List T_api_Step))) (by kernel_rfl) ?_
                  cases h220
                  exact f_end (by kernel_rfl) (by kernel_rfl)
                refine p_settle 126 hb (by kernel_rfl) (by kernel_rfl) ?_
                cases h220
                exact f_end (by kernel_rfl) (by kernel_rfl)
              obtain ⟨b159, h221, h219⟩ := o_bind h219
              refine p_run 1 (by kernel_rfl) ?_
              refine f_seg 9 141 (.bool b159) ?_ ?_
              · rcases o_cond h221 with ⟨hb, h221⟩ | ⟨hb, h221⟩
                · refine p_settle 132 hb (by kernel_rfl) (by kernel_rfl) ?_
                  refine p_run 6 (by kernel_rfl) ?_
                  obtain ⟨r160, h222, h221⟩ := o_bind h221
                  refine p_call (d_ref13_Blocked_ok _ _ _ _ r160 h222) (by kernel_rfl) (by kernel_rfl) ?_
                  cases h221
                  exact f_end (by kernel_rfl) (by kernel_rfl)
                refine p_settle 132 hb (by kernel_rfl) (by kernel_rfl) ?_
                cases h221
                exact f_end (by kernel_rfl) (by kernel_rfl)
              cases h219
              exact f_end (by kernel_rfl) (by kernel_rfl)
            cases h217
            exact f_end (by kernel_rfl) (by kernel_rfl)
          refine p_settle 120 hb (by kernel_rfl) (by kernel_rfl) ?_
          cases h217
          exact f_end (by kernel_rfl) (by kernel_rfl)
        refine e_nil (by kernel_rfl) ?_
        refine q_next ?_
        rcases o_cond h188 with ⟨hb, h188⟩ | ⟨hb, h188⟩
        · refine r_cond_t hb (by kernel_rfl) ?_
          refine pwp_seq (r_reg ?_)
          refine e_end (by kernel_rfl) ?_
          refine q_next (pwp_ret (q_block_ret ?_))
          cases h188
          refine q_jout_ret ?_
          have h223 := o_outr h150
          cases h223
          refine q_lout_ret fun he => ?_
          subst he
          have h224 := o_outr h
          refine q_block_ret (q_seq_ret ?_)
          cases h224
          exact q_ret (by kernel_rfl) (by kernel_rfl) (by kernel_rfl)
        refine r_cond_f hb (by kernel_rfl) ?_
        refine pwp_skip (q_block ?_)
        cases h188
        exact q_join (by kernel_rfl) (by kernel_rfl)
      rintro _ rfl
      have h150 := o_outl h150
      refine r_reg ?_
      refine e_end (by kernel_rfl) ?_
      cases h150
      exact q_lback (by kernel_rfl)
    refine r_cond_f hb (by kernel_rfl) ?_
    refine pwp_exit (q_seq_exit ?_)
    cases h150
    exact q_lexit (by kernel_rfl) (by kernel_rfl)
  rintro _ s' rfl hs
  have h := o_outl h
  refine q_block_hit ?_
  refine q_next (pwp_wkr hs ?_)
  refine pwp_seq (r_reg ?_)
  obtain ⟨r161, h225, h⟩ := o_bind h
  refine p_call (d_law13_alive_ok  r161 h225) (by kernel_rfl) (by kernel_rfl) ?_
  refine e_end (by kernel_rfl) ?_
  refine q_next (pwp_ret ?_)
  cases h
  exact q_ret (by kernel_rfl) (by kernel_rfl) (by kernel_rfl)

noncomputable def d_ref09_SameSteps_0 (a0 : (List T_api_Step)) (a1 : (List T_api_Step)) : Int → Option (Int ⊕ (Unit ⊕ Bool)) := fun x3 =>
  bif decide (x3 < ((a0.length : Nat) : Int)) then (
    (ixO a0 x3).bind fun x6 =>
    (ixO a1 x3).bind fun x7 =>
    bif (!(eq_T_api_Step x6 x7)) then (
      some (.inr (.inr false))
    ) else (
      some (.inl (w64 (x3 + 1)))
    )
  ) else (
    some (.inr (.inl ()))
  )

noncomputable def d_ref09_SameSteps (a0 : (List T_api_Step)) (a1 : (List T_api_Step)) : Option Bool :=
  bif (!(decide (((a0.length : Nat) : Int) = ((a1.length : Nat) : Int)))) then (
    some false
  ) else (
    onInl (α := Unit) (β := Bool) (loopO (d_ref09_SameSteps_0 a0 a1) 0) fun _ =>
    some true
  )
theorem d_ref09_SameSteps_ok (a0 : (List T_api_Step)) (a1 : (List T_api_Step)) (r : Bool) (h : d_ref09_SameSteps a0 a1 = some r) : PCall Go.Proofs.Tryd.prog GlS 33 [Enc.pv a0, Enc.pv a1] (Enc.pv r) := by
  unfold d_ref09_SameSteps at h
  refine pcall_of_pwp Go.Proofs.Tryd.func33 (by rfl) rfl Go.Proofs.Tryd.ntmps33 (by rfl) rfl ?_
  refine pwp_seq (r_reg ?_)
  refine e_end (by kernel_rfl) ?_
  refine q_next (pwp_seq (pwp_seq (r_reg ?_)))
  refine p_run 1 (by kernel_rfl) ?_
  refine p_len (L := (a0 : (List T_api_Step))) (by kernel_rfl) ?_
  refine p_run 1 (by kernel_rfl) ?_
  refine p_len (L := (a1 : (List T_api_Step))) (by kernel_rfl) ?_
  refine e_end (by kernel_rfl) ?_
  refine q_next ?_
  rcases o_cond h with ⟨hb, h⟩ | ⟨hb, h⟩
  · refine r_cond_t hb (by kernel_rfl) ?_
    refine pwp_seq (r_reg ?_)
    refine e_end (by kernel_rfl) ?_
    refine q_next (pwp_ret (q_seq_ret ?_))
    cases h
    exact q_ret (by kernel_rfl) (by kernel_rfl) (by kernel_rfl)
  refine r_cond_f hb (by kernel_rfl) ?_
  refine pwp_skip (q_next (pwp_seq (pwp_seq (r_reg ?_))))
  refine e_end (by kernel_rfl) ?_
  refine q_next (pwp_block ?_)
  obtain ⟨o8, h8, h⟩ := o_inl h
  refine r_loop2 26 0 (fun x3 => ⟨[(0, lstOf .frozen (a0 : (List T_api_Step))), (1, lstOf .frozen (a1 : (List T_api_Step))), (5, .int .i64 x3)], [], [], []⟩) (fun (_ : Unit) => ⟨[], [], [], []⟩) h8 (by kernel_rfl) (fun _ => by kernel_rfl) ?_ ?_
  · rintro x3 oh7 h7
    unfold d_ref09_SameSteps_0 at h7
    refine pwp_seq (pwp_seq (r_reg ?_))
    refine p_run 2 (by kernel_rfl) ?_
    refine p_len (L := (a0 : (List T_api_Step))) (by kernel_rfl) ?_
    refine e_end (by kernel_rfl) ?_
    refine q_next ?_
    rcases o_cond h7 with ⟨hb, h7⟩ | ⟨hb, h7⟩
    · refine r_cond_t hb (by kernel_rfl) ?_
      refine pwp_skip (q_next (pwp_seq (pwp_block (pwp_seq ?_))))
      refine r_regd (by kernel_rfl) (by kernel_rfl) ?_
      refine p_run 2 (by kernel_rfl) ?_
      obtain ⟨x6, h9, h7⟩ := o_bind h7
      refine p_ix h9 (by kernel_rfl) ?_
      refine p_run 3 (by kernel_rfl) ?_
      obtain ⟨x7, h10, h7⟩ := o_bind h7
      refine p_ix h10 (by kernel_rfl) ?_
      refine e_end (by kernel_rfl) ?_
      refine q_next ?_
      rcases o_cond h7 with ⟨hb, h7⟩ | ⟨hb, h7⟩
      · refine r_cond_t hb (by kernel_rfl) ?_
        refine pwp_seq (r_reg ?_)
        refine e_end (by kernel_rfl) ?_
        refine q_next (pwp_ret (q_block_ret (q_seq_ret ?_)))
        cases h7
        refine q_lout_ret fun he => ?_
        subst he
        have h11 := o_outr h
        refine q_block_ret (q_seq_ret ?_)
        cases h11
        exact q_ret (by kernel_rfl) (by kernel_rfl) (by kernel_rfl)
      refine r_cond_f hb (by kernel_rfl) ?_
      refine pwp_skip (q_block (q_next (r_reg ?_)))
      refine e_end (by kernel_rfl) ?_
      cases h7
      exact q_lback (by kernel_rfl)
    refine r_cond_f hb (by kernel_rfl) ?_
    refine pwp_exit (q_seq_exit ?_)
    cases h7
    exact q_lexit (by kernel_rfl) (by kernel_rfl)
  rintro _ s' rfl hs
  have h := o_outl h
  refine q_block_hit ?_
  refine q_next (pwp_wkr hs ?_)
  refine pwp_seq (r_reg ?_)
  refine e_end (by kernel_rfl) ?_
  refine q_next (pwp_ret ?_)
  cases h
  exact q_ret (by kernel_rfl) (by kernel_rfl) (by kernel_rfl)

noncomputable def d_ref12_SameSteps (a0 : (List T_api_Step)) (a1 : (List T_api_Step)) : Option Bool :=
  (d_ref09_SameSteps a0 a1).bind fun r1 =>
  some r1
theorem d_ref12_SameSteps_ok (a0 : (List T_api_Step)) (a1 : (List T_api_Step)) (r : Bool) (h : d_ref12_SameSteps a0 a1 = some r) : PCall Go.Proofs.Tryd.prog GlS 15 [Enc.pv a0, Enc.pv a1] (Enc.pv r) := by
  unfold d_ref12_SameSteps at h
  refine pcall_of_pwp Go.Proofs.Tryd.func15 (by rfl) rfl Go.Proofs.Tryd.ntmps15 (by rfl) rfl ?_
  refine pwp_seq (r_reg ?_)
  refine e_end (by kernel_rfl) ?_
  refine q_next (pwp_seq (r_reg ?_))
  refine p_run 2 (by kernel_rfl) ?_
  obtain ⟨r1, h1, h⟩ := o_bind h
  refine p_call (d_ref09_SameSteps_ok _ _ r1 h1) (by kernel_rfl) (by kernel_rfl) ?_
  refine e_end (by kernel_rfl) ?_
  refine q_next (pwp_ret ?_)
  cases h
  exact q_ret (by kernel_rfl) (by kernel_rfl) (by kernel_rfl)

noncomputable def d_law13_OverlapGrows_0 (a0 : T_api_Layout) (a2 : Int) (x4 : Int) (x5 : (List T_api_Signal)) (x6 : T_api_Signal) (j7 : Nat) (x8 : T_api_Signal) (r9 : ((List T_api_Route) × Int)) : Int → Option (Int ⊕ (Unit ⊕ Bool)) := fun x20 =>
  bif ((decide (x20 < ((r9.1.length : Nat) : Int))) && (decide (r9.2 = 0))) then (
    (ixO r9.1 x20).bind fun x31 =>
    (d_overlap_Find a0 x31).bind fun r32 =>
    (ixO r9.1 x20).bind fun x33 =>
    (d_overlap_Find (T_api_Layout.mk a0.Name a0.Sections a0.Elements a0.Joints (x5.set j7 (T_api_Signal.mk x8.Name x8.At (min (w64 (x6.Overlap + (w64 a2))) 1000000))) a0.Balises) x33).bind fun r34 =>
    ((bif decide (((r34.Over.length : Nat) : Int) < ((r32.Over.length : Nat) : Int)) then some true else (
      (slO r34.Over none (some ((r32.Over.length : Nat) : Int)) none).bind fun x36 =>
      (d_ref12_SameSteps x36 r32.Over).bind fun r37 =>
      some (!r37)
    )) : Option Bool).bind fun b35 =>
    ((bif b35 then some true else (
      (ixO r9.1 x20).bind fun x39 =>
      ((bif (!(decide (x39.Exit = x4))) then (
        some (decide (((r32.Over.length : Nat) : Int) < ((r34.Over.length : Nat) : Int)))
      ) else some false) : Option Bool).bind fun b40 =>
      some b40
    )) : Option Bool).bind fun b38 =>
    bif b38 then (
      some (.inr (.inr false))
    ) else (
      some (.inl (w64 (x20 + 1)))
    )
  ) else (
    some (.inr (.inl ()))
  )

noncomputable def d_law13_OverlapGrows (a0 : T_api_Layout) (a1 : Int) (a2 : Int) : Option Bool :=
  (d_law13_good a0).bind fun r1 =>
  ((bif (!r1) then some true else (
    some (decide (((a0.Signals.length : Nat) : Int) = 0))
  )) : Option Bool).bind fun b2 =>
  bif b2 then (
    (d_law13_alive ).bind fun r3 =>
    some r3
  ) else (
    (remO (w64 a1) ((a0.Signals.length : Nat) : Int)).bind fun x4 =>
    (appO ([] : (List T_api_Signal)) a0.Signals).bind fun x5 =>
    (ixO a0.Signals x4).bind fun x6 =>
    (xixO 0 (((x5 : (List T_api_Signal)).map cellsOf).length) x4).bind fun j7 =>
    (xldO x5 (((x5 : (List T_api_Signal)).map cellsOf).length) j7).bind fun x8 =>
    (d_ref12_All a0).bind fun r9 =>
    onInl (α := Unit) (β := Bool) (loopO (d_law13_OverlapGrows_0 a0 a2 x4 x5 x6 j7 x8 r9) 0) fun _ =>
    (d_law13_alive ).bind fun r41 =>
    some r41
  )
theorem d_law13_OverlapGrows_ok (a0 : T_api_Layout) (a1 : Int) (a2 : Int) (r : Bool) (h : d_law13_OverlapGrows a0 a1 a2 = some r) : PCall Go.Proofs.Tryd.prog GlS 4 [Enc.pv a0, .int .u8 a1, .int .u16 a2] (Enc.pv r) := by
  unfold d_law13_OverlapGrows at h
  refine pcall_of_pwp Go.Proofs.Tryd.func4 (by rfl) rfl Go.Proofs.Tryd.ntmps4 (by rfl) rfl ?_
  refine pwp_seq (r_reg ?_)
  refine e_end (by kernel_rfl) ?_
  refine q_next (pwp_seq (pwp_seq (r_reg ?_)))
  refine p_run 1 (by kernel_rfl) ?_
  obtain ⟨r1, h1, h⟩ := o_bind h
  refine p_call (d_law13_good_ok _ r1 h1) (by kernel_rfl) (by kernel_rfl) ?_
  obtain ⟨b2, h2, h⟩ := o_bind h
  refine p_run 2 (by kernel_rfl) ?_
  refine e_seg 5 22 (.bool b2) ?_ ?_
  · rcases o_cond h2 with ⟨hb, h2⟩ | ⟨hb, h2⟩
    · refine p_settle 17 hb (by kernel_rfl) (by kernel_rfl) ?_
      cases h2
      exact f_end (by kernel_rfl) (by kernel_rfl)
    refine p_settle 17 hb (by kernel_rfl) (by kernel_rfl) ?_
    refine p_run 2 (by kernel_rfl) ?_
    refine p_len (L := (a0.Signals : (List T_api_Signal))) (by kernel_rfl) ?_
    cases h2
    exact f_end (by kernel_rfl) (by kernel_rfl)
  refine e_nil (by kernel_rfl) ?_
  refine q_next ?_
  rcases o_cond h with ⟨hb, h⟩ | ⟨hb, h⟩
  · refine r_cond_t hb (by kernel_rfl) ?_
    refine pwp_seq (r_reg ?_)
    obtain ⟨r3, h3, h⟩ := o_bind h
    refine p_call (d_law13_alive_ok  r3 h3) (by kernel_rfl) (by kernel_rfl) ?_
    refine e_end (by kernel_rfl) ?_
    refine q_next (pwp_ret (q_seq_ret ?_))
    cases h
    exact q_ret (by kernel_rfl) (by kernel_rfl) (by kernel_rfl)
  refine r_cond_f hb (by kernel_rfl) ?_
  refine pwp_skip (q_next (pwp_seq (r_reg ?_)))
  refine p_run 4 (by kernel_rfl) ?_
  refine p_len (L := (a0.Signals : (List T_api_Signal))) (by kernel_rfl) ?_
  obtain ⟨x4, h4, h⟩ := o_bind h
  refine p_rem h4 (by kernel_rfl) ?_
  refine e_end (by kernel_rfl) ?_
  refine q_next (pwp_seq (r_reg ?_))
  refine e_end (by kernel_rfl) ?_
  refine q_next (pwp_seq (r_reg ?_))
  refine p_run 3 (by kernel_rfl) ?_
  obtain ⟨x5, h5, h⟩ := o_bind h
  refine p_xappB (tk := 34) (x := .lst .full 4 40 []) h5 (.inr ⟨_, _, rfl⟩) (by kernel_rfl) (by kernel_rfl) ?_
  refine e_end (by kernel_rfl) ?_
  refine q_next (pwp_seq ?_)
  refine r_regd (by kernel_rfl) (by kernel_rfl) ?_
  refine p_run 6 (by kernel_rfl) ?_
  obtain ⟨x6, h6, h⟩ := o_bind h
  refine p_ix h6 (by kernel_rfl) ?_
  refine p_run 6 (by kernel_rfl) ?_
  obtain ⟨j7, h7, h⟩ := o_bind h
  refine p_xix (tk := 34) (k := 4) (N := ((x5 : (List T_api_Signal)).map cellsOf).length) h7 (by kernel_rfl) ?_
  refine p_run 1 (by kernel_rfl) ?_
  obtain ⟨x8, h8, h⟩ := o_bind h
  refine p_xst (L := (x5 : (List T_api_Signal))) (tk := 34) (N := ((x5 : (List T_api_Signal)).map cellsOf).length) (j := j7) (y := x8) (y' := (T_api_Signal.mk x8.Name x8.At (min (w64 (x6.Overlap + (w64 a2))) 1000000))) h8 3 1 [.int .i64 (min (w64 (x6.Overlap + (w64 a2))) 1000000)] (by kernel_rfl) (by kernel_rfl) ?_
  refine e_nil (by kernel_rfl) ?_
  refine q_next (pwp_seq (r_reg ?_))
  refine p_run 1 (by kernel_rfl) ?_
  obtain ⟨r9, h9, h⟩ := o_bind h
  refine p_call (d_ref12_All_ok _ r9 h9) (by kernel_rfl) (by kernel_rfl) ?_
  refine e_end (by kernel_rfl) ?_
  refine q_next (pwp_seq (pwp_seq ?_))
  refine pwp_wkr (wkr_share (xss := ((x5.set j7 (T_api_Signal.mk x8.Name x8.At (min (w64 (x6.Overlap + (w64 a2))) 1000000))) : (List T_api_Signal)).map cellsOf) 34 4 40 (((x5 : (List T_api_Signal)).map cellsOf).length) [34, 37] [(8, 4)] (by kernel_rfl) (by kernel_rfl) (by kernel_rfl) (by kernel_rfl)) ?_
  refine r_reg ?_
  refine e_end (by kernel_rfl) ?_
  refine q_next (pwp_block ?_)
  obtain ⟨o33, h33, h⟩ := o_inl h
  refine r_loop2 116 0 (fun x20 => ⟨[(3, .ref 3 0), (7, .int .i64 x4), (8, .ref 8 0), (9, lstOf .frozen (r9.1 : (List T_api_Route))), (10, .int .i64 r9.2), (11, .int .i64 x20)], [(3, .cells (cellsOf a0)), (8, .cells ([.str a0.Name, lstOf .frozen (a0.Sections : (List ByteArray)), lstOf .frozen (a0.Elements : (List T_api_Element)), lstOf .frozen (a0.Joints : (List T_api_Joint)), lstOf .frozen ((x5.set j7 (T_api_Signal.mk x8.Name x8.At (min (w64 (x6.Overlap + (w64 a2))) 1000000))) : (List T_api_Signal)), lstOf .frozen (a0.Balises : (List T_api_Balise))]))], [], []⟩) (fun (_ : Unit) => ⟨[], [], [], []⟩) h33 (by kernel_rfl) (fun _ => by kernel_rfl) ?_ ?_
  · rintro x20 oh32 h32
    unfold d_law13_OverlapGrows_0 at h32
    refine pwp_seq (pwp_seq (r_reg ?_))
    refine p_run 2 (by kernel_rfl) ?_
    refine p_len (L := (r9.1 : (List T_api_Route))) (by kernel_rfl) ?_
    refine p_run 2 (by kernel_rfl) ?_
    refine e_segb 3 63 ((decide (x20 < ((r9.1.length : Nat) : Int))) && (decide (r9.2 = 0))) (fun x hx => ?_) ?_
    · rcases b_and hx with ⟨hb, hx⟩ | ⟨hb, hx⟩
      · refine p_settle 60 hb (by kernel_rfl) (by kernel_rfl) ?_
        subst hx
        exact f_end (by kernel_rfl) (by kernel_rfl)
      refine p_settle 60 hb (by kernel_rfl) (by kernel_rfl) ?_
      subst hx
      exact f_end (by kernel_rfl) (by kernel_rfl)
    refine e_nil (by kernel_rfl) ?_
    refine q_next ?_
    rcases o_cond h32 with ⟨hb, h32⟩ | ⟨hb, h32⟩
    · refine r_cond_t hb (by kernel_rfl) ?_
      refine pwp_skip (q_next (pwp_seq (pwp_block (pwp_seq ?_))))
      refine r_regd (by kernel_rfl) (by kernel_rfl) ?_
      refine p_run 3 (by kernel_rfl) ?_
      obtain ⟨x31, h34, h32⟩ := o_bind h32
      refine p_ix h34 (by kernel_rfl) ?_
      refine p_run 1 (by kernel_rfl) ?_
      obtain ⟨r32, h35, h32⟩ := o_bind h32
      refine p_call (d_overlap_Find_ok _ _ r32 h35) (by kernel_rfl) (by kernel_rfl) ?_
      refine p_run 3 (by kernel_rfl) ?_
      obtain ⟨x33, h36, h32⟩ := o_bind h32
      refine p_ix h36 (by kernel_rfl) ?_
      refine p_run 1 (by kernel_rfl) ?_
      obtain ⟨r34, h37, h32⟩ := o_bind h32
      refine p_call (d_overlap_Find_ok _ _ r34 h37) (by kernel_rfl) (by kernel_rfl) ?_
      refine e_end (by kernel_rfl) ?_
      refine q_next (pwp_seq ?_)
      refine r_regd (by kernel_rfl) (by kernel_rfl) ?_
      refine p_run 2 (by kernel_rfl) ?_
      refine p_len (L := (r34.Over : (List T_api_Step))) (by kernel_rfl) ?_
      refine p_run 2 (by kernel_rfl) ?_
      refine p_len (L := (r32.Over : (List T_api_Step))) (by kernel_rfl) ?_
      obtain ⟨b35, h38, h32⟩ := o_bind h32
      refine p_run 2 (by kernel_rfl) ?_
      refine e_seg 11 96 (.bool b35) ?_ ?_
      · rcases o_cond h38 with ⟨hb, h38⟩ | ⟨hb, h38⟩
        · refine p_settle 85 hb (by kernel_rfl) (by kernel_rfl) ?_
          cases h38
          exact f_end (by kernel_rfl) (by kernel_rfl)
        refine p_settle 85 hb (by kernel_rfl) (by kernel_rfl) ?_
        refine p_run 4 (by kernel_rfl) ?_
        refine p_len (L := (r32.Over : (List T_api_Step))) (by kernel_rfl) ?_
        obtain ⟨x36, h39, h38⟩ := o_bind h38
        refine p_sl h39 .frozen (by kernel_rfl) (by kernel_rfl) (by kernel_rfl) ?_
        refine p_run 2 (by kernel_rfl) ?_
        obtain ⟨r37, h40, h38⟩ := o_bind h38
        refine p_call (d_ref12_SameSteps_ok _ _ r37 h40) (by kernel_rfl) (by kernel_rfl) ?_
        cases h38
        exact f_end (by kernel_rfl) (by kernel_rfl)
      obtain ⟨b38, h41, h32⟩ := o_bind h32
      refine p_run 1 (by kernel_rfl) ?_
      refine e_seg 17 114 (.bool b38) ?_ ?_
      · rcases o_cond h41 with ⟨hb, h41⟩ | ⟨hb, h41⟩
        · refine p_settle 97 hb (by kernel_rfl) (by kernel_rfl) ?_
          cases h41
          exact f_end (by kernel_rfl) (by kernel_rfl)
        refine p_settle 97 hb (by kernel_rfl) (by kernel_rfl) ?_
        refine p_run 2 (by kernel_rfl) ?_
        obtain ⟨x39, h42, h41⟩ := o_bind h41
        refine p_ix h42 (by kernel_rfl) ?_
        obtain ⟨b40, h43, h41⟩ := o_bind h41
        refine p_run 5 (by kernel_rfl) ?_
        refine f_seg 8 113 (.bool b40) ?_ ?_
        · rcases o_cond h43 with ⟨hb, h43⟩ | ⟨hb, h43⟩
          · refine p_settle 105 hb (by kernel_rfl) (by kernel_rfl) ?_
            refine p_run 2 (by kernel_rfl) ?_
            refine p_len (L := (r34.Over : (List T_api_Step))) (by kernel_rfl) ?_
            refine p_run 2 (by kernel_rfl) ?_
            refine p_len (L := (r32.Over : (List T_api_Step))) (by kernel_rfl) ?_
            cases h43
            exact f_end (by kernel_rfl) (by kernel_rfl)
          refine p_settle 105 hb (by kernel_rfl) (by kernel_rfl) ?_
          cases h43
          exact f_end (by kernel_rfl) (by kernel_rfl)
        cases h41
        exact f_end (by kernel_rfl) (by kernel_rfl)
      refine e_nil (by kernel_rfl) ?_
      refine q_next ?_
      rcases o_cond h32 with ⟨hb, h32⟩ | ⟨hb, h32⟩
      · refine r_cond_t hb (by kernel_rfl) ?_
        refine pwp_seq (r_reg ?_)
        refine e_end (by kernel_rfl) ?_
        refine q_next (pwp_ret (q_block_ret (q_seq_ret ?_)))
        cases h32
        refine q_lout_ret fun he => ?_
        subst he
        have h44 := o_outr h
        refine q_block_ret (q_seq_ret ?_)
        cases h44
        exact q_ret (by kernel_rfl) (by kernel_rfl) (by kernel_rfl)
      refine r_cond_f hb (by kernel_rfl) ?_
      refine pwp_skip (q_block (q_next (r_reg ?_)))
      refine e_end (by kernel_rfl) ?_
      cases h32
      exact q_lback (by kernel_rfl)
    refine r_cond_f hb (by kernel_rfl) ?_
    refine pwp_exit (q_seq_exit ?_)
    cases h32
    exact q_lexit (by kernel_rfl) (by kernel_rfl)
  rintro _ s' rfl hs
  have h := o_outl h
  refine q_block_hit ?_
  refine q_next (pwp_wkr hs ?_)
  refine pwp_seq (r_reg ?_)
  obtain ⟨r41, h45, h⟩ := o_bind h
  refine p_call (d_law13_alive_ok  r41 h45) (by kernel_rfl) (by kernel_rfl) ?_
  refine e_end (by kernel_rfl) ?_
  refine q_next (pwp_ret ?_)
  cases h
  exact q_ret (by kernel_rfl) (by kernel_rfl) (by kernel_rfl)

end PM
