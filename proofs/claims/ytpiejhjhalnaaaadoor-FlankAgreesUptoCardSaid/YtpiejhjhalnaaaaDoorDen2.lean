/-
  Plain functions for the program's functions, and the proofs that the program does them. Printed by den.py.
-/
import Derived.Test.YtpiejhjhalnaaaaDoorDen1
namespace PM
open Go Go.RowKit
attribute [local irreducible] pops pwp

/-! flank.Find -/
noncomputable def d_flank_Find_1 (a0 : T_api_Layout) (a1 : T_api_Route) (r1 : (List T_api_Step)) (r2 : (List T_api_Setting)) (r3 : (List Int)) (r4 : (List T_api_Step)) (r5 : (List T_api_Setting)) (r6 : (List Int)) (r175 : (List T_api_End)) : (Int × (List T_api_End) × (List T_api_Setting) × (List Int)) → Option ((Int × (List T_api_End) × (List T_api_Setting) × (List Int)) ⊕ (((List T_api_Setting) × (List Int) × (List T_api_End)) ⊕ ((Int × (List T_api_End) × (List T_api_Setting) × (List Int)) ⊕ (((List T_api_Setting) × (List Int) × (List T_api_End)) ⊕ T_api_Route)))) := fun (x189, x190, x191, x192) =>
  bif decide (x189 < ((r175.length : Nat) : Int)) then (
    onInl (α := ((List T_api_Setting) × (List Int) × (List T_api_End))) (β := ((Int × (List T_api_End) × (List T_api_Setting) × (List Int)) ⊕ (((List T_api_Setting) × (List Int) × (List T_api_End)) ⊕ ((Int × (List T_api_End) × (List T_api_Setting) × (List Int)) ⊕ (((List T_api_Setting) × (List Int) × (List T_api_End)) ⊕ T_api_Route))))) (
      (ixO r175 x189).bind fun x217 =>
      (d_flank_Search a0 (T_api_Route.mk a1.Name a1.Entry a1.Exit r1 r2 r3 a1.Approach a1.Length r4 r5 r6 x191 x192 x190) x217).bind fun r218 =>
      bif (!r218.2.2) then (
        (appO x190 [x217]).bind fun x219 =>
        some (.inl (x191, x192, x219))
      ) else (
        bif decide (0 ≤ r218.2.1) then (
          (appO x192 [r218.2.1]).bind fun x220 =>
          some (.inl (x191, x220, x190))
        ) else (
          bif (!(eq_T_api_Setting r218.1 (T_api_Setting.mk 0 0))) then (
            (appO x191 [r218.1]).bind fun x221 =>
            some (.inl (x221, x192, x190))
          ) else (
            some (.inl (x191, x192, x190))
          )
        )
      )
    ) fun (x214, x215, x216) =>
    some (.inl (w64 (x189 + 1), x216, x214, x215))
  ) else (
    some (.inr (.inl (x191, x192, x190)))
  )

noncomputable def d_flank_Find_0 (a0 : T_api_Layout) (a1 : T_api_Route) (r1 : (List T_api_Step)) (r2 : (List T_api_Setting)) (r3 : (List Int)) (r4 : (List T_api_Step)) (r5 : (List T_api_Setting)) (r6 : (List Int)) (r7 : (List T_api_Step)) : (Int × (List T_api_End) × (List T_api_Setting) × (List Int)) → Option ((Int × (List T_api_End) × (List T_api_Setting) × (List Int)) ⊕ (((List T_api_Setting) × (List Int) × (List T_api_End)) ⊕ T_api_Route)) := fun (x119, x120, x121, x122) =>
  bif decide (x119 < ((r7.length : Nat) : Int)) then (
    (ixO r7 x119).bind fun x174 =>
    (d_flank_beside a0 x174).bind fun r175 =>
    onInl (α := ((List T_api_Setting) × (List Int) × (List T_api_End))) (β := ((Int × (List T_api_End) × (List T_api_Setting) × (List Int)) ⊕ (((List T_api_Setting) × (List Int) × (List T_api_End)) ⊕ T_api_Route))) (loopO (d_flank_Find_1 a0 a1 r1 r2 r3 r4 r5 r6 r175) (0, x120, x121, x122)) fun (x206, x207, x208) =>
    some (.inl (w64 (x119 + 1), x208, x206, x207))
  ) else (
    some (.inr (.inl (x121, x122, x120)))
  )

noncomputable def d_flank_Find (a0 : T_api_Layout) (a1 : T_api_Route) : Option T_api_Route :=
  (d_slices_Clone_api_Step a1.Path).bind fun r1 =>
  (d_slices_Clone_api_Setting a1.Points).bind fun r2 =>
  (d_slices_Clone_int a1.Sections).bind fun r3 =>
  (d_slices_Clone_api_Step a1.Over).bind fun r4 =>
  (d_slices_Clone_api_Setting a1.OverPoints).bind fun r5 =>
  (d_slices_Clone_int a1.OverSections).bind fun r6 =>
  (d_slices_Concat_api_Step [r1, r4]).bind fun r7 =>
  onInl (α := ((List T_api_Setting) × (List Int) × (List T_api_End))) (β := T_api_Route) (loopO (d_flank_Find_0 a0 a1 r1 r2 r3 r4 r5 r6 r7) (0, ([] : (List T_api_End)), ([] : (List T_api_Setting)), ([] : (List Int)))) fun (x171, x172, x173) =>
  (d_slices_SortFunc_api_Setting__flank_Find_c1 x171).bind fun r222 =>
  (d_slices_Compact_api_Setting r222).bind fun r223 =>
  (d_slices_Sort_int x172).bind fun r224 =>
  (d_slices_Compact_int r224).bind fun r225 =>
  some (T_api_Route.mk a1.Name a1.Entry a1.Exit r1 r2 r3 a1.Approach a1.Length r4 r5 r6 (r223.1.take r223.2) (r225.1.take r225.2) x173)
theorem d_flank_Find_ok (a0 : T_api_Layout) (a1 : T_api_Route) (r : T_api_Route) (h : d_flank_Find a0 a1 = some r) : PCall Go.Proofs.Tryd.prog GlS 12 [Enc.pv a0, Enc.pv a1] (Enc.pv r) := by
  unfold d_flank_Find at h
  refine pcall_of_pwp Go.Proofs.Tryd.func12 (by rfl) rfl Go.Proofs.Tryd.ntmps12 (by rfl) rfl ?_
  refine pwp_seq ?_
  refine r_reg ?_
  refine e_end (by kernel_rfl) ?_
  refine q_next ?_
  refine pwp_seq ?_
  refine r_reg ?_
  refine p_run 2 (by kernel_rfl) ?_
  obtain ⟨r1, h1, h⟩ := o_bind h
  refine p_call (d_slices_Clone_api_Step_ok _ r1 h1) (by kernel_rfl) (by kernel_rfl) ?_
  refine e_end (by kernel_rfl) ?_
  refine q_next ?_
  refine pwp_seq ?_
  refine r_reg ?_
  refine p_run 2 (by kernel_rfl) ?_
  obtain ⟨r2, h2, h⟩ := o_bind h
  refine p_call (d_slices_Clone_api_Setting_ok _ r2 h2) (by kernel_rfl) (by kernel_rfl) ?_
  refine e_end (by kernel_rfl) ?_
  refine q_next ?_
  refine pwp_seq ?_
  refine r_reg ?_
  refine p_run 2 (by kernel_rfl) ?_
  obtain ⟨r3, h3, h⟩ := o_bind h
  refine p_call (d_slices_Clone_int_ok _ r3 h3) (by kernel_rfl) (by kernel_rfl) ?_
  refine e_end (by kernel_rfl) ?_
  refine q_next ?_
  refine pwp_seq ?_
  refine r_reg ?_
  refine p_run 2 (by kernel_rfl) ?_
  obtain ⟨r4, h4, h⟩ := o_bind h
  refine p_call (d_slices_Clone_api_Step_ok _ r4 h4) (by kernel_rfl) (by kernel_rfl) ?_
  refine e_end (by kernel_rfl) ?_
  refine q_next ?_
  refine pwp_seq ?_
  refine r_reg ?_
  refine p_run 2 (by kernel_rfl) ?_
  obtain ⟨r5, h5, h⟩ := o_bind h
  refine p_call (d_slices_Clone_api_Setting_ok _ r5 h5) (by kernel_rfl) (by kernel_rfl) ?_
  refine e_end (by kernel_rfl) ?_
  refine q_next ?_
  refine pwp_seq ?_
  refine r_reg ?_
  refine p_run 2 (by kernel_rfl) ?_
  obtain ⟨r6, h6, h⟩ := o_bind h
  refine p_call (d_slices_Clone_int_ok _ r6 h6) (by kernel_rfl) (by kernel_rfl) ?_
  refine e_end (by kernel_rfl) ?_
  refine q_next ?_
  refine pwp_seq ?_
  refine r_reg ?_
  refine e_end (by kernel_rfl) ?_
  refine q_next ?_
  refine pwp_seq ?_
  refine pwp_seq ?_
  refine r_reg ?_
  refine p_run 5 (by kernel_rfl) ?_
  obtain ⟨r7, h7, h⟩ := o_bind h
  refine p_call (d_slices_Concat_api_Step_ok _ r7 h7) (by kernel_rfl) (by kernel_rfl) ?_
  refine p_len (L := (r7 : (List T_api_Step))) (by kernel_rfl) ?_
  refine e_end (by kernel_rfl) ?_
  refine q_next ?_
  refine pwp_block ?_
  refine pwp_wkr (wkr_nilHX 3 11 200311 2 16 (cs := [.str a1.Name, .int .i64 a1.Entry, .int .i64 a1.Exit, lstOf (.own 14007) (r1 : (List T_api_Step)), lstOf (.own 18007) (r2 : (List T_api_Setting)), lstOf (.own 22007) (r3 : (List Int)), .int .i64 a1.Approach, .int .i64 a1.Length, lstOf (.own 26007) (r4 : (List T_api_Step)), lstOf (.own 30007) (r5 : (List T_api_Setting)), lstOf (.own 34007) (r6 : (List Int)), .nil, .nil, .nil]) (by kernel_rfl) (by kernel_rfl) (by kernel_rfl)) ?_
  refine pwp_wkr (wkr_nilHX 3 12 200312 1 8 (cs := [.str a1.Name, .int .i64 a1.Entry, .int .i64 a1.Exit, lstOf (.own 14007) (r1 : (List T_api_Step)), lstOf (.own 18007) (r2 : (List T_api_Setting)), lstOf (.own 22007) (r3 : (List Int)), .int .i64 a1.Approach, .int .i64 a1.Length, lstOf (.own 26007) (r4 : (List T_api_Step)), lstOf (.own 30007) (r5 : (List T_api_Setting)), lstOf (.own 34007) (r6 : (List Int)), .ex 200311 2 16 (((([] : (List T_api_Setting)) : (List T_api_Setting)).map cellsOf).length) 0 (((([] : (List T_api_Setting)) : (List T_api_Setting)).map cellsOf).length), .nil, .nil]) (by kernel_rfl) (by kernel_rfl) (by kernel_rfl)) ?_
  refine pwp_wkr (wkr_nilH 3 13 200313 2 16 (cs := [.str a1.Name, .int .i64 a1.Entry, .int .i64 a1.Exit, lstOf (.own 14007) (r1 : (List T_api_Step)), lstOf (.own 18007) (r2 : (List T_api_Setting)), lstOf (.own 22007) (r3 : (List Int)), .int .i64 a1.Approach, .int .i64 a1.Length, lstOf (.own 26007) (r4 : (List T_api_Step)), lstOf (.own 30007) (r5 : (List T_api_Setting)), lstOf (.own 34007) (r6 : (List Int)), .ex 200311 2 16 (((([] : (List T_api_Setting)) : (List T_api_Setting)).map cellsOf).length) 0 (((([] : (List T_api_Setting)) : (List T_api_Setting)).map cellsOf).length), .ex 200312 1 8 (((([] : (List Int)) : (List Int)).map cellsOf).length) 0 (((([] : (List Int)) : (List Int)).map cellsOf).length), .nil]) (by kernel_rfl) (by kernel_rfl) (by kernel_rfl)) ?_
  obtain ⟨o131, h131, h⟩ := o_inl h
  refine r_loop2 111 0 (fun (x119, x120, x121, x122) => ⟨[(2, .ref 2 0), (3, .ref 3 0), (4, .ref 4 0), (44, lstOf (.own 68000) (r7 : (List T_api_Step))), (45, .int .i64 ((r7.length : Nat) : Int)), (46, .int .i64 x119)], [(2, .cells (cellsOf a0)), (3, .cells ([.str a1.Name, .int .i64 a1.Entry, .int .i64 a1.Exit, lstOf (.own 14007) (r1 : (List T_api_Step)), lstOf (.own 18007) (r2 : (List T_api_Setting)), lstOf (.own 22007) (r3 : (List Int)), .int .i64 a1.Approach, .int .i64 a1.Length, lstOf (.own 26007) (r4 : (List T_api_Step)), lstOf (.own 30007) (r5 : (List T_api_Setting)), lstOf (.own 34007) (r6 : (List Int)), .ex 200311 2 16 (((x121 : (List T_api_Setting)).map cellsOf).length) 0 (((x121 : (List T_api_Setting)).map cellsOf).length), .ex 200312 1 8 (((x122 : (List Int)).map cellsOf).length) 0 (((x122 : (List Int)).map cellsOf).length), lstOf (.own 200313) (x120 : (List T_api_End))])), (4, .cells ([.str ByteArray.empty, .int .i64 0, .int .i64 0, .nil, .nil, .nil, .int .i64 0, .int .i64 0, .nil, .nil, .nil, .nil, .nil, .nil]))], [(14007, (((r1).map cellsOf).length, 3)), (18007, (((r2).map cellsOf).length, 2)), (22007, (((r3).map cellsOf).length, 1)), (26007, (((r4).map cellsOf).length, 3)), (30007, (((r5).map cellsOf).length, 2)), (34007, (((r6).map cellsOf).length, 1)), (68000, (((r7).map cellsOf).length, 3)), (200313, (((x120).map cellsOf).length, 2)), (200311, (((x121 : (List T_api_Setting)).map cellsOf).length, 0)), (200312, (((x122 : (List Int)).map cellsOf).length, 0))], [(200311, (2, (16, (x121 : (List T_api_Setting)).map cellsOf))), (200312, (1, (8, (x122 : (List Int)).map cellsOf)))]⟩) (fun (x171, x172, x173) => ⟨[(3, .ref 3 0), (4, .ref 4 0)], [(3, .cells ([.str a1.Name, .int .i64 a1.Entry, .int .i64 a1.Exit, lstOf (.own 14007) (r1 : (List T_api_Step)), lstOf (.own 18007) (r2 : (List T_api_Setting)), lstOf (.own 22007) (r3 : (List Int)), .int .i64 a1.Approach, .int .i64 a1.Length, lstOf (.own 26007) (r4 : (List T_api_Step)), lstOf (.own 30007) (r5 : (List T_api_Setting)), lstOf (.own 34007) (r6 : (List Int)), .ex 200311 2 16 (((x171 : (List T_api_Setting)).map cellsOf).length) 0 (((x171 : (List T_api_Setting)).map cellsOf).length), .ex 200312 1 8 (((x172 : (List Int)).map cellsOf).length) 0 (((x172 : (List Int)).map cellsOf).length), lstOf (.own 200313) (x173 : (List T_api_End))])), (4, .cells ([.str ByteArray.empty, .int .i64 0, .int .i64 0, .nil, .nil, .nil, .int .i64 0, .int .i64 0, .nil, .nil, .nil, .nil, .nil, .nil]))], [(14007, (((r1).map cellsOf).length, 3)), (18007, (((r2).map cellsOf).length, 2)), (22007, (((r3).map cellsOf).length, 1)), (26007, (((r4).map cellsOf).length, 3)), (30007, (((r5).map cellsOf).length, 2)), (34007, (((r6).map cellsOf).length, 1)), (200313, (((x173).map cellsOf).length, 2)), (200311, (((x171 : (List T_api_Setting)).map cellsOf).length, 0)), (200312, (((x172 : (List Int)).map cellsOf).length, 0))], [(200311, (2, (16, (x171 : (List T_api_Setting)).map cellsOf))), (200312, (1, (8, (x172 : (List Int)).map cellsOf)))]⟩) h131 (by kernel_rfl) (fun _ => by kernel_rfl) ?_ ?_
  · rintro ⟨x119, x120, x121, x122⟩ oh130 h130
    unfold d_flank_Find_0 at h130
    refine pwp_seq ?_
    refine r_reg ?_
    refine e_end (by kernel_rfl) ?_
    refine q_next ?_
    refine pwp_seq ?_
    rcases o_cond h130 with ⟨hb, h130⟩ | ⟨hb, h130⟩
    · refine r_cond_t hb (by kernel_rfl) ?_
      refine pwp_skip ?_
      refine q_next ?_
      refine pwp_seq ?_
      refine pwp_block ?_
      refine pwp_seq ?_
      refine r_reg ?_
      obtain ⟨x174, h132, h130⟩ := o_bind h130
      refine p_ix h132 (by kernel_rfl) ?_
      refine e_end (by kernel_rfl) ?_
      refine q_next ?_
      refine pwp_seq ?_
      refine r_reg ?_
      refine p_run 2 (by kernel_rfl) ?_
      obtain ⟨r175, h133, h130⟩ := o_bind h130
      refine p_call (d_flank_beside_ok _ _ r175 h133) (by kernel_rfl) (by kernel_rfl) ?_
      refine p_len (L := (r175 : (List T_api_End))) (by kernel_rfl) ?_
      refine e_end (by kernel_rfl) ?_
      refine q_next ?_
      refine pwp_block ?_
      obtain ⟨o157, h157, h130⟩ := o_inl h130
      refine r_loop2 111 2 (fun (x189, x190, x191, x192) => ⟨[(2, .ref 2 0), (3, .ref 3 0), (4, .ref 4 0), (44, lstOf (.own 68000) (r7 : (List T_api_Step))), (45, .int .i64 ((r7.length : Nat) : Int)), (46, .int .i64 x119), (52, lstOf (.own 152008) (r175 : (List T_api_End))), (53, .int .i64 ((r175.length : Nat) : Int)), (54, .int .i64 x189)], [(2, .cells (cellsOf a0)), (3, .cells ([.str a1.Name, .int .i64 a1.Entry, .int .i64 a1.Exit, lstOf (.own 14007) (r1 : (List T_api_Step)), lstOf (.own 18007) (r2 : (List T_api_Setting)), lstOf (.own 22007) (r3 : (List Int)), .int .i64 a1.Approach, .int .i64 a1.Length, lstOf (.own 26007) (r4 : (List T_api_Step)), lstOf (.own 30007) (r5 : (List T_api_Setting)), lstOf (.own 34007) (r6 : (List Int)), .ex 200311 2 16 (((x191 : (List T_api_Setting)).map cellsOf).length) 0 (((x191 : (List T_api_Setting)).map cellsOf).length), .ex 200312 1 8 (((x192 : (List Int)).map cellsOf).length) 0 (((x192 : (List Int)).map cellsOf).length), lstOf (.own 200313) (x190 : (List T_api_End))])), (4, .cells ([.str ByteArray.empty, .int .i64 0, .int .i64 0, .nil, .nil, .nil, .int .i64 0, .int .i64 0, .nil, .nil, .nil, .nil, .nil, .nil]))], [(14007, (((r1).map cellsOf).length, 3)), (18007, (((r2).map cellsOf).length, 2)), (22007, (((r3).map cellsOf).length, 1)), (26007, (((r4).map cellsOf).length, 3)), (30007, (((r5).map cellsOf).length, 2)), (34007, (((r6).map cellsOf).length, 1)), (68000, (((r7).map cellsOf).length, 3)), (152008, (((r175).map cellsOf).length, 2)), (200313, (((x190).map cellsOf).length, 2)), (200311, (((x191 : (List T_api_Setting)).map cellsOf).length, 0)), (200312, (((x192 : (List Int)).map cellsOf).length, 0))], [(200311, (2, (16, (x191 : (List T_api_Setting)).map cellsOf))), (200312, (1, (8, (x192 : (List Int)).map cellsOf)))]⟩) (fun (x206, x207, x208) => ⟨[(2, .ref 2 0), (3, .ref 3 0), (4, .ref 4 0), (44, lstOf (.own 68000) (r7 : (List T_api_Step))), (45, .int .i64 ((r7.length : Nat) : Int)), (46, .int .i64 x119)], [(2, .cells (cellsOf a0)), (3, .cells ([.str a1.Name, .int .i64 a1.Entry, .int .i64 a1.Exit, lstOf (.own 14007) (r1 : (List T_api_Step)), lstOf (.own 18007) (r2 : (List T_api_Setting)), lstOf (.own 22007) (r3 : (List Int)), .int .i64 a1.Approach, .int .i64 a1.Length, lstOf (.own 26007) (r4 : (List T_api_Step)), lstOf (.own 30007) (r5 : (List T_api_Setting)), lstOf (.own 34007) (r6 : (List Int)), .ex 200311 2 16 (((x206 : (List T_api_Setting)).map cellsOf).length) 0 (((x206 : (List T_api_Setting)).map cellsOf).length), .ex 200312 1 8 (((x207 : (List Int)).map cellsOf).length) 0 (((x207 : (List Int)).map cellsOf).length), lstOf (.own 200313) (x208 : (List T_api_End))])), (4, .cells ([.str ByteArray.empty, .int .i64 0, .int .i64 0, .nil, .nil, .nil, .int .i64 0, .int .i64 0, .nil, .nil, .nil, .nil, .nil, .nil]))], [(14007, (((r1).map cellsOf).length, 3)), (18007, (((r2).map cellsOf).length, 2)), (22007, (((r3).map cellsOf).length, 1)), (26007, (((r4).map cellsOf).length, 3)), (30007, (((r5).map cellsOf).length, 2)), (34007, (((r6).map cellsOf).length, 1)), (68000, (((r7).map cellsOf).length, 3)), (200313, (((x208).map cellsOf).length, 2)), (200311, (((x206 : (List T_api_Setting)).map cellsOf).length, 0)), (200312, (((x207 : (List Int)).map cellsOf).length, 0))], [(200311, (2, (16, (x206 : (List T_api_Setting)).map cellsOf))), (200312, (1, (8, (x207 : (List Int)).map cellsOf)))]⟩) h157 (by kernel_rfl) (fun _ => by kernel_rfl) ?_ ?_
      · rintro ⟨x189, x190, x191, x192⟩ oh156 h156
        unfold d_flank_Find_1 at h156
        refine pwp_seq ?_
        refine r_reg ?_
        refine e_end (by kernel_rfl) ?_
        refine q_next ?_
        refine pwp_seq ?_
        rcases o_cond h156 with ⟨hb, h156⟩ | ⟨hb, h156⟩
        · refine r_cond_t hb (by kernel_rfl) ?_
          refine pwp_skip ?_
          refine q_next ?_
          obtain ⟨o163, h163, h156⟩ := o_inl h156
          refine r_join (o := o163) 111 (fun (x214, x215, x216) => ⟨[(2, .ref 2 0), (3, .ref 3 0), (4, .ref 4 0), (44, lstOf (.own 68000) (r7 : (List T_api_Step))), (45, .int .i64 ((r7.length : Nat) : Int)), (46, .int .i64 x119), (52, lstOf (.own 152008) (r175 : (List T_api_End))), (53, .int .i64 ((r175.length : Nat) : Int)), (54, .int .i64 x189)], [(2, .cells (cellsOf a0)), (3, .cells ([.str a1.Name, .int .i64 a1.Entry, .int .i64 a1.Exit, lstOf (.own 14007) (r1 : (List T_api_Step)), lstOf (.own 18007) (r2 : (List T_api_Setting)), lstOf (.own 22007) (r3 : (List Int)), .int .i64 a1.Approach, .int .i64 a1.Length, lstOf (.own 26007) (r4 : (List T_api_Step)), lstOf (.own 30007) (r5 : (List T_api_Setting)), lstOf (.own 34007) (r6 : (List Int)), .ex 200311 2 16 (((x214 : (List T_api_Setting)).map cellsOf).length) 0 (((x214 : (List T_api_Setting)).map cellsOf).length), .ex 200312 1 8 (((x215 : (List Int)).map cellsOf).length) 0 (((x215 : (List Int)).map cellsOf).length), lstOf (.own 200313) (x216 : (List T_api_End))])), (4, .cells ([.str ByteArray.empty, .int .i64 0, .int .i64 0, .nil, .nil, .nil, .int .i64 0, .int .i64 0, .nil, .nil, .nil, .nil, .nil, .nil]))], [(14007, (((r1).map cellsOf).length, 3)), (18007, (((r2).map cellsOf).length, 2)), (22007, (((r3).map cellsOf).length, 1)), (26007, (((r4).map cellsOf).length, 3)), (30007, (((r5).map cellsOf).length, 2)), (34007, (((r6).map cellsOf).length, 1)), (68000, (((r7).map cellsOf).length, 3)), (152008, (((r175).map cellsOf).length, 2)), (200313, (((x216).map cellsOf).length, 2)), (200311, (((x214 : (List T_api_Setting)).map cellsOf).length, 0)), (200312, (((x215 : (List Int)).map cellsOf).length, 0))], [(200311, (2, (16, (x214 : (List T_api_Setting)).map cellsOf))), (200312, (1, (8, (x215 : (List Int)).map cellsOf)))]⟩) ?_ ?_
          · refine pwp_block ?_
            refine pwp_seq ?_
            refine r_reg ?_
            obtain ⟨x217, h164, h163⟩ := o_bind h163
            refine p_ix h164 (by kernel_rfl) ?_
            refine e_end (by kernel_rfl) ?_
            refine q_next ?_
            refine pwp_seq ?_
            refine r_reg ?_
            refine p_run 3 (by kernel_rfl) ?_
            obtain ⟨r218, h165, h163⟩ := o_bind h163
            refine p_callB [200311, 200312] (d_flank_Search_ok _ _ _ r218 h165) (by kernel_rfl) (by kernel_rfl) (by kernel_rfl) ?_
            refine e_end (by kernel_rfl) ?_
            refine q_next ?_
            refine pwp_block ?_
            refine pwp_seq ?_
            refine r_reg ?_
            refine e_end (by kernel_rfl) ?_
            refine q_next ?_
            rcases o_cond h163 with ⟨hb, h163⟩ | ⟨hb, h163⟩
            · refine r_cond_t hb (by kernel_rfl) ?_
              refine r_reg ?_
              refine p_run 4 (by kernel_rfl) ?_
              obtain ⟨x219, h166, h163⟩ := o_bind h163
              refine p_app (tk := 200313) h166 (by kernel_rfl) (by kernel_rfl) ?_
              refine e_end (by kernel_rfl) ?_
              refine q_block ?_
              refine q_block ?_
              cases h163
              exact q_join (by kernel_rfl) (by kernel_rfl)
            · refine r_cond_f hb (by kernel_rfl) ?_
              refine pwp_seq ?_
              refine r_reg ?_
              refine e_end (by kernel_rfl) ?_
              refine q_next ?_
              rcases o_cond h163 with ⟨hb, h163⟩ | ⟨hb, h163⟩
              · refine r_cond_t hb (by kernel_rfl) ?_
                refine r_reg ?_
                refine p_run 4 (by kernel_rfl) ?_
                obtain ⟨x220, h167, h163⟩ := o_bind h163
                refine p_xapp (tk := 200312) (N := ((x192 : (List Int)).map cellsOf).length) h167 (by kernel_rfl) (by kernel_rfl) (by kernel_rfl) ?_
                refine e_end (by kernel_rfl) ?_
                refine q_block ?_
                refine q_block ?_
                cases h163
                exact q_join (by kernel_rfl) (by kernel_rfl)
              · refine r_cond_f hb (by kernel_rfl) ?_
                refine pwp_seq ?_
                refine r_reg ?_
                refine e_end (by kernel_rfl) ?_
                refine q_next ?_
                rcases o_cond h163 with ⟨hb, h163⟩ | ⟨hb, h163⟩
                · refine r_cond_t hb (by kernel_rfl) ?_
                  refine r_reg ?_
                  refine p_run 4 (by kernel_rfl) ?_
                  obtain ⟨x221, h168, h163⟩ := o_bind h163
                  refine p_xapp (tk := 200311) (N := ((x191 : (List T_api_Setting)).map cellsOf).length) h168 (by kernel_rfl) (by kernel_rfl) (by kernel_rfl) ?_
                  refine e_end (by kernel_rfl) ?_
                  refine q_block ?_
                  refine q_block ?_
                  cases h163
                  exact q_join (by kernel_rfl) (by kernel_rfl)
                · refine r_cond_f hb (by kernel_rfl) ?_
                  refine pwp_skip ?_
                  refine q_block ?_
                  refine q_block ?_
                  cases h163
                  exact q_join (by kernel_rfl) (by kernel_rfl)
          · rintro ⟨x214, x215, x216⟩ rfl
            have h156 := o_outl h156
            refine r_reg ?_
            refine e_end (by kernel_rfl) ?_
            cases h156
            exact q_lback (by kernel_rfl)
        · refine r_cond_f hb (by kernel_rfl) ?_
          refine pwp_exit ?_
          refine q_seq_exit ?_
          cases h156
          exact q_lexit (by kernel_rfl) (by kernel_rfl)
      · rintro ⟨x206, x207, x208⟩ s' rfl hs
        have h130 := o_outl h130
        refine q_block_hit ?_
        refine q_block ?_
        refine q_next (pwp_wkr hs ?_)
        refine r_reg ?_
        refine e_end (by kernel_rfl) ?_
        cases h130
        exact q_lback (by kernel_rfl)
    · refine r_cond_f hb (by kernel_rfl) ?_
      refine pwp_exit ?_
      refine q_seq_exit ?_
      cases h130
      exact q_lexit (by kernel_rfl) (by kernel_rfl)
  · rintro ⟨x171, x172, x173⟩ s' rfl hs
    have h := o_outl h
    refine q_block_hit ?_
    refine q_next (pwp_wkr hs ?_)
    refine pwp_seq ?_
    refine r_reg ?_
    refine p_run 2 (by kernel_rfl) ?_
    obtain ⟨r222, h169, h⟩ := o_bind h
    refine p_xcall (t := 200311) (L := (x171 : (List T_api_Setting))) (L' := (r222 : (List T_api_Setting))) (N := ((x171 : (List T_api_Setting)).map cellsOf).length) (by kernel_rfl) (by kernel_rfl) (by kernel_rfl) (d_slices_SortFunc_api_Setting__flank_Find_c1_xc _ r222 h169) ?_
    refine e_nil (by kernel_rfl) ?_
    refine q_next ?_
    refine pwp_seq ?_
    refine r_reg ?_
    refine p_run 2 (by kernel_rfl) ?_
    obtain ⟨r223, h170, h⟩ := o_bind h
    refine p_xcallS (t := 200311) (L := (r222 : (List T_api_Setting))) (L' := (r223.1 : (List T_api_Setting))) (m := r223.2) (N := ((x171 : (List T_api_Setting)).map cellsOf).length) (by kernel_rfl) (by kernel_rfl) (by kernel_rfl) (d_slices_Compact_api_Setting_xc _ r223 h170) ?_
    refine e_end (by kernel_rfl) ?_
    refine q_next ?_
    refine pwp_seq ?_
    refine r_reg ?_
    refine p_run 2 (by kernel_rfl) ?_
    obtain ⟨r224, h171, h⟩ := o_bind h
    refine p_xcall (t := 200312) (L := (x172 : (List Int))) (L' := (r224 : (List Int))) (N := ((x172 : (List Int)).map cellsOf).length) (by kernel_rfl) (by kernel_rfl) (by kernel_rfl) (d_slices_Sort_int_xc _ r224 h171) ?_
    refine e_nil (by kernel_rfl) ?_
    refine q_next ?_
    refine pwp_seq ?_
    refine r_reg ?_
    refine p_run 2 (by kernel_rfl) ?_
    obtain ⟨r225, h172, h⟩ := o_bind h
    refine p_xcallS (t := 200312) (L := (r224 : (List Int))) (L' := (r225.1 : (List Int))) (m := r225.2) (N := ((x172 : (List Int)).map cellsOf).length) (by kernel_rfl) (by kernel_rfl) (by kernel_rfl) (d_slices_Compact_int_xc _ r225 h172) ?_
    refine e_end (by kernel_rfl) ?_
    refine q_next ?_
    refine pwp_seq ?_
    refine r_reg ?_
    refine e_end (by kernel_rfl) ?_
    refine q_next ?_
    refine pwp_ret ?_
    cases h
    exact q_ret (by kernel_rfl) (by kernel_rfl) (by kernel_rfl)

/-! signallingref09.SameSettings -/
noncomputable def d_ref09_SameSettings_0 (a0 : (List T_api_Setting)) (a1 : (List T_api_Setting)) : Int → Option (Int ⊕ (Unit ⊕ Bool)) := fun x3 =>
  bif decide (x3 < ((a0.length : Nat) : Int)) then (
    (ixO a0 x3).bind fun x6 =>
    (ixO a1 x3).bind fun x7 =>
    bif (!(eq_T_api_Setting x6 x7)) then (
      some (.inr (.inr false))
    ) else (
      some (.inl (w64 (x3 + 1)))
    )
  ) else (
    some (.inr (.inl ()))
  )

noncomputable def d_ref09_SameSettings (a0 : (List T_api_Setting)) (a1 : (List T_api_Setting)) : Option Bool :=
  bif (!(decide (((a0.length : Nat) : Int) = ((a1.length : Nat) : Int)))) then (
    some false
  ) else (
    onInl (α := Unit) (β := Bool) (loopO (d_ref09_SameSettings_0 a0 a1) 0) fun _ =>
    some true
  )
theorem d_ref09_SameSettings_ok (a0 : (List T_api_Setting)) (a1 : (List T_api_Setting)) (r : Bool) (h : d_ref09_SameSettings a0 a1 = some r) : PCall Go.Proofs.Tryd.prog GlS 54 [Enc.pv a0, Enc.pv a1] (Enc.pv r) := by
  unfold d_ref09_SameSettings at h
  refine pcall_of_pwp Go.Proofs.Tryd.func54 (by rfl) rfl Go.Proofs.Tryd.ntmps54 (by rfl) rfl ?_
  refine pwp_seq ?_
  refine r_reg ?_
  refine e_end (by kernel_rfl) ?_
  refine q_next ?_
  refine pwp_seq ?_
  refine pwp_seq ?_
  refine r_reg ?_
  refine p_run 1 (by kernel_rfl) ?_
  refine p_len (L := (a0 : (List T_api_Setting))) (by kernel_rfl) ?_
  refine p_run 1 (by kernel_rfl) ?_
  refine p_len (L := (a1 : (List T_api_Setting))) (by kernel_rfl) ?_
  refine e_end (by kernel_rfl) ?_
  refine q_next ?_
  rcases o_cond h with ⟨hb, h⟩ | ⟨hb, h⟩
  · refine r_cond_t hb (by kernel_rfl) ?_
    refine pwp_seq ?_
    refine r_reg ?_
    refine e_end (by kernel_rfl) ?_
    refine q_next ?_
    refine pwp_ret ?_
    refine q_seq_ret ?_
    cases h
    exact q_ret (by kernel_rfl) (by kernel_rfl) (by kernel_rfl)
  · refine r_cond_f hb (by kernel_rfl) ?_
    refine pwp_skip ?_
    refine q_next ?_
    refine pwp_seq ?_
    refine pwp_seq ?_
    refine r_reg ?_
    refine e_end (by kernel_rfl) ?_
    refine q_next ?_
    refine pwp_block ?_
    obtain ⟨o8, h8, h⟩ := o_inl h
    refine r_loop2 26 0 (fun x3 => ⟨[(0, lstOf .frozen (a0 : (List T_api_Setting))), (1, lstOf .frozen (a1 : (List T_api_Setting))), (5, .int .i64 x3)], [], [], []⟩) (fun (_ : Unit) => ⟨[], [], [], []⟩) h8 (by kernel_rfl) (fun _ => by kernel_rfl) ?_ ?_
    · rintro x3 oh7 h7
      unfold d_ref09_SameSettings_0 at h7
      refine pwp_seq ?_
      refine pwp_seq ?_
      refine r_reg ?_
      refine p_run 2 (by kernel_rfl) ?_
      refine p_len (L := (a0 : (List T_api_Setting))) (by kernel_rfl) ?_
      refine e_end (by kernel_rfl) ?_
      refine q_next ?_
      rcases o_cond h7 with ⟨hb, h7⟩ | ⟨hb, h7⟩
      · refine r_cond_t hb (by kernel_rfl) ?_
        refine pwp_skip ?_
        refine q_next ?_
        refine pwp_seq ?_
        refine pwp_block ?_
        refine pwp_seq ?_
        refine r_regd (by kernel_rfl) (by kernel_rfl) ?_
        refine p_run 2 (by kernel_rfl) ?_
        obtain ⟨x6, h9, h7⟩ := o_bind h7
        refine p_ix h9 (by kernel_rfl) ?_
        refine p_run 3 (by kernel_rfl) ?_
        obtain ⟨x7, h10, h7⟩ := o_bind h7
        refine p_ix h10 (by kernel_rfl) ?_
        refine e_end (by kernel_rfl) ?_
        refine q_next ?_
        rcases o_cond h7 with ⟨hb, h7⟩ | ⟨hb, h7⟩
        · refine r_cond_t hb (by kernel_rfl) ?_
          refine pwp_seq ?_
          refine r_reg ?_
          refine e_end (by kernel_rfl) ?_
          refine q_next ?_
          refine pwp_ret ?_
          refine q_block_ret ?_
          refine q_seq_ret ?_
          cases h7
          refine q_lout_ret fun he => ?_
          subst he
          have h11 := o_outr h
          refine q_block_ret ?_
          refine q_seq_ret ?_
          cases h11
          exact q_ret (by kernel_rfl) (by kernel_rfl) (by kernel_rfl)
        · refine r_cond_f hb (by kernel_rfl) ?_
          refine pwp_skip ?_
          refine q_block ?_
          refine q_next ?_
          refine r_reg ?_
          refine e_end (by kernel_rfl) ?_
          cases h7
          exact q_lback (by kernel_rfl)
      · refine r_cond_f hb (by kernel_rfl) ?_
        refine pwp_exit ?_
        refine q_seq_exit ?_
        cases h7
        exact q_lexit (by kernel_rfl) (by kernel_rfl)
    · rintro _ s' rfl hs
      have h := o_outl h
      refine q_block_hit ?_
      refine q_next (pwp_wkr hs ?_)
      refine pwp_seq ?_
      refine r_reg ?_
      refine e_end (by kernel_rfl) ?_
      refine q_next ?_
      refine pwp_ret ?_
      cases h
      exact q_ret (by kernel_rfl) (by kernel_rfl) (by kernel_rfl)

/-! signallingref12.SameSettings -/
noncomputable def d_ref12_SameSettings (a0 : (List T_api_Setting)) (a1 : (List T_api_Setting)) : Option Bool :=
  (d_ref09_SameSettings a0 a1).bind fun r1 =>
  some r1
theorem d_ref12_SameSettings_ok (a0 : (List T_api_Setting)) (a1 : (List T_api_Setting)) (r : Bool) (h : d_ref12_SameSettings a0 a1 = some r) : PCall Go.Proofs.Tryd.prog GlS 22 [Enc.pv a0, Enc.pv a1] (Enc.pv r) := by
  unfold d_ref12_SameSettings at h
  refine pcall_of_pwp Go.Proofs.Tryd.func22 (by rfl) rfl Go.Proofs.Tryd.ntmps22 (by rfl) rfl ?_
  refine pwp_seq ?_
  refine r_reg ?_
  refine e_end (by kernel_rfl) ?_
  refine q_next ?_
  refine pwp_seq ?_
  refine r_reg ?_
  refine p_run 2 (by kernel_rfl) ?_
  obtain ⟨r1, h1, h⟩ := o_bind h
  refine p_call (d_ref09_SameSettings_ok _ _ r1 h1) (by kernel_rfl) (by kernel_rfl) ?_
  refine e_end (by kernel_rfl) ?_
  refine q_next ?_
  refine pwp_ret ?_
  cases h
  exact q_ret (by kernel_rfl) (by kernel_rfl) (by kernel_rfl)

/-! flank.Protected -/
noncomputable def d_flank_Protected (a0 : T_api_Route) : Option Bool :=
  some (decide (((a0.Gaps.length : Nat) : Int) = 0))
theorem d_flank_Protected_ok (a0 : T_api_Route) (r : Bool) (h : d_flank_Protected a0 = some r) : PCall Go.Proofs.Tryd.prog GlS 17 [Enc.pv a0] (Enc.pv r) := by
  unfold d_flank_Protected at h
  refine pcall_of_pwp Go.Proofs.Tryd.func17 (by rfl) rfl Go.Proofs.Tryd.ntmps17 (by rfl) rfl ?_
  refine pwp_seq ?_
  refine r_reg ?_
  refine e_end (by kernel_rfl) ?_
  refine q_next ?_
  refine pwp_seq ?_
  refine r_reg ?_
  refine p_run 2 (by kernel_rfl) ?_
  refine p_len (L := (a0.Gaps : (List T_api_End))) (by kernel_rfl) ?_
  refine e_end (by kernel_rfl) ?_
  refine q_next ?_
  refine pwp_ret ?_
  cases h
  exact q_ret (by kernel_rfl) (by kernel_rfl) (by kernel_rfl)

/-! signallingref02.Same -/
noncomputable def d_ref02_Same_0 (a0 : (List Int)) (a1 : (List Int)) : Int → Option (Int ⊕ (Unit ⊕ Bool)) := fun x3 =>
  bif decide (x3 < ((a0.length : Nat) : Int)) then (
    (ixO a0 x3).bind fun x6 =>
    (ixO a1 x3).bind fun x7 =>
    bif (!(decide (x6 = x7))) then (
      some (.inr (.inr false))
    ) else (
      some (.inl (w64 (x3 + 1)))
    )
  ) else (
    some (.inr (.inl ()))
  )

noncomputable def d_ref02_Same (a0 : (List Int)) (a1 : (List Int)) : Option Bool :=
  bif (!(decide (((a0.length : Nat) : Int) = ((a1.length : Nat) : Int)))) then (
    some false
  ) else (
    onInl (α := Unit) (β := Bool) (loopO (d_ref02_Same_0 a0 a1) 0) fun _ =>
    some true
  )
theorem d_ref02_Same_ok (a0 : (List Int)) (a1 : (List Int)) (r : Bool) (h : d_ref02_Same a0 a1 = some r) : PCall Go.Proofs.Tryd.prog GlS 23 [Enc.pv a0, Enc.pv a1] (Enc.pv r) := by
  unfold d_ref02_Same at h
  refine pcall_of_pwp Go.Proofs.Tryd.func23 (by rfl) rfl Go.Proofs.Tryd.ntmps23 (by rfl) rfl ?_
  refine pwp_seq ?_
  refine r_reg ?_
  refine e_end (by kernel_rfl) ?_
  refine q_next ?_
  refine pwp_seq ?_
  refine pwp_seq ?_
  refine r_reg ?_
  refine p_run 1 (by kernel_rfl) ?_
  refine p_len (L := (a0 : (List Int))) (by kernel_rfl) ?_
  refine p_run 1 (by kernel_rfl) ?_
  refine p_len (L := (a1 : (List Int))) (by kernel_rfl) ?_
  refine e_end (by kernel_rfl) ?_
  refine q_next ?_
  rcases o_cond h with ⟨hb, h⟩ | ⟨hb, h⟩
  · refine r_cond_t hb (by kernel_rfl) ?_
    refine pwp_seq ?_
    refine r_reg ?_
    refine e_end (by kernel_rfl) ?_
    refine q_next ?_
    refine pwp_ret ?_
    refine q_seq_ret ?_
    cases h
    exact q_ret (by kernel_rfl) (by kernel_rfl) (by kernel_rfl)
  · refine r_cond_f hb (by kernel_rfl) ?_
    refine pwp_skip ?_
    refine q_next ?_
    refine pwp_seq ?_
    refine pwp_seq ?_
    refine r_reg ?_
    refine e_end (by kernel_rfl) ?_
    refine q_next ?_
    refine pwp_block ?_
    obtain ⟨o8, h8, h⟩ := o_inl h
    refine r_loop2 26 0 (fun x3 => ⟨[(0, lstOf .frozen (a0 : (List Int))), (1, lstOf .frozen (a1 : (List Int))), (5, .int .i64 x3)], [], [], []⟩) (fun (_ : Unit) => ⟨[], [], [], []⟩) h8 (by kernel_rfl) (fun _ => by kernel_rfl) ?_ ?_
    · rintro x3 oh7 h7
      unfold d_ref02_Same_0 at h7
      refine pwp_seq ?_
      refine pwp_seq ?_
      refine r_reg ?_
      refine p_run 2 (by kernel_rfl) ?_
      refine p_len (L := (a0 : (List Int))) (by kernel_rfl) ?_
      refine e_end (by kernel_rfl) ?_
      refine q_next ?_
      rcases o_cond h7 with ⟨hb, h7⟩ | ⟨hb, h7⟩
      · refine r_cond_t hb (by kernel_rfl) ?_
        refine pwp_skip ?_
        refine q_next ?_
        refine pwp_seq ?_
        refine pwp_block ?_
        refine pwp_seq ?_
        refine r_regd (by kernel_rfl) (by kernel_rfl) ?_
        refine p_run 2 (by kernel_rfl) ?_
        obtain ⟨x6, h9, h7⟩ := o_bind h7
        refine p_ix h9 (by kernel_rfl) ?_
        refine p_run 3 (by kernel_rfl) ?_
        obtain ⟨x7, h10, h7⟩ := o_bind h7
        refine p_ix h10 (by kernel_rfl) ?_
        refine e_end (by kernel_rfl) ?_
        refine q_next ?_
        rcases o_cond h7 with ⟨hb, h7⟩ | ⟨hb, h7⟩
        · refine r_cond_t hb (by kernel_rfl) ?_
          refine pwp_seq ?_
          refine r_reg ?_
          refine e_end (by kernel_rfl) ?_
          refine q_next ?_
          refine pwp_ret ?_
          refine q_block_ret ?_
          refine q_seq_ret ?_
          cases h7
          refine q_lout_ret fun he => ?_
          subst he
          have h11 := o_outr h
          refine q_block_ret ?_
          refine q_seq_ret ?_
          cases h11
          exact q_ret (by kernel_rfl) (by kernel_rfl) (by kernel_rfl)
        · refine r_cond_f hb (by kernel_rfl) ?_
          refine pwp_skip ?_
          refine q_block ?_
          refine q_next ?_
          refine r_reg ?_
          refine e_end (by kernel_rfl) ?_
          cases h7
          exact q_lback (by kernel_rfl)
      · refine r_cond_f hb (by kernel_rfl) ?_
        refine pwp_exit ?_
        refine q_seq_exit ?_
        cases h7
        exact q_lexit (by kernel_rfl) (by kernel_rfl)
    · rintro _ s' rfl hs
      have h := o_outl h
      refine q_block_hit ?_
      refine q_next (pwp_wkr hs ?_)
      refine pwp_seq ?_
      refine r_reg ?_
      refine e_end (by kernel_rfl) ?_
      refine q_next ?_
      refine pwp_ret ?_
      cases h
      exact q_ret (by kernel_rfl) (by kernel_rfl) (by kernel_rfl)

/-! signallinglaw14.alive -/
noncomputable def d_law14_alive : Option Bool :=
  (d_law14_loop ).bind fun r1 =>
  (d_flank_Find r1 (T_api_Route.mk ByteArray.empty 0 0 [(T_api_Step.mk 1 0 1), (T_api_Step.mk 2 0 1)] [] [] 0 0 [] [] [] [] [] [])).bind fun r2 =>
  (d_law14_loop ).bind fun r3 =>
  (d_flank_Find r3 (T_api_Route.mk ByteArray.empty 0 0 [(T_api_Step.mk 4 1 0), (T_api_Step.mk 5 0 1)] [] [] 0 0 [] [] [] [] [] [])).bind fun r4 =>
  (d_law14_loop ).bind fun r5 =>
  (d_flank_Search r5 (T_api_Route.mk ByteArray.empty 0 0 [] [] [] 0 0 [] [] [] [] [] []) (T_api_End.mk 1 2)).bind fun r6 =>
  (d_ref12_SameSettings r2.Flank [(T_api_Setting.mk 4 1)]).bind fun r7 =>
  ((bif r7 then (
    some (decide (((r2.Guards.length : Nat) : Int) = 0))
  ) else some false) : Option Bool).bind fun b8 =>
  ((bif b8 then (
    (d_flank_Protected r2).bind fun r10 =>
    some r10
  ) else some false) : Option Bool).bind fun b9 =>
  ((bif b9 then (
    some (decide (((r4.Flank.length : Nat) : Int) = 0))
  ) else some false) : Option Bool).bind fun b11 =>
  ((bif b11 then (
    (d_ref02_Same r4.Guards [2]).bind fun r13 =>
    some r13
  ) else some false) : Option Bool).bind fun b12 =>
  ((bif (((b12 && (eq_T_api_Setting r6.1 (T_api_Setting.mk 4 1))) && (decide (r6.2.1 = (-1)))) && r6.2.2) then (
    (d_flank_Protected (T_api_Route.mk ByteArray.empty 0 0 [] [] [] 0 0 [] [] [] [] [] [(T_api_End.mk 1 2)])).bind fun r15 =>
    some (!r15)
  ) else some false) : Option Bool).bind fun b14 =>
  some b14
theorem d_law14_alive_ok (r : Bool) (h : d_law14_alive = some r) : PCall Go.Proofs.Tryd.prog GlS 8 [] (Enc.pv r) := by
  unfold d_law14_alive at h
  refine pcall_of_pwp Go.Proofs.Tryd.func8 (by rfl) rfl Go.Proofs.Tryd.ntmps8 (by rfl) rfl ?_
  refine pwp_seq ?_
  refine r_reg ?_
  refine e_end (by kernel_rfl) ?_
  refine q_next ?_
  refine pwp_seq ?_
  refine r_reg ?_
  obtain ⟨r1, h1, h⟩ := o_bind h
  refine p_call (d_law14_loop_ok  r1 h1) (by kernel_rfl) (by kernel_rfl) ?_
  refine p_run 4 (by kernel_rfl) ?_
  obtain ⟨r2, h2, h⟩ := o_bind h
  refine p_call (d_flank_Find_ok _ _ r2 h2) (by kernel_rfl) (by kernel_rfl) ?_
  refine e_end (by kernel_rfl) ?_
  refine q_next ?_
  refine pwp_seq ?_
  refine r_reg ?_
  obtain ⟨r3, h3, h⟩ := o_bind h
  refine p_call (d_law14_loop_ok  r3 h3) (by kernel_rfl) (by kernel_rfl) ?_
  refine p_run 4 (by kernel_rfl) ?_
  obtain ⟨r4, h4, h⟩ := o_bind h
  refine p_call (d_flank_Find_ok _ _ r4 h4) (by kernel_rfl) (by kernel_rfl) ?_
  refine e_end (by kernel_rfl) ?_
  refine q_next ?_
  refine pwp_seq ?_
  refine r_reg ?_
  obtain ⟨r5, h5, h⟩ := o_bind h
  refine p_call (d_law14_loop_ok  r5 h5) (by kernel_rfl) (by kernel_rfl) ?_
  refine p_run 2 (by kernel_rfl) ?_
  obtain ⟨r6, h6, h⟩ := o_bind h
  refine p_call (d_flank_Search_ok _ _ _ r6 h6) (by kernel_rfl) (by kernel_rfl) ?_
  refine e_end (by kernel_rfl) ?_
  refine q_next ?_
  refine pwp_seq ?_
  refine r_reg ?_
  refine p_run 4 (by kernel_rfl) ?_
  obtain ⟨r7, h7, h⟩ := o_bind h
  refine p_call (d_ref12_SameSettings_ok _ _ r7 h7) (by kernel_rfl) (by kernel_rfl) ?_
  obtain ⟨b8, h8, h⟩ := o_bind h
  refine p_run 1 (by kernel_rfl) ?_
  refine e_seg 5 36 (.bool b8) ?_ ?_
  · rcases o_cond h8 with ⟨hb, h8⟩ | ⟨hb, h8⟩
    · refine p_settle 31 hb (by kernel_rfl) (by kernel_rfl) ?_
      refine p_run 2 (by kernel_rfl) ?_
      refine p_len (L := (r2.Guards : (List Int))) (by kernel_rfl) ?_
      cases h8
      exact f_end (by kernel_rfl) (by kernel_rfl)
    · refine p_settle 31 hb (by kernel_rfl) (by kernel_rfl) ?_
      cases h8
      exact f_end (by kernel_rfl) (by kernel_rfl)
  · obtain ⟨b9, h9, h⟩ := o_bind h
    refine p_run 1 (by kernel_rfl) ?_
    refine e_seg 3 40 (.bool b9) ?_ ?_
    · rcases o_cond h9 with ⟨hb, h9⟩ | ⟨hb, h9⟩
      · refine p_settle 37 hb (by kernel_rfl) (by kernel_rfl) ?_
        refine p_run 1 (by kernel_rfl) ?_
        obtain ⟨r10, h10, h9⟩ := o_bind h9
        refine p_call (d_flank_Protected_ok _ r10 h10) (by kernel_rfl) (by kernel_rfl) ?_
        cases h9
        exact f_end (by kernel_rfl) (by kernel_rfl)
      · refine p_settle 37 hb (by kernel_rfl) (by kernel_rfl) ?_
        cases h9
        exact f_end (by kernel_rfl) (by kernel_rfl)
    · obtain ⟨b11, h11, h⟩ := o_bind h
      refine p_run 1 (by kernel_rfl) ?_
      refine e_seg 5 46 (.bool b11) ?_ ?_
      · rcases o_cond h11 with ⟨hb, h11⟩ | ⟨hb, h11⟩
        · refine p_settle 41 hb (by kernel_rfl) (by kernel_rfl) ?_
          refine p_run 2 (by kernel_rfl) ?_
          refine p_len (L := (r4.Flank : (List T_api_Setting))) (by kernel_rfl) ?_
          cases h11
          exact f_end (by kernel_rfl) (by kernel_rfl)
        · refine p_settle 41 hb (by kernel_rfl) (by kernel_rfl) ?_
          cases h11
          exact f_end (by kernel_rfl) (by kernel_rfl)
      · obtain ⟨b12, h12, h⟩ := o_bind h
        refine p_run 1 (by kernel_rfl) ?_
        refine e_seg 5 52 (.bool b12) ?_ ?_
        · rcases o_cond h12 with ⟨hb, h12⟩ | ⟨hb, h12⟩
          · refine p_settle 47 hb (by kernel_rfl) (by kernel_rfl) ?_
            refine p_run 3 (by kernel_rfl) ?_
            obtain ⟨r13, h13, h12⟩ := o_bind h12
            refine p_call (d_ref02_Same_ok _ _ r13 h13) (by kernel_rfl) (by kernel_rfl) ?_
            cases h12
            exact f_end (by kernel_rfl) (by kernel_rfl)
          · refine p_settle 47 hb (by kernel_rfl) (by kernel_rfl) ?_
            cases h12
            exact f_end (by kernel_rfl) (by kernel_rfl)
        · refine p_run 1 (by kernel_rfl) ?_
          refine e_segb 4 57 (b12 && (eq_T_api_Setting r6.1 (T_api_Setting.mk 4 1))) (fun x hx => ?_) ?_
          · rcases b_and hx with ⟨hb, hx⟩ | ⟨hb, hx⟩
            · refine p_settle 53 hb (by kernel_rfl) (by kernel_rfl) ?_
              subst hx
              exact f_end (by kernel_rfl) (by kernel_rfl)
            · refine p_settle 53 hb (by kernel_rfl) (by kernel_rfl) ?_
              subst hx
              exact f_end (by kernel_rfl) (by kernel_rfl)
          · refine p_run 1 (by kernel_rfl) ?_
            refine e_segb 3 61 ((b12 && (eq_T_api_Setting r6.1 (T_api_Setting.mk 4 1))) && (decide (r6.2.1 = (-1)))) (fun x hx => ?_) ?_
            · rcases b_and hx with ⟨hb, hx⟩ | ⟨hb, hx⟩
              · refine p_settle 58 hb (by kernel_rfl) (by kernel_rfl) ?_
                subst hx
                exact f_end (by kernel_rfl) (by kernel_rfl)
              · refine p_settle 58 hb (by kernel_rfl) (by kernel_rfl) ?_
                subst hx
                exact f_end (by kernel_rfl) (by kernel_rfl)
            · refine p_run 1 (by kernel_rfl) ?_
              refine e_segb 2 64 (((b12 && (eq_T_api_Setting r6.1 (T_api_Setting.mk 4 1))) && (decide (r6.2.1 = (-1)))) && r6.2.2) (fun x hx => ?_) ?_
              · rcases b_and hx with ⟨hb, hx⟩ | ⟨hb, hx⟩
                · refine p_settle 62 hb (by kernel_rfl) (by kernel_rfl) ?_
                  subst hx
                  exact f_end (by kernel_rfl) (by kernel_rfl)
                · refine p_settle 62 hb (by kernel_rfl) (by kernel_rfl) ?_
                  subst hx
                  exact f_end (by kernel_rfl) (by kernel_rfl)
              · obtain ⟨b14, h14, h⟩ := o_bind h
                refine p_run 1 (by kernel_rfl) ?_
                refine e_seg 6 71 (.bool b14) ?_ ?_
                · rcases o_cond h14 with ⟨hb, h14⟩ | ⟨hb, h14⟩
                  · refine p_settle 65 hb (by kernel_rfl) (by kernel_rfl) ?_
                    refine p_run 3 (by kernel_rfl) ?_
                    obtain ⟨r15, h15, h14⟩ := o_bind h14
                    refine p_call (d_flank_Protected_ok _ r15 h15) (by kernel_rfl) (by kernel_rfl) ?_
                    cases h14
                    exact f_end (by kernel_rfl) (by kernel_rfl)
                  · refine p_settle 65 hb (by kernel_rfl) (by kernel_rfl) ?_
                    cases h14
                    exact f_end (by kernel_rfl) (by kernel_rfl)
                · refine e_end (by kernel_rfl) ?_
                  refine q_next ?_
                  refine pwp_ret ?_
                  cases h
                  exact q_ret (by kernel_rfl) (by kernel_rfl) (by kernel_rfl)

/-! signallingref07.Signal -/
noncomputable def d_ref07_Signal_0 (a0 : T_api_Layout) (a1 : T_api_End) : Int → Option (Int ⊕ (Unit ⊕ Int)) := fun x2 =>
  bif decide (x2 < ((a0.Signals.length : Nat) : Int)) then (
    (ixO a0.Signals x2).bind fun x4 =>
    bif eq_T_api_End x4.At a1 then (
      some (.inr (.inr x2))
    ) else (
      some (.inl (w64 (x2 + 1)))
    )
  ) else (
    some (.inr (.inl ()))
  )

noncomputable def d_ref07_Signal (a0 : T_api_Layout) (a1 : T_api_End) : Option Int :=
  onInl (α := Unit) (β := Int) (loopO (d_ref07_Signal_0 a0 a1) 0) fun _ =>
  some (-1)
theorem d_ref07_Signal_ok (a0 : T_api_Layout) (a1 : T_api_End) (r : Int) (h : d_ref07_Signal a0 a1 = some r) : PCall Go.Proofs.Tryd.prog GlS 27 [Enc.pv a0, Enc.pv a1] (Enc.pv r) := by
  unfold d_ref07_Signal at h
  refine pcall_of_pwp Go.Proofs.Tryd.func27 (by rfl) rfl Go.Proofs.Tryd.ntmps27 (by rfl) rfl ?_
  refine pwp_seq ?_
  refine r_reg ?_
  refine e_end (by kernel_rfl) ?_
  refine q_next ?_
  refine pwp_seq ?_
  refine pwp_seq ?_
  refine r_reg ?_
  refine p_run 2 (by kernel_rfl) ?_
  refine p_len (L := (a0.Signals : (List T_api_Signal))) (by kernel_rfl) ?_
  refine e_end (by kernel_rfl) ?_
  refine q_next ?_
  refine pwp_block ?_
  obtain ⟨o6, h6, h⟩ := o_inl h
  refine r_loop2 21 0 (fun x2 => ⟨[(3, .ref 3 0), (8, lstOf .frozen (a0.Signals : (List T_api_Signal))), (9, .int .i64 ((a0.Signals.length : Nat) : Int)), (10, .int .i64 x2)], [(3, .cells (cellsOf a1))], [], []⟩) (fun (_ : Unit) => ⟨[], [], [], []⟩) h6 (by kernel_rfl) (fun _ => by kernel_rfl) ?_ ?_
  · rintro x2 oh5 h5
    unfold d_ref07_Signal_0 at h5
    refine pwp_seq ?_
    refine r_reg ?_
    refine e_end (by kernel_rfl) ?_
    refine q_next ?_
    refine pwp_seq ?_
    rcases o_cond h5 with ⟨hb, h5⟩ | ⟨hb, h5⟩
    · refine r_cond_t hb (by kernel_rfl) ?_
      refine pwp_skip ?_
      refine q_next ?_
      refine pwp_seq ?_
      refine pwp_block ?_
      refine pwp_seq ?_
      refine r_reg ?_
      refine p_run 1 (by kernel_rfl) ?_
      obtain ⟨x4, h7, h5⟩ := o_bind h5
      refine p_ix h7 (by kernel_rfl) ?_
      refine e_end (by kernel_rfl) ?_
      refine q_next ?_
      refine pwp_seq ?_
      refine r_reg ?_
      refine e_end (by kernel_rfl) ?_
      refine q_next ?_
      rcases o_cond h5 with ⟨hb, h5⟩ | ⟨hb, h5⟩
      · refine r_cond_t hb (by kernel_rfl) ?_
        refine pwp_seq ?_
        refine r_reg ?_
        refine e_end (by kernel_rfl) ?_
        refine q_next ?_
        refine pwp_ret ?_
        refine q_block_ret ?_
        refine q_seq_ret ?_
        cases h5
        refine q_lout_ret fun he => ?_
        subst he
        have h8 := o_outr h
        refine q_block_ret ?_
        refine q_seq_ret ?_
        cases h8
        exact q_ret (by kernel_rfl) (by kernel_rfl) (by kernel_rfl)
      · refine r_cond_f hb (by kernel_rfl) ?_
        refine pwp_skip ?_
        refine q_block ?_
        refine q_next ?_
        refine r_reg ?_
        refine e_end (by kernel_rfl) ?_
        cases h5
        exact q_lback (by kernel_rfl)
    · refine r_cond_f hb (by kernel_rfl) ?_
      refine pwp_exit ?_
      refine q_seq_exit ?_
      cases h5
      exact q_lexit (by kernel_rfl) (by kernel_rfl)
  · rintro _ s' rfl hs
    have h := o_outl h
    refine q_block_hit ?_
    refine q_next (pwp_wkr hs ?_)
    refine pwp_seq ?_
    refine r_reg ?_
    refine e_end (by kernel_rfl) ?_
    refine q_next ?_
    refine pwp_ret ?_
    cases h
    exact q_ret (by kernel_rfl) (by kernel_rfl) (by kernel_rfl)

/-! signallingref14.over -/
noncomputable def d_ref14_over_0 (a0 : (List T_api_Step)) (a1 : Int) : Int → Option (Int ⊕ (Unit ⊕ Bool)) := fun x2 =>
  bif decide (x2 < ((a0.length : Nat) : Int)) then (
    (ixO a0 x2).bind fun x4 =>
    bif decide (x4.El = a1) then (
      some (.inr (.inr true))
    ) else (
      some (.inl (w64 (x2 + 1)))
    )
  ) else (
    some (.inr (.inl ()))
  )

noncomputable def d_ref14_over (a0 : (List T_api_Step)) (a1 : Int) : Option Bool :=
  onInl (α := Unit) (β := Bool) (loopO (d_ref14_over_0 a0 a1) 0) fun _ =>
  some false
theorem d_ref14_over_ok (a0 : (List T_api_Step)) (a1 : Int) (r : Bool) (h : d_ref14_over a0 a1 = some r) : PCall Go.Proofs.Tryd.prog GlS 28 [Enc.pv a0, Enc.pv a1] (Enc.pv r) := by
  unfold d_ref14_over at h
  refine pcall_of_pwp Go.Proofs.Tryd.func28 (by rfl) rfl Go.Proofs.Tryd.ntmps28 (by rfl) rfl ?_
  refine pwp_seq ?_
  refine r_reg ?_
  refine e_end (by kernel_rfl) ?_
  refine q_next ?_
  refine pwp_seq ?_
  refine pwp_seq ?_
  refine r_reg ?_
  refine e_end (by kernel_rfl) ?_
  refine q_next ?_
  refine pwp_block ?_
  obtain ⟨o6, h6, h⟩ := o_inl h
  refine r_loop2 19 0 (fun x2 => ⟨[(0, lstOf .frozen (a0 : (List T_api_Step))), (1, .int .i64 a1), (5, .int .i64 x2)], [], [], []⟩) (fun (_ : Unit) => ⟨[], [], [], []⟩) h6 (by kernel_rfl) (fun _ => by kernel_rfl) ?_ ?_
  · rintro x2 oh5 h5
    unfold d_ref14_over_0 at h5
    refine pwp_seq ?_
    refine pwp_seq ?_
    refine r_reg ?_
    refine p_run 2 (by kernel_rfl) ?_
    refine p_len (L := (a0 : (List T_api_Step))) (by kernel_rfl) ?_
    refine e_end (by kernel_rfl) ?_
    refine q_next ?_
    rcases o_cond h5 with ⟨hb, h5⟩ | ⟨hb, h5⟩
    · refine r_cond_t hb (by kernel_rfl) ?_
      refine pwp_skip ?_
      refine q_next ?_
      refine pwp_seq ?_
      refine pwp_block ?_
      refine pwp_seq ?_
      refine r_reg ?_
      refine p_run 2 (by kernel_rfl) ?_
      obtain ⟨x4, h7, h5⟩ := o_bind h5
      refine p_ix h7 (by kernel_rfl) ?_
      refine e_end (by kernel_rfl) ?_
      refine q_next ?_
      rcases o_cond h5 with ⟨hb, h5⟩ | ⟨hb, h5⟩
      · refine r_cond_t hb (by kernel_rfl) ?_
        refine pwp_seq ?_
        refine r_reg ?_
        refine e_end (by kernel_rfl) ?_
        refine q_next ?_
        refine pwp_ret ?_
        refine q_block_ret ?_
        refine q_seq_ret ?_
        cases h5
        refine q_lout_ret fun he => ?_
        subst he
        have h8 := o_outr h
        refine q_block_ret ?_
        refine q_seq_ret ?_
        cases h8
        exact q_ret (by kernel_rfl) (by kernel_rfl) (by kernel_rfl)
      · refine r_cond_f hb (by kernel_rfl) ?_
        refine pwp_skip ?_
        refine q_block ?_
        refine q_next ?_
        refine r_reg ?_
        refine e_end (by kernel_rfl) ?_
        cases h5
        exact q_lback (by kernel_rfl)
    · refine r_cond_f hb (by kernel_rfl) ?_
      refine pwp_exit ?_
      refine q_seq_exit ?_
      cases h5
      exact q_lexit (by kernel_rfl) (by kernel_rfl)
  · rintro _ s' rfl hs
    have h := o_outl h
    refine q_block_hit ?_
    refine q_next (pwp_wkr hs ?_)
    refine pwp_seq ?_
    refine r_reg ?_
    refine e_end (by kernel_rfl) ?_
    refine q_next ?_
    refine pwp_ret ?_
    cases h
    exact q_ret (by kernel_rfl) (by kernel_rfl) (by kernel_rfl)

/-! signallingref14.has -/
noncomputable def d_ref14_has_0 (a0 : (List T_api_Setting)) (a1 : T_api_Setting) : Int → Option (Int ⊕ (Unit ⊕ Bool)) := fun x2 =>
  bif decide (x2 < ((a0.length : Nat) : Int)) then (
    (ixO a0 x2).bind fun x4 =>
    bif eq_T_api_Setting x4 a1 then (
      some (.inr (.inr true))
    ) else (
      some (.inl (w64 (x2 + 1)))
    )
  ) else (
    some (.inr (.inl ()))
  )

noncomputable def d_ref14_has (a0 : (List T_api_Setting)) (a1 : T_api_Setting) : Option Bool :=
  onInl (α := Unit) (β := Bool) (loopO (d_ref14_has_0 a0 a1) 0) fun _ =>
  some false
theorem d_ref14_has_ok (a0 : (List T_api_Setting)) (a1 : T_api_Setting) (r : Bool) (h : d_ref14_has a0 a1 = some r) : PCall Go.Proofs.Tryd.prog GlS 83 [Enc.pv a0, Enc.pv a1] (Enc.pv r) := by
  unfold d_ref14_has at h
  refine pcall_of_pwp Go.Proofs.Tryd.func83 (by rfl) rfl Go.Proofs.Tryd.ntmps83 (by rfl) rfl ?_
  refine pwp_seq ?_
  refine r_reg ?_
  refine e_end (by kernel_rfl) ?_
  refine q_next ?_
  refine pwp_seq ?_
  refine pwp_seq ?_
  refine r_reg ?_
  refine e_end (by kernel_rfl) ?_
  refine q_next ?_
  refine pwp_block ?_
  obtain ⟨o6, h6, h⟩ := o_inl h
  refine r_loop2 18 0 (fun x2 => ⟨[(0, lstOf .frozen (a0 : (List T_api_Setting))), (3, .ref 3 0), (5, .int .i64 x2)], [(3, .cells (cellsOf a1))], [], []⟩) (fun (_ : Unit) => ⟨[], [], [], []⟩) h6 (by kernel_rfl) (fun _ => by kernel_rfl) ?_ ?_
  · rintro x2 oh5 h5
    unfold d_ref14_has_0 at h5
    refine pwp_seq ?_
    refine pwp_seq ?_
    refine r_reg ?_
    refine p_run 2 (by kernel_rfl) ?_
    refine p_len (L := (a0 : (List T_api_Setting))) (by kernel_rfl) ?_
    refine e_end (by kernel_rfl) ?_
    refine q_next ?_
    rcases o_cond h5 with ⟨hb, h5⟩ | ⟨hb, h5⟩
    · refine r_cond_t hb (by kernel_rfl) ?_
      refine pwp_skip ?_
      refine q_next ?_
      refine pwp_seq ?_
      refine pwp_block ?_
      refine pwp_seq ?_
      refine r_regd (by kernel_rfl) (by kernel_rfl) ?_
      refine p_run 2 (by kernel_rfl) ?_
      obtain ⟨x4, h7, h5⟩ := o_bind h5
      refine p_ix h7 (by kernel_rfl) ?_
      refine e_end (by kernel_rfl) ?_
      refine q_next ?_
      rcases o_cond h5 with ⟨hb, h5⟩ | ⟨hb, h5⟩
      · refine r_cond_t hb (by kernel_rfl) ?_
        refine pwp_seq ?_
        refine r_reg ?_
        refine e_end (by kernel_rfl) ?_
        refine q_next ?_
        refine pwp_ret ?_
        refine q_block_ret ?_
        refine q_seq_ret ?_
        cases h5
        refine q_lout_ret fun he => ?_
        subst he
        have h8 := o_outr h
        refine q_block_ret ?_
        refine q_seq_ret ?_
        cases h8
        exact q_ret (by kernel_rfl) (by kernel_rfl) (by kernel_rfl)
      · refine r_cond_f hb (by kernel_rfl) ?_
        refine pwp_skip ?_
        refine q_block ?_
        refine q_next ?_
        refine r_reg ?_
        refine e_end (by kernel_rfl) ?_
        cases h5
        exact q_lback (by kernel_rfl)
    · refine r_cond_f hb (by kernel_rfl) ?_
      refine pwp_exit ?_
      refine q_seq_exit ?_
      cases h5
      exact q_lexit (by kernel_rfl) (by kernel_rfl)
  · rintro _ s' rfl hs
    have h := o_outl h
    refine q_block_hit ?_
    refine q_next (pwp_wkr hs ?_)
    refine pwp_seq ?_
    refine r_reg ?_
    refine e_end (by kernel_rfl) ?_
    refine q_next ?_
    refine pwp_ret ?_
    cases h
    exact q_ret (by kernel_rfl) (by kernel_rfl) (by kernel_rfl)

/-! signallingref14.needs -/
noncomputable def d_ref14_needs (a0 : T_api_Route) (a1 : T_api_Setting) : Option Bool :=
  (d_ref14_has a0.Points a1).bind fun r1 =>
  ((bif r1 then some true else (
    (d_ref14_has a0.OverPoints a1).bind fun r3 =>
    some r3
  )) : Option Bool).bind fun b2 =>
  ((bif b2 then some true else (
    (d_ref14_has a0.Flank a1).bind fun r5 =>
    some r5
  )) : Option Bool).bind fun b4 =>
  some b4
theorem d_ref14_needs_ok (a0 : T_api_Route) (a1 : T_api_Setting) (r : Bool) (h : d_ref14_needs a0 a1 = some r) : PCall Go.Proofs.Tryd.prog GlS 60 [Enc.pv a0, Enc.pv a1] (Enc.pv r) := by
  unfold d_ref14_needs at h
  refine pcall_of_pwp Go.Proofs.Tryd.func60 (by rfl) rfl Go.Proofs.Tryd.ntmps60 (by rfl) rfl ?_
  refine pwp_seq ?_
  refine r_reg ?_
  refine e_end (by kernel_rfl) ?_
  refine q_next ?_
  refine pwp_seq ?_
  refine r_reg ?_
  refine p_run 3 (by kernel_rfl) ?_
  obtain ⟨r1, h1, h⟩ := o_bind h
  refine p_call (d_ref14_has_ok _ _ r1 h1) (by kernel_rfl) (by kernel_rfl) ?_
  obtain ⟨b2, h2, h⟩ := o_bind h
  refine p_run 1 (by kernel_rfl) ?_
  refine e_seg 5 14 (.bool b2) ?_ ?_
  · rcases o_cond h2 with ⟨hb, h2⟩ | ⟨hb, h2⟩
    · refine p_settle 9 hb (by kernel_rfl) (by kernel_rfl) ?_
      cases h2
      exact f_end (by kernel_rfl) (by kernel_rfl)
    · refine p_settle 9 hb (by kernel_rfl) (by kernel_rfl) ?_
      refine p_run 3 (by kernel_rfl) ?_
      obtain ⟨r3, h3, h2⟩ := o_bind h2
      refine p_call (d_ref14_has_ok _ _ r3 h3) (by kernel_rfl) (by kernel_rfl) ?_
      cases h2
      exact f_end (by kernel_rfl) (by kernel_rfl)
  · obtain ⟨b4, h4, h⟩ := o_bind h
    refine p_run 1 (by kernel_rfl) ?_
    refine e_seg 5 20 (.bool b4) ?_ ?_
    · rcases o_cond h4 with ⟨hb, h4⟩ | ⟨hb, h4⟩
      · refine p_settle 15 hb (by kernel_rfl) (by kernel_rfl) ?_
        cases h4
        exact f_end (by kernel_rfl) (by kernel_rfl)
      · refine p_settle 15 hb (by kernel_rfl) (by kernel_rfl) ?_
        refine p_run 3 (by kernel_rfl) ?_
        obtain ⟨r5, h5, h4⟩ := o_bind h4
        refine p_call (d_ref14_has_ok _ _ r5 h5) (by kernel_rfl) (by kernel_rfl) ?_
        cases h4
        exact f_end (by kernel_rfl) (by kernel_rfl)
    · refine e_end (by kernel_rfl) ?_
      refine q_next ?_
      refine pwp_ret ?_
      cases h
      exact q_ret (by kernel_rfl) (by kernel_rfl) (by kernel_rfl)

/-! signallingref14.leg -/
noncomputable def d_ref14_leg (a0 : T_api_Route) (a1 : T_api_End) : Option (T_api_Setting × Int × Bool) :=
  onInl (α := (Int × Int)) (β := (T_api_Setting × Int × Bool)) (
    bif decide (a1.Side = 2) then (
      some (.inl (2, 1))
    ) else (
      some (.inl (1, 2))
    )
  ) fun (x1, x2) =>
  (d_ref14_needs a0 (T_api_Setting.mk a1.El x1)).bind fun r3 =>
  bif r3 then (
    some ((T_api_Setting.mk 0 0), (-1), false)
  ) else (
    some ((T_api_Setting.mk a1.El x2), (-1), true)
  )
theorem d_ref14_leg_ok (a0 : T_api_Route) (a1 : T_api_End) (r : (T_api_Setting × Int × Bool)) (h : d_ref14_leg a0 a1 = some r) : PCall Go.Proofs.Tryd.prog GlS 29 [Enc.pv a0, Enc.pv a1] (.tup [Enc.pv r.1, Enc.pv r.2.1, Enc.pv r.2.2]) := by
  unfold d_ref14_leg at h
  refine pcall_of_pwp Go.Proofs.Tryd.func29 (by rfl) rfl Go.Proofs.Tryd.ntmps29 (by rfl) rfl ?_
  refine pwp_seq ?_
  refine r_reg ?_
  refine e_end (by kernel_rfl) ?_
  refine q_next ?_
  refine pwp_seq ?_
  refine r_reg ?_
  refine e_end (by kernel_rfl) ?_
  refine q_next ?_
  refine pwp_seq ?_
  refine r_reg ?_
  refine e_end (by kernel_rfl) ?_
  refine q_next ?_
  obtain ⟨o1, h1, h⟩ := o_inl h
  refine r_join (o := o1) 29 (fun (x1, x2) => ⟨[(2, .ref 2 0), (4, .ref 4 0), (7, .ref 7 0), (8, .ref 8 0)], [(2, .cells (cellsOf a0)), (4, .cells ([.int .i64 0, .int .i64 0])), (7, .cells ([.int .i64 a1.El, .int .i64 x1])), (8, .cells ([.int .i64 a1.El, .int .i64 x2]))], [], []⟩) ?_ ?_
  · refine pwp_seq ?_
    refine r_reg ?_
    refine e_end (by kernel_rfl) ?_
    refine q_next ?_
    rcases o_cond h1 with ⟨hb, h1⟩ | ⟨hb, h1⟩
    · refine r_cond_t hb (by kernel_rfl) ?_
      refine pwp_seq ?_
      refine r_reg ?_
      refine e_end (by kernel_rfl) ?_
      refine q_next ?_
      refine r_reg ?_
      refine e_end (by kernel_rfl) ?_
      cases h1
      exact q_join (by kernel_rfl) (by kernel_rfl)
    · refine r_cond_f hb (by kernel_rfl) ?_
      refine pwp_skip ?_
      cases h1
      exact q_join (by kernel_rfl) (by kernel_rfl)
  · rintro ⟨x1, x2⟩ rfl
    have h := o_outl h
    refine pwp_seq ?_
    refine pwp_seq ?_
    refine r_reg ?_
    refine p_run 2 (by kernel_rfl) ?_
    obtain ⟨r3, h2, h⟩ := o_bind h
    refine p_call (d_ref14_needs_ok _ _ r3 h2) (by kernel_rfl) (by kernel_rfl) ?_
    refine e_nil (by kernel_rfl) ?_
    refine q_next ?_
    rcases o_cond h with ⟨hb, h⟩ | ⟨hb, h⟩
    · refine r_cond_t hb (by kernel_rfl) ?_
      refine pwp_seq ?_
      refine r_reg ?_
      refine e_end (by kernel_rfl) ?_
      refine q_next ?_
      refine pwp_ret ?_
      refine q_seq_ret ?_
      cases h
      exact q_ret (by kernel_rfl) (by kernel_rfl) (by kernel_rfl)
    · refine r_cond_f hb (by kernel_rfl) ?_
      refine pwp_skip ?_
      refine q_next ?_
      refine pwp_seq ?_
      refine r_reg ?_
      refine e_end (by kernel_rfl) ?_
      refine q_next ?_
      refine pwp_ret ?_
      cases h
      exact q_ret (by kernel_rfl) (by kernel_rfl) (by kernel_rfl)

/-! signallingref06.Need -/
noncomputable def d_ref06_Need (a0 : Int) (a1 : Int) (a2 : Int) : Option (Int × Bool) :=
  bif ((decide (a0 = 1)) || (decide (a0 = 3))) then (
    some (0, (((decide ((min a1 a2) = 0)) && (decide ((max a1 a2) = 1))) || (((decide (a0 = 3)) && (decide ((min a1 a2) = 2))) && (decide ((max a1 a2) = 3)))))
  ) else (
    bif (((decide (a0 = 2)) && (decide ((min a1 a2) = 0))) && (decide ((max a1 a2) = 1))) then (
      some (1, true)
    ) else (
      bif (((decide (a0 = 2)) && (decide ((min a1 a2) = 0))) && (decide ((max a1 a2) = 2))) then (
        some (2, true)
      ) else (
        some (0, false)
      )
    )
  )
theorem d_ref06_Need_ok (a0 : Int) (a1 : Int) (a2 : Int) (r : (Int × Bool)) (h : d_ref06_Need a0 a1 a2 = some r) : PCall Go.Proofs.Tryd.prog GlS 45 [Enc.pv a0, Enc.pv a1, Enc.pv a2] (.tup [Enc.pv r.1, Enc.pv r.2]) := by
  unfold d_ref06_Need at h
  refine pcall_of_pwp Go.Proofs.Tryd.func45 (by rfl) rfl Go.Proofs.Tryd.ntmps45 (by rfl) rfl ?_
  refine pwp_seq ?_
  refine r_reg ?_
  refine e_end (by kernel_rfl) ?_
  refine q_next ?_
  refine pwp_seq ?_
  refine r_reg ?_
  refine e_end (by kernel_rfl) ?_
  refine q_next ?_
  refine pwp_seq ?_
  refine r_reg ?_
  refine e_end (by kernel_rfl) ?_
  refine q_next ?_
  refine pwp_seq ?_
  refine pwp_seq ?_
  refine r_reg ?_
  refine p_run 3 (by kernel_rfl) ?_
  refine e_segb 3 21 ((decide (a0 = 1)) || (decide (a0 = 3))) (fun x hx => ?_) ?_
  · rcases b_or hx with ⟨hb, hx⟩ | ⟨hb, hx⟩
    · refine p_settle 18 hb (by kernel_rfl) (by kernel_rfl) ?_
      subst hx
      exact f_end (by kernel_rfl) (by kernel_rfl)
    · refine p_settle 18 hb (by kernel_rfl) (by kernel_rfl) ?_
      subst hx
      exact f_end (by kernel_rfl) (by kernel_rfl)
  · refine e_nil (by kernel_rfl) ?_
    refine q_next ?_
    rcases o_cond h with ⟨hb, h⟩ | ⟨hb, h⟩
    · refine r_cond_t hb (by kernel_rfl) ?_
      refine pwp_seq ?_
      refine r_reg ?_
      refine p_run 3 (by kernel_rfl) ?_
      refine e_segb 3 27 ((decide ((min a1 a2) = 0)) && (decide ((max a1 a2) = 1))) (fun x hx => ?_) ?_
      · rcases b_and hx with ⟨hb, hx⟩ | ⟨hb, hx⟩
        · refine p_settle 24 hb (by kernel_rfl) (by kernel_rfl) ?_
          subst hx
          exact f_end (by kernel_rfl) (by kernel_rfl)
        · refine p_settle 24 hb (by kernel_rfl) (by kernel_rfl) ?_
          subst hx
          exact f_end (by kernel_rfl) (by kernel_rfl)
      · refine p_run 1 (by kernel_rfl) ?_
        refine e_segb 11 39 (((decide ((min a1 a2) = 0)) && (decide ((max a1 a2) = 1))) || (((decide (a0 = 3)) && (decide ((min a1 a2) = 2))) && (decide ((max a1 a2) = 3)))) (fun x hx => ?_) ?_
        · rcases b_or hx with ⟨hb, hx⟩ | ⟨hb, hx⟩
          · refine p_settle 28 hb (by kernel_rfl) (by kernel_rfl) ?_
            subst hx
            exact f_end (by kernel_rfl) (by kernel_rfl)
          · refine p_settle 28 hb (by kernel_rfl) (by kernel_rfl) ?_
            refine p_run 3 (by kernel_rfl) ?_
            refine f_segb 3 34 ((decide (a0 = 3)) && (decide ((min a1 a2) = 2))) (fun x hx => ?_) ?_
            · rcases b_and hx with ⟨hb, hx⟩ | ⟨hb, hx⟩
              · refine p_settle 31 hb (by kernel_rfl) (by kernel_rfl) ?_
                subst hx
                exact f_end (by kernel_rfl) (by kernel_rfl)
              · refine p_settle 31 hb (by kernel_rfl) (by kernel_rfl) ?_
                subst hx
                exact f_end (by kernel_rfl) (by kernel_rfl)
            · refine p_run 1 (by kernel_rfl) ?_
              refine f_segb 3 38 (((decide (a0 = 3)) && (decide ((min a1 a2) = 2))) && (decide ((max a1 a2) = 3))) (fun x hx => ?_) ?_
              · rcases b_and hx with ⟨hb, hx⟩ | ⟨hb, hx⟩
                · refine p_settle 35 hb (by kernel_rfl) (by kernel_rfl) ?_
                  subst hx
                  exact f_end (by kernel_rfl) (by kernel_rfl)
                · refine p_settle 35 hb (by kernel_rfl) (by kernel_rfl) ?_
                  subst hx
                  exact f_end (by kernel_rfl) (by kernel_rfl)
              · subst hx
                exact f_end (by kernel_rfl) (by kernel_rfl)
        · refine e_end (by kernel_rfl) ?_
          refine q_next ?_
          refine pwp_ret ?_
          refine q_seq_ret ?_
          cases h
          exact q_ret (by kernel_rfl) (by kernel_rfl) (by kernel_rfl)
    · refine r_cond_f hb (by kernel_rfl) ?_
      refine pwp_skip ?_
      refine q_next ?_
      refine pwp_seq ?_
      refine pwp_seq ?_
      refine r_reg ?_
      refine p_run 3 (by kernel_rfl) ?_
      refine e_segb 3 45 ((decide (a0 = 2)) && (decide ((min a1 a2) = 0))) (fun x hx => ?_) ?_
      · rcases b_and hx with ⟨hb, hx⟩ | ⟨hb, hx⟩
        · refine p_settle 42 hb (by kernel_rfl) (by kernel_rfl) ?_
          subst hx
          exact f_end (by kernel_rfl) (by kernel_rfl)
        · refine p_settle 42 hb (by kernel_rfl) (by kernel_rfl) ?_
          subst hx
          exact f_end (by kernel_rfl) (by kernel_rfl)
      · refine p_run 1 (by kernel_rfl) ?_
        refine e_segb 3 49 (((decide (a0 = 2)) && (decide ((min a1 a2) = 0))) && (decide ((max a1 a2) = 1))) (fun x hx => ?_) ?_
        · rcases b_and hx with ⟨hb, hx⟩ | ⟨hb, hx⟩
          · refine p_settle 46 hb (by kernel_rfl) (by kernel_rfl) ?_
            subst hx
            exact f_end (by kernel_rfl) (by kernel_rfl)
          · refine p_settle 46 hb (by kernel_rfl) (by kernel_rfl) ?_
            subst hx
            exact f_end (by kernel_rfl) (by kernel_rfl)
        · refine e_nil (by kernel_rfl) ?_
          refine q_next ?_
          rcases o_cond h with ⟨hb, h⟩ | ⟨hb, h⟩
          · refine r_cond_t hb (by kernel_rfl) ?_
            refine pwp_seq ?_
            refine r_reg ?_
            refine e_end (by kernel_rfl) ?_
            refine q_next ?_
            refine pwp_ret ?_
            refine q_seq_ret ?_
            cases h
            exact q_ret (by kernel_rfl) (by kernel_rfl) (by kernel_rfl)
          · refine r_cond_f hb (by kernel_rfl) ?_
            refine pwp_skip ?_
            refine q_next ?_
            refine pwp_seq ?_
            refine pwp_seq ?_
            refine r_reg ?_
            refine p_run 3 (by kernel_rfl) ?_
            refine e_segb 3 55 ((decide (a0 = 2)) && (decide ((min a1 a2) = 0))) (fun x hx => ?_) ?_
            · rcases b_and hx with ⟨hb, hx⟩ | ⟨hb, hx⟩
              · refine p_settle 52 hb (by kernel_rfl) (by kernel_rfl) ?_
                subst hx
                exact f_end (by kernel_rfl) (by kernel_rfl)
              · refine p_settle 52 hb (by kernel_rfl) (by kernel_rfl) ?_
                subst hx
                exact f_end (by kernel_rfl) (by kernel_rfl)
            · refine p_run 1 (by kernel_rfl) ?_
              refine e_segb 3 59 (((decide (a0 = 2)) && (decide ((min a1 a2) = 0))) && (decide ((max a1 a2) = 2))) (fun x hx => ?_) ?_
              · rcases b_and hx with ⟨hb, hx⟩ | ⟨hb, hx⟩
                · refine p_settle 56 hb (by kernel_rfl) (by kernel_rfl) ?_
                  subst hx
                  exact f_end (by kernel_rfl) (by kernel_rfl)
                · refine p_settle 56 hb (by kernel_rfl) (by kernel_rfl) ?_
                  subst hx
                  exact f_end (by kernel_rfl) (by kernel_rfl)
              · refine e_nil (by kernel_rfl) ?_
                refine q_next ?_
                rcases o_cond h with ⟨hb, h⟩ | ⟨hb, h⟩
                · refine r_cond_t hb (by kernel_rfl) ?_
                  refine pwp_seq ?_
                  refine r_reg ?_
                  refine e_end (by kernel_rfl) ?_
                  refine q_next ?_
                  refine pwp_ret ?_
                  refine q_seq_ret ?_
                  cases h
                  exact q_ret (by kernel_rfl) (by kernel_rfl) (by kernel_rfl)
                · refine r_cond_f hb (by kernel_rfl) ?_
                  refine pwp_skip ?_
                  refine q_next ?_
                  refine pwp_seq ?_
                  refine r_reg ?_
                  refine e_end (by kernel_rfl) ?_
                  refine q_next ?_
                  refine pwp_ret ?_
                  cases h
                  exact q_ret (by kernel_rfl) (by kernel_rfl) (by kernel_rfl)

/-! signallingref06.Out -/
noncomputable def d_ref06_Out_0 (a0 : Int) (a1 : Int) (a2 : Int) : Int → Option (Int ⊕ (Unit ⊕ (Int × Bool))) := fun x2 =>
  bif decide (x2 < 4) then (
    (d_ref06_Need a0 a1 x2).bind fun r4 =>
    bif (r4.2 && ((decide (r4.1 = 0)) || (decide (r4.1 = a2)))) then (
      some (.inr (.inr (x2, true)))
    ) else (
      some (.inl (w64 (x2 + 1)))
    )
  ) else (
    some (.inr (.inl ()))
  )

noncomputable def d_ref06_Out (a0 : Int) (a1 : Int) (a2 : Int) : Option (Int × Bool) :=
  onInl (α := Unit) (β := (Int × Bool)) (loopO (d_ref06_Out_0 a0 a1 a2) 0) fun _ =>
  some (0, false)
theorem d_ref06_Out_ok (a0 : Int) (a1 : Int) (a2 : Int) (r : (Int × Bool)) (h : d_ref06_Out a0 a1 a2 = some r) : PCall Go.Proofs.Tryd.prog GlS 30 [Enc.pv a0, Enc.pv a1, Enc.pv a2] (.tup [Enc.pv r.1, Enc.pv r.2]) := by
  unfold d_ref06_Out at h
  refine pcall_of_pwp Go.Proofs.Tryd.func30 (by rfl) rfl Go.Proofs.Tryd.ntmps30 (by rfl) rfl ?_
  refine pwp_seq ?_
  refine r_reg ?_
  refine e_end (by kernel_rfl) ?_
  refine q_next ?_
  refine pwp_seq ?_
  refine pwp_seq ?_
  refine r_reg ?_
  refine e_end (by kernel_rfl) ?_
  refine q_next ?_
  refine pwp_block ?_
  obtain ⟨o6, h6, h⟩ := o_inl h
  refine r_loop2 33 0 (fun x2 => ⟨[(0, .int .i64 a0), (1, .int .i64 a1), (2, .int .i64 a2), (8, .int .i64 x2)], [], [], []⟩) (fun (_ : Unit) => ⟨[], [], [], []⟩) h6 (by kernel_rfl) (fun _ => by kernel_rfl) ?_ ?_
  · rintro x2 oh5 h5
    unfold d_ref06_Out_0 at h5
    refine pwp_seq ?_
    refine pwp_seq ?_
    refine r_reg ?_
    refine e_end (by kernel_rfl) ?_
    refine q_next ?_
    rcases o_cond h5 with ⟨hb, h5⟩ | ⟨hb, h5⟩
    · refine r_cond_t hb (by kernel_rfl) ?_
      refine pwp_skip ?_
      refine q_next ?_
      refine pwp_seq ?_
      refine pwp_block ?_
      refine pwp_seq ?_
      refine r_reg ?_
      refine p_run 3 (by kernel_rfl) ?_
      obtain ⟨r4, h7, h5⟩ := o_bind h5
      refine p_call (d_ref06_Need_ok _ _ _ r4 h7) (by kernel_rfl) (by kernel_rfl) ?_
      refine e_end (by kernel_rfl) ?_
      refine q_next ?_
      refine pwp_seq ?_
      refine r_reg ?_
      refine p_run 2 (by kernel_rfl) ?_
      refine e_segb 8 31 (r4.2 && ((decide (r4.1 = 0)) || (decide (r4.1 = a2)))) (fun x hx => ?_) ?_
      · rcases b_and hx with ⟨hb, hx⟩ | ⟨hb, hx⟩
        · refine p_settle 23 hb (by kernel_rfl) (by kernel_rfl) ?_
          refine p_run 3 (by kernel_rfl) ?_
          refine f_segb 4 30 ((decide (r4.1 = 0)) || (decide (r4.1 = a2))) (fun x hx => ?_) ?_
          · rcases b_or hx with ⟨hb, hx⟩ | ⟨hb, hx⟩
            · refine p_settle 26 hb (by kernel_rfl) (by kernel_rfl) ?_
              subst hx
              exact f_end (by kernel_rfl) (by kernel_rfl)
            · refine p_settle 26 hb (by kernel_rfl) (by kernel_rfl) ?_
              subst hx
              exact f_end (by kernel_rfl) (by kernel_rfl)
          · subst hx
            exact f_end (by kernel_rfl) (by kernel_rfl)
        · refine p_settle 23 hb (by kernel_rfl) (by kernel_rfl) ?_
          subst hx
          exact f_end (by kernel_rfl) (by kernel_rfl)
      · refine e_nil (by kernel_rfl) ?_
        refine q_next ?_
        rcases o_cond h5 with ⟨hb, h5⟩ | ⟨hb, h5⟩
        · refine r_cond_t hb (by kernel_rfl) ?_
          refine pwp_seq ?_
          refine r_reg ?_
          refine e_end (by kernel_rfl) ?_
          refine q_next ?_
          refine pwp_ret ?_
          refine q_block_ret ?_
          refine q_seq_ret ?_
          cases h5
          refine q_lout_ret fun he => ?_
          subst he
          have h8 := o_outr h
          refine q_block_ret ?_
          refine q_seq_ret ?_
          cases h8
          exact q_ret (by kernel_rfl) (by kernel_rfl) (by kernel_rfl)
        · refine r_cond_f hb (by kernel_rfl) ?_
          refine pwp_skip ?_
          refine q_block ?_
          refine q_next ?_
          refine r_reg ?_
          refine e_end (by kernel_rfl) ?_
          cases h5
          exact q_lback (by kernel_rfl)
    · refine r_cond_f hb (by kernel_rfl) ?_
      refine pwp_exit ?_
      refine q_seq_exit ?_
      cases h5
      exact q_lexit (by kernel_rfl) (by kernel_rfl)
  · rintro _ s' rfl hs
    have h := o_outl h
    refine q_block_hit ?_
    refine q_next (pwp_wkr hs ?_)
    refine pwp_seq ?_
    refine r_reg ?_
    refine e_end (by kernel_rfl) ?_
    refine q_next ?_
    refine pwp_ret ?_
    cases h
    exact q_ret (by kernel_rfl) (by kernel_rfl) (by kernel_rfl)

/-! signallingref14.Search -/
noncomputable def d_ref14_Search_0 (a0 : T_api_Layout) (a1 : T_api_Route) : (Int × Int × Int) → Option ((Int × Int × Int) ⊕ (Unit ⊕ (T_api_Setting × Int × Bool))) := fun (x13, x14, x15) =>
  bif decide (x13 < 4) then (
    (d_ref07_Joined a0 (T_api_End.mk x14 x15)).bind fun r28 =>
    bif (!r28.2) then (
      some (.inr (.inr ((T_api_Setting.mk 0 0), (-1), true)))
    ) else (
      (d_ref07_Signal a0 r28.1).bind fun r29 =>
      bif decide (0 ≤ r29) then (
        some (.inr (.inr ((T_api_Setting.mk 0 0), r29, true)))
      ) else (
        (d_ref14_over a1.Path r28.1.El).bind fun r30 =>
        ((bif r30 then some true else (
          (d_ref14_over a1.Over r28.1.El).bind fun r32 =>
          some r32
        )) : Option Bool).bind fun b31 =>
        bif b31 then (
          some (.inr (.inr ((T_api_Setting.mk 0 0), (-1), true)))
        ) else (
          ((bif decide (r28.1.El < 0) then some true else (
            some (decide (((a0.Elements.length : Nat) : Int) ≤ r28.1.El))
          )) : Option Bool).bind fun b33 =>
          ((bif b33 then some true else (
            (ixO a0.Elements r28.1.El).bind fun x35 =>
            some ((decide (x35.Kind = 2)) && (decide (r28.1.Side = 0)))
          )) : Option Bool).bind fun b34 =>
          bif b34 then (
            some (.inr (.inr ((T_api_Setting.mk 0 0), (-1), false)))
          ) else (
            (ixO a0.Elements r28.1.El).bind fun x36 =>
            bif decide (x36.Kind = 2) then (
              (d_ref14_leg a1 r28.1).bind fun r37 =>
              some (.inr (.inr (r37.1, r37.2.1, r37.2.2)))
            ) else (
              (ixO a0.Elements r28.1.El).bind fun x38 =>
              (d_ref06_Out x38.Kind r28.1.Side 0).bind fun r39 =>
              some (.inl (w64 (x13 + 1), r28.1.El, r39.1))
            )
          )
        )
      )
    )
  ) else (
    some (.inr (.inl ()))
  )

noncomputable def d_ref14_Search (a0 : T_api_Layout) (a1 : T_api_Route) (a2 : T_api_End) : Option (T_api_Setting × Int × Bool) :=
  onInl (α := Unit) (β := (T_api_Setting × Int × Bool)) (loopO (d_ref14_Search_0 a0 a1) (0, a2.El, a2.Side)) fun _ =>
  some ((T_api_Setting.mk 0 0), (-1), false)
theorem d_ref14_Search_ok (a0 : T_api_Layout) (a1 : T_api_Route) (a2 : T_api_End) (r : (T_api_Setting × Int × Bool)) (h : d_ref14_Search a0 a1 a2 = some r) : PCall Go.Proofs.Tryd.prog GlS 10 [Enc.pv a0, Enc.pv a1, Enc.pv a2] (.tup [Enc.pv r.1, Enc.pv r.2.1, Enc.pv r.2.2]) := by
  unfold d_ref14_Search at h
  refine pcall_of_pwp Go.Proofs.Tryd.func10 (by rfl) rfl Go.Proofs.Tryd.ntmps10 (by rfl) rfl ?_
  refine pwp_seq ?_
  refine r_reg ?_
  refine e_end (by kernel_rfl) ?_
  refine q_next ?_
  refine pwp_seq ?_
  refine pwp_seq ?_
  refine r_reg ?_
  refine e_end (by kernel_rfl) ?_
  refine q_next ?_
  refine pwp_block ?_
  obtain ⟨o36, h36, h⟩ := o_inl h
  refine r_loop2 107 0 (fun (x13, x14, x15) => ⟨[(3, .ref 3 0), (4, .ref 4 0), (5, .ref 5 0), (6, .ref 6 0), (9, .int .i64 x13)], [(3, .cells (cellsOf a0)), (4, .cells (cellsOf a1)), (5, .cells ([.int .i64 x14, .int .i64 x15])), (6, .cells ([.int .i64 0, .int .i64 0]))], [], []⟩) (fun (_ : Unit) => ⟨[(6, .ref 6 0)], [(6, .cells ([.int .i64 0, .int .i64 0]))], [], []⟩) h36 (by kernel_rfl) (fun _ => by kernel_rfl) ?_ ?_
  · rintro ⟨x13, x14, x15⟩ oh35 h35
    unfold d_ref14_Search_0 at h35
    refine pwp_seq ?_
    refine pwp_seq ?_
    refine r_reg ?_
    refine e_end (by kernel_rfl) ?_
    refine q_next ?_
    rcases o_cond h35 with ⟨hb, h35⟩ | ⟨hb, h35⟩
    · refine r_cond_t hb (by kernel_rfl) ?_
      refine pwp_skip ?_
      refine q_next ?_
      refine pwp_seq ?_
      refine pwp_block ?_
      refine pwp_seq ?_
      refine r_reg ?_
      refine p_run 2 (by kernel_rfl) ?_
      obtain ⟨r28, h37, h35⟩ := o_bind h35
      refine p_call (d_ref07_Joined_ok _ _ r28 h37) (by kernel_rfl) (by kernel_rfl) ?_
      refine e_end (by kernel_rfl) ?_
      refine q_next ?_
      refine pwp_seq ?_
      refine pwp_seq ?_
      refine r_reg ?_
      refine e_end (by kernel_rfl) ?_
      refine q_next ?_
      rcases o_cond h35 with ⟨hb, h35⟩ | ⟨hb, h35⟩
      · refine r_cond_t hb (by kernel_rfl) ?_
        refine pwp_seq ?_
        refine r_reg ?_
        refine e_end (by kernel_rfl) ?_
        refine q_next ?_
        refine pwp_ret ?_
        refine q_seq_ret ?_
        refine q_block_ret ?_
        refine q_seq_ret ?_
        cases h35
        refine q_lout_ret fun he => ?_
        subst he
        have h38 := o_outr h
        refine q_block_ret ?_
        refine q_seq_ret ?_
        cases h38
        exact q_ret (by kernel_rfl) (by kernel_rfl) (by kernel_rfl)
      · refine r_cond_f hb (by kernel_rfl) ?_
        refine pwp_skip ?_
        refine q_next ?_
        refine pwp_seq ?_
        refine r_reg ?_
        refine p_run 2 (by kernel_rfl) ?_
        obtain ⟨r29, h39, h35⟩ := o_bind h35
        refine p_call (d_ref07_Signal_ok _ _ r29 h39) (by kernel_rfl) (by kernel_rfl) ?_
        refine e_end (by kernel_rfl) ?_
        refine q_next ?_
        refine pwp_seq ?_
        refine pwp_seq ?_
        refine r_reg ?_
        refine e_end (by kernel_rfl) ?_
        refine q_next ?_
        rcases o_cond h35 with ⟨hb, h35⟩ | ⟨hb, h35⟩
        · refine r_cond_t hb (by kernel_rfl) ?_
          refine pwp_seq ?_
          refine r_reg ?_
          refine e_end (by kernel_rfl) ?_
          refine q_next ?_
          refine pwp_ret ?_
          refine q_seq_ret ?_
          refine q_block_ret ?_
          refine q_seq_ret ?_
          cases h35
          refine q_lout_ret fun he => ?_
          subst he
          have h40 := o_outr h
          refine q_block_ret ?_
          refine q_seq_ret ?_
          cases h40
          exact q_ret (by kernel_rfl) (by kernel_rfl) (by kernel_rfl)
        · refine r_cond_f hb (by kernel_rfl) ?_
          refine pwp_skip ?_
          refine q_next ?_
          refine pwp_seq ?_
          refine pwp_seq ?_
          refine r_reg ?_
          refine p_run 4 (by kernel_rfl) ?_
          obtain ⟨r30, h41, h35⟩ := o_bind h35
          refine p_call (d_ref14_over_ok _ _ r30 h41) (by kernel_rfl) (by kernel_rfl) ?_
          obtain ⟨b31, h42, h35⟩ := o_bind h35
          refine p_run 1 (by kernel_rfl) ?_
          refine e_seg 6 46 (.bool b31) ?_ ?_
          · rcases o_cond h42 with ⟨hb, h42⟩ | ⟨hb, h42⟩
            · refine p_settle 40 hb (by kernel_rfl) (by kernel_rfl) ?_
              cases h42
              exact f_end (by kernel_rfl) (by kernel_rfl)
            · refine p_settle 40 hb (by kernel_rfl) (by kernel_rfl) ?_
              refine p_run 4 (by kernel_rfl) ?_
              obtain ⟨r32, h43, h42⟩ := o_bind h42
              refine p_call (d_ref14_over_ok _ _ r32 h43) (by kernel_rfl) (by kernel_rfl) ?_
              cases h42
              exact f_end (by kernel_rfl) (by kernel_rfl)
          · refine e_nil (by kernel_rfl) ?_
            refine q_next ?_
            rcases o_cond h35 with ⟨hb, h35⟩ | ⟨hb, h35⟩
            · refine r_cond_t hb (by kernel_rfl) ?_
              refine pwp_seq ?_
              refine r_reg ?_
              refine e_end (by kernel_rfl) ?_
              refine q_next ?_
              refine pwp_ret ?_
              refine q_seq_ret ?_
              refine q_block_ret ?_
              refine q_seq_ret ?_
              cases h35
              refine q_lout_ret fun he => ?_
              subst he
              have h44 := o_outr h
              refine q_block_ret ?_
              refine q_seq_ret ?_
              cases h44
              exact q_ret (by kernel_rfl) (by kernel_rfl) (by kernel_rfl)
            · refine r_cond_f hb (by kernel_rfl) ?_
              refine pwp_skip ?_
              refine q_next ?_
              refine pwp_seq ?_
              refine pwp_seq ?_
              refine r_reg ?_
              obtain ⟨b33, h45, h35⟩ := o_bind h35
              refine p_run 4 (by kernel_rfl) ?_
              refine e_seg 7 58 (.bool b33) ?_ ?_
              · rcases o_cond h45 with ⟨hb, h45⟩ | ⟨hb, h45⟩
                · refine p_settle 51 hb (by kernel_rfl) (by kernel_rfl) ?_
                  cases h45
                  exact f_end (by kernel_rfl) (by kernel_rfl)
                · refine p_settle 51 hb (by kernel_rfl) (by kernel_rfl) ?_
                  refine p_run 4 (by kernel_rfl) ?_
                  refine p_len (L := (a0.Elements : (List T_api_Element))) (by kernel_rfl) ?_
                  cases h45
                  exact f_end (by kernel_rfl) (by kernel_rfl)
              · obtain ⟨b34, h46, h35⟩ := o_bind h35
                refine p_run 1 (by kernel_rfl) ?_
                refine e_seg 14 73 (.bool b34) ?_ ?_
                · rcases o_cond h46 with ⟨hb, h46⟩ | ⟨hb, h46⟩
                  · refine p_settle 59 hb (by kernel_rfl) (by kernel_rfl) ?_
                    cases h46
                    exact f_end (by kernel_rfl) (by kernel_rfl)
                  · refine p_settle 59 hb (by kernel_rfl) (by kernel_rfl) ?_
                    refine p_run 4 (by kernel_rfl) ?_
                    obtain ⟨x35, h47, h46⟩ := o_bind h46
                    refine p_ix h47 (by kernel_rfl) ?_
                    refine p_run 4 (by kernel_rfl) ?_
                    refine f_segb 4 72 ((decide (x35.Kind = 2)) && (decide (r28.1.Side = 0))) (fun x hx => ?_) ?_
                    · rcases b_and hx with ⟨hb, hx⟩ | ⟨hb, hx⟩
                      · refine p_settle 68 hb (by kernel_rfl) (by kernel_rfl) ?_
                        subst hx
                        exact f_end (by kernel_rfl) (by kernel_rfl)
                      · refine p_settle 68 hb (by kernel_rfl) (by kernel_rfl) ?_
                        subst hx
                        exact f_end (by kernel_rfl) (by kernel_rfl)
                    · cases h46
                      exact f_end (by kernel_rfl) (by kernel_rfl)
                · refine e_nil (by kernel_rfl) ?_
                  refine q_next ?_
                  rcases o_cond h35 with ⟨hb, h35⟩ | ⟨hb, h35⟩
                  · refine r_cond_t hb (by kernel_rfl) ?_
                    refine pwp_seq ?_
                    refine r_reg ?_
                    refine e_end (by kernel_rfl) ?_
                    refine q_next ?_
                    refine pwp_ret ?_
                    refine q_seq_ret ?_
                    refine q_block_ret ?_
                    refine q_seq_ret ?_
                    cases h35
                    refine q_lout_ret fun he => ?_
                    subst he
                    have h48 := o_outr h
                    refine q_block_ret ?_
                    refine q_seq_ret ?_
                    cases h48
                    exact q_ret (by kernel_rfl) (by kernel_rfl) (by kernel_rfl)
                  · refine r_cond_f hb (by kernel_rfl) ?_
                    refine pwp_skip ?_
                    refine q_next ?_
                    refine pwp_seq ?_
                    refine pwp_seq ?_
                    refine r_reg ?_
                    refine p_run 4 (by kernel_rfl) ?_
                    obtain ⟨x36, h49, h35⟩ := o_bind h35
                    refine p_ix h49 (by kernel_rfl) ?_
                    refine e_end (by kernel_rfl) ?_
                    refine q_next ?_
                    rcases o_cond h35 with ⟨hb, h35⟩ | ⟨hb, h35⟩
                    · refine r_cond_t hb (by kernel_rfl) ?_
                      refine pwp_seq ?_
                      refine r_reg ?_
                      refine p_run 2 (by kernel_rfl) ?_
                      obtain ⟨r37, h50, h35⟩ := o_bind h35
                      refine p_call (d_ref14_leg_ok _ _ r37 h50) (by kernel_rfl) (by kernel_rfl) ?_
                      refine e_end (by kernel_rfl) ?_
                      refine q_next ?_
                      refine pwp_ret ?_
                      refine q_seq_ret ?_
                      refine q_block_ret ?_
                      refine q_seq_ret ?_
                      cases h35
                      refine q_lout_ret fun he => ?_
                      subst he
                      have h51 := o_outr h
                      refine q_block_ret ?_
                      refine q_seq_ret ?_
                      cases h51
                      exact q_ret (by kernel_rfl) (by kernel_rfl) (by kernel_rfl)
                    · refine r_cond_f hb (by kernel_rfl) ?_
                      refine pwp_skip ?_
                      refine q_next ?_
                      refine pwp_seq ?_
                      refine r_regd (by kernel_rfl) (by kernel_rfl) ?_
                      refine p_run 4 (by kernel_rfl) ?_
                      obtain ⟨x38, h52, h35⟩ := o_bind h35
                      refine p_ix h52 (by kernel_rfl) ?_
                      refine p_run 4 (by kernel_rfl) ?_
                      obtain ⟨r39, h53, h35⟩ := o_bind h35
                      refine p_call (d_ref06_Out_ok _ _ _ r39 h53) (by kernel_rfl) (by kernel_rfl) ?_
                      refine e_end (by kernel_rfl) ?_
                      refine q_next ?_
                      refine r_reg ?_
                      refine e_end (by kernel_rfl) ?_
                      refine q_block ?_
                      refine q_next ?_
                      refine r_reg ?_
                      refine e_end (by kernel_rfl) ?_
                      cases h35
                      exact q_lback (by kernel_rfl)
    · refine r_cond_f hb (by kernel_rfl) ?_
      refine pwp_exit ?_
      refine q_seq_exit ?_
      cases h35
      exact q_lexit (by kernel_rfl) (by kernel_rfl)
  · rintro _ s' rfl hs
    have h := o_outl h
    refine q_block_hit ?_
    refine q_next (pwp_wkr hs ?_)
    refine pwp_seq ?_
    refine r_reg ?_
    refine e_end (by kernel_rfl) ?_
    refine q_next ?_
    refine pwp_ret ?_
    cases h
    exact q_ret (by kernel_rfl) (by kernel_rfl) (by kernel_rfl)

/-! signallinglaw14.FlankSearches -/
noncomputable def d_law14_FlankSearches (a0 : T_api_Layout) (a1 : T_api_Route) (a2 : T_api_End) : Option Bool :=
  (d_law14_few a0 a1).bind fun r1 =>
  bif (!r1) then (
    (d_law14_alive ).bind fun r2 =>
    some r2
  ) else (
    (d_flank_Search a0 a1 a2).bind fun r3 =>
    (d_ref14_Search a0 a1 a2).bind fun r4 =>
    ((bif (((eq_T_api_Setting r3.1 r4.1) && (decide (r3.2.1 = r4.2.1))) && (r3.2.2 == r4.2.2)) then (
      (d_law14_alive ).bind fun r6 =>
      some r6
    ) else some false) : Option Bool).bind fun b5 =>
    some b5
  )
theorem d_law14_FlankSearches_ok (a0 : T_api_Layout) (a1 : T_api_Route) (a2 : T_api_End) (r : Bool) (h : d_law14_FlankSearches a0 a1 a2 = some r) : PCall Go.Proofs.Tryd.prog GlS 3 [Enc.pv a0, Enc.pv a1, Enc.pv a2] (Enc.pv r) := by
  unfold d_law14_FlankSearches at h
  refine pcall_of_pwp Go.Proofs.Tryd.func3 (by rfl) rfl Go.Proofs.Tryd.ntmps3 (by rfl) rfl ?_
  refine pwp_seq ?_
  refine r_reg ?_
  refine e_end (by kernel_rfl) ?_
  refine q_next ?_
  refine pwp_seq ?_
  refine pwp_seq ?_
  refine r_reg ?_
  refine p_run 2 (by kernel_rfl) ?_
  obtain ⟨r1, h1, h⟩ := o_bind h
  refine p_call (d_law14_few_ok _ _ r1 h1) (by kernel_rfl) (by kernel_rfl) ?_
  refine e_end (by kernel_rfl) ?_
  refine q_next ?_
  rcases o_cond h with ⟨hb, h⟩ | ⟨hb, h⟩
  · refine r_cond_t hb (by kernel_rfl) ?_
    refine pwp_seq ?_
    refine r_reg ?_
    obtain ⟨r2, h2, h⟩ := o_bind h
    refine p_call (d_law14_alive_ok  r2 h2) (by kernel_rfl) (by kernel_rfl) ?_
    refine e_end (by kernel_rfl) ?_
    refine q_next ?_
    refine pwp_ret ?_
    refine q_seq_ret ?_
    cases h
    exact q_ret (by kernel_rfl) (by kernel_rfl) (by kernel_rfl)
  · refine r_cond_f hb (by kernel_rfl) ?_
    refine pwp_skip ?_
    refine q_next ?_
    refine pwp_seq ?_
    refine r_reg ?_
    refine p_run 3 (by kernel_rfl) ?_
    obtain ⟨r3, h3, h⟩ := o_bind h
    refine p_call (d_flank_Search_ok _ _ _ r3 h3) (by kernel_rfl) (by kernel_rfl) ?_
    refine e_end (by kernel_rfl) ?_
    refine q_next ?_
    refine pwp_seq ?_
    refine r_reg ?_
    refine p_run 3 (by kernel_rfl) ?_
    obtain ⟨r4, h4, h⟩ := o_bind h
    refine p_call (d_ref14_Search_ok _ _ _ r4 h4) (by kernel_rfl) (by kernel_rfl) ?_
    refine e_end (by kernel_rfl) ?_
    refine q_next ?_
    refine pwp_seq ?_
    refine r_reg ?_
    refine p_run 4 (by kernel_rfl) ?_
    refine e_segb 4 41 ((eq_T_api_Setting r3.1 r4.1) && (decide (r3.2.1 = r4.2.1))) (fun x hx => ?_) ?_
    · rcases b_and hx with ⟨hb, hx⟩ | ⟨hb, hx⟩
      · refine p_settle 37 hb (by kernel_rfl) (by kernel_rfl) ?_
        subst hx
        exact f_end (by kernel_rfl) (by kernel_rfl)
      · refine p_settle 37 hb (by kernel_rfl) (by kernel_rfl) ?_
        subst hx
        exact f_end (by kernel_rfl) (by kernel_rfl)
    · refine p_run 1 (by kernel_rfl) ?_
      refine e_segb 4 46 (((eq_T_api_Setting r3.1 r4.1) && (decide (r3.2.1 = r4.2.1))) && (r3.2.2 == r4.2.2)) (fun x hx => ?_) ?_
      · rcases b_and hx with ⟨hb, hx⟩ | ⟨hb, hx⟩
        · refine p_settle 42 hb (by kernel_rfl) (by kernel_rfl) ?_
          subst hx
          exact f_end (by kernel_rfl) (by kernel_rfl)
        · refine p_settle 42 hb (by kernel_rfl) (by kernel_rfl) ?_
          subst hx
          exact f_end (by kernel_rfl) (by kernel_rfl)
      · obtain ⟨b5, h5, h⟩ := o_bind h
        refine p_run 1 (by kernel_rfl) ?_
        refine e_seg 2 49 (.bool b5) ?_ ?_
        · rcases o_cond h5 with ⟨hb, h5⟩ | ⟨hb, h5⟩
          · refine p_settle 47 hb (by kernel_rfl) (by kernel_rfl) ?_
            obtain ⟨r6, h6, h5⟩ := o_bind h5
            refine p_call (d_law14_alive_ok  r6 h6) (by kernel_rfl) (by kernel_rfl) ?_
            cases h5
            exact f_end (by kernel_rfl) (by kernel_rfl)
          · refine p_settle 47 hb (by kernel_rfl) (by kernel_rfl) ?_
            cases h5
            exact f_end (by kernel_rfl) (by kernel_rfl)
        · refine e_end (by kernel_rfl) ?_
          refine q_next ?_
          refine pwp_ret ?_
          cases h
          exact q_ret (by kernel_rfl) (by kernel_rfl) (by kernel_rfl)

/-! signallingref09.exists -/
noncomputable def d_ref09_exists (a0 : T_api_Layout) (a1 : Int) : Option Bool :=
  ((bif decide (0 ≤ a1) then (
    some (decide (a1 < ((a0.Elements.length : Nat) : Int)))
  ) else some false) : Option Bool).bind fun b1 =>
  some b1
theorem d_ref09_exists_ok (a0 : T_api_Layout) (a1 : Int) (r : Bool) (h : d_ref09_exists a0 a1 = some r) : PCall Go.Proofs.Tryd.prog GlS 61 [Enc.pv a0, Enc.pv a1] (Enc.pv r) := by
  unfold d_ref09_exists at h
  refine pcall_of_pwp Go.Proofs.Tryd.func61 (by rfl) rfl Go.Proofs.Tryd.ntmps61 (by rfl) rfl ?_
  refine pwp_seq ?_
  refine r_reg ?_
  refine e_end (by kernel_rfl) ?_
  refine q_next ?_
  refine pwp_seq ?_
  refine r_reg ?_
  obtain ⟨b1, h1, h⟩ := o_bind h
  refine p_run 3 (by kernel_rfl) ?_
  refine e_seg 6 13 (.bool b1) ?_ ?_
  · rcases o_cond h1 with ⟨hb, h1⟩ | ⟨hb, h1⟩
    · refine p_settle 7 hb (by kernel_rfl) (by kernel_rfl) ?_
      refine p_run 3 (by kernel_rfl) ?_
      refine p_len (L := (a0.Elements : (List T_api_Element))) (by kernel_rfl) ?_
      cases h1
      exact f_end (by kernel_rfl) (by kernel_rfl)
    · refine p_settle 7 hb (by kernel_rfl) (by kernel_rfl) ?_
      cases h1
      exact f_end (by kernel_rfl) (by kernel_rfl)
  · refine e_end (by kernel_rfl) ?_
    refine q_next ?_
    refine pwp_ret ?_
    cases h
    exact q_ret (by kernel_rfl) (by kernel_rfl) (by kernel_rfl)

/-! signallingref09.need -/
noncomputable def d_ref09_need (a0 : T_api_Layout) (a1 : T_api_Step) : Option (Int × Bool) :=
  (d_ref09_exists a0 a1.El).bind fun r1 =>
  bif (!r1) then (
    some (0, false)
  ) else (
    (ixO a0.Elements a1.El).bind fun x2 =>
    (d_ref06_Need x2.Kind a1.In a1.Out).bind fun r3 =>
    some (r3.1, r3.2)
  )
theorem d_ref09_need_ok (a0 : T_api_Layout) (a1 : T_api_Step) (r : (Int × Bool)) (h : d_ref09_need a0 a1 = some r) : PCall Go.Proofs.Tryd.prog GlS 31 [Enc.pv a0, Enc.pv a1] (.tup [Enc.pv r.1, Enc.pv r.2]) := by
  unfold d_ref09_need at h
  refine pcall_of_pwp Go.Proofs.Tryd.func31 (by rfl) rfl Go.Proofs.Tryd.ntmps31 (by rfl) rfl ?_
  refine pwp_seq ?_
  refine r_reg ?_
  refine e_end (by kernel_rfl) ?_
  refine q_next ?_
  refine pwp_seq ?_
  refine pwp_seq ?_
  refine r_reg ?_
  refine p_run 3 (by kernel_rfl) ?_
  obtain ⟨r1, h1, h⟩ := o_bind h
  refine p_call (d_ref09_exists_ok _ _ r1 h1) (by kernel_rfl) (by kernel_rfl) ?_
  refine e_end (by kernel_rfl) ?_
  refine q_next ?_
  rcases o_cond h with ⟨hb, h⟩ | ⟨hb, h⟩
  · refine r_cond_t hb (by kernel_rfl) ?_
    refine pwp_seq ?_
    refine r_reg ?_
    refine e_end (by kernel_rfl) ?_
    refine q_next ?_
    refine pwp_ret ?_
    refine q_seq_ret ?_
    cases h
    exact q_ret (by kernel_rfl) (by kernel_rfl) (by kernel_rfl)
  · refine r_cond_f hb (by kernel_rfl) ?_
    refine pwp_skip ?_
    refine q_next ?_
    refine pwp_seq ?_
    refine r_regd (by kernel_rfl) (by kernel_rfl) ?_
    refine p_run 4 (by kernel_rfl) ?_
    obtain ⟨x2, h2, h⟩ := o_bind h
    refine p_ix h2 (by kernel_rfl) ?_
    refine p_run 6 (by kernel_rfl) ?_
    obtain ⟨r3, h3, h⟩ := o_bind h
    refine p_call (d_ref06_Need_ok _ _ _ r3 h3) (by kernel_rfl) (by kernel_rfl) ?_
    refine e_end (by kernel_rfl) ?_
    refine q_next ?_
    refine pwp_ret ?_
    cases h
    exact q_ret (by kernel_rfl) (by kernel_rfl) (by kernel_rfl)

/-! signallingref09.Next -/
noncomputable def d_ref09_Next (a0 : T_api_Layout) (a1 : T_api_Step) : Option (T_api_End × Bool) :=
  (d_ref07_Joined a0 (T_api_End.mk a1.El a1.Out)).bind fun r1 =>
  some (r1.1, r1.2)
theorem d_ref09_Next_ok (a0 : T_api_Layout) (a1 : T_api_Step) (r : (T_api_End × Bool)) (h : d_ref09_Next a0 a1 = some r) : PCall Go.Proofs.Tryd.prog GlS 13 [Enc.pv a0, Enc.pv a1] (.tup [Enc.pv r.1, Enc.pv r.2]) := by
  unfold d_ref09_Next at h
  refine pcall_of_pwp Go.Proofs.Tryd.func13 (by rfl) rfl Go.Proofs.Tryd.ntmps13 (by rfl) rfl ?_
  refine pwp_seq ?_
  refine r_reg ?_
  refine e_end (by kernel_rfl) ?_
  refine q_next ?_
  refine pwp_seq ?_
  refine r_reg ?_
  refine p_run 6 (by kernel_rfl) ?_
  obtain ⟨r1, h1, h⟩ := o_bind h
  refine p_call (d_ref07_Joined_ok _ _ r1 h1) (by kernel_rfl) (by kernel_rfl) ?_
  refine e_end (by kernel_rfl) ?_
  refine q_next ?_
  refine pwp_ret ?_
  cases h
  exact q_ret (by kernel_rfl) (by kernel_rfl) (by kernel_rfl)

/-! signallingref09.Valid -/
noncomputable def d_ref09_Valid_1 (a1 : (List T_api_Step)) (x23 : Int) : Int → Option (Int ⊕ (Unit ⊕ (Int ⊕ (Unit ⊕ Bool)))) := fun x61 =>
  bif decide (x61 < x23) then (
    (ixO a1 x61).bind fun x64 =>
    (ixO a1 x23).bind fun x65 =>
    bif decide (x64.El = x65.El) then (
      some (.inr (.inr (.inr (.inr false))))
    ) else (
      some (.inl (w64 (x61 + 1)))
    )
  ) else (
    some (.inr (.inl ()))
  )

noncomputable def d_ref09_Valid_0 (a0 : T_api_Layout) (a1 : (List T_api_Step)) : Int → Option (Int ⊕ (Unit ⊕ Bool)) := fun x23 =>
  bif decide (x23 < ((a1.length : Nat) : Int)) then (
    (ixO a1 x23).bind fun x45 =>
    (d_ref09_need a0 x45).bind fun r46 =>
    bif (!r46.2) then (
      some (.inr (.inr false))
    ) else (
      onInl (α := Unit) (β := (Int ⊕ (Unit ⊕ Bool))) (
        bif decide (0 < x23) then (
          (ixO a1 (w64 (x23 - 1))).bind fun x53 =>
          (d_ref09_Next a0 x53).bind fun r54 =>
          ((bif (!r54.2) then some true else (
            (ixO a1 x23).bind fun x56 =>
            some (!(decide (r54.1.El = x56.El)))
          )) : Option Bool).bind fun b55 =>
          ((bif b55 then some true else (
            (ixO a1 x23).bind fun x58 =>
            some (!(decide (r54.1.Side = x58.In)))
          )) : Option Bool).bind fun b57 =>
          bif b57 then (
            some (.inr (.inr (.inr false)))
          ) else (
            some (.inl ())
          )
        ) else (
          some (.inl ())
        )
      ) fun _ =>
      onInl (α := Unit) (β := (Int ⊕ (Unit ⊕ Bool))) (loopO (d_ref09_Valid_1 a1 x23) 0) fun _ =>
      some (.inl (w64 (x23 + 1)))
    )
  ) else (
    some (.inr (.inl ()))
  )

noncomputable def d_ref09_Valid (a0 : T_api_Layout) (a1 : (List T_api_Step)) : Option Bool :=
  ((bif decide (((a1.length : Nat) : Int) = 0) then some true else (
    some (decide (64 < ((a1.length : Nat) : Int)))
  )) : Option Bool).bind fun b1 =>
  bif b1 then (
    some false
  ) else (
    onInl (α := Unit) (β := Bool) (loopO (d_ref09_Valid_0 a0 a1) 0) fun _ =>
    some true
  )
theorem d_ref09_Valid_ok (a0 : T_api_Layout) (a1 : (List T_api_Step)) (r : Bool) (h : d_ref09_Valid a0 a1 = some r) : PCall Go.Proofs.Tryd.prog GlS 11 [Enc.pv a0, Enc.pv a1] (Enc.pv r) := by
  unfold d_ref09_Valid at h
  refine pcall_of_pwp Go.Proofs.Tryd.func11 (by rfl) rfl Go.Proofs.Tryd.ntmps11 (by rfl) rfl ?_
  refine pwp_seq ?_
  refine r_reg ?_
  refine e_end (by kernel_rfl) ?_
  refine q_next ?_
  refine pwp_seq ?_
  refine pwp_seq ?_
  refine r_reg ?_
  refine p_run 1 (by kernel_rfl) ?_
  refine p_len (L := (a1 : (List T_api_Step))) (by kernel_rfl) ?_
  obtain ⟨b1, h1, h⟩ := o_bind h
  refine p_run 2 (by kernel_rfl) ?_
  refine e_seg 4 18 (.bool b1) ?_ ?_
  · rcases o_cond h1 with ⟨hb, h1⟩ | ⟨hb, h1⟩
    · refine p_settle 14 hb (by kernel_rfl) (by kernel_rfl) ?_
      cases h1
      exact f_end (by kernel_rfl) (by kernel_rfl)
    · refine p_settle 14 hb (by kernel_rfl) (by kernel_rfl) ?_
      refine p_run 1 (by kernel_rfl) ?_
      refine p_len (L := (a1 : (List T_api_Step))) (by kernel_rfl) ?_
      cases h1
      exact f_end (by kernel_rfl) (by kernel_rfl)
  · refine e_nil (by kernel_rfl) ?_
    refine q_next ?_
    rcases o_cond h with ⟨hb, h⟩ | ⟨hb, h⟩
    · refine r_cond_t hb (by kernel_rfl) ?_
      refine pwp_seq ?_
      refine r_reg ?_
      refine e_end (by kernel_rfl) ?_
      refine q_next ?_
      refine pwp_ret ?_
      refine q_seq_ret ?_
      cases h
      exact q_ret (by kernel_rfl) (by kernel_rfl) (by kernel_rfl)
    · refine r_cond_f hb (by kernel_rfl) ?_
      refine pwp_skip ?_
      refine q_next ?_
      refine pwp_seq ?_
      refine pwp_seq ?_
      refine r_reg ?_
      refine e_end (by kernel_rfl) ?_
      refine q_next ?_
      refine pwp_block ?_
      obtain ⟨o71, h71, h⟩ := o_inl h
      refine r_loop2 86 0 (fun x23 => ⟨[(1, lstOf .frozen (a1 : (List T_api_Step))), (2, .ref 2 0), (5, .int .i64 x23)], [(2, .cells (cellsOf a0))], [], []⟩) (fun (_ : Unit) => ⟨[], [], [], []⟩) h71 (by kernel_rfl) (fun _ => by kernel_rfl) ?_ ?_
      · rintro x23 oh70 h70
        unfold d_ref09_Valid_0 at h70
        refine pwp_seq ?_
        refine pwp_seq ?_
        refine r_reg ?_
        refine p_run 2 (by kernel_rfl) ?_
        refine p_len (L := (a1 : (List T_api_Step))) (by kernel_rfl) ?_
        refine e_end (by kernel_rfl) ?_
        refine q_next ?_
        rcases o_cond h70 with ⟨hb, h70⟩ | ⟨hb, h70⟩
        · refine r_cond_t hb (by kernel_rfl) ?_
          refine pwp_skip ?_
          refine q_next ?_
          refine pwp_seq ?_
          refine pwp_block ?_
          refine pwp_seq ?_
          refine r_regd (by kernel_rfl) (by kernel_rfl) ?_
          refine p_run 3 (by kernel_rfl) ?_
          obtain ⟨x45, h72, h70⟩ := o_bind h70
          refine p_ix h72 (by kernel_rfl) ?_
          refine p_run 1 (by kernel_rfl) ?_
          obtain ⟨r46, h73, h70⟩ := o_bind h70
          refine p_call (d_ref09_need_ok _ _ r46 h73) (by kernel_rfl) (by kernel_rfl) ?_
          refine e_end (by kernel_rfl) ?_
          refine q_next ?_
          refine pwp_seq ?_
          refine pwp_seq ?_
          refine r_reg ?_
          refine e_end (by kernel_rfl) ?_
          refine q_next ?_
          rcases o_cond h70 with ⟨hb, h70⟩ | ⟨hb, h70⟩
          · refine r_cond_t hb (by kernel_rfl) ?_
            refine pwp_seq ?_
            refine r_reg ?_
            refine e_end (by kernel_rfl) ?_
            refine q_next ?_
            refine pwp_ret ?_
            refine q_seq_ret ?_
            refine q_block_ret ?_
            refine q_seq_ret ?_
            cases h70
            refine q_lout_ret fun he => ?_
            subst he
            have h74 := o_outr h
            refine q_block_ret ?_
            refine q_seq_ret ?_
            cases h74
            exact q_ret (by kernel_rfl) (by kernel_rfl) (by kernel_rfl)
          · refine r_cond_f hb (by kernel_rfl) ?_
            refine pwp_skip ?_
            refine q_next ?_
            obtain ⟨o83, h83, h70⟩ := o_inl h70
            refine r_join (o := o83) 86 (fun (_ : Unit) => ⟨[(1, lstOf .frozen (a1 : (List T_api_Step))), (2, .ref 2 0), (5, .int .i64 x23)], [(2, .cells (cellsOf a0))], [], []⟩) ?_ ?_
            · refine pwp_seq ?_
              refine r_reg ?_
              refine e_end (by kernel_rfl) ?_
              refine q_next ?_
              rcases o_cond h83 with ⟨hb, h83⟩ | ⟨hb, h83⟩
              · refine r_cond_t hb (by kernel_rfl) ?_
                refine pwp_seq ?_
                refine r_regd (by kernel_rfl) (by kernel_rfl) ?_
                refine p_run 4 (by kernel_rfl) ?_
                obtain ⟨x53, h84, h83⟩ := o_bind h83
                refine p_ix h84 (by kernel_rfl) ?_
                refine p_run 1 (by kernel_rfl) ?_
                obtain ⟨r54, h85, h83⟩ := o_bind h83
                refine p_call (d_ref09_Next_ok _ _ r54 h85) (by kernel_rfl) (by kernel_rfl) ?_
                refine e_end (by kernel_rfl) ?_
                refine q_next ?_
                refine pwp_seq ?_
                refine r_regd (by kernel_rfl) (by kernel_rfl) ?_
                obtain ⟨b55, h86, h83⟩ := o_bind h83
                refine p_run 3 (by kernel_rfl) ?_
                refine e_seg 9 59 (.bool b55) ?_ ?_
                · rcases o_cond h86 with ⟨hb, h86⟩ | ⟨hb, h86⟩
                  · refine p_settle 50 hb (by kernel_rfl) (by kernel_rfl) ?_
                    cases h86
                    exact f_end (by kernel_rfl) (by kernel_rfl)
                  · refine p_settle 50 hb (by kernel_rfl) (by kernel_rfl) ?_
                    refine p_run 4 (by kernel_rfl) ?_
                    obtain ⟨x56, h87, h86⟩ := o_bind h86
                    refine p_ix h87 (by kernel_rfl) ?_
                    cases h86
                    exact f_end (by kernel_rfl) (by kernel_rfl)
                · obtain ⟨b57, h88, h83⟩ := o_bind h83
                  refine p_run 1 (by kernel_rfl) ?_
                  refine e_seg 9 69 (.bool b57) ?_ ?_
                  · rcases o_cond h88 with ⟨hb, h88⟩ | ⟨hb, h88⟩
                    · refine p_settle 60 hb (by kernel_rfl) (by kernel_rfl) ?_
                      cases h88
                      exact f_end (by kernel_rfl) (by kernel_rfl)
                    · refine p_settle 60 hb (by kernel_rfl) (by kernel_rfl) ?_
                      refine p_run 4 (by kernel_rfl) ?_
                      obtain ⟨x58, h89, h88⟩ := o_bind h88
                      refine p_ix h89 (by kernel_rfl) ?_
                      cases h88
                      exact f_end (by kernel_rfl) (by kernel_rfl)
                  · refine e_nil (by kernel_rfl) ?_
                    refine q_next ?_
                    rcases o_cond h83 with ⟨hb, h83⟩ | ⟨hb, h83⟩
                    · refine r_cond_t hb (by kernel_rfl) ?_
                      refine pwp_seq ?_
                      refine r_reg ?_
                      refine e_end (by kernel_rfl) ?_
                      refine q_next ?_
                      refine pwp_ret ?_
                      cases h83
                      refine q_jout_ret ?_
                      have h90 := o_outr h70
                      refine q_block_ret ?_
                      refine q_seq_ret ?_
                      cases h90
                      refine q_lout_ret fun he => ?_
                      subst he
                      have h91 := o_outr h
                      refine q_block_ret ?_
                      refine q_seq_ret ?_
                      cases h91
                      exact q_ret (by kernel_rfl) (by kernel_rfl) (by kernel_rfl)
                    · refine r_cond_f hb (by kernel_rfl) ?_
                      refine pwp_skip ?_
                      cases h83
                      exact q_join (by kernel_rfl) (by kernel_rfl)
              · refine r_cond_f hb (by kernel_rfl) ?_
                refine pwp_skip ?_
                cases h83
                exact q_join (by kernel_rfl) (by kernel_rfl)
            · rintro _ rfl
              have h70 := o_outl h70
              refine pwp_seq ?_
              refine r_reg ?_
              refine e_end (by kernel_rfl) ?_
              refine q_next ?_
              refine pwp_block ?_
              obtain ⟨o101, h101, h70⟩ := o_inl h70
              refine r_loop2 86 2 (fun x61 => ⟨[(1, lstOf .frozen (a1 : (List T_api_Step))), (2, .ref 2 0), (5, .int .i64 x23), (10, .int .i64 x61)], [(2, .cells (cellsOf a0))], [], []⟩) (fun (_ : Unit) => ⟨[(1, lstOf .frozen (a1 : (List T_api_Step))), (2, .ref 2 0), (5, .int .i64 x23)], [(2, .cells (cellsOf a0))], [], []⟩) h101 (by kernel_rfl) (fun _ => by kernel_rfl) ?_ ?_
              · rintro x61 oh100 h100
                unfold d_ref09_Valid_1 at h100
                refine pwp_seq ?_
                refine pwp_seq ?_
                refine r_reg ?_
                refine e_end (by kernel_rfl) ?_
                refine q_next ?_
                rcases o_cond h100 with ⟨hb, h100⟩ | ⟨hb, h100⟩
                · refine r_cond_t hb (by kernel_rfl) ?_
                  refine pwp_skip ?_
                  refine q_next ?_
                  refine pwp_seq ?_
                  refine pwp_block ?_
                  refine pwp_seq ?_
                  refine r_regd (by kernel_rfl) (by kernel_rfl) ?_
                  refine p_run 2 (by kernel_rfl) ?_
                  obtain ⟨x64, h102, h100⟩ := o_bind h100
                  refine p_ix h102 (by kernel_rfl) ?_
                  refine p_run 4 (by kernel_rfl) ?_
                  obtain ⟨x65, h103, h100⟩ := o_bind h100
                  refine p_ix h103 (by kernel_rfl) ?_
                  refine e_end (by kernel_rfl) ?_
                  refine q_next ?_
                  rcases o_cond h100 with ⟨hb, h100⟩ | ⟨hb, h100⟩
                  · refine r_cond_t hb (by kernel_rfl) ?_
                    refine pwp_seq ?_
                    refine r_reg ?_
                    refine e_end (by kernel_rfl) ?_
                    refine q_next ?_
                    refine pwp_ret ?_
                    refine q_block_ret ?_
                    refine q_seq_ret ?_
                    cases h100
                    refine q_lout_ret fun he => ?_
                    subst he
                    have h104 := o_outr h70
                    refine q_block_ret ?_
                    refine q_block_ret ?_
                    refine q_seq_ret ?_
                    cases h104
                    refine q_lout_ret fun he => ?_
                    subst he
                    have h105 := o_outr h
                    refine q_block_ret ?_
                    refine q_seq_ret ?_
                    cases h105
                    exact q_ret (by kernel_rfl) (by kernel_rfl) (by kernel_rfl)
                  · refine r_cond_f hb (by kernel_rfl) ?_
                    refine pwp_skip ?_
                    refine q_block ?_
                    refine q_next ?_
                    refine r_reg ?_
                    refine e_end (by kernel_rfl) ?_
                    cases h100
                    exact q_lback (by kernel_rfl)
                · refine r_cond_f hb (by kernel_rfl) ?_
                  refine pwp_exit ?_
                  refine q_seq_exit ?_
                  cases h100
                  exact q_lexit (by kernel_rfl) (by kernel_rfl)
              · rintro _ s' rfl hs
                have h70 := o_outl h70
                refine q_block_hit ?_
                refine q_block ?_
                refine q_next (pwp_wkr hs ?_)
                refine r_reg ?_
                refine e_end (by kernel_rfl) ?_
                cases h70
                exact q_lback (by kernel_rfl)
        · refine r_cond_f hb (by kernel_rfl) ?_
          refine pwp_exit ?_
          refine q_seq_exit ?_
          cases h70
          exact q_lexit (by kernel_rfl) (by kernel_rfl)
      · rintro _ s' rfl hs
        have h := o_outl h
        refine q_block_hit ?_
        refine q_next (pwp_wkr hs ?_)
        refine pwp_seq ?_
        refine r_reg ?_
        refine e_end (by kernel_rfl) ?_
        refine q_next ?_
        refine pwp_ret ?_
        cases h
        exact q_ret (by kernel_rfl) (by kernel_rfl) (by kernel_rfl)

/-! signallingref14.Beside -/
noncomputable def d_ref14_Beside_0 (a1 : T_api_Step) (x2 : T_api_Element) (r3 : (Int × Bool)) : (Int × (List T_api_End)) → Option ((Int × (List T_api_End)) ⊕ ((List T_api_End) ⊕ (List T_api_End))) := fun (x13, x14) =>
  (d_ref06_Sides x2.Kind).bind fun r20 =>
  bif decide (x13 < r20) then (
    onInl (α := (List T_api_End)) (β := ((Int × (List T_api_End)) ⊕ ((List T_api_End) ⊕ (List T_api_End)))) (
      bif ((r3.2 && (!(decide (x13 = a1.In)))) && (!(decide (x13 = a1.Out)))) then (
        (appO x14 [(T_api_End.mk a1.El x13)]).bind fun x23 =>
        some (.inl x23)
      ) else (
        some (.inl x14)
      )
    ) fun x22 =>
    some (.inl (w64 (x13 + 1), x22))
  ) else (
    some (.inr (.inl x14))
  )

noncomputable def d_ref14_Beside (a0 : T_api_Layout) (a1 : T_api_Step) : Option (List T_api_End) :=
  ((bif decide (a1.El < 0) then some true else (
    some (decide (((a0.Elements.length : Nat) : Int) ≤ a1.El))
  )) : Option Bool).bind fun b1 =>
  bif b1 then (
    some ([] : (List T_api_End))
  ) else (
    (ixO a0.Elements a1.El).bind fun x2 =>
    (d_ref06_Need x2.Kind a1.In a1.Out).bind fun r3 =>
    onInl (α := (List T_api_End)) (β := (List T_api_End)) (loopO (d_ref14_Beside_0 a1 x2 r3) (0, ([] : (List T_api_End)))) fun x19 =>
    some x19
  )
theorem d_ref14_Beside_ok (a0 : T_api_Layout) (a1 : T_api_Step) (r : (List T_api_End)) (h : d_ref14_Beside a0 a1 = some r) : PCall Go.Proofs.Tryd.prog GlS 44 [Enc.pv a0, Enc.pv a1] (lstOf (.own 100008) r) := by
  unfold d_ref14_Beside at h
  refine pcall_of_pwp Go.Proofs.Tryd.func44 (by rfl) rfl Go.Proofs.Tryd.ntmps44 (by rfl) rfl ?_
  refine pwp_seq ?_
  refine r_reg ?_
  refine e_end (by kernel_rfl) ?_
  refine q_next ?_
  refine pwp_seq ?_
  refine pwp_seq ?_
  refine r_reg ?_
  obtain ⟨b1, h1, h⟩ := o_bind h
  refine p_run 4 (by kernel_rfl) ?_
  refine e_seg 7 20 (.bool b1) ?_ ?_
  · rcases o_cond h1 with ⟨hb, h1⟩ | ⟨hb, h1⟩
    · refine p_settle 13 hb (by kernel_rfl) (by kernel_rfl) ?_
      cases h1
      exact f_end (by kernel_rfl) (by kernel_rfl)
    · refine p_settle 13 hb (by kernel_rfl) (by kernel_rfl) ?_
      refine p_run 4 (by kernel_rfl) ?_
      refine p_len (L := (a0.Elements : (List T_api_Element))) (by kernel_rfl) ?_
      cases h1
      exact f_end (by kernel_rfl) (by kernel_rfl)
  · refine e_nil (by kernel_rfl) ?_
    refine q_next ?_
    rcases o_cond h with ⟨hb, h⟩ | ⟨hb, h⟩
    · refine r_cond_t hb (by kernel_rfl) ?_
      refine pwp_seq ?_
      refine r_reg ?_
      refine e_end (by kernel_rfl) ?_
      refine q_next ?_
      refine g_nil 4 100008 2 16 (by kernel_rfl) (by kernel_rfl) ?_
      refine pwp_ret ?_
      refine q_seq_ret ?_
      cases h
      exact q_ret (by kernel_rfl) (by kernel_rfl) (by kernel_rfl)
    · refine r_cond_f hb (by kernel_rfl) ?_
      refine pwp_skip ?_
      refine q_next ?_
      refine pwp_seq ?_
      refine r_reg ?_
      refine p_run 4 (by kernel_rfl) ?_
      obtain ⟨x2, h2, h⟩ := o_bind h
      refine p_ix h2 (by kernel_rfl) ?_
      refine e_end (by kernel_rfl) ?_
      refine q_next ?_
      refine pwp_seq ?_
      refine r_reg ?_
      refine p_run 5 (by kernel_rfl) ?_
      obtain ⟨r3, h3, h⟩ := o_bind h
      refine p_call (d_ref06_Need_ok _ _ _ r3 h3) (by kernel_rfl) (by kernel_rfl) ?_
      refine e_end (by kernel_rfl) ?_
      refine q_next ?_
      refine pwp_seq ?_
      refine r_reg ?_
      refine e_end (by kernel_rfl) ?_
      refine q_next ?_
      refine pwp_seq ?_
      refine pwp_seq ?_
      refine r_reg ?_
      refine e_end (by kernel_rfl) ?_
      refine q_next ?_
      refine pwp_block ?_
      refine g_nil 8 100008 2 16 (by kernel_rfl) (by kernel_rfl) ?_
      obtain ⟨o17, h17, h⟩ := o_inl h
      refine r_loop2 64 0 (fun (x13, x14) => ⟨[(3, .ref 3 0), (5, .int .i64 x2.Kind), (7, .bool r3.2), (8, lstOf (.own 100008) (x14 : (List T_api_End))), (9, .int .i64 x13)], [(3, .cells (cellsOf a1))], [(100008, (((x14).map cellsOf).length, 2))], []⟩) (fun x19 => ⟨[(8, lstOf (.own 100008) (x19 : (List T_api_End)))], [], [(100008, (((x19).map cellsOf).length, 2))], []⟩) h17 (by kernel_rfl) (fun _ => by kernel_rfl) ?_ ?_
      · rintro ⟨x13, x14⟩ oh16 h16
        unfold d_ref14_Beside_0 at h16
        refine pwp_seq ?_
        refine pwp_seq ?_
        refine r_reg ?_
        refine p_run 2 (by kernel_rfl) ?_
        obtain ⟨r20, h18, h16⟩ := o_bind h16
        refine p_call (d_ref06_Sides_ok _ r20 h18) (by kernel_rfl) (by kernel_rfl) ?_
        refine e_end (by kernel_rfl) ?_
        refine q_next ?_
        rcases o_cond h16 with ⟨hb, h16⟩ | ⟨hb, h16⟩
        · refine r_cond_t hb (by kernel_rfl) ?_
          refine pwp_skip ?_
          refine q_next ?_
          obtain ⟨o20, h20, h16⟩ := o_inl h16
          refine r_join (o := o20) 64 (fun x22 => ⟨[(3, .ref 3 0), (5, .int .i64 x2.Kind), (7, .bool r3.2), (8, lstOf (.own 100008) (x22 : (List T_api_End))), (9, .int .i64 x13)], [(3, .cells (cellsOf a1))], [(100008, (((x22).map cellsOf).length, 2))], []⟩) ?_ ?_
          · refine pwp_block ?_
            refine pwp_seq ?_
            refine r_reg ?_
            refine p_run 2 (by kernel_rfl) ?_
            refine e_segb 5 49 (r3.2 && (!(decide (x13 = a1.In)))) (fun x hx => ?_) ?_
            · rcases b_and hx with ⟨hb, hx⟩ | ⟨hb, hx⟩
              · refine p_settle 44 hb (by kernel_rfl) (by kernel_rfl) ?_
                subst hx
                exact f_end (by kernel_rfl) (by kernel_rfl)
              · refine p_settle 44 hb (by kernel_rfl) (by kernel_rfl) ?_
                subst hx
                exact f_end (by kernel_rfl) (by kernel_rfl)
            · refine p_run 1 (by kernel_rfl) ?_
              refine e_segb 5 55 ((r3.2 && (!(decide (x13 = a1.In)))) && (!(decide (x13 = a1.Out)))) (fun x hx => ?_) ?_
              · rcases b_and hx with ⟨hb, hx⟩ | ⟨hb, hx⟩
                · refine p_settle 50 hb (by kernel_rfl) (by kernel_rfl) ?_
                  subst hx
                  exact f_end (by kernel_rfl) (by kernel_rfl)
                · refine p_settle 50 hb (by kernel_rfl) (by kernel_rfl) ?_
                  subst hx
                  exact f_end (by kernel_rfl) (by kernel_rfl)
              · refine e_nil (by kernel_rfl) ?_
                refine q_next ?_
                rcases o_cond h20 with ⟨hb, h20⟩ | ⟨hb, h20⟩
                · refine r_cond_t hb (by kernel_rfl) ?_
                  refine r_reg ?_
                  refine p_run 6 (by kernel_rfl) ?_
                  obtain ⟨x23, h21, h20⟩ := o_bind h20
                  refine p_app (tk := 100008) h21 (by kernel_rfl) (by kernel_rfl) ?_
                  refine e_end (by kernel_rfl) ?_
                  refine q_block ?_
                  cases h20
                  exact q_join (by kernel_rfl) (by kernel_rfl)
                · refine r_cond_f hb (by kernel_rfl) ?_
                  refine pwp_skip ?_
                  refine q_block ?_
                  cases h20
                  exact q_join (by kernel_rfl) (by kernel_rfl)
          · rintro x22 rfl
            have h16 := o_outl h16
            refine r_reg ?_
            refine e_end (by kernel_rfl) ?_
            cases h16
            exact q_lback (by kernel_rfl)
        · refine r_cond_f hb (by kernel_rfl) ?_
          refine pwp_exit ?_
          refine q_seq_exit ?_
          cases h16
          exact q_lexit (by kernel_rfl) (by kernel_rfl)
      · rintro x19 s' rfl hs
        have h := o_outl h
        refine q_block_hit ?_
        refine q_next (pwp_wkr hs ?_)
        refine pwp_seq ?_
        refine r_reg ?_
        refine e_end (by kernel_rfl) ?_
        refine q_next ?_
        refine pwp_ret ?_
        cases h
        exact q_ret (by kernel_rfl) (by kernel_rfl) (by kernel_rfl)
theorem d_ref14_Beside_fz (a0 : T_api_Layout) (a1 : T_api_Step) (r : (List T_api_End)) (h : d_ref14_Beside a0 a1 = some r) : PCall Go.Proofs.Tryd.prog GlS 44 [Enc.pv a0, Enc.pv a1] (Enc.pv r) :=
  (d_ref14_Beside_ok a0 a1 r h).freeze (by kernel_rfl) (by kernel_rfl) (by kernel_rfl)

/-! signallingref14.Sides -/
noncomputable def d_ref14_Sides_0 (a0 : T_api_Layout) (a1 : T_api_Route) : (Int × (List T_api_End)) → Option ((Int × (List T_api_End)) ⊕ ((List T_api_End) ⊕ (List T_api_End))) := fun (x8, x9) =>
  bif decide (x8 < ((a1.Path.length : Nat) : Int)) then (
    (ixO a1.Path x8).bind fun x14 =>
    (d_ref14_Beside a0 x14).bind fun r15 =>
    (appO x9 r15).bind fun x16 =>
    some (.inl (w64 (x8 + 1), x16))
  ) else (
    some (.inr (.inl x9))
  )

noncomputable def d_ref14_Sides_1 (a0 : T_api_Layout) (a1 : T_api_Route) : ((List T_api_End) × Int) → Option (((List T_api_End) × Int) ⊕ ((List T_api_End) ⊕ (List T_api_End))) := fun (x20, x21) =>
  bif decide (x21 < ((a1.Over.length : Nat) : Int)) then (
    (ixO a1.Over x21).bind fun x26 =>
    (d_ref14_Beside a0 x26).bind fun r27 =>
    (appO x20 r27).bind fun x28 =>
    some (.inl (x28, w64 (x21 + 1)))
  ) else (
    some (.inr (.inl x20))
  )

noncomputable def d_ref14_Sides (a0 : T_api_Layout) (a1 : T_api_Route) : Option (List T_api_End) :=
  onInl (α := (List T_api_End)) (β := (List T_api_End)) (loopO (d_ref14_Sides_0 a0 a1) (0, ([] : (List T_api_End)))) fun x13 =>
  onInl (α := (List T_api_End)) (β := (List T_api_End)) (loopO (d_ref14_Sides_1 a0 a1) (x13, 0)) fun x25 =>
  some x25
theorem d_ref14_Sides_ok (a0 : T_api_Layout) (a1 : T_api_Route) (r : (List T_api_End)) (h : d_ref14_Sides a0 a1 = some r) : PCall Go.Proofs.Tryd.prog GlS 15 [Enc.pv a0, Enc.pv a1] (lstOf (.own 100005) r) := by
  unfold d_ref14_Sides at h
  refine pcall_of_pwp Go.Proofs.Tryd.func15 (by rfl) rfl Go.Proofs.Tryd.ntmps15 (by rfl) rfl ?_
  refine pwp_seq ?_
  refine r_reg ?_
  refine e_end (by kernel_rfl) ?_
  refine q_next ?_
  refine pwp_seq ?_
  refine r_reg ?_
  refine e_end (by kernel_rfl) ?_
  refine q_next ?_
  refine pwp_seq ?_
  refine pwp_seq ?_
  refine r_reg ?_
  refine e_end (by kernel_rfl) ?_
  refine q_next ?_
  refine pwp_block ?_
  refine g_nil 5 100005 2 16 (by kernel_rfl) (by kernel_rfl) ?_
  obtain ⟨o11, h11, h⟩ := o_inl h
  refine r_loop2 41 0 (fun (x8, x9) => ⟨[(2, .ref 2 0), (3, .ref 3 0), (5, lstOf (.own 100005) (x9 : (List T_api_End))), (6, .int .i64 x8)], [(2, .cells (cellsOf a0)), (3, .cells (cellsOf a1))], [(100005, (((x9).map cellsOf).length, 2))], []⟩) (fun x13 => ⟨[(2, .ref 2 0), (3, .ref 3 0), (5, lstOf (.own 100005) (x13 : (List T_api_End)))], [(2, .cells (cellsOf a0)), (3, .cells (cellsOf a1))], [(100005, (((x13).map cellsOf).length, 2))], []⟩) h11 (by kernel_rfl) (fun _ => by kernel_rfl) ?_ ?_
  · rintro ⟨x8, x9⟩ oh10 h10
    unfold d_ref14_Sides_0 at h10
    refine pwp_seq ?_
    refine pwp_seq ?_
    refine r_reg ?_
    refine p_run 3 (by kernel_rfl) ?_
    refine p_len (L := (a1.Path : (List T_api_Step))) (by kernel_rfl) ?_
    refine e_end (by kernel_rfl) ?_
    refine q_next ?_
    rcases o_cond h10 with ⟨hb, h10⟩ | ⟨hb, h10⟩
    · refine r_cond_t hb (by kernel_rfl) ?_
      refine pwp_skip ?_
      refine q_next ?_
      refine pwp_seq ?_
      refine pwp_block ?_
      refine r_regd (by kernel_rfl) (by kernel_rfl) ?_
      refine p_run 5 (by kernel_rfl) ?_
      obtain ⟨x14, h12, h10⟩ := o_bind h10
      refine p_ix h12 (by kernel_rfl) ?_
      refine p_run 1 (by kernel_rfl) ?_
      obtain ⟨r15, h13, h10⟩ := o_bind h10
      refine p_call (d_ref14_Beside_fz _ _ r15 h13) (by kernel_rfl) (by kernel_rfl) ?_
      obtain ⟨x16, h14, h10⟩ := o_bind h10
      refine p_app (tk := 100005) h14 (by kernel_rfl) (by kernel_rfl) ?_
      refine e_end (by kernel_rfl) ?_
      refine q_block ?_
      refine q_next ?_
      refine r_reg ?_
      refine e_end (by kernel_rfl) ?_
      cases h10
      exact q_lback (by kernel_rfl)
    · refine r_cond_f hb (by kernel_rfl) ?_
      refine pwp_exit ?_
      refine q_seq_exit ?_
      cases h10
      exact q_lexit (by kernel_rfl) (by kernel_rfl)
  · rintro x13 s' rfl hs
    have h := o_outl h
    refine q_block_hit ?_
    refine q_next (pwp_wkr hs ?_)
    refine pwp_seq ?_
    refine pwp_seq ?_
    refine r_reg ?_
    refine e_end (by kernel_rfl) ?_
    refine q_next ?_
    refine pwp_block ?_
    obtain ⟨o22, h22, h⟩ := o_inl h
    refine r_loop2 41 2 (fun (x20, x21) => ⟨[(2, .ref 2 0), (3, .ref 3 0), (5, lstOf (.own 100005) (x20 : (List T_api_End))), (7, .int .i64 x21)], [(2, .cells (cellsOf a0)), (3, .cells (cellsOf a1))], [(100005, (((x20).map cellsOf).length, 2))], []⟩) (fun x25 => ⟨[(5, lstOf (.own 100005) (x25 : (List T_api_End)))], [], [(100005, (((x25).map cellsOf).length, 2))], []⟩) h22 (by kernel_rfl) (fun _ => by kernel_rfl) ?_ ?_
    · rintro ⟨x20, x21⟩ oh21 h21
      unfold d_ref14_Sides_1 at h21
      refine pwp_seq ?_
      refine pwp_seq ?_
      refine r_reg ?_
      refine p_run 3 (by kernel_rfl) ?_
      refine p_len (L := (a1.Over : (List T_api_Step))) (by kernel_rfl) ?_
      refine e_end (by kernel_rfl) ?_
      refine q_next ?_
      rcases o_cond h21 with ⟨hb, h21⟩ | ⟨hb, h21⟩
      · refine r_cond_t hb (by kernel_rfl) ?_
        refine pwp_skip ?_
        refine q_next ?_
        refine pwp_seq ?_
        refine pwp_block ?_
        refine r_regd (by kernel_rfl) (by kernel_rfl) ?_
        refine p_run 5 (by kernel_rfl) ?_
        obtain ⟨x26, h23, h21⟩ := o_bind h21
        refine p_ix h23 (by kernel_rfl) ?_
        refine p_run 1 (by kernel_rfl) ?_
        obtain ⟨r27, h24, h21⟩ := o_bind h21
        refine p_call (d_ref14_Beside_fz _ _ r27 h24) (by kernel_rfl) (by kernel_rfl) ?_
        obtain ⟨x28, h25, h21⟩ := o_bind h21
        refine p_app (tk := 100005) h25 (by kernel_rfl) (by kernel_rfl) ?_
        refine e_end (by kernel_rfl) ?_
        refine q_block ?_
        refine q_next ?_
        refine r_reg ?_
        refine e_end (by kernel_rfl) ?_
        cases h21
        exact q_lback (by kernel_rfl)
      · refine r_cond_f hb (by kernel_rfl) ?_
        refine pwp_exit ?_
        refine q_seq_exit ?_
        cases h21
        exact q_lexit (by kernel_rfl) (by kernel_rfl)
    · rintro x25 s' rfl hs
      have h := o_outl h
      refine q_block_hit ?_
      refine q_next (pwp_wkr hs ?_)
      refine pwp_seq ?_
      refine r_reg ?_
      refine e_end (by kernel_rfl) ?_
      refine q_next ?_
      refine pwp_ret ?_
      cases h
      exact q_ret (by kernel_rfl) (by kernel_rfl) (by kernel_rfl)
theorem d_ref14_Sides_fz (a0 : T_api_Layout) (a1 : T_api_Route) (r : (List T_api_End)) (h : d_ref14_Sides a0 a1 = some r) : PCall Go.Proofs.Tryd.prog GlS 15 [Enc.pv a0, Enc.pv a1] (Enc.pv r) :=
  (d_ref14_Sides_ok a0 a1 r h).freeze (by kernel_rfl) (by kernel_rfl) (by kernel_rfl)

/-! signallingref14.HasEnd -/
noncomputable def d_ref14_HasEnd_0 (a0 : (List T_api_End)) (a1 : T_api_End) : Int → Option (Int ⊕ (Unit ⊕ Bool)) := fun x2 =>
  bif decide (x2 < ((a0.length : Nat) : Int)) then (
    (ixO a0 x2).bind fun x4 =>
    bif eq_T_api_End x4 a1 then (
      some (.inr (.inr true))
    ) else (
      some (.inl (w64 (x2 + 1)))
    )
  ) else (
    some (.inr (.inl ()))
  )

noncomputable def d_ref14_HasEnd (a0 : (List T_api_End)) (a1 : T_api_End) : Option Bool :=
  onInl (α := Unit) (β := Bool) (loopO (d_ref14_HasEnd_0 a0 a1) 0) fun _ =>
  some false
theorem d_ref14_HasEnd_ok (a0 : (List T_api_End)) (a1 : T_api_End) (r : Bool) (h : d_ref14_HasEnd a0 a1 = some r) : PCall Go.Proofs.Tryd.prog GlS 14 [Enc.pv a0, Enc.pv a1] (Enc.pv r) := by
  unfold d_ref14_HasEnd at h
  refine pcall_of_pwp Go.Proofs.Tryd.func14 (by rfl) rfl Go.Proofs.Tryd.ntmps14 (by rfl) rfl ?_
  refine pwp_seq ?_
  refine r_reg ?_
  refine e_end (by kernel_rfl) ?_
  refine q_next ?_
  refine pwp_seq ?_
  refine pwp_seq ?_
  refine r_reg ?_
  refine e_end (by kernel_rfl) ?_
  refine q_next ?_
  refine pwp_block ?_
  obtain ⟨o6, h6, h⟩ := o_inl h
  refine r_loop2 18 0 (fun x2 => ⟨[(0, lstOf .frozen (a0 : (List T_api_End))), (3, .ref 3 0), (5, .int .i64 x2)], [(3, .cells (cellsOf a1))], [], []⟩) (fun (_ : Unit) => ⟨[], [], [], []⟩) h6 (by kernel_rfl) (fun _ => by kernel_rfl) ?_ ?_
  · rintro x2 oh5 h5
    unfold d_ref14_HasEnd_0 at h5
    refine pwp_seq ?_
    refine pwp_seq ?_
    refine r_reg ?_
    refine p_run 2 (by kernel_rfl) ?_
    refine p_len (L := (a0 : (List T_api_End))) (by kernel_rfl) ?_
    refine e_end (by kernel_rfl) ?_
    refine q_next ?_
    rcases o_cond h5 with ⟨hb, h5⟩ | ⟨hb, h5⟩
    · refine r_cond_t hb (by kernel_rfl) ?_
      refine pwp_skip ?_
      refine q_next ?_
      refine pwp_seq ?_
      refine pwp_block ?_
      refine pwp_seq ?_
      refine r_regd (by kernel_rfl) (by kernel_rfl) ?_
      refine p_run 2 (by kernel_rfl) ?_
      obtain ⟨x4, h7, h5⟩ := o_bind h5
      refine p_ix h7 (by kernel_rfl) ?_
      refine e_end (by kernel_rfl) ?_
      refine q_next ?_
      rcases o_cond h5 with ⟨hb, h5⟩ | ⟨hb, h5⟩
      · refine r_cond_t hb (by kernel_rfl) ?_
        refine pwp_seq ?_
        refine r_reg ?_
        refine e_end (by kernel_rfl) ?_
        refine q_next ?_
        refine pwp_ret ?_
        refine q_block_ret ?_
        refine q_seq_ret ?_
        cases h5
        refine q_lout_ret fun he => ?_
        subst he
        have h8 := o_outr h
        refine q_block_ret ?_
        refine q_seq_ret ?_
        cases h8
        exact q_ret (by kernel_rfl) (by kernel_rfl) (by kernel_rfl)
      · refine r_cond_f hb (by kernel_rfl) ?_
        refine pwp_skip ?_
        refine q_block ?_
        refine q_next ?_
        refine r_reg ?_
        refine e_end (by kernel_rfl) ?_
        cases h5
        exact q_lback (by kernel_rfl)
    · refine r_cond_f hb (by kernel_rfl) ?_
      refine pwp_exit ?_
      refine q_seq_exit ?_
      cases h5
      exact q_lexit (by kernel_rfl) (by kernel_rfl)
  · rintro _ s' rfl hs
    have h := o_outl h
    refine q_block_hit ?_
    refine q_next (pwp_wkr hs ?_)
    refine pwp_seq ?_
    refine r_reg ?_
    refine e_end (by kernel_rfl) ?_
    refine q_next ?_
    refine pwp_ret ?_
    cases h
    exact q_ret (by kernel_rfl) (by kernel_rfl) (by kernel_rfl)

end PM
