/-
  Plain functions for the program's functions, and the proofs that the program does them. Printed by den.py.
-/
import Derived.Test.YtombbpdpmagngaaDoorDen0
namespace PM
open Go Go.RowKit
attribute [local irreducible] pops pwp

/-! route.From -/
noncomputable def d_route_From_0 (a0 : T_api_Layout) (a1 : Int) (r4 : T_route_finder) : (Int × (List (ByteArray × Int)) × (List T_api_Route)) → Option ((Int × (List (ByteArray × Int)) × (List T_api_Route)) ⊕ ((List T_api_Route) ⊕ (List T_api_Route))) := fun (x29, x30, x31) =>
  bif decide (x29 < ((((r4.paths_ : (List (List T_api_Step))).map cellsOf).length : Nat) : Int)) then (
    (xixO 0 (((r4.paths_ : (List (List T_api_Step))).map cellsOf).length) x29).bind fun j44 =>
    (xldO r4.paths_ (((r4.paths_ : (List (List T_api_Step))).map cellsOf).length) j44).bind fun x45 =>
    (d_route_build a0 a1 x45).bind fun r46 =>
    onInl (α := ByteArray) (β := ((Int × (List (ByteArray × Int)) × (List T_api_Route)) ⊕ ((List T_api_Route) ⊕ (List T_api_Route)))) (
      bif decide (1 < ((mget ((mset r46.Name (w64 (((mget (x30 : (List (ByteArray × Int))) r46.Name).getD 0) + 1)) x30) : (List (ByteArray × Int))) r46.Name).getD 0)) then (
        (d_strconv_Itoa ((mget ((mset r46.Name (w64 (((mget (x30 : (List (ByteArray × Int))) r46.Name).getD 0) + 1)) x30) : (List (ByteArray × Int))) r46.Name).getD 0)).bind fun r51 =>
        (saddO (ByteArray.mk #[46]) r51).bind fun x52 =>
        (saddO r46.Name x52).bind fun x53 =>
        some (.inl x53)
      ) else (
        some (.inl r46.Name)
      )
    ) fun x50 =>
    (appO x31 [(T_api_Route.mk x50 r46.Entry r46.Exit r46.Path r46.Points r46.Sections r46.Approach r46.Length r46.Over r46.OverPoints r46.OverSections r46.Flank r46.Guards r46.Gaps)]).bind fun x54 =>
    some (.inl (w64 (x29 + 1), (mset r46.Name (w64 (((mget (x30 : (List (ByteArray × Int))) r46.Name).getD 0) + 1)) x30), x54))
  ) else (
    some (.inr (.inl x31))
  )

noncomputable def d_route_From (a0 : T_api_Layout) (a1 : Int) : Option (List T_api_Route) :=
  ((bif decide (a1 < 0) then some true else (
    some (decide (((a0.Signals.length : Nat) : Int) ≤ a1))
  )) : Option Bool).bind fun b1 =>
  bif b1 then (
    some ([] : (List T_api_Route))
  ) else (
    (ixO a0.Signals a1).bind fun x2 =>
    (d_layout_Joined a0 x2.At).bind fun r3 =>
    bif (!r3.2) then (
      some ([] : (List T_api_Route))
    ) else (
      (d_route_finder_follow (T_route_finder.mk a0 []) ([] : (List T_api_Step)) r3.1).bind fun r4 =>
      onInl (α := (List T_api_Route)) (β := (List T_api_Route)) (loopO (d_route_From_0 a0 a1 r4) (0, ([] : (List (ByteArray × Int))), ([] : (List T_api_Route)))) fun x43 =>
      some x43
    )
  )
theorem d_route_From_ok (a0 : T_api_Layout) (a1 : Int) (r : (List T_api_Route)) (h : d_route_From a0 a1 = some r) : PCall Go.Proofs.Tryd.prog GlS 9 [Enc.pv a0, Enc.pv a1] (lstOf (.own 100008) r) := by
  unfold d_route_From at h
  refine pcall_of_pwp Go.Proofs.Tryd.func9 (by rfl) rfl Go.Proofs.Tryd.ntmps9 (by rfl) rfl ?_
  refine pwp_seq (r_reg ?_)
  refine e_end (by kernel_rfl) ?_
  refine q_next (pwp_seq (pwp_seq (r_reg ?_)))
  obtain ⟨b1, h1, h⟩ := o_bind h
  refine p_run 3 (by kernel_rfl) ?_
  refine e_seg 6 22 (.bool b1) ?_ ?_
  · rcases o_cond h1 with ⟨hb, h1⟩ | ⟨hb, h1⟩
    · refine p_settle 16 hb (by kernel_rfl) (by kernel_rfl) ?_
      cases h1
      exact f_end (by kernel_rfl) (by kernel_rfl)
    refine p_settle 16 hb (by kernel_rfl) (by kernel_rfl) ?_
    refine p_run 3 (by kernel_rfl) ?_
    refine p_len (L := (a0.Signals : (List T_api_Signal))) (by kernel_rfl) ?_
    cases h1
    exact f_end (by kernel_rfl) (by kernel_rfl)
  refine e_nil (by kernel_rfl) ?_
  refine q_next ?_
  rcases o_cond h with ⟨hb, h⟩ | ⟨hb, h⟩
  · refine r_cond_t hb (by kernel_rfl) ?_
    refine pwp_seq (r_reg ?_)
    refine e_end (by kernel_rfl) ?_
    refine q_next ?_
    refine g_nil 4 100008 14 264 (by kernel_rfl) (by kernel_rfl) ?_
    refine pwp_ret (q_seq_ret ?_)
    cases h
    exact q_ret (by kernel_rfl) (by kernel_rfl) (by kernel_rfl)
  refine r_cond_f hb (by kernel_rfl) ?_
  refine pwp_skip (q_next (pwp_seq ?_))
  refine r_regd (by kernel_rfl) (by kernel_rfl) ?_
  refine p_run 4 (by kernel_rfl) ?_
  obtain ⟨x2, h2, h⟩ := o_bind h
  refine p_ix h2 (by kernel_rfl) ?_
  refine p_run 2 (by kernel_rfl) ?_
  obtain ⟨r3, h3, h⟩ := o_bind h
  refine p_call (d_layout_Joined_ok _ _ r3 h3) (by kernel_rfl) (by kernel_rfl) ?_
  refine e_end (by kernel_rfl) ?_
  refine q_next (pwp_seq (pwp_seq (r_reg ?_)))
  refine e_end (by kernel_rfl) ?_
  refine q_next ?_
  rcases o_cond h with ⟨hb, h⟩ | ⟨hb, h⟩
  · refine r_cond_t hb (by kernel_rfl) ?_
    refine pwp_seq (r_reg ?_)
    refine e_end (by kernel_rfl) ?_
    refine q_next ?_
    refine g_nil 4 100008 14 264 (by kernel_rfl) (by kernel_rfl) ?_
    refine pwp_ret (q_seq_ret ?_)
    cases h
    exact q_ret (by kernel_rfl) (by kernel_rfl) (by kernel_rfl)
  refine r_cond_f hb (by kernel_rfl) ?_
  refine pwp_skip (q_next (pwp_seq (r_reg ?_)))
  refine e_end (by kernel_rfl) ?_
  refine q_next (pwp_seq (r_reg ?_))
  refine p_run 1 (by kernel_rfl) ?_
  obtain ⟨r4, h4, h⟩ := o_bind h
  refine p_ocall (some 7) [303900, 400039] [(7, 6, 303900, 1, 24)] (some (400039, 3, 24)) (d_route_finder_follow_oc _ _ _ r4 h4) (by kernel_rfl) (by kernel_rfl) (by kernel_rfl) (by kernel_rfl) (by kernel_rfl) ?_
  refine e_nil (by kernel_rfl) ?_
  refine q_next (pwp_seq (r_reg ?_))
  refine e_end (by kernel_rfl) ?_
  refine q_next (pwp_seq (r_reg ?_))
  refine e_end (by kernel_rfl) ?_
  refine q_next (pwp_seq (pwp_seq (r_reg ?_)))
  refine e_end (by kernel_rfl) ?_
  refine q_next (pwp_block ?_)
  refine g_nil 8 100008 14 264 (by kernel_rfl) (by kernel_rfl) ?_
  obtain ⟨o39, h39, h⟩ := o_inl h
  refine r_loop2 76 0 (fun (x29, x30, x31) => ⟨[(1, .int .i64 a1), (2, .ref 2 0), (8, lstOf (.own 100008) (x31 : (List T_api_Route))), (9, .mp 40), (42, .ex 303900 1 24 (((r4.paths_ : (List (List T_api_Step))).map cellsOf).length) 0 (((r4.paths_ : (List (List T_api_Step))).map cellsOf).length)), (43, .int .i64 ((((r4.paths_ : (List (List T_api_Step))).map cellsOf).length : Nat) : Int)), (44, .int .i64 x29)], [(2, .cells (cellsOf a0)), (40, .map (mpOf (x30 : (List (ByteArray × Int)))))], [(100008, (((x31).map cellsOf).length, 14)), (303900, (((r4.paths_ : (List (List T_api_Step))).map cellsOf).length, 0))], [(303900, (1, (24, (r4.paths_ : (List (List T_api_Step))).map cellsOf)))]⟩) (fun x43 => ⟨[(8, lstOf (.own 100008) (x43 : (List T_api_Route)))], [], [(100008, (((x43).map cellsOf).length, 14))], []⟩) h39 (by kernel_rfl) (fun _ => by kernel_rfl) ?_ ?_
  · rintro ⟨x29, x30, x31⟩ oh38 h38
    unfold d_route_From_0 at h38
    refine pwp_seq (r_reg ?_)
    refine e_end (by kernel_rfl) ?_
    refine q_next (pwp_seq ?_)
    rcases o_cond h38 with ⟨hb, h38⟩ | ⟨hb, h38⟩
    · refine r_cond_t hb (by kernel_rfl) ?_
      refine pwp_skip (q_next (pwp_seq (pwp_block (pwp_seq (r_reg ?_)))))
      obtain ⟨j44, h40, h38⟩ := o_bind h38
      refine p_xix (tk := 303900) (k := 1) (N := ((r4.paths_ : (List (List T_api_Step))).map cellsOf).length) h40 (by kernel_rfl) ?_
      obtain ⟨x45, h41, h38⟩ := o_bind h38
      refine p_xld (L := (r4.paths_ : (List (List T_api_Step)))) (N := ((r4.paths_ : (List (List T_api_Step))).map cellsOf).length) (j := j44) (y := x45) (v := lstOf .frozen (x45 : (List T_api_Step))) h41 false 1 0 (by kernel_rfl) (by kernel_rfl) ?_
      refine e_end (by kernel_rfl) ?_
      refine q_next (pwp_seq (r_reg ?_))
      refine p_run 3 (by kernel_rfl) ?_
      obtain ⟨r46, h42, h38⟩ := o_bind h38
      refine p_call (d_route_build_ok _ _ _ r46 h42) (by kernel_rfl) (by kernel_rfl) ?_
      refine e_end (by kernel_rfl) ?_
      refine q_next (pwp_seq (r_reg ?_))
      refine p_run 3 (by kernel_rfl) ?_
      refine p_lookup (m := (x30 : (List (ByteArray × Int)))) (k := r46.Name) 0 40 (by kernel_rfl) (by kernel_rfl) ?_
      refine p_run 1 (by kernel_rfl) ?_
      refine p_mset (m := (x30 : (List (ByteArray × Int)))) (k := r46.Name) (v := (w64 (((mget (x30 : (List (ByteArray × Int))) r46.Name).getD 0) + 1))) 40 (by kernel_rfl) (by kernel_rfl) (by kernel_rfl) ?_
      refine e_nil (by kernel_rfl) ?_
      refine q_next ?_
      obtain ⟨o46, h46, h38⟩ := o_inl h38
      refine r_join (o := o46) 76 (fun x50 => ⟨[(1, .int .i64 a1), (2, .ref 2 0), (8, lstOf (.own 100008) (x31 : (List T_api_Route))), (9, .mp 40), (12, .ref 12 0), (42, .ex 303900 1 24 (((r4.paths_ : (List (List T_api_Step))).map cellsOf).length) 0 (((r4.paths_ : (List (List T_api_Step))).map cellsOf).length)), (43, .int .i64 ((((r4.paths_ : (List (List T_api_Step))).map cellsOf).length : Nat) : Int)), (44, .int .i64 x29)], [(2, .cells (cellsOf a0)), (12, .cells ([.str x50, .int .i64 r46.Entry, .int .i64 r46.Exit, lstOf .frozen (r46.Path : (List T_api_Step)), lstOf .frozen (r46.Points : (List T_api_Setting)), lstOf .frozen (r46.Sections : (List Int)), .int .i64 r46.Approach, .int .i64 r46.Length, lstOf .frozen (r46.Over : (List T_api_Step)), lstOf .frozen (r46.OverPoints : (List T_api_Setting)), lstOf .frozen (r46.OverSections : (List Int)), lstOf .frozen (r46.Flank : (List T_api_Setting)), lstOf .frozen (r46.Guards : (List Int)), lstOf .frozen (r46.Gaps : (List T_api_End))])), (40, .map (mpOf ((mset r46.Name (w64 (((mget (x30 : (List (ByteArray × Int))) r46.Name).getD 0) + 1)) x30) : (List (ByteArray × Int)))))], [(100008, (((x31).map cellsOf).length, 14)), (303900, (((r4.paths_ : (List (List T_api_Step))).map cellsOf).length, 0))], [(303900, (1, (24, (r4.paths_ : (List (List T_api_Step))).map cellsOf)))]⟩) ?_ ?_
      · refine pwp_seq (r_reg ?_)
        refine p_run 3 (by kernel_rfl) ?_
        refine p_lookup (m := ((mset r46.Name (w64 (((mget (x30 : (List (ByteArray × Int))) r46.Name).getD 0) + 1)) x30) : (List (ByteArray × Int)))) (k := r46.Name) 0 40 (by kernel_rfl) (by kernel_rfl) ?_
        refine e_end (by kernel_rfl) ?_
        refine q_next (pwp_seq (r_reg ?_))
        refine e_end (by kernel_rfl) ?_
        refine q_next ?_
        rcases o_cond h46 with ⟨hb, h46⟩ | ⟨hb, h46⟩
        · refine r_cond_t hb (by kernel_rfl) ?_
          refine r_regd (by kernel_rfl) (by kernel_rfl) ?_
          refine p_run 3 (by kernel_rfl) ?_
          obtain ⟨r51, h47, h46⟩ := o_bind h46
          refine p_call (d_strconv_Itoa_ok _ r51 h47) (by kernel_rfl) (by kernel_rfl) ?_
          obtain ⟨x52, h48, h46⟩ := o_bind h46
          refine p_sadd h48 (by kernel_rfl) ?_
          obtain ⟨x53, h49, h46⟩ := o_bind h46
          refine p_sadd h49 (by kernel_rfl) ?_
          refine e_end (by kernel_rfl) ?_
          cases h46
          exact q_join (by kernel_rfl) (by kernel_rfl)
        refine r_cond_f hb (by kernel_rfl) ?_
        refine pwp_skip ?_
        cases h46
        exact q_join (by kernel_rfl) (by kernel_rfl)
      rintro x50 rfl
      have h38 := o_outl h38
      refine r_reg ?_
      refine p_run 3 (by kernel_rfl) ?_
      obtain ⟨x54, h50, h38⟩ := o_bind h38
      refine p_app (tk := 100008) h50 (by kernel_rfl) (by kernel_rfl) ?_
      refine e_end (by kernel_rfl) ?_
      refine q_block (q_next (r_reg ?_))
      refine e_end (by kernel_rfl) ?_
      cases h38
      exact q_lback (by kernel_rfl)
    refine r_cond_f hb (by kernel_rfl) ?_
    refine pwp_exit (q_seq_exit ?_)
    cases h38
    exact q_lexit (by kernel_rfl) (by kernel_rfl)
  rintro x43 s' rfl hs
  have h := o_outl h
  refine q_block_hit ?_
  refine q_next (pwp_wkr hs ?_)
  refine pwp_seq (r_reg ?_)
  refine e_end (by kernel_rfl) ?_
  refine q_next (pwp_ret ?_)
  cases h
  exact q_ret (by kernel_rfl) (by kernel_rfl) (by kernel_rfl)
theorem d_route_From_fz (a0 : T_api_Layout) (a1 : Int) (r : (List T_api_Route)) (h : d_route_From a0 a1 = some r) : PCall Go.Proofs.Tryd.prog GlS 9 [Enc.pv a0, Enc.pv a1] (Enc.pv r) :=
  (d_route_From_ok a0 a1 r h).freeze (by kernel_rfl) (by kernel_rfl) (by kernel_rfl)

/-! layout.within -/
noncomputable def d_layout_within (a0 : Int) (a1 : Int) (a2 : Int) : Option Bool :=
  some ((decide (a1 ≤ a0)) && (decide (a0 ≤ a2)))
theorem d_layout_within_ok (a0 : Int) (a1 : Int) (a2 : Int) (r : Bool) (h : d_layout_within a0 a1 a2 = some r) : PCall Go.Proofs.Tryd.prog GlS 55 [Enc.pv a0, Enc.pv a1, Enc.pv a2] (Enc.pv r) := by
  unfold d_layout_within at h
  refine pcall_of_pwp Go.Proofs.Tryd.func55 (by rfl) rfl Go.Proofs.Tryd.ntmps55 (by rfl) rfl ?_
  refine pwp_seq (r_reg ?_)
  refine e_end (by kernel_rfl) ?_
  refine q_next (pwp_seq (r_reg ?_))
  refine p_run 4 (by kernel_rfl) ?_
  refine e_segb 4 14 ((decide (a1 ≤ a0)) && (decide (a0 ≤ a2))) (fun x hx => ?_) ?_
  · rcases b_and hx with ⟨hb, hx⟩ | ⟨hb, hx⟩
    · refine p_settle 10 hb (by kernel_rfl) (by kernel_rfl) ?_
      subst hx
      exact f_end (by kernel_rfl) (by kernel_rfl)
    refine p_settle 10 hb (by kernel_rfl) (by kernel_rfl) ?_
    subst hx
    exact f_end (by kernel_rfl) (by kernel_rfl)
  refine e_end (by kernel_rfl) ?_
  refine q_next (pwp_ret ?_)
  cases h
  exact q_ret (by kernel_rfl) (by kernel_rfl) (by kernel_rfl)

/-! layout.countsFit -/
noncomputable def d_layout_countsFit (a0 : T_api_Layout) : Option Bool :=
  (d_layout_within ((a0.Elements.length : Nat) : Int) 1 32).bind fun r1 =>
  ((bif r1 then (
    (d_layout_within ((a0.Sections.length : Nat) : Int) 1 24).bind fun r3 =>
    some r3
  ) else some false) : Option Bool).bind fun b2 =>
  ((bif b2 then (
    some (decide (((a0.Signals.length : Nat) : Int) ≤ 20))
  ) else some false) : Option Bool).bind fun b4 =>
  ((bif b4 then (
    some (decide (((a0.Balises.length : Nat) : Int) ≤ 24))
  ) else some false) : Option Bool).bind fun b5 =>
  some b5
theorem d_layout_countsFit_ok (a0 : T_api_Layout) (r : Bool) (h : d_layout_countsFit a0 = some r) : PCall Go.Proofs.Tryd.prog GlS 38 [Enc.pv a0] (Enc.pv r) := by
  unfold d_layout_countsFit at h
  refine pcall_of_pwp Go.Proofs.Tryd.func38 (by rfl) rfl Go.Proofs.Tryd.ntmps38 (by rfl) rfl ?_
  refine pwp_seq (r_reg ?_)
  refine e_end (by kernel_rfl) ?_
  refine q_next (pwp_seq (r_reg ?_))
  refine p_run 2 (by kernel_rfl) ?_
  refine p_len (L := (a0.Elements : (List T_api_Element))) (by kernel_rfl) ?_
  obtain ⟨r1, h1, h⟩ := o_bind h
  refine p_call (d_layout_within_ok _ _ _ r1 h1) (by kernel_rfl) (by kernel_rfl) ?_
  obtain ⟨b2, h2, h⟩ := o_bind h
  refine p_run 1 (by kernel_rfl) ?_
  refine e_seg 5 12 (.bool b2) ?_ ?_
  · rcases o_cond h2 with ⟨hb, h2⟩ | ⟨hb, h2⟩
    · refine p_settle 7 hb (by kernel_rfl) (by kernel_rfl) ?_
      refine p_run 2 (by kernel_rfl) ?_
      refine p_len (L := (a0.Sections : (List ByteArray))) (by kernel_rfl) ?_
      obtain ⟨r3, h3, h2⟩ := o_bind h2
      refine p_call (d_layout_within_ok _ _ _ r3 h3) (by kernel_rfl) (by kernel_rfl) ?_
      cases h2
      exact f_end (by kernel_rfl) (by kernel_rfl)
    refine p_settle 7 hb (by kernel_rfl) (by kernel_rfl) ?_
    cases h2
    exact f_end (by kernel_rfl) (by kernel_rfl)
  obtain ⟨b4, h4, h⟩ := o_bind h
  refine p_run 1 (by kernel_rfl) ?_
  refine e_seg 5 18 (.bool b4) ?_ ?_
  · rcases o_cond h4 with ⟨hb, h4⟩ | ⟨hb, h4⟩
    · refine p_settle 13 hb (by kernel_rfl) (by kernel_rfl) ?_
      refine p_run 2 (by kernel_rfl) ?_
      refine p_len (L := (a0.Signals : (List T_api_Signal))) (by kernel_rfl) ?_
      cases h4
      exact f_end (by kernel_rfl) (by kernel_rfl)
    refine p_settle 13 hb (by kernel_rfl) (by kernel_rfl) ?_
    cases h4
    exact f_end (by kernel_rfl) (by kernel_rfl)
  obtain ⟨b5, h5, h⟩ := o_bind h
  refine p_run 1 (by kernel_rfl) ?_
  refine e_seg 5 24 (.bool b5) ?_ ?_
  · rcases o_cond h5 with ⟨hb, h5⟩ | ⟨hb, h5⟩
    · refine p_settle 19 hb (by kernel_rfl) (by kernel_rfl) ?_
      refine p_run 2 (by kernel_rfl) ?_
      refine p_len (L := (a0.Balises : (List T_api_Balise))) (by kernel_rfl) ?_
      cases h5
      exact f_end (by kernel_rfl) (by kernel_rfl)
    refine p_settle 19 hb (by kernel_rfl) (by kernel_rfl) ?_
    cases h5
    exact f_end (by kernel_rfl) (by kernel_rfl)
  refine e_end (by kernel_rfl) ?_
  refine q_next (pwp_ret ?_)
  cases h
  exact q_ret (by kernel_rfl) (by kernel_rfl) (by kernel_rfl)

/-! words.Name -/
noncomputable def d_words_Name_0 (a0 : ByteArray) : Nat → Option (Nat ⊕ (Unit ⊕ Bool)) := fun x5 =>
  bif decide (x5 < a0.size) then (
    bif ((((decide ((((Go.Utf8.decode a0 x5).1 : Nat) : Int) < 97)) || (decide (122 < (((Go.Utf8.decode a0 x5).1 : Nat) : Int)))) && ((decide ((((Go.Utf8.decode a0 x5).1 : Nat) : Int) < 48)) || (decide (57 < (((Go.Utf8.decode a0 x5).1 : Nat) : Int))))) && (!(decide ((((Go.Utf8.decode a0 x5).1 : Nat) : Int) = 95)))) then (
      some (.inr (.inr false))
    ) else (
      some (.inl (x5 + (Go.Utf8.decode a0 x5).2))
    )
  ) else (
    some (.inr (.inl ()))
  )

noncomputable def d_words_Name (a0 : ByteArray) : Option Bool :=
  ((bif ((decide (a0 = ByteArray.empty)) || (decide (12 < ((a0.size : Nat) : Int)))) then some true else (
    (sixO a0 0).bind fun x2 =>
    some (decide (x2 < 97))
  )) : Option Bool).bind fun b1 =>
  ((bif b1 then some true else (
    (sixO a0 0).bind fun x4 =>
    some (decide (122 < x4))
  )) : Option Bool).bind fun b3 =>
  bif b3 then (
    some false
  ) else (
    onInl (α := Unit) (β := Bool) (loopO (d_words_Name_0 a0) 0) fun _ =>
    some true
  )
theorem d_words_Name_ok (a0 : ByteArray) (r : Bool) (h : d_words_Name a0 = some r) : PCall Go.Proofs.Tryd.prog GlS 56 [Enc.pv a0] (Enc.pv r) := by
  unfold d_words_Name at h
  refine pcall_of_pwp Go.Proofs.Tryd.func56 (by rfl) rfl Go.Proofs.Tryd.ntmps56 (by rfl) rfl ?_
  refine pwp_seq (r_reg ?_)
  refine e_end (by kernel_rfl) ?_
  refine q_next (pwp_seq (pwp_seq (r_reg ?_)))
  refine p_run 3 (by kernel_rfl) ?_
  refine e_segb 4 11 ((decide (a0 = ByteArray.empty)) || (decide (12 < ((a0.size : Nat) : Int)))) (fun x hx => ?_) ?_
  · rcases b_or hx with ⟨hb, hx⟩ | ⟨hb, hx⟩
    · refine p_settle 7 hb (by kernel_rfl) (by kernel_rfl) ?_
      subst hx
      exact f_end (by kernel_rfl) (by kernel_rfl)
    refine p_settle 7 hb (by kernel_rfl) (by kernel_rfl) ?_
    subst hx
    exact f_end (by kernel_rfl) (by kernel_rfl)
  obtain ⟨b1, h1, h⟩ := o_bind h
  refine p_run 1 (by kernel_rfl) ?_
  refine e_seg 4 16 (.bool b1) ?_ ?_
  · rcases o_cond h1 with ⟨hb, h1⟩ | ⟨hb, h1⟩
    · refine p_settle 12 hb (by kernel_rfl) (by kernel_rfl) ?_
      cases h1
      exact f_end (by kernel_rfl) (by kernel_rfl)
    refine p_settle 12 hb (by kernel_rfl) (by kernel_rfl) ?_
    refine p_run 1 (by kernel_rfl) ?_
    obtain ⟨x2, h2, h1⟩ := o_bind h1
    refine p_six h2 (by kernel_rfl) ?_
    cases h1
    exact f_end (by kernel_rfl) (by kernel_rfl)
  obtain ⟨b3, h3, h⟩ := o_bind h
  refine p_run 1 (by kernel_rfl) ?_
  refine e_seg 4 21 (.bool b3) ?_ ?_
  · rcases o_cond h3 with ⟨hb, h3⟩ | ⟨hb, h3⟩
    · refine p_settle 17 hb (by kernel_rfl) (by kernel_rfl) ?_
      cases h3
      exact f_end (by kernel_rfl) (by kernel_rfl)
    refine p_settle 17 hb (by kernel_rfl) (by kernel_rfl) ?_
    refine p_run 1 (by kernel_rfl) ?_
    obtain ⟨x4, h4, h3⟩ := o_bind h3
    refine p_six h4 (by kernel_rfl) ?_
    cases h3
    exact f_end (by kernel_rfl) (by kernel_rfl)
  refine e_nil (by kernel_rfl) ?_
  refine q_next ?_
  rcases o_cond h with ⟨hb, h⟩ | ⟨hb, h⟩
  · refine r_cond_t hb (by kernel_rfl) ?_
    refine pwp_seq (r_reg ?_)
    refine e_end (by kernel_rfl) ?_
    refine q_next (pwp_ret (q_seq_ret ?_))
    cases h
    exact q_ret (by kernel_rfl) (by kernel_rfl) (by kernel_rfl)
  refine r_cond_f hb (by kernel_rfl) ?_
  refine pwp_skip (q_next (pwp_seq (pwp_seq (r_reg ?_))))
  refine p_run 1 (by kernel_rfl) ?_
  refine p_range (b := a0) (l := 23) (by kernel_rfl) ?_
  refine e_nil (by kernel_rfl) ?_
  refine q_next (pwp_block ?_)
  obtain ⟨o8, h8, h⟩ := o_inl h
  refine r_loop2 45 0 (fun x5 => ⟨[(23, .ref 23 0)], [(23, .iter a0 x5)], [], []⟩) (fun (_ : Unit) => ⟨[], [], [], []⟩) h8 (by kernel_rfl) (fun _ => by kernel_rfl) ?_ ?_
  · rintro x5 oh7 h7
    unfold d_words_Name_0 at h7
    refine pwp_seq (r_reg ?_)
    rcases o_cond h7 with ⟨hb, h7⟩ | ⟨hb, h7⟩
    · refine p_next_t (b := a0) (pos := x5) 23 (by kernel_rfl) hb (by kernel_rfl) ?_
      refine e_end (by kernel_rfl) ?_
      refine q_next (pwp_seq ?_)
      refine r_cond_t (b := true) rfl (by kernel_rfl) ?_
      refine pwp_skip (q_next (pwp_block (pwp_seq (r_reg ?_))))
      refine e_end (by kernel_rfl) ?_
      refine q_next (pwp_seq (r_reg ?_))
      refine p_run 3 (by kernel_rfl) ?_
      refine e_segb 3 32 ((decide ((((Go.Utf8.decode a0 x5).1 : Nat) : Int) < 97)) || (decide (122 < (((Go.Utf8.decode a0 x5).1 : Nat) : Int)))) (fun x hx => ?_) ?_
      · rcases b_or hx with ⟨hb, hx⟩ | ⟨hb, hx⟩
        · refine p_settle 29 hb (by kernel_rfl) (by kernel_rfl) ?_
          subst hx
          exact f_end (by kernel_rfl) (by kernel_rfl)
        refine p_settle 29 hb (by kernel_rfl) (by kernel_rfl) ?_
        subst hx
        exact f_end (by kernel_rfl) (by kernel_rfl)
      refine p_run 1 (by kernel_rfl) ?_
      refine e_segb 7 40 (((decide ((((Go.Utf8.decode a0 x5).1 : Nat) : Int) < 97)) || (decide (122 < (((Go.Utf8.decode a0 x5).1 : Nat) : Int)))) && ((decide ((((Go.Utf8.decode a0 x5).1 : Nat) : Int) < 48)) || (decide (57 < (((Go.Utf8.decode a0 x5).1 : Nat) : Int))))) (fun x hx => ?_) ?_
      · rcases b_and hx with ⟨hb, hx⟩ | ⟨hb, hx⟩
        · refine p_settle 33 hb (by kernel_rfl) (by kernel_rfl) ?_
          refine p_run 3 (by kernel_rfl) ?_
          refine f_segb 3 39 ((decide ((((Go.Utf8.decode a0 x5).1 : Nat) : Int) < 48)) || (decide (57 < (((Go.Utf8.decode a0 x5).1 : Nat) : Int)))) (fun x hx => ?_) ?_
          · rcases b_or hx with ⟨hb, hx⟩ | ⟨hb, hx⟩
            · refine p_settle 36 hb (by kernel_rfl) (by kernel_rfl) ?_
              subst hx
              exact f_end (by kernel_rfl) (by kernel_rfl)
            refine p_settle 36 hb (by kernel_rfl) (by kernel_rfl) ?_
            subst hx
            exact f_end (by kernel_rfl) (by kernel_rfl)
          subst hx
          exact f_end (by kernel_rfl) (by kernel_rfl)
        refine p_settle 33 hb (by kernel_rfl) (by kernel_rfl) ?_
        subst hx
        exact f_end (by kernel_rfl) (by kernel_rfl)
      refine p_run 1 (by kernel_rfl) ?_
      refine e_segb 3 44 ((((decide ((((Go.Utf8.decode a0 x5).1 : Nat) : Int) < 97)) || (decide (122 < (((Go.Utf8.decode a0 x5).1 : Nat) : Int)))) && ((decide ((((Go.Utf8.decode a0 x5).1 : Nat) : Int) < 48)) || (decide (57 < (((Go.Utf8.decode a0 x5).1 : Nat) : Int))))) && (!(decide ((((Go.Utf8.decode a0 x5).1 : Nat) : Int) = 95)))) (fun x hx => ?_) ?_
      · rcases b_and hx with ⟨hb, hx⟩ | ⟨hb, hx⟩
        · refine p_settle 41 hb (by kernel_rfl) (by kernel_rfl) ?_
          subst hx
          exact f_end (by kernel_rfl) (by kernel_rfl)
        refine p_settle 41 hb (by kernel_rfl) (by kernel_rfl) ?_
        subst hx
        exact f_end (by kernel_rfl) (by kernel_rfl)
      refine e_nil (by kernel_rfl) ?_
      refine q_next ?_
      rcases o_cond h7 with ⟨hb, h7⟩ | ⟨hb, h7⟩
      · refine r_cond_t hb (by kernel_rfl) ?_
        refine pwp_seq (r_reg ?_)
        refine e_end (by kernel_rfl) ?_
        refine q_next (pwp_ret (q_block_ret ?_))
        cases h7
        refine q_lout_ret fun he => ?_
        subst he
        have h9 := o_outr h
        refine q_block_ret (q_seq_ret ?_)
        cases h9
        exact q_ret (by kernel_rfl) (by kernel_rfl) (by kernel_rfl)
      refine r_cond_f hb (by kernel_rfl) ?_
      refine pwp_skip (q_block ?_)
      cases h7
      exact q_lback (by kernel_rfl)
    refine p_next_f (b := a0) (pos := x5) 23 (by kernel_rfl) hb (by kernel_rfl) ?_
    refine e_end (by kernel_rfl) ?_
    refine q_next (pwp_seq ?_)
    refine r_cond_f (b := false) rfl (by kernel_rfl) ?_
    refine pwp_exit (q_seq_exit ?_)
    cases h7
    exact q_lexit (by kernel_rfl) (by kernel_rfl)
  rintro _ s' rfl hs
  have h := o_outl h
  refine q_block_hit ?_
  refine q_next (pwp_wkr hs ?_)
  refine pwp_seq (r_reg ?_)
  refine e_end (by kernel_rfl) ?_
  refine q_next (pwp_ret ?_)
  cases h
  exact q_ret (by kernel_rfl) (by kernel_rfl) (by kernel_rfl)

/-! layout.checkNames -/
noncomputable def d_layout_checkNames_0 (a0 : T_api_Layout) : ((List ByteArray) × Int) → Option (((List ByteArray) × Int) ⊕ ((List ByteArray) ⊕ Int)) := fun (x4, x5) =>
  bif decide (x5 < ((a0.Elements.length : Nat) : Int)) then (
    (ixO a0.Elements x5).bind fun x9 =>
    (appO x4 [x9.Name]).bind fun x10 =>
    some (.inl (x10, w64 (x5 + 1)))
  ) else (
    some (.inr (.inl x4))
  )

noncomputable def d_layout_checkNames_1 (a0 : T_api_Layout) : ((List ByteArray) × Int) → Option (((List ByteArray) × Int) ⊕ ((List ByteArray) ⊕ Int)) := fun (x14, x15) =>
  bif decide (x15 < ((a0.Signals.length : Nat) : Int)) then (
    (ixO a0.Signals x15).bind fun x19 =>
    (appO x14 [x19.Name]).bind fun x20 =>
    some (.inl (x20, w64 (x15 + 1)))
  ) else (
    some (.inr (.inl x14))
  )

noncomputable def d_layout_checkNames_3 (x38 : (List ByteArray)) : Int → Option (Int ⊕ (Unit ⊕ (Int ⊕ (Unit ⊕ Int)))) := fun x41 =>
  bif decide (x41 < ((x38.length : Nat) : Int)) then (
    (ixO x38 x41).bind fun x44 =>
    (d_words_Name x44).bind fun r45 =>
    bif (!r45) then (
      some (.inr (.inr (.inr (.inr 3))))
    ) else (
      some (.inl (w64 (x41 + 1)))
    )
  ) else (
    some (.inr (.inl ()))
  )

noncomputable def d_layout_checkNames_2 (a0 : T_api_Layout) (x8 : (List ByteArray)) (x18 : (List ByteArray)) : Int → Option (Int ⊕ (Unit ⊕ Int)) := fun x29 =>
  bif decide (x29 < (([[a0.Name], a0.Sections, x8, x18].length : Nat) : Int)) then (
    (ixO [[a0.Name], a0.Sections, x8, x18] x29).bind fun x38 =>
    onInl (α := Unit) (β := (Int ⊕ (Unit ⊕ Int))) (loopO (d_layout_checkNames_3 x38) 0) fun _ =>
    some (.inl (w64 (x29 + 1)))
  ) else (
    some (.inr (.inl ()))
  )

noncomputable def d_layout_checkNames_5 (x59 : (List ByteArray)) : (Int × (List (ByteArray × Bool))) → Option ((Int × (List (ByteArray × Bool))) ⊕ (Unit ⊕ (Int ⊕ (Unit ⊕ Int)))) := fun (x61, x62) =>
  bif decide (x61 < ((x59.length : Nat) : Int)) then (
    (ixO x59 x61).bind fun x64 =>
    bif ((mget (x62 : (List (ByteArray × Bool))) x64).getD false) then (
      some (.inr (.inr (.inr (.inr 8))))
    ) else (
      some (.inl (w64 (x61 + 1), (mset x64 true x62)))
    )
  ) else (
    some (.inr (.inl ()))
  )

noncomputable def d_layout_checkNames_4 (a0 : T_api_Layout) (x8 : (List ByteArray)) (x18 : (List ByteArray)) : Int → Option (Int ⊕ (Unit ⊕ Int)) := fun x52 =>
  bif decide (x52 < (([[a0.Name], a0.Sections, x8, x18].length : Nat) : Int)) then (
    (ixO [[a0.Name], a0.Sections, x8, x18] x52).bind fun x59 =>
    onInl (α := Unit) (β := (Int ⊕ (Unit ⊕ Int))) (loopO (d_layout_checkNames_5 x59) (0, ([] : (List (ByteArray × Bool))))) fun _ =>
    some (.inl (w64 (x52 + 1)))
  ) else (
    some (.inr (.inl ()))
  )

noncomputable def d_layout_checkNames (a0 : T_api_Layout) : Option Int :=
  (mkO ByteArray ((a0.Elements.length : Nat) : Int)).bind fun x1 =>
  onInl (α := (List ByteArray)) (β := Int) (loopO (d_layout_checkNames_0 a0) (x1, 0)) fun x8 =>
  (mkO ByteArray ((a0.Signals.length : Nat) : Int)).bind fun x11 =>
  onInl (α := (List ByteArray)) (β := Int) (loopO (d_layout_checkNames_1 a0) (x11, 0)) fun x18 =>
  onInl (α := Unit) (β := Int) (loopO (d_layout_checkNames_2 a0 x8 x18) 0) fun _ =>
  onInl (α := Unit) (β := Int) (loopO (d_layout_checkNames_4 a0 x8 x18) 0) fun _ =>
  some 0
theorem d_layout_checkNames_ok (a0 : T_api_Layout) (r : Int) (h : d_layout_checkNames a0 = some r) : PCall Go.Proofs.Tryd.prog GlS 39 [Enc.pv a0] (Enc.pv r) := by
  unfold d_layout_checkNames at h
  refine pcall_of_pwp Go.Proofs.Tryd.func39 (by rfl) rfl Go.Proofs.Tryd.ntmps39 (by rfl) rfl ?_
  refine pwp_seq (r_reg ?_)
  refine e_end (by kernel_rfl) ?_
  refine q_next (pwp_seq (r_reg ?_))
  refine p_run 2 (by kernel_rfl) ?_
  refine p_len (L := (a0.Elements : (List T_api_Element))) (by kernel_rfl) ?_
  obtain ⟨x1, h1, h⟩ := o_bind h
  refine p_mks 22 h1 (by kernel_rfl) ?_
  refine e_end (by kernel_rfl) ?_
  refine q_next (pwp_seq (pwp_seq (r_reg ?_)))
  refine p_run 2 (by kernel_rfl) ?_
  refine p_len (L := (a0.Elements : (List T_api_Element))) (by kernel_rfl) ?_
  refine e_end (by kernel_rfl) ?_
  refine q_next (pwp_block ?_)
  obtain ⟨o7, h7, h⟩ := o_inl h
  refine r_loop2 98 0 (fun (x4, x5) => ⟨[(1, .ref 1 0), (3, lstOf (.own 22) (x4 : (List ByteArray))), (24, lstOf .frozen (a0.Elements : (List T_api_Element))), (25, .int .i64 ((a0.Elements.length : Nat) : Int)), (26, .int .i64 x5)], [(1, .cells (cellsOf a0))], [(22, (((x4).map cellsOf).length, 1))], []⟩) (fun x8 => ⟨[(1, .ref 1 0), (3, lstOf (.own 22) (x8 : (List ByteArray)))], [(1, .cells (cellsOf a0))], [(22, (((x8).map cellsOf).length, 1))], []⟩) h7 (by kernel_rfl) (fun _ => by kernel_rfl) ?_ ?_
  · rintro ⟨x4, x5⟩ oh6 h6
    unfold d_layout_checkNames_0 at h6
    refine pwp_seq (r_reg ?_)
    refine e_end (by kernel_rfl) ?_
    refine q_next (pwp_seq ?_)
    rcases o_cond h6 with ⟨hb, h6⟩ | ⟨hb, h6⟩
    · refine r_cond_t hb (by kernel_rfl) ?_
      refine pwp_skip (q_next (pwp_seq (pwp_block (pwp_seq (r_reg ?_)))))
      obtain ⟨x9, h8, h6⟩ := o_bind h6
      refine p_ix h8 (by kernel_rfl) ?_
      refine e_end (by kernel_rfl) ?_
      refine q_next (r_reg ?_)
      refine p_run 4 (by kernel_rfl) ?_
      obtain ⟨x10, h9, h6⟩ := o_bind h6
      refine p_app (tk := 22) h9 (by kernel_rfl) (by kernel_rfl) ?_
      refine e_end (by kernel_rfl) ?_
      refine q_block (q_next (r_reg ?_))
      refine e_end (by kernel_rfl) ?_
      cases h6
      exact q_lback (by kernel_rfl)
    refine r_cond_f hb (by kernel_rfl) ?_
    refine pwp_exit (q_seq_exit ?_)
    cases h6
    exact q_lexit (by kernel_rfl) (by kernel_rfl)
  rintro x8 s' rfl hs
  have h := o_outl h
  refine q_block_hit ?_
  refine q_next (pwp_wkr hs ?_)
  refine pwp_seq (r_reg ?_)
  refine p_run 2 (by kernel_rfl) ?_
  refine p_len (L := (a0.Signals : (List T_api_Signal))) (by kernel_rfl) ?_
  obtain ⟨x11, h10, h⟩ := o_bind h
  refine p_mks 39 h10 (by kernel_rfl) ?_
  refine e_end (by kernel_rfl) ?_
  refine q_next (pwp_seq (pwp_seq (r_reg ?_)))
  refine p_run 2 (by kernel_rfl) ?_
  refine p_len (L := (a0.Signals : (List T_api_Signal))) (by kernel_rfl) ?_
  refine e_end (by kernel_rfl) ?_
  refine q_next (pwp_block ?_)
  obtain ⟨o16, h16, h⟩ := o_inl h
  refine r_loop2 98 2 (fun (x14, x15) => ⟨[(1, .ref 1 0), (3, lstOf (.own 22) (x8 : (List ByteArray))), (6, lstOf (.own 39) (x14 : (List ByteArray))), (41, lstOf .frozen (a0.Signals : (List T_api_Signal))), (42, .int .i64 ((a0.Signals.length : Nat) : Int)), (43, .int .i64 x15)], [(1, .cells (cellsOf a0))], [(22, (((x8).map cellsOf).length, 1)), (39, (((x14).map cellsOf).length, 1))], []⟩) (fun x18 => ⟨[(1, .ref 1 0), (3, lstOf (.own 22) (x8 : (List ByteArray))), (6, lstOf (.own 39) (x18 : (List ByteArray)))], [(1, .cells (cellsOf a0))], [(22, (((x8).map cellsOf).length, 1)), (39, (((x18).map cellsOf).length, 1))], []⟩) h16 (by kernel_rfl) (fun _ => by kernel_rfl) ?_ ?_
  · rintro ⟨x14, x15⟩ oh15 h15
    unfold d_layout_checkNames_1 at h15
    refine pwp_seq (r_reg ?_)
    refine e_end (by kernel_rfl) ?_
    refine q_next (pwp_seq ?_)
    rcases o_cond h15 with ⟨hb, h15⟩ | ⟨hb, h15⟩
    · refine r_cond_t hb (by kernel_rfl) ?_
      refine pwp_skip (q_next (pwp_seq (pwp_block (pwp_seq (r_reg ?_)))))
      obtain ⟨x19, h17, h15⟩ := o_bind h15
      refine p_ix h17 (by kernel_rfl) ?_
      refine e_end (by kernel_rfl) ?_
      refine q_next (r_reg ?_)
      refine p_run 4 (by kernel_rfl) ?_
      obtain ⟨x20, h18, h15⟩ := o_bind h15
      refine p_app (tk := 39) h18 (by kernel_rfl) (by kernel_rfl) ?_
      refine e_end (by kernel_rfl) ?_
      refine q_block (q_next (r_reg ?_))
      refine e_end (by kernel_rfl) ?_
      cases h15
      exact q_lback (by kernel_rfl)
    refine r_cond_f hb (by kernel_rfl) ?_
    refine pwp_exit (q_seq_exit ?_)
    cases h15
    exact q_lexit (by kernel_rfl) (by kernel_rfl)
  rintro x18 s' rfl hs
  have h := o_outl h
  refine q_block_hit ?_
  refine q_next (pwp_wkr hs ?_)
  refine pwp_seq (r_reg ?_)
  refine e_end (by kernel_rfl) ?_
  refine q_next (pwp_seq (pwp_seq (r_reg ?_)))
  refine p_run 1 (by kernel_rfl) ?_
  refine p_len (L := ([[a0.Name], a0.Sections, x8, x18] : (List (List ByteArray)))) (by kernel_rfl) ?_
  refine e_end (by kernel_rfl) ?_
  refine q_next (pwp_block ?_)
  obtain ⟨o50, h50, h⟩ := o_inl h
  refine r_loop2 98 4 (fun x29 => ⟨[(9, lstOf .full ([[a0.Name], a0.Sections, x8, x18] : (List (List ByteArray)))), (61, lstOf .full ([[a0.Name], a0.Sections, x8, x18] : (List (List ByteArray)))), (62, .int .i64 (([[a0.Name], a0.Sections, x8, x18].length : Nat) : Int)), (63, .int .i64 x29)], [], [], []⟩) (fun (_ : Unit) => ⟨[(9, lstOf .full ([[a0.Name], a0.Sections, x8, x18] : (List (List ByteArray))))], [], [], []⟩) h50 (by kernel_rfl) (fun _ => by kernel_rfl) ?_ ?_
  · rintro x29 oh49 h49
    unfold d_layout_checkNames_2 at h49
    refine pwp_seq (r_reg ?_)
    refine e_end (by kernel_rfl) ?_
    refine q_next (pwp_seq ?_)
    rcases o_cond h49 with ⟨hb, h49⟩ | ⟨hb, h49⟩
    · refine r_cond_t hb (by kernel_rfl) ?_
      refine pwp_skip (q_next (pwp_seq (pwp_block (pwp_seq (r_reg ?_)))))
      obtain ⟨x38, h51, h49⟩ := o_bind h49
      refine p_ix h51 (by kernel_rfl) ?_
      refine e_end (by kernel_rfl) ?_
      refine q_next (pwp_seq (r_reg ?_))
      refine p_run 1 (by kernel_rfl) ?_
      refine p_len (L := (x38 : (List ByteArray))) (by kernel_rfl) ?_
      refine e_end (by kernel_rfl) ?_
      refine q_next (pwp_block ?_)
      obtain ⟨o61, h61, h49⟩ := o_inl h49
      refine r_loop2 98 6 (fun x41 => ⟨[(9, lstOf .full ([[a0.Name], a0.Sections, x8, x18] : (List (List ByteArray)))), (61, lstOf .full ([[a0.Name], a0.Sections, x8, x18] : (List (List ByteArray)))), (62, .int .i64 (([[a0.Name], a0.Sections, x8, x18].length : Nat) : Int)), (63, .int .i64 x29), (67, lstOf .frozen (x38 : (List ByteArray))), (68, .int .i64 ((x38.length : Nat) : Int)), (69, .int .i64 x41)], [], [], []⟩) (fun (_ : Unit) => ⟨[(9, lstOf .full ([[a0.Name], a0.Sections, x8, x18] : (List (List ByteArray)))), (61, lstOf .full ([[a0.Name], a0.Sections, x8, x18] : (List (List ByteArray)))), (62, .int .i64 (([[a0.Name], a0.Sections, x8, x18].length : Nat) : Int)), (63, .int .i64 x29)], [], [], []⟩) h61 (by kernel_rfl) (fun _ => by kernel_rfl) ?_ ?_
      · rintro x41 oh60 h60
        unfold d_layout_checkNames_3 at h60
        refine pwp_seq (r_reg ?_)
        refine e_end (by kernel_rfl) ?_
        refine q_next (pwp_seq ?_)
        rcases o_cond h60 with ⟨hb, h60⟩ | ⟨hb, h60⟩
        · refine r_cond_t hb (by kernel_rfl) ?_
          refine pwp_skip (q_next (pwp_seq (pwp_block (pwp_seq (r_reg ?_)))))
          obtain ⟨x44, h62, h60⟩ := o_bind h60
          refine p_ix h62 (by kernel_rfl) ?_
          refine e_end (by kernel_rfl) ?_
          refine q_next (pwp_seq (r_reg ?_))
          refine p_run 1 (by kernel_rfl) ?_
          obtain ⟨r45, h63, h60⟩ := o_bind h60
          refine p_call (d_words_Name_ok _ r45 h63) (by kernel_rfl) (by kernel_rfl) ?_
          refine e_end (by kernel_rfl) ?_
          refine q_next ?_
          rcases o_cond h60 with ⟨hb, h60⟩ | ⟨hb, h60⟩
          · refine r_cond_t hb (by kernel_rfl) ?_
            refine pwp_seq (r_reg ?_)
            refine e_end (by kernel_rfl) ?_
            refine q_next (pwp_ret (q_block_ret (q_seq_ret ?_)))
            cases h60
            refine q_lout_ret fun he => ?_
            subst he
            have h64 := o_outr h49
            refine q_block_ret (q_block_ret (q_seq_ret ?_))
            cases h64
            refine q_lout_ret fun he => ?_
            subst he
            have h65 := o_outr h
            refine q_block_ret (q_seq_ret ?_)
            cases h65
            exact q_ret (by kernel_rfl) (by kernel_rfl) (by kernel_rfl)
          refine r_cond_f hb (by kernel_rfl) ?_
          refine pwp_skip (q_block (q_next (r_reg ?_)))
          refine e_end (by kernel_rfl) ?_
          cases h60
          exact q_lback (by kernel_rfl)
        refine r_cond_f hb (by kernel_rfl) ?_
        refine pwp_exit (q_seq_exit ?_)
        cases h60
        exact q_lexit (by kernel_rfl) (by kernel_rfl)
      rintro _ s' rfl hs
      have h49 := o_outl h49
      refine q_block_hit (q_block ?_)
      refine q_next (pwp_wkr hs ?_)
      refine r_reg ?_
      refine e_end (by kernel_rfl) ?_
      cases h49
      exact q_lback (by kernel_rfl)
    refine r_cond_f hb (by kernel_rfl) ?_
    refine pwp_exit (q_seq_exit ?_)
    cases h49
    exact q_lexit (by kernel_rfl) (by kernel_rfl)
  rintro _ s' rfl hs
  have h := o_outl h
  refine q_block_hit ?_
  refine q_next (pwp_wkr hs ?_)
  refine pwp_seq (pwp_seq (r_reg ?_))
  refine p_run 1 (by kernel_rfl) ?_
  refine p_len (L := ([[a0.Name], a0.Sections, x8, x18] : (List (List ByteArray)))) (by kernel_rfl) ?_
  refine e_end (by kernel_rfl) ?_
  refine q_next (pwp_block ?_)
  obtain ⟨o91, h91, h⟩ := o_inl h
  refine r_loop2 98 8 (fun x52 => ⟨[(78, lstOf .full ([[a0.Name], a0.Sections, x8, x18] : (List (List ByteArray)))), (79, .int .i64 (([[a0.Name], a0.Sections, x8, x18].length : Nat) : Int)), (80, .int .i64 x52)], [], [], []⟩) (fun (_ : Unit) => ⟨[], [], [], []⟩) h91 (by kernel_rfl) (fun _ => by kernel_rfl) ?_ ?_
  · rintro x52 oh90 h90
    unfold d_layout_checkNames_4 at h90
    refine pwp_seq (r_reg ?_)
    refine e_end (by kernel_rfl) ?_
    refine q_next (pwp_seq ?_)
    rcases o_cond h90 with ⟨hb, h90⟩ | ⟨hb, h90⟩
    · refine r_cond_t hb (by kernel_rfl) ?_
      refine pwp_skip (q_next (pwp_seq (pwp_block (pwp_seq (r_reg ?_)))))
      obtain ⟨x59, h92, h90⟩ := o_bind h90
      refine p_ix h92 (by kernel_rfl) ?_
      refine e_end (by kernel_rfl) ?_
      refine q_next (pwp_seq (r_reg ?_))
      refine e_end (by kernel_rfl) ?_
      refine q_next (pwp_seq (r_reg ?_))
      refine p_run 1 (by kernel_rfl) ?_
      refine p_len (L := (x59 : (List ByteArray))) (by kernel_rfl) ?_
      refine e_end (by kernel_rfl) ?_
      refine q_next (pwp_block ?_)
      obtain ⟨o100, h100, h90⟩ := o_inl h90
      refine r_loop2 98 10 (fun (x61, x62) => ⟨[(16, .mp 84), (78, lstOf .full ([[a0.Name], a0.Sections, x8, x18] : (List (List ByteArray)))), (79, .int .i64 (([[a0.Name], a0.Sections, x8, x18].length : Nat) : Int)), (80, .int .i64 x52), (85, lstOf .frozen (x59 : (List ByteArray))), (86, .int .i64 ((x59.length : Nat) : Int)), (87, .int .i64 x61)], [(84, .map (mpOf (x62 : (List (ByteArray × Bool)))))], [], []⟩) (fun (_ : Unit) => ⟨[(78, lstOf .full ([[a0.Name], a0.Sections, x8, x18] : (List (List ByteArray)))), (79, .int .i64 (([[a0.Name], a0.Sections, x8, x18].length : Nat) : Int)), (80, .int .i64 x52)], [], [], []⟩) h100 (by kernel_rfl) (fun _ => by kernel_rfl) ?_ ?_
      · rintro ⟨x61, x62⟩ oh99 h99
        unfold d_layout_checkNames_5 at h99
        refine pwp_seq (r_reg ?_)
        refine e_end (by kernel_rfl) ?_
        refine q_next (pwp_seq ?_)
        rcases o_cond h99 with ⟨hb, h99⟩ | ⟨hb, h99⟩
        · refine r_cond_t hb (by kernel_rfl) ?_
          refine pwp_skip (q_next (pwp_seq (pwp_block (pwp_seq (r_reg ?_)))))
          obtain ⟨x64, h101, h99⟩ := o_bind h99
          refine p_ix h101 (by kernel_rfl) ?_
          refine e_end (by kernel_rfl) ?_
          refine q_next (pwp_seq (pwp_seq (r_reg ?_)))
          refine p_run 2 (by kernel_rfl) ?_
          refine p_lookup (m := (x62 : (List (ByteArray × Bool)))) (k := x64) false 84 (by kernel_rfl) (by kernel_rfl) ?_
          refine e_nil (by kernel_rfl) ?_
          refine q_next ?_
          rcases o_cond h99 with ⟨hb, h99⟩ | ⟨hb, h99⟩
          · refine r_cond_t hb (by kernel_rfl) ?_
            refine pwp_seq (r_reg ?_)
            refine e_end (by kernel_rfl) ?_
            refine q_next (pwp_ret (q_seq_ret (q_block_ret (q_seq_ret ?_))))
            cases h99
            refine q_lout_ret fun he => ?_
            subst he
            have h102 := o_outr h90
            refine q_block_ret (q_block_ret (q_seq_ret ?_))
            cases h102
            refine q_lout_ret fun he => ?_
            subst he
            have h103 := o_outr h
            refine q_block_ret (q_seq_ret ?_)
            cases h103
            exact q_ret (by kernel_rfl) (by kernel_rfl) (by kernel_rfl)
          refine r_cond_f hb (by kernel_rfl) ?_
          refine pwp_skip (q_next (r_reg ?_))
          refine p_run 2 (by kernel_rfl) ?_
          refine p_mset (m := (x62 : (List (ByteArray × Bool)))) (k := x64) (v := true) 84 (by kernel_rfl) (by kernel_rfl) (by kernel_rfl) ?_
          refine e_nil (by kernel_rfl) ?_
          refine q_block (q_next (r_reg ?_))
          refine e_end (by kernel_rfl) ?_
          cases h99
          exact q_lback (by kernel_rfl)
        refine r_cond_f hb (by kernel_rfl) ?_
        refine pwp_exit (q_seq_exit ?_)
        cases h99
        exact q_lexit (by kernel_rfl) (by kernel_rfl)
      rintro _ s' rfl hs
      have h90 := o_outl h90
      refine q_block_hit (q_block ?_)
      refine q_next (pwp_wkr hs ?_)
      refine r_reg ?_
      refine e_end (by kernel_rfl) ?_
      cases h90
      exact q_lback (by kernel_rfl)
    refine r_cond_f hb (by kernel_rfl) ?_
    refine pwp_exit (q_seq_exit ?_)
    cases h90
    exact q_lexit (by kernel_rfl) (by kernel_rfl)
  rintro _ s' rfl hs
  have h := o_outl h
  refine q_block_hit ?_
  refine q_next (pwp_wkr hs ?_)
  refine pwp_seq (r_reg ?_)
  refine e_end (by kernel_rfl) ?_
  refine q_next (pwp_ret ?_)
  cases h
  exact q_ret (by kernel_rfl) (by kernel_rfl) (by kernel_rfl)

/-! layout.elementsFit -/
noncomputable def d_layout_elementsFit_0 (a0 : T_api_Layout) : Int → Option (Int ⊕ (Unit ⊕ Bool)) := fun x13 =>
  bif decide (x13 < ((a0.Elements.length : Nat) : Int)) then (
    (ixO a0.Elements x13).bind fun x26 =>
    (d_layout_within x26.Kind 1 3).bind fun r27 =>
    ((bif (!r27) then some true else (
      (d_layout_within x26.Length 500 1000000).bind fun r29 =>
      some (!r29)
    )) : Option Bool).bind fun b28 =>
    ((bif b28 then some true else (
      (d_layout_within x26.Grade (-50) 50).bind fun r31 =>
      some (!r31)
    )) : Option Bool).bind fun b30 =>
    ((bif b30 then some true else (
      (d_layout_within x26.Speed 100 10000).bind fun r33 =>
      some (!r33)
    )) : Option Bool).bind fun b32 =>
    ((bif b32 then some true else (
      (d_layout_within x26.Section 0 (w64 (((a0.Sections.length : Nat) : Int) - 1))).bind fun r35 =>
      some (!r35)
    )) : Option Bool).bind fun b34 =>
    bif b34 then (
      some (.inr (.inr false))
    ) else (
      ((bif decide (x26.Kind = 2) then (
        (d_layout_within x26.Slow 100 x26.Speed).bind fun r37 =>
        some (!r37)
      ) else some false) : Option Bool).bind fun b36 =>
      bif (b36 || ((!(decide (x26.Kind = 2))) && (!(decide (x26.Slow = 0))))) then (
        some (.inr (.inr false))
      ) else (
        some (.inl (w64 (x13 + 1)))
      )
    )
  ) else (
    some (.inr (.inl ()))
  )

noncomputable def d_layout_elementsFit (a0 : T_api_Layout) : Option Bool :=
  onInl (α := Unit) (β := Bool) (loopO (d_layout_elementsFit_0 a0) 0) fun _ =>
  some true
theorem d_layout_elementsFit_ok (a0 : T_api_Layout) (r : Bool) (h : d_layout_elementsFit a0 = some r) : PCall Go.Proofs.Tryd.prog GlS 40 [Enc.pv a0] (Enc.pv r) := by
  unfold d_layout_elementsFit at h
  refine pcall_of_pwp Go.Proofs.Tryd.func40 (by rfl) rfl Go.Proofs.Tryd.ntmps40 (by rfl) rfl ?_
  refine pwp_seq (r_reg ?_)
  refine e_end (by kernel_rfl) ?_
  refine q_next (pwp_seq (pwp_seq (r_reg ?_)))
  refine p_run 2 (by kernel_rfl) ?_
  refine p_len (L := (a0.Elements : (List T_api_Element))) (by kernel_rfl) ?_
  refine e_end (by kernel_rfl) ?_
  refine q_next (pwp_block ?_)
  obtain ⟨o30, h30, h⟩ := o_inl h
  refine r_loop2 66 0 (fun x13 => ⟨[(1, .ref 1 0), (6, lstOf .frozen (a0.Elements : (List T_api_Element))), (7, .int .i64 ((a0.Elements.length : Nat) : Int)), (8, .int .i64 x13)], [(1, .cells (cellsOf a0))], [], []⟩) (fun (_ : Unit) => ⟨[], [], [], []⟩) h30 (by kernel_rfl) (fun _ => by kernel_rfl) ?_ ?_
  · rintro x13 oh29 h29
    unfold d_layout_elementsFit_0 at h29
    refine pwp_seq (r_reg ?_)
    refine e_end (by kernel_rfl) ?_
    refine q_next (pwp_seq ?_)
    rcases o_cond h29 with ⟨hb, h29⟩ | ⟨hb, h29⟩
    · refine r_cond_t hb (by kernel_rfl) ?_
      refine pwp_skip (q_next (pwp_seq (pwp_block (pwp_seq (r_reg ?_)))))
      obtain ⟨x26, h31, h29⟩ := o_bind h29
      refine p_ix h31 (by kernel_rfl) ?_
      refine e_end (by kernel_rfl) ?_
      refine q_next (pwp_seq (pwp_seq (r_reg ?_)))
      refine p_run 2 (by kernel_rfl) ?_
      obtain ⟨r27, h32, h29⟩ := o_bind h29
      refine p_call (d_layout_within_ok _ _ _ r27 h32) (by kernel_rfl) (by kernel_rfl) ?_
      obtain ⟨b28, h33, h29⟩ := o_bind h29
      refine p_run 2 (by kernel_rfl) ?_
      refine e_seg 5 21 (.bool b28) ?_ ?_
      · rcases o_cond h33 with ⟨hb, h33⟩ | ⟨hb, h33⟩
        · refine p_settle 16 hb (by kernel_rfl) (by kernel_rfl) ?_
          cases h33
          exact f_end (by kernel_rfl) (by kernel_rfl)
        refine p_settle 16 hb (by kernel_rfl) (by kernel_rfl) ?_
        refine p_run 2 (by kernel_rfl) ?_
        obtain ⟨r29, h34, h33⟩ := o_bind h33
        refine p_call (d_layout_within_ok _ _ _ r29 h34) (by kernel_rfl) (by kernel_rfl) ?_
        cases h33
        exact f_end (by kernel_rfl) (by kernel_rfl)
      obtain ⟨b30, h35, h29⟩ := o_bind h29
      refine p_run 1 (by kernel_rfl) ?_
      refine e_seg 5 27 (.bool b30) ?_ ?_
      · rcases o_cond h35 with ⟨hb, h35⟩ | ⟨hb, h35⟩
        · refine p_settle 22 hb (by kernel_rfl) (by kernel_rfl) ?_
          cases h35
          exact f_end (by kernel_rfl) (by kernel_rfl)
        refine p_settle 22 hb (by kernel_rfl) (by kernel_rfl) ?_
        refine p_run 2 (by kernel_rfl) ?_
        obtain ⟨r31, h36, h35⟩ := o_bind h35
        refine p_call (d_layout_within_ok _ _ _ r31 h36) (by kernel_rfl) (by kernel_rfl) ?_
        cases h35
        exact f_end (by kernel_rfl) (by kernel_rfl)
      obtain ⟨b32, h37, h29⟩ := o_bind h29
      refine p_run 1 (by kernel_rfl) ?_
      refine e_seg 5 33 (.bool b32) ?_ ?_
      · rcases o_cond h37 with ⟨hb, h37⟩ | ⟨hb, h37⟩
        · refine p_settle 28 hb (by kernel_rfl) (by kernel_rfl) ?_
          cases h37
          exact f_end (by kernel_rfl) (by kernel_rfl)
        refine p_settle 28 hb (by kernel_rfl) (by kernel_rfl) ?_
        refine p_run 2 (by kernel_rfl) ?_
        obtain ⟨r33, h38, h37⟩ := o_bind h37
        refine p_call (d_layout_within_ok _ _ _ r33 h38) (by kernel_rfl) (by kernel_rfl) ?_
        cases h37
        exact f_end (by kernel_rfl) (by kernel_rfl)
      obtain ⟨b34, h39, h29⟩ := o_bind h29
      refine p_run 1 (by kernel_rfl) ?_
      refine e_seg 9 43 (.bool b34) ?_ ?_
      · rcases o_cond h39 with ⟨hb, h39⟩ | ⟨hb, h39⟩
        · refine p_settle 34 hb (by kernel_rfl) (by kernel_rfl) ?_
          cases h39
          exact f_end (by kernel_rfl) (by kernel_rfl)
        refine p_settle 34 hb (by kernel_rfl) (by kernel_rfl) ?_
        refine p_run 4 (by kernel_rfl) ?_
        refine p_len (L := (a0.Sections : (List ByteArray))) (by kernel_rfl) ?_
        refine p_run 1 (by kernel_rfl) ?_
        obtain ⟨r35, h40, h39⟩ := o_bind h39
        refine p_call (d_layout_within_ok _ _ _ r35 h40) (by kernel_rfl) (by kernel_rfl) ?_
        cases h39
        exact f_end (by kernel_rfl) (by kernel_rfl)
      refine e_nil (by kernel_rfl) ?_
      refine q_next ?_
      rcases o_cond h29 with ⟨hb, h29⟩ | ⟨hb, h29⟩
      · refine r_cond_t hb (by kernel_rfl) ?_
        refine pwp_seq (r_reg ?_)
        refine e_end (by kernel_rfl) ?_
        refine q_next (pwp_ret (q_seq_ret (q_block_ret (q_seq_ret ?_))))
        cases h29
        refine q_lout_ret fun he => ?_
        subst he
        have h41 := o_outr h
        refine q_block_ret (q_seq_ret ?_)
        cases h41
        exact q_ret (by kernel_rfl) (by kernel_rfl) (by kernel_rfl)
      refine r_cond_f hb (by kernel_rfl) ?_
      refine pwp_skip (q_next (pwp_seq (r_reg ?_)))
      obtain ⟨b36, h42, h29⟩ := o_bind h29
      refine p_run 4 (by kernel_rfl) ?_
      refine e_seg 7 54 (.bool b36) ?_ ?_
      · rcases o_cond h42 with ⟨hb, h42⟩ | ⟨hb, h42⟩
        · refine p_settle 47 hb (by kernel_rfl) (by kernel_rfl) ?_
          refine p_run 4 (by kernel_rfl) ?_
          obtain ⟨r37, h43, h42⟩ := o_bind h42
          refine p_call (d_layout_within_ok _ _ _ r37 h43) (by kernel_rfl) (by kernel_rfl) ?_
          cases h42
          exact f_end (by kernel_rfl) (by kernel_rfl)
        refine p_settle 47 hb (by kernel_rfl) (by kernel_rfl) ?_
        cases h42
        exact f_end (by kernel_rfl) (by kernel_rfl)
      refine p_run 1 (by kernel_rfl) ?_
      refine e_segb 9 64 (b36 || ((!(decide (x26.Kind = 2))) && (!(decide (x26.Slow = 0))))) (fun x hx => ?_) ?_
      · rcases b_or hx with ⟨hb, hx⟩ | ⟨hb, hx⟩
        · refine p_settle 55 hb (by kernel_rfl) (by kernel_rfl) ?_
          subst hx
          exact f_end (by kernel_rfl) (by kernel_rfl)
        refine p_settle 55 hb (by kernel_rfl) (by kernel_rfl) ?_
        refine p_run 4 (by kernel_rfl) ?_
        refine f_segb 4 63 ((!(decide (x26.Kind = 2))) && (!(decide (x26.Slow = 0)))) (fun x hx => ?_) ?_
        · rcases b_and hx with ⟨hb, hx⟩ | ⟨hb, hx⟩
          · refine p_settle 59 hb (by kernel_rfl) (by kernel_rfl) ?_
            subst hx
            exact f_end (by kernel_rfl) (by kernel_rfl)
          refine p_settle 59 hb (by kernel_rfl) (by kernel_rfl) ?_
          subst hx
          exact f_end (by kernel_rfl) (by kernel_rfl)
        subst hx
        exact f_end (by kernel_rfl) (by kernel_rfl)
      refine e_nil (by kernel_rfl) ?_
      refine q_next ?_
      rcases o_cond h29 with ⟨hb, h29⟩ | ⟨hb, h29⟩
      · refine r_cond_t hb (by kernel_rfl) ?_
        refine pwp_seq (r_reg ?_)
        refine e_end (by kernel_rfl) ?_
        refine q_next (pwp_ret (q_block_ret (q_seq_ret ?_)))
        cases h29
        refine q_lout_ret fun he => ?_
        subst he
        have h44 := o_outr h
        refine q_block_ret (q_seq_ret ?_)
        cases h44
        exact q_ret (by kernel_rfl) (by kernel_rfl) (by kernel_rfl)
      refine r_cond_f hb (by kernel_rfl) ?_
      refine pwp_skip (q_block (q_next (r_reg ?_)))
      refine e_end (by kernel_rfl) ?_
      cases h29
      exact q_lback (by kernel_rfl)
    refine r_cond_f hb (by kernel_rfl) ?_
    refine pwp_exit (q_seq_exit ?_)
    cases h29
    exact q_lexit (by kernel_rfl) (by kernel_rfl)
  rintro _ s' rfl hs
  have h := o_outl h
  refine q_block_hit ?_
  refine q_next (pwp_wkr hs ?_)
  refine pwp_seq (r_reg ?_)
  refine e_end (by kernel_rfl) ?_
  refine q_next (pwp_ret ?_)
  cases h
  exact q_ret (by kernel_rfl) (by kernel_rfl) (by kernel_rfl)

/-! layout.Members -/
noncomputable def d_layout_Members_0 (a0 : T_api_Layout) (a1 : Int) : (Int × (List Int)) → Option ((Int × (List Int)) ⊕ ((List Int) ⊕ (List Int))) := fun (x13, x14) =>
  bif decide (x13 < ((a0.Elements.length : Nat) : Int)) then (
    onInl (α := (List Int)) (β := ((Int × (List Int)) ⊕ ((List Int) ⊕ (List Int)))) (
      (ixO a0.Elements x13).bind fun x24 =>
      bif decide (x24.Section = a1) then (
        (appO x14 [x13]).bind fun x25 =>
        some (.inl x25)
      ) else (
        some (.inl x14)
      )
    ) fun x23 =>
    some (.inl (w64 (x13 + 1), x23))
  ) else (
    some (.inr (.inl x14))
  )

noncomputable def d_layout_Members (a0 : T_api_Layout) (a1 : Int) : Option (List Int) :=
  ((bif decide (a1 < 0) then some true else (
    some (decide (((a0.Sections.length : Nat) : Int) ≤ a1))
  )) : Option Bool).bind fun b1 =>
  bif b1 then (
    some ([] : (List Int))
  ) else (
    onInl (α := (List Int)) (β := (List Int)) (loopO (d_layout_Members_0 a0 a1) (0, ([] : (List Int)))) fun x20 =>
    some x20
  )
theorem d_layout_Members_ok (a0 : T_api_Layout) (a1 : Int) (r : (List Int)) (h : d_layout_Members a0 a1 = some r) : PCall Go.Proofs.Tryd.prog GlS 57 [Enc.pv a0, Enc.pv a1] (lstOf (.own 100005) r) := by
  unfold d_layout_Members at h
  refine pcall_of_pwp Go.Proofs.Tryd.func57 (by rfl) rfl Go.Proofs.Tryd.ntmps57 (by rfl) rfl ?_
  refine pwp_seq (r_reg ?_)
  refine e_end (by kernel_rfl) ?_
  refine q_next (pwp_seq (pwp_seq (r_reg ?_)))
  obtain ⟨b1, h1, h⟩ := o_bind h
  refine p_run 3 (by kernel_rfl) ?_
  refine e_seg 6 16 (.bool b1) ?_ ?_
  · rcases o_cond h1 with ⟨hb, h1⟩ | ⟨hb, h1⟩
    · refine p_settle 10 hb (by kernel_rfl) (by kernel_rfl) ?_
      cases h1
      exact f_end (by kernel_rfl) (by kernel_rfl)
    refine p_settle 10 hb (by kernel_rfl) (by kernel_rfl) ?_
    refine p_run 3 (by kernel_rfl) ?_
    refine p_len (L := (a0.Sections : (List ByteArray))) (by kernel_rfl) ?_
    cases h1
    exact f_end (by kernel_rfl) (by kernel_rfl)
  refine e_nil (by kernel_rfl) ?_
  refine q_next ?_
  rcases o_cond h with ⟨hb, h⟩ | ⟨hb, h⟩
  · refine r_cond_t hb (by kernel_rfl) ?_
    refine pwp_seq (r_reg ?_)
    refine e_end (by kernel_rfl) ?_
    refine q_next ?_
    refine g_nil 4 100005 1 8 (by kernel_rfl) (by kernel_rfl) ?_
    refine pwp_ret (q_seq_ret ?_)
    cases h
    exact q_ret (by kernel_rfl) (by kernel_rfl) (by kernel_rfl)
  refine r_cond_f hb (by kernel_rfl) ?_
  refine pwp_skip (q_next (pwp_seq (r_reg ?_)))
  refine e_end (by kernel_rfl) ?_
  refine q_next (pwp_seq (pwp_seq (r_reg ?_)))
  refine p_run 2 (by kernel_rfl) ?_
  refine p_len (L := (a0.Elements : (List T_api_Element))) (by kernel_rfl) ?_
  refine e_end (by kernel_rfl) ?_
  refine q_next (pwp_block ?_)
  refine g_nil 5 100005 1 8 (by kernel_rfl) (by kernel_rfl) ?_
  obtain ⟨o18, h18, h⟩ := o_inl h
  refine r_loop2 35 0 (fun (x13, x14) => ⟨[(1, .int .i64 a1), (5, lstOf (.own 100005) (x14 : (List Int))), (18, lstOf .frozen (a0.Elements : (List T_api_Element))), (19, .int .i64 ((a0.Elements.length : Nat) : Int)), (20, .int .i64 x13)], [], [(100005, (((x14).map cellsOf).length, 1))], []⟩) (fun x20 => ⟨[(5, lstOf (.own 100005) (x20 : (List Int)))], [], [(100005, (((x20).map cellsOf).length, 1))], []⟩) h18 (by kernel_rfl) (fun _ => by kernel_rfl) ?_ ?_
  · rintro ⟨x13, x14⟩ oh17 h17
    unfold d_layout_Members_0 at h17
    refine pwp_seq (r_reg ?_)
    refine e_end (by kernel_rfl) ?_
    refine q_next (pwp_seq ?_)
    rcases o_cond h17 with ⟨hb, h17⟩ | ⟨hb, h17⟩
    · refine r_cond_t hb (by kernel_rfl) ?_
      refine pwp_skip (q_next ?_)
      obtain ⟨o21, h21, h17⟩ := o_inl h17
      refine r_join (o := o21) 35 (fun x23 => ⟨[(1, .int .i64 a1), (5, lstOf (.own 100005) (x23 : (List Int))), (18, lstOf .frozen (a0.Elements : (List T_api_Element))), (19, .int .i64 ((a0.Elements.length : Nat) : Int)), (20, .int .i64 x13)], [], [(100005, (((x23).map cellsOf).length, 1))], []⟩) ?_ ?_
      · refine pwp_block (pwp_seq (r_reg ?_))
        refine p_run 1 (by kernel_rfl) ?_
        obtain ⟨x24, h22, h21⟩ := o_bind h21
        refine p_ix h22 (by kernel_rfl) ?_
        refine e_end (by kernel_rfl) ?_
        refine q_next (pwp_seq (r_reg ?_))
        refine e_end (by kernel_rfl) ?_
        refine q_next ?_
        rcases o_cond h21 with ⟨hb, h21⟩ | ⟨hb, h21⟩
        · refine r_cond_t hb (by kernel_rfl) ?_
          refine r_reg ?_
          refine p_run 3 (by kernel_rfl) ?_
          obtain ⟨x25, h23, h21⟩ := o_bind h21
          refine p_app (tk := 100005) h23 (by kernel_rfl) (by kernel_rfl) ?_
          refine e_end (by kernel_rfl) ?_
          refine q_block ?_
          cases h21
          exact q_join (by kernel_rfl) (by kernel_rfl)
        refine r_cond_f hb (by kernel_rfl) ?_
        refine pwp_skip (q_block ?_)
        cases h21
        exact q_join (by kernel_rfl) (by kernel_rfl)
      rintro x23 rfl
      have h17 := o_outl h17
      refine r_reg ?_
      refine e_end (by kernel_rfl) ?_
      cases h17
      exact q_lback (by kernel_rfl)
    refine r_cond_f hb (by kernel_rfl) ?_
    refine pwp_exit (q_seq_exit ?_)
    cases h17
    exact q_lexit (by kernel_rfl) (by kernel_rfl)
  rintro x20 s' rfl hs
  have h := o_outl h
  refine q_block_hit ?_
  refine q_next (pwp_wkr hs ?_)
  refine pwp_seq (r_reg ?_)
  refine e_end (by kernel_rfl) ?_
  refine q_next (pwp_ret ?_)
  cases h
  exact q_ret (by kernel_rfl) (by kernel_rfl) (by kernel_rfl)
theorem d_layout_Members_fz (a0 : T_api_Layout) (a1 : Int) (r : (List Int)) (h : d_layout_Members a0 a1 = some r) : PCall Go.Proofs.Tryd.prog GlS 57 [Enc.pv a0, Enc.pv a1] (Enc.pv r) :=
  (d_layout_Members_ok a0 a1 r h).freeze (by kernel_rfl) (by kernel_rfl) (by kernel_rfl)

/-! layout.sectionsUsed -/
noncomputable def d_layout_sectionsUsed_0 (a0 : T_api_Layout) : Int → Option (Int ⊕ (Unit ⊕ Bool)) := fun x2 =>
  bif decide (x2 < ((a0.Sections.length : Nat) : Int)) then (
    (d_layout_Members a0 x2).bind fun r4 =>
    bif decide (((r4.length : Nat) : Int) = 0) then (
      some (.inr (.inr false))
    ) else (
      some (.inl (w64 (x2 + 1)))
    )
  ) else (
    some (.inr (.inl ()))
  )

noncomputable def d_layout_sectionsUsed (a0 : T_api_Layout) : Option Bool :=
  onInl (α := Unit) (β := Bool) (loopO (d_layout_sectionsUsed_0 a0) 0) fun _ =>
  some true
theorem d_layout_sectionsUsed_ok (a0 : T_api_Layout) (r : Bool) (h : d_layout_sectionsUsed a0 = some r) : PCall Go.Proofs.Tryd.prog GlS 41 [Enc.pv a0] (Enc.pv r) := by
  unfold d_layout_sectionsUsed at h
  refine pcall_of_pwp Go.Proofs.Tryd.func41 (by rfl) rfl Go.Proofs.Tryd.ntmps41 (by rfl) rfl ?_
  refine pwp_seq (r_reg ?_)
  refine e_end (by kernel_rfl) ?_
  refine q_next (pwp_seq (pwp_seq (r_reg ?_)))
  refine p_run 2 (by kernel_rfl) ?_
  refine p_len (L := (a0.Sections : (List ByteArray))) (by kernel_rfl) ?_
  refine e_end (by kernel_rfl) ?_
  refine q_next (pwp_block ?_)
  obtain ⟨o6, h6, h⟩ := o_inl h
  refine r_loop2 16 0 (fun x2 => ⟨[(1, .ref 1 0), (6, .int .i64 ((a0.Sections.length : Nat) : Int)), (7, .int .i64 x2)], [(1, .cells (cellsOf a0))], [], []⟩) (fun (_ : Unit) => ⟨[], [], [], []⟩) h6 (by kernel_rfl) (fun _ => by kernel_rfl) ?_ ?_
  · rintro x2 oh5 h5
    unfold d_layout_sectionsUsed_0 at h5
    refine pwp_seq (r_reg ?_)
    refine e_end (by kernel_rfl) ?_
    refine q_next (pwp_seq ?_)
    rcases o_cond h5 with ⟨hb, h5⟩ | ⟨hb, h5⟩
    · refine r_cond_t hb (by kernel_rfl) ?_
      refine pwp_skip (q_next (pwp_seq (pwp_block (pwp_seq (r_reg ?_)))))
      refine e_end (by kernel_rfl) ?_
      refine q_next (pwp_seq (r_reg ?_))
      refine p_run 2 (by kernel_rfl) ?_
      obtain ⟨r4, h7, h5⟩ := o_bind h5
      refine p_call (d_layout_Members_ok _ _ r4 h7) (by kernel_rfl) (by kernel_rfl) ?_
      refine p_len (L := (r4 : (List Int))) (by kernel_rfl) ?_
      refine e_end (by kernel_rfl) ?_
      refine q_next ?_
      rcases o_cond h5 with ⟨hb, h5⟩ | ⟨hb, h5⟩
      · refine r_cond_t hb (by kernel_rfl) ?_
        refine pwp_seq (r_reg ?_)
        refine e_end (by kernel_rfl) ?_
        refine q_next (pwp_ret (q_block_ret (q_seq_ret ?_)))
        cases h5
        refine q_lout_ret fun he => ?_
        subst he
        have h8 := o_outr h
        refine q_block_ret (q_seq_ret ?_)
        cases h8
        exact q_ret (by kernel_rfl) (by kernel_rfl) (by kernel_rfl)
      refine r_cond_f hb (by kernel_rfl) ?_
      refine pwp_skip (q_block (q_next (r_reg ?_)))
      refine e_end (by kernel_rfl) ?_
      cases h5
      exact q_lback (by kernel_rfl)
    refine r_cond_f hb (by kernel_rfl) ?_
    refine pwp_exit (q_seq_exit ?_)
    cases h5
    exact q_lexit (by kernel_rfl) (by kernel_rfl)
  rintro _ s' rfl hs
  have h := o_outl h
  refine q_block_hit ?_
  refine q_next (pwp_wkr hs ?_)
  refine pwp_seq (r_reg ?_)
  refine e_end (by kernel_rfl) ?_
  refine q_next (pwp_ret ?_)
  cases h
  exact q_ret (by kernel_rfl) (by kernel_rfl) (by kernel_rfl)

/-! rail.Sides -/
noncomputable def d_rail_Sides (a0 : Int) : Option Int :=
  bif ((decide (a0 < 0)) || (decide (4 ≤ a0))) then (
    some 0
  ) else (
    (ixO tab_rail_sides a0).bind fun x1 =>
    some x1
  )
theorem d_rail_Sides_ok (a0 : Int) (r : Int) (h : d_rail_Sides a0 = some r) : PCall Go.Proofs.Tryd.prog GlS 68 [Enc.pv a0] (Enc.pv r) := by
  unfold d_rail_Sides at h
  refine pcall_of_pwp Go.Proofs.Tryd.func68 (by rfl) rfl Go.Proofs.Tryd.ntmps68 (by rfl) rfl ?_
  refine pwp_seq (r_reg ?_)
  refine e_end (by kernel_rfl) ?_
  refine q_next (pwp_seq (pwp_seq (r_reg ?_)))
  refine p_run 3 (by kernel_rfl) ?_
  refine e_segb 3 8 ((decide (a0 < 0)) || (decide (4 ≤ a0))) (fun x hx => ?_) ?_
  · rcases b_or hx with ⟨hb, hx⟩ | ⟨hb, hx⟩
    · refine p_settle 5 hb (by kernel_rfl) (by kernel_rfl) ?_
      subst hx
      exact f_end (by kernel_rfl) (by kernel_rfl)
    refine p_settle 5 hb (by kernel_rfl) (by kernel_rfl) ?_
    subst hx
    exact f_end (by kernel_rfl) (by kernel_rfl)
  refine e_nil (by kernel_rfl) ?_
  refine q_next ?_
  rcases o_cond h with ⟨hb, h⟩ | ⟨hb, h⟩
  · refine r_cond_t hb (by kernel_rfl) ?_
    refine pwp_seq (r_reg ?_)
    refine e_end (by kernel_rfl) ?_
    refine q_next (pwp_ret (q_seq_ret ?_))
    cases h
    exact q_ret (by kernel_rfl) (by kernel_rfl) (by kernel_rfl)
  refine r_cond_f hb (by kernel_rfl) ?_
  refine pwp_skip (q_next (pwp_seq (r_reg ?_)))
  refine p_run 1 (by kernel_rfl) ?_
  obtain ⟨x1, h1, h⟩ := o_bind h
  refine p_gix h1 2 4 1 (by kernel_rfl) (by kernel_rfl) ?_
  refine p_gload (tab := tab_rail_sides) h1 false 1 (by kernel_rfl) (by kernel_rfl) (by kernel_rfl) ?_
  refine e_end (by kernel_rfl) ?_
  refine q_next (pwp_ret ?_)
  cases h
  exact q_ret (by kernel_rfl) (by kernel_rfl) (by kernel_rfl)

/-! layout.exists -/
noncomputable def d_layout_exists (a0 : T_api_Layout) (a1 : T_api_End) : Option Bool :=
  (d_layout_within a1.El 0 (w64 (((a0.Elements.length : Nat) : Int) - 1))).bind fun r1 =>
  ((bif r1 then (
    (ixO a0.Elements a1.El).bind fun x3 =>
    (d_rail_Sides x3.Kind).bind fun r4 =>
    (d_layout_within a1.Side 0 (w64 (r4 - 1))).bind fun r5 =>
    some r5
  ) else some false) : Option Bool).bind fun b2 =>
  some b2
theorem d_layout_exists_ok (a0 : T_api_Layout) (a1 : T_api_End) (r : Bool) (h : d_layout_exists a0 a1 = some r) : PCall Go.Proofs.Tryd.prog GlS 58 [Enc.pv a0, Enc.pv a1] (Enc.pv r) := by
  unfold d_layout_exists at h
  refine pcall_of_pwp Go.Proofs.Tryd.func58 (by rfl) rfl Go.Proofs.Tryd.ntmps58 (by rfl) rfl ?_
  refine pwp_seq (r_reg ?_)
  refine e_end (by kernel_rfl) ?_
  refine q_next (pwp_seq ?_)
  refine r_regd (by kernel_rfl) (by kernel_rfl) ?_
  refine p_run 4 (by kernel_rfl) ?_
  refine p_len (L := (a0.Elements : (List T_api_Element))) (by kernel_rfl) ?_
  refine p_run 1 (by kernel_rfl) ?_
  obtain ⟨r1, h1, h⟩ := o_bind h
  refine p_call (d_layout_within_ok _ _ _ r1 h1) (by kernel_rfl) (by kernel_rfl) ?_
  obtain ⟨b2, h2, h⟩ := o_bind h
  refine p_run 1 (by kernel_rfl) ?_
  refine e_seg 13 25 (.bool b2) ?_ ?_
  · rcases o_cond h2 with ⟨hb, h2⟩ | ⟨hb, h2⟩
    · refine p_settle 12 hb (by kernel_rfl) (by kernel_rfl) ?_
      refine p_run 6 (by kernel_rfl) ?_
      obtain ⟨x3, h3, h2⟩ := o_bind h2
      refine p_ix h3 (by kernel_rfl) ?_
      refine p_run 2 (by kernel_rfl) ?_
      obtain ⟨r4, h4, h2⟩ := o_bind h2
      refine p_call (d_rail_Sides_ok _ r4 h4) (by kernel_rfl) (by kernel_rfl) ?_
      refine p_run 1 (by kernel_rfl) ?_
      obtain ⟨r5, h5, h2⟩ := o_bind h2
      refine p_call (d_layout_within_ok _ _ _ r5 h5) (by kernel_rfl) (by kernel_rfl) ?_
      cases h2
      exact f_end (by kernel_rfl) (by kernel_rfl)
    refine p_settle 12 hb (by kernel_rfl) (by kernel_rfl) ?_
    cases h2
    exact f_end (by kernel_rfl) (by kernel_rfl)
  refine e_end (by kernel_rfl) ?_
  refine q_next (pwp_ret ?_)
  cases h
  exact q_ret (by kernel_rfl) (by kernel_rfl) (by kernel_rfl)

/-! layout.joinEnds -/
noncomputable def d_layout_joinEnds_0 (a0 : T_api_Layout) : Int → Option (Int ⊕ (Unit ⊕ ((List (T_api_End × T_api_End)) × Int))) := fun x5 =>
  bif decide (x5 < ((a0.Joints.length : Nat) : Int)) then (
    (ixO a0.Joints x5).bind fun x10 =>
    (d_layout_exists a0 x10.A).bind fun r11 =>
    ((bif (!r11) then some true else (
      (d_layout_exists a0 x10.B).bind fun r13 =>
      some (!r13)
    )) : Option Bool).bind fun b12 =>
    bif (b12 || (eq_T_api_End x10.A x10.B)) then (
      some (.inr (.inr (([] : (List (T_api_End × T_api_End))), 1)))
    ) else (
      some (.inl (w64 (x5 + 1)))
    )
  ) else (
    some (.inr (.inl ()))
  )

noncomputable def d_layout_joinEnds_1 (a0 : T_api_Layout) : (Int × (List (T_api_End × T_api_End))) → Option ((Int × (List (T_api_End × T_api_End))) ⊕ ((List (T_api_End × T_api_End)) ⊕ ((List (T_api_End × T_api_End)) × Int))) := fun (x15, x16) =>
  bif decide (x15 < ((a0.Joints.length : Nat) : Int)) then (
    (ixO a0.Joints x15).bind fun x19 =>
    bif (((mget (x16 : (List (T_api_End × T_api_End))) x19.A).isSome) || ((mget (x16 : (List (T_api_End × T_api_End))) x19.B).isSome)) then (
      some (.inr (.inr (([] : (List (T_api_End × T_api_End))), 8)))
    ) else (
      some (.inl (w64 (x15 + 1), (mset x19.B x19.A (mset x19.A x19.B x16))))
    )
  ) else (
    some (.inr (.inl x16))
  )

noncomputable def d_layout_joinEnds (a0 : T_api_Layout) : Option ((List (T_api_End × T_api_End)) × Int) :=
  onInl (α := Unit) (β := ((List (T_api_End × T_api_End)) × Int)) (loopO (d_layout_joinEnds_0 a0) 0) fun _ =>
  onInl (α := (List (T_api_End × T_api_End))) (β := ((List (T_api_End × T_api_End)) × Int)) (loopO (d_layout_joinEnds_1 a0) (0, ([] : (List (T_api_End × T_api_End))))) fun x18 =>
  some (x18, 0)
theorem d_layout_joinEnds_ok (a0 : T_api_Layout) (r : ((List (T_api_End × T_api_End)) × Int)) (h : d_layout_joinEnds a0 = some r) : PCall Go.Proofs.Tryd.prog GlS 42 [Enc.pv a0] (.tup [fmOf (r.1 : (List (T_api_End × T_api_End))), Enc.pv r.2]) := by
  unfold d_layout_joinEnds at h
  refine pcall_of_pwp Go.Proofs.Tryd.func42 (by rfl) rfl Go.Proofs.Tryd.ntmps42 (by rfl) rfl ?_
  refine pwp_seq (r_reg ?_)
  refine e_end (by kernel_rfl) ?_
  refine q_next (pwp_seq (pwp_seq (r_reg ?_)))
  refine p_run 2 (by kernel_rfl) ?_
  refine p_len (L := (a0.Joints : (List T_api_Joint))) (by kernel_rfl) ?_
  refine e_end (by kernel_rfl) ?_
  refine q_next (pwp_block ?_)
  obtain ⟨o12, h12, h⟩ := o_inl h
  refine r_loop2 78 0 (fun x5 => ⟨[(1, .ref 1 0), (14, lstOf .frozen (a0.Joints : (List T_api_Joint))), (15, .int .i64 ((a0.Joints.length : Nat) : Int)), (16, .int .i64 x5)], [(1, .cells (cellsOf a0))], [], []⟩) (fun (_ : Unit) => ⟨[(1, .ref 1 0)], [(1, .cells (cellsOf a0))], [], []⟩) h12 (by kernel_rfl) (fun _ => by kernel_rfl) ?_ ?_
  · rintro x5 oh11 h11
    unfold d_layout_joinEnds_0 at h11
    refine pwp_seq (r_reg ?_)
    refine e_end (by kernel_rfl) ?_
    refine q_next (pwp_seq ?_)
    rcases o_cond h11 with ⟨hb, h11⟩ | ⟨hb, h11⟩
    · refine r_cond_t hb (by kernel_rfl) ?_
      refine pwp_skip (q_next (pwp_seq (pwp_block (pwp_seq (r_reg ?_)))))
      obtain ⟨x10, h13, h11⟩ := o_bind h11
      refine p_ix h13 (by kernel_rfl) ?_
      refine e_end (by kernel_rfl) ?_
      refine q_next (pwp_seq (r_reg ?_))
      refine p_run 3 (by kernel_rfl) ?_
      obtain ⟨r11, h14, h11⟩ := o_bind h11
      refine p_call (d_layout_exists_ok _ _ r11 h14) (by kernel_rfl) (by kernel_rfl) ?_
      obtain ⟨b12, h15, h11⟩ := o_bind h11
      refine p_run 2 (by kernel_rfl) ?_
      refine e_seg 6 31 (.bool b12) ?_ ?_
      · rcases o_cond h15 with ⟨hb, h15⟩ | ⟨hb, h15⟩
        · refine p_settle 25 hb (by kernel_rfl) (by kernel_rfl) ?_
          cases h15
          exact f_end (by kernel_rfl) (by kernel_rfl)
        refine p_settle 25 hb (by kernel_rfl) (by kernel_rfl) ?_
        refine p_run 3 (by kernel_rfl) ?_
        obtain ⟨r13, h16, h15⟩ := o_bind h15
        refine p_call (d_layout_exists_ok _ _ r13 h16) (by kernel_rfl) (by kernel_rfl) ?_
        cases h15
        exact f_end (by kernel_rfl) (by kernel_rfl)
      refine p_run 1 (by kernel_rfl) ?_
      refine e_segb 6 38 (b12 || (eq_T_api_End x10.A x10.B)) (fun x hx => ?_) ?_
      · rcases b_or hx with ⟨hb, hx⟩ | ⟨hb, hx⟩
        · refine p_settle 32 hb (by kernel_rfl) (by kernel_rfl) ?_
          subst hx
          exact f_end (by kernel_rfl) (by kernel_rfl)
        refine p_settle 32 hb (by kernel_rfl) (by kernel_rfl) ?_
        subst hx
        exact f_end (by kernel_rfl) (by kernel_rfl)
      refine e_nil (by kernel_rfl) ?_
      refine q_next ?_
      rcases o_cond h11 with ⟨hb, h11⟩ | ⟨hb, h11⟩
      · refine r_cond_t hb (by kernel_rfl) ?_
        refine pwp_seq (r_reg ?_)
        refine e_end (by kernel_rfl) ?_
        refine q_next (pwp_ret (q_block_ret (q_seq_ret ?_)))
        cases h11
        refine q_lout_ret fun he => ?_
        subst he
        have h17 := o_outr h
        refine q_block_ret (q_seq_ret ?_)
        cases h17
        exact q_ret (by kernel_rfl) (by kernel_rfl) (by kernel_rfl)
      refine r_cond_f hb (by kernel_rfl) ?_
      refine pwp_skip (q_block (q_next (r_reg ?_)))
      refine e_end (by kernel_rfl) ?_
      cases h11
      exact q_lback (by kernel_rfl)
    refine r_cond_f hb (by kernel_rfl) ?_
    refine pwp_exit (q_seq_exit ?_)
    cases h11
    exact q_lexit (by kernel_rfl) (by kernel_rfl)
  rintro _ s' rfl hs
  have h := o_outl h
  refine q_block_hit ?_
  refine q_next (pwp_wkr hs ?_)
  refine pwp_seq (r_reg ?_)
  refine e_end (by kernel_rfl) ?_
  refine q_next (pwp_seq (pwp_seq (r_reg ?_)))
  refine p_run 2 (by kernel_rfl) ?_
  refine p_len (L := (a0.Joints : (List T_api_Joint))) (by kernel_rfl) ?_
  refine e_end (by kernel_rfl) ?_
  refine q_next (pwp_block ?_)
  obtain ⟨o23, h23, h⟩ := o_inl h
  refine r_loop2 78 2 (fun (x15, x16) => ⟨[(6, .mp 40), (42, lstOf .frozen (a0.Joints : (List T_api_Joint))), (43, .int .i64 ((a0.Joints.length : Nat) : Int)), (44, .int .i64 x15)], [(40, .map (mpOf (x16 : (List (T_api_End × T_api_End)))))], [], []⟩) (fun x18 => ⟨[(6, .mp 40)], [(40, .map (mpOf (x18 : (List (T_api_End × T_api_End)))))], [], []⟩) h23 (by kernel_rfl) (fun _ => by kernel_rfl) ?_ ?_
  · rintro ⟨x15, x16⟩ oh22 h22
    unfold d_layout_joinEnds_1 at h22
    refine pwp_seq (r_reg ?_)
    refine e_end (by kernel_rfl) ?_
    refine q_next (pwp_seq ?_)
    rcases o_cond h22 with ⟨hb, h22⟩ | ⟨hb, h22⟩
    · refine r_cond_t hb (by kernel_rfl) ?_
      refine pwp_skip (q_next (pwp_seq (pwp_block (pwp_seq (r_reg ?_)))))
      obtain ⟨x19, h24, h22⟩ := o_bind h22
      refine p_ix h24 (by kernel_rfl) ?_
      refine e_end (by kernel_rfl) ?_
      refine q_next (pwp_seq (r_reg ?_))
      refine p_run 3 (by kernel_rfl) ?_
      refine p_lookup2 (m := (x16 : (List (T_api_End × T_api_End)))) (k := x19.A) (T_api_End.mk 0 0) 40 (by kernel_rfl) (by kernel_rfl) ?_
      refine e_end (by kernel_rfl) ?_
      refine q_next (pwp_seq (r_reg ?_))
      refine p_run 3 (by kernel_rfl) ?_
      refine p_lookup2 (m := (x16 : (List (T_api_End × T_api_End)))) (k := x19.B) (T_api_End.mk 0 0) 40 (by kernel_rfl) (by kernel_rfl) ?_
      refine e_end (by kernel_rfl) ?_
      refine q_next (pwp_seq (pwp_seq (r_reg ?_)))
      refine p_run 2 (by kernel_rfl) ?_
      refine e_segb 2 65 (((mget (x16 : (List (T_api_End × T_api_End))) x19.A).isSome) || ((mget (x16 : (List (T_api_End × T_api_End))) x19.B).isSome)) (fun x hx => ?_) ?_
      · rcases b_or hx with ⟨hb, hx⟩ | ⟨hb, hx⟩
        · refine p_settle 63 hb (by kernel_rfl) (by kernel_rfl) ?_
          subst hx
          exact f_end (by kernel_rfl) (by kernel_rfl)
        refine p_settle 63 hb (by kernel_rfl) (by kernel_rfl) ?_
        subst hx
        exact f_end (by kernel_rfl) (by kernel_rfl)
      refine e_nil (by kernel_rfl) ?_
      refine q_next ?_
      rcases o_cond h22 with ⟨hb, h22⟩ | ⟨hb, h22⟩
      · refine r_cond_t hb (by kernel_rfl) ?_
        refine pwp_seq (r_reg ?_)
        refine e_end (by kernel_rfl) ?_
        refine q_next (pwp_ret (q_seq_ret (q_block_ret (q_seq_ret ?_))))
        cases h22
        refine q_lout_ret fun he => ?_
        subst he
        have h25 := o_outr h
        refine q_block_ret (q_seq_ret ?_)
        cases h25
        exact q_ret (by kernel_rfl) (by kernel_rfl) (by kernel_rfl)
      refine r_cond_f hb (by kernel_rfl) ?_
      refine pwp_skip (q_next ?_)
      refine r_regd (by kernel_rfl) (by kernel_rfl) ?_
      refine p_run 10 (by kernel_rfl) ?_
      refine p_mset (m := (x16 : (List (T_api_End × T_api_End)))) (k := x19.A) (v := x19.B) 40 (by kernel_rfl) (by kernel_rfl) (by kernel_rfl) ?_
      refine p_mset (m := ((mset x19.A x19.B x16) : (List (T_api_End × T_api_End)))) (k := x19.B) (v := x19.A) 40 (by kernel_rfl) (by kernel_rfl) (by kernel_rfl) ?_
      refine e_nil (by kernel_rfl) ?_
      refine q_block (q_next (r_reg ?_))
      refine e_end (by kernel_rfl) ?_
      cases h22
      exact q_lback (by kernel_rfl)
    refine r_cond_f hb (by kernel_rfl) ?_
    refine pwp_exit (q_seq_exit ?_)
    cases h22
    exact q_lexit (by kernel_rfl) (by kernel_rfl)
  rintro x18 s' rfl hs
  have h := o_outl h
  refine q_block_hit ?_
  refine q_next (pwp_wkr hs ?_)
  refine pwp_seq (r_reg ?_)
  refine e_end (by kernel_rfl) ?_
  refine q_next ?_
  refine g_shm 40 [] (x18 : (List (T_api_End × T_api_End))) (by kernel_rfl) (by kernel_rfl) (by kernel_rfl) ?_
  refine pwp_ret ?_
  cases h
  exact q_ret (by kernel_rfl) (by kernel_rfl) (by kernel_rfl)

/-! layout.checkSignals -/
noncomputable def d_layout_checkSignals_0 (a0 : T_api_Layout) : Int → Option (Int ⊕ (Unit ⊕ Int)) := fun x5 =>
  bif decide (x5 < ((a0.Signals.length : Nat) : Int)) then (
    (ixO a0.Signals x5).bind fun x10 =>
    (d_layout_exists a0 x10.At).bind fun r11 =>
    ((bif (!r11) then some true else (
      (d_layout_within x10.Overlap 0 1000000).bind fun r13 =>
      some (!r13)
    )) : Option Bool).bind fun b12 =>
    bif b12 then (
      some (.inr (.inr 1))
    ) else (
      some (.inl (w64 (x5 + 1)))
    )
  ) else (
    some (.inr (.inl ()))
  )

noncomputable def d_layout_checkSignals_1 (a0 : T_api_Layout) : Int → Option (Int ⊕ (Unit ⊕ Int)) := fun x16 =>
  bif decide (x16 < ((a0.Signals.length : Nat) : Int)) then (
    (ixO a0.Signals x16).bind fun x19 =>
    (d_layout_Signal a0 x19.At).bind fun r20 =>
    bif (!(decide (r20 = x16))) then (
      some (.inr (.inr 8))
    ) else (
      some (.inl (w64 (x16 + 1)))
    )
  ) else (
    some (.inr (.inl ()))
  )

noncomputable def d_layout_checkSignals_2 (a0 : T_api_Layout) (a1 : (List (T_api_End × T_api_End))) : Int → Option (Int ⊕ (Unit ⊕ Int)) := fun x25 =>
  bif decide (x25 < ((a0.Signals.length : Nat) : Int)) then (
    (ixO a0.Signals x25).bind fun x30 =>
    ((bif (!((mget (a1 : (List (T_api_End × T_api_End))) x30.At).isSome)) then some true else (
      (d_layout_Section a0 (((mget (a1 : (List (T_api_End × T_api_End))) x30.At).getD (T_api_End.mk 0 0)).El)).bind fun r32 =>
      (d_layout_Section a0 x30.At.El).bind fun r33 =>
      some (decide (r32 = r33))
    )) : Option Bool).bind fun b31 =>
    bif b31 then (
      some (.inr (.inr 14))
    ) else (
      some (.inl (w64 (x25 + 1)))
    )
  ) else (
    some (.inr (.inl ()))
  )

noncomputable def d_layout_checkSignals (a0 : T_api_Layout) (a1 : (List (T_api_End × T_api_End))) : Option Int :=
  onInl (α := Unit) (β := Int) (loopO (d_layout_checkSignals_0 a0) 0) fun _ =>
  onInl (α := Unit) (β := Int) (loopO (d_layout_checkSignals_1 a0) 0) fun _ =>
  onInl (α := Unit) (β := Int) (loopO (d_layout_checkSignals_2 a0 a1) 0) fun _ =>
  some 0
theorem d_layout_checkSignals_ok (a0 : T_api_Layout) (a1 : (List (T_api_End × T_api_End))) (r : Int) (h : d_layout_checkSignals a0 a1 = some r) : PCall Go.Proofs.Tryd.prog GlS 43 [Enc.pv a0, fmOf (a1 : (List (T_api_End × T_api_End)))] (Enc.pv r) := by
  unfold d_layout_checkSignals at h
  refine pcall_of_pwp Go.Proofs.Tryd.func43 (by rfl) rfl Go.Proofs.Tryd.ntmps43 (by rfl) rfl ?_
  refine pwp_seq (r_reg ?_)
  refine e_end (by kernel_rfl) ?_
  refine q_next (pwp_seq (pwp_seq (r_reg ?_)))
  refine p_run 2 (by kernel_rfl) ?_
  refine p_len (L := (a0.Signals : (List T_api_Signal))) (by kernel_rfl) ?_
  refine e_end (by kernel_rfl) ?_
  refine q_next (pwp_block ?_)
  obtain ⟨o12, h12, h⟩ := o_inl h
  refine r_loop2 76 0 (fun x5 => ⟨[(1, fmOf (a1 : (List (T_api_End × T_api_End)))), (2, .ref 2 0), (14, lstOf .frozen (a0.Signals : (List T_api_Signal))), (15, .int .i64 ((a0.Signals.length : Nat) : Int)), (16, .int .i64 x5)], [(2, .cells (cellsOf a0))], [], []⟩) (fun (_ : Unit) => ⟨[(1, fmOf (a1 : (List (T_api_End × T_api_End)))), (2, .ref 2 0)], [(2, .cells (cellsOf a0))], [], []⟩) h12 (by kernel_rfl) (fun _ => by kernel_rfl) ?_ ?_
  · rintro x5 oh11 h11
    unfold d_layout_checkSignals_0 at h11
    refine pwp_seq (r_reg ?_)
    refine e_end (by kernel_rfl) ?_
    refine q_next (pwp_seq ?_)
    rcases o_cond h11 with ⟨hb, h11⟩ | ⟨hb, h11⟩
    · refine r_cond_t hb (by kernel_rfl) ?_
      refine pwp_skip (q_next (pwp_seq (pwp_block (pwp_seq (r_reg ?_)))))
      obtain ⟨x10, h13, h11⟩ := o_bind h11
      refine p_ix h13 (by kernel_rfl) ?_
      refine e_end (by kernel_rfl) ?_
      refine q_next (pwp_seq (r_reg ?_))
      refine p_run 3 (by kernel_rfl) ?_
      obtain ⟨r11, h14, h11⟩ := o_bind h11
      refine p_call (d_layout_exists_ok _ _ r11 h14) (by kernel_rfl) (by kernel_rfl) ?_
      obtain ⟨b12, h15, h11⟩ := o_bind h11
      refine p_run 2 (by kernel_rfl) ?_
      refine e_seg 5 30 (.bool b12) ?_ ?_
      · rcases o_cond h15 with ⟨hb, h15⟩ | ⟨hb, h15⟩
        · refine p_settle 25 hb (by kernel_rfl) (by kernel_rfl) ?_
          cases h15
          exact f_end (by kernel_rfl) (by kernel_rfl)
        refine p_settle 25 hb (by kernel_rfl) (by kernel_rfl) ?_
        refine p_run 2 (by kernel_rfl) ?_
        obtain ⟨r13, h16, h15⟩ := o_bind h15
        refine p_call (d_layout_within_ok _ _ _ r13 h16) (by kernel_rfl) (by kernel_rfl) ?_
        cases h15
        exact f_end (by kernel_rfl) (by kernel_rfl)
      refine e_nil (by kernel_rfl) ?_
      refine q_next ?_
      rcases o_cond h11 with ⟨hb, h11⟩ | ⟨hb, h11⟩
      · refine r_cond_t hb (by kernel_rfl) ?_
        refine pwp_seq (r_reg ?_)
        refine e_end (by kernel_rfl) ?_
        refine q_next (pwp_ret (q_block_ret (q_seq_ret ?_)))
        cases h11
        refine q_lout_ret fun he => ?_
        subst he
        have h17 := o_outr h
        refine q_block_ret (q_seq_ret ?_)
        cases h17
        exact q_ret (by kernel_rfl) (by kernel_rfl) (by kernel_rfl)
      refine r_cond_f hb (by kernel_rfl) ?_
      refine pwp_skip (q_block (q_next (r_reg ?_)))
      refine e_end (by kernel_rfl) ?_
      cases h11
      exact q_lback (by kernel_rfl)
    refine r_cond_f hb (by kernel_rfl) ?_
    refine pwp_exit (q_seq_exit ?_)
    cases h11
    exact q_lexit (by kernel_rfl) (by kernel_rfl)
  rintro _ s' rfl hs
  have h := o_outl h
  refine q_block_hit ?_
  refine q_next (pwp_wkr hs ?_)
  refine pwp_seq (pwp_seq (r_reg ?_))
  refine p_run 2 (by kernel_rfl) ?_
  refine p_len (L := (a0.Signals : (List T_api_Signal))) (by kernel_rfl) ?_
  refine e_end (by kernel_rfl) ?_
  refine q_next (pwp_block ?_)
  obtain ⟨o25, h25, h⟩ := o_inl h
  refine r_loop2 76 2 (fun x16 => ⟨[(1, fmOf (a1 : (List (T_api_End × T_api_End)))), (2, .ref 2 0), (33, lstOf .frozen (a0.Signals : (List T_api_Signal))), (34, .int .i64 ((a0.Signals.length : Nat) : Int)), (35, .int .i64 x16)], [(2, .cells (cellsOf a0))], [], []⟩) (fun (_ : Unit) => ⟨[(1, fmOf (a1 : (List (T_api_End × T_api_End)))), (2, .ref 2 0)], [(2, .cells (cellsOf a0))], [], []⟩) h25 (by kernel_rfl) (fun _ => by kernel_rfl) ?_ ?_
  · rintro x16 oh24 h24
    unfold d_layout_checkSignals_1 at h24
    refine pwp_seq (r_reg ?_)
    refine e_end (by kernel_rfl) ?_
    refine q_next (pwp_seq ?_)
    rcases o_cond h24 with ⟨hb, h24⟩ | ⟨hb, h24⟩
    · refine r_cond_t hb (by kernel_rfl) ?_
      refine pwp_skip (q_next (pwp_seq (pwp_block (pwp_seq (r_reg ?_)))))
      refine p_run 1 (by kernel_rfl) ?_
      obtain ⟨x19, h26, h24⟩ := o_bind h24
      refine p_ix h26 (by kernel_rfl) ?_
      refine e_end (by kernel_rfl) ?_
      refine q_next (pwp_seq (r_reg ?_))
      refine p_run 3 (by kernel_rfl) ?_
      obtain ⟨r20, h27, h24⟩ := o_bind h24
      refine p_call (d_layout_Signal_ok _ _ r20 h27) (by kernel_rfl) (by kernel_rfl) ?_
      refine e_end (by kernel_rfl) ?_
      refine q_next ?_
      rcases o_cond h24 with ⟨hb, h24⟩ | ⟨hb, h24⟩
      · refine r_cond_t hb (by kernel_rfl) ?_
        refine pwp_seq (r_reg ?_)
        refine e_end (by kernel_rfl) ?_
        refine q_next (pwp_ret (q_block_ret (q_seq_ret ?_)))
        cases h24
        refine q_lout_ret fun he => ?_
        subst he
        have h28 := o_outr h
        refine q_block_ret (q_seq_ret ?_)
        cases h28
        exact q_ret (by kernel_rfl) (by kernel_rfl) (by kernel_rfl)
      refine r_cond_f hb (by kernel_rfl) ?_
      refine pwp_skip (q_block (q_next (r_reg ?_)))
      refine e_end (by kernel_rfl) ?_
      cases h24
      exact q_lback (by kernel_rfl)
    refine r_cond_f hb (by kernel_rfl) ?_
    refine pwp_exit (q_seq_exit ?_)
    cases h24
    exact q_lexit (by kernel_rfl) (by kernel_rfl)
  rintro _ s' rfl hs
  have h := o_outl h
  refine q_block_hit ?_
  refine q_next (pwp_wkr hs ?_)
  refine pwp_seq (pwp_seq (r_reg ?_))
  refine p_run 2 (by kernel_rfl) ?_
  refine p_len (L := (a0.Signals : (List T_api_Signal))) (by kernel_rfl) ?_
  refine e_end (by kernel_rfl) ?_
  refine q_next (pwp_block ?_)
  obtain ⟨o40, h40, h⟩ := o_inl h
  refine r_loop2 76 4 (fun x25 => ⟨[(1, fmOf (a1 : (List (T_api_End × T_api_End)))), (2, .ref 2 0), (48, lstOf .frozen (a0.Signals : (List T_api_Signal))), (49, .int .i64 ((a0.Signals.length : Nat) : Int)), (50, .int .i64 x25)], [(2, .cells (cellsOf a0))], [], []⟩) (fun (_ : Unit) => ⟨[], [], [], []⟩) h40 (by kernel_rfl) (fun _ => by kernel_rfl) ?_ ?_
  · rintro x25 oh39 h39
    unfold d_layout_checkSignals_2 at h39
    refine pwp_seq (r_reg ?_)
    refine e_end (by kernel_rfl) ?_
    refine q_next (pwp_seq ?_)
    rcases o_cond h39 with ⟨hb, h39⟩ | ⟨hb, h39⟩
    · refine r_cond_t hb (by kernel_rfl) ?_
      refine pwp_skip (q_next (pwp_seq (pwp_block (pwp_seq (r_reg ?_)))))
      obtain ⟨x30, h41, h39⟩ := o_bind h39
      refine p_ix h41 (by kernel_rfl) ?_
      refine e_end (by kernel_rfl) ?_
      refine q_next (pwp_seq (r_reg ?_))
      refine p_run 3 (by kernel_rfl) ?_
      refine p_lookupF (m := (a1 : (List (T_api_End × T_api_End)))) (k := x30.At) (T_api_End.mk 0 0) true (by kernel_rfl) ?_
      refine e_end (by kernel_rfl) ?_
      refine q_next (pwp_seq ?_)
      refine r_regd (by kernel_rfl) (by kernel_rfl) ?_
      obtain ⟨b31, h42, h39⟩ := o_bind h39
      refine p_run 3 (by kernel_rfl) ?_
      refine e_seg 11 74 (.bool b31) ?_ ?_
      · rcases o_cond h42 with ⟨hb, h42⟩ | ⟨hb, h42⟩
        · refine p_settle 63 hb (by kernel_rfl) (by kernel_rfl) ?_
          cases h42
          exact f_end (by kernel_rfl) (by kernel_rfl)
        refine p_settle 63 hb (by kernel_rfl) (by kernel_rfl) ?_
        refine p_run 3 (by kernel_rfl) ?_
        obtain ⟨r32, h43, h42⟩ := o_bind h42
        refine p_call (d_layout_Section_ok _ _ r32 h43) (by kernel_rfl) (by kernel_rfl) ?_
        refine p_run 4 (by kernel_rfl) ?_
        obtain ⟨r33, h44, h42⟩ := o_bind h42
        refine p_call (d_layout_Section_ok _ _ r33 h44) (by kernel_rfl) (by kernel_rfl) ?_
        cases h42
        exact f_end (by kernel_rfl) (by kernel_rfl)
      refine e_nil (by kernel_rfl) ?_
      refine q_next ?_
      rcases o_cond h39 with ⟨hb, h39⟩ | ⟨hb, h39⟩
      · refine r_cond_t hb (by kernel_rfl) ?_
        refine pwp_seq (r_reg ?_)
        refine e_end (by kernel_rfl) ?_
        refine q_next (pwp_ret (q_block_ret (q_seq_ret ?_)))
        cases h39
        refine q_lout_ret fun he => ?_
        subst he
        have h45 := o_outr h
        refine q_block_ret (q_seq_ret ?_)
        cases h45
        exact q_ret (by kernel_rfl) (by kernel_rfl) (by kernel_rfl)
      refine r_cond_f hb (by kernel_rfl) ?_
      refine pwp_skip (q_block (q_next (r_reg ?_)))
      refine e_end (by kernel_rfl) ?_
      cases h39
      exact q_lback (by kernel_rfl)
    refine r_cond_f hb (by kernel_rfl) ?_
    refine pwp_exit (q_seq_exit ?_)
    cases h39
    exact q_lexit (by kernel_rfl) (by kernel_rfl)
  rintro _ s' rfl hs
  have h := o_outl h
  refine q_block_hit ?_
  refine q_next (pwp_wkr hs ?_)
  refine pwp_seq (r_reg ?_)
  refine e_end (by kernel_rfl) ?_
  refine q_next (pwp_ret ?_)
  cases h
  exact q_ret (by kernel_rfl) (by kernel_rfl) (by kernel_rfl)

/-! layout.checkBalises -/
noncomputable def d_layout_checkBalises_0 (a0 : T_api_Layout) : Int → Option (Int ⊕ (Unit ⊕ Int)) := fun x8 =>
  bif decide (x8 < ((a0.Balises.length : Nat) : Int)) then (
    (ixO a0.Balises x8).bind fun x16 =>
    (d_layout_within x16.Id 1 1073741824).bind fun r17 =>
    ((bif (!r17) then some true else (
      (d_layout_within x16.El 0 (w64 (((a0.Elements.length : Nat) : Int) - 1))).bind fun r19 =>
      some (!r19)
    )) : Option Bool).bind fun b18 =>
    ((bif b18 then some true else (
      (ixO a0.Elements x16.El).bind fun x21 =>
      (d_layout_within x16.Offset 0 x21.Length).bind fun r22 =>
      some (!r22)
    )) : Option Bool).bind fun b20 =>
    bif b20 then (
      some (.inr (.inr 1))
    ) else (
      some (.inl (w64 (x8 + 1)))
    )
  ) else (
    some (.inr (.inl ()))
  )

noncomputable def d_layout_checkBalises_1 (a0 : T_api_Layout) : (Int × (List (Int × Bool))) → Option ((Int × (List (Int × Bool))) ⊕ (Unit ⊕ Int)) := fun (x24, x25) =>
  bif decide (x24 < ((a0.Balises.length : Nat) : Int)) then (
    (ixO a0.Balises x24).bind fun x27 =>
    bif ((mget (x25 : (List (Int × Bool))) x27.Id).getD false) then (
      some (.inr (.inr 8))
    ) else (
      some (.inl (w64 (x24 + 1), (mset x27.Id true x25)))
    )
  ) else (
    some (.inr (.inl ()))
  )

noncomputable def d_layout_checkBalises (a0 : T_api_Layout) : Option Int :=
  onInl (α := Unit) (β := Int) (loopO (d_layout_checkBalises_0 a0) 0) fun _ =>
  onInl (α := Unit) (β := Int) (loopO (d_layout_checkBalises_1 a0) (0, ([] : (List (Int × Bool))))) fun _ =>
  some 0
theorem d_layout_checkBalises_ok (a0 : T_api_Layout) (r : Int) (h : d_layout_checkBalises a0 = some r) : PCall Go.Proofs.Tryd.prog GlS 44 [Enc.pv a0] (Enc.pv r) := by
  unfold d_layout_checkBalises at h
  refine pcall_of_pwp Go.Proofs.Tryd.func44 (by rfl) rfl Go.Proofs.Tryd.ntmps44 (by rfl) rfl ?_
  refine pwp_seq (r_reg ?_)
  refine e_end (by kernel_rfl) ?_
  refine q_next (pwp_seq (pwp_seq (r_reg ?_)))
  refine p_run 2 (by kernel_rfl) ?_
  refine p_len (L := (a0.Balises : (List T_api_Balise))) (by kernel_rfl) ?_
  refine e_end (by kernel_rfl) ?_
  refine q_next (pwp_block ?_)
  obtain ⟨o18, h18, h⟩ := o_inl h
  refine r_loop2 59 0 (fun x8 => ⟨[(1, .ref 1 0), (9, lstOf .frozen (a0.Balises : (List T_api_Balise))), (10, .int .i64 ((a0.Balises.length : Nat) : Int)), (11, .int .i64 x8)], [(1, .cells (cellsOf a0))], [], []⟩) (fun (_ : Unit) => ⟨[(1, .ref 1 0)], [(1, .cells (cellsOf a0))], [], []⟩) h18 (by kernel_rfl) (fun _ => by kernel_rfl) ?_ ?_
  · rintro x8 oh17 h17
    unfold d_layout_checkBalises_0 at h17
    refine pwp_seq (r_reg ?_)
    refine e_end (by kernel_rfl) ?_
    refine q_next (pwp_seq ?_)
    rcases o_cond h17 with ⟨hb, h17⟩ | ⟨hb, h17⟩
    · refine r_cond_t hb (by kernel_rfl) ?_
      refine pwp_skip (q_next (pwp_seq (pwp_block (pwp_seq (r_reg ?_)))))
      obtain ⟨x16, h19, h17⟩ := o_bind h17
      refine p_ix h19 (by kernel_rfl) ?_
      refine e_end (by kernel_rfl) ?_
      refine q_next (pwp_seq ?_)
      refine r_regd (by kernel_rfl) (by kernel_rfl) ?_
      refine p_run 2 (by kernel_rfl) ?_
      obtain ⟨r17, h20, h17⟩ := o_bind h17
      refine p_call (d_layout_within_ok _ _ _ r17 h20) (by kernel_rfl) (by kernel_rfl) ?_
      obtain ⟨b18, h21, h17⟩ := o_bind h17
      refine p_run 2 (by kernel_rfl) ?_
      refine e_seg 9 28 (.bool b18) ?_ ?_
      · rcases o_cond h21 with ⟨hb, h21⟩ | ⟨hb, h21⟩
        · refine p_settle 19 hb (by kernel_rfl) (by kernel_rfl) ?_
          cases h21
          exact f_end (by kernel_rfl) (by kernel_rfl)
        refine p_settle 19 hb (by kernel_rfl) (by kernel_rfl) ?_
        refine p_run 4 (by kernel_rfl) ?_
        refine p_len (L := (a0.Elements : (List T_api_Element))) (by kernel_rfl) ?_
        refine p_run 1 (by kernel_rfl) ?_
        obtain ⟨r19, h22, h21⟩ := o_bind h21
        refine p_call (d_layout_within_ok _ _ _ r19 h22) (by kernel_rfl) (by kernel_rfl) ?_
        cases h21
        exact f_end (by kernel_rfl) (by kernel_rfl)
      obtain ⟨b20, h23, h17⟩ := o_bind h17
      refine p_run 1 (by kernel_rfl) ?_
      refine e_seg 12 41 (.bool b20) ?_ ?_
      · rcases o_cond h23 with ⟨hb, h23⟩ | ⟨hb, h23⟩
        · refine p_settle 29 hb (by kernel_rfl) (by kernel_rfl) ?_
          cases h23
          exact f_end (by kernel_rfl) (by kernel_rfl)
        refine p_settle 29 hb (by kernel_rfl) (by kernel_rfl) ?_
        refine p_run 6 (by kernel_rfl) ?_
        obtain ⟨x21, h24, h23⟩ := o_bind h23
        refine p_ix h24 (by kernel_rfl) ?_
        refine p_run 2 (by kernel_rfl) ?_
        obtain ⟨r22, h25, h23⟩ := o_bind h23
        refine p_call (d_layout_within_ok _ _ _ r22 h25) (by kernel_rfl) (by kernel_rfl) ?_
        cases h23
        exact f_end (by kernel_rfl) (by kernel_rfl)
      refine e_nil (by kernel_rfl) ?_
      refine q_next ?_
      rcases o_cond h17 with ⟨hb, h17⟩ | ⟨hb, h17⟩
      · refine r_cond_t hb (by kernel_rfl) ?_
        refine pwp_seq (r_reg ?_)
        refine e_end (by kernel_rfl) ?_
        refine q_next (pwp_ret (q_block_ret (q_seq_ret ?_)))
        cases h17
        refine q_lout_ret fun he => ?_
        subst he
        have h26 := o_outr h
        refine q_block_ret (q_seq_ret ?_)
        cases h26
        exact q_ret (by kernel_rfl) (by kernel_rfl) (by kernel_rfl)
      refine r_cond_f hb (by kernel_rfl) ?_
      refine pwp_skip (q_block (q_next (r_reg ?_)))
      refine e_end (by kernel_rfl) ?_
      cases h17
      exact q_lback (by kernel_rfl)
    refine r_cond_f hb (by kernel_rfl) ?_
    refine pwp_exit (q_seq_exit ?_)
    cases h17
    exact q_lexit (by kernel_rfl) (by kernel_rfl)
  rintro _ s' rfl hs
  have h := o_outl h
  refine q_block_hit ?_
  refine q_next (pwp_wkr hs ?_)
  refine pwp_seq (r_reg ?_)
  refine e_end (by kernel_rfl) ?_
  refine q_next (pwp_seq (pwp_seq (r_reg ?_)))
  refine p_run 2 (by kernel_rfl) ?_
  refine p_len (L := (a0.Balises : (List T_api_Balise))) (by kernel_rfl) ?_
  refine e_end (by kernel_rfl) ?_
  refine q_next (pwp_block ?_)
  obtain ⟨o32, h32, h⟩ := o_inl h
  refine r_loop2 59 2 (fun (x24, x25) => ⟨[(5, .mp 43), (45, lstOf .frozen (a0.Balises : (List T_api_Balise))), (46, .int .i64 ((a0.Balises.length : Nat) : Int)), (47, .int .i64 x24)], [(43, .map (mpOf (x25 : (List (Int × Bool)))))], [], []⟩) (fun (_ : Unit) => ⟨[], [], [], []⟩) h32 (by kernel_rfl) (fun _ => by kernel_rfl) ?_ ?_
  · rintro ⟨x24, x25⟩ oh31 h31
    unfold d_layout_checkBalises_1 at h31
    refine pwp_seq (r_reg ?_)
    refine e_end (by kernel_rfl) ?_
    refine q_next (pwp_seq ?_)
    rcases o_cond h31 with ⟨hb, h31⟩ | ⟨hb, h31⟩
    · refine r_cond_t hb (by kernel_rfl) ?_
      refine pwp_skip (q_next (pwp_seq (pwp_block (pwp_seq (r_reg ?_)))))
      obtain ⟨x27, h33, h31⟩ := o_bind h31
      refine p_ix h33 (by kernel_rfl) ?_
      refine e_end (by kernel_rfl) ?_
      refine q_next (pwp_seq (pwp_seq (r_reg ?_)))
      refine p_run 3 (by kernel_rfl) ?_
      refine p_lookup (m := (x25 : (List (Int × Bool)))) (k := x27.Id) false 43 (by kernel_rfl) (by kernel_rfl) ?_
      refine e_nil (by kernel_rfl) ?_
      refine q_next ?_
      rcases o_cond h31 with ⟨hb, h31⟩ | ⟨hb, h31⟩
      · refine r_cond_t hb (by kernel_rfl) ?_
        refine pwp_seq (r_reg ?_)
        refine e_end (by kernel_rfl) ?_
        refine q_next (pwp_ret (q_seq_ret (q_block_ret (q_seq_ret ?_))))
        cases h31
        refine q_lout_ret fun he => ?_
        subst he
        have h34 := o_outr h
        refine q_block_ret (q_seq_ret ?_)
        cases h34
        exact q_ret (by kernel_rfl) (by kernel_rfl) (by kernel_rfl)
      refine r_cond_f hb (by kernel_rfl) ?_
      refine pwp_skip (q_next (r_reg ?_))
      refine p_run 3 (by kernel_rfl) ?_
      refine p_mset (m := (x25 : (List (Int × Bool)))) (k := x27.Id) (v := true) 43 (by kernel_rfl) (by kernel_rfl) (by kernel_rfl) ?_
      refine e_nil (by kernel_rfl) ?_
      refine q_block (q_next (r_reg ?_))
      refine e_end (by kernel_rfl) ?_
      cases h31
      exact q_lback (by kernel_rfl)
    refine r_cond_f hb (by kernel_rfl) ?_
    refine pwp_exit (q_seq_exit ?_)
    cases h31
    exact q_lexit (by kernel_rfl) (by kernel_rfl)
  rintro _ s' rfl hs
  have h := o_outl h
  refine q_block_hit ?_
  refine q_next (pwp_wkr hs ?_)
  refine pwp_seq (r_reg ?_)
  refine e_end (by kernel_rfl) ?_
  refine q_next (pwp_ret ?_)
  cases h
  exact q_ret (by kernel_rfl) (by kernel_rfl) (by kernel_rfl)

/-! layout.Check -/
noncomputable def d_layout_Check (a0 : T_api_Layout) : Option Int :=
  (d_layout_countsFit a0).bind fun r1 =>
  bif (!r1) then (
    some 2
  ) else (
    (d_layout_checkNames a0).bind fun r2 =>
    bif (!(decide (r2 = 0))) then (
      some r2
    ) else (
      (d_layout_elementsFit a0).bind fun r3 =>
      ((bif (!r3) then some true else (
        (d_layout_sectionsUsed a0).bind fun r5 =>
        some (!r5)
      )) : Option Bool).bind fun b4 =>
      bif b4 then (
        some 1
      ) else (
        (d_layout_joinEnds a0).bind fun r6 =>
        bif (!(decide (r6.2 = 0))) then (
          some r6.2
        ) else (
          (d_layout_checkSignals a0 r6.1).bind fun r7 =>
          bif (!(decide (r7 = 0))) then (
            some r7
          ) else (
            (d_layout_checkBalises a0).bind fun r8 =>
            some r8
          )
        )
      )
    )
  )
theorem d_layout_Check_ok (a0 : T_api_Layout) (r : Int) (h : d_layout_Check a0 = some r) : PCall Go.Proofs.Tryd.prog GlS 23 [Enc.pv a0] (Enc.pv r) := by
  unfold d_layout_Check at h
  refine pcall_of_pwp Go.Proofs.Tryd.func23 (by rfl) rfl Go.Proofs.Tryd.ntmps23 (by rfl) rfl ?_
  refine pwp_seq (r_reg ?_)
  refine e_end (by kernel_rfl) ?_
  refine q_next (pwp_seq (pwp_seq (r_reg ?_)))
  refine p_run 1 (by kernel_rfl) ?_
  obtain ⟨r1, h1, h⟩ := o_bind h
  refine p_call (d_layout_countsFit_ok _ r1 h1) (by kernel_rfl) (by kernel_rfl) ?_
  refine e_end (by kernel_rfl) ?_
  refine q_next ?_
  rcases o_cond h with ⟨hb, h⟩ | ⟨hb, h⟩
  · refine r_cond_t hb (by kernel_rfl) ?_
    refine pwp_seq (r_reg ?_)
    refine e_end (by kernel_rfl) ?_
    refine q_next (pwp_ret (q_seq_ret ?_))
    cases h
    exact q_ret (by kernel_rfl) (by kernel_rfl) (by kernel_rfl)
  refine r_cond_f hb (by kernel_rfl) ?_
  refine pwp_skip (q_next (pwp_seq (pwp_seq (r_reg ?_))))
  refine p_run 1 (by kernel_rfl) ?_
  obtain ⟨r2, h2, h⟩ := o_bind h
  refine p_call (d_layout_checkNames_ok _ r2 h2) (by kernel_rfl) (by kernel_rfl) ?_
  refine e_end (by kernel_rfl) ?_
  refine q_next (pwp_seq (r_reg ?_))
  refine e_end (by kernel_rfl) ?_
  refine q_next ?_
  rcases o_cond h with ⟨hb, h⟩ | ⟨hb, h⟩
  · refine r_cond_t hb (by kernel_rfl) ?_
    refine pwp_seq (r_reg ?_)
    refine e_end (by kernel_rfl) ?_
    refine q_next (pwp_ret (q_seq_ret ?_))
    cases h
    exact q_ret (by kernel_rfl) (by kernel_rfl) (by kernel_rfl)
  refine r_cond_f hb (by kernel_rfl) ?_
  refine pwp_skip (q_next (pwp_seq (pwp_seq (r_reg ?_))))
  refine p_run 1 (by kernel_rfl) ?_
  obtain ⟨r3, h3, h⟩ := o_bind h
  refine p_call (d_layout_elementsFit_ok _ r3 h3) (by kernel_rfl) (by kernel_rfl) ?_
  obtain ⟨b4, h4, h⟩ := o_bind h
  refine p_run 2 (by kernel_rfl) ?_
  refine e_seg 4 22 (.bool b4) ?_ ?_
  · rcases o_cond h4 with ⟨hb, h4⟩ | ⟨hb, h4⟩
    · refine p_settle 18 hb (by kernel_rfl) (by kernel_rfl) ?_
      cases h4
      exact f_end (by kernel_rfl) (by kernel_rfl)
    refine p_settle 18 hb (by kernel_rfl) (by kernel_rfl) ?_
    refine p_run 1 (by kernel_rfl) ?_
    obtain ⟨r5, h5, h4⟩ := o_bind h4
    refine p_call (d_layout_sectionsUsed_ok _ r5 h5) (by kernel_rfl) (by kernel_rfl) ?_
    cases h4
    exact f_end (by kernel_rfl) (by kernel_rfl)
  refine e_nil (by kernel_rfl) ?_
  refine q_next ?_
  rcases o_cond h with ⟨hb, h⟩ | ⟨hb, h⟩
  · refine r_cond_t hb (by kernel_rfl) ?_
    refine pwp_seq (r_reg ?_)
    refine e_end (by kernel_rfl) ?_
    refine q_next (pwp_ret (q_seq_ret ?_))
    cases h
    exact q_ret (by kernel_rfl) (by kernel_rfl) (by kernel_rfl)
  refine r_cond_f hb (by kernel_rfl) ?_
  refine pwp_skip (q_next (pwp_seq (r_reg ?_)))
  refine p_run 1 (by kernel_rfl) ?_
  obtain ⟨r6, h6, h⟩ := o_bind h
  refine p_call (d_layout_joinEnds_ok _ r6 h6) (by kernel_rfl) (by kernel_rfl) ?_
  refine e_end (by kernel_rfl) ?_
  refine q_next (pwp_seq (pwp_seq (r_reg ?_)))
  refine e_end (by kernel_rfl) ?_
  refine q_next ?_
  rcases o_cond h with ⟨hb, h⟩ | ⟨hb, h⟩
  · refine r_cond_t hb (by kernel_rfl) ?_
    refine pwp_seq (r_reg ?_)
    refine e_end (by kernel_rfl) ?_
    refine q_next (pwp_ret (q_seq_ret ?_))
    cases h
    exact q_ret (by kernel_rfl) (by kernel_rfl) (by kernel_rfl)
  refine r_cond_f hb (by kernel_rfl) ?_
  refine pwp_skip (q_next (pwp_seq (pwp_seq (r_reg ?_))))
  refine p_run 2 (by kernel_rfl) ?_
  obtain ⟨r7, h7, h⟩ := o_bind h
  refine p_call (d_layout_checkSignals_ok _ _ r7 h7) (by kernel_rfl) (by kernel_rfl) ?_
  refine e_end (by kernel_rfl) ?_
  refine q_next (pwp_seq (r_reg ?_))
  refine e_end (by kernel_rfl) ?_
  refine q_next ?_
  rcases o_cond h with ⟨hb, h⟩ | ⟨hb, h⟩
  · refine r_cond_t hb (by kernel_rfl) ?_
    refine pwp_seq (r_reg ?_)
    refine e_end (by kernel_rfl) ?_
    refine q_next (pwp_ret (q_seq_ret ?_))
    cases h
    exact q_ret (by kernel_rfl) (by kernel_rfl) (by kernel_rfl)
  refine r_cond_f hb (by kernel_rfl) ?_
  refine pwp_skip (q_next (pwp_seq (r_reg ?_)))
  refine p_run 1 (by kernel_rfl) ?_
  obtain ⟨r8, h8, h⟩ := o_bind h
  refine p_call (d_layout_checkBalises_ok _ r8 h8) (by kernel_rfl) (by kernel_rfl) ?_
  refine e_end (by kernel_rfl) ?_
  refine q_next (pwp_ret ?_)
  cases h
  exact q_ret (by kernel_rfl) (by kernel_rfl) (by kernel_rfl)

/-! route.All -/
noncomputable def d_route_All_0 (a0 : T_api_Layout) : (Int × (List T_api_Route)) → Option ((Int × (List T_api_Route)) ⊕ ((List T_api_Route) ⊕ ((List T_api_Route) × Int))) := fun (x7, x8) =>
  bif decide (x7 < ((a0.Signals.length : Nat) : Int)) then (
    (d_route_From a0 x7).bind fun r12 =>
    (appO x8 r12).bind fun x13 =>
    some (.inl (w64 (x7 + 1), x13))
  ) else (
    some (.inr (.inl x8))
  )

noncomputable def d_route_All (a0 : T_api_Layout) : Option ((List T_api_Route) × Int) :=
  (d_layout_Check a0).bind fun r1 =>
  bif (!(decide (r1 = 0))) then (
    some (([] : (List T_api_Route)), r1)
  ) else (
    onInl (α := (List T_api_Route)) (β := ((List T_api_Route) × Int)) (loopO (d_route_All_0 a0) (0, ([] : (List T_api_Route)))) fun x11 =>
    bif decide (48 < ((x11.length : Nat) : Int)) then (
      some (([] : (List T_api_Route)), 2)
    ) else (
      some (x11, 0)
    )
  )
theorem d_route_All_ok (a0 : T_api_Layout) (r : ((List T_api_Route) × Int)) (h : d_route_All a0 = some r) : PCall Go.Proofs.Tryd.prog GlS 10 [Enc.pv a0] (.tup [Enc.pv r.1, Enc.pv r.2]) := by
  unfold d_route_All at h
  refine pcall_of_pwp Go.Proofs.Tryd.func10 (by rfl) rfl Go.Proofs.Tryd.ntmps10 (by rfl) rfl ?_
  refine pwp_seq (r_reg ?_)
  refine e_end (by kernel_rfl) ?_
  refine q_next (pwp_seq (pwp_seq (r_reg ?_)))
  refine p_run 1 (by kernel_rfl) ?_
  obtain ⟨r1, h1, h⟩ := o_bind h
  refine p_call (d_layout_Check_ok _ r1 h1) (by kernel_rfl) (by kernel_rfl) ?_
  refine e_end (by kernel_rfl) ?_
  refine q_next (pwp_seq (r_reg ?_))
  refine e_end (by kernel_rfl) ?_
  refine q_next ?_
  rcases o_cond h with ⟨hb, h⟩ | ⟨hb, h⟩
  · refine r_cond_t hb (by kernel_rfl) ?_
    refine pwp_seq (r_reg ?_)
    refine e_end (by kernel_rfl) ?_
    refine q_next (pwp_ret (q_seq_ret ?_))
    cases h
    exact q_ret (by kernel_rfl) (by kernel_rfl) (by kernel_rfl)
  refine r_cond_f hb (by kernel_rfl) ?_
  refine pwp_skip (q_next (pwp_seq (r_reg ?_)))
  refine e_end (by kernel_rfl) ?_
  refine q_next (pwp_seq (pwp_seq (r_reg ?_)))
  refine p_run 2 (by kernel_rfl) ?_
  refine p_len (L := (a0.Signals : (List T_api_Signal))) (by kernel_rfl) ?_
  refine e_end (by kernel_rfl) ?_
  refine q_next (pwp_block ?_)
  refine g_nil 5 100005 14 264 (by kernel_rfl) (by kernel_rfl) ?_
  obtain ⟨o9, h9, h⟩ := o_inl h
  refine r_loop2 28 0 (fun (x7, x8) => ⟨[(1, .ref 1 0), (5, lstOf (.own 100005) (x8 : (List T_api_Route))), (14, .int .i64 ((a0.Signals.length : Nat) : Int)), (15, .int .i64 x7)], [(1, .cells (cellsOf a0))], [(100005, (((x8).map cellsOf).length, 14))], []⟩) (fun x11 => ⟨[(5, lstOf (.own 100005) (x11 : (List T_api_Route)))], [], [(100005, (((x11).map cellsOf).length, 14))], []⟩) h9 (by kernel_rfl) (fun _ => by kernel_rfl) ?_ ?_
  · rintro ⟨x7, x8⟩ oh8 h8
    unfold d_route_All_0 at h8
    refine pwp_seq (r_reg ?_)
    refine e_end (by kernel_rfl) ?_
    refine q_next (pwp_seq ?_)
    rcases o_cond h8 with ⟨hb, h8⟩ | ⟨hb, h8⟩
    · refine r_cond_t hb (by kernel_rfl) ?_
      refine pwp_skip (q_next (pwp_seq (pwp_block (pwp_seq (r_reg ?_)))))
      refine e_end (by kernel_rfl) ?_
      refine q_next (r_reg ?_)
      refine p_run 3 (by kernel_rfl) ?_
      obtain ⟨r12, h10, h8⟩ := o_bind h8
      refine p_call (d_route_From_ok _ _ r12 h10) (by kernel_rfl) (by kernel_rfl) ?_
      obtain ⟨x13, h11, h8⟩ := o_bind h8
      refine p_app (tk := 100005) h11 (by kernel_rfl) (by kernel_rfl) ?_
      refine e_end (by kernel_rfl) ?_
      refine q_block (q_next (r_reg ?_))
      refine e_end (by kernel_rfl) ?_
      cases h8
      exact q_lback (by kernel_rfl)
    refine r_cond_f hb (by kernel_rfl) ?_
    refine pwp_exit (q_seq_exit ?_)
    cases h8
    exact q_lexit (by kernel_rfl) (by kernel_rfl)
  rintro x11 s' rfl hs
  have h := o_outl h
  refine q_block_hit ?_
  refine q_next (pwp_wkr hs ?_)
  refine pwp_seq (pwp_seq (r_reg ?_))
  refine p_run 1 (by kernel_rfl) ?_
  refine p_len (L := (x11 : (List T_api_Route))) (by kernel_rfl) ?_
  refine e_end (by kernel_rfl) ?_
  refine q_next ?_
  rcases o_cond h with ⟨hb, h⟩ | ⟨hb, h⟩
  · refine r_cond_t hb (by kernel_rfl) ?_
    refine pwp_seq (r_reg ?_)
    refine e_end (by kernel_rfl) ?_
    refine q_next (pwp_ret (q_seq_ret ?_))
    cases h
    exact q_ret (by kernel_rfl) (by kernel_rfl) (by kernel_rfl)
  refine r_cond_f hb (by kernel_rfl) ?_
  refine pwp_skip (q_next (pwp_seq (r_reg ?_)))
  refine e_end (by kernel_rfl) ?_
  refine q_next (pwp_ret ?_)
  cases h
  exact q_ret (by kernel_rfl) (by kernel_rfl) (by kernel_rfl)

/-! signallingref09.SameSteps -/
noncomputable def d_ref09_SameSteps_0 (a0 : (List T_api_Step)) (a1 : (List T_api_Step)) : Int → Option (Int ⊕ (Unit ⊕ Bool)) := fun x3 =>
  bif decide (x3 < ((a0.length : Nat) : Int)) then (
    (ixO a0 x3).bind fun x6 =>
    (ixO a1 x3).bind fun x7 =>
    bif (!(eq_T_api_Step x6 x7)) then (
      some (.inr (.inr false))
    ) else (
      some (.inl (w64 (x3 + 1)))
    )
  ) else (
    some (.inr (.inl ()))
  )

noncomputable def d_ref09_SameSteps (a0 : (List T_api_Step)) (a1 : (List T_api_Step)) : Option Bool :=
  bif (!(decide (((a0.length : Nat) : Int) = ((a1.length : Nat) : Int)))) then (
    some false
  ) else (
    onInl (α := Unit) (β := Bool) (loopO (d_ref09_SameSteps_0 a0 a1) 0) fun _ =>
    some true
  )
theorem d_ref09_SameSteps_ok (a0 : (List T_api_Step)) (a1 : (List T_api_Step)) (r : Bool) (h : d_ref09_SameSteps a0 a1 = some r) : PCall Go.Proofs.Tryd.prog GlS 24 [Enc.pv a0, Enc.pv a1] (Enc.pv r) := by
  unfold d_ref09_SameSteps at h
  refine pcall_of_pwp Go.Proofs.Tryd.func24 (by rfl) rfl Go.Proofs.Tryd.ntmps24 (by rfl) rfl ?_
  refine pwp_seq (r_reg ?_)
  refine e_end (by kernel_rfl) ?_
  refine q_next (pwp_seq (pwp_seq (r_reg ?_)))
  refine p_run 1 (by kernel_rfl) ?_
  refine p_len (L := (a0 : (List T_api_Step))) (by kernel_rfl) ?_
  refine p_run 1 (by kernel_rfl) ?_
  refine p_len (L := (a1 : (List T_api_Step))) (by kernel_rfl) ?_
  refine e_end (by kernel_rfl) ?_
  refine q_next ?_
  rcases o_cond h with ⟨hb, h⟩ | ⟨hb, h⟩
  · refine r_cond_t hb (by kernel_rfl) ?_
    refine pwp_seq (r_reg ?_)
    refine e_end (by kernel_rfl) ?_
    refine q_next (pwp_ret (q_seq_ret ?_))
    cases h
    exact q_ret (by kernel_rfl) (by kernel_rfl) (by kernel_rfl)
  refine r_cond_f hb (by kernel_rfl) ?_
  refine pwp_skip (q_next (pwp_seq (pwp_seq (r_reg ?_))))
  refine e_end (by kernel_rfl) ?_
  refine q_next (pwp_block ?_)
  obtain ⟨o8, h8, h⟩ := o_inl h
  refine r_loop2 26 0 (fun x3 => ⟨[(0, lstOf .frozen (a0 : (List T_api_Step))), (1, lstOf .frozen (a1 : (List T_api_Step))), (5, .int .i64 x3)], [], [], []⟩) (fun (_ : Unit) => ⟨[], [], [], []⟩) h8 (by kernel_rfl) (fun _ => by kernel_rfl) ?_ ?_
  · rintro x3 oh7 h7
    unfold d_ref09_SameSteps_0 at h7
    refine pwp_seq (pwp_seq (r_reg ?_))
    refine p_run 2 (by kernel_rfl) ?_
    refine p_len (L := (a0 : (List T_api_Step))) (by kernel_rfl) ?_
    refine e_end (by kernel_rfl) ?_
    refine q_next ?_
    rcases o_cond h7 with ⟨hb, h7⟩ | ⟨hb, h7⟩
    · refine r_cond_t hb (by kernel_rfl) ?_
      refine pwp_skip (q_next (pwp_seq (pwp_block (pwp_seq ?_))))
      refine r_regd (by kernel_rfl) (by kernel_rfl) ?_
      refine p_run 2 (by kernel_rfl) ?_
      obtain ⟨x6, h9, h7⟩ := o_bind h7
      refine p_ix h9 (by kernel_rfl) ?_
      refine p_run 3 (by kernel_rfl) ?_
      obtain ⟨x7, h10, h7⟩ := o_bind h7
      refine p_ix h10 (by kernel_rfl) ?_
      refine e_end (by kernel_rfl) ?_
      refine q_next ?_
      rcases o_cond h7 with ⟨hb, h7⟩ | ⟨hb, h7⟩
      · refine r_cond_t hb (by kernel_rfl) ?_
        refine pwp_seq (r_reg ?_)
        refine e_end (by kernel_rfl) ?_
        refine q_next (pwp_ret (q_block_ret (q_seq_ret ?_)))
        cases h7
        refine q_lout_ret fun he => ?_
        subst he
        have h11 := o_outr h
        refine q_block_ret (q_seq_ret ?_)
        cases h11
        exact q_ret (by kernel_rfl) (by kernel_rfl) (by kernel_rfl)
      refine r_cond_f hb (by kernel_rfl) ?_
      refine pwp_skip (q_block (q_next (r_reg ?_)))
      refine e_end (by kernel_rfl) ?_
      cases h7
      exact q_lback (by kernel_rfl)
    refine r_cond_f hb (by kernel_rfl) ?_
    refine pwp_exit (q_seq_exit ?_)
    cases h7
    exact q_lexit (by kernel_rfl) (by kernel_rfl)
  rintro _ s' rfl hs
  have h := o_outl h
  refine q_block_hit ?_
  refine q_next (pwp_wkr hs ?_)
  refine pwp_seq (r_reg ?_)
  refine e_end (by kernel_rfl) ?_
  refine q_next (pwp_ret ?_)
  cases h
  exact q_ret (by kernel_rfl) (by kernel_rfl) (by kernel_rfl)

/-! signallingref12.SameSteps -/
noncomputable def d_ref12_SameSteps (a0 : (List T_api_Step)) (a1 : (List T_api_Step)) : Option Bool :=
  (d_ref09_SameSteps a0 a1).bind fun r1 =>
  some r1
theorem d_ref12_SameSteps_ok (a0 : (List T_api_Step)) (a1 : (List T_api_Step)) (r : Bool) (h : d_ref12_SameSteps a0 a1 = some r) : PCall Go.Proofs.Tryd.prog GlS 15 [Enc.pv a0, Enc.pv a1] (Enc.pv r) := by
  unfold d_ref12_SameSteps at h
  refine pcall_of_pwp Go.Proofs.Tryd.func15 (by rfl) rfl Go.Proofs.Tryd.ntmps15 (by rfl) rfl ?_
  refine pwp_seq (r_reg ?_)
  refine e_end (by kernel_rfl) ?_
  refine q_next (pwp_seq (r_reg ?_))
  refine p_run 2 (by kernel_rfl) ?_
  obtain ⟨r1, h1, h⟩ := o_bind h
  refine p_call (d_ref09_SameSteps_ok _ _ r1 h1) (by kernel_rfl) (by kernel_rfl) ?_
  refine e_end (by kernel_rfl) ?_
  refine q_next (pwp_ret ?_)
  cases h
  exact q_ret (by kernel_rfl) (by kernel_rfl) (by kernel_rfl)

/-! signallingref09.SameSettings -/
noncomputable def d_ref09_SameSettings_0 (a0 : (List T_api_Setting)) (a1 : (List T_api_Setting)) : Int → Option (Int ⊕ (Unit ⊕ Bool)) := fun x3 =>
  bif decide (x3 < ((a0.length : Nat) : Int)) then (
    (ixO a0 x3).bind fun x6 =>
    (ixO a1 x3).bind fun x7 =>
    bif (!(eq_T_api_Setting x6 x7)) then (
      some (.inr (.inr false))
    ) else (
      some (.inl (w64 (x3 + 1)))
    )
  ) else (
    some (.inr (.inl ()))
  )

noncomputable def d_ref09_SameSettings (a0 : (List T_api_Setting)) (a1 : (List T_api_Setting)) : Option Bool :=
  bif (!(decide (((a0.length : Nat) : Int) = ((a1.length : Nat) : Int)))) then (
    some false
  ) else (
    onInl (α := Unit) (β := Bool) (loopO (d_ref09_SameSettings_0 a0 a1) 0) fun _ =>
    some true
  )
theorem d_ref09_SameSettings_ok (a0 : (List T_api_Setting)) (a1 : (List T_api_Setting)) (r : Bool) (h : d_ref09_SameSettings a0 a1 = some r) : PCall Go.Proofs.Tryd.prog GlS 25 [Enc.pv a0, Enc.pv a1] (Enc.pv r) := by
  unfold d_ref09_SameSettings at h
  refine pcall_of_pwp Go.Proofs.Tryd.func25 (by rfl) rfl Go.Proofs.Tryd.ntmps25 (by rfl) rfl ?_
  refine pwp_seq (r_reg ?_)
  refine e_end (by kernel_rfl) ?_
  refine q_next (pwp_seq (pwp_seq (r_reg ?_)))
  refine p_run 1 (by kernel_rfl) ?_
  refine p_len (L := (a0 : (List T_api_Setting))) (by kernel_rfl) ?_
  refine p_run 1 (by kernel_rfl) ?_
  refine p_len (L := (a1 : (List T_api_Setting))) (by kernel_rfl) ?_
  refine e_end (by kernel_rfl) ?_
  refine q_next ?_
  rcases o_cond h with ⟨hb, h⟩ | ⟨hb, h⟩
  · refine r_cond_t hb (by kernel_rfl) ?_
    refine pwp_seq (r_reg ?_)
    refine e_end (by kernel_rfl) ?_
    refine q_next (pwp_ret (q_seq_ret ?_))
    cases h
    exact q_ret (by kernel_rfl) (by kernel_rfl) (by kernel_rfl)
  refine r_cond_f hb (by kernel_rfl) ?_
  refine pwp_skip (q_next (pwp_seq (pwp_seq (r_reg ?_))))
  refine e_end (by kernel_rfl) ?_
  refine q_next (pwp_block ?_)
  obtain ⟨o8, h8, h⟩ := o_inl h
  refine r_loop2 26 0 (fun x3 => ⟨[(0, lstOf .frozen (a0 : (List T_api_Setting))), (1, lstOf .frozen (a1 : (List T_api_Setting))), (5, .int .i64 x3)], [], [], []⟩) (fun (_ : Unit) => ⟨[], [], [], []⟩) h8 (by kernel_rfl) (fun _ => by kernel_rfl) ?_ ?_
  · rintro x3 oh7 h7
    unfold d_ref09_SameSettings_0 at h7
    refine pwp_seq (pwp_seq (r_reg ?_))
    refine p_run 2 (by kernel_rfl) ?_
    refine p_len (L := (a0 : (List T_api_Setting))) (by kernel_rfl) ?_
    refine e_end (by kernel_rfl) ?_
    refine q_next ?_
    rcases o_cond h7 with ⟨hb, h7⟩ | ⟨hb, h7⟩
    · refine r_cond_t hb (by kernel_rfl) ?_
      refine pwp_skip (q_next (pwp_seq (pwp_block (pwp_seq ?_))))
      refine r_regd (by kernel_rfl) (by kernel_rfl) ?_
      refine p_run 2 (by kernel_rfl) ?_
      obtain ⟨x6, h9, h7⟩ := o_bind h7
      refine p_ix h9 (by kernel_rfl) ?_
      refine p_run 3 (by kernel_rfl) ?_
      obtain ⟨x7, h10, h7⟩ := o_bind h7
      refine p_ix h10 (by kernel_rfl) ?_
      refine e_end (by kernel_rfl) ?_
      refine q_next ?_
      rcases o_cond h7 with ⟨hb, h7⟩ | ⟨hb, h7⟩
      · refine r_cond_t hb (by kernel_rfl) ?_
        refine pwp_seq (r_reg ?_)
        refine e_end (by kernel_rfl) ?_
        refine q_next (pwp_ret (q_block_ret (q_seq_ret ?_)))
        cases h7
        refine q_lout_ret fun he => ?_
        subst he
        have h11 := o_outr h
        refine q_block_ret (q_seq_ret ?_)
        cases h11
        exact q_ret (by kernel_rfl) (by kernel_rfl) (by kernel_rfl)
      refine r_cond_f hb (by kernel_rfl) ?_
      refine pwp_skip (q_block (q_next (r_reg ?_)))
      refine e_end (by kernel_rfl) ?_
      cases h7
      exact q_lback (by kernel_rfl)
    refine r_cond_f hb (by kernel_rfl) ?_
    refine pwp_exit (q_seq_exit ?_)
    cases h7
    exact q_lexit (by kernel_rfl) (by kernel_rfl)
  rintro _ s' rfl hs
  have h := o_outl h
  refine q_block_hit ?_
  refine q_next (pwp_wkr hs ?_)
  refine pwp_seq (r_reg ?_)
  refine e_end (by kernel_rfl) ?_
  refine q_next (pwp_ret ?_)
  cases h
  exact q_ret (by kernel_rfl) (by kernel_rfl) (by kernel_rfl)

/-! signallingref12.SameSettings -/
noncomputable def d_ref12_SameSettings (a0 : (List T_api_Setting)) (a1 : (List T_api_Setting)) : Option Bool :=
  (d_ref09_SameSettings a0 a1).bind fun r1 =>
  some r1
theorem d_ref12_SameSettings_ok (a0 : (List T_api_Setting)) (a1 : (List T_api_Setting)) (r : Bool) (h : d_ref12_SameSettings a0 a1 = some r) : PCall Go.Proofs.Tryd.prog GlS 16 [Enc.pv a0, Enc.pv a1] (Enc.pv r) := by
  unfold d_ref12_SameSettings at h
  refine pcall_of_pwp Go.Proofs.Tryd.func16 (by rfl) rfl Go.Proofs.Tryd.ntmps16 (by rfl) rfl ?_
  refine pwp_seq (r_reg ?_)
  refine e_end (by kernel_rfl) ?_
  refine q_next (pwp_seq (r_reg ?_))
  refine p_run 2 (by kernel_rfl) ?_
  obtain ⟨r1, h1, h⟩ := o_bind h
  refine p_call (d_ref09_SameSettings_ok _ _ r1 h1) (by kernel_rfl) (by kernel_rfl) ?_
  refine e_end (by kernel_rfl) ?_
  refine q_next (pwp_ret ?_)
  cases h
  exact q_ret (by kernel_rfl) (by kernel_rfl) (by kernel_rfl)

/-! signallingref09.SameInts -/
noncomputable def d_ref09_SameInts_0 (a0 : (List Int)) (a1 : (List Int)) : Int → Option (Int ⊕ (Unit ⊕ Bool)) := fun x3 =>
  bif decide (x3 < ((a0.length : Nat) : Int)) then (
    (ixO a0 x3).bind fun x6 =>
    (ixO a1 x3).bind fun x7 =>
    bif (!(decide (x6 = x7))) then (
      some (.inr (.inr false))
    ) else (
      some (.inl (w64 (x3 + 1)))
    )
  ) else (
    some (.inr (.inl ()))
  )

noncomputable def d_ref09_SameInts (a0 : (List Int)) (a1 : (List Int)) : Option Bool :=
  bif (!(decide (((a0.length : Nat) : Int) = ((a1.length : Nat) : Int)))) then (
    some false
  ) else (
    onInl (α := Unit) (β := Bool) (loopO (d_ref09_SameInts_0 a0 a1) 0) fun _ =>
    some true
  )
theorem d_ref09_SameInts_ok (a0 : (List Int)) (a1 : (List Int)) (r : Bool) (h : d_ref09_SameInts a0 a1 = some r) : PCall Go.Proofs.Tryd.prog GlS 26 [Enc.pv a0, Enc.pv a1] (Enc.pv r) := by
  unfold d_ref09_SameInts at h
  refine pcall_of_pwp Go.Proofs.Tryd.func26 (by rfl) rfl Go.Proofs.Tryd.ntmps26 (by rfl) rfl ?_
  refine pwp_seq (r_reg ?_)
  refine e_end (by kernel_rfl) ?_
  refine q_next (pwp_seq (pwp_seq (r_reg ?_)))
  refine p_run 1 (by kernel_rfl) ?_
  refine p_len (L := (a0 : (List Int))) (by kernel_rfl) ?_
  refine p_run 1 (by kernel_rfl) ?_
  refine p_len (L := (a1 : (List Int))) (by kernel_rfl) ?_
  refine e_end (by kernel_rfl) ?_
  refine q_next ?_
  rcases o_cond h with ⟨hb, h⟩ | ⟨hb, h⟩
  · refine r_cond_t hb (by kernel_rfl) ?_
    refine pwp_seq (r_reg ?_)
    refine e_end (by kernel_rfl) ?_
    refine q_next (pwp_ret (q_seq_ret ?_))
    cases h
    exact q_ret (by kernel_rfl) (by kernel_rfl) (by kernel_rfl)
  refine r_cond_f hb (by kernel_rfl) ?_
  refine pwp_skip (q_next (pwp_seq (pwp_seq (r_reg ?_))))
  refine e_end (by kernel_rfl) ?_
  refine q_next (pwp_block ?_)
  obtain ⟨o8, h8, h⟩ := o_inl h
  refine r_loop2 26 0 (fun x3 => ⟨[(0, lstOf .frozen (a0 : (List Int))), (1, lstOf .frozen (a1 : (List Int))), (5, .int .i64 x3)], [], [], []⟩) (fun (_ : Unit) => ⟨[], [], [], []⟩) h8 (by kernel_rfl) (fun _ => by kernel_rfl) ?_ ?_
  · rintro x3 oh7 h7
    unfold d_ref09_SameInts_0 at h7
    refine pwp_seq (pwp_seq (r_reg ?_))
    refine p_run 2 (by kernel_rfl) ?_
    refine p_len (L := (a0 : (List Int))) (by kernel_rfl) ?_
    refine e_end (by kernel_rfl) ?_
    refine q_next ?_
    rcases o_cond h7 with ⟨hb, h7⟩ | ⟨hb, h7⟩
    · refine r_cond_t hb (by kernel_rfl) ?_
      refine pwp_skip (q_next (pwp_seq (pwp_block (pwp_seq ?_))))
      refine r_regd (by kernel_rfl) (by kernel_rfl) ?_
      refine p_run 2 (by kernel_rfl) ?_
      obtain ⟨x6, h9, h7⟩ := o_bind h7
      refine p_ix h9 (by kernel_rfl) ?_
      refine p_run 3 (by kernel_rfl) ?_
      obtain ⟨x7, h10, h7⟩ := o_bind h7
      refine p_ix h10 (by kernel_rfl) ?_
      refine e_end (by kernel_rfl) ?_
      refine q_next ?_
      rcases o_cond h7 with ⟨hb, h7⟩ | ⟨hb, h7⟩
      · refine r_cond_t hb (by kernel_rfl) ?_
        refine pwp_seq (r_reg ?_)
        refine e_end (by kernel_rfl) ?_
        refine q_next (pwp_ret (q_block_ret (q_seq_ret ?_)))
        cases h7
        refine q_lout_ret fun he => ?_
        subst he
        have h11 := o_outr h
        refine q_block_ret (q_seq_ret ?_)
        cases h11
        exact q_ret (by kernel_rfl) (by kernel_rfl) (by kernel_rfl)
      refine r_cond_f hb (by kernel_rfl) ?_
      refine pwp_skip (q_block (q_next (r_reg ?_)))
      refine e_end (by kernel_rfl) ?_
      cases h7
      exact q_lback (by kernel_rfl)
    refine r_cond_f hb (by kernel_rfl) ?_
    refine pwp_exit (q_seq_exit ?_)
    cases h7
    exact q_lexit (by kernel_rfl) (by kernel_rfl)
  rintro _ s' rfl hs
  have h := o_outl h
  refine q_block_hit ?_
  refine q_next (pwp_wkr hs ?_)
  refine pwp_seq (r_reg ?_)
  refine e_end (by kernel_rfl) ?_
  refine q_next (pwp_ret ?_)
  cases h
  exact q_ret (by kernel_rfl) (by kernel_rfl) (by kernel_rfl)

/-! signallingref12.SameInts -/
noncomputable def d_ref12_SameInts (a0 : (List Int)) (a1 : (List Int)) : Option Bool :=
  (d_ref09_SameInts a0 a1).bind fun r1 =>
  some r1
theorem d_ref12_SameInts_ok (a0 : (List Int)) (a1 : (List Int)) (r : Bool) (h : d_ref12_SameInts a0 a1 = some r) : PCall Go.Proofs.Tryd.prog GlS 17 [Enc.pv a0, Enc.pv a1] (Enc.pv r) := by
  unfold d_ref12_SameInts at h
  refine pcall_of_pwp Go.Proofs.Tryd.func17 (by rfl) rfl Go.Proofs.Tryd.ntmps17 (by rfl) rfl ?_
  refine pwp_seq (r_reg ?_)
  refine e_end (by kernel_rfl) ?_
  refine q_next (pwp_seq (r_reg ?_))
  refine p_run 2 (by kernel_rfl) ?_
  obtain ⟨r1, h1, h⟩ := o_bind h
  refine p_call (d_ref09_SameInts_ok _ _ r1 h1) (by kernel_rfl) (by kernel_rfl) ?_
  refine e_end (by kernel_rfl) ?_
  refine q_next (pwp_ret ?_)
  cases h
  exact q_ret (by kernel_rfl) (by kernel_rfl) (by kernel_rfl)

/-! signallingref12.sameEnds -/
noncomputable def d_ref12_sameEnds_0 (a0 : (List T_api_End)) (a1 : (List T_api_End)) : Int → Option (Int ⊕ (Unit ⊕ Bool)) := fun x3 =>
  bif decide (x3 < ((a0.length : Nat) : Int)) then (
    (ixO a0 x3).bind fun x6 =>
    (ixO a1 x3).bind fun x7 =>
    bif (!(eq_T_api_End x6 x7)) then (
      some (.inr (.inr false))
    ) else (
      some (.inl (w64 (x3 + 1)))
    )
  ) else (
    some (.inr (.inl ()))
  )

noncomputable def d_ref12_sameEnds (a0 : (List T_api_End)) (a1 : (List T_api_End)) : Option Bool :=
  bif (!(decide (((a0.length : Nat) : Int) = ((a1.length : Nat) : Int)))) then (
    some false
  ) else (
    onInl (α := Unit) (β := Bool) (loopO (d_ref12_sameEnds_0 a0 a1) 0) fun _ =>
    some true
  )
theorem d_ref12_sameEnds_ok (a0 : (List T_api_End)) (a1 : (List T_api_End)) (r : Bool) (h : d_ref12_sameEnds a0 a1 = some r) : PCall Go.Proofs.Tryd.prog GlS 18 [Enc.pv a0, Enc.pv a1] (Enc.pv r) := by
  unfold d_ref12_sameEnds at h
  refine pcall_of_pwp Go.Proofs.Tryd.func18 (by rfl) rfl Go.Proofs.Tryd.ntmps18 (by rfl) rfl ?_
  refine pwp_seq (r_reg ?_)
  refine e_end (by kernel_rfl) ?_
  refine q_next (pwp_seq (pwp_seq (r_reg ?_)))
  refine p_run 1 (by kernel_rfl) ?_
  refine p_len (L := (a0 : (List T_api_End))) (by kernel_rfl) ?_
  refine p_run 1 (by kernel_rfl) ?_
  refine p_len (L := (a1 : (List T_api_End))) (by kernel_rfl) ?_
  refine e_end (by kernel_rfl) ?_
  refine q_next ?_
  rcases o_cond h with ⟨hb, h⟩ | ⟨hb, h⟩
  · refine r_cond_t hb (by kernel_rfl) ?_
    refine pwp_seq (r_reg ?_)
    refine e_end (by kernel_rfl) ?_
    refine q_next (pwp_ret (q_seq_ret ?_))
    cases h
    exact q_ret (by kernel_rfl) (by kernel_rfl) (by kernel_rfl)
  refine r_cond_f hb (by kernel_rfl) ?_
  refine pwp_skip (q_next (pwp_seq (pwp_seq (r_reg ?_))))
  refine e_end (by kernel_rfl) ?_
  refine q_next (pwp_block ?_)
  obtain ⟨o8, h8, h⟩ := o_inl h
  refine r_loop2 26 0 (fun x3 => ⟨[(0, lstOf .frozen (a0 : (List T_api_End))), (1, lstOf .frozen (a1 : (List T_api_End))), (5, .int .i64 x3)], [], [], []⟩) (fun (_ : Unit) => ⟨[], [], [], []⟩) h8 (by kernel_rfl) (fun _ => by kernel_rfl) ?_ ?_
  · rintro x3 oh7 h7
    unfold d_ref12_sameEnds_0 at h7
    refine pwp_seq (pwp_seq (r_reg ?_))
    refine p_run 2 (by kernel_rfl) ?_
    refine p_len (L := (a0 : (List T_api_End))) (by kernel_rfl) ?_
    refine e_end (by kernel_rfl) ?_
    refine q_next ?_
    rcases o_cond h7 with ⟨hb, h7⟩ | ⟨hb, h7⟩
    · refine r_cond_t hb (by kernel_rfl) ?_
      refine pwp_skip (q_next (pwp_seq (pwp_block (pwp_seq ?_))))
      refine r_regd (by kernel_rfl) (by kernel_rfl) ?_
      refine p_run 2 (by kernel_rfl) ?_
      obtain ⟨x6, h9, h7⟩ := o_bind h7
      refine p_ix h9 (by kernel_rfl) ?_
      refine p_run 3 (by kernel_rfl) ?_
      obtain ⟨x7, h10, h7⟩ := o_bind h7
      refine p_ix h10 (by kernel_rfl) ?_
      refine e_end (by kernel_rfl) ?_
      refine q_next ?_
      rcases o_cond h7 with ⟨hb, h7⟩ | ⟨hb, h7⟩
      · refine r_cond_t hb (by kernel_rfl) ?_
        refine pwp_seq (r_reg ?_)
        refine e_end (by kernel_rfl) ?_
        refine q_next (pwp_ret (q_block_ret (q_seq_ret ?_)))
        cases h7
        refine q_lout_ret fun he => ?_
        subst he
        have h11 := o_outr h
        refine q_block_ret (q_seq_ret ?_)
        cases h11
        exact q_ret (by kernel_rfl) (by kernel_rfl) (by kernel_rfl)
      refine r_cond_f hb (by kernel_rfl) ?_
      refine pwp_skip (q_block (q_next (r_reg ?_)))
      refine e_end (by kernel_rfl) ?_
      cases h7
      exact q_lback (by kernel_rfl)
    refine r_cond_f hb (by kernel_rfl) ?_
    refine pwp_exit (q_seq_exit ?_)
    cases h7
    exact q_lexit (by kernel_rfl) (by kernel_rfl)
  rintro _ s' rfl hs
  have h := o_outl h
  refine q_block_hit ?_
  refine q_next (pwp_wkr hs ?_)
  refine pwp_seq (r_reg ?_)
  refine e_end (by kernel_rfl) ?_
  refine q_next (pwp_ret ?_)
  cases h
  exact q_ret (by kernel_rfl) (by kernel_rfl) (by kernel_rfl)

/-! signallingref12.Same -/
noncomputable def d_ref12_Same (a0 : T_api_Route) (a1 : T_api_Route) : Option Bool :=
  bif (((((!(decide (a0.Name = a1.Name))) || (!(decide (a0.Entry = a1.Entry)))) || (!(decide (a0.Exit = a1.Exit)))) || (!(decide (a0.Approach = a1.Approach)))) || (!(decide (a0.Length = a1.Length)))) then (
    some false
  ) else (
    (d_ref12_SameSteps a0.Path a1.Path).bind fun r1 =>
    ((bif (!r1) then some true else (
      (d_ref12_SameSettings a0.Points a1.Points).bind fun r3 =>
      some (!r3)
    )) : Option Bool).bind fun b2 =>
    ((bif b2 then some true else (
      (d_ref12_SameInts a0.Sections a1.Sections).bind fun r5 =>
      some (!r5)
    )) : Option Bool).bind fun b4 =>
    bif b4 then (
      some false
    ) else (
      (d_ref12_SameSteps a0.Over a1.Over).bind fun r6 =>
      ((bif r6 then (
        (d_ref12_SameSettings a0.OverPoints a1.OverPoints).bind fun r8 =>
        some r8
      ) else some false) : Option Bool).bind fun b7 =>
      ((bif b7 then (
        (d_ref12_SameInts a0.OverSections a1.OverSections).bind fun r10 =>
        some r10
      ) else some false) : Option Bool).bind fun b9 =>
      ((bif b9 then (
        (d_ref12_SameSettings a0.Flank a1.Flank).bind fun r12 =>
        some r12
      ) else some false) : Option Bool).bind fun b11 =>
      ((bif b11 then (
        (d_ref12_SameInts a0.Guards a1.Guards).bind fun r14 =>
        some r14
      ) else some false) : Option Bool).bind fun b13 =>
      ((bif b13 then (
        (d_ref12_sameEnds a0.Gaps a1.Gaps).bind fun r16 =>
        some r16
      ) else some false) : Option Bool).bind fun b15 =>
      some b15
    )
  )
theorem d_ref12_Same_ok (a0 : T_api_Route) (a1 : T_api_Route) (r : Bool) (h : d_ref12_Same a0 a1 = some r) : PCall Go.Proofs.Tryd.prog GlS 7 [Enc.pv a0, Enc.pv a1] (Enc.pv r) := by
  unfold d_ref12_Same at h
  refine pcall_of_pwp Go.Proofs.Tryd.func7 (by rfl) rfl Go.Proofs.Tryd.ntmps7 (by rfl) rfl ?_
  refine pwp_seq (r_reg ?_)
  refine e_end (by kernel_rfl) ?_
  refine q_next (pwp_seq (pwp_seq (r_reg ?_)))
  refine p_run 6 (by kernel_rfl) ?_
  refine e_segb 6 16 ((!(decide (a0.Name = a1.Name))) || (!(decide (a0.Entry = a1.Entry)))) (fun x hx => ?_) ?_
  · rcases b_or hx with ⟨hb, hx⟩ | ⟨hb, hx⟩
    · refine p_settle 10 hb (by kernel_rfl) (by kernel_rfl) ?_
      subst hx
      exact f_end (by kernel_rfl) (by kernel_rfl)
    refine p_settle 10 hb (by kernel_rfl) (by kernel_rfl) ?_
    subst hx
    exact f_end (by kernel_rfl) (by kernel_rfl)
  refine p_run 1 (by kernel_rfl) ?_
  refine e_segb 6 23 (((!(decide (a0.Name = a1.Name))) || (!(decide (a0.Entry = a1.Entry)))) || (!(decide (a0.Exit = a1.Exit)))) (fun x hx => ?_) ?_
  · rcases b_or hx with ⟨hb, hx⟩ | ⟨hb, hx⟩
    · refine p_settle 17 hb (by kernel_rfl) (by kernel_rfl) ?_
      subst hx
      exact f_end (by kernel_rfl) (by kernel_rfl)
    refine p_settle 17 hb (by kernel_rfl) (by kernel_rfl) ?_
    subst hx
    exact f_end (by kernel_rfl) (by kernel_rfl)
  refine p_run 1 (by kernel_rfl) ?_
  refine e_segb 6 30 ((((!(decide (a0.Name = a1.Name))) || (!(decide (a0.Entry = a1.Entry)))) || (!(decide (a0.Exit = a1.Exit)))) || (!(decide (a0.Approach = a1.Approach)))) (fun x hx => ?_) ?_
  · rcases b_or hx with ⟨hb, hx⟩ | ⟨hb, hx⟩
    · refine p_settle 24 hb (by kernel_rfl) (by kernel_rfl) ?_
      subst hx
      exact f_end (by kernel_rfl) (by kernel_rfl)
    refine p_settle 24 hb (by kernel_rfl) (by kernel_rfl) ?_
    subst hx
    exact f_end (by kernel_rfl) (by kernel_rfl)
  refine p_run 1 (by kernel_rfl) ?_
  refine e_segb 6 37 (((((!(decide (a0.Name = a1.Name))) || (!(decide (a0.Entry = a1.Entry)))) || (!(decide (a0.Exit = a1.Exit)))) || (!(decide (a0.Approach = a1.Approach)))) || (!(decide (a0.Length = a1.Length)))) (fun x hx => ?_) ?_
  · rcases b_or hx with ⟨hb, hx⟩ | ⟨hb, hx⟩
    · refine p_settle 31 hb (by kernel_rfl) (by kernel_rfl) ?_
      subst hx
      exact f_end (by kernel_rfl) (by kernel_rfl)
    refine p_settle 31 hb (by kernel_rfl) (by kernel_rfl) ?_
    subst hx
    exact f_end (by kernel_rfl) (by kernel_rfl)
  refine e_nil (by kernel_rfl) ?_
  refine q_next ?_
  rcases o_cond h with ⟨hb, h⟩ | ⟨hb, h⟩
  · refine r_cond_t hb (by kernel_rfl) ?_
    refine pwp_seq (r_reg ?_)
    refine e_end (by kernel_rfl) ?_
    refine q_next (pwp_ret (q_seq_ret ?_))
    cases h
    exact q_ret (by kernel_rfl) (by kernel_rfl) (by kernel_rfl)
  refine r_cond_f hb (by kernel_rfl) ?_
  refine pwp_skip (q_next (pwp_seq (pwp_seq (r_reg ?_))))
  refine p_run 4 (by kernel_rfl) ?_
  obtain ⟨r1, h1, h⟩ := o_bind h
  refine p_call (d_ref12_SameSteps_ok _ _ r1 h1) (by kernel_rfl) (by kernel_rfl) ?_
  obtain ⟨b2, h2, h⟩ := o_bind h
  refine p_run 2 (by kernel_rfl) ?_
  refine e_seg 7 51 (.bool b2) ?_ ?_
  · rcases o_cond h2 with ⟨hb, h2⟩ | ⟨hb, h2⟩
    · refine p_settle 44 hb (by kernel_rfl) (by kernel_rfl) ?_
      cases h2
      exact f_end (by kernel_rfl) (by kernel_rfl)
    refine p_settle 44 hb (by kernel_rfl) (by kernel_rfl) ?_
    refine p_run 4 (by kernel_rfl) ?_
    obtain ⟨r3, h3, h2⟩ := o_bind h2
    refine p_call (d_ref12_SameSettings_ok _ _ r3 h3) (by kernel_rfl) (by kernel_rfl) ?_
    cases h2
    exact f_end (by kernel_rfl) (by kernel_rfl)
  obtain ⟨b4, h4, h⟩ := o_bind h
  refine p_run 1 (by kernel_rfl) ?_
  refine e_seg 7 59 (.bool b4) ?_ ?_
  · rcases o_cond h4 with ⟨hb, h4⟩ | ⟨hb, h4⟩
    · refine p_settle 52 hb (by kernel_rfl) (by kernel_rfl) ?_
      cases h4
      exact f_end (by kernel_rfl) (by kernel_rfl)
    refine p_settle 52 hb (by kernel_rfl) (by kernel_rfl) ?_
    refine p_run 4 (by kernel_rfl) ?_
    obtain ⟨r5, h5, h4⟩ := o_bind h4
    refine p_call (d_ref12_SameInts_ok _ _ r5 h5) (by kernel_rfl) (by kernel_rfl) ?_
    cases h4
    exact f_end (by kernel_rfl) (by kernel_rfl)
  refine e_nil (by kernel_rfl) ?_
  refine q_next ?_
  rcases o_cond h with ⟨hb, h⟩ | ⟨hb, h⟩
  · refine r_cond_t hb (by kernel_rfl) ?_
    refine pwp_seq (r_reg ?_)
    refine e_end (by kernel_rfl) ?_
    refine q_next (pwp_ret (q_seq_ret ?_))
    cases h
    exact q_ret (by kernel_rfl) (by kernel_rfl) (by kernel_rfl)
  refine r_cond_f hb (by kernel_rfl) ?_
  refine pwp_skip (q_next (pwp_seq (r_reg ?_)))
  refine p_run 4 (by kernel_rfl) ?_
  obtain ⟨r6, h6, h⟩ := o_bind h
  refine p_call (d_ref12_SameSteps_ok _ _ r6 h6) (by kernel_rfl) (by kernel_rfl) ?_
  obtain ⟨b7, h7, h⟩ := o_bind h
  refine p_run 1 (by kernel_rfl) ?_
  refine e_seg 6 71 (.bool b7) ?_ ?_
  · rcases o_cond h7 with ⟨hb, h7⟩ | ⟨hb, h7⟩
    · refine p_settle 65 hb (by kernel_rfl) (by kernel_rfl) ?_
      refine p_run 4 (by kernel_rfl) ?_
      obtain ⟨r8, h8, h7⟩ := o_bind h7
      refine p_call (d_ref12_SameSettings_ok _ _ r8 h8) (by kernel_rfl) (by kernel_rfl) ?_
      cases h7
      exact f_end (by kernel_rfl) (by kernel_rfl)
    refine p_settle 65 hb (by kernel_rfl) (by kernel_rfl) ?_
    cases h7
    exact f_end (by kernel_rfl) (by kernel_rfl)
  obtain ⟨b9, h9, h⟩ := o_bind h
  refine p_run 1 (by kernel_rfl) ?_
  refine e_seg 6 78 (.bool b9) ?_ ?_
  · rcases o_cond h9 with ⟨hb, h9⟩ | ⟨hb, h9⟩
    · refine p_settle 72 hb (by kernel_rfl) (by kernel_rfl) ?_
      refine p_run 4 (by kernel_rfl) ?_
      obtain ⟨r10, h10, h9⟩ := o_bind h9
      refine p_call (d_ref12_SameInts_ok _ _ r10 h10) (by kernel_rfl) (by kernel_rfl) ?_
      cases h9
      exact f_end (by kernel_rfl) (by kernel_rfl)
    refine p_settle 72 hb (by kernel_rfl) (by kernel_rfl) ?_
    cases h9
    exact f_end (by kernel_rfl) (by kernel_rfl)
  obtain ⟨b11, h11, h⟩ := o_bind h
  refine p_run 1 (by kernel_rfl) ?_
  refine e_seg 6 85 (.bool b11) ?_ ?_
  · rcases o_cond h11 with ⟨hb, h11⟩ | ⟨hb, h11⟩
    · refine p_settle 79 hb (by kernel_rfl) (by kernel_rfl) ?_
      refine p_run 4 (by kernel_rfl) ?_
      obtain ⟨r12, h12, h11⟩ := o_bind h11
      refine p_call (d_ref12_SameSettings_ok _ _ r12 h12) (by kernel_rfl) (by kernel_rfl) ?_
      cases h11
      exact f_end (by kernel_rfl) (by kernel_rfl)
    refine p_settle 79 hb (by kernel_rfl) (by kernel_rfl) ?_
    cases h11
    exact f_end (by kernel_rfl) (by kernel_rfl)
  obtain ⟨b13, h13, h⟩ := o_bind h
  refine p_run 1 (by kernel_rfl) ?_
  refine e_seg 6 92 (.bool b13) ?_ ?_
  · rcases o_cond h13 with ⟨hb, h13⟩ | ⟨hb, h13⟩
    · refine p_settle 86 hb (by kernel_rfl) (by kernel_rfl) ?_
      refine p_run 4 (by kernel_rfl) ?_
      obtain ⟨r14, h14, h13⟩ := o_bind h13
      refine p_call (d_ref12_SameInts_ok _ _ r14 h14) (by kernel_rfl) (by kernel_rfl) ?_
      cases h13
      exact f_end (by kernel_rfl) (by kernel_rfl)
    refine p_settle 86 hb (by kernel_rfl) (by kernel_rfl) ?_
    cases h13
    exact f_end (by kernel_rfl) (by kernel_rfl)
  obtain ⟨b15, h15, h⟩ := o_bind h
  refine p_run 1 (by kernel_rfl) ?_
  refine e_seg 6 99 (.bool b15) ?_ ?_
  · rcases o_cond h15 with ⟨hb, h15⟩ | ⟨hb, h15⟩
    · refine p_settle 93 hb (by kernel_rfl) (by kernel_rfl) ?_
      refine p_run 4 (by kernel_rfl) ?_
      obtain ⟨r16, h16, h15⟩ := o_bind h15
      refine p_call (d_ref12_sameEnds_ok _ _ r16 h16) (by kernel_rfl) (by kernel_rfl) ?_
      cases h15
      exact f_end (by kernel_rfl) (by kernel_rfl)
    refine p_settle 93 hb (by kernel_rfl) (by kernel_rfl) ?_
    cases h15
    exact f_end (by kernel_rfl) (by kernel_rfl)
  refine e_end (by kernel_rfl) ?_
  refine q_next (pwp_ret ?_)
  cases h
  exact q_ret (by kernel_rfl) (by kernel_rfl) (by kernel_rfl)

/-! slices.Equal[[]api.Step,api.Step] -/
noncomputable def d_slices_Equal_api_Step_0 (a0 : (List T_api_Step)) (a1 : (List T_api_Step)) : Int → Option (Int ⊕ (Unit ⊕ Bool)) := fun x3 =>
  bif decide (x3 < ((a0.length : Nat) : Int)) then (
    (ixO a0 x3).bind fun x6 =>
    (ixO a1 x3).bind fun x7 =>
    bif (!(eq_T_api_Step x6 x7)) then (
      some (.inr (.inr false))
    ) else (
      some (.inl (w64 (x3 + 1)))
    )
  ) else (
    some (.inr (.inl ()))
  )

noncomputable def d_slices_Equal_api_Step (a0 : (List T_api_Step)) (a1 : (List T_api_Step)) : Option Bool :=
  bif (!(decide (((a0.length : Nat) : Int) = ((a1.length : Nat) : Int)))) then (
    some false
  ) else (
    onInl (α := Unit) (β := Bool) (loopO (d_slices_Equal_api_Step_0 a0 a1) 0) fun _ =>
    some true
  )
theorem d_slices_Equal_api_Step_ok (a0 : (List T_api_Step)) (a1 : (List T_api_Step)) (r : Bool) (h : d_slices_Equal_api_Step a0 a1 = some r) : PCall Go.Proofs.Tryd.prog GlS 11 [Enc.pv a0, Enc.pv a1] (Enc.pv r) := by
  unfold d_slices_Equal_api_Step at h
  refine pcall_of_pwp Go.Proofs.Tryd.func11 (by rfl) rfl Go.Proofs.Tryd.ntmps11 (by rfl) rfl ?_
  refine pwp_seq (r_reg ?_)
  refine e_end (by kernel_rfl) ?_
  refine q_next (pwp_seq (pwp_seq (r_reg ?_)))
  refine p_run 1 (by kernel_rfl) ?_
  refine p_len (L := (a0 : (List T_api_Step))) (by kernel_rfl) ?_
  refine p_run 1 (by kernel_rfl) ?_
  refine p_len (L := (a1 : (List T_api_Step))) (by kernel_rfl) ?_
  refine e_end (by kernel_rfl) ?_
  refine q_next ?_
  rcases o_cond h with ⟨hb, h⟩ | ⟨hb, h⟩
  · refine r_cond_t hb (by kernel_rfl) ?_
    refine pwp_seq (r_reg ?_)
    refine e_end (by kernel_rfl) ?_
    refine q_next (pwp_ret (q_seq_ret ?_))
    cases h
    exact q_ret (by kernel_rfl) (by kernel_rfl) (by kernel_rfl)
  refine r_cond_f hb (by kernel_rfl) ?_
  refine pwp_skip (q_next (pwp_seq (pwp_seq (r_reg ?_))))
  refine p_run 1 (by kernel_rfl) ?_
  refine p_len (L := (a0 : (List T_api_Step))) (by kernel_rfl) ?_
  refine e_end (by kernel_rfl) ?_
  refine q_next (pwp_block ?_)
  obtain ⟨o8, h8, h⟩ := o_inl h
  refine r_loop2 26 0 (fun x3 => ⟨[(0, lstOf .frozen (a0 : (List T_api_Step))), (1, lstOf .frozen (a1 : (List T_api_Step))), (12, .int .i64 ((a0.length : Nat) : Int)), (13, .int .i64 x3)], [], [], []⟩) (fun (_ : Unit) => ⟨[], [], [], []⟩) h8 (by kernel_rfl) (fun _ => by kernel_rfl) ?_ ?_
  · rintro x3 oh7 h7
    unfold d_slices_Equal_api_Step_0 at h7
    refine pwp_seq (r_reg ?_)
    refine e_end (by kernel_rfl) ?_
    refine q_next (pwp_seq ?_)
    rcases o_cond h7 with ⟨hb, h7⟩ | ⟨hb, h7⟩
    · refine r_cond_t hb (by kernel_rfl) ?_
      refine pwp_skip (q_next (pwp_seq (pwp_block (pwp_seq (r_reg ?_)))))
      refine e_end (by kernel_rfl) ?_
      refine q_next (pwp_seq ?_)
      refine r_regd (by kernel_rfl) (by kernel_rfl) ?_
      refine p_run 2 (by kernel_rfl) ?_
      obtain ⟨x6, h9, h7⟩ := o_bind h7
      refine p_ix h9 (by kernel_rfl) ?_
      refine p_run 3 (by kernel_rfl) ?_
      obtain ⟨x7, h10, h7⟩ := o_bind h7
      refine p_ix h10 (by kernel_rfl) ?_
      refine e_end (by kernel_rfl) ?_
      refine q_next ?_
      rcases o_cond h7 with ⟨hb, h7⟩ | ⟨hb, h7⟩
      · refine r_cond_t hb (by kernel_rfl) ?_
        refine pwp_seq (r_reg ?_)
        refine e_end (by kernel_rfl) ?_
        refine q_next (pwp_ret (q_block_ret (q_seq_ret ?_)))
        cases h7
        refine q_lout_ret fun he => ?_
        subst he
        have h11 := o_outr h
        refine q_block_ret (q_seq_ret ?_)
        cases h11
        exact q_ret (by kernel_rfl) (by kernel_rfl) (by kernel_rfl)
      refine r_cond_f hb (by kernel_rfl) ?_
      refine pwp_skip (q_block (q_next (r_reg ?_)))
      refine e_end (by kernel_rfl) ?_
      cases h7
      exact q_lback (by kernel_rfl)
    refine r_cond_f hb (by kernel_rfl) ?_
    refine pwp_exit (q_seq_exit ?_)
    cases h7
    exact q_lexit (by kernel_rfl) (by kernel_rfl)
  rintro _ s' rfl hs
  have h := o_outl h
  refine q_block_hit ?_
  refine q_next (pwp_wkr hs ?_)
  refine pwp_seq (r_reg ?_)
  refine e_end (by kernel_rfl) ?_
  refine q_next (pwp_ret ?_)
  cases h
  exact q_ret (by kernel_rfl) (by kernel_rfl) (by kernel_rfl)

end PM
