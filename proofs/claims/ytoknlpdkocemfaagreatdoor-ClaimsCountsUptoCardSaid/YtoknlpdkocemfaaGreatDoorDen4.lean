/-
  Plain functions for the program's functions, and the proofs that the program does them. Printed by den.py.
-/
import Derived.Test.YtoknlpdkocemfaaGreatDoorDen3
namespace PM
open Go Go.RowKit
attribute [local irreducible] pops pwp

/-! claims.Report -/
noncomputable def d_claims_Report_0 (a1 : T_api_Table) (a3 : T_api_Track) (x7 : (List Int)) (x8 : (List Int)) (x9 : (List Int)) : (Bool × Int × Int × (List Int) × (List Int) × (List Int)) → Option ((Bool × Int × Int × (List Int) × (List Int) × (List Int)) ⊕ (((List Int) × (List Int) × (List Int) × Bool × Int) ⊕ (Int × Int × (List T_api_Step) × (List Int) × (List Int) × (List Int)))) := fun (x558, x559, x560, x561, x562, x563) =>
  bif decide (x559 < ((x7.length : Nat) : Int)) then (
    onInl (α := ((List Int) × (List Int) × (List Int) × Bool × Int)) (β := ((Bool × Int × Int × (List Int) × (List Int) × (List Int)) ⊕ (((List Int) × (List Int) × (List Int) × Bool × Int) ⊕ (Int × Int × (List T_api_Step) × (List Int) × (List Int) × (List Int))))) (
      (ixO x7 x559).bind fun x620 =>
      ((bif decide (((x8.length : Nat) : Int) ≤ x559) then some true else (
        some (decide (((x9.length : Nat) : Int) ≤ x559))
      )) : Option Bool).bind fun b621 =>
      bif b621 then (
        some (.inr (.inr (.inl (x561, x562, x563, x558, x560))))
      ) else (
        (ixO x9 x559).bind fun x622 =>
        bif decide (x622 ≤ a3.Cut) then (
          (appO x561 [x620]).bind fun x623 =>
          (ixO x8 x559).bind fun x624 =>
          (appO x562 [x624]).bind fun x625 =>
          (ixO x9 x559).bind fun x626 =>
          (appO x563 [x626]).bind fun x627 =>
          some (.inl (x623, x625, x627, x558, x560))
        ) else (
          onInl (α := Int) (β := (((List Int) × (List Int) × (List Int) × Bool × Int) ⊕ ((Bool × Int × Int × (List Int) × (List Int) × (List Int)) ⊕ (((List Int) × (List Int) × (List Int) × Bool × Int) ⊕ (Int × Int × (List T_api_Step) × (List Int) × (List Int) × (List Int)))))) (
            ((bif ((!x558) && (decide (0 ≤ x620))) then (
              some (decide (x620 < ((a1.Routes.length : Nat) : Int)))
            ) else some false) : Option Bool).bind fun b631 =>
            bif b631 then (
              (ixO a1.Routes x620).bind fun x632 =>
              some (.inl x632.Entry)
            ) else (
              some (.inl x560)
            )
          ) fun x630 =>
          some (.inl (x561, x562, x563, true, x630))
        )
      )
    ) fun (x615, x616, x617, x618, x619) =>
    some (.inl (x618, w64 (x559 + 1), x619, x615, x616, x617))
  ) else (
    some (.inr (.inl (x561, x562, x563, x558, x560)))
  )

noncomputable def d_claims_Report_1 (a2 : T_api_Train) (a4 : T_api_Report) : ((List Int) × (List Int) × (List Int) × (List Int)) → Option (((List Int) × (List Int) × (List Int) × (List Int)) ⊕ (((List Int) × (List Int) × (List Int) × (List Int)) ⊕ T_api_Track)) := fun (x657, x658, x659, x660) =>
  ((bif decide (0 < ((x657.length : Nat) : Int)) then (
    some (decide (0 < ((x658.length : Nat) : Int)))
  ) else some false) : Option Bool).bind fun b682 =>
  ((bif b682 then (
    some (decide (0 < ((x659.length : Nat) : Int)))
  ) else some false) : Option Bool).bind fun b683 =>
  ((bif b683 then (
    (ixO x658 0).bind fun x685 =>
    (d_integrity_Beyond a2 a4 x685).bind fun r686 =>
    some r686
  ) else some false) : Option Bool).bind fun b684 =>
  bif b684 then (
    onInl (α := (List Int)) (β := (((List Int) × (List Int) × (List Int) × (List Int)) ⊕ (((List Int) × (List Int) × (List Int) × (List Int)) ⊕ T_api_Track))) (
      (ixO x657 0).bind fun x692 =>
      (d_slices_Contains_int x660 x692).bind fun r693 =>
      bif (!r693) then (
        (ixO x657 0).bind fun x694 =>
        (appO x660 [x694]).bind fun x695 =>
        some (.inl x695)
      ) else (
        some (.inl x660)
      )
    ) fun x691 =>
    (slO x657 (some 1) none none).bind fun x696 =>
    (slO x658 (some 1) none none).bind fun x697 =>
    (slO x659 (some 1) none none).bind fun x698 =>
    some (.inl (x696, x697, x698, x691))
  ) else (
    some (.inr (.inl (x657, x658, x659, x660)))
  )

noncomputable def d_claims_Report_2 (a0 : T_api_Layout) (r724 : Int) : (Int × (List T_api_Step)) → Option ((Int × (List T_api_Step)) ⊕ ((Int × (List T_api_Step)) ⊕ ((Int × (List T_api_Step)) ⊕ T_api_Track))) := fun (x731, x732) =>
  ((bif decide (2 ≤ ((x732.length : Nat) : Int)) then (
    (ixO x732 0).bind fun x742 =>
    (d_claims_length a0 x742).bind fun r743 =>
    some (decide ((w64 (x731 + r743)) ≤ r724))
  ) else some false) : Option Bool).bind fun b741 =>
  bif b741 then (
    (ixO x732 0).bind fun x744 =>
    (d_claims_length a0 x744).bind fun r745 =>
    (slO x732 (some 1) none none).bind fun x746 =>
    some (.inl (w64 (x731 + r745), x746))
  ) else (
    some (.inr (.inl (x731, x732)))
  )

noncomputable def d_claims_Report (a0 : T_api_Layout) (a1 : T_api_Table) (a2 : T_api_Train) (a3 : T_api_Track) (a4 : T_api_Report) : Option T_api_Track :=
  Option.bind (α := ((List T_api_Step) × (List Int) × (List Int) × (List Int) × (List Int))) (
    (d_slices_Clone_api_Step a3.Steps).bind fun r11 =>
    (d_slices_Clone_int a3.Routes).bind fun r12 =>
    (d_slices_Clone_int a3.Starts).bind fun r13 =>
    (d_slices_Clone_int a3.Ends).bind fun r14 =>
    (d_slices_Clone_int a3.Done).bind fun r15 =>
    some (r11, r12, r13, r14, r15)
  ) fun (x6, x7, x8, x9, x10) =>
  onInl (α := (Int × Int × (List T_api_Step) × (List Int) × (List Int) × (List Int) × Int × Int)) (β := T_api_Track) (
    bif ((!(decide (a3.CutSeq = 0))) && (decide (a3.CutSeq ≤ (max a3.Accepted (min a3.Sent a4.Accepted))))) then (
      Option.bind (α := (Int × Int × (List T_api_Step) × (List Int) × (List Int) × (List Int))) (
        onInl (α := ((List Int) × (List Int) × (List Int) × Bool × Int)) (β := (Int × Int × (List T_api_Step) × (List Int) × (List Int) × (List Int))) (loopO (d_claims_Report_0 a1 a3 x7 x8 x9) (false, 0, a3.End, ([] : (List Int)), ([] : (List Int)), ([] : (List Int)))) fun (x597, x598, x599, x600, x601) =>
        onInl (α := (Int × (List T_api_Step) × (List Int) × (List Int) × (List Int))) (β := (Int × Int × (List T_api_Step) × (List Int) × (List Int) × (List Int))) (
          bif x600 then (
            (d_claims_until a0 x6 a3.Origin a3.Cut).bind fun r639 =>
            some (.inl (a3.Cut, r639, x597, x598, x599))
          ) else (
            some (.inl (a3.At, x6, x7, x8, x9))
          )
        ) fun (x634, x635, x636, x637, x638) =>
        some (x601, x634, x635, x636, x637, x638)
      ) fun (x483, x484, x485, x486, x487, x488) =>
      some (.inl (x483, x484, x485, x486, x487, x488, 0, 0))
    ) else (
      some (.inl (a3.End, a3.At, x6, x7, x8, x9, a3.Cut, a3.CutSeq))
    )
  ) fun (x324, x325, x326, x327, x328, x329, x330, x331) =>
  onInl (α := ((List Int) × (List Int) × (List Int) × (List Int))) (β := T_api_Track) (loopO (d_claims_Report_1 a2 a4) (x327, x328, x329, x10)) fun (x678, x679, x680, x681) =>
  onInl (α := (Int × (List T_api_Step))) (β := T_api_Track) (
    bif a4.Whole then (
      (d_integrity_Rear a2 (max a3.Min a4.Min)).bind fun r724 =>
      onInl (α := (Int × (List T_api_Step))) (β := ((Int × (List T_api_Step)) ⊕ T_api_Track)) (loopO (d_claims_Report_2 a0 r724) (a3.Origin, x326)) fun (x739, x740) =>
      some (.inl (x739, x740))
    ) else (
      some (.inl (a3.Origin, x326))
    )
  ) fun (x722, x723) =>
  some (T_api_Track.mk a3.Id x722 x324 x325 x723 x678 x679 x680 x681 (max a3.Min a4.Min) a3.Sent (max a3.Accepted (min a3.Sent a4.Accepted)) x330 x331)
set_option maxRecDepth 100000 in
theorem d_claims_Report_ok (a0 : T_api_Layout) (a1 : T_api_Table) (a2 : T_api_Train) (a3 : T_api_Track) (a4 : T_api_Report) (r : T_api_Track) (h : d_claims_Report a0 a1 a2 a3 a4 = some r) : PCall Go.Proofs.Tryz.prog GlS 18 [Enc.pv a0, Enc.pv a1, Enc.pv a2, Enc.pv a3, Enc.pv a4] (Enc.pv r) := by
  unfold d_claims_Report at h
  refine pcall_of_pwp Go.Proofs.Tryz.func18 (by rfl) rfl Go.Proofs.Tryz.ntmps18 (by rfl) rfl ?_
  refine pwp_seq (r_reg ?_)
  refine zE ?_
  refine q_next (pwp_seq (r_regi ?_))
  refine wl_run 0 1 ?_
  refine zE ?_
  refine wl_ren 1 ⟨[(5, .ref 1005 0), (6, .ref 1006 0), (7, .ref 1007 0), (8, .ref 1008 0), (9, .ref 1009 0), (10, .ref 1010 0), (12, Enc.pv a3)], [(1005, .cells (cellsOf a0)), (1006, .cells (cellsOf a1)), (1007, .cells (cellsOf a2)), (1008, .cells (cellsOf a3)), (1009, .cells (cellsOf a4)), (1010, .cells ([.int .i64 0, .int .i64 0, .int .i64 0, .int .i64 0, .nil, .nil, .nil, .nil, .nil, .int .i64 0, .int .i64 0, .int .i64 0, .int .i64 0, .int .i64 0]))], [], []⟩ 135 (by kernel_rfl) (by kernel_rfl) (by kernel_rfl) ?_
  obtain ⟨o6, h6, h⟩ := o_bind h
  refine p_inl (f := 44) (asx := [Enc.pv a3]) (by kernel_rfl) Go.Proofs.Tryz.func44 (by rfl) rfl Go.Proofs.Tryz.ntmps44 (by rfl) ?_
  refine r_joinI o6 13500159 (fun (x6, x7, x8, x9, x10) => ⟨[(2, .ref 2 0), (29, .ref 1005 0), (30, .ref 1006 0), (31, .ref 1007 0), (32, .ref 1008 0), (33, .ref 1009 0), (34, .ref 1010 0)], [(2, .cells ([.int .i64 a3.Id, .int .i64 a3.Origin, .int .i64 a3.End, .int .i64 a3.At, lstOf (.own 5007) (x6 : (List T_api_Step)), lstOf (.own 9007) (x7 : (List Int)), lstOf (.own 13007) (x8 : (List Int)), lstOf (.own 17007) (x9 : (List Int)), lstOf (.own 21007) (x10 : (List Int)), .int .i64 a3.Min, .int .i64 a3.Sent, .int .i64 a3.Accepted, .int .i64 a3.Cut, .int .i64 a3.CutSeq])), (1005, .cells (cellsOf a0)), (1006, .cells (cellsOf a1)), (1007, .cells (cellsOf a2)), (1008, .cells (cellsOf a3)), (1009, .cells (cellsOf a4)), (1010, .cells ([.int .i64 0, .int .i64 0, .int .i64 0, .int .i64 0, .nil, .nil, .nil, .nil, .nil, .int .i64 0, .int .i64 0, .int .i64 0, .int .i64 0, .int .i64 0]))], [(5007, (((x6).map cellsOf).length, 3)), (9007, (((x7).map cellsOf).length, 1)), (13007, (((x8).map cellsOf).length, 1)), (17007, (((x9).map cellsOf).length, 1)), (21007, (((x10).map cellsOf).length, 1))], []⟩) ?_ ?_
  · refine pwp_seq (r_reg ?_)
    refine zE ?_
    refine q_next (pwp_seq (r_reg ?_))
    refine zR 2 ?_
    obtain ⟨r11, h7, h6⟩ := o_bind h6
    refine p_call (d_slices_Clone_api_Step_ok _ r11 h7) (by kernel_rfl) (by kernel_rfl) ?_
    refine zE ?_
    refine q_next (pwp_seq (r_reg ?_))
    refine zR 2 ?_
    obtain ⟨r12, h8, h6⟩ := o_bind h6
    refine p_call (d_slices_Clone_int_ok _ r12 h8) (by kernel_rfl) (by kernel_rfl) ?_
    refine zE ?_
    refine q_next (pwp_seq (r_reg ?_))
    refine zR 2 ?_
    obtain ⟨r13, h9, h6⟩ := o_bind h6
    refine p_call (d_slices_Clone_int_ok _ r13 h9) (by kernel_rfl) (by kernel_rfl) ?_
    refine zE ?_
    refine q_next (pwp_seq (r_reg ?_))
    refine zR 2 ?_
    obtain ⟨r14, h10, h6⟩ := o_bind h6
    refine p_call (d_slices_Clone_int_ok _ r14 h10) (by kernel_rfl) (by kernel_rfl) ?_
    refine zE ?_
    refine q_next (pwp_seq (r_reg ?_))
    refine zR 2 ?_
    obtain ⟨r15, h11, h6⟩ := o_bind h6
    refine p_call (d_slices_Clone_int_ok _ r15 h11) (by kernel_rfl) (by kernel_rfl) ?_
    refine zE ?_
    refine q_next (pwp_seq (r_reg ?_))
    refine zE ?_
    refine q_next (pwp_ret ?_)
    cases h6
    exact q_ij (by kernel_rfl) (by kernel_rfl)
  obtain ⟨x6, x7, x8, x9, x10⟩ := o6
  refine q_inl (r := .agg [.int .i64 a3.Id, .int .i64 a3.Origin, .int .i64 a3.End, .int .i64 a3.At, lstOf (.own 5007) (x6 : (List T_api_Step)), lstOf (.own 9007) (x7 : (List Int)), lstOf (.own 13007) (x8 : (List Int)), lstOf (.own 17007) (x9 : (List Int)), lstOf (.own 21007) (x10 : (List Int)), .int .i64 a3.Min, .int .i64 a3.Sent, .int .i64 a3.Accepted, .int .i64 a3.Cut, .int .i64 a3.CutSeq]) (by kernel_rfl) ?_
  refine wl_ren 2 ⟨[(5, .ref 1005 0), (6, .ref 1006 0), (7, .ref 1007 0), (8, .ref 1008 0), (9, .ref 1009 0), (10, .ref 1010 0), (13, .agg [.int .i64 a3.Id, .int .i64 a3.Origin, .int .i64 a3.End, .int .i64 a3.At, lstOf (.own 2005007) (x6 : (List T_api_Step)), lstOf (.own 2009007) (x7 : (List Int)), lstOf (.own 2013007) (x8 : (List Int)), lstOf (.own 2017007) (x9 : (List Int)), lstOf (.own 2021007) (x10 : (List Int)), .int .i64 a3.Min, .int .i64 a3.Sent, .int .i64 a3.Accepted, .int .i64 a3.Cut, .int .i64 a3.CutSeq])], [(1005, .cells (cellsOf a0)), (1006, .cells (cellsOf a1)), (1007, .cells (cellsOf a2)), (1008, .cells (cellsOf a3)), (1009, .cells (cellsOf a4)), (1010, .cells ([.int .i64 0, .int .i64 0, .int .i64 0, .int .i64 0, .nil, .nil, .nil, .nil, .nil, .int .i64 0, .int .i64 0, .int .i64 0, .int .i64 0, .int .i64 0]))], [(2005007, (((x6).map cellsOf).length, 3)), (2009007, (((x7).map cellsOf).length, 1)), (2013007, (((x8).map cellsOf).length, 1)), (2017007, (((x9).map cellsOf).length, 1)), (2021007, (((x10).map cellsOf).length, 1))], []⟩ 135 (by kernel_rfl) (by kernel_rfl) (by kernel_rfl) ?_
  refine wl_ren 1 ⟨[(5, .ref 5 0), (6, .ref 6 0), (7, .ref 7 0), (8, .ref 8 0), (9, .ref 9 0), (10, .ref 10 0), (13, .agg [.int .i64 a3.Id, .int .i64 a3.Origin, .int .i64 a3.End, .int .i64 a3.At, lstOf (.own 2005007) (x6 : (List T_api_Step)), lstOf (.own 2009007) (x7 : (List Int)), lstOf (.own 2013007) (x8 : (List Int)), lstOf (.own 2017007) (x9 : (List Int)), lstOf (.own 2021007) (x10 : (List Int)), .int .i64 a3.Min, .int .i64 a3.Sent, .int .i64 a3.Accepted, .int .i64 a3.Cut, .int .i64 a3.CutSeq])], [(5, .cells (cellsOf a0)), (6, .cells (cellsOf a1)), (7, .cells (cellsOf a2)), (8, .cells (cellsOf a3)), (9, .cells (cellsOf a4)), (10, .cells ([.int .i64 0, .int .i64 0, .int .i64 0, .int .i64 0, .nil, .nil, .nil, .nil, .nil, .int .i64 0, .int .i64 0, .int .i64 0, .int .i64 0, .int .i64 0]))], [(2005007, (((x6).map cellsOf).length, 3)), (2009007, (((x7).map cellsOf).length, 1)), (2013007, (((x8).map cellsOf).length, 1)), (2017007, (((x9).map cellsOf).length, 1)), (2021007, (((x10).map cellsOf).length, 1))], []⟩ 135 (by kernel_rfl) (by kernel_rfl) (by kernel_rfl) ?_
  refine wl_run 2 1 ?_
  refine zE ?_
  refine wl_end (q_next (pwp_seq (r_reg ?_)))
  refine zE ?_
  refine q_next (pwp_seq (r_reg ?_))
  refine zE ?_
  refine q_next ?_
  obtain ⟨o255, h255, h⟩ := o_inl h
  refine r_join (o := o255) 135 (fun (x324, x325, x326, x327, x328, x329, x330, x331) => ⟨[(5, .ref 5 0), (7, .ref 7 0), (8, .ref 8 0), (9, .ref 9 0), (10, .ref 10 0)], [(5, .cells (cellsOf a0)), (7, .cells (cellsOf a2)), (8, .cells ([.int .i64 a3.Id, .int .i64 a3.Origin, .int .i64 x324, .int .i64 x325, lstOf .frozen (x326 : (List T_api_Step)), lstOf .frozen (x327 : (List Int)), lstOf .frozen (x328 : (List Int)), lstOf .frozen (x329 : (List Int)), lstOf (.own 2021007) (x10 : (List Int)), .int .i64 (max a3.Min a4.Min), .int .i64 a3.Sent, .int .i64 (max a3.Accepted (min a3.Sent a4.Accepted)), .int .i64 x330, .int .i64 x331])), (9, .cells (cellsOf a4)), (10, .cells ([.int .i64 0, .int .i64 0, .int .i64 0, .int .i64 0, .nil, .nil, .nil, .nil, .nil, .int .i64 0, .int .i64 0, .int .i64 0, .int .i64 0, .int .i64 0]))], [(2021007, (((x10).map cellsOf).length, 1))], []⟩) ?_ ?_
  · refine pwp_seq (r_reg ?_)
    refine zR 4 ?_
    refine e_segb 6 38 ((!(decide (a3.CutSeq = 0))) && (decide (a3.CutSeq ≤ (max a3.Accepted (min a3.Sent a4.Accepted))))) (fun x hx => ?_) ?_
    · rcases b_and hx with ⟨hb, hx⟩ | ⟨hb, hx⟩
      · refine zS 32 hb ?_
        subst hx
        exact zF
      refine zS 32 hb ?_
      subst hx
      exact zF
    refine zN ?_
    refine q_next ?_
    rcases o_cond h255 with ⟨hb, h255⟩ | ⟨hb, h255⟩
    · refine zT hb ?_
      refine r_regi ?_
      refine wl_run 0 3 ?_
      refine zE ?_
      refine wl_ren 3 ⟨[(5, .ref 3005 0), (7, .ref 3007 0), (8, .ref 3008 0), (9, .ref 3009 0), (10, .ref 3010 0), (39, Enc.pv a0), (40, Enc.pv a1), (41, .agg [.int .i64 a3.Id, .int .i64 a3.Origin, .int .i64 a3.End, .int .i64 a3.At, lstOf (.own 2005007) (x6 : (List T_api_Step)), lstOf (.own 2009007) (x7 : (List Int)), lstOf (.own 2013007) (x8 : (List Int)), lstOf (.own 2017007) (x9 : (List Int)), lstOf (.own 2021007) (x10 : (List Int)), .int .i64 (max a3.Min a4.Min), .int .i64 a3.Sent, .int .i64 (max a3.Accepted (min a3.Sent a4.Accepted)), .int .i64 a3.Cut, .int .i64 a3.CutSeq])], [(3005, .cells (cellsOf a0)), (3007, .cells (cellsOf a2)), (3008, .cells ([.int .i64 a3.Id, .int .i64 a3.Origin, .int .i64 a3.End, .int .i64 a3.At, lstOf (.own 2005007) (x6 : (List T_api_Step)), lstOf (.own 2009007) (x7 : (List Int)), lstOf (.own 2013007) (x8 : (List Int)), lstOf (.own 2017007) (x9 : (List Int)), lstOf (.own 2021007) (x10 : (List Int)), .int .i64 (max a3.Min a4.Min), .int .i64 a3.Sent, .int .i64 (max a3.Accepted (min a3.Sent a4.Accepted)), .int .i64 a3.Cut, .int .i64 a3.CutSeq])), (3009, .cells (cellsOf a4)), (3010, .cells ([.int .i64 0, .int .i64 0, .int .i64 0, .int .i64 0, .nil, .nil, .nil, .nil, .nil, .int .i64 0, .int .i64 0, .int .i64 0, .int .i64 0, .int .i64 0]))], [(2005007, (((x6).map cellsOf).length, 3)), (2009007, (((x7).map cellsOf).length, 1)), (2013007, (((x8).map cellsOf).length, 1)), (2017007, (((x9).map cellsOf).length, 1)), (2021007, (((x10).map cellsOf).length, 1))], []⟩ 135 (by kernel_rfl) (by kernel_rfl) (by kernel_rfl) ?_
      obtain ⟨o377, h377, h255⟩ := o_bind h255
      refine p_inl (f := 46) (asx := [Enc.pv a0, Enc.pv a1, .agg [.int .i64 a3.Id, .int .i64 a3.Origin, .int .i64 a3.End, .int .i64 a3.At, lstOf (.own 2005007) (x6 : (List T_api_Step)), lstOf (.own 2009007) (x7 : (List Int)), lstOf (.own 2013007) (x8 : (List Int)), lstOf (.own 2017007) (x9 : (List Int)), lstOf (.own 2021007) (x10 : (List Int)), .int .i64 (max a3.Min a4.Min), .int .i64 a3.Sent, .int .i64 (max a3.Accepted (min a3.Sent a4.Accepted)), .int .i64 a3.Cut, .int .i64 a3.CutSeq]]) (by kernel_rfl) Go.Proofs.Tryz.func46 (by rfl) rfl Go.Proofs.Tryz.ntmps46 (by rfl) ?_
      refine r_joinI o377 13500239 (fun (x483, x484, x485, x486, x487, x488) => ⟨[(6, .ref 6 0), (109, .ref 3005 0), (111, .ref 3007 0), (112, .ref 3008 0), (113, .ref 3009 0), (114, .ref 3010 0)], [(6, .cells ([.int .i64 a3.Id, .int .i64 a3.Origin, .int .i64 x483, .int .i64 x484, lstOf .frozen (x485 : (List T_api_Step)), lstOf .frozen (x486 : (List Int)), lstOf .frozen (x487 : (List Int)), lstOf .frozen (x488 : (List Int)), lstOf (.own 2021007) (x10 : (List Int)), .int .i64 (max a3.Min a4.Min), .int .i64 a3.Sent, .int .i64 (max a3.Accepted (min a3.Sent a4.Accepted)), .int .i64 0, .int .i64 0])), (3005, .cells (cellsOf a0)), (3007, .cells (cellsOf a2)), (3008, .cells ([.int .i64 a3.Id, .int .i64 a3.Origin, .int .i64 a3.End, .int .i64 a3.At, lstOf (.own 2005007) (x6 : (List T_api_Step)), lstOf (.own 2009007) (x7 : (List Int)), lstOf (.own 2013007) (x8 : (List Int)), lstOf (.own 2017007) (x9 : (List Int)), lstOf (.own 2021007) (x10 : (List Int)), .int .i64 (max a3.Min a4.Min), .int .i64 a3.Sent, .int .i64 (max a3.Accepted (min a3.Sent a4.Accepted)), .int .i64 a3.Cut, .int .i64 a3.CutSeq])), (3009, .cells (cellsOf a4)), (3010, .cells ([.int .i64 0, .int .i64 0, .int .i64 0, .int .i64 0, .nil, .nil, .nil, .nil, .nil, .int .i64 0, .int .i64 0, .int .i64 0, .int .i64 0, .int .i64 0]))], [(2005007, (((x6).map cellsOf).length, 3)), (2009007, (((x7).map cellsOf).length, 1)), (2013007, (((x8).map cellsOf).length, 1)), (2017007, (((x9).map cellsOf).length, 1)), (2021007, (((x10).map cellsOf).length, 1))], []⟩) ?_ ?_
      · refine pwp_seq (r_reg ?_)
        refine zE ?_
        refine q_next (pwp_seq (r_reg ?_))
        refine zE ?_
        refine q_next (pwp_seq (r_reg ?_))
        refine zE ?_
        refine q_next (pwp_seq (pwp_seq (r_reg ?_)))
        refine zR 2 ?_
        refine p_len (L := (x7 : (List Int))) (by kernel_rfl) ?_
        refine zE ?_
        refine q_next (pwp_block ?_)
        refine g_nil 7 100007 1 8 (by kernel_rfl) (by kernel_rfl) ?_
        refine g_nil 8 100008 1 8 (by kernel_rfl) (by kernel_rfl) ?_
        refine g_nil 9 100009 1 8 (by kernel_rfl) (by kernel_rfl) ?_
        obtain ⟨o466, h466, h377⟩ := o_inl h377
        refine r_loop2 13500239 0 (fun (x558, x559, x560, x561, x562, x563) => ⟨[(3, .ref 3 0), (4, .ref 4 0), (5, .ref 5 0), (6, .ref 6 0), (7, lstOf (.own 100007) (x561 : (List Int))), (8, lstOf (.own 100008) (x562 : (List Int))), (9, lstOf (.own 100009) (x563 : (List Int))), (10, .bool x558), (14, lstOf (.own 2009007) (x7 : (List Int))), (15, .int .i64 ((x7.length : Nat) : Int)), (16, .int .i64 x559), (109, .ref 3005 0), (111, .ref 3007 0), (112, .ref 3008 0), (113, .ref 3009 0), (114, .ref 3010 0)], [(3, .cells (cellsOf a0)), (4, .cells (cellsOf a1)), (5, .cells ([.int .i64 a3.Id, .int .i64 a3.Origin, .int .i64 x560, .int .i64 a3.At, lstOf (.own 2005007) (x6 : (List T_api_Step)), lstOf (.own 2009007) (x7 : (List Int)), lstOf (.own 2013007) (x8 : (List Int)), lstOf (.own 2017007) (x9 : (List Int)), lstOf (.own 2021007) (x10 : (List Int)), .int .i64 (max a3.Min a4.Min), .int .i64 a3.Sent, .int .i64 (max a3.Accepted (min a3.Sent a4.Accepted)), .int .i64 a3.Cut, .int .i64 a3.CutSeq])), (6, .cells ([.int .i64 0, .int .i64 0, .int .i64 0, .int .i64 0, .nil, .nil, .nil, .nil, .nil, .int .i64 0, .int .i64 0, .int .i64 0, .int .i64 0, .int .i64 0])), (3005, .cells (cellsOf a0)), (3007, .cells (cellsOf a2)), (3008, .cells ([.int .i64 a3.Id, .int .i64 a3.Origin, .int .i64 a3.End, .int .i64 a3.At, lstOf (.own 2005007) (x6 : (List T_api_Step)), lstOf (.own 2009007) (x7 : (List Int)), lstOf (.own 2013007) (x8 : (List Int)), lstOf (.own 2017007) (x9 : (List Int)), lstOf (.own 2021007) (x10 : (List Int)), .int .i64 (max a3.Min a4.Min), .int .i64 a3.Sent, .int .i64 (max a3.Accepted (min a3.Sent a4.Accepted)), .int .i64 a3.Cut, .int .i64 a3.CutSeq])), (3009, .cells (cellsOf a4)), (3010, .cells ([.int .i64 0, .int .i64 0, .int .i64 0, .int .i64 0, .nil, .nil, .nil, .nil, .nil, .int .i64 0, .int .i64 0, .int .i64 0, .int .i64 0, .int .i64 0]))], [(100007, (((x561).map cellsOf).length, 1)), (100008, (((x562).map cellsOf).length, 1)), (100009, (((x563).map cellsOf).length, 1)), (2005007, (((x6).map cellsOf).length, 3)), (2009007, (((x7).map cellsOf).length, 1)), (2013007, (((x8).map cellsOf).length, 1)), (2017007, (((x9).map cellsOf).length, 1)), (2021007, (((x10).map cellsOf).length, 1))], []⟩) (fun (x597, x598, x599, x600, x601) => ⟨[(3, .ref 3 0), (5, .ref 5 0), (6, .ref 6 0), (7, lstOf (.own 100007) (x597 : (List Int))), (8, lstOf (.own 100008) (x598 : (List Int))), (9, lstOf (.own 100009) (x599 : (List Int))), (10, .bool x600), (109, .ref 3005 0), (111, .ref 3007 0), (112, .ref 3008 0), (113, .ref 3009 0), (114, .ref 3010 0)], [(3, .cells (cellsOf a0)), (5, .cells ([.int .i64 a3.Id, .int .i64 a3.Origin, .int .i64 x601, .int .i64 a3.At, lstOf (.own 2005007) (x6 : (List T_api_Step)), lstOf (.own 2009007) (x7 : (List Int)), lstOf (.own 2013007) (x8 : (List Int)), lstOf (.own 2017007) (x9 : (List Int)), lstOf (.own 2021007) (x10 : (List Int)), .int .i64 (max a3.Min a4.Min), .int .i64 a3.Sent, .int .i64 (max a3.Accepted (min a3.Sent a4.Accepted)), .int .i64 a3.Cut, .int .i64 a3.CutSeq])), (6, .cells ([.int .i64 0, .int .i64 0, .int .i64 0, .int .i64 0, .nil, .nil, .nil, .nil, .nil, .int .i64 0, .int .i64 0, .int .i64 0, .int .i64 0, .int .i64 0])), (3005, .cells (cellsOf a0)), (3007, .cells (cellsOf a2)), (3008, .cells ([.int .i64 a3.Id, .int .i64 a3.Origin, .int .i64 a3.End, .int .i64 a3.At, lstOf (.own 2005007) (x6 : (List T_api_Step)), lstOf (.own 2009007) (x7 : (List Int)), lstOf (.own 2013007) (x8 : (List Int)), lstOf (.own 2017007) (x9 : (List Int)), lstOf (.own 2021007) (x10 : (List Int)), .int .i64 (max a3.Min a4.Min), .int .i64 a3.Sent, .int .i64 (max a3.Accepted (min a3.Sent a4.Accepted)), .int .i64 a3.Cut, .int .i64 a3.CutSeq])), (3009, .cells (cellsOf a4)), (3010, .cells ([.int .i64 0, .int .i64 0, .int .i64 0, .int .i64 0, .nil, .nil, .nil, .nil, .nil, .int .i64 0, .int .i64 0, .int .i64 0, .int .i64 0, .int .i64 0]))], [(100007, (((x597).map cellsOf).length, 1)), (100008, (((x598).map cellsOf).length, 1)), (100009, (((x599).map cellsOf).length, 1)), (2005007, (((x6).map cellsOf).length, 3)), (2009007, (((x7).map cellsOf).length, 1)), (2013007, (((x8).map cellsOf).length, 1)), (2017007, (((x9).map cellsOf).length, 1)), (2021007, (((x10).map cellsOf).length, 1))], []⟩) h466 (by kernel_rfl) (fun _ => by kernel_rfl) ?_ ?_
        · rintro ⟨x558, x559, x560, x561, x562, x563⟩ oh465 h465
          unfold d_claims_Report_0 at h465
          refine pwp_seq (r_reg ?_)
          refine zE ?_
          refine q_next (pwp_seq ?_)
          rcases o_cond h465 with ⟨hb, h465⟩ | ⟨hb, h465⟩
          · refine zT hb ?_
            refine pwp_skip (q_next ?_)
            obtain ⟨o481, h481, h465⟩ := o_inl h465
            refine r_join (o := o481) 13500239 (fun (x615, x616, x617, x618, x619) => ⟨[(3, .ref 3 0), (4, .ref 4 0), (5, .ref 5 0), (6, .ref 6 0), (7, lstOf (.own 100007) (x615 : (List Int))), (8, lstOf (.own 100008) (x616 : (List Int))), (9, lstOf (.own 100009) (x617 : (List Int))), (10, .bool x618), (14, lstOf (.own 2009007) (x7 : (List Int))), (15, .int .i64 ((x7.length : Nat) : Int)), (16, .int .i64 x559), (109, .ref 3005 0), (111, .ref 3007 0), (112, .ref 3008 0), (113, .ref 3009 0), (114, .ref 3010 0)], [(3, .cells (cellsOf a0)), (4, .cells (cellsOf a1)), (5, .cells ([.int .i64 a3.Id, .int .i64 a3.Origin, .int .i64 x619, .int .i64 a3.At, lstOf (.own 2005007) (x6 : (List T_api_Step)), lstOf (.own 2009007) (x7 : (List Int)), lstOf (.own 2013007) (x8 : (List Int)), lstOf (.own 2017007) (x9 : (List Int)), lstOf (.own 2021007) (x10 : (List Int)), .int .i64 (max a3.Min a4.Min), .int .i64 a3.Sent, .int .i64 (max a3.Accepted (min a3.Sent a4.Accepted)), .int .i64 a3.Cut, .int .i64 a3.CutSeq])), (6, .cells ([.int .i64 0, .int .i64 0, .int .i64 0, .int .i64 0, .nil, .nil, .nil, .nil, .nil, .int .i64 0, .int .i64 0, .int .i64 0, .int .i64 0, .int .i64 0])), (3005, .cells (cellsOf a0)), (3007, .cells (cellsOf a2)), (3008, .cells ([.int .i64 a3.Id, .int .i64 a3.Origin, .int .i64 a3.End, .int .i64 a3.At, lstOf (.own 2005007) (x6 : (List T_api_Step)), lstOf (.own 2009007) (x7 : (List Int)), lstOf (.own 2013007) (x8 : (List Int)), lstOf (.own 2017007) (x9 : (List Int)), lstOf (.own 2021007) (x10 : (List Int)), .int .i64 (max a3.Min a4.Min), .int .i64 a3.Sent, .int .i64 (max a3.Accepted (min a3.Sent a4.Accepted)), .int .i64 a3.Cut, .int .i64 a3.CutSeq])), (3009, .cells (cellsOf a4)), (3010, .cells ([.int .i64 0, .int .i64 0, .int .i64 0, .int .i64 0, .nil, .nil, .nil, .nil, .nil, .int .i64 0, .int .i64 0, .int .i64 0, .int .i64 0, .int .i64 0]))], [(100007, (((x615).map cellsOf).length, 1)), (100008, (((x616).map cellsOf).length, 1)), (100009, (((x617).map cellsOf).length, 1)), (2005007, (((x6).map cellsOf).length, 3)), (2009007, (((x7).map cellsOf).length, 1)), (2013007, (((x8).map cellsOf).length, 1)), (2017007, (((x9).map cellsOf).length, 1)), (2021007, (((x10).map cellsOf).length, 1))], []⟩) ?_ ?_
            · refine pwp_block (pwp_seq (r_reg ?_))
              refine zR 1 ?_
              obtain ⟨x620, h482, h481⟩ := o_bind h481
              refine zI h482 ?_
              refine zE ?_
              refine q_next (pwp_seq (pwp_seq (r_reg ?_)))
              refine zR 3 ?_
              refine p_len (L := (x8 : (List Int))) (by kernel_rfl) ?_
              obtain ⟨b621, h483, h481⟩ := o_bind h481
              refine zR 2 ?_
              refine e_seg 6 32 (.bool b621) ?_ ?_
              · rcases o_cond h483 with ⟨hb, h483⟩ | ⟨hb, h483⟩
                · refine zS 26 hb ?_
                  cases h483
                  exact zF
                refine zS 26 hb ?_
                refine zR 3 ?_
                refine p_len (L := (x9 : (List Int))) (by kernel_rfl) ?_
                cases h483
                exact zF
              refine zN ?_
              refine q_next ?_
              rcases o_cond h481 with ⟨hb, h481⟩ | ⟨hb, h481⟩
              · refine zT hb ?_
                refine pwp_exit (q_seq_exit ?_)
                refine q_block_miss rfl ?_
                cases h481
                refine q_jout_exit ?_
                have h484 := o_outr h465
                cases h484
                exact zX
              refine zU hb ?_
              refine pwp_skip (q_next (pwp_seq (pwp_seq ?_)))
              refine r_regd (by kernel_rfl) (by kernel_rfl) ?_
              refine zR 3 ?_
              obtain ⟨x622, h485, h481⟩ := o_bind h481
              refine zI h485 ?_
              refine zE ?_
              refine q_next ?_
              rcases o_cond h481 with ⟨hb, h481⟩ | ⟨hb, h481⟩
              · refine zT hb ?_
                refine pwp_seq ?_
                refine r_regd (by kernel_rfl) (by kernel_rfl) ?_
                refine zR 3 ?_
                obtain ⟨x623, h486, h481⟩ := o_bind h481
                refine p_app (tk := 100007) h486 (by kernel_rfl) (by kernel_rfl) ?_
                refine zR 4 ?_
                obtain ⟨x624, h487, h481⟩ := o_bind h481
                refine zI h487 ?_
                refine zR 2 ?_
                obtain ⟨x625, h488, h481⟩ := o_bind h481
                refine p_app (tk := 100008) h488 (by kernel_rfl) (by kernel_rfl) ?_
                refine zR 4 ?_
                obtain ⟨x626, h489, h481⟩ := o_bind h481
                refine zI h489 ?_
                refine zR 2 ?_
                obtain ⟨x627, h490, h481⟩ := o_bind h481
                refine p_app (tk := 100009) h490 (by kernel_rfl) (by kernel_rfl) ?_
                refine zE ?_
                refine q_next (pwp_exit (q_seq_exit (q_block_hit ?_)))
                cases h481
                exact zJ
              refine zU hb ?_
              refine pwp_skip (q_next ?_)
              obtain ⟨o493, h493, h481⟩ := o_inl h481
              refine r_join (o := o493) 13500239 (fun x630 => ⟨[(3, .ref 3 0), (4, .ref 4 0), (5, .ref 5 0), (6, .ref 6 0), (7, lstOf (.own 100007) (x561 : (List Int))), (8, lstOf (.own 100008) (x562 : (List Int))), (9, lstOf (.own 100009) (x563 : (List Int))), (14, lstOf (.own 2009007) (x7 : (List Int))), (15, .int .i64 ((x7.length : Nat) : Int)), (16, .int .i64 x559), (109, .ref 3005 0), (111, .ref 3007 0), (112, .ref 3008 0), (113, .ref 3009 0), (114, .ref 3010 0)], [(3, .cells (cellsOf a0)), (4, .cells (cellsOf a1)), (5, .cells ([.int .i64 a3.Id, .int .i64 a3.Origin, .int .i64 x630, .int .i64 a3.At, lstOf (.own 2005007) (x6 : (List T_api_Step)), lstOf (.own 2009007) (x7 : (List Int)), lstOf (.own 2013007) (x8 : (List Int)), lstOf (.own 2017007) (x9 : (List Int)), lstOf (.own 2021007) (x10 : (List Int)), .int .i64 (max a3.Min a4.Min), .int .i64 a3.Sent, .int .i64 (max a3.Accepted (min a3.Sent a4.Accepted)), .int .i64 a3.Cut, .int .i64 a3.CutSeq])), (6, .cells ([.int .i64 0, .int .i64 0, .int .i64 0, .int .i64 0, .nil, .nil, .nil, .nil, .nil, .int .i64 0, .int .i64 0, .int .i64 0, .int .i64 0, .int .i64 0])), (3005, .cells (cellsOf a0)), (3007, .cells (cellsOf a2)), (3008, .cells ([.int .i64 a3.Id, .int .i64 a3.Origin, .int .i64 a3.End, .int .i64 a3.At, lstOf (.own 2005007) (x6 : (List T_api_Step)), lstOf (.own 2009007) (x7 : (List Int)), lstOf (.own 2013007) (x8 : (List Int)), lstOf (.own 2017007) (x9 : (List Int)), lstOf (.own 2021007) (x10 : (List Int)), .int .i64 (max a3.Min a4.Min), .int .i64 a3.Sent, .int .i64 (max a3.Accepted (min a3.Sent a4.Accepted)), .int .i64 a3.Cut, .int .i64 a3.CutSeq])), (3009, .cells (cellsOf a4)), (3010, .cells ([.int .i64 0, .int .i64 0, .int .i64 0, .int .i64 0, .nil, .nil, .nil, .nil, .nil, .int .i64 0, .int .i64 0, .int .i64 0, .int .i64 0, .int .i64 0]))], [(100007, (((x561).map cellsOf).length, 1)), (100008, (((x562).map cellsOf).length, 1)), (100009, (((x563).map cellsOf).length, 1)), (2005007, (((x6).map cellsOf).length, 3)), (2009007, (((x7).map cellsOf).length, 1)), (2013007, (((x8).map cellsOf).length, 1)), (2017007, (((x9).map cellsOf).length, 1)), (2021007, (((x10).map cellsOf).length, 1))], []⟩) ?_ ?_
              · refine pwp_seq (r_reg ?_)
                refine zR 3 ?_
                refine e_segb 3 66 ((!x558) && (decide (0 ≤ x620))) (fun x hx => ?_) ?_
                · rcases b_and hx with ⟨hb, hx⟩ | ⟨hb, hx⟩
                  · refine zS 63 hb ?_
                    subst hx
                    exact zF
                  refine zS 63 hb ?_
                  subst hx
                  exact zF
                obtain ⟨b631, h494, h493⟩ := o_bind h493
                refine zR 1 ?_
                refine e_seg 6 73 (.bool b631) ?_ ?_
                · rcases o_cond h494 with ⟨hb, h494⟩ | ⟨hb, h494⟩
                  · refine zS 67 hb ?_
                    refine zR 3 ?_
                    refine p_len (L := (a1.Routes : (List T_api_Route))) (by kernel_rfl) ?_
                    cases h494
                    exact zF
                  refine zS 67 hb ?_
                  cases h494
                  exact zF
                refine zN ?_
                refine q_next ?_
                rcases o_cond h493 with ⟨hb, h493⟩ | ⟨hb, h493⟩
                · refine zT hb ?_
                  refine r_reg ?_
                  refine zR 3 ?_
                  obtain ⟨x632, h495, h493⟩ := o_bind h493
                  refine zI h495 ?_
                  refine zE ?_
                  cases h493
                  exact zJ
                refine zU hb ?_
                refine pwp_skip ?_
                cases h493
                exact zJ
              rintro x630 rfl
              have h481 := o_outl h481
              refine r_reg ?_
              refine zE ?_
              refine q_block ?_
              cases h481
              exact zJ
            rintro ⟨x615, x616, x617, x618, x619⟩ rfl
            have h465 := o_outl h465
            refine r_reg ?_
            refine zE ?_
            cases h465
            exact zB
          refine zU hb ?_
          refine pwp_exit (q_seq_exit ?_)
          cases h465
          exact zX
        rintro ⟨x597, x598, x599, x600, x601⟩ s' rfl hs
        have h377 := o_outl h377
        refine q_block_hit ?_
        refine q_next (pwp_wkr hs ?_)
        obtain ⟨o497, h497, h377⟩ := o_inl h377
        refine r_join (o := o497) 13500239 (fun (x634, x635, x636, x637, x638) => ⟨[(5, .ref 5 0), (6, .ref 6 0), (109, .ref 3005 0), (111, .ref 3007 0), (112, .ref 3008 0), (113, .ref 3009 0), (114, .ref 3010 0)], [(5, .cells ([.int .i64 a3.Id, .int .i64 a3.Origin, .int .i64 x601, .int .i64 x634, lstOf .frozen (x635 : (List T_api_Step)), lstOf .frozen (x636 : (List Int)), lstOf .frozen (x637 : (List Int)), lstOf .frozen (x638 : (List Int)), lstOf (.own 2021007) (x10 : (List Int)), .int .i64 (max a3.Min a4.Min), .int .i64 a3.Sent, .int .i64 (max a3.Accepted (min a3.Sent a4.Accepted)), .int .i64 a3.Cut, .int .i64 a3.CutSeq])), (6, .cells ([.int .i64 0, .int .i64 0, .int .i64 0, .int .i64 0, .nil, .nil, .nil, .nil, .nil, .int .i64 0, .int .i64 0, .int .i64 0, .int .i64 0, .int .i64 0])), (3005, .cells (cellsOf a0)), (3007, .cells (cellsOf a2)), (3008, .cells ([.int .i64 a3.Id, .int .i64 a3.Origin, .int .i64 a3.End, .int .i64 a3.At, lstOf (.own 2005007) (x6 : (List T_api_Step)), lstOf (.own 2009007) (x7 : (List Int)), lstOf (.own 2013007) (x8 : (List Int)), lstOf (.own 2017007) (x9 : (List Int)), lstOf (.own 2021007) (x10 : (List Int)), .int .i64 (max a3.Min a4.Min), .int .i64 a3.Sent, .int .i64 (max a3.Accepted (min a3.Sent a4.Accepted)), .int .i64 a3.Cut, .int .i64 a3.CutSeq])), (3009, .cells (cellsOf a4)), (3010, .cells ([.int .i64 0, .int .i64 0, .int .i64 0, .int .i64 0, .nil, .nil, .nil, .nil, .nil, .int .i64 0, .int .i64 0, .int .i64 0, .int .i64 0, .int .i64 0]))], [(2005007, (((x6).map cellsOf).length, 3)), (2009007, (((x7).map cellsOf).length, 1)), (2013007, (((x8).map cellsOf).length, 1)), (2017007, (((x9).map cellsOf).length, 1)), (2021007, (((x10).map cellsOf).length, 1))], []⟩) ?_ ?_
        · refine pwp_seq (r_reg ?_)
          refine zE ?_
          refine q_next ?_
          rcases o_cond h497 with ⟨hb, h497⟩ | ⟨hb, h497⟩
          · refine zT hb ?_
            refine pwp_seq (r_reg ?_)
            refine zE ?_
            refine q_next (pwp_seq (r_reg ?_))
            refine zE ?_
            refine q_next (r_reg ?_)
            refine zR 7 ?_
            obtain ⟨r639, h498, h497⟩ := o_bind h497
            refine p_call (d_claims_until_ok _ _ _ _ r639 h498) (by kernel_rfl) (by kernel_rfl) ?_
            refine zE ?_
            cases h497
            exact zJ
          refine zU hb ?_
          refine pwp_skip ?_
          cases h497
          exact zJ
        rintro ⟨x634, x635, x636, x637, x638⟩ rfl
        have h377 := o_outl h377
        refine pwp_seq (r_reg ?_)
        refine zE ?_
        refine q_next (pwp_seq (r_reg ?_))
        refine zE ?_
        refine q_next (pwp_ret ?_)
        cases h377
        exact q_ij (by kernel_rfl) (by kernel_rfl)
      obtain ⟨x483, x484, x485, x486, x487, x488⟩ := o377
      refine q_inl (r := .agg [.int .i64 a3.Id, .int .i64 a3.Origin, .int .i64 x483, .int .i64 x484, lstOf .frozen (x485 : (List T_api_Step)), lstOf .frozen (x486 : (List Int)), lstOf .frozen (x487 : (List Int)), lstOf .frozen (x488 : (List Int)), lstOf (.own 2021007) (x10 : (List Int)), .int .i64 (max a3.Min a4.Min), .int .i64 a3.Sent, .int .i64 (max a3.Accepted (min a3.Sent a4.Accepted)), .int .i64 0, .int .i64 0]) (by kernel_rfl) ?_
      refine wl_ren 4 ⟨[(5, .ref 3005 0), (7, .ref 3007 0), (8, .ref 3008 0), (9, .ref 3009 0), (10, .ref 3010 0), (42, .agg [.int .i64 a3.Id, .int .i64 a3.Origin, .int .i64 x483, .int .i64 x484, lstOf .frozen (x485 : (List T_api_Step)), lstOf .frozen (x486 : (List Int)), lstOf .frozen (x487 : (List Int)), lstOf .frozen (x488 : (List Int)), lstOf (.own 2021007) (x10 : (List Int)), .int .i64 (max a3.Min a4.Min), .int .i64 a3.Sent, .int .i64 (max a3.Accepted (min a3.Sent a4.Accepted)), .int .i64 0, .int .i64 0])], [(3005, .cells (cellsOf a0)), (3007, .cells (cellsOf a2)), (3008, .cells ([.int .i64 a3.Id, .int .i64 a3.Origin, .int .i64 a3.End, .int .i64 a3.At, lstOf (.own 2005007) (x6 : (List T_api_Step)), lstOf (.own 2009007) (x7 : (List Int)), lstOf (.own 2013007) (x8 : (List Int)), lstOf (.own 2017007) (x9 : (List Int)), lstOf (.own 2021007) (x10 : (List Int)), .int .i64 (max a3.Min a4.Min), .int .i64 a3.Sent, .int .i64 (max a3.Accepted (min a3.Sent a4.Accepted)), .int .i64 a3.Cut, .int .i64 a3.CutSeq])), (3009, .cells (cellsOf a4)), (3010, .cells ([.int .i64 0, .int .i64 0, .int .i64 0, .int .i64 0, .nil, .nil, .nil, .nil, .nil, .int .i64 0, .int .i64 0, .int .i64 0, .int .i64 0, .int .i64 0]))], [(2005007, (((x6).map cellsOf).length, 3)), (2009007, (((x7).map cellsOf).length, 1)), (2013007, (((x8).map cellsOf).length, 1)), (2017007, (((x9).map cellsOf).length, 1)), (2021007, (((x10).map cellsOf).length, 1))], []⟩ 135 (by kernel_rfl) (by kernel_rfl) (by kernel_rfl) ?_
      refine wl_ren 3 ⟨[(5, .ref 5 0), (7, .ref 7 0), (8, .ref 8 0), (9, .ref 9 0), (10, .ref 10 0), (42, .agg [.int .i64 a3.Id, .int .i64 a3.Origin, .int .i64 x483, .int .i64 x484, lstOf .frozen (x485 : (List T_api_Step)), lstOf .frozen (x486 : (List Int)), lstOf .frozen (x487 : (List Int)), lstOf .frozen (x488 : (List Int)), lstOf (.own 2021007) (x10 : (List Int)), .int .i64 (max a3.Min a4.Min), .int .i64 a3.Sent, .int .i64 (max a3.Accepted (min a3.Sent a4.Accepted)), .int .i64 0, .int .i64 0])], [(5, .cells (cellsOf a0)), (7, .cells (cellsOf a2)), (8, .cells ([.int .i64 a3.Id, .int .i64 a3.Origin, .int .i64 a3.End, .int .i64 a3.At, lstOf (.own 2005007) (x6 : (List T_api_Step)), lstOf (.own 2009007) (x7 : (List Int)), lstOf (.own 2013007) (x8 : (List Int)), lstOf (.own 2017007) (x9 : (List Int)), lstOf (.own 2021007) (x10 : (List Int)), .int .i64 (max a3.Min a4.Min), .int .i64 a3.Sent, .int .i64 (max a3.Accepted (min a3.Sent a4.Accepted)), .int .i64 a3.Cut, .int .i64 a3.CutSeq])), (9, .cells (cellsOf a4)), (10, .cells ([.int .i64 0, .int .i64 0, .int .i64 0, .int .i64 0, .nil, .nil, .nil, .nil, .nil, .int .i64 0, .int .i64 0, .int .i64 0, .int .i64 0, .int .i64 0]))], [(2005007, (((x6).map cellsOf).length, 3)), (2009007, (((x7).map cellsOf).length, 1)), (2013007, (((x8).map cellsOf).length, 1)), (2017007, (((x9).map cellsOf).length, 1)), (2021007, (((x10).map cellsOf).length, 1))], []⟩ 135 (by kernel_rfl) (by kernel_rfl) (by kernel_rfl) ?_
      refine wl_run 4 1 ?_
      refine zE ?_
      refine wl_end ?_
      cases h255
      exact zJ
    refine zU hb ?_
    refine pwp_skip ?_
    cases h255
    exact zJ
  rintro ⟨x324, x325, x326, x327, x328, x329, x330, x331⟩ rfl
  have h := o_outl h
  refine pwp_seq (pwp_block ?_)
  obtain ⟨o534, h534, h⟩ := o_inl h
  refine r_loop2 135 0 (fun (x657, x658, x659, x660) => ⟨[(5, .ref 5 0), (7, .ref 7 0), (8, .ref 8 0), (9, .ref 9 0), (10, .ref 10 0)], [(5, .cells (cellsOf a0)), (7, .cells (cellsOf a2)), (8, .cells ([.int .i64 a3.Id, .int .i64 a3.Origin, .int .i64 x324, .int .i64 x325, lstOf .frozen (x326 : (List T_api_Step)), lstOf .frozen (x657 : (List Int)), lstOf .frozen (x658 : (List Int)), lstOf .frozen (x659 : (List Int)), lstOf (.own 2021007) (x660 : (List Int)), .int .i64 (max a3.Min a4.Min), .int .i64 a3.Sent, .int .i64 (max a3.Accepted (min a3.Sent a4.Accepted)), .int .i64 x330, .int .i64 x331])), (9, .cells (cellsOf a4)), (10, .cells ([.int .i64 0, .int .i64 0, .int .i64 0, .int .i64 0, .nil, .nil, .nil, .nil, .nil, .int .i64 0, .int .i64 0, .int .i64 0, .int .i64 0, .int .i64 0]))], [(2021007, (((x660).map cellsOf).length, 1))], []⟩) (fun (x678, x679, x680, x681) => ⟨[(5, .ref 5 0), (7, .ref 7 0), (8, .ref 8 0), (9, .ref 9 0), (10, .ref 10 0)], [(5, .cells (cellsOf a0)), (7, .cells (cellsOf a2)), (8, .cells ([.int .i64 a3.Id, .int .i64 a3.Origin, .int .i64 x324, .int .i64 x325, lstOf .frozen (x326 : (List T_api_Step)), lstOf .frozen (x678 : (List Int)), lstOf .frozen (x679 : (List Int)), lstOf .frozen (x680 : (List Int)), lstOf (.own 2021007) (x681 : (List Int)), .int .i64 (max a3.Min a4.Min), .int .i64 a3.Sent, .int .i64 (max a3.Accepted (min a3.Sent a4.Accepted)), .int .i64 x330, .int .i64 x331])), (9, .cells (cellsOf a4)), (10, .cells ([.int .i64 0, .int .i64 0, .int .i64 0, .int .i64 0, .nil, .nil, .nil, .nil, .nil, .int .i64 0, .int .i64 0, .int .i64 0, .int .i64 0, .int .i64 0]))], [(2021007, (((x681).map cellsOf).length, 1))], []⟩) h534 (by kernel_rfl) (fun _ => by kernel_rfl) ?_ ?_
  · rintro ⟨x657, x658, x659, x660⟩ oh533 h533
    unfold d_claims_Report_1 at h533
    refine pwp_seq (pwp_seq ?_)
    refine r_regd (by kernel_rfl) (by kernel_rfl) ?_
    refine zR 2 ?_
    refine p_len (L := (x657 : (List Int))) (by kernel_rfl) ?_
    obtain ⟨b682, h535, h533⟩ := o_bind h533
    refine zR 2 ?_
    refine e_seg 5 52 (.bool b682) ?_ ?_
    · rcases o_cond h535 with ⟨hb, h535⟩ | ⟨hb, h535⟩
      · refine zS 47 hb ?_
        refine zR 2 ?_
        refine p_len (L := (x658 : (List Int))) (by kernel_rfl) ?_
        cases h535
        exact zF
      refine zS 47 hb ?_
      cases h535
      exact zF
    obtain ⟨b683, h536, h533⟩ := o_bind h533
    refine zR 1 ?_
    refine e_seg 5 58 (.bool b683) ?_ ?_
    · rcases o_cond h536 with ⟨hb, h536⟩ | ⟨hb, h536⟩
      · refine zS 53 hb ?_
        refine zR 2 ?_
        refine p_len (L := (x659 : (List Int))) (by kernel_rfl) ?_
        cases h536
        exact zF
      refine zS 53 hb ?_
      cases h536
      exact zF
    obtain ⟨b684, h537, h533⟩ := o_bind h533
    refine zR 1 ?_
    refine e_seg 8 67 (.bool b684) ?_ ?_
    · rcases o_cond h537 with ⟨hb, h537⟩ | ⟨hb, h537⟩
      · refine zS 59 hb ?_
        refine zR 4 ?_
        obtain ⟨x685, h538, h537⟩ := o_bind h537
        refine zI h538 ?_
        refine zR 1 ?_
        obtain ⟨r686, h539, h537⟩ := o_bind h537
        refine p_call (d_integrity_Beyond_ok _ _ _ r686 h539) (by kernel_rfl) (by kernel_rfl) ?_
        cases h537
        exact zF
      refine zS 59 hb ?_
      cases h537
      exact zF
    refine zN ?_
    refine q_next ?_
    rcases o_cond h533 with ⟨hb, h533⟩ | ⟨hb, h533⟩
    · refine zT hb ?_
      refine pwp_skip (q_next (pwp_block ?_))
      obtain ⟨o544, h544, h533⟩ := o_inl h533
      refine r_join (o := o544) 135 (fun x691 => ⟨[(5, .ref 5 0), (7, .ref 7 0), (8, .ref 8 0), (9, .ref 9 0), (10, .ref 10 0)], [(5, .cells (cellsOf a0)), (7, .cells (cellsOf a2)), (8, .cells ([.int .i64 a3.Id, .int .i64 a3.Origin, .int .i64 x324, .int .i64 x325, lstOf .frozen (x326 : (List T_api_Step)), lstOf .frozen (x657 : (List Int)), lstOf .frozen (x658 : (List Int)), lstOf .frozen (x659 : (List Int)), lstOf (.own 2021007) (x691 : (List Int)), .int .i64 (max a3.Min a4.Min), .int .i64 a3.Sent, .int .i64 (max a3.Accepted (min a3.Sent a4.Accepted)), .int .i64 x330, .int .i64 x331])), (9, .cells (cellsOf a4)), (10, .cells ([.int .i64 0, .int .i64 0, .int .i64 0, .int .i64 0, .nil, .nil, .nil, .nil, .nil, .int .i64 0, .int .i64 0, .int .i64 0, .int .i64 0, .int .i64 0]))], [(2021007, (((x691).map cellsOf).length, 1))], []⟩) ?_ ?_
      · refine pwp_seq ?_
        refine r_regd (by kernel_rfl) (by kernel_rfl) ?_
        refine zR 4 ?_
        obtain ⟨x692, h545, h544⟩ := o_bind h544
        refine zI h545 ?_
        refine zR 1 ?_
        obtain ⟨r693, h546, h544⟩ := o_bind h544
        refine p_call (d_slices_Contains_int_ok _ _ r693 h546) (by kernel_rfl) (by kernel_rfl) ?_
        refine zE ?_
        refine q_next ?_
        rcases o_cond h544 with ⟨hb, h544⟩ | ⟨hb, h544⟩
        · refine zT hb ?_
          refine r_regd (by kernel_rfl) (by kernel_rfl) ?_
          refine zR 4 ?_
          obtain ⟨x694, h547, h544⟩ := o_bind h544
          refine zI h547 ?_
          refine zR 2 ?_
          obtain ⟨x695, h548, h544⟩ := o_bind h544
          refine p_app (tk := 2021007) h548 (by kernel_rfl) (by kernel_rfl) ?_
          refine zE ?_
          cases h544
          exact zJ
        refine zU hb ?_
        refine pwp_skip ?_
        cases h544
        exact zJ
      rintro x691 rfl
      have h533 := o_outl h533
      refine r_regd (by kernel_rfl) (by kernel_rfl) ?_
      refine zR 2 ?_
      obtain ⟨x696, h549, h533⟩ := o_bind h533
      refine p_sl h549 .frozen (by kernel_rfl) (by kernel_rfl) (by kernel_rfl) ?_
      refine zR 2 ?_
      obtain ⟨x697, h550, h533⟩ := o_bind h533
      refine p_sl h550 .frozen (by kernel_rfl) (by kernel_rfl) (by kernel_rfl) ?_
      refine zR 2 ?_
      obtain ⟨x698, h551, h533⟩ := o_bind h533
      refine p_sl h551 .frozen (by kernel_rfl) (by kernel_rfl) (by kernel_rfl) ?_
      refine zE ?_
      refine q_block ?_
      cases h533
      exact zB
    refine zU hb ?_
    refine pwp_exit (q_seq_exit ?_)
    cases h533
    exact zX
  rintro ⟨x678, x679, x680, x681⟩ s' rfl hs
  have h := o_outl h
  refine q_block_hit ?_
  refine q_next (pwp_wkr hs ?_)
  obtain ⟨o573, h573, h⟩ := o_inl h
  refine r_join (o := o573) 135 (fun (x722, x723) => ⟨[(8, .ref 8 0), (10, .ref 10 0)], [(8, .cells ([.int .i64 a3.Id, .int .i64 x722, .int .i64 x324, .int .i64 x325, lstOf .frozen (x723 : (List T_api_Step)), lstOf .frozen (x678 : (List Int)), lstOf .frozen (x679 : (List Int)), lstOf .frozen (x680 : (List Int)), lstOf (.own 2021007) (x681 : (List Int)), .int .i64 (max a3.Min a4.Min), .int .i64 a3.Sent, .int .i64 (max a3.Accepted (min a3.Sent a4.Accepted)), .int .i64 x330, .int .i64 x331])), (10, .cells ([.int .i64 0, .int .i64 0, .int .i64 0, .int .i64 0, .nil, .nil, .nil, .nil, .nil, .int .i64 0, .int .i64 0, .int .i64 0, .int .i64 0, .int .i64 0]))], [(2021007, (((x681).map cellsOf).length, 1))], []⟩) ?_ ?_
  · refine pwp_seq (r_reg ?_)
    refine zE ?_
    refine q_next ?_
    rcases o_cond h573 with ⟨hb, h573⟩ | ⟨hb, h573⟩
    · refine zT hb ?_
      refine pwp_seq (r_reg ?_)
      refine zR 3 ?_
      obtain ⟨r724, h574, h573⟩ := o_bind h573
      refine p_call (d_integrity_Rear_ok _ _ r724 h574) (by kernel_rfl) (by kernel_rfl) ?_
      refine zE ?_
      refine q_next (pwp_block ?_)
      obtain ⟨o588, h588, h573⟩ := o_inl h573
      refine r_loop2 135 2 (fun (x731, x732) => ⟨[(5, .ref 5 0), (8, .ref 8 0), (10, .ref 10 0), (11, .int .i64 r724)], [(5, .cells (cellsOf a0)), (8, .cells ([.int .i64 a3.Id, .int .i64 x731, .int .i64 x324, .int .i64 x325, lstOf .frozen (x732 : (List T_api_Step)), lstOf .frozen (x678 : (List Int)), lstOf .frozen (x679 : (List Int)), lstOf .frozen (x680 : (List Int)), lstOf (.own 2021007) (x681 : (List Int)), .int .i64 (max a3.Min a4.Min), .int .i64 a3.Sent, .int .i64 (max a3.Accepted (min a3.Sent a4.Accepted)), .int .i64 x330, .int .i64 x331])), (10, .cells ([.int .i64 0, .int .i64 0, .int .i64 0, .int .i64 0, .nil, .nil, .nil, .nil, .nil, .int .i64 0, .int .i64 0, .int .i64 0, .int .i64 0, .int .i64 0]))], [(2021007, (((x681).map cellsOf).length, 1))], []⟩) (fun (x739, x740) => ⟨[(8, .ref 8 0), (10, .ref 10 0)], [(8, .cells ([.int .i64 a3.Id, .int .i64 x739, .int .i64 x324, .int .i64 x325, lstOf .frozen (x740 : (List T_api_Step)), lstOf .frozen (x678 : (List Int)), lstOf .frozen (x679 : (List Int)), lstOf .frozen (x680 : (List Int)), lstOf (.own 2021007) (x681 : (List Int)), .int .i64 (max a3.Min a4.Min), .int .i64 a3.Sent, .int .i64 (max a3.Accepted (min a3.Sent a4.Accepted)), .int .i64 x330, .int .i64 x331])), (10, .cells ([.int .i64 0, .int .i64 0, .int .i64 0, .int .i64 0, .nil, .nil, .nil, .nil, .nil, .int .i64 0, .int .i64 0, .int .i64 0, .int .i64 0, .int .i64 0]))], [(2021007, (((x681).map cellsOf).length, 1))], []⟩) h588 (by kernel_rfl) (fun _ => by kernel_rfl) ?_ ?_
      · rintro ⟨x731, x732⟩ oh587 h587
        unfold d_claims_Report_2 at h587
        refine pwp_seq (pwp_seq ?_)
        refine r_regd (by kernel_rfl) (by kernel_rfl) ?_
        refine zR 2 ?_
        refine p_len (L := (x732 : (List T_api_Step))) (by kernel_rfl) ?_
        obtain ⟨b741, h589, h587⟩ := o_bind h587
        refine zR 2 ?_
        refine e_seg 12 119 (.bool b741) ?_ ?_
        · rcases o_cond h589 with ⟨hb, h589⟩ | ⟨hb, h589⟩
          · refine zS 107 hb ?_
            refine zR 5 ?_
            obtain ⟨x742, h590, h589⟩ := o_bind h589
            refine zI h590 ?_
            refine zR 1 ?_
            obtain ⟨r743, h591, h589⟩ := o_bind h589
            refine p_call (d_claims_length_ok _ _ r743 h591) (by kernel_rfl) (by kernel_rfl) ?_
            cases h589
            exact zF
          refine zS 107 hb ?_
          cases h589
          exact zF
        refine zN ?_
        refine q_next ?_
        rcases o_cond h587 with ⟨hb, h587⟩ | ⟨hb, h587⟩
        · refine zT hb ?_
          refine pwp_skip (q_next (pwp_block (pwp_seq ?_)))
          refine r_regd (by kernel_rfl) (by kernel_rfl) ?_
          refine zR 5 ?_
          obtain ⟨x744, h592, h587⟩ := o_bind h587
          refine zI h592 ?_
          refine zR 1 ?_
          obtain ⟨r745, h593, h587⟩ := o_bind h587
          refine p_call (d_claims_length_ok _ _ r745 h593) (by kernel_rfl) (by kernel_rfl) ?_
          refine zE ?_
          refine q_next (r_reg ?_)
          refine zR 2 ?_
          obtain ⟨x746, h594, h587⟩ := o_bind h587
          refine p_sl h594 .frozen (by kernel_rfl) (by kernel_rfl) (by kernel_rfl) ?_
          refine zE ?_
          refine q_block ?_
          cases h587
          exact zB
        refine zU hb ?_
        refine pwp_exit (q_seq_exit ?_)
        cases h587
        exact zX
      rintro ⟨x739, x740⟩ s' rfl hs
      have h573 := o_outl h573
      refine q_block_hit ?_
      cases h573
      exact q_join_w hs (by kernel_rfl) (by kernel_rfl)
    refine zU hb ?_
    refine pwp_skip ?_
    cases h573
    exact zJ
  rintro ⟨x722, x723⟩ rfl
  have h := o_outl h
  refine pwp_seq (r_reg ?_)
  refine zE ?_
  refine q_next (pwp_ret ?_)
  cases h
  exact zQ

/-! signallingref07.SameInts -/
noncomputable def d_ref07_SameInts_0 (a0 : (List Int)) (a1 : (List Int)) : Int → Option (Int ⊕ (Unit ⊕ Bool)) := fun x3 =>
  bif decide (x3 < ((a0.length : Nat) : Int)) then (
    (ixO a0 x3).bind fun x6 =>
    (ixO a1 x3).bind fun x7 =>
    bif (!(decide (x6 = x7))) then (
      some (.inr (.inr false))
    ) else (
      some (.inl (w64 (x3 + 1)))
    )
  ) else (
    some (.inr (.inl ()))
  )

noncomputable def d_ref07_SameInts (a0 : (List Int)) (a1 : (List Int)) : Option Bool :=
  bif (!(decide (((a0.length : Nat) : Int) = ((a1.length : Nat) : Int)))) then (
    some false
  ) else (
    onInl (α := Unit) (β := Bool) (loopO (d_ref07_SameInts_0 a0 a1) 0) fun _ =>
    some true
  )
theorem d_ref07_SameInts_ok (a0 : (List Int)) (a1 : (List Int)) (r : Bool) (h : d_ref07_SameInts a0 a1 = some r) : PCall Go.Proofs.Tryz.prog GlS 19 [Enc.pv a0, Enc.pv a1] (Enc.pv r) := by
  unfold d_ref07_SameInts at h
  refine pcall_of_pwp Go.Proofs.Tryz.func19 (by rfl) rfl Go.Proofs.Tryz.ntmps19 (by rfl) rfl ?_
  refine pwp_seq (r_reg ?_)
  refine zE ?_
  refine q_next (pwp_seq (pwp_seq (r_reg ?_)))
  refine zR 1 ?_
  refine p_len (L := (a0 : (List Int))) (by kernel_rfl) ?_
  refine zR 1 ?_
  refine p_len (L := (a1 : (List Int))) (by kernel_rfl) ?_
  refine zE ?_
  refine q_next ?_
  rcases o_cond h with ⟨hb, h⟩ | ⟨hb, h⟩
  · refine zT hb ?_
    refine pwp_seq (r_reg ?_)
    refine zE ?_
    refine q_next (pwp_ret (q_seq_ret ?_))
    cases h
    exact zQ
  refine zU hb ?_
  refine pwp_skip (q_next (pwp_seq (pwp_seq (r_reg ?_))))
  refine zR 1 ?_
  refine p_len (L := (a0 : (List Int))) (by kernel_rfl) ?_
  refine zE ?_
  refine q_next (pwp_block ?_)
  obtain ⟨o8, h8, h⟩ := o_inl h
  refine r_loop2 26 0 (fun x3 => ⟨[(0, lstOf .frozen (a0 : (List Int))), (1, lstOf .frozen (a1 : (List Int))), (12, .int .i64 ((a0.length : Nat) : Int)), (13, .int .i64 x3)], [], [], []⟩) (fun (_ : Unit) => ⟨[], [], [], []⟩) h8 (by kernel_rfl) (fun _ => by kernel_rfl) ?_ ?_
  · rintro x3 oh7 h7
    unfold d_ref07_SameInts_0 at h7
    refine pwp_seq (r_reg ?_)
    refine zE ?_
    refine q_next (pwp_seq ?_)
    rcases o_cond h7 with ⟨hb, h7⟩ | ⟨hb, h7⟩
    · refine zT hb ?_
      refine pwp_skip (q_next (pwp_seq (pwp_block (pwp_seq (r_reg ?_)))))
      refine zE ?_
      refine q_next (pwp_seq ?_)
      refine r_regd (by kernel_rfl) (by kernel_rfl) ?_
      refine zR 2 ?_
      obtain ⟨x6, h9, h7⟩ := o_bind h7
      refine zI h9 ?_
      refine zR 3 ?_
      obtain ⟨x7, h10, h7⟩ := o_bind h7
      refine zI h10 ?_
      refine zE ?_
      refine q_next ?_
      rcases o_cond h7 with ⟨hb, h7⟩ | ⟨hb, h7⟩
      · refine zT hb ?_
        refine pwp_seq (r_reg ?_)
        refine zE ?_
        refine q_next (pwp_ret (q_block_ret (q_seq_ret ?_)))
        cases h7
        refine q_lout_ret fun he => ?_
        subst he
        have h11 := o_outr h
        refine q_block_ret (q_seq_ret ?_)
        cases h11
        exact zQ
      refine zU hb ?_
      refine pwp_skip (q_block (q_next (r_reg ?_)))
      refine zE ?_
      cases h7
      exact zB
    refine zU hb ?_
    refine pwp_exit (q_seq_exit ?_)
    cases h7
    exact zX
  rintro _ s' rfl hs
  have h := o_outl h
  refine q_block_hit ?_
  refine q_next (pwp_wkr hs ?_)
  refine pwp_seq (r_reg ?_)
  refine zE ?_
  refine q_next (pwp_ret ?_)
  cases h
  exact zQ

/-! signallinglaw40.alive -/
noncomputable def d_law40_alive : Option Bool :=
  (d_law07_Line ).bind fun r1 =>
  (d_ref16_Build r1).bind fun r2 =>
  (d_claims_Begin r1 (T_api_Train.mk 1 (ByteArray.mk #[116]) 5000 3000 50 50 100 0 0 0) (T_api_Body.mk [(T_api_Step.mk 0 0 1)] 15000 5000)).bind fun r3 =>
  (d_claims_Extend r1 r2.1 r3.1 0).bind fun r4 =>
  (d_claims_Extend r1 r2.1 r4.1 0).bind fun r5 =>
  (d_claims_Report r1 r2.1 (T_api_Train.mk 1 (ByteArray.mk #[116]) 5000 3000 50 50 100 0 0 0) r4.1 (T_api_Report.mk 10000 0 0 0 true)).bind fun r6 =>
  ((bif (((((decide (r3.2 = 0)) && (decide (r3.1.Origin = (-15000)))) && (decide (r3.1.At = 5000))) && (decide (r3.1.End = 0))) && (decide (r4.2 = 0))) then (
    (d_ref07_SameInts r4.1.Ends [25000]).bind fun r8 =>
    some r8
  ) else some false) : Option Bool).bind fun b7 =>
  ((bif b7 then (
    (d_ref07_SameInts r4.1.Starts [5000]).bind fun r10 =>
    some r10
  ) else some false) : Option Bool).bind fun b9 =>
  ((bif ((b9 && (decide (r4.1.At = 25000))) && (decide (r5.2 = 10))) then (
    some (decide (((r6.Routes.length : Nat) : Int) = 0))
  ) else some false) : Option Bool).bind fun b11 =>
  ((bif b11 then (
    (d_ref07_SameInts r6.Done [0]).bind fun r13 =>
    some r13
  ) else some false) : Option Bool).bind fun b12 =>
  ((bif b12 then (
    some (decide (((r6.Steps.length : Nat) : Int) = 1))
  ) else some false) : Option Bool).bind fun b14 =>
  some (b14 && (decide (r6.Origin = 5000)))
theorem d_law40_alive_ok (r : Bool) (h : d_law40_alive = some r) : PCall Go.Proofs.Tryz.prog GlS 6 [] (Enc.pv r) := by
  unfold d_law40_alive at h
  refine pcall_of_pwp Go.Proofs.Tryz.func6 (by rfl) rfl Go.Proofs.Tryz.ntmps6 (by rfl) rfl ?_
  refine pwp_seq (r_reg ?_)
  refine zE ?_
  refine q_next (pwp_seq (r_reg ?_))
  obtain ⟨r1, h1, h⟩ := o_bind h
  refine p_call (d_law07_Line_ok  r1 h1) (by kernel_rfl) (by kernel_rfl) ?_
  refine zE ?_
  refine q_next (pwp_seq (r_reg ?_))
  refine zR 1 ?_
  obtain ⟨r2, h2, h⟩ := o_bind h
  refine p_call (d_ref16_Build_ok _ r2 h2) (by kernel_rfl) (by kernel_rfl) ?_
  refine zE ?_
  refine q_next (pwp_seq (r_reg ?_))
  refine zE ?_
  refine q_next (pwp_seq (r_reg ?_))
  refine zR 5 ?_
  obtain ⟨r3, h3, h⟩ := o_bind h
  refine p_call (d_claims_Begin_ok _ _ _ r3 h3) (by kernel_rfl) (by kernel_rfl) ?_
  refine zE ?_
  refine q_next (pwp_seq (r_reg ?_))
  refine zR 3 ?_
  obtain ⟨r4, h4, h⟩ := o_bind h
  refine p_call (d_claims_Extend_ok _ _ _ _ r4 h4) (by kernel_rfl) (by kernel_rfl) ?_
  refine zE ?_
  refine q_next (pwp_seq (r_reg ?_))
  refine zR 3 ?_
  obtain ⟨r5, h5, h⟩ := o_bind h
  refine p_call (d_claims_Extend_ok _ _ _ _ r5 h5) (by kernel_rfl) (by kernel_rfl) ?_
  refine zE ?_
  refine q_next (pwp_seq (r_reg ?_))
  refine zR 5 ?_
  obtain ⟨r6, h6, h⟩ := o_bind h
  refine p_call (d_claims_Report_ok _ _ _ _ _ r6 h6) (by kernel_rfl) (by kernel_rfl) ?_
  refine zE ?_
  refine q_next (pwp_seq (r_reg ?_))
  refine zR 3 ?_
  refine e_segb 4 54 ((decide (r3.2 = 0)) && (decide (r3.1.Origin = (-15000)))) (fun x hx => ?_) ?_
  · rcases b_and hx with ⟨hb, hx⟩ | ⟨hb, hx⟩
    · refine zS 50 hb ?_
      subst hx
      exact zF
    refine zS 50 hb ?_
    subst hx
    exact zF
  refine zR 1 ?_
  refine e_segb 4 59 (((decide (r3.2 = 0)) && (decide (r3.1.Origin = (-15000)))) && (decide (r3.1.At = 5000))) (fun x hx => ?_) ?_
  · rcases b_and hx with ⟨hb, hx⟩ | ⟨hb, hx⟩
    · refine zS 55 hb ?_
      subst hx
      exact zF
    refine zS 55 hb ?_
    subst hx
    exact zF
  refine zR 1 ?_
  refine e_segb 4 64 ((((decide (r3.2 = 0)) && (decide (r3.1.Origin = (-15000)))) && (decide (r3.1.At = 5000))) && (decide (r3.1.End = 0))) (fun x hx => ?_) ?_
  · rcases b_and hx with ⟨hb, hx⟩ | ⟨hb, hx⟩
    · refine zS 60 hb ?_
      subst hx
      exact zF
    refine zS 60 hb ?_
    subst hx
    exact zF
  refine zR 1 ?_
  refine e_segb 3 68 (((((decide (r3.2 = 0)) && (decide (r3.1.Origin = (-15000)))) && (decide (r3.1.At = 5000))) && (decide (r3.1.End = 0))) && (decide (r4.2 = 0))) (fun x hx => ?_) ?_
  · rcases b_and hx with ⟨hb, hx⟩ | ⟨hb, hx⟩
    · refine zS 65 hb ?_
      subst hx
      exact zF
    refine zS 65 hb ?_
    subst hx
    exact zF
  obtain ⟨b7, h7, h⟩ := o_bind h
  refine zR 1 ?_
  refine e_seg 5 74 (.bool b7) ?_ ?_
  · rcases o_cond h7 with ⟨hb, h7⟩ | ⟨hb, h7⟩
    · refine zS 69 hb ?_
      refine zR 3 ?_
      obtain ⟨r8, h8, h7⟩ := o_bind h7
      refine p_call (d_ref07_SameInts_ok _ _ r8 h8) (by kernel_rfl) (by kernel_rfl) ?_
      cases h7
      exact zF
    refine zS 69 hb ?_
    cases h7
    exact zF
  obtain ⟨b9, h9, h⟩ := o_bind h
  refine zR 1 ?_
  refine e_seg 5 80 (.bool b9) ?_ ?_
  · rcases o_cond h9 with ⟨hb, h9⟩ | ⟨hb, h9⟩
    · refine zS 75 hb ?_
      refine zR 3 ?_
      obtain ⟨r10, h10, h9⟩ := o_bind h9
      refine p_call (d_ref07_SameInts_ok _ _ r10 h10) (by kernel_rfl) (by kernel_rfl) ?_
      cases h9
      exact zF
    refine zS 75 hb ?_
    cases h9
    exact zF
  refine zR 1 ?_
  refine e_segb 4 85 (b9 && (decide (r4.1.At = 25000))) (fun x hx => ?_) ?_
  · rcases b_and hx with ⟨hb, hx⟩ | ⟨hb, hx⟩
    · refine zS 81 hb ?_
      subst hx
      exact zF
    refine zS 81 hb ?_
    subst hx
    exact zF
  refine zR 1 ?_
  refine e_segb 3 89 ((b9 && (decide (r4.1.At = 25000))) && (decide (r5.2 = 10))) (fun x hx => ?_) ?_
  · rcases b_and hx with ⟨hb, hx⟩ | ⟨hb, hx⟩
    · refine zS 86 hb ?_
      subst hx
      exact zF
    refine zS 86 hb ?_
    subst hx
    exact zF
  obtain ⟨b11, h11, h⟩ := o_bind h
  refine zR 1 ?_
  refine e_seg 5 95 (.bool b11) ?_ ?_
  · rcases o_cond h11 with ⟨hb, h11⟩ | ⟨hb, h11⟩
    · refine zS 90 hb ?_
      refine zR 2 ?_
      refine p_len (L := (r6.Routes : (List Int))) (by kernel_rfl) ?_
      cases h11
      exact zF
    refine zS 90 hb ?_
    cases h11
    exact zF
  obtain ⟨b12, h12, h⟩ := o_bind h
  refine zR 1 ?_
  refine e_seg 5 101 (.bool b12) ?_ ?_
  · rcases o_cond h12 with ⟨hb, h12⟩ | ⟨hb, h12⟩
    · refine zS 96 hb ?_
      refine zR 3 ?_
      obtain ⟨r13, h13, h12⟩ := o_bind h12
      refine p_call (d_ref07_SameInts_ok _ _ r13 h13) (by kernel_rfl) (by kernel_rfl) ?_
      cases h12
      exact zF
    refine zS 96 hb ?_
    cases h12
    exact zF
  obtain ⟨b14, h14, h⟩ := o_bind h
  refine zR 1 ?_
  refine e_seg 5 107 (.bool b14) ?_ ?_
  · rcases o_cond h14 with ⟨hb, h14⟩ | ⟨hb, h14⟩
    · refine zS 102 hb ?_
      refine zR 2 ?_
      refine p_len (L := (r6.Steps : (List T_api_Step))) (by kernel_rfl) ?_
      cases h14
      exact zF
    refine zS 102 hb ?_
    cases h14
    exact zF
  refine zR 1 ?_
  refine e_segb 4 112 (b14 && (decide (r6.Origin = 5000))) (fun x hx => ?_) ?_
  · rcases b_and hx with ⟨hb, hx⟩ | ⟨hb, hx⟩
    · refine zS 108 hb ?_
      subst hx
      exact zF
    refine zS 108 hb ?_
    subst hx
    exact zF
  refine zE ?_
  refine q_next (pwp_ret ?_)
  cases h
  exact zQ

/-! claims.Claimed$1 -/
noncomputable def d_claims_Claimed_c1 (a0 : T_api_Track) : Option (List Int) :=
  some a0.Routes
theorem d_claims_Claimed_c1_ok (a0 : T_api_Track) (r : (List Int)) (h : d_claims_Claimed_c1 a0 = some r) : PCall Go.Proofs.Tryz.prog GlS 34 [Enc.pv a0] (Enc.pv r) := by
  unfold d_claims_Claimed_c1 at h
  refine pcall_of_pwp Go.Proofs.Tryz.func34 (by rfl) rfl Go.Proofs.Tryz.ntmps34 (by rfl) rfl ?_
  refine pwp_seq (r_reg ?_)
  refine zE ?_
  refine q_next (pwp_seq (r_reg ?_))
  refine zE ?_
  refine q_next (pwp_ret ?_)
  cases h
  exact zQ

/-! claims.among -/
noncomputable def d_claims_among_1 (a1 : Int) (x1 : (List Bool)) (r58 : (List Int)) : (Int × (List Bool)) → Option ((Int × (List Bool)) ⊕ ((List Bool) ⊕ ((Int × (List Bool)) ⊕ ((List Bool) ⊕ (List Bool))))) := fun (x66, x67) =>
  bif decide (x66 < ((r58.length : Nat) : Int)) then (
    onInl (α := (List Bool)) (β := ((Int × (List Bool)) ⊕ ((List Bool) ⊕ ((Int × (List Bool)) ⊕ ((List Bool) ⊕ (List Bool)))))) (
      (ixO r58 x66).bind fun x80 =>
      bif ((decide (0 ≤ x80)) && (decide (x80 < a1))) then (
        (xixO 0 (((x1 : (List Bool)).map cellsOf).length) x80).bind fun j81 =>
        (xldO x67 (((x1 : (List Bool)).map cellsOf).length) j81).bind fun x82 =>
        some (.inl (x67.set j81 true))
      ) else (
        some (.inl x67)
      )
    ) fun x79 =>
    some (.inl (w64 (x66 + 1), x79))
  ) else (
    some (.inr (.inl x67))
  )

noncomputable def d_claims_among_0 (a0 : (List T_api_Track)) (a1 : Int) (x1 : (List Bool)) : (Int × (List Bool)) → Option ((Int × (List Bool)) ⊕ ((List Bool) ⊕ (List Bool))) := fun (x28, x29) =>
  bif decide (x28 < ((a0.length : Nat) : Int)) then (
    (ixO a0 x28).bind fun x57 =>
    (d_claims_Claimed_c1 x57).bind fun r58 =>
    onInl (α := (List Bool)) (β := ((Int × (List Bool)) ⊕ ((List Bool) ⊕ (List Bool)))) (loopO (d_claims_among_1 a1 x1 r58) (0, x29)) fun x75 =>
    some (.inl (w64 (x28 + 1), x75))
  ) else (
    some (.inr (.inl x29))
  )

noncomputable def d_claims_among__claims_Claimed_c1 (a0 : (List T_api_Track)) (a1 : Int) : Option (List Bool) :=
  bif ((decide (a1 < 0)) || (decide (48 < a1))) then (
    some ([] : (List Bool))
  ) else (
    (mkxO a1 a1 1 (false : Bool)).bind fun x1 =>
    onInl (α := (List Bool)) (β := (List Bool)) (loopO (d_claims_among_0 a0 a1 x1) (0, x1)) fun x56 =>
    some x56
  )
theorem d_claims_among__claims_Claimed_c1_ok (a0 : (List T_api_Track)) (a1 : Int) (r : (List Bool)) (h : d_claims_among__claims_Claimed_c1 a0 a1 = some r) : PCall Go.Proofs.Tryz.prog GlS 33 [Enc.pv a0, Enc.pv a1, .fn 34 []] (Enc.pv r) := by
  unfold d_claims_among__claims_Claimed_c1 at h
  refine pcall_of_pwp Go.Proofs.Tryz.func33 (by rfl) rfl Go.Proofs.Tryz.ntmps33 (by rfl) rfl ?_
  refine pwp_seq (r_reg ?_)
  refine zE ?_
  refine q_next (pwp_seq (pwp_seq (r_reg ?_)))
  refine zR 3 ?_
  refine e_segb 3 17 ((decide (a1 < 0)) || (decide (48 < a1))) (fun x hx => ?_) ?_
  · rcases b_or hx with ⟨hb, hx⟩ | ⟨hb, hx⟩
    · refine zS 14 hb ?_
      subst hx
      exact zF
    refine zS 14 hb ?_
    subst hx
    exact zF
  refine zN ?_
  refine q_next ?_
  rcases o_cond h with ⟨hb, h⟩ | ⟨hb, h⟩
  · refine zT hb ?_
    refine pwp_seq (r_reg ?_)
    refine zE ?_
    refine q_next (pwp_ret (q_seq_ret ?_))
    cases h
    exact zQ
  refine zU hb ?_
  refine pwp_skip (q_next (pwp_seq (r_reg ?_)))
  refine zR 1 ?_
  obtain ⟨x1, h1, h⟩ := o_bind h
  refine p_xmk (z := (false : Bool)) 19 h1 (by kernel_rfl) (by kernel_rfl) ?_
  refine zE ?_
  refine q_next (pwp_seq (pwp_seq (r_reg ?_)))
  refine zR 1 ?_
  refine p_len (L := (a0 : (List T_api_Track))) (by kernel_rfl) ?_
  refine zE ?_
  refine q_next (pwp_block ?_)
  obtain ⟨o53, h53, h⟩ := o_inl h
  refine r_loop2 47 0 (fun (x28, x29) => ⟨[(1, .int .i64 a1), (2, .fn 34 []), (7, .ex 19 1 1 (((x1 : (List Bool)).map cellsOf).length) 0 (((x1 : (List Bool)).map cellsOf).length)), (20, lstOf .frozen (a0 : (List T_api_Track))), (21, .int .i64 ((a0.length : Nat) : Int)), (22, .int .i64 x28)], [], [(19, (((x1 : (List Bool)).map cellsOf).length, 0))], [(19, (1, (1, (x29 : (List Bool)).map cellsOf)))]⟩) (fun x56 => ⟨[(7, .ex 19 1 1 (((x1 : (List Bool)).map cellsOf).length) 0 (((x1 : (List Bool)).map cellsOf).length))], [], [(19, (((x1 : (List Bool)).map cellsOf).length, 0))], [(19, (1, (1, (x56 : (List Bool)).map cellsOf)))]⟩) h53 (by kernel_rfl) (fun _ => by kernel_rfl) ?_ ?_
  · rintro ⟨x28, x29⟩ oh52 h52
    unfold d_claims_among_0 at h52
    refine pwp_seq (r_reg ?_)
    refine zE ?_
    refine q_next (pwp_seq ?_)
    rcases o_cond h52 with ⟨hb, h52⟩ | ⟨hb, h52⟩
    · refine zT hb ?_
      refine pwp_skip (q_next (pwp_seq (pwp_block (pwp_seq (r_reg ?_)))))
      obtain ⟨x57, h54, h52⟩ := o_bind h52
      refine zI h54 ?_
      refine zE ?_
      refine q_next (pwp_seq (r_reg ?_))
      refine zR 2 ?_
      obtain ⟨r58, h55, h52⟩ := o_bind h52
      refine p_call (d_claims_Claimed_c1_ok _ r58 h55) (by kernel_rfl) (by kernel_rfl) ?_
      refine p_len (L := (r58 : (List Int))) (by kernel_rfl) ?_
      refine zE ?_
      refine q_next (pwp_block ?_)
      obtain ⟨o71, h71, h52⟩ := o_inl h52
      refine r_loop2 47 2 (fun (x66, x67) => ⟨[(1, .int .i64 a1), (2, .fn 34 []), (7, .ex 19 1 1 (((x1 : (List Bool)).map cellsOf).length) 0 (((x1 : (List Bool)).map cellsOf).length)), (20, lstOf .frozen (a0 : (List T_api_Track))), (21, .int .i64 ((a0.length : Nat) : Int)), (22, .int .i64 x28), (28, lstOf .frozen (r58 : (List Int))), (29, .int .i64 ((r58.length : Nat) : Int)), (30, .int .i64 x66)], [], [(19, (((x1 : (List Bool)).map cellsOf).length, 0))], [(19, (1, (1, (x67 : (List Bool)).map cellsOf)))]⟩) (fun x75 => ⟨[(1, .int .i64 a1), (2, .fn 34 []), (7, .ex 19 1 1 (((x1 : (List Bool)).map cellsOf).length) 0 (((x1 : (List Bool)).map cellsOf).length)), (20, lstOf .frozen (a0 : (List T_api_Track))), (21, .int .i64 ((a0.length : Nat) : Int)), (22, .int .i64 x28)], [], [(19, (((x1 : (List Bool)).map cellsOf).length, 0))], [(19, (1, (1, (x75 : (List Bool)).map cellsOf)))]⟩) h71 (by kernel_rfl) (fun _ => by kernel_rfl) ?_ ?_
      · rintro ⟨x66, x67⟩ oh70 h70
        unfold d_claims_among_1 at h70
        refine pwp_seq (r_reg ?_)
        refine zE ?_
        refine q_next (pwp_seq ?_)
        rcases o_cond h70 with ⟨hb, h70⟩ | ⟨hb, h70⟩
        · refine zT hb ?_
          refine pwp_skip (q_next ?_)
          obtain ⟨o75, h75, h70⟩ := o_inl h70
          refine r_join (o := o75) 47 (fun x79 => ⟨[(1, .int .i64 a1), (2, .fn 34 []), (7, .ex 19 1 1 (((x1 : (List Bool)).map cellsOf).length) 0 (((x1 : (List Bool)).map cellsOf).length)), (20, lstOf .frozen (a0 : (List T_api_Track))), (21, .int .i64 ((a0.length : Nat) : Int)), (22, .int .i64 x28), (28, lstOf .frozen (r58 : (List Int))), (29, .int .i64 ((r58.length : Nat) : Int)), (30, .int .i64 x66)], [], [(19, (((x1 : (List Bool)).map cellsOf).length, 0))], [(19, (1, (1, (x79 : (List Bool)).map cellsOf)))]⟩) ?_ ?_
          · refine pwp_block (pwp_seq (r_reg ?_))
            obtain ⟨x80, h76, h75⟩ := o_bind h75
            refine zI h76 ?_
            refine zE ?_
            refine q_next (pwp_seq (r_reg ?_))
            refine zR 3 ?_
            refine e_segb 4 40 ((decide (0 ≤ x80)) && (decide (x80 < a1))) (fun x hx => ?_) ?_
            · rcases b_and hx with ⟨hb, hx⟩ | ⟨hb, hx⟩
              · refine zS 36 hb ?_
                subst hx
                exact zF
              refine zS 36 hb ?_
              subst hx
              exact zF
            refine zN ?_
            refine q_next ?_
            rcases o_cond h75 with ⟨hb, h75⟩ | ⟨hb, h75⟩
            · refine zT hb ?_
              refine r_reg ?_
              refine zR 2 ?_
              obtain ⟨j81, h77, h75⟩ := o_bind h75
              refine p_xix (tk := 19) (k := 1) (N := ((x1 : (List Bool)).map cellsOf).length) h77 (by kernel_rfl) ?_
              obtain ⟨x82, h78, h75⟩ := o_bind h75
              refine p_xst (L := (x67 : (List Bool))) (tk := 19) (N := ((x1 : (List Bool)).map cellsOf).length) (j := j81) (y := x82) (y' := true) h78 0 1 [.bool true] (by kernel_rfl) (by kernel_rfl) ?_
              refine zN ?_
              refine q_block ?_
              cases h75
              exact zJ
            refine zU hb ?_
            refine pwp_skip (q_block ?_)
            cases h75
            exact zJ
          rintro x79 rfl
          have h70 := o_outl h70
          refine r_reg ?_
          refine zE ?_
          cases h70
          exact zB
        refine zU hb ?_
        refine pwp_exit (q_seq_exit ?_)
        cases h70
        exact zX
      rintro x75 s' rfl hs
      have h52 := o_outl h52
      refine q_block_hit (q_block ?_)
      refine q_next (pwp_wkr hs ?_)
      refine r_reg ?_
      refine zE ?_
      cases h52
      exact zB
    refine zU hb ?_
    refine pwp_exit (q_seq_exit ?_)
    cases h52
    exact zX
  rintro x56 s' rfl hs
  have h := o_outl h
  refine q_block_hit ?_
  refine q_next (pwp_wkr hs ?_)
  refine pwp_seq (r_reg ?_)
  refine zE ?_
  refine q_next ?_
  refine pwp_wkr (wkr_share (xss := (x56 : (List Bool)).map cellsOf) 19 1 1 (((x1 : (List Bool)).map cellsOf).length) [6, 7, 46] [] (by kernel_rfl) (by kernel_rfl) (by kernel_rfl) (by kernel_rfl)) ?_
  refine pwp_ret ?_
  cases h
  exact zQ

/-! claims.Claimed -/
noncomputable def d_claims_Claimed (a0 : (List T_api_Track)) (a1 : Int) : Option (List Bool) :=
  (d_claims_among__claims_Claimed_c1 a0 a1).bind fun r1 =>
  some r1
theorem d_claims_Claimed_ok (a0 : (List T_api_Track)) (a1 : Int) (r : (List Bool)) (h : d_claims_Claimed a0 a1 = some r) : PCall Go.Proofs.Tryz.prog GlS 11 [Enc.pv a0, Enc.pv a1] (Enc.pv r) := by
  unfold d_claims_Claimed at h
  refine pcall_of_pwp Go.Proofs.Tryz.func11 (by rfl) rfl Go.Proofs.Tryz.ntmps11 (by rfl) rfl ?_
  refine pwp_seq (r_reg ?_)
  refine zE ?_
  refine q_next (pwp_seq (r_reg ?_))
  refine zR 2 ?_
  obtain ⟨r1, h1, h⟩ := o_bind h
  refine p_call (d_claims_among__claims_Claimed_c1_ok _ _ r1 h1) (by kernel_rfl) (by kernel_rfl) ?_
  refine zE ?_
  refine q_next (pwp_ret ?_)
  cases h
  exact zQ

/-! signallingref40.Has -/
noncomputable def d_ref40_Has_0 (a0 : (List Int)) (a1 : Int) : Int → Option (Int ⊕ (Unit ⊕ Bool)) := fun x2 =>
  bif decide (x2 < ((a0.length : Nat) : Int)) then (
    (ixO a0 x2).bind fun x4 =>
    bif decide (x4 = a1) then (
      some (.inr (.inr true))
    ) else (
      some (.inl (w64 (x2 + 1)))
    )
  ) else (
    some (.inr (.inl ()))
  )

noncomputable def d_ref40_Has (a0 : (List Int)) (a1 : Int) : Option Bool :=
  onInl (α := Unit) (β := Bool) (loopO (d_ref40_Has_0 a0 a1) 0) fun _ =>
  some false
theorem d_ref40_Has_ok (a0 : (List Int)) (a1 : Int) (r : Bool) (h : d_ref40_Has a0 a1 = some r) : PCall Go.Proofs.Tryz.prog GlS 35 [Enc.pv a0, Enc.pv a1] (Enc.pv r) := by
  unfold d_ref40_Has at h
  refine pcall_of_pwp Go.Proofs.Tryz.func35 (by rfl) rfl Go.Proofs.Tryz.ntmps35 (by rfl) rfl ?_
  refine pwp_seq (r_reg ?_)
  refine zE ?_
  refine q_next (pwp_seq (pwp_seq (r_reg ?_)))
  refine zR 1 ?_
  refine p_len (L := (a0 : (List Int))) (by kernel_rfl) ?_
  refine zE ?_
  refine q_next (pwp_block ?_)
  obtain ⟨o6, h6, h⟩ := o_inl h
  refine r_loop2 17 0 (fun x2 => ⟨[(1, .int .i64 a1), (7, lstOf .frozen (a0 : (List Int))), (8, .int .i64 ((a0.length : Nat) : Int)), (9, .int .i64 x2)], [], [], []⟩) (fun (_ : Unit) => ⟨[], [], [], []⟩) h6 (by kernel_rfl) (fun _ => by kernel_rfl) ?_ ?_
  · rintro x2 oh5 h5
    unfold d_ref40_Has_0 at h5
    refine pwp_seq (r_reg ?_)
    refine zE ?_
    refine q_next (pwp_seq ?_)
    rcases o_cond h5 with ⟨hb, h5⟩ | ⟨hb, h5⟩
    · refine zT hb ?_
      refine pwp_skip (q_next (pwp_seq (pwp_block (pwp_seq (r_reg ?_)))))
      obtain ⟨x4, h7, h5⟩ := o_bind h5
      refine zI h7 ?_
      refine zE ?_
      refine q_next (pwp_seq (r_reg ?_))
      refine zE ?_
      refine q_next ?_
      rcases o_cond h5 with ⟨hb, h5⟩ | ⟨hb, h5⟩
      · refine zT hb ?_
        refine pwp_seq (r_reg ?_)
        refine zE ?_
        refine q_next (pwp_ret (q_block_ret (q_seq_ret ?_)))
        cases h5
        refine q_lout_ret fun he => ?_
        subst he
        have h8 := o_outr h
        refine q_block_ret (q_seq_ret ?_)
        cases h8
        exact zQ
      refine zU hb ?_
      refine pwp_skip (q_block (q_next (r_reg ?_)))
      refine zE ?_
      cases h5
      exact zB
    refine zU hb ?_
    refine pwp_exit (q_seq_exit ?_)
    cases h5
    exact zX
  rintro _ s' rfl hs
  have h := o_outl h
  refine q_block_hit ?_
  refine q_next (pwp_wkr hs ?_)
  refine pwp_seq (r_reg ?_)
  refine zE ?_
  refine q_next (pwp_ret ?_)
  cases h
  exact zQ

/-! signallingref40.Claimed -/
noncomputable def d_ref40_Claimed_1 (a0 : (List T_api_Track)) (x26 : Int) : (Bool × Int) → Option ((Bool × Int) ⊕ (Bool ⊕ ((Int × (List Bool)) ⊕ ((List Bool) ⊕ (List Bool))))) := fun (x43, x44) =>
  bif decide (x44 < ((a0.length : Nat) : Int)) then (
    (ixO a0 x44).bind fun x49 =>
    ((bif x43 then some true else (
      (d_ref40_Has x49.Routes x26).bind fun r51 =>
      some r51
    )) : Option Bool).bind fun b50 =>
    some (.inl (b50, w64 (x44 + 1)))
  ) else (
    some (.inr (.inl x43))
  )

noncomputable def d_ref40_Claimed_0 (a0 : (List T_api_Track)) (a1 : Int) : (Int × (List Bool)) → Option ((Int × (List Bool)) ⊕ ((List Bool) ⊕ (List Bool))) := fun (x26, x27) =>
  bif ((decide (x26 < a1)) && (decide (a1 ≤ 48))) then (
    onInl (α := Bool) (β := ((Int × (List Bool)) ⊕ ((List Bool) ⊕ (List Bool)))) (loopO (d_ref40_Claimed_1 a0 x26) (false, 0)) fun x48 =>
    (appO x27 [x48]).bind fun x52 =>
    some (.inl (w64 (x26 + 1), x52))
  ) else (
    some (.inr (.inl x27))
  )

noncomputable def d_ref40_Claimed (a0 : (List T_api_Track)) (a1 : Int) : Option (List Bool) :=
  onInl (α := (List Bool)) (β := (List Bool)) (loopO (d_ref40_Claimed_0 a0 a1) (0, ([] : (List Bool)))) fun x40 =>
  some x40
theorem d_ref40_Claimed_ok (a0 : (List T_api_Track)) (a1 : Int) (r : (List Bool)) (h : d_ref40_Claimed a0 a1 = some r) : PCall Go.Proofs.Tryz.prog GlS 12 [Enc.pv a0, Enc.pv a1] (lstOf (.own 100005) r) := by
  unfold d_ref40_Claimed at h
  refine pcall_of_pwp Go.Proofs.Tryz.func12 (by rfl) rfl Go.Proofs.Tryz.ntmps12 (by rfl) rfl ?_
  refine pwp_seq (r_reg ?_)
  refine zE ?_
  refine q_next (pwp_seq (r_reg ?_))
  refine zE ?_
  refine q_next (pwp_seq (pwp_seq (r_reg ?_)))
  refine zE ?_
  refine q_next (pwp_block ?_)
  refine g_nil 5 100005 1 1 (by kernel_rfl) (by kernel_rfl) ?_
  obtain ⟨o35, h35, h⟩ := o_inl h
  refine r_loop2 38 0 (fun (x26, x27) => ⟨[(0, lstOf .frozen (a0 : (List T_api_Track))), (1, .int .i64 a1), (5, lstOf (.own 100005) (x27 : (List Bool))), (6, .int .i64 x26)], [], [(100005, (((x27).map cellsOf).length, 1))], []⟩) (fun x40 => ⟨[(5, lstOf (.own 100005) (x40 : (List Bool)))], [], [(100005, (((x40).map cellsOf).length, 1))], []⟩) h35 (by kernel_rfl) (fun _ => by kernel_rfl) ?_ ?_
  · rintro ⟨x26, x27⟩ oh34 h34
    unfold d_ref40_Claimed_0 at h34
    refine pwp_seq (pwp_seq (r_reg ?_))
    refine zR 4 ?_
    refine e_segb 3 16 ((decide (x26 < a1)) && (decide (a1 ≤ 48))) (fun x hx => ?_) ?_
    · rcases b_and hx with ⟨hb, hx⟩ | ⟨hb, hx⟩
      · refine zS 13 hb ?_
        subst hx
        exact zF
      refine zS 13 hb ?_
      subst hx
      exact zF
    refine zN ?_
    refine q_next ?_
    rcases o_cond h34 with ⟨hb, h34⟩ | ⟨hb, h34⟩
    · refine zT hb ?_
      refine pwp_skip (q_next (pwp_seq (pwp_block (pwp_seq (r_reg ?_)))))
      refine zE ?_
      refine q_next (pwp_seq (pwp_seq (r_reg ?_)))
      refine zR 1 ?_
      refine p_len (L := (a0 : (List T_api_Track))) (by kernel_rfl) ?_
      refine zE ?_
      refine q_next (pwp_block ?_)
      obtain ⟨o42, h42, h34⟩ := o_inl h34
      refine r_loop2 38 2 (fun (x43, x44) => ⟨[(0, lstOf .frozen (a0 : (List T_api_Track))), (1, .int .i64 a1), (5, lstOf (.own 100005) (x27 : (List Bool))), (6, .int .i64 x26), (7, .bool x43), (19, lstOf .frozen (a0 : (List T_api_Track))), (20, .int .i64 ((a0.length : Nat) : Int)), (21, .int .i64 x44)], [], [(100005, (((x27).map cellsOf).length, 1))], []⟩) (fun x48 => ⟨[(0, lstOf .frozen (a0 : (List T_api_Track))), (1, .int .i64 a1), (5, lstOf (.own 100005) (x27 : (List Bool))), (6, .int .i64 x26), (7, .bool x48)], [], [(100005, (((x27).map cellsOf).length, 1))], []⟩) h42 (by kernel_rfl) (fun _ => by kernel_rfl) ?_ ?_
      · rintro ⟨x43, x44⟩ oh41 h41
        unfold d_ref40_Claimed_1 at h41
        refine pwp_seq (r_reg ?_)
        refine zE ?_
        refine q_next (pwp_seq ?_)
        rcases o_cond h41 with ⟨hb, h41⟩ | ⟨hb, h41⟩
        · refine zT hb ?_
          refine pwp_skip (q_next (pwp_seq (pwp_block (pwp_seq (r_reg ?_)))))
          obtain ⟨x49, h43, h41⟩ := o_bind h41
          refine zI h43 ?_
          refine zE ?_
          refine q_next (r_reg ?_)
          obtain ⟨b50, h44, h41⟩ := o_bind h41
          refine zR 2 ?_
          refine e_seg 5 31 (.bool b50) ?_ ?_
          · rcases o_cond h44 with ⟨hb, h44⟩ | ⟨hb, h44⟩
            · refine zS 26 hb ?_
              cases h44
              exact zF
            refine zS 26 hb ?_
            refine zR 3 ?_
            obtain ⟨r51, h45, h44⟩ := o_bind h44
            refine p_call (d_ref40_Has_ok _ _ r51 h45) (by kernel_rfl) (by kernel_rfl) ?_
            cases h44
            exact zF
          refine zE ?_
          refine q_block (q_next (r_reg ?_))
          refine zE ?_
          cases h41
          exact zB
        refine zU hb ?_
        refine pwp_exit (q_seq_exit ?_)
        cases h41
        exact zX
      rintro x48 s' rfl hs
      have h34 := o_outl h34
      refine q_block_hit ?_
      refine q_next (pwp_wkr hs ?_)
      refine r_reg ?_
      refine zR 3 ?_
      obtain ⟨x52, h46, h34⟩ := o_bind h34
      refine p_app (tk := 100005) h46 (by kernel_rfl) (by kernel_rfl) ?_
      refine zE ?_
      refine q_block (q_next (r_reg ?_))
      refine zE ?_
      cases h34
      exact zB
    refine zU hb ?_
    refine pwp_exit (q_seq_exit ?_)
    cases h34
    exact zX
  rintro x40 s' rfl hs
  have h := o_outl h
  refine q_block_hit ?_
  refine q_next (pwp_wkr hs ?_)
  refine pwp_seq (r_reg ?_)
  refine zE ?_
  refine q_next (pwp_ret ?_)
  cases h
  exact zQ
theorem d_ref40_Claimed_fz (a0 : (List T_api_Track)) (a1 : Int) (r : (List Bool)) (h : d_ref40_Claimed a0 a1 = some r) : PCall Go.Proofs.Tryz.prog GlS 12 [Enc.pv a0, Enc.pv a1] (Enc.pv r) :=
  (d_ref40_Claimed_ok a0 a1 r h).freeze (by kernel_rfl) (by kernel_rfl) (by kernel_rfl)

/-! signallinglaw40.same -/
noncomputable def d_law40_same_0 (a0 : (List Bool)) (a1 : (List Bool)) : Int → Option (Int ⊕ (Unit ⊕ Bool)) := fun x3 =>
  bif decide (x3 < ((a0.length : Nat) : Int)) then (
    (ixO a0 x3).bind fun x6 =>
    (ixO a1 x3).bind fun x7 =>
    bif (!(x6 == x7)) then (
      some (.inr (.inr false))
    ) else (
      some (.inl (w64 (x3 + 1)))
    )
  ) else (
    some (.inr (.inl ()))
  )

noncomputable def d_law40_same (a0 : (List Bool)) (a1 : (List Bool)) : Option Bool :=
  bif (!(decide (((a0.length : Nat) : Int) = ((a1.length : Nat) : Int)))) then (
    some false
  ) else (
    onInl (α := Unit) (β := Bool) (loopO (d_law40_same_0 a0 a1) 0) fun _ =>
    some true
  )
theorem d_law40_same_ok (a0 : (List Bool)) (a1 : (List Bool)) (r : Bool) (h : d_law40_same a0 a1 = some r) : PCall Go.Proofs.Tryz.prog GlS 10 [Enc.pv a0, Enc.pv a1] (Enc.pv r) := by
  unfold d_law40_same at h
  refine pcall_of_pwp Go.Proofs.Tryz.func10 (by rfl) rfl Go.Proofs.Tryz.ntmps10 (by rfl) rfl ?_
  refine pwp_seq (r_reg ?_)
  refine zE ?_
  refine q_next (pwp_seq (pwp_seq (r_reg ?_)))
  refine zR 1 ?_
  refine p_len (L := (a0 : (List Bool))) (by kernel_rfl) ?_
  refine zR 1 ?_
  refine p_len (L := (a1 : (List Bool))) (by kernel_rfl) ?_
  refine zE ?_
  refine q_next ?_
  rcases o_cond h with ⟨hb, h⟩ | ⟨hb, h⟩
  · refine zT hb ?_
    refine pwp_seq (r_reg ?_)
    refine zE ?_
    refine q_next (pwp_ret (q_seq_ret ?_))
    cases h
    exact zQ
  refine zU hb ?_
  refine pwp_skip (q_next (pwp_seq (pwp_seq (r_reg ?_))))
  refine zR 1 ?_
  refine p_len (L := (a0 : (List Bool))) (by kernel_rfl) ?_
  refine zE ?_
  refine q_next (pwp_block ?_)
  obtain ⟨o8, h8, h⟩ := o_inl h
  refine r_loop2 26 0 (fun x3 => ⟨[(0, lstOf .frozen (a0 : (List Bool))), (1, lstOf .frozen (a1 : (List Bool))), (12, .int .i64 ((a0.length : Nat) : Int)), (13, .int .i64 x3)], [], [], []⟩) (fun (_ : Unit) => ⟨[], [], [], []⟩) h8 (by kernel_rfl) (fun _ => by kernel_rfl) ?_ ?_
  · rintro x3 oh7 h7
    unfold d_law40_same_0 at h7
    refine pwp_seq (r_reg ?_)
    refine zE ?_
    refine q_next (pwp_seq ?_)
    rcases o_cond h7 with ⟨hb, h7⟩ | ⟨hb, h7⟩
    · refine zT hb ?_
      refine pwp_skip (q_next (pwp_seq (pwp_block (pwp_seq (r_reg ?_)))))
      refine zE ?_
      refine q_next (pwp_seq ?_)
      refine r_regd (by kernel_rfl) (by kernel_rfl) ?_
      refine zR 2 ?_
      obtain ⟨x6, h9, h7⟩ := o_bind h7
      refine zI h9 ?_
      refine zR 3 ?_
      obtain ⟨x7, h10, h7⟩ := o_bind h7
      refine zI h10 ?_
      refine zE ?_
      refine q_next ?_
      rcases o_cond h7 with ⟨hb, h7⟩ | ⟨hb, h7⟩
      · refine zT hb ?_
        refine pwp_seq (r_reg ?_)
        refine zE ?_
        refine q_next (pwp_ret (q_block_ret (q_seq_ret ?_)))
        cases h7
        refine q_lout_ret fun he => ?_
        subst he
        have h11 := o_outr h
        refine q_block_ret (q_seq_ret ?_)
        cases h11
        exact zQ
      refine zU hb ?_
      refine pwp_skip (q_block (q_next (r_reg ?_)))
      refine zE ?_
      cases h7
      exact zB
    refine zU hb ?_
    refine pwp_exit (q_seq_exit ?_)
    cases h7
    exact zX
  rintro _ s' rfl hs
  have h := o_outl h
  refine q_block_hit ?_
  refine q_next (pwp_wkr hs ?_)
  refine pwp_seq (r_reg ?_)
  refine zE ?_
  refine q_next (pwp_ret ?_)
  cases h
  exact zQ

/-! claims.Passed$1 -/
noncomputable def d_claims_Passed_c1 (a0 : T_api_Track) : Option (List Int) :=
  some a0.Done
theorem d_claims_Passed_c1_ok (a0 : T_api_Track) (r : (List Int)) (h : d_claims_Passed_c1 a0 = some r) : PCall Go.Proofs.Tryz.prog GlS 36 [Enc.pv a0] (Enc.pv r) := by
  unfold d_claims_Passed_c1 at h
  refine pcall_of_pwp Go.Proofs.Tryz.func36 (by rfl) rfl Go.Proofs.Tryz.ntmps36 (by rfl) rfl ?_
  refine pwp_seq (r_reg ?_)
  refine zE ?_
  refine q_next (pwp_seq (r_reg ?_))
  refine zE ?_
  refine q_next (pwp_ret ?_)
  cases h
  exact zQ

/-! claims.among -/
noncomputable def d_claims_among__claims_Passed_c1_1 (a1 : Int) (x1 : (List Bool)) (r58 : (List Int)) : (Int × (List Bool)) → Option ((Int × (List Bool)) ⊕ ((List Bool) ⊕ ((Int × (List Bool)) ⊕ ((List Bool) ⊕ (List Bool))))) := fun (x66, x67) =>
  bif decide (x66 < ((r58.length : Nat) : Int)) then (
    onInl (α := (List Bool)) (β := ((Int × (List Bool)) ⊕ ((List Bool) ⊕ ((Int × (List Bool)) ⊕ ((List Bool) ⊕ (List Bool)))))) (
      (ixO r58 x66).bind fun x80 =>
      bif ((decide (0 ≤ x80)) && (decide (x80 < a1))) then (
        (xixO 0 (((x1 : (List Bool)).map cellsOf).length) x80).bind fun j81 =>
        (xldO x67 (((x1 : (List Bool)).map cellsOf).length) j81).bind fun x82 =>
        some (.inl (x67.set j81 true))
      ) else (
        some (.inl x67)
      )
    ) fun x79 =>
    some (.inl (w64 (x66 + 1), x79))
  ) else (
    some (.inr (.inl x67))
  )

noncomputable def d_claims_among__claims_Passed_c1_0 (a0 : (List T_api_Track)) (a1 : Int) (x1 : (List Bool)) : (Int × (List Bool)) → Option ((Int × (List Bool)) ⊕ ((List Bool) ⊕ (List Bool))) := fun (x28, x29) =>
  bif decide (x28 < ((a0.length : Nat) : Int)) then (
    (ixO a0 x28).bind fun x57 =>
    (d_claims_Passed_c1 x57).bind fun r58 =>
    onInl (α := (List Bool)) (β := ((Int × (List Bool)) ⊕ ((List Bool) ⊕ (List Bool)))) (loopO (d_claims_among__claims_Passed_c1_1 a1 x1 r58) (0, x29)) fun x75 =>
    some (.inl (w64 (x28 + 1), x75))
  ) else (
    some (.inr (.inl x29))
  )

noncomputable def d_claims_among__claims_Passed_c1 (a0 : (List T_api_Track)) (a1 : Int) : Option (List Bool) :=
  bif ((decide (a1 < 0)) || (decide (48 < a1))) then (
    some ([] : (List Bool))
  ) else (
    (mkxO a1 a1 1 (false : Bool)).bind fun x1 =>
    onInl (α := (List Bool)) (β := (List Bool)) (loopO (d_claims_among__claims_Passed_c1_0 a0 a1 x1) (0, x1)) fun x56 =>
    some x56
  )
theorem d_claims_among__claims_Passed_c1_ok (a0 : (List T_api_Track)) (a1 : Int) (r : (List Bool)) (h : d_claims_among__claims_Passed_c1 a0 a1 = some r) : PCall Go.Proofs.Tryz.prog GlS 33 [Enc.pv a0, Enc.pv a1, .fn 36 []] (Enc.pv r) := by
  unfold d_claims_among__claims_Passed_c1 at h
  refine pcall_of_pwp Go.Proofs.Tryz.func33 (by rfl) rfl Go.Proofs.Tryz.ntmps33 (by rfl) rfl ?_
  refine pwp_seq (r_reg ?_)
  refine zE ?_
  refine q_next (pwp_seq (pwp_seq (r_reg ?_)))
  refine zR 3 ?_
  refine e_segb 3 17 ((decide (a1 < 0)) || (decide (48 < a1))) (fun x hx => ?_) ?_
  · rcases b_or hx with ⟨hb, hx⟩ | ⟨hb, hx⟩
    · refine zS 14 hb ?_
      subst hx
      exact zF
    refine zS 14 hb ?_
    subst hx
    exact zF
  refine zN ?_
  refine q_next ?_
  rcases o_cond h with ⟨hb, h⟩ | ⟨hb, h⟩
  · refine zT hb ?_
    refine pwp_seq (r_reg ?_)
    refine zE ?_
    refine q_next (pwp_ret (q_seq_ret ?_))
    cases h
    exact zQ
  refine zU hb ?_
  refine pwp_skip (q_next (pwp_seq (r_reg ?_)))
  refine zR 1 ?_
  obtain ⟨x1, h1, h⟩ := o_bind h
  refine p_xmk (z := (false : Bool)) 19 h1 (by kernel_rfl) (by kernel_rfl) ?_
  refine zE ?_
  refine q_next (pwp_seq (pwp_seq (r_reg ?_)))
  refine zR 1 ?_
  refine p_len (L := (a0 : (List T_api_Track))) (by kernel_rfl) ?_
  refine zE ?_
  refine q_next (pwp_block ?_)
  obtain ⟨o53, h53, h⟩ := o_inl h
  refine r_loop2 47 0 (fun (x28, x29) => ⟨[(1, .int .i64 a1), (2, .fn 36 []), (7, .ex 19 1 1 (((x1 : (List Bool)).map cellsOf).length) 0 (((x1 : (List Bool)).map cellsOf).length)), (20, lstOf .frozen (a0 : (List T_api_Track))), (21, .int .i64 ((a0.length : Nat) : Int)), (22, .int .i64 x28)], [], [(19, (((x1 : (List Bool)).map cellsOf).length, 0))], [(19, (1, (1, (x29 : (List Bool)).map cellsOf)))]⟩) (fun x56 => ⟨[(7, .ex 19 1 1 (((x1 : (List Bool)).map cellsOf).length) 0 (((x1 : (List Bool)).map cellsOf).length))], [], [(19, (((x1 : (List Bool)).map cellsOf).length, 0))], [(19, (1, (1, (x56 : (List Bool)).map cellsOf)))]⟩) h53 (by kernel_rfl) (fun _ => by kernel_rfl) ?_ ?_
  · rintro ⟨x28, x29⟩ oh52 h52
    unfold d_claims_among__claims_Passed_c1_0 at h52
    refine pwp_seq (r_reg ?_)
    refine zE ?_
    refine q_next (pwp_seq ?_)
    rcases o_cond h52 with ⟨hb, h52⟩ | ⟨hb, h52⟩
    · refine zT hb ?_
      refine pwp_skip (q_next (pwp_seq (pwp_block (pwp_seq (r_reg ?_)))))
      obtain ⟨x57, h54, h52⟩ := o_bind h52
      refine zI h54 ?_
      refine zE ?_
      refine q_next (pwp_seq (r_reg ?_))
      refine zR 2 ?_
      obtain ⟨r58, h55, h52⟩ := o_bind h52
      refine p_call (d_claims_Passed_c1_ok _ r58 h55) (by kernel_rfl) (by kernel_rfl) ?_
      refine p_len (L := (r58 : (List Int))) (by kernel_rfl) ?_
      refine zE ?_
      refine q_next (pwp_block ?_)
      obtain ⟨o71, h71, h52⟩ := o_inl h52
      refine r_loop2 47 2 (fun (x66, x67) => ⟨[(1, .int .i64 a1), (2, .fn 36 []), (7, .ex 19 1 1 (((x1 : (List Bool)).map cellsOf).length) 0 (((x1 : (List Bool)).map cellsOf).length)), (20, lstOf .frozen (a0 : (List T_api_Track))), (21, .int .i64 ((a0.length : Nat) : Int)), (22, .int .i64 x28), (28, lstOf .frozen (r58 : (List Int))), (29, .int .i64 ((r58.length : Nat) : Int)), (30, .int .i64 x66)], [], [(19, (((x1 : (List Bool)).map cellsOf).length, 0))], [(19, (1, (1, (x67 : (List Bool)).map cellsOf)))]⟩) (fun x75 => ⟨[(1, .int .i64 a1), (2, .fn 36 []), (7, .ex 19 1 1 (((x1 : (List Bool)).map cellsOf).length) 0 (((x1 : (List Bool)).map cellsOf).length)), (20, lstOf .frozen (a0 : (List T_api_Track))), (21, .int .i64 ((a0.length : Nat) : Int)), (22, .int .i64 x28)], [], [(19, (((x1 : (List Bool)).map cellsOf).length, 0))], [(19, (1, (1, (x75 : (List Bool)).map cellsOf)))]⟩) h71 (by kernel_rfl) (fun _ => by kernel_rfl) ?_ ?_
      · rintro ⟨x66, x67⟩ oh70 h70
        unfold d_claims_among__claims_Passed_c1_1 at h70
        refine pwp_seq (r_reg ?_)
        refine zE ?_
        refine q_next (pwp_seq ?_)
        rcases o_cond h70 with ⟨hb, h70⟩ | ⟨hb, h70⟩
        · refine zT hb ?_
          refine pwp_skip (q_next ?_)
          obtain ⟨o75, h75, h70⟩ := o_inl h70
          refine r_join (o := o75) 47 (fun x79 => ⟨[(1, .int .i64 a1), (2, .fn 36 []), (7, .ex 19 1 1 (((x1 : (List Bool)).map cellsOf).length) 0 (((x1 : (List Bool)).map cellsOf).length)), (20, lstOf .frozen (a0 : (List T_api_Track))), (21, .int .i64 ((a0.length : Nat) : Int)), (22, .int .i64 x28), (28, lstOf .frozen (r58 : (List Int))), (29, .int .i64 ((r58.length : Nat) : Int)), (30, .int .i64 x66)], [], [(19, (((x1 : (List Bool)).map cellsOf).length, 0))], [(19, (1, (1, (x79 : (List Bool)).map cellsOf)))]⟩) ?_ ?_
          · refine pwp_block (pwp_seq (r_reg ?_))
            obtain ⟨x80, h76, h75⟩ := o_bind h75
            refine zI h76 ?_
            refine zE ?_
            refine q_next (pwp_seq (r_reg ?_))
            refine zR 3 ?_
            refine e_segb 4 40 ((decide (0 ≤ x80)) && (decide (x80 < a1))) (fun x hx => ?_) ?_
            · rcases b_and hx with ⟨hb, hx⟩ | ⟨hb, hx⟩
              · refine zS 36 hb ?_
                subst hx
                exact zF
              refine zS 36 hb ?_
              subst hx
              exact zF
            refine zN ?_
            refine q_next ?_
            rcases o_cond h75 with ⟨hb, h75⟩ | ⟨hb, h75⟩
            · refine zT hb ?_
              refine r_reg ?_
              refine zR 2 ?_
              obtain ⟨j81, h77, h75⟩ := o_bind h75
              refine p_xix (tk := 19) (k := 1) (N := ((x1 : (List Bool)).map cellsOf).length) h77 (by kernel_rfl) ?_
              obtain ⟨x82, h78, h75⟩ := o_bind h75
              refine p_xst (L := (x67 : (List Bool))) (tk := 19) (N := ((x1 : (List Bool)).map cellsOf).length) (j := j81) (y := x82) (y' := true) h78 0 1 [.bool true] (by kernel_rfl) (by kernel_rfl) ?_
              refine zN ?_
              refine q_block ?_
              cases h75
              exact zJ
            refine zU hb ?_
            refine pwp_skip (q_block ?_)
            cases h75
            exact zJ
          rintro x79 rfl
          have h70 := o_outl h70
          refine r_reg ?_
          refine zE ?_
          cases h70
          exact zB
        refine zU hb ?_
        refine pwp_exit (q_seq_exit ?_)
        cases h70
        exact zX
      rintro x75 s' rfl hs
      have h52 := o_outl h52
      refine q_block_hit (q_block ?_)
      refine q_next (pwp_wkr hs ?_)
      refine r_reg ?_
      refine zE ?_
      cases h52
      exact zB
    refine zU hb ?_
    refine pwp_exit (q_seq_exit ?_)
    cases h52
    exact zX
  rintro x56 s' rfl hs
  have h := o_outl h
  refine q_block_hit ?_
  refine q_next (pwp_wkr hs ?_)
  refine pwp_seq (r_reg ?_)
  refine zE ?_
  refine q_next ?_
  refine pwp_wkr (wkr_share (xss := (x56 : (List Bool)).map cellsOf) 19 1 1 (((x1 : (List Bool)).map cellsOf).length) [6, 7, 46] [] (by kernel_rfl) (by kernel_rfl) (by kernel_rfl) (by kernel_rfl)) ?_
  refine pwp_ret ?_
  cases h
  exact zQ

/-! claims.Passed -/
noncomputable def d_claims_Passed (a0 : (List T_api_Track)) (a1 : Int) : Option (List Bool) :=
  (d_claims_among__claims_Passed_c1 a0 a1).bind fun r1 =>
  some r1
theorem d_claims_Passed_ok (a0 : (List T_api_Track)) (a1 : Int) (r : (List Bool)) (h : d_claims_Passed a0 a1 = some r) : PCall Go.Proofs.Tryz.prog GlS 13 [Enc.pv a0, Enc.pv a1] (Enc.pv r) := by
  unfold d_claims_Passed at h
  refine pcall_of_pwp Go.Proofs.Tryz.func13 (by rfl) rfl Go.Proofs.Tryz.ntmps13 (by rfl) rfl ?_
  refine pwp_seq (r_reg ?_)
  refine zE ?_
  refine q_next (pwp_seq (r_reg ?_))
  refine zR 2 ?_
  obtain ⟨r1, h1, h⟩ := o_bind h
  refine p_call (d_claims_among__claims_Passed_c1_ok _ _ r1 h1) (by kernel_rfl) (by kernel_rfl) ?_
  refine zE ?_
  refine q_next (pwp_ret ?_)
  cases h
  exact zQ

/-! signallingref40.Passed -/
noncomputable def d_ref40_Passed_1 (a0 : (List T_api_Track)) (x26 : Int) : (Bool × Int) → Option ((Bool × Int) ⊕ (Bool ⊕ ((Int × (List Bool)) ⊕ ((List Bool) ⊕ (List Bool))))) := fun (x43, x44) =>
  bif decide (x44 < ((a0.length : Nat) : Int)) then (
    (ixO a0 x44).bind fun x49 =>
    ((bif x43 then some true else (
      (d_ref40_Has x49.Done x26).bind fun r51 =>
      some r51
    )) : Option Bool).bind fun b50 =>
    some (.inl (b50, w64 (x44 + 1)))
  ) else (
    some (.inr (.inl x43))
  )

noncomputable def d_ref40_Passed_0 (a0 : (List T_api_Track)) (a1 : Int) : (Int × (List Bool)) → Option ((Int × (List Bool)) ⊕ ((List Bool) ⊕ (List Bool))) := fun (x26, x27) =>
  bif ((decide (x26 < a1)) && (decide (a1 ≤ 48))) then (
    onInl (α := Bool) (β := ((Int × (List Bool)) ⊕ ((List Bool) ⊕ (List Bool)))) (loopO (d_ref40_Passed_1 a0 x26) (false, 0)) fun x48 =>
    (appO x27 [x48]).bind fun x52 =>
    some (.inl (w64 (x26 + 1), x52))
  ) else (
    some (.inr (.inl x27))
  )

noncomputable def d_ref40_Passed (a0 : (List T_api_Track)) (a1 : Int) : Option (List Bool) :=
  onInl (α := (List Bool)) (β := (List Bool)) (loopO (d_ref40_Passed_0 a0 a1) (0, ([] : (List Bool)))) fun x40 =>
  some x40
theorem d_ref40_Passed_ok (a0 : (List T_api_Track)) (a1 : Int) (r : (List Bool)) (h : d_ref40_Passed a0 a1 = some r) : PCall Go.Proofs.Tryz.prog GlS 14 [Enc.pv a0, Enc.pv a1] (lstOf (.own 100005) r) := by
  unfold d_ref40_Passed at h
  refine pcall_of_pwp Go.Proofs.Tryz.func14 (by rfl) rfl Go.Proofs.Tryz.ntmps14 (by rfl) rfl ?_
  refine pwp_seq (r_reg ?_)
  refine zE ?_
  refine q_next (pwp_seq (r_reg ?_))
  refine zE ?_
  refine q_next (pwp_seq (pwp_seq (r_reg ?_)))
  refine zE ?_
  refine q_next (pwp_block ?_)
  refine g_nil 5 100005 1 1 (by kernel_rfl) (by kernel_rfl) ?_
  obtain ⟨o35, h35, h⟩ := o_inl h
  refine r_loop2 38 0 (fun (x26, x27) => ⟨[(0, lstOf .frozen (a0 : (List T_api_Track))), (1, .int .i64 a1), (5, lstOf (.own 100005) (x27 : (List Bool))), (6, .int .i64 x26)], [], [(100005, (((x27).map cellsOf).length, 1))], []⟩) (fun x40 => ⟨[(5, lstOf (.own 100005) (x40 : (List Bool)))], [], [(100005, (((x40).map cellsOf).length, 1))], []⟩) h35 (by kernel_rfl) (fun _ => by kernel_rfl) ?_ ?_
  · rintro ⟨x26, x27⟩ oh34 h34
    unfold d_ref40_Passed_0 at h34
    refine pwp_seq (pwp_seq (r_reg ?_))
    refine zR 4 ?_
    refine e_segb 3 16 ((decide (x26 < a1)) && (decide (a1 ≤ 48))) (fun x hx => ?_) ?_
    · rcases b_and hx with ⟨hb, hx⟩ | ⟨hb, hx⟩
      · refine zS 13 hb ?_
        subst hx
        exact zF
      refine zS 13 hb ?_
      subst hx
      exact zF
    refine zN ?_
    refine q_next ?_
    rcases o_cond h34 with ⟨hb, h34⟩ | ⟨hb, h34⟩
    · refine zT hb ?_
      refine pwp_skip (q_next (pwp_seq (pwp_block (pwp_seq (r_reg ?_)))))
      refine zE ?_
      refine q_next (pwp_seq (pwp_seq (r_reg ?_)))
      refine zR 1 ?_
      refine p_len (L := (a0 : (List T_api_Track))) (by kernel_rfl) ?_
      refine zE ?_
      refine q_next (pwp_block ?_)
      obtain ⟨o42, h42, h34⟩ := o_inl h34
      refine r_loop2 38 2 (fun (x43, x44) => ⟨[(0, lstOf .frozen (a0 : (List T_api_Track))), (1, .int .i64 a1), (5, lstOf (.own 100005) (x27 : (List Bool))), (6, .int .i64 x26), (7, .bool x43), (19, lstOf .frozen (a0 : (List T_api_Track))), (20, .int .i64 ((a0.length : Nat) : Int)), (21, .int .i64 x44)], [], [(100005, (((x27).map cellsOf).length, 1))], []⟩) (fun x48 => ⟨[(0, lstOf .frozen (a0 : (List T_api_Track))), (1, .int .i64 a1), (5, lstOf (.own 100005) (x27 : (List Bool))), (6, .int .i64 x26), (7, .bool x48)], [], [(100005, (((x27).map cellsOf).length, 1))], []⟩) h42 (by kernel_rfl) (fun _ => by kernel_rfl) ?_ ?_
      · rintro ⟨x43, x44⟩ oh41 h41
        unfold d_ref40_Passed_1 at h41
        refine pwp_seq (r_reg ?_)
        refine zE ?_
        refine q_next (pwp_seq ?_)
        rcases o_cond h41 with ⟨hb, h41⟩ | ⟨hb, h41⟩
        · refine zT hb ?_
          refine pwp_skip (q_next (pwp_seq (pwp_block (pwp_seq (r_reg ?_)))))
          obtain ⟨x49, h43, h41⟩ := o_bind h41
          refine zI h43 ?_
          refine zE ?_
          refine q_next (r_reg ?_)
          obtain ⟨b50, h44, h41⟩ := o_bind h41
          refine zR 2 ?_
          refine e_seg 5 31 (.bool b50) ?_ ?_
          · rcases o_cond h44 with ⟨hb, h44⟩ | ⟨hb, h44⟩
            · refine zS 26 hb ?_
              cases h44
              exact zF
            refine zS 26 hb ?_
            refine zR 3 ?_
            obtain ⟨r51, h45, h44⟩ := o_bind h44
            refine p_call (d_ref40_Has_ok _ _ r51 h45) (by kernel_rfl) (by kernel_rfl) ?_
            cases h44
            exact zF
          refine zE ?_
          refine q_block (q_next (r_reg ?_))
          refine zE ?_
          cases h41
          exact zB
        refine zU hb ?_
        refine pwp_exit (q_seq_exit ?_)
        cases h41
        exact zX
      rintro x48 s' rfl hs
      have h34 := o_outl h34
      refine q_block_hit ?_
      refine q_next (pwp_wkr hs ?_)
      refine r_reg ?_
      refine zR 3 ?_
      obtain ⟨x52, h46, h34⟩ := o_bind h34
      refine p_app (tk := 100005) h46 (by kernel_rfl) (by kernel_rfl) ?_
      refine zE ?_
      refine q_block (q_next (r_reg ?_))
      refine zE ?_
      cases h34
      exact zB
    refine zU hb ?_
    refine pwp_exit (q_seq_exit ?_)
    cases h34
    exact zX
  rintro x40 s' rfl hs
  have h := o_outl h
  refine q_block_hit ?_
  refine q_next (pwp_wkr hs ?_)
  refine pwp_seq (r_reg ?_)
  refine zE ?_
  refine q_next (pwp_ret ?_)
  cases h
  exact zQ
theorem d_ref40_Passed_fz (a0 : (List T_api_Track)) (a1 : Int) (r : (List Bool)) (h : d_ref40_Passed a0 a1 = some r) : PCall Go.Proofs.Tryz.prog GlS 14 [Enc.pv a0, Enc.pv a1] (Enc.pv r) :=
  (d_ref40_Passed_ok a0 a1 r h).freeze (by kernel_rfl) (by kernel_rfl) (by kernel_rfl)

/-! signallinglaw40.ClaimsCounts -/
noncomputable def d_law40_ClaimsCounts_0 (a0 : (List T_api_Track)) : Int → Option (Int ⊕ (Unit ⊕ Bool)) := fun x5 =>
  bif decide (x5 < ((a0.length : Nat) : Int)) then (
    (ixO a0 x5).bind fun x9 =>
    ((bif decide (80 < ((x9.Routes.length : Nat) : Int)) then some true else (
      some (decide (80 < ((x9.Done.length : Nat) : Int)))
    )) : Option Bool).bind fun b10 =>
    bif b10 then (
      (d_law40_alive ).bind fun r11 =>
      some (.inr (.inr r11))
    ) else (
      some (.inl (w64 (x5 + 1)))
    )
  ) else (
    some (.inr (.inl ()))
  )

noncomputable def d_law40_ClaimsCounts (a0 : (List T_api_Track)) (a1 : Int) : Option Bool :=
  bif decide (20 < ((a0.length : Nat) : Int)) then (
    (d_law40_alive ).bind fun r1 =>
    some r1
  ) else (
    onInl (α := Unit) (β := Bool) (loopO (d_law40_ClaimsCounts_0 a0) 0) fun _ =>
    (d_claims_Claimed a0 a1).bind fun r12 =>
    (d_ref40_Claimed a0 a1).bind fun r13 =>
    (d_law40_same r12 r13).bind fun r14 =>
    ((bif r14 then (
      (d_claims_Passed a0 a1).bind fun r16 =>
      (d_ref40_Passed a0 a1).bind fun r17 =>
      (d_law40_same r16 r17).bind fun r18 =>
      some r18
    ) else some false) : Option Bool).bind fun b15 =>
    ((bif b15 then (
      (d_law40_alive ).bind fun r20 =>
      some r20
    ) else some false) : Option Bool).bind fun b19 =>
    some b19
  )
theorem d_law40_ClaimsCounts_ok (a0 : (List T_api_Track)) (a1 : Int) (r : Bool) (h : d_law40_ClaimsCounts a0 a1 = some r) : PCall Go.Proofs.Tryz.prog GlS 4 [Enc.pv a0, Enc.pv a1] (Enc.pv r) := by
  unfold d_law40_ClaimsCounts at h
  refine pcall_of_pwp Go.Proofs.Tryz.func4 (by rfl) rfl Go.Proofs.Tryz.ntmps4 (by rfl) rfl ?_
  refine pwp_seq (r_reg ?_)
  refine zE ?_
  refine q_next (pwp_seq (pwp_seq (r_reg ?_)))
  refine zR 1 ?_
  refine p_len (L := (a0 : (List T_api_Track))) (by kernel_rfl) ?_
  refine zE ?_
  refine q_next ?_
  rcases o_cond h with ⟨hb, h⟩ | ⟨hb, h⟩
  · refine zT hb ?_
    refine pwp_seq (r_reg ?_)
    obtain ⟨r1, h1, h⟩ := o_bind h
    refine p_call (d_law40_alive_ok  r1 h1) (by kernel_rfl) (by kernel_rfl) ?_
    refine zE ?_
    refine q_next (pwp_ret (q_seq_ret ?_))
    cases h
    exact zQ
  refine zU hb ?_
  refine pwp_skip (q_next (pwp_seq (pwp_seq (r_reg ?_))))
  refine zR 1 ?_
  refine p_len (L := (a0 : (List T_api_Track))) (by kernel_rfl) ?_
  refine zE ?_
  refine q_next (pwp_block ?_)
  obtain ⟨o11, h11, h⟩ := o_inl h
  refine r_loop2 48 0 (fun x5 => ⟨[(0, lstOf .frozen (a0 : (List T_api_Track))), (1, .int .i64 a1), (11, lstOf .frozen (a0 : (List T_api_Track))), (12, .int .i64 ((a0.length : Nat) : Int)), (13, .int .i64 x5)], [], [], []⟩) (fun (_ : Unit) => ⟨[(0, lstOf .frozen (a0 : (List T_api_Track))), (1, .int .i64 a1)], [], [], []⟩) h11 (by kernel_rfl) (fun _ => by kernel_rfl) ?_ ?_
  · rintro x5 oh10 h10
    unfold d_law40_ClaimsCounts_0 at h10
    refine pwp_seq (r_reg ?_)
    refine zE ?_
    refine q_next (pwp_seq ?_)
    rcases o_cond h10 with ⟨hb, h10⟩ | ⟨hb, h10⟩
    · refine zT hb ?_
      refine pwp_skip (q_next (pwp_seq (pwp_block (pwp_seq (r_reg ?_)))))
      obtain ⟨x9, h12, h10⟩ := o_bind h10
      refine zI h12 ?_
      refine zE ?_
      refine q_next (pwp_seq (r_reg ?_))
      refine zR 2 ?_
      refine p_len (L := (x9.Routes : (List Int))) (by kernel_rfl) ?_
      obtain ⟨b10, h13, h10⟩ := o_bind h10
      refine zR 2 ?_
      refine e_seg 5 26 (.bool b10) ?_ ?_
      · rcases o_cond h13 with ⟨hb, h13⟩ | ⟨hb, h13⟩
        · refine zS 21 hb ?_
          cases h13
          exact zF
        refine zS 21 hb ?_
        refine zR 2 ?_
        refine p_len (L := (x9.Done : (List Int))) (by kernel_rfl) ?_
        cases h13
        exact zF
      refine zN ?_
      refine q_next ?_
      rcases o_cond h10 with ⟨hb, h10⟩ | ⟨hb, h10⟩
      · refine zT hb ?_
        refine pwp_seq (r_reg ?_)
        obtain ⟨r11, h14, h10⟩ := o_bind h10
        refine p_call (d_law40_alive_ok  r11 h14) (by kernel_rfl) (by kernel_rfl) ?_
        refine zE ?_
        refine q_next (pwp_ret (q_block_ret (q_seq_ret ?_)))
        cases h10
        refine q_lout_ret fun he => ?_
        subst he
        have h15 := o_outr h
        refine q_block_ret (q_seq_ret ?_)
        cases h15
        exact zQ
      refine zU hb ?_
      refine pwp_skip (q_block (q_next (r_reg ?_)))
      refine zE ?_
      cases h10
      exact zB
    refine zU hb ?_
    refine pwp_exit (q_seq_exit ?_)
    cases h10
    exact zX
  rintro _ s' rfl hs
  have h := o_outl h
  refine q_block_hit ?_
  refine q_next (pwp_wkr hs ?_)
  refine pwp_seq (r_reg ?_)
  refine zR 2 ?_
  obtain ⟨r12, h16, h⟩ := o_bind h
  refine p_call (d_claims_Claimed_ok _ _ r12 h16) (by kernel_rfl) (by kernel_rfl) ?_
  refine zR 2 ?_
  obtain ⟨r13, h17, h⟩ := o_bind h
  refine p_call (d_ref40_Claimed_ok _ _ r13 h17) (by kernel_rfl) (by kernel_rfl) ?_
  obtain ⟨r14, h18, h⟩ := o_bind h
  refine p_call (d_law40_same_ok _ _ r14 h18) (by kernel_rfl) (by kernel_rfl) ?_
  obtain ⟨b15, h19, h⟩ := o_bind h
  refine zR 1 ?_
  refine e_seg 8 44 (.bool b15) ?_ ?_
  · rcases o_cond h19 with ⟨hb, h19⟩ | ⟨hb, h19⟩
    · refine zS 36 hb ?_
      refine zR 2 ?_
      obtain ⟨r16, h20, h19⟩ := o_bind h19
      refine p_call (d_claims_Passed_ok _ _ r16 h20) (by kernel_rfl) (by kernel_rfl) ?_
      refine zR 2 ?_
      obtain ⟨r17, h21, h19⟩ := o_bind h19
      refine p_call (d_ref40_Passed_fz _ _ r17 h21) (by kernel_rfl) (by kernel_rfl) ?_
      obtain ⟨r18, h22, h19⟩ := o_bind h19
      refine p_call (d_law40_same_ok _ _ r18 h22) (by kernel_rfl) (by kernel_rfl) ?_
      cases h19
      exact zF
    refine zS 36 hb ?_
    cases h19
    exact zF
  obtain ⟨b19, h23, h⟩ := o_bind h
  refine zR 1 ?_
  refine e_seg 2 47 (.bool b19) ?_ ?_
  · rcases o_cond h23 with ⟨hb, h23⟩ | ⟨hb, h23⟩
    · refine zS 45 hb ?_
      obtain ⟨r20, h24, h23⟩ := o_bind h23
      refine p_call (d_law40_alive_ok  r20 h24) (by kernel_rfl) (by kernel_rfl) ?_
      cases h23
      exact zF
    refine zS 45 hb ?_
    cases h23
    exact zF
  refine zE ?_
  refine q_next (pwp_ret ?_)
  cases h
  exact zQ

end PM
