/-
  Plain functions for the program's functions, and the proofs that the program does them. Printed by den.py.
-/
import Derived.Test.YtnnhdhijidpfkaaDoorDen0
namespace PM
open Go Go.RowKit
attribute [local irreducible] pops pwp

/-! slices.insertionSortCmpFunc[api.Linked] -/
noncomputable def d_slices_insertionSortCmpFunc_api_Linked_1 (a0 : (List T_api_Linked)) (a1 : Int) : (Int × (List T_api_Linked)) → Option ((Int × (List T_api_Linked)) ⊕ ((List T_api_Linked) ⊕ ((Int × (List T_api_Linked)) ⊕ ((List T_api_Linked) ⊕ (List T_api_Linked))))) := fun (x108, x109) =>
  ((bif decide (a1 < x108) then (
    (xixO 0 (((a0 : (List T_api_Linked)).map cellsOf).length) x108).bind fun j126 =>
    (xldO x109 (((a0 : (List T_api_Linked)).map cellsOf).length) j126).bind fun x127 =>
    (xixO 0 (((a0 : (List T_api_Linked)).map cellsOf).length) (w64 (x108 - 1))).bind fun j128 =>
    (xldO x109 (((a0 : (List T_api_Linked)).map cellsOf).length) j128).bind fun x129 =>
    (d_linking_Of_c1 x127 x129).bind fun r130 =>
    some (decide (r130 < 0))
  ) else some false) : Option Bool).bind fun b125 =>
  bif b125 then (
    (xixO 0 (((a0 : (List T_api_Linked)).map cellsOf).length) (w64 (x108 - 1))).bind fun j131 =>
    (xldO x109 (((a0 : (List T_api_Linked)).map cellsOf).length) j131).bind fun x132 =>
    (xixO 0 (((a0 : (List T_api_Linked)).map cellsOf).length) x108).bind fun j133 =>
    (xldO x109 (((a0 : (List T_api_Linked)).map cellsOf).length) j133).bind fun x134 =>
    (xixO 0 (((a0 : (List T_api_Linked)).map cellsOf).length) x108).bind fun j135 =>
    (xldO x109 (((a0 : (List T_api_Linked)).map cellsOf).length) j135).bind fun x136 =>
    (xixO 0 (((a0 : (List T_api_Linked)).map cellsOf).length) (w64 (x108 - 1))).bind fun j137 =>
    (xldO (x109.set j135 x132) (((a0 : (List T_api_Linked)).map cellsOf).length) j137).bind fun x138 =>
    some (.inl (w64 (x108 - 1), ((x109.set j135 x132).set j137 x134)))
  ) else (
    some (.inr (.inl x109))
  )

noncomputable def d_slices_insertionSortCmpFunc_api_Linked_0 (a0 : (List T_api_Linked)) (a1 : Int) (a2 : Int) : (Int × (List T_api_Linked)) → Option ((Int × (List T_api_Linked)) ⊕ ((List T_api_Linked) ⊕ (List T_api_Linked))) := fun (x46, x47) =>
  bif decide (x46 < a2) then (
    onInl (α := (List T_api_Linked)) (β := ((Int × (List T_api_Linked)) ⊕ ((List T_api_Linked) ⊕ (List T_api_Linked)))) (loopO (d_slices_insertionSortCmpFunc_api_Linked_1 a0 a1) (x46, x47)) fun x124 =>
    some (.inl (w64 (x46 + 1), x124))
  ) else (
    some (.inr (.inl x47))
  )

noncomputable def d_slices_insertionSortCmpFunc_api_Linked__linking_Of_c1 (a0 : (List T_api_Linked)) (a1 : Int) (a2 : Int) : Option (List T_api_Linked) :=
  onInl (α := (List T_api_Linked)) (β := (List T_api_Linked)) (loopO (d_slices_insertionSortCmpFunc_api_Linked_0 a0 a1 a2) (w64 (a1 + 1), a0)) fun x93 =>
  some x93
theorem d_slices_insertionSortCmpFunc_api_Linked__linking_Of_c1_xc (a0 : (List T_api_Linked)) (a1 : Int) (a2 : Int) (r : (List T_api_Linked)) (h : d_slices_insertionSortCmpFunc_api_Linked__linking_Of_c1 a0 a1 a2 = some r) : XCall Go.Proofs.Tryd.prog GlS 61 2 16 (a0.map cellsOf) [Enc.pv a1, Enc.pv a2, .fn 26 []] none (r.map cellsOf) := by
  unfold d_slices_insertionSortCmpFunc_api_Linked__linking_Of_c1 at h
  refine xcall_of_pwpW Go.Proofs.Tryd.func61 (by rfl) rfl Go.Proofs.Tryd.ntmps61 (by rfl) rfl ?_
  refine pwp_seq (r_reg ?_)
  refine e_end (by kernel_rfl) ?_
  refine q_next (pwp_block ?_)
  obtain ⟨o90, h90, h⟩ := o_inl h
  refine r_loop2 53 0 (fun (x46, x47) => ⟨[(0, .ex 1000000000 2 16 (((a0 : (List T_api_Linked)).map cellsOf).length) 0 (((a0 : (List T_api_Linked)).map cellsOf).length)), (1, .int .i64 a1), (2, .int .i64 a2), (3, .fn 26 []), (8, .int .i64 x46)], [], [(1000000000, (((a0 : (List T_api_Linked)).map cellsOf).length, 0))], [(1000000000, (2, (16, (x47 : (List T_api_Linked)).map cellsOf)))]⟩) (fun x93 => ⟨[], [], [(1000000000, (((a0 : (List T_api_Linked)).map cellsOf).length, 0))], [(1000000000, (2, (16, (x93 : (List T_api_Linked)).map cellsOf)))]⟩) h90 (by kernel_rfl) (fun _ => by kernel_rfl) ?_ ?_
  · rintro ⟨x46, x47⟩ oh89 h89
    unfold d_slices_insertionSortCmpFunc_api_Linked_0 at h89
    refine pwp_seq (pwp_seq (r_reg ?_))
    refine e_end (by kernel_rfl) ?_
    refine q_next ?_
    rcases o_cond h89 with ⟨hb, h89⟩ | ⟨hb, h89⟩
    · refine r_cond_t hb (by kernel_rfl) ?_
      refine pwp_skip (q_next (pwp_seq (pwp_block (pwp_seq (r_reg ?_)))))
      refine e_end (by kernel_rfl) ?_
      refine q_next (pwp_block ?_)
      obtain ⟨o120, h120, h89⟩ := o_inl h89
      refine r_loop2 53 2 (fun (x108, x109) => ⟨[(0, .ex 1000000000 2 16 (((a0 : (List T_api_Linked)).map cellsOf).length) 0 (((a0 : (List T_api_Linked)).map cellsOf).length)), (1, .int .i64 a1), (2, .int .i64 a2), (3, .fn 26 []), (8, .int .i64 x46), (9, .int .i64 x108)], [], [(1000000000, (((a0 : (List T_api_Linked)).map cellsOf).length, 0))], [(1000000000, (2, (16, (x109 : (List T_api_Linked)).map cellsOf)))]⟩) (fun x124 => ⟨[(0, .ex 1000000000 2 16 (((a0 : (List T_api_Linked)).map cellsOf).length) 0 (((a0 : (List T_api_Linked)).map cellsOf).length)), (1, .int .i64 a1), (2, .int .i64 a2), (3, .fn 26 []), (8, .int .i64 x46)], [], [(1000000000, (((a0 : (List T_api_Linked)).map cellsOf).length, 0))], [(1000000000, (2, (16, (x124 : (List T_api_Linked)).map cellsOf)))]⟩) h120 (by kernel_rfl) (fun _ => by kernel_rfl) ?_ ?_
      · rintro ⟨x108, x109⟩ oh119 h119
        unfold d_slices_insertionSortCmpFunc_api_Linked_1 at h119
        refine pwp_seq (pwp_seq ?_)
        refine r_regd (by kernel_rfl) (by kernel_rfl) ?_
        obtain ⟨b125, h121, h119⟩ := o_bind h119
        refine p_run 4 (by kernel_rfl) ?_
        refine e_seg 13 34 (.bool b125) ?_ ?_
        · rcases o_cond h121 with ⟨hb, h121⟩ | ⟨hb, h121⟩
          · refine p_settle 21 hb (by kernel_rfl) (by kernel_rfl) ?_
            refine p_run 3 (by kernel_rfl) ?_
            obtain ⟨j126, h122, h121⟩ := o_bind h121
            refine p_xix (tk := 1000000000) (k := 2) (N := ((a0 : (List T_api_Linked)).map cellsOf).length) h122 (by kernel_rfl) ?_
            obtain ⟨x127, h123, h121⟩ := o_bind h121
            refine p_xld (L := (x109 : (List T_api_Linked))) (N := ((a0 : (List T_api_Linked)).map cellsOf).length) (j := j126) (y := x127) (v := Enc.pv x127) h123 true 2 0 (by kernel_rfl) (by kernel_rfl) ?_
            refine p_run 3 (by kernel_rfl) ?_
            obtain ⟨j128, h124, h121⟩ := o_bind h121
            refine p_xix (tk := 1000000000) (k := 2) (N := ((a0 : (List T_api_Linked)).map cellsOf).length) h124 (by kernel_rfl) ?_
            obtain ⟨x129, h125, h121⟩ := o_bind h121
            refine p_xld (L := (x109 : (List T_api_Linked))) (N := ((a0 : (List T_api_Linked)).map cellsOf).length) (j := j128) (y := x129) (v := Enc.pv x129) h125 true 2 0 (by kernel_rfl) (by kernel_rfl) ?_
            obtain ⟨r130, h126, h121⟩ := o_bind h121
            refine p_call (d_linking_Of_c1_ok _ _ r130 h126) (by kernel_rfl) (by kernel_rfl) ?_
            cases h121
            exact f_end (by kernel_rfl) (by kernel_rfl)
          refine p_settle 21 hb (by kernel_rfl) (by kernel_rfl) ?_
          cases h121
          exact f_end (by kernel_rfl) (by kernel_rfl)
        refine e_nil (by kernel_rfl) ?_
        refine q_next ?_
        rcases o_cond h119 with ⟨hb, h119⟩ | ⟨hb, h119⟩
        · refine r_cond_t hb (by kernel_rfl) ?_
          refine pwp_skip (q_next (pwp_seq (pwp_block ?_)))
          refine r_regd (by kernel_rfl) (by kernel_rfl) ?_
          refine p_run 8 (by kernel_rfl) ?_
          obtain ⟨j131, h127, h119⟩ := o_bind h119
          refine p_xix (tk := 1000000000) (k := 2) (N := ((a0 : (List T_api_Linked)).map cellsOf).length) h127 (by kernel_rfl) ?_
          obtain ⟨x132, h128, h119⟩ := o_bind h119
          refine p_xld (L := (x109 : (List T_api_Linked))) (N := ((a0 : (List T_api_Linked)).map cellsOf).length) (j := j131) (y := x132) (v := Enc.pv x132) h128 true 2 0 (by kernel_rfl) (by kernel_rfl) ?_
          refine p_run 2 (by kernel_rfl) ?_
          obtain ⟨j133, h129, h119⟩ := o_bind h119
          refine p_xix (tk := 1000000000) (k := 2) (N := ((a0 : (List T_api_Linked)).map cellsOf).length) h129 (by kernel_rfl) ?_
          obtain ⟨x134, h130, h119⟩ := o_bind h119
          refine p_xld (L := (x109 : (List T_api_Linked))) (N := ((a0 : (List T_api_Linked)).map cellsOf).length) (j := j133) (y := x134) (v := Enc.pv x134) h130 true 2 0 (by kernel_rfl) (by kernel_rfl) ?_
          obtain ⟨j135, h131, h119⟩ := o_bind h119
          refine p_xix (tk := 1000000000) (k := 2) (N := ((a0 : (List T_api_Linked)).map cellsOf).length) h131 (by kernel_rfl) ?_
          obtain ⟨x136, h132, h119⟩ := o_bind h119
          refine p_xst (L := (x109 : (List T_api_Linked))) (tk := 1000000000) (N := ((a0 : (List T_api_Linked)).map cellsOf).length) (j := j135) (y := x136) (y' := x132) h132 0 2 [.int .i64 x132.Id, .int .i64 x132.At] (by kernel_rfl) (by kernel_rfl) ?_
          obtain ⟨j137, h133, h119⟩ := o_bind h119
          refine p_xix (tk := 1000000000) (k := 2) (N := ((a0 : (List T_api_Linked)).map cellsOf).length) h133 (by kernel_rfl) ?_
          obtain ⟨x138, h134, h119⟩ := o_bind h119
          refine p_xst (L := ((x109.set j135 x132) : (List T_api_Linked))) (tk := 1000000000) (N := ((a0 : (List T_api_Linked)).map cellsOf).length) (j := j137) (y := x138) (y' := x134) h134 0 2 [.int .i64 x134.Id, .int .i64 x134.At] (by kernel_rfl) (by kernel_rfl) ?_
          refine e_nil (by kernel_rfl) ?_
          refine q_block (q_next (r_reg ?_))
          refine e_end (by kernel_rfl) ?_
          cases h119
          exact q_lback (by kernel_rfl)
        refine r_cond_f hb (by kernel_rfl) ?_
        refine pwp_exit (q_seq_exit ?_)
        cases h119
        exact q_lexit (by kernel_rfl) (by kernel_rfl)
      rintro x124 s' rfl hs
      have h89 := o_outl h89
      refine q_block_hit (q_block ?_)
      refine q_next (pwp_wkr hs ?_)
      refine r_reg ?_
      refine e_end (by kernel_rfl) ?_
      cases h89
      exact q_lback (by kernel_rfl)
    refine r_cond_f hb (by kernel_rfl) ?_
    refine pwp_exit (q_seq_exit ?_)
    cases h89
    exact q_lexit (by kernel_rfl) (by kernel_rfl)
  rintro x93 s' rfl hs
  have h := o_outl h
  refine q_block_hit ?_
  cases h
  exact q_xretW_w hs (by kernel_rfl)

/-! slices.swapRangeCmpFunc[api.Linked] -/
noncomputable def d_slices_swapRangeCmpFunc_api_Linked_0 (a0 : (List T_api_Linked)) (a1 : Int) (a2 : Int) (a3 : Int) : (Int × (List T_api_Linked)) → Option ((Int × (List T_api_Linked)) ⊕ ((List T_api_Linked) ⊕ (List T_api_Linked))) := fun (x9, x10) =>
  bif decide (x9 < a3) then (
    (xixO 0 (((a0 : (List T_api_Linked)).map cellsOf).length) (w64 (a2 + x9))).bind fun j20 =>
    (xldO x10 (((a0 : (List T_api_Linked)).map cellsOf).length) j20).bind fun x21 =>
    (xixO 0 (((a0 : (List T_api_Linked)).map cellsOf).length) (w64 (a1 + x9))).bind fun j22 =>
    (xldO x10 (((a0 : (List T_api_Linked)).map cellsOf).length) j22).bind fun x23 =>
    (xixO 0 (((a0 : (List T_api_Linked)).map cellsOf).length) (w64 (a1 + x9))).bind fun j24 =>
    (xldO x10 (((a0 : (List T_api_Linked)).map cellsOf).length) j24).bind fun x25 =>
    (xixO 0 (((a0 : (List T_api_Linked)).map cellsOf).length) (w64 (a2 + x9))).bind fun j26 =>
    (xldO (x10.set j24 x21) (((a0 : (List T_api_Linked)).map cellsOf).length) j26).bind fun x27 =>
    some (.inl (w64 (x9 + 1), ((x10.set j24 x21).set j26 x23)))
  ) else (
    some (.inr (.inl x10))
  )

noncomputable def d_slices_swapRangeCmpFunc_api_Linked__linking_Of_c1 (a0 : (List T_api_Linked)) (a1 : Int) (a2 : Int) (a3 : Int) : Option (List T_api_Linked) :=
  onInl (α := (List T_api_Linked)) (β := (List T_api_Linked)) (loopO (d_slices_swapRangeCmpFunc_api_Linked_0 a0 a1 a2 a3) (0, a0)) fun x19 =>
  some x19
theorem d_slices_swapRangeCmpFunc_api_Linked__linking_Of_c1_xc (a0 : (List T_api_Linked)) (a1 : Int) (a2 : Int) (a3 : Int) (r : (List T_api_Linked)) (h : d_slices_swapRangeCmpFunc_api_Linked__linking_Of_c1 a0 a1 a2 a3 = some r) : XCall Go.Proofs.Tryd.prog GlS 65 2 16 (a0.map cellsOf) [Enc.pv a1, Enc.pv a2, Enc.pv a3, .fn 26 []] none (r.map cellsOf) := by
  unfold d_slices_swapRangeCmpFunc_api_Linked__linking_Of_c1 at h
  refine xcall_of_pwpW Go.Proofs.Tryd.func65 (by rfl) rfl Go.Proofs.Tryd.ntmps65 (by rfl) rfl ?_
  refine pwp_seq (r_reg ?_)
  refine e_end (by kernel_rfl) ?_
  refine q_next (pwp_block ?_)
  obtain ⟨o18, h18, h⟩ := o_inl h
  refine r_loop2 38 0 (fun (x9, x10) => ⟨[(0, .ex 1000000000 2 16 (((a0 : (List T_api_Linked)).map cellsOf).length) 0 (((a0 : (List T_api_Linked)).map cellsOf).length)), (1, .int .i64 a1), (2, .int .i64 a2), (3, .int .i64 a3), (10, .int .i64 x9)], [], [(1000000000, (((a0 : (List T_api_Linked)).map cellsOf).length, 0))], [(1000000000, (2, (16, (x10 : (List T_api_Linked)).map cellsOf)))]⟩) (fun x19 => ⟨[], [], [(1000000000, (((a0 : (List T_api_Linked)).map cellsOf).length, 0))], [(1000000000, (2, (16, (x19 : (List T_api_Linked)).map cellsOf)))]⟩) h18 (by kernel_rfl) (fun _ => by kernel_rfl) ?_ ?_
  · rintro ⟨x9, x10⟩ oh17 h17
    unfold d_slices_swapRangeCmpFunc_api_Linked_0 at h17
    refine pwp_seq (pwp_seq (r_reg ?_))
    refine e_end (by kernel_rfl) ?_
    refine q_next ?_
    rcases o_cond h17 with ⟨hb, h17⟩ | ⟨hb, h17⟩
    · refine r_cond_t hb (by kernel_rfl) ?_
      refine pwp_skip (q_next (pwp_seq (pwp_block ?_)))
      refine r_regd (by kernel_rfl) (by kernel_rfl) ?_
      refine p_run 12 (by kernel_rfl) ?_
      obtain ⟨j20, h19, h17⟩ := o_bind h17
      refine p_xix (tk := 1000000000) (k := 2) (N := ((a0 : (List T_api_Linked)).map cellsOf).length) h19 (by kernel_rfl) ?_
      obtain ⟨x21, h20, h17⟩ := o_bind h17
      refine p_xld (L := (x10 : (List T_api_Linked))) (N := ((a0 : (List T_api_Linked)).map cellsOf).length) (j := j20) (y := x21) (v := Enc.pv x21) h20 true 2 0 (by kernel_rfl) (by kernel_rfl) ?_
      refine p_run 4 (by kernel_rfl) ?_
      obtain ⟨j22, h21, h17⟩ := o_bind h17
      refine p_xix (tk := 1000000000) (k := 2) (N := ((a0 : (List T_api_Linked)).map cellsOf).length) h21 (by kernel_rfl) ?_
      obtain ⟨x23, h22, h17⟩ := o_bind h17
      refine p_xld (L := (x10 : (List T_api_Linked))) (N := ((a0 : (List T_api_Linked)).map cellsOf).length) (j := j22) (y := x23) (v := Enc.pv x23) h22 true 2 0 (by kernel_rfl) (by kernel_rfl) ?_
      obtain ⟨j24, h23, h17⟩ := o_bind h17
      refine p_xix (tk := 1000000000) (k := 2) (N := ((a0 : (List T_api_Linked)).map cellsOf).length) h23 (by kernel_rfl) ?_
      obtain ⟨x25, h24, h17⟩ := o_bind h17
      refine p_xst (L := (x10 : (List T_api_Linked))) (tk := 1000000000) (N := ((a0 : (List T_api_Linked)).map cellsOf).length) (j := j24) (y := x25) (y' := x21) h24 0 2 [.int .i64 x21.Id, .int .i64 x21.At] (by kernel_rfl) (by kernel_rfl) ?_
      obtain ⟨j26, h25, h17⟩ := o_bind h17
      refine p_xix (tk := 1000000000) (k := 2) (N := ((a0 : (List T_api_Linked)).map cellsOf).length) h25 (by kernel_rfl) ?_
      obtain ⟨x27, h26, h17⟩ := o_bind h17
      refine p_xst (L := ((x10.set j24 x21) : (List T_api_Linked))) (tk := 1000000000) (N := ((a0 : (List T_api_Linked)).map cellsOf).length) (j := j26) (y := x27) (y' := x23) h26 0 2 [.int .i64 x23.Id, .int .i64 x23.At] (by kernel_rfl) (by kernel_rfl) ?_
      refine e_nil (by kernel_rfl) ?_
      refine q_block (q_next (r_reg ?_))
      refine e_end (by kernel_rfl) ?_
      cases h17
      exact q_lback (by kernel_rfl)
    refine r_cond_f hb (by kernel_rfl) ?_
    refine pwp_exit (q_seq_exit ?_)
    cases h17
    exact q_lexit (by kernel_rfl) (by kernel_rfl)
  rintro x19 s' rfl hs
  have h := o_outl h
  refine q_block_hit ?_
  cases h
  exact q_xretW_w hs (by kernel_rfl)

/-! slices.rotateCmpFunc[api.Linked] -/
noncomputable def d_slices_rotateCmpFunc_api_Linked_0 (a2 : Int) : (Int × (List T_api_Linked) × Int) → Option ((Int × (List T_api_Linked) × Int) ⊕ (((List T_api_Linked) × Int) ⊕ (List T_api_Linked))) := fun (x3, x4, x5) =>
  bif (!(decide (x3 = x5))) then (
    bif decide (x5 < x3) then (
      (d_slices_swapRangeCmpFunc_api_Linked__linking_Of_c1 x4 (w64 (a2 - x3)) a2 x5).bind fun r10 =>
      some (.inl (w64 (x3 - x5), r10, x5))
    ) else (
      (d_slices_swapRangeCmpFunc_api_Linked__linking_Of_c1 x4 (w64 (a2 - x3)) (w64 ((w64 (a2 + x5)) - x3)) x3).bind fun r11 =>
      some (.inl (x3, r11, w64 (x5 - x3)))
    )
  ) else (
    some (.inr (.inl (x4, x3)))
  )

noncomputable def d_slices_rotateCmpFunc_api_Linked__linking_Of_c1 (a0 : (List T_api_Linked)) (a1 : Int) (a2 : Int) (a3 : Int) : Option (List T_api_Linked) :=
  onInl (α := ((List T_api_Linked) × Int)) (β := (List T_api_Linked)) (loopO (d_slices_rotateCmpFunc_api_Linked_0 a2) (w64 (a2 - a1), a0, w64 (a3 - a2))) fun (x8, x9) =>
  (d_slices_swapRangeCmpFunc_api_Linked__linking_Of_c1 x8 (w64 (a2 - x9)) a2 x9).bind fun r12 =>
  some r12
theorem d_slices_rotateCmpFunc_api_Linked__linking_Of_c1_xc (a0 : (List T_api_Linked)) (a1 : Int) (a2 : Int) (a3 : Int) (r : (List T_api_Linked)) (h : d_slices_rotateCmpFunc_api_Linked__linking_Of_c1 a0 a1 a2 a3 = some r) : XCall Go.Proofs.Tryd.prog GlS 64 2 16 (a0.map cellsOf) [Enc.pv a1, Enc.pv a2, Enc.pv a3, .fn 26 []] none (r.map cellsOf) := by
  unfold d_slices_rotateCmpFunc_api_Linked__linking_Of_c1 at h
  refine xcall_of_pwpW Go.Proofs.Tryd.func64 (by rfl) rfl Go.Proofs.Tryd.ntmps64 (by rfl) rfl ?_
  refine pwp_seq (r_reg ?_)
  refine e_end (by kernel_rfl) ?_
  refine q_next (pwp_seq (r_reg ?_))
  refine e_end (by kernel_rfl) ?_
  refine q_next (pwp_seq (pwp_block ?_))
  obtain ⟨o6, h6, h⟩ := o_inl h
  refine r_loop2 58 0 (fun (x3, x4, x5) => ⟨[(0, .ex 1000000000 2 16 (((a0 : (List T_api_Linked)).map cellsOf).length) 0 (((a0 : (List T_api_Linked)).map cellsOf).length)), (2, .int .i64 a2), (4, .fn 26 []), (10, .int .i64 x3), (11, .int .i64 x5)], [], [(1000000000, (((a0 : (List T_api_Linked)).map cellsOf).length, 0))], [(1000000000, (2, (16, (x4 : (List T_api_Linked)).map cellsOf)))]⟩) (fun (x8, x9) => ⟨[(0, .ex 1000000000 2 16 (((a0 : (List T_api_Linked)).map cellsOf).length) 0 (((a0 : (List T_api_Linked)).map cellsOf).length)), (2, .int .i64 a2), (4, .fn 26 []), (10, .int .i64 x9)], [], [(1000000000, (((a0 : (List T_api_Linked)).map cellsOf).length, 0))], [(1000000000, (2, (16, (x8 : (List T_api_Linked)).map cellsOf)))]⟩) h6 (by kernel_rfl) (fun _ => by kernel_rfl) ?_ ?_
  · rintro ⟨x3, x4, x5⟩ oh5 h5
    unfold d_slices_rotateCmpFunc_api_Linked_0 at h5
    refine pwp_seq (pwp_seq (r_reg ?_))
    refine e_end (by kernel_rfl) ?_
    refine q_next ?_
    rcases o_cond h5 with ⟨hb, h5⟩ | ⟨hb, h5⟩
    · refine r_cond_t hb (by kernel_rfl) ?_
      refine pwp_skip (q_next (pwp_block (pwp_seq (r_reg ?_))))
      refine e_end (by kernel_rfl) ?_
      refine q_next ?_
      rcases o_cond h5 with ⟨hb, h5⟩ | ⟨hb, h5⟩
      · refine r_cond_t hb (by kernel_rfl) ?_
        refine pwp_seq (r_reg ?_)
        refine p_run 7 (by kernel_rfl) ?_
        obtain ⟨r10, h7, h5⟩ := o_bind h5
        refine p_xcall (t := 1000000000) (L := (x4 : (List T_api_Linked))) (L' := (r10 : (List T_api_Linked))) (N := ((a0 : (List T_api_Linked)).map cellsOf).length) (by kernel_rfl) (by kernel_rfl) (by kernel_rfl) (d_slices_swapRangeCmpFunc_api_Linked__linking_Of_c1_xc _ _ _ _ r10 h7) ?_
        refine e_nil (by kernel_rfl) ?_
        refine q_next (r_reg ?_)
        refine e_end (by kernel_rfl) ?_
        refine q_block ?_
        cases h5
        exact q_lback (by kernel_rfl)
      refine r_cond_f hb (by kernel_rfl) ?_
      refine pwp_seq (r_reg ?_)
      refine p_run 11 (by kernel_rfl) ?_
      obtain ⟨r11, h8, h5⟩ := o_bind h5
      refine p_xcall (t := 1000000000) (L := (x4 : (List T_api_Linked))) (L' := (r11 : (List T_api_Linked))) (N := ((a0 : (List T_api_Linked)).map cellsOf).length) (by kernel_rfl) (by kernel_rfl) (by kernel_rfl) (d_slices_swapRangeCmpFunc_api_Linked__linking_Of_c1_xc _ _ _ _ r11 h8) ?_
      refine e_nil (by kernel_rfl) ?_
      refine q_next (r_reg ?_)
      refine e_end (by kernel_rfl) ?_
      refine q_block ?_
      cases h5
      exact q_lback (by kernel_rfl)
    refine r_cond_f hb (by kernel_rfl) ?_
    refine pwp_exit (q_seq_exit ?_)
    cases h5
    exact q_lexit (by kernel_rfl) (by kernel_rfl)
  rintro ⟨x8, x9⟩ s' rfl hs
  have h := o_outl h
  refine q_block_hit ?_
  refine q_next (pwp_wkr hs ?_)
  refine r_reg ?_
  refine p_run 7 (by kernel_rfl) ?_
  obtain ⟨r12, h9, h⟩ := o_bind h
  refine p_xcall (t := 1000000000) (L := (x8 : (List T_api_Linked))) (L' := (r12 : (List T_api_Linked))) (N := ((a0 : (List T_api_Linked)).map cellsOf).length) (by kernel_rfl) (by kernel_rfl) (by kernel_rfl) (d_slices_swapRangeCmpFunc_api_Linked__linking_Of_c1_xc _ _ _ _ r12 h9) ?_
  refine e_nil (by kernel_rfl) ?_
  cases h
  exact q_xretW (by kernel_rfl)

/-! slices.symMergeCmpFunc[api.Linked] -/
noncomputable def d_slices_symMergeCmpFunc_api_Linked_0 (a0 : (List T_api_Linked)) (a1 : Int) : (Int × Int) → Option ((Int × Int) ⊕ (Int ⊕ (List T_api_Linked))) := fun (x6, x7) =>
  bif decide (x6 < x7) then (
    (xixO 0 (((a0 : (List T_api_Linked)).map cellsOf).length) (w64 ((IntKind.u64.wrap (w64 (x6 + x7))).fdiv 2))).bind fun j14 =>
    (xldO a0 (((a0 : (List T_api_Linked)).map cellsOf).length) j14).bind fun x15 =>
    (xixO 0 (((a0 : (List T_api_Linked)).map cellsOf).length) a1).bind fun j16 =>
    (xldO a0 (((a0 : (List T_api_Linked)).map cellsOf).length) j16).bind fun x17 =>
    (d_linking_Of_c1 x15 x17).bind fun r18 =>
    bif decide (r18 < 0) then (
      some (.inl (w64 ((w64 ((IntKind.u64.wrap (w64 (x6 + x7))).fdiv 2)) + 1), x7))
    ) else (
      some (.inl (x6, w64 ((IntKind.u64.wrap (w64 (x6 + x7))).fdiv 2)))
    )
  ) else (
    some (.inr (.inl x6))
  )

noncomputable def d_slices_symMergeCmpFunc_api_Linked_1 (a0 : (List T_api_Linked)) (x13 : Int) : (Int × (List T_api_Linked)) → Option ((Int × (List T_api_Linked)) ⊕ ((List T_api_Linked) ⊕ (List T_api_Linked))) := fun (x27, x28) =>
  bif decide (x27 < (w64 (x13 - 1))) then (
    (xixO 0 (((a0 : (List T_api_Linked)).map cellsOf).length) (w64 (x27 + 1))).bind fun j38 =>
    (xldO x28 (((a0 : (List T_api_Linked)).map cellsOf).length) j38).bind fun x39 =>
    (xixO 0 (((a0 : (List T_api_Linked)).map cellsOf).length) x27).bind fun j40 =>
    (xldO x28 (((a0 : (List T_api_Linked)).map cellsOf).length) j40).bind fun x41 =>
    (xixO 0 (((a0 : (List T_api_Linked)).map cellsOf).length) x27).bind fun j42 =>
    (xldO x28 (((a0 : (List T_api_Linked)).map cellsOf).length) j42).bind fun x43 =>
    (xixO 0 (((a0 : (List T_api_Linked)).map cellsOf).length) (w64 (x27 + 1))).bind fun j44 =>
    (xldO (x28.set j42 x39) (((a0 : (List T_api_Linked)).map cellsOf).length) j44).bind fun x45 =>
    some (.inl (w64 (x27 + 1), ((x28.set j42 x39).set j44 x41)))
  ) else (
    some (.inr (.inl x28))
  )

noncomputable def d_slices_symMergeCmpFunc_api_Linked_2 (a0 : (List T_api_Linked)) (a2 : Int) : (Int × Int) → Option ((Int × Int) ⊕ (Int ⊕ (List T_api_Linked))) := fun (x51, x52) =>
  bif decide (x51 < x52) then (
    (xixO 0 (((a0 : (List T_api_Linked)).map cellsOf).length) a2).bind fun j59 =>
    (xldO a0 (((a0 : (List T_api_Linked)).map cellsOf).length) j59).bind fun x60 =>
    (xixO 0 (((a0 : (List T_api_Linked)).map cellsOf).length) (w64 ((IntKind.u64.wrap (w64 (x51 + x52))).fdiv 2))).bind fun j61 =>
    (xldO a0 (((a0 : (List T_api_Linked)).map cellsOf).length) j61).bind fun x62 =>
    (d_linking_Of_c1 x60 x62).bind fun r63 =>
    bif (!(decide (r63 < 0))) then (
      some (.inl (w64 ((w64 ((IntKind.u64.wrap (w64 (x51 + x52))).fdiv 2)) + 1), x52))
    ) else (
      some (.inl (x51, w64 ((IntKind.u64.wrap (w64 (x51 + x52))).fdiv 2)))
    )
  ) else (
    some (.inr (.inl x51))
  )

noncomputable def d_slices_symMergeCmpFunc_api_Linked_3 (a0 : (List T_api_Linked)) (x58 : Int) : (Int × (List T_api_Linked)) → Option ((Int × (List T_api_Linked)) ⊕ ((List T_api_Linked) ⊕ (List T_api_Linked))) := fun (x72, x73) =>
  bif decide (x58 < x72) then (
    (xixO 0 (((a0 : (List T_api_Linked)).map cellsOf).length) (w64 (x72 - 1))).bind fun j83 =>
    (xldO x73 (((a0 : (List T_api_Linked)).map cellsOf).length) j83).bind fun x84 =>
    (xixO 0 (((a0 : (List T_api_Linked)).map cellsOf).length) x72).bind fun j85 =>
    (xldO x73 (((a0 : (List T_api_Linked)).map cellsOf).length) j85).bind fun x86 =>
    (xixO 0 (((a0 : (List T_api_Linked)).map cellsOf).length) x72).bind fun j87 =>
    (xldO x73 (((a0 : (List T_api_Linked)).map cellsOf).length) j87).bind fun x88 =>
    (xixO 0 (((a0 : (List T_api_Linked)).map cellsOf).length) (w64 (x72 - 1))).bind fun j89 =>
    (xldO (x73.set j87 x84) (((a0 : (List T_api_Linked)).map cellsOf).length) j89).bind fun x90 =>
    some (.inl (w64 (x72 - 1), ((x73.set j87 x84).set j89 x86)))
  ) else (
    some (.inr (.inl x73))
  )

noncomputable def d_slices_symMergeCmpFunc_api_Linked_4 (a0 : (List T_api_Linked)) (a1 : Int) (a2 : Int) (a3 : Int) : (Int × Int) → Option ((Int × Int) ⊕ (Int ⊕ (List T_api_Linked))) := fun (x98, x99) =>
  bif decide (x98 < x99) then (
    (xixO 0 (((a0 : (List T_api_Linked)).map cellsOf).length) (w64 ((w64 ((w64 ((w64 ((IntKind.u64.wrap (w64 (a1 + a3))).fdiv 2)) + a2)) - 1)) - (w64 ((IntKind.u64.wrap (w64 (x98 + x99))).fdiv 2))))).bind fun j106 =>
    (xldO a0 (((a0 : (List T_api_Linked)).map cellsOf).length) j106).bind fun x107 =>
    (xixO 0 (((a0 : (List T_api_Linked)).map cellsOf).length) (w64 ((IntKind.u64.wrap (w64 (x98 + x99))).fdiv 2))).bind fun j108 =>
    (xldO a0 (((a0 : (List T_api_Linked)).map cellsOf).length) j108).bind fun x109 =>
    (d_linking_Of_c1 x107 x109).bind fun r110 =>
    bif (!(decide (r110 < 0))) then (
      some (.inl (w64 ((w64 ((IntKind.u64.wrap (w64 (x98 + x99))).fdiv 2)) + 1), x99))
    ) else (
      some (.inl (x98, w64 ((IntKind.u64.wrap (w64 (x98 + x99))).fdiv 2)))
    )
  ) else (
    some (.inr (.inl x98))
  )

noncomputable def d_slices_symMergeCmpFunc_api_Linked__linking_Of_c1_F (rc_d_slices_symMergeCmpFunc_api_Linked__linking_Of_c1 : (List T_api_Linked) → Int → Int → Int → Option (List T_api_Linked)) (a0 : (List T_api_Linked)) (a1 : Int) (a2 : Int) (a3 : Int) : Option (List T_api_Linked) :=
  bif decide ((w64 (a2 - a1)) = 1) then (
    onInl (α := Int) (β := (List T_api_Linked)) (loopO (d_slices_symMergeCmpFunc_api_Linked_0 a0 a1) (a2, a3)) fun x13 =>
    onInl (α := (List T_api_Linked)) (β := (List T_api_Linked)) (loopO (d_slices_symMergeCmpFunc_api_Linked_1 a0 x13) (a1, a0)) fun x37 =>
    some x37
  ) else (
    bif decide ((w64 (a3 - a2)) = 1) then (
      onInl (α := Int) (β := (List T_api_Linked)) (loopO (d_slices_symMergeCmpFunc_api_Linked_2 a0 a2) (a1, a2)) fun x58 =>
      onInl (α := (List T_api_Linked)) (β := (List T_api_Linked)) (loopO (d_slices_symMergeCmpFunc_api_Linked_3 a0 x58) (a2, a0)) fun x82 =>
      some x82
    ) else (
      onInl (α := (Int × Int)) (β := (List T_api_Linked)) (
        bif decide ((w64 ((IntKind.u64.wrap (w64 (a1 + a3))).fdiv 2)) < a2) then (
          some (.inl (w64 ((w64 ((w64 ((IntKind.u64.wrap (w64 (a1 + a3))).fdiv 2)) + a2)) - a3), w64 ((IntKind.u64.wrap (w64 (a1 + a3))).fdiv 2)))
        ) else (
          some (.inl (a1, a2))
        )
      ) fun (x91, x92) =>
      onInl (α := Int) (β := (List T_api_Linked)) (loopO (d_slices_symMergeCmpFunc_api_Linked_4 a0 a1 a2 a3) (x91, x92)) fun x105 =>
      onInl (α := (List T_api_Linked)) (β := (List T_api_Linked)) (
        bif ((decide (x105 < a2)) && (decide (a2 < (w64 ((w64 ((w64 ((IntKind.u64.wrap (w64 (a1 + a3))).fdiv 2)) + a2)) - x105))))) then (
          (d_slices_rotateCmpFunc_api_Linked__linking_Of_c1 a0 x105 a2 (w64 ((w64 ((w64 ((IntKind.u64.wrap (w64 (a1 + a3))).fdiv 2)) + a2)) - x105))).bind fun r113 =>
          some (.inl r113)
        ) else (
          some (.inl a0)
        )
      ) fun x112 =>
      onInl (α := (List T_api_Linked)) (β := (List T_api_Linked)) (
        bif ((decide (a1 < x105)) && (decide (x105 < (w64 ((IntKind.u64.wrap (w64 (a1 + a3))).fdiv 2))))) then (
          (rc_d_slices_symMergeCmpFunc_api_Linked__linking_Of_c1 x112 a1 x105 (w64 ((IntKind.u64.wrap (w64 (a1 + a3))).fdiv 2))).bind fun r116 =>
          some (.inl r116)
        ) else (
          some (.inl x112)
        )
      ) fun x115 =>
      bif ((decide ((w64 ((IntKind.u64.wrap (w64 (a1 + a3))).fdiv 2)) < (w64 ((w64 ((w64 ((IntKind.u64.wrap (w64 (a1 + a3))).fdiv 2)) + a2)) - x105)))) && (decide ((w64 ((w64 ((w64 ((IntKind.u64.wrap (w64 (a1 + a3))).fdiv 2)) + a2)) - x105)) < a3))) then (
        (rc_d_slices_symMergeCmpFunc_api_Linked__linking_Of_c1 x115 (w64 ((IntKind.u64.wrap (w64 (a1 + a3))).fdiv 2)) (w64 ((w64 ((w64 ((IntKind.u64.wrap (w64 (a1 + a3))).fdiv 2)) + a2)) - x105)) a3).bind fun r117 =>
        some r117
      ) else (
        some x115
      )
    )
  )
theorem d_slices_symMergeCmpFunc_api_Linked__linking_Of_c1_F_xc (rc_d_slices_symMergeCmpFunc_api_Linked__linking_Of_c1 : (List T_api_Linked) → Int → Int → Int → Option (List T_api_Linked)) (hrc_d_slices_symMergeCmpFunc_api_Linked__linking_Of_c1 : ∀ (a0 : (List T_api_Linked)) (a1 : Int) (a2 : Int) (a3 : Int) (r : (List T_api_Linked)), rc_d_slices_symMergeCmpFunc_api_Linked__linking_Of_c1 a0 a1 a2 a3 = some r → XCall Go.Proofs.Tryd.prog GlS 62 2 16 (a0.map cellsOf) [Enc.pv a1, Enc.pv a2, Enc.pv a3, .fn 26 []] none (r.map cellsOf)) (a0 : (List T_api_Linked)) (a1 : Int) (a2 : Int) (a3 : Int) (r : (List T_api_Linked)) (h : d_slices_symMergeCmpFunc_api_Linked__linking_Of_c1_F rc_d_slices_symMergeCmpFunc_api_Linked__linking_Of_c1 a0 a1 a2 a3 = some r) : XCall Go.Proofs.Tryd.prog GlS 62 2 16 (a0.map cellsOf) [Enc.pv a1, Enc.pv a2, Enc.pv a3, .fn 26 []] none (r.map cellsOf) := by
  unfold d_slices_symMergeCmpFunc_api_Linked__linking_Of_c1_F at h
  refine xcall_of_pwpW Go.Proofs.Tryd.func62 (by rfl) rfl Go.Proofs.Tryd.ntmps62 (by rfl) rfl ?_
  refine pwp_seq (pwp_seq (r_reg ?_))
  refine e_end (by kernel_rfl) ?_
  refine q_next ?_
  rcases o_cond h with ⟨hb, h⟩ | ⟨hb, h⟩
  · refine r_cond_t hb (by kernel_rfl) ?_
    refine pwp_seq (r_reg ?_)
    refine e_end (by kernel_rfl) ?_
    refine q_next (pwp_seq (r_reg ?_))
    refine e_end (by kernel_rfl) ?_
    refine q_next (pwp_seq (pwp_block ?_))
    obtain ⟨o12, h12, h⟩ := o_inl h
    refine r_loop2 220 0 (fun (x6, x7) => ⟨[(0, .ex 1000000000 2 16 (((a0 : (List T_api_Linked)).map cellsOf).length) 0 (((a0 : (List T_api_Linked)).map cellsOf).length)), (1, .int .i64 a1), (4, .fn 26 []), (10, .int .i64 x6), (11, .int .i64 x7)], [], [(1000000000, (((a0 : (List T_api_Linked)).map cellsOf).length, 0))], [(1000000000, (2, (16, (a0 : (List T_api_Linked)).map cellsOf)))]⟩) (fun x13 => ⟨[(0, .ex 1000000000 2 16 (((a0 : (List T_api_Linked)).map cellsOf).length) 0 (((a0 : (List T_api_Linked)).map cellsOf).length)), (1, .int .i64 a1), (10, .int .i64 x13)], [], [(1000000000, (((a0 : (List T_api_Linked)).map cellsOf).length, 0))], [(1000000000, (2, (16, (a0 : (List T_api_Linked)).map cellsOf)))]⟩) h12 (by kernel_rfl) (fun _ => by kernel_rfl) ?_ ?_
    · rintro ⟨x6, x7⟩ oh11 h11
      unfold d_slices_symMergeCmpFunc_api_Linked_0 at h11
      refine pwp_seq (pwp_seq (r_reg ?_))
      refine e_end (by kernel_rfl) ?_
      refine q_next ?_
      rcases o_cond h11 with ⟨hb, h11⟩ | ⟨hb, h11⟩
      · refine r_cond_t hb (by kernel_rfl) ?_
        refine pwp_skip (q_next (pwp_block (pwp_seq (r_reg ?_))))
        refine e_end (by kernel_rfl) ?_
        refine q_next (pwp_seq ?_)
        refine r_regd (by kernel_rfl) (by kernel_rfl) ?_
        refine p_run 3 (by kernel_rfl) ?_
        obtain ⟨j14, h13, h11⟩ := o_bind h11
        refine p_xix (tk := 1000000000) (k := 2) (N := ((a0 : (List T_api_Linked)).map cellsOf).length) h13 (by kernel_rfl) ?_
        obtain ⟨x15, h14, h11⟩ := o_bind h11
        refine p_xld (L := (a0 : (List T_api_Linked))) (N := ((a0 : (List T_api_Linked)).map cellsOf).length) (j := j14) (y := x15) (v := Enc.pv x15) h14 true 2 0 (by kernel_rfl) (by kernel_rfl) ?_
        refine p_run 2 (by kernel_rfl) ?_
        obtain ⟨j16, h15, h11⟩ := o_bind h11
        refine p_xix (tk := 1000000000) (k := 2) (N := ((a0 : (List T_api_Linked)).map cellsOf).length) h15 (by kernel_rfl) ?_
        obtain ⟨x17, h16, h11⟩ := o_bind h11
        refine p_xld (L := (a0 : (List T_api_Linked))) (N := ((a0 : (List T_api_Linked)).map cellsOf).length) (j := j16) (y := x17) (v := Enc.pv x17) h16 true 2 0 (by kernel_rfl) (by kernel_rfl) ?_
        obtain ⟨r18, h17, h11⟩ := o_bind h11
        refine p_call (d_linking_Of_c1_ok _ _ r18 h17) (by kernel_rfl) (by kernel_rfl) ?_
        refine e_end (by kernel_rfl) ?_
        refine q_next ?_
        rcases o_cond h11 with ⟨hb, h11⟩ | ⟨hb, h11⟩
        · refine r_cond_t hb (by kernel_rfl) ?_
          refine r_reg ?_
          refine e_end (by kernel_rfl) ?_
          refine q_block ?_
          cases h11
          exact q_lback (by kernel_rfl)
        refine r_cond_f hb (by kernel_rfl) ?_
        refine r_reg ?_
        refine e_end (by kernel_rfl) ?_
        refine q_block ?_
        cases h11
        exact q_lback (by kernel_rfl)
      refine r_cond_f hb (by kernel_rfl) ?_
      refine pwp_exit (q_seq_exit ?_)
      cases h11
      exact q_lexit (by kernel_rfl) (by kernel_rfl)
    rintro x13 s' rfl hs
    have h := o_outl h
    refine q_block_hit ?_
    refine q_next (pwp_wkr hs ?_)
    refine pwp_seq (pwp_seq (r_reg ?_))
    refine e_end (by kernel_rfl) ?_
    refine q_next (pwp_block ?_)
    obtain ⟨o35, h35, h⟩ := o_inl h
    refine r_loop2 220 2 (fun (x27, x28) => ⟨[(0, .ex 1000000000 2 16 (((a0 : (List T_api_Linked)).map cellsOf).length) 0 (((a0 : (List T_api_Linked)).map cellsOf).length)), (10, .int .i64 x13), (13, .int .i64 x27)], [], [(1000000000, (((a0 : (List T_api_Linked)).map cellsOf).length, 0))], [(1000000000, (2, (16, (x28 : (List T_api_Linked)).map cellsOf)))]⟩) (fun x37 => ⟨[], [], [(1000000000, (((a0 : (List T_api_Linked)).map cellsOf).length, 0))], [(1000000000, (2, (16, (x37 : (List T_api_Linked)).map cellsOf)))]⟩) h35 (by kernel_rfl) (fun _ => by kernel_rfl) ?_ ?_
    · rintro ⟨x27, x28⟩ oh34 h34
      unfold d_slices_symMergeCmpFunc_api_Linked_1 at h34
      refine pwp_seq (pwp_seq (r_reg ?_))
      refine e_end (by kernel_rfl) ?_
      refine q_next ?_
      rcases o_cond h34 with ⟨hb, h34⟩ | ⟨hb, h34⟩
      · refine r_cond_t hb (by kernel_rfl) ?_
        refine pwp_skip (q_next (pwp_seq (pwp_block ?_)))
        refine r_regd (by kernel_rfl) (by kernel_rfl) ?_
        refine p_run 8 (by kernel_rfl) ?_
        obtain ⟨j38, h36, h34⟩ := o_bind h34
        refine p_xix (tk := 1000000000) (k := 2) (N := ((a0 : (List T_api_Linked)).map cellsOf).length) h36 (by kernel_rfl) ?_
        obtain ⟨x39, h37, h34⟩ := o_bind h34
        refine p_xld (L := (x28 : (List T_api_Linked))) (N := ((a0 : (List T_api_Linked)).map cellsOf).length) (j := j38) (y := x39) (v := Enc.pv x39) h37 true 2 0 (by kernel_rfl) (by kernel_rfl) ?_
        refine p_run 2 (by kernel_rfl) ?_
        obtain ⟨j40, h38, h34⟩ := o_bind h34
        refine p_xix (tk := 1000000000) (k := 2) (N := ((a0 : (List T_api_Linked)).map cellsOf).length) h38 (by kernel_rfl) ?_
        obtain ⟨x41, h39, h34⟩ := o_bind h34
        refine p_xld (L := (x28 : (List T_api_Linked))) (N := ((a0 : (List T_api_Linked)).map cellsOf).length) (j := j40) (y := x41) (v := Enc.pv x41) h39 true 2 0 (by kernel_rfl) (by kernel_rfl) ?_
        obtain ⟨j42, h40, h34⟩ := o_bind h34
        refine p_xix (tk := 1000000000) (k := 2) (N := ((a0 : (List T_api_Linked)).map cellsOf).length) h40 (by kernel_rfl) ?_
        obtain ⟨x43, h41, h34⟩ := o_bind h34
        refine p_xst (L := (x28 : (List T_api_Linked))) (tk := 1000000000) (N := ((a0 : (List T_api_Linked)).map cellsOf).length) (j := j42) (y := x43) (y' := x39) h41 0 2 [.int .i64 x39.Id, .int .i64 x39.At] (by kernel_rfl) (by kernel_rfl) ?_
        obtain ⟨j44, h42, h34⟩ := o_bind h34
        refine p_xix (tk := 1000000000) (k := 2) (N := ((a0 : (List T_api_Linked)).map cellsOf).length) h42 (by kernel_rfl) ?_
        obtain ⟨x45, h43, h34⟩ := o_bind h34
        refine p_xst (L := ((x28.set j42 x39) : (List T_api_Linked))) (tk := 1000000000) (N := ((a0 : (List T_api_Linked)).map cellsOf).length) (j := j44) (y := x45) (y' := x41) h43 0 2 [.int .i64 x41.Id, .int .i64 x41.At] (by kernel_rfl) (by kernel_rfl) ?_
        refine e_nil (by kernel_rfl) ?_
        refine q_block (q_next (r_reg ?_))
        refine e_end (by kernel_rfl) ?_
        cases h34
        exact q_lback (by kernel_rfl)
      refine r_cond_f hb (by kernel_rfl) ?_
      refine pwp_exit (q_seq_exit ?_)
      cases h34
      exact q_lexit (by kernel_rfl) (by kernel_rfl)
    rintro x37 s' rfl hs
    have h := o_outl h
    refine q_block_hit ?_
    refine q_next (pwp_wkr hs ?_)
    refine pwp_ret (q_seq_ret ?_)
    cases h
    exact q_xretW (by kernel_rfl)
  refine r_cond_f hb (by kernel_rfl) ?_
  refine pwp_skip (q_next (pwp_seq (pwp_seq (r_reg ?_))))
  refine e_end (by kernel_rfl) ?_
  refine q_next ?_
  rcases o_cond h with ⟨hb, h⟩ | ⟨hb, h⟩
  · refine r_cond_t hb (by kernel_rfl) ?_
    refine pwp_seq (r_reg ?_)
    refine e_end (by kernel_rfl) ?_
    refine q_next (pwp_seq (r_reg ?_))
    refine e_end (by kernel_rfl) ?_
    refine q_next (pwp_seq (pwp_block ?_))
    obtain ⟨o55, h55, h⟩ := o_inl h
    refine r_loop2 220 4 (fun (x51, x52) => ⟨[(0, .ex 1000000000 2 16 (((a0 : (List T_api_Linked)).map cellsOf).length) 0 (((a0 : (List T_api_Linked)).map cellsOf).length)), (2, .int .i64 a2), (4, .fn 26 []), (14, .int .i64 x51), (15, .int .i64 x52)], [], [(1000000000, (((a0 : (List T_api_Linked)).map cellsOf).length, 0))], [(1000000000, (2, (16, (a0 : (List T_api_Linked)).map cellsOf)))]⟩) (fun x58 => ⟨[(0, .ex 1000000000 2 16 (((a0 : (List T_api_Linked)).map cellsOf).length) 0 (((a0 : (List T_api_Linked)).map cellsOf).length)), (2, .int .i64 a2), (14, .int .i64 x58)], [], [(1000000000, (((a0 : (List T_api_Linked)).map cellsOf).length, 0))], [(1000000000, (2, (16, (a0 : (List T_api_Linked)).map cellsOf)))]⟩) h55 (by kernel_rfl) (fun _ => by kernel_rfl) ?_ ?_
    · rintro ⟨x51, x52⟩ oh54 h54
      unfold d_slices_symMergeCmpFunc_api_Linked_2 at h54
      refine pwp_seq (pwp_seq (r_reg ?_))
      refine e_end (by kernel_rfl) ?_
      refine q_next ?_
      rcases o_cond h54 with ⟨hb, h54⟩ | ⟨hb, h54⟩
      · refine r_cond_t hb (by kernel_rfl) ?_
        refine pwp_skip (q_next (pwp_block (pwp_seq (r_reg ?_))))
        refine e_end (by kernel_rfl) ?_
        refine q_next (pwp_seq ?_)
        refine r_regd (by kernel_rfl) (by kernel_rfl) ?_
        refine p_run 3 (by kernel_rfl) ?_
        obtain ⟨j59, h56, h54⟩ := o_bind h54
        refine p_xix (tk := 1000000000) (k := 2) (N := ((a0 : (List T_api_Linked)).map cellsOf).length) h56 (by kernel_rfl) ?_
        obtain ⟨x60, h57, h54⟩ := o_bind h54
        refine p_xld (L := (a0 : (List T_api_Linked))) (N := ((a0 : (List T_api_Linked)).map cellsOf).length) (j := j59) (y := x60) (v := Enc.pv x60) h57 true 2 0 (by kernel_rfl) (by kernel_rfl) ?_
        refine p_run 2 (by kernel_rfl) ?_
        obtain ⟨j61, h58, h54⟩ := o_bind h54
        refine p_xix (tk := 1000000000) (k := 2) (N := ((a0 : (List T_api_Linked)).map cellsOf).length) h58 (by kernel_rfl) ?_
        obtain ⟨x62, h59, h54⟩ := o_bind h54
        refine p_xld (L := (a0 : (List T_api_Linked))) (N := ((a0 : (List T_api_Linked)).map cellsOf).length) (j := j61) (y := x62) (v := Enc.pv x62) h59 true 2 0 (by kernel_rfl) (by kernel_rfl) ?_
        obtain ⟨r63, h60, h54⟩ := o_bind h54
        refine p_call (d_linking_Of_c1_ok _ _ r63 h60) (by kernel_rfl) (by kernel_rfl) ?_
        refine e_end (by kernel_rfl) ?_
        refine q_next ?_
        rcases o_cond h54 with ⟨hb, h54⟩ | ⟨hb, h54⟩
        · refine r_cond_t hb (by kernel_rfl) ?_
          refine r_reg ?_
          refine e_end (by kernel_rfl) ?_
          refine q_block ?_
          cases h54
          exact q_lback (by kernel_rfl)
        refine r_cond_f hb (by kernel_rfl) ?_
        refine r_reg ?_
        refine e_end (by kernel_rfl) ?_
        refine q_block ?_
        cases h54
        exact q_lback (by kernel_rfl)
      refine r_cond_f hb (by kernel_rfl) ?_
      refine pwp_exit (q_seq_exit ?_)
      cases h54
      exact q_lexit (by kernel_rfl) (by kernel_rfl)
    rintro x58 s' rfl hs
    have h := o_outl h
    refine q_block_hit ?_
    refine q_next (pwp_wkr hs ?_)
    refine pwp_seq (pwp_seq (r_reg ?_))
    refine e_end (by kernel_rfl) ?_
    refine q_next (pwp_block ?_)
    obtain ⟨o78, h78, h⟩ := o_inl h
    refine r_loop2 220 6 (fun (x72, x73) => ⟨[(0, .ex 1000000000 2 16 (((a0 : (List T_api_Linked)).map cellsOf).length) 0 (((a0 : (List T_api_Linked)).map cellsOf).length)), (14, .int .i64 x58), (17, .int .i64 x72)], [], [(1000000000, (((a0 : (List T_api_Linked)).map cellsOf).length, 0))], [(1000000000, (2, (16, (x73 : (List T_api_Linked)).map cellsOf)))]⟩) (fun x82 => ⟨[], [], [(1000000000, (((a0 : (List T_api_Linked)).map cellsOf).length, 0))], [(1000000000, (2, (16, (x82 : (List T_api_Linked)).map cellsOf)))]⟩) h78 (by kernel_rfl) (fun _ => by kernel_rfl) ?_ ?_
    · rintro ⟨x72, x73⟩ oh77 h77
      unfold d_slices_symMergeCmpFunc_api_Linked_3 at h77
      refine pwp_seq (pwp_seq (r_reg ?_))
      refine e_end (by kernel_rfl) ?_
      refine q_next ?_
      rcases o_cond h77 with ⟨hb, h77⟩ | ⟨hb, h77⟩
      · refine r_cond_t hb (by kernel_rfl) ?_
        refine pwp_skip (q_next (pwp_seq (pwp_block ?_)))
        refine r_regd (by kernel_rfl) (by kernel_rfl) ?_
        refine p_run 8 (by kernel_rfl) ?_
        obtain ⟨j83, h79, h77⟩ := o_bind h77
        refine p_xix (tk := 1000000000) (k := 2) (N := ((a0 : (List T_api_Linked)).map cellsOf).length) h79 (by kernel_rfl) ?_
        obtain ⟨x84, h80, h77⟩ := o_bind h77
        refine p_xld (L := (x73 : (List T_api_Linked))) (N := ((a0 : (List T_api_Linked)).map cellsOf).length) (j := j83) (y := x84) (v := Enc.pv x84) h80 true 2 0 (by kernel_rfl) (by kernel_rfl) ?_
        refine p_run 2 (by kernel_rfl) ?_
        obtain ⟨j85, h81, h77⟩ := o_bind h77
        refine p_xix (tk := 1000000000) (k := 2) (N := ((a0 : (List T_api_Linked)).map cellsOf).length) h81 (by kernel_rfl) ?_
        obtain ⟨x86, h82, h77⟩ := o_bind h77
        refine p_xld (L := (x73 : (List T_api_Linked))) (N := ((a0 : (List T_api_Linked)).map cellsOf).length) (j := j85) (y := x86) (v := Enc.pv x86) h82 true 2 0 (by kernel_rfl) (by kernel_rfl) ?_
        obtain ⟨j87, h83, h77⟩ := o_bind h77
        refine p_xix (tk := 1000000000) (k := 2) (N := ((a0 : (List T_api_Linked)).map cellsOf).length) h83 (by kernel_rfl) ?_
        obtain ⟨x88, h84, h77⟩ := o_bind h77
        refine p_xst (L := (x73 : (List T_api_Linked))) (tk := 1000000000) (N := ((a0 : (List T_api_Linked)).map cellsOf).length) (j := j87) (y := x88) (y' := x84) h84 0 2 [.int .i64 x84.Id, .int .i64 x84.At] (by kernel_rfl) (by kernel_rfl) ?_
        obtain ⟨j89, h85, h77⟩ := o_bind h77
        refine p_xix (tk := 1000000000) (k := 2) (N := ((a0 : (List T_api_Linked)).map cellsOf).length) h85 (by kernel_rfl) ?_
        obtain ⟨x90, h86, h77⟩ := o_bind h77
        refine p_xst (L := ((x73.set j87 x84) : (List T_api_Linked))) (tk := 1000000000) (N := ((a0 : (List T_api_Linked)).map cellsOf).length) (j := j89) (y := x90) (y' := x86) h86 0 2 [.int .i64 x86.Id, .int .i64 x86.At] (by kernel_rfl) (by kernel_rfl) ?_
        refine e_nil (by kernel_rfl) ?_
        refine q_block (q_next (r_reg ?_))
        refine e_end (by kernel_rfl) ?_
        cases h77
        exact q_lback (by kernel_rfl)
      refine r_cond_f hb (by kernel_rfl) ?_
      refine pwp_exit (q_seq_exit ?_)
      cases h77
      exact q_lexit (by kernel_rfl) (by kernel_rfl)
    rintro x82 s' rfl hs
    have h := o_outl h
    refine q_block_hit ?_
    refine q_next (pwp_wkr hs ?_)
    refine pwp_ret (q_seq_ret ?_)
    cases h
    exact q_xretW (by kernel_rfl)
  refine r_cond_f hb (by kernel_rfl) ?_
  refine pwp_skip (q_next (pwp_seq (r_reg ?_)))
  refine e_end (by kernel_rfl) ?_
  refine q_next (pwp_seq (r_reg ?_))
  refine e_end (by kernel_rfl) ?_
  refine q_next (pwp_seq (r_reg ?_))
  refine e_end (by kernel_rfl) ?_
  refine q_next ?_
  obtain ⟨o87, h87, h⟩ := o_inl h
  refine r_join (o := o87) 220 (fun (x91, x92) => ⟨[(0, .ex 1000000000 2 16 (((a0 : (List T_api_Linked)).map cellsOf).length) 0 (((a0 : (List T_api_Linked)).map cellsOf).length)), (1, .int .i64 a1), (2, .int .i64 a2), (3, .int .i64 a3), (4, .fn 26 []), (18, .int .i64 (w64 ((IntKind.u64.wrap (w64 (a1 + a3))).fdiv 2))), (19, .int .i64 (w64 ((w64 ((IntKind.u64.wrap (w64 (a1 + a3))).fdiv 2)) + a2))), (20, .int .i64 x91), (21, .int .i64 x92)], [], [(1000000000, (((a0 : (List T_api_Linked)).map cellsOf).length, 0))], [(1000000000, (2, (16, (a0 : (List T_api_Linked)).map cellsOf)))]⟩) ?_ ?_
  · refine pwp_seq (r_reg ?_)
    refine e_end (by kernel_rfl) ?_
    refine q_next ?_
    rcases o_cond h87 with ⟨hb, h87⟩ | ⟨hb, h87⟩
    · refine r_cond_t hb (by kernel_rfl) ?_
      refine pwp_seq (r_reg ?_)
      refine e_end (by kernel_rfl) ?_
      refine q_next (r_reg ?_)
      refine e_end (by kernel_rfl) ?_
      cases h87
      exact q_join (by kernel_rfl) (by kernel_rfl)
    refine r_cond_f hb (by kernel_rfl) ?_
    refine pwp_seq (r_reg ?_)
    refine e_end (by kernel_rfl) ?_
    refine q_next (r_reg ?_)
    refine e_end (by kernel_rfl) ?_
    cases h87
    exact q_join (by kernel_rfl) (by kernel_rfl)
  rintro ⟨x91, x92⟩ rfl
  have h := o_outl h
  refine pwp_seq (r_reg ?_)
  refine e_end (by kernel_rfl) ?_
  refine q_next (pwp_seq (pwp_block ?_))
  obtain ⟨o99, h99, h⟩ := o_inl h
  refine r_loop2 220 8 (fun (x98, x99) => ⟨[(0, .ex 1000000000 2 16 (((a0 : (List T_api_Linked)).map cellsOf).length) 0 (((a0 : (List T_api_Linked)).map cellsOf).length)), (1, .int .i64 a1), (2, .int .i64 a2), (3, .int .i64 a3), (4, .fn 26 []), (18, .int .i64 (w64 ((IntKind.u64.wrap (w64 (a1 + a3))).fdiv 2))), (19, .int .i64 (w64 ((w64 ((IntKind.u64.wrap (w64 (a1 + a3))).fdiv 2)) + a2))), (20, .int .i64 x98), (21, .int .i64 x99), (22, .int .i64 (w64 ((w64 ((w64 ((IntKind.u64.wrap (w64 (a1 + a3))).fdiv 2)) + a2)) - 1)))], [], [(1000000000, (((a0 : (List T_api_Linked)).map cellsOf).length, 0))], [(1000000000, (2, (16, (a0 : (List T_api_Linked)).map cellsOf)))]⟩) (fun x105 => ⟨[(0, .ex 1000000000 2 16 (((a0 : (List T_api_Linked)).map cellsOf).length) 0 (((a0 : (List T_api_Linked)).map cellsOf).length)), (1, .int .i64 a1), (2, .int .i64 a2), (3, .int .i64 a3), (4, .fn 26 []), (18, .int .i64 (w64 ((IntKind.u64.wrap (w64 (a1 + a3))).fdiv 2))), (19, .int .i64 (w64 ((w64 ((IntKind.u64.wrap (w64 (a1 + a3))).fdiv 2)) + a2))), (20, .int .i64 x105)], [], [(1000000000, (((a0 : (List T_api_Linked)).map cellsOf).length, 0))], [(1000000000, (2, (16, (a0 : (List T_api_Linked)).map cellsOf)))]⟩) h99 (by kernel_rfl) (fun _ => by kernel_rfl) ?_ ?_
  · rintro ⟨x98, x99⟩ oh98 h98
    unfold d_slices_symMergeCmpFunc_api_Linked_4 at h98
    refine pwp_seq (pwp_seq (r_reg ?_))
    refine e_end (by kernel_rfl) ?_
    refine q_next ?_
    rcases o_cond h98 with ⟨hb, h98⟩ | ⟨hb, h98⟩
    · refine r_cond_t hb (by kernel_rfl) ?_
      refine pwp_skip (q_next (pwp_block (pwp_seq (r_reg ?_))))
      refine e_end (by kernel_rfl) ?_
      refine q_next (pwp_seq ?_)
      refine r_regd (by kernel_rfl) (by kernel_rfl) ?_
      refine p_run 5 (by kernel_rfl) ?_
      obtain ⟨j106, h100, h98⟩ := o_bind h98
      refine p_xix (tk := 1000000000) (k := 2) (N := ((a0 : (List T_api_Linked)).map cellsOf).length) h100 (by kernel_rfl) ?_
      obtain ⟨x107, h101, h98⟩ := o_bind h98
      refine p_xld (L := (a0 : (List T_api_Linked))) (N := ((a0 : (List T_api_Linked)).map cellsOf).length) (j := j106) (y := x107) (v := Enc.pv x107) h101 true 2 0 (by kernel_rfl) (by kernel_rfl) ?_
      refine p_run 2 (by kernel_rfl) ?_
      obtain ⟨j108, h102, h98⟩ := o_bind h98
      refine p_xix (tk := 1000000000) (k := 2) (N := ((a0 : (List T_api_Linked)).map cellsOf).length) h102 (by kernel_rfl) ?_
      obtain ⟨x109, h103, h98⟩ := o_bind h98
      refine p_xld (L := (a0 : (List T_api_Linked))) (N := ((a0 : (List T_api_Linked)).map cellsOf).length) (j := j108) (y := x109) (v := Enc.pv x109) h103 true 2 0 (by kernel_rfl) (by kernel_rfl) ?_
      obtain ⟨r110, h104, h98⟩ := o_bind h98
      refine p_call (d_linking_Of_c1_ok _ _ r110 h104) (by kernel_rfl) (by kernel_rfl) ?_
      refine e_end (by kernel_rfl) ?_
      refine q_next ?_
      rcases o_cond h98 with ⟨hb, h98⟩ | ⟨hb, h98⟩
      · refine r_cond_t hb (by kernel_rfl) ?_
        refine r_reg ?_
        refine e_end (by kernel_rfl) ?_
        refine q_block ?_
        cases h98
        exact q_lback (by kernel_rfl)
      refine r_cond_f hb (by kernel_rfl) ?_
      refine r_reg ?_
      refine e_end (by kernel_rfl) ?_
      refine q_block ?_
      cases h98
      exact q_lback (by kernel_rfl)
    refine r_cond_f hb (by kernel_rfl) ?_
    refine pwp_exit (q_seq_exit ?_)
    cases h98
    exact q_lexit (by kernel_rfl) (by kernel_rfl)
  rintro x105 s' rfl hs
  have h := o_outl h
  refine q_block_hit ?_
  refine q_next (pwp_wkr hs ?_)
  refine pwp_seq (r_reg ?_)
  refine e_end (by kernel_rfl) ?_
  refine q_next ?_
  obtain ⟨o106, h106, h⟩ := o_inl h
  refine r_join (o := o106) 220 (fun x112 => ⟨[(0, .ex 1000000000 2 16 (((a0 : (List T_api_Linked)).map cellsOf).length) 0 (((a0 : (List T_api_Linked)).map cellsOf).length)), (1, .int .i64 a1), (3, .int .i64 a3), (4, .fn 26 []), (18, .int .i64 (w64 ((IntKind.u64.wrap (w64 (a1 + a3))).fdiv 2))), (20, .int .i64 x105), (24, .int .i64 (w64 ((w64 ((w64 ((IntKind.u64.wrap (w64 (a1 + a3))).fdiv 2)) + a2)) - x105)))], [], [(1000000000, (((a0 : (List T_api_Linked)).map cellsOf).length, 0))], [(1000000000, (2, (16, (x112 : (List T_api_Linked)).map cellsOf)))]⟩) ?_ ?_
  · refine pwp_seq (r_reg ?_)
    refine p_run 4 (by kernel_rfl) ?_
    refine e_segb 4 185 ((decide (x105 < a2)) && (decide (a2 < (w64 ((w64 ((w64 ((IntKind.u64.wrap (w64 (a1 + a3))).fdiv 2)) + a2)) - x105))))) (fun x hx => ?_) ?_
    · rcases b_and hx with ⟨hb, hx⟩ | ⟨hb, hx⟩
      · refine p_settle 181 hb (by kernel_rfl) (by kernel_rfl) ?_
        subst hx
        exact f_end (by kernel_rfl) (by kernel_rfl)
      refine p_settle 181 hb (by kernel_rfl) (by kernel_rfl) ?_
      subst hx
      exact f_end (by kernel_rfl) (by kernel_rfl)
    refine e_nil (by kernel_rfl) ?_
    refine q_next ?_
    rcases o_cond h106 with ⟨hb, h106⟩ | ⟨hb, h106⟩
    · refine r_cond_t hb (by kernel_rfl) ?_
      refine r_reg ?_
      refine p_run 5 (by kernel_rfl) ?_
      obtain ⟨r113, h107, h106⟩ := o_bind h106
      refine p_xcall (t := 1000000000) (L := (a0 : (List T_api_Linked))) (L' := (r113 : (List T_api_Linked))) (N := ((a0 : (List T_api_Linked)).map cellsOf).length) (by kernel_rfl) (by kernel_rfl) (by kernel_rfl) (d_slices_rotateCmpFunc_api_Linked__linking_Of_c1_xc _ _ _ _ r113 h107) ?_
      refine e_nil (by kernel_rfl) ?_
      cases h106
      exact q_join (by kernel_rfl) (by kernel_rfl)
    refine r_cond_f hb (by kernel_rfl) ?_
    refine pwp_skip ?_
    cases h106
    exact q_join (by kernel_rfl) (by kernel_rfl)
  rintro x112 rfl
  have h := o_outl h
  obtain ⟨o109, h109, h⟩ := o_inl h
  refine r_join (o := o109) 220 (fun x115 => ⟨[(0, .ex 1000000000 2 16 (((a0 : (List T_api_Linked)).map cellsOf).length) 0 (((a0 : (List T_api_Linked)).map cellsOf).length)), (3, .int .i64 a3), (4, .fn 26 []), (18, .int .i64 (w64 ((IntKind.u64.wrap (w64 (a1 + a3))).fdiv 2))), (24, .int .i64 (w64 ((w64 ((w64 ((IntKind.u64.wrap (w64 (a1 + a3))).fdiv 2)) + a2)) - x105)))], [], [(1000000000, (((a0 : (List T_api_Linked)).map cellsOf).length, 0))], [(1000000000, (2, (16, (x115 : (List T_api_Linked)).map cellsOf)))]⟩) ?_ ?_
  · refine pwp_seq (r_reg ?_)
    refine p_run 4 (by kernel_rfl) ?_
    refine e_segb 4 199 ((decide (a1 < x105)) && (decide (x105 < (w64 ((IntKind.u64.wrap (w64 (a1 + a3))).fdiv 2))))) (fun x hx => ?_) ?_
    · rcases b_and hx with ⟨hb, hx⟩ | ⟨hb, hx⟩
      · refine p_settle 195 hb (by kernel_rfl) (by kernel_rfl) ?_
        subst hx
        exact f_end (by kernel_rfl) (by kernel_rfl)
      refine p_settle 195 hb (by kernel_rfl) (by kernel_rfl) ?_
      subst hx
      exact f_end (by kernel_rfl) (by kernel_rfl)
    refine e_nil (by kernel_rfl) ?_
    refine q_next ?_
    rcases o_cond h109 with ⟨hb, h109⟩ | ⟨hb, h109⟩
    · refine r_cond_t hb (by kernel_rfl) ?_
      refine r_reg ?_
      refine p_run 5 (by kernel_rfl) ?_
      obtain ⟨r116, h110, h109⟩ := o_bind h109
      refine p_xcall (t := 1000000000) (L := (x112 : (List T_api_Linked))) (L' := (r116 : (List T_api_Linked))) (N := ((a0 : (List T_api_Linked)).map cellsOf).length) (by kernel_rfl) (by kernel_rfl) (by kernel_rfl) (hrc_d_slices_symMergeCmpFunc_api_Linked__linking_Of_c1 _ _ _ _ r116 h110) ?_
      refine e_nil (by kernel_rfl) ?_
      cases h109
      exact q_join (by kernel_rfl) (by kernel_rfl)
    refine r_cond_f hb (by kernel_rfl) ?_
    refine pwp_skip ?_
    cases h109
    exact q_join (by kernel_rfl) (by kernel_rfl)
  rintro x115 rfl
  have h := o_outl h
  refine pwp_seq (r_reg ?_)
  refine p_run 4 (by kernel_rfl) ?_
  refine e_segb 4 213 ((decide ((w64 ((IntKind.u64.wrap (w64 (a1 + a3))).fdiv 2)) < (w64 ((w64 ((w64 ((IntKind.u64.wrap (w64 (a1 + a3))).fdiv 2)) + a2)) - x105)))) && (decide ((w64 ((w64 ((w64 ((IntKind.u64.wrap (w64 (a1 + a3))).fdiv 2)) + a2)) - x105)) < a3))) (fun x hx => ?_) ?_
  · rcases b_and hx with ⟨hb, hx⟩ | ⟨hb, hx⟩
    · refine p_settle 209 hb (by kernel_rfl) (by kernel_rfl) ?_
      subst hx
      exact f_end (by kernel_rfl) (by kernel_rfl)
    refine p_settle 209 hb (by kernel_rfl) (by kernel_rfl) ?_
    subst hx
    exact f_end (by kernel_rfl) (by kernel_rfl)
  refine e_nil (by kernel_rfl) ?_
  refine q_next ?_
  rcases o_cond h with ⟨hb, h⟩ | ⟨hb, h⟩
  · refine r_cond_t hb (by kernel_rfl) ?_
    refine r_reg ?_
    refine p_run 5 (by kernel_rfl) ?_
    obtain ⟨r117, h111, h⟩ := o_bind h
    refine p_xcall (t := 1000000000) (L := (x115 : (List T_api_Linked))) (L' := (r117 : (List T_api_Linked))) (N := ((a0 : (List T_api_Linked)).map cellsOf).length) (by kernel_rfl) (by kernel_rfl) (by kernel_rfl) (hrc_d_slices_symMergeCmpFunc_api_Linked__linking_Of_c1 _ _ _ _ r117 h111) ?_
    refine e_nil (by kernel_rfl) ?_
    cases h
    exact q_xretW (by kernel_rfl)
  refine r_cond_f hb (by kernel_rfl) ?_
  refine pwp_skip ?_
  cases h
  exact q_xretW (by kernel_rfl)
noncomputable def d_slices_symMergeCmpFunc_api_Linked__linking_Of_c1_N (n : Nat) : (List T_api_Linked) → Int → Int → Int → Option (List T_api_Linked) := Nat.rec (fun _ _ _ _ => none) (fun _ ih => d_slices_symMergeCmpFunc_api_Linked__linking_Of_c1_F ih) n
theorem d_slices_symMergeCmpFunc_api_Linked__linking_Of_c1_N_xc : ∀ (n : Nat) (a0 : (List T_api_Linked)) (a1 : Int) (a2 : Int) (a3 : Int) (r : (List T_api_Linked)), d_slices_symMergeCmpFunc_api_Linked__linking_Of_c1_N n a0 a1 a2 a3 = some r → XCall Go.Proofs.Tryd.prog GlS 62 2 16 (a0.map cellsOf) [Enc.pv a1, Enc.pv a2, Enc.pv a3, .fn 26 []] none (r.map cellsOf)
  | 0, _, _, _, _, _, h => by cases h
  | n + 1, a0, a1, a2, a3, r, h => d_slices_symMergeCmpFunc_api_Linked__linking_Of_c1_F_xc (d_slices_symMergeCmpFunc_api_Linked__linking_Of_c1_N n) (d_slices_symMergeCmpFunc_api_Linked__linking_Of_c1_N_xc n) a0 a1 a2 a3 r h
noncomputable def d_slices_symMergeCmpFunc_api_Linked__linking_Of_c1 (a0 : (List T_api_Linked)) (a1 : Int) (a2 : Int) (a3 : Int) : Option (List T_api_Linked) := d_slices_symMergeCmpFunc_api_Linked__linking_Of_c1_F (d_slices_symMergeCmpFunc_api_Linked__linking_Of_c1_N recFuel) a0 a1 a2 a3
theorem d_slices_symMergeCmpFunc_api_Linked__linking_Of_c1_xc (a0 : (List T_api_Linked)) (a1 : Int) (a2 : Int) (a3 : Int) (r : (List T_api_Linked)) (h : d_slices_symMergeCmpFunc_api_Linked__linking_Of_c1 a0 a1 a2 a3 = some r) : XCall Go.Proofs.Tryd.prog GlS 62 2 16 (a0.map cellsOf) [Enc.pv a1, Enc.pv a2, Enc.pv a3, .fn 26 []] none (r.map cellsOf) := d_slices_symMergeCmpFunc_api_Linked__linking_Of_c1_F_xc (d_slices_symMergeCmpFunc_api_Linked__linking_Of_c1_N recFuel) (d_slices_symMergeCmpFunc_api_Linked__linking_Of_c1_N_xc recFuel) a0 a1 a2 a3 r h

/-! slices.stableCmpFunc[api.Linked] -/
noncomputable def d_slices_stableCmpFunc_api_Linked_0 (a1 : Int) : (Int × Int × (List T_api_Linked)) → Option ((Int × Int × (List T_api_Linked)) ⊕ (((List T_api_Linked) × Int) ⊕ (List T_api_Linked))) := fun (x2, x3, x4) =>
  bif decide (x3 ≤ a1) then (
    (d_slices_insertionSortCmpFunc_api_Linked__linking_Of_c1 x4 x2 x3).bind fun r8 =>
    some (.inl (x3, w64 (x3 + 20), r8))
  ) else (
    some (.inr (.inl (x4, x2)))
  )

noncomputable def d_slices_stableCmpFunc_api_Linked_2 (a1 : Int) (x21 : Int) : (Int × Int × (List T_api_Linked)) → Option ((Int × Int × (List T_api_Linked)) ⊕ (((List T_api_Linked) × Int) ⊕ ((Int × (List T_api_Linked)) ⊕ ((List T_api_Linked) ⊕ (List T_api_Linked))))) := fun (x36, x37, x38) =>
  bif decide (x37 ≤ a1) then (
    (d_slices_symMergeCmpFunc_api_Linked__linking_Of_c1 x38 x36 (w64 (x36 + x21)) x37).bind fun r42 =>
    some (.inl (x37, w64 (x37 + (w64 (2 * x21))), r42))
  ) else (
    some (.inr (.inl (x38, x36)))
  )

noncomputable def d_slices_stableCmpFunc_api_Linked_1 (a1 : Int) : (Int × (List T_api_Linked)) → Option ((Int × (List T_api_Linked)) ⊕ ((List T_api_Linked) ⊕ (List T_api_Linked))) := fun (x21, x22) =>
  bif decide (x21 < a1) then (
    onInl (α := ((List T_api_Linked) × Int)) (β := ((Int × (List T_api_Linked)) ⊕ ((List T_api_Linked) ⊕ (List T_api_Linked)))) (loopO (d_slices_stableCmpFunc_api_Linked_2 a1 x21) (0, w64 (2 * x21), x22)) fun (x40, x41) =>
    onInl (α := (List T_api_Linked)) (β := ((Int × (List T_api_Linked)) ⊕ ((List T_api_Linked) ⊕ (List T_api_Linked)))) (
      bif decide ((w64 (x41 + x21)) < a1) then (
        (d_slices_symMergeCmpFunc_api_Linked__linking_Of_c1 x40 x41 (w64 (x41 + x21)) a1).bind fun r45 =>
        some (.inl r45)
      ) else (
        some (.inl x40)
      )
    ) fun x44 =>
    some (.inl (w64 (x21 * 2), x44))
  ) else (
    some (.inr (.inl x22))
  )

noncomputable def d_slices_stableCmpFunc_api_Linked__linking_Of_c1 (a0 : (List T_api_Linked)) (a1 : Int) : Option (List T_api_Linked) :=
  onInl (α := ((List T_api_Linked) × Int)) (β := (List T_api_Linked)) (loopO (d_slices_stableCmpFunc_api_Linked_0 a1) (0, 20, a0)) fun (x6, x7) =>
  (d_slices_insertionSortCmpFunc_api_Linked__linking_Of_c1 x6 x7 a1).bind fun r9 =>
  onInl (α := (List T_api_Linked)) (β := (List T_api_Linked)) (loopO (d_slices_stableCmpFunc_api_Linked_1 a1) (20, r9)) fun x34 =>
  some x34
theorem d_slices_stableCmpFunc_api_Linked__linking_Of_c1_xc (a0 : (List T_api_Linked)) (a1 : Int) (r : (List T_api_Linked)) (h : d_slices_stableCmpFunc_api_Linked__linking_Of_c1 a0 a1 = some r) : XCall Go.Proofs.Tryd.prog GlS 44 2 16 (a0.map cellsOf) [Enc.pv a1, .fn 26 []] none (r.map cellsOf) := by
  unfold d_slices_stableCmpFunc_api_Linked__linking_Of_c1 at h
  refine xcall_of_pwpW Go.Proofs.Tryd.func44 (by rfl) rfl Go.Proofs.Tryd.ntmps44 (by rfl) rfl ?_
  refine pwp_seq (r_reg ?_)
  refine e_end (by kernel_rfl) ?_
  refine q_next (pwp_seq (r_reg ?_))
  refine e_end (by kernel_rfl) ?_
  refine q_next (pwp_seq (pwp_block ?_))
  obtain ⟨o4, h4, h⟩ := o_inl h
  refine r_loop2 63 0 (fun (x2, x3, x4) => ⟨[(0, .ex 1000000000 2 16 (((a0 : (List T_api_Linked)).map cellsOf).length) 0 (((a0 : (List T_api_Linked)).map cellsOf).length)), (1, .int .i64 a1), (2, .fn 26 []), (6, .int .i64 20), (7, .int .i64 x2), (8, .int .i64 x3)], [], [(1000000000, (((a0 : (List T_api_Linked)).map cellsOf).length, 0))], [(1000000000, (2, (16, (x4 : (List T_api_Linked)).map cellsOf)))]⟩) (fun (x6, x7) => ⟨[(0, .ex 1000000000 2 16 (((a0 : (List T_api_Linked)).map cellsOf).length) 0 (((a0 : (List T_api_Linked)).map cellsOf).length)), (1, .int .i64 a1), (2, .fn 26 []), (6, .int .i64 20), (7, .int .i64 x7)], [], [(1000000000, (((a0 : (List T_api_Linked)).map cellsOf).length, 0))], [(1000000000, (2, (16, (x6 : (List T_api_Linked)).map cellsOf)))]⟩) h4 (by kernel_rfl) (fun _ => by kernel_rfl) ?_ ?_
  · rintro ⟨x2, x3, x4⟩ oh3 h3
    unfold d_slices_stableCmpFunc_api_Linked_0 at h3
    refine pwp_seq (pwp_seq (r_reg ?_))
    refine e_end (by kernel_rfl) ?_
    refine q_next ?_
    rcases o_cond h3 with ⟨hb, h3⟩ | ⟨hb, h3⟩
    · refine r_cond_t hb (by kernel_rfl) ?_
      refine pwp_skip (q_next (pwp_block (pwp_seq (r_reg ?_))))
      refine p_run 4 (by kernel_rfl) ?_
      obtain ⟨r8, h5, h3⟩ := o_bind h3
      refine p_xcall (t := 1000000000) (L := (x4 : (List T_api_Linked))) (L' := (r8 : (List T_api_Linked))) (N := ((a0 : (List T_api_Linked)).map cellsOf).length) (by kernel_rfl) (by kernel_rfl) (by kernel_rfl) (d_slices_insertionSortCmpFunc_api_Linked__linking_Of_c1_xc _ _ _ r8 h5) ?_
      refine e_nil (by kernel_rfl) ?_
      refine q_next (pwp_seq (r_reg ?_))
      refine e_end (by kernel_rfl) ?_
      refine q_next (r_reg ?_)
      refine e_end (by kernel_rfl) ?_
      refine q_block ?_
      cases h3
      exact q_lback (by kernel_rfl)
    refine r_cond_f hb (by kernel_rfl) ?_
    refine pwp_exit (q_seq_exit ?_)
    cases h3
    exact q_lexit (by kernel_rfl) (by kernel_rfl)
  rintro ⟨x6, x7⟩ s' rfl hs
  have h := o_outl h
  refine q_block_hit ?_
  refine q_next (pwp_wkr hs ?_)
  refine pwp_seq (r_reg ?_)
  refine p_run 4 (by kernel_rfl) ?_
  obtain ⟨r9, h6, h⟩ := o_bind h
  refine p_xcall (t := 1000000000) (L := (x6 : (List T_api_Linked))) (L' := (r9 : (List T_api_Linked))) (N := ((a0 : (List T_api_Linked)).map cellsOf).length) (by kernel_rfl) (by kernel_rfl) (by kernel_rfl) (d_slices_insertionSortCmpFunc_api_Linked__linking_Of_c1_xc _ _ _ r9 h6) ?_
  refine e_nil (by kernel_rfl) ?_
  refine q_next (pwp_block ?_)
  obtain ⟨o24, h24, h⟩ := o_inl h
  refine r_loop2 63 2 (fun (x21, x22) => ⟨[(0, .ex 1000000000 2 16 (((a0 : (List T_api_Linked)).map cellsOf).length) 0 (((a0 : (List T_api_Linked)).map cellsOf).length)), (1, .int .i64 a1), (2, .fn 26 []), (6, .int .i64 x21)], [], [(1000000000, (((a0 : (List T_api_Linked)).map cellsOf).length, 0))], [(1000000000, (2, (16, (x22 : (List T_api_Linked)).map cellsOf)))]⟩) (fun x34 => ⟨[], [], [(1000000000, (((a0 : (List T_api_Linked)).map cellsOf).length, 0))], [(1000000000, (2, (16, (x34 : (List T_api_Linked)).map cellsOf)))]⟩) h24 (by kernel_rfl) (fun _ => by kernel_rfl) ?_ ?_
  · rintro ⟨x21, x22⟩ oh23 h23
    unfold d_slices_stableCmpFunc_api_Linked_1 at h23
    refine pwp_seq (pwp_seq (r_reg ?_))
    refine e_end (by kernel_rfl) ?_
    refine q_next ?_
    rcases o_cond h23 with ⟨hb, h23⟩ | ⟨hb, h23⟩
    · refine r_cond_t hb (by kernel_rfl) ?_
      refine pwp_skip (q_next (pwp_block (pwp_seq (r_reg ?_))))
      refine e_end (by kernel_rfl) ?_
      refine q_next (pwp_seq (pwp_block ?_))
      obtain ⟨o28, h28, h23⟩ := o_inl h23
      refine r_loop2 63 4 (fun (x36, x37, x38) => ⟨[(0, .ex 1000000000 2 16 (((a0 : (List T_api_Linked)).map cellsOf).length) 0 (((a0 : (List T_api_Linked)).map cellsOf).length)), (1, .int .i64 a1), (2, .fn 26 []), (6, .int .i64 x21), (7, .int .i64 x36), (8, .int .i64 x37)], [], [(1000000000, (((a0 : (List T_api_Linked)).map cellsOf).length, 0))], [(1000000000, (2, (16, (x38 : (List T_api_Linked)).map cellsOf)))]⟩) (fun (x40, x41) => ⟨[(0, .ex 1000000000 2 16 (((a0 : (List T_api_Linked)).map cellsOf).length) 0 (((a0 : (List T_api_Linked)).map cellsOf).length)), (1, .int .i64 a1), (2, .fn 26 []), (6, .int .i64 x21), (7, .int .i64 x41)], [], [(1000000000, (((a0 : (List T_api_Linked)).map cellsOf).length, 0))], [(1000000000, (2, (16, (x40 : (List T_api_Linked)).map cellsOf)))]⟩) h28 (by kernel_rfl) (fun _ => by kernel_rfl) ?_ ?_
      · rintro ⟨x36, x37, x38⟩ oh27 h27
        unfold d_slices_stableCmpFunc_api_Linked_2 at h27
        refine pwp_seq (pwp_seq (r_reg ?_))
        refine e_end (by kernel_rfl) ?_
        refine q_next ?_
        rcases o_cond h27 with ⟨hb, h27⟩ | ⟨hb, h27⟩
        · refine r_cond_t hb (by kernel_rfl) ?_
          refine pwp_skip (q_next (pwp_block (pwp_seq (r_reg ?_))))
          refine p_run 7 (by kernel_rfl) ?_
          obtain ⟨r42, h29, h27⟩ := o_bind h27
          refine p_xcall (t := 1000000000) (L := (x38 : (List T_api_Linked))) (L' := (r42 : (List T_api_Linked))) (N := ((a0 : (List T_api_Linked)).map cellsOf).length) (by kernel_rfl) (by kernel_rfl) (by kernel_rfl) (d_slices_symMergeCmpFunc_api_Linked__linking_Of_c1_xc _ _ _ _ r42 h29) ?_
          refine e_nil (by kernel_rfl) ?_
          refine q_next (pwp_seq (r_reg ?_))
          refine e_end (by kernel_rfl) ?_
          refine q_next (r_reg ?_)
          refine e_end (by kernel_rfl) ?_
          refine q_block ?_
          cases h27
          exact q_lback (by kernel_rfl)
        refine r_cond_f hb (by kernel_rfl) ?_
        refine pwp_exit (q_seq_exit ?_)
        cases h27
        exact q_lexit (by kernel_rfl) (by kernel_rfl)
      rintro ⟨x40, x41⟩ s' rfl hs
      have h23 := o_outl h23
      refine q_block_hit ?_
      refine q_next (pwp_wkr hs ?_)
      obtain ⟨o31, h31, h23⟩ := o_inl h23
      refine r_join (o := o31) 63 (fun x44 => ⟨[(0, .ex 1000000000 2 16 (((a0 : (List T_api_Linked)).map cellsOf).length) 0 (((a0 : (List T_api_Linked)).map cellsOf).length)), (1, .int .i64 a1), (2, .fn 26 []), (6, .int .i64 x21)], [], [(1000000000, (((a0 : (List T_api_Linked)).map cellsOf).length, 0))], [(1000000000, (2, (16, (x44 : (List T_api_Linked)).map cellsOf)))]⟩) ?_ ?_
      · refine pwp_seq (r_reg ?_)
        refine e_end (by kernel_rfl) ?_
        refine q_next (pwp_seq (r_reg ?_))
        refine e_end (by kernel_rfl) ?_
        refine q_next ?_
        rcases o_cond h31 with ⟨hb, h31⟩ | ⟨hb, h31⟩
        · refine r_cond_t hb (by kernel_rfl) ?_
          refine r_reg ?_
          refine p_run 5 (by kernel_rfl) ?_
          obtain ⟨r45, h32, h31⟩ := o_bind h31
          refine p_xcall (t := 1000000000) (L := (x40 : (List T_api_Linked))) (L' := (r45 : (List T_api_Linked))) (N := ((a0 : (List T_api_Linked)).map cellsOf).length) (by kernel_rfl) (by kernel_rfl) (by kernel_rfl) (d_slices_symMergeCmpFunc_api_Linked__linking_Of_c1_xc _ _ _ _ r45 h32) ?_
          refine e_nil (by kernel_rfl) ?_
          cases h31
          exact q_join (by kernel_rfl) (by kernel_rfl)
        refine r_cond_f hb (by kernel_rfl) ?_
        refine pwp_skip ?_
        cases h31
        exact q_join (by kernel_rfl) (by kernel_rfl)
      rintro x44 rfl
      have h23 := o_outl h23
      refine r_reg ?_
      refine e_end (by kernel_rfl) ?_
      refine q_block ?_
      cases h23
      exact q_lback (by kernel_rfl)
    refine r_cond_f hb (by kernel_rfl) ?_
    refine pwp_exit (q_seq_exit ?_)
    cases h23
    exact q_lexit (by kernel_rfl) (by kernel_rfl)
  rintro x34 s' rfl hs
  have h := o_outl h
  refine q_block_hit ?_
  cases h
  exact q_xretW_w hs (by kernel_rfl)

/-! slices.SortStableFunc[[]api.Linked,api.Linked] -/
noncomputable def d_slices_SortStableFunc_api_Linked__linking_Of_c1 (a0 : (List T_api_Linked)) : Option (List T_api_Linked) :=
  (d_slices_stableCmpFunc_api_Linked__linking_Of_c1 a0 ((((a0 : (List T_api_Linked)).map cellsOf).length : Nat) : Int)).bind fun r1 =>
  some r1
theorem d_slices_SortStableFunc_api_Linked__linking_Of_c1_xc (a0 : (List T_api_Linked)) (r : (List T_api_Linked)) (h : d_slices_SortStableFunc_api_Linked__linking_Of_c1 a0 = some r) : XCall Go.Proofs.Tryd.prog GlS 25 2 16 (a0.map cellsOf) [.fn 26 []] none (r.map cellsOf) := by
  unfold d_slices_SortStableFunc_api_Linked__linking_Of_c1 at h
  refine xcall_of_pwpW Go.Proofs.Tryd.func25 (by rfl) rfl Go.Proofs.Tryd.ntmps25 (by rfl) rfl ?_
  refine r_reg ?_
  refine p_run 4 (by kernel_rfl) ?_
  obtain ⟨r1, h1, h⟩ := o_bind h
  refine p_xcall (t := 1000000000) (L := (a0 : (List T_api_Linked))) (L' := (r1 : (List T_api_Linked))) (N := ((a0 : (List T_api_Linked)).map cellsOf).length) (by kernel_rfl) (by kernel_rfl) (by kernel_rfl) (d_slices_stableCmpFunc_api_Linked__linking_Of_c1_xc _ _ r1 h1) ?_
  refine e_nil (by kernel_rfl) ?_
  cases h
  exact q_xretW (by kernel_rfl)

/-! linking.Of -/
noncomputable def d_linking_Of_2 (a3 : Int) (x132 : Int) (x134 : (List (Int × (List T_api_Balise)))) (x192 : T_api_Step) (x194 : T_api_Element) : (Int × (List T_api_Linked)) → Option ((Int × (List T_api_Linked)) ⊕ ((List T_api_Linked) ⊕ (((List T_api_Linked) × (List (Int × (List T_api_Balise)))) ⊕ ((Int × Int × (List (Int × (List T_api_Balise))) × (List T_api_Linked)) ⊕ ((List T_api_Linked) ⊕ (List T_api_Linked)))))) := fun (x230, x231) =>
  bif decide (x230 < ((((mget (x134 : (List (Int × (List T_api_Balise)))) x192.El).getD ([] : (List T_api_Balise))).length : Nat) : Int)) then (
    onInl (α := (List T_api_Linked)) (β := ((Int × (List T_api_Linked)) ⊕ ((List T_api_Linked) ⊕ (((List T_api_Linked) × (List (Int × (List T_api_Balise)))) ⊕ ((Int × Int × (List (Int × (List T_api_Balise))) × (List T_api_Linked)) ⊕ ((List T_api_Linked) ⊕ (List T_api_Linked))))))) (
      (ixO ((mget (x134 : (List (Int × (List T_api_Balise)))) x192.El).getD ([] : (List T_api_Balise))) x230).bind fun x244 =>
      onInl (α := Int) (β := ((List T_api_Linked) ⊕ ((Int × (List T_api_Linked)) ⊕ ((List T_api_Linked) ⊕ (((List T_api_Linked) × (List (Int × (List T_api_Balise)))) ⊕ ((Int × Int × (List (Int × (List T_api_Balise))) × (List T_api_Linked)) ⊕ ((List T_api_Linked) ⊕ (List T_api_Linked)))))))) (
        bif decide (x192.In = 1) then (
          some (.inl (w64 ((w64 (x132 + x194.Length)) - x244.Offset)))
        ) else (
          some (.inl (w64 (x132 + x244.Offset)))
        )
      ) fun x245 =>
      bif decide (x245 ≤ a3) then (
        (appO x231 [(T_api_Linked.mk x244.Id x245)]).bind fun x246 =>
        some (.inl x246)
      ) else (
        some (.inl x231)
      )
    ) fun x243 =>
    some (.inl (w64 (x230 + 1), x243))
  ) else (
    some (.inr (.inl x231))
  )

noncomputable def d_linking_Of_1 (a0 : T_api_Layout) (a1 : (List T_api_Step)) (a3 : Int) : (Int × Int × (List (Int × (List T_api_Balise))) × (List T_api_Linked)) → Option ((Int × Int × (List (Int × (List T_api_Balise))) × (List T_api_Linked)) ⊕ ((List T_api_Linked) ⊕ (List T_api_Linked))) := fun (x132, x133, x134, x135) =>
  bif decide (x133 < ((a1.length : Nat) : Int)) then (
    (ixO a1 x133).bind fun x192 =>
    ((bif decide (x192.El < 0) then some true else (
      some (decide (((a0.Elements.length : Nat) : Int) ≤ x192.El))
    )) : Option Bool).bind fun b193 =>
    bif b193 then (
      some (.inr (.inr ([] : (List T_api_Linked))))
    ) else (
      (ixO a0.Elements x192.El).bind fun x194 =>
      onInl (α := ((List T_api_Linked) × (List (Int × (List T_api_Balise))))) (β := ((Int × Int × (List (Int × (List T_api_Balise))) × (List T_api_Linked)) ⊕ ((List T_api_Linked) ⊕ (List T_api_Linked)))) (
        (d_linking_passed x194.Kind x192).bind fun r222 =>
        bif r222 then (
          onInl (α := (List T_api_Linked)) (β := (((List T_api_Linked) × (List (Int × (List T_api_Balise)))) ⊕ ((Int × Int × (List (Int × (List T_api_Balise))) × (List T_api_Linked)) ⊕ ((List T_api_Linked) ⊕ (List T_api_Linked))))) (loopO (d_linking_Of_2 a3 x132 x134 x192 x194) (0, x135)) fun x239 =>
          some (.inl (x239, (mdel x192.El x134)))
        ) else (
          some (.inl (x135, x134))
        )
      ) fun (x220, x221) =>
      some (.inl (w64 (x132 + x194.Length), w64 (x133 + 1), x221, x220))
    )
  ) else (
    some (.inr (.inl x135))
  )

noncomputable def d_linking_Of (a0 : T_api_Layout) (a1 : (List T_api_Step)) (a2 : Int) (a3 : Int) : Option (List T_api_Linked) :=
  (d_walk_Valid a0 a1).bind fun r1 =>
  bif (!r1) then (
    some ([] : (List T_api_Linked))
  ) else (
    (groupO (fun (x : T_api_Balise) => x.El) a0.Balises).bind fun m2 =>
    onInl (α := (List T_api_Linked)) (β := (List T_api_Linked)) (loopO (d_linking_Of_1 a0 a1 a3) (a2, 0, m2, ([] : (List T_api_Linked)))) fun x191 =>
    (d_slices_SortStableFunc_api_Linked__linking_Of_c1 x191).bind fun r247 =>
    some r247
  )
theorem d_linking_Of_ok (a0 : T_api_Layout) (a1 : (List T_api_Step)) (a2 : Int) (a3 : Int) (r : (List T_api_Linked)) (h : d_linking_Of a0 a1 a2 a3 = some r) : PCall Go.Proofs.Tryd.prog GlS 11 [Enc.pv a0, Enc.pv a1, Enc.pv a2, Enc.pv a3] (Enc.pv r) := by
  unfold d_linking_Of at h
  refine pcall_of_pwp Go.Proofs.Tryd.func11 (by rfl) rfl Go.Proofs.Tryd.ntmps11 (by rfl) rfl ?_
  refine pwp_seq (r_reg ?_)
  refine e_end (by kernel_rfl) ?_
  refine q_next (pwp_seq (pwp_seq (r_reg ?_)))
  refine p_run 2 (by kernel_rfl) ?_
  obtain ⟨r1, h1, h⟩ := o_bind h
  refine p_call (d_walk_Valid_ok _ _ r1 h1) (by kernel_rfl) (by kernel_rfl) ?_
  refine e_end (by kernel_rfl) ?_
  refine q_next ?_
  rcases o_cond h with ⟨hb, h⟩ | ⟨hb, h⟩
  · refine r_cond_t hb (by kernel_rfl) ?_
    refine pwp_seq (r_reg ?_)
    refine e_end (by kernel_rfl) ?_
    refine q_next (pwp_ret (q_seq_ret ?_))
    cases h
    exact q_ret (by kernel_rfl) (by kernel_rfl) (by kernel_rfl)
  refine r_cond_f hb (by kernel_rfl) ?_
  refine pwp_skip (q_next (pwp_seq (r_reg ?_)))
  refine e_end (by kernel_rfl) ?_
  refine q_next (pwp_seq (pwp_seq (r_reg ?_)))
  refine p_run 2 (by kernel_rfl) ?_
  refine p_len (L := (a0.Balises : (List T_api_Balise))) (by kernel_rfl) ?_
  refine e_end (by kernel_rfl) ?_
  refine q_next (pwp_block ?_)
  obtain ⟨m2, h2, h⟩ := o_bind h
  obtain ⟨em2, hz, hz2⟩ := groupO_some h2
  refine r_mloop (κ := Int) (ν := T_api_Balise) a0.Balises (fun (x : T_api_Balise) => x.El) 0 (fun (i : Nat) (m : List (Int × List T_api_Balise)) => moSt ⟨[(1, lstOf .frozen (a1 : (List T_api_Step))), (2, .int .i64 a2), (3, .int .i64 a3), (4, .ref 4 0), (9, .mp 24), (26, lstOf .frozen (a0.Balises : (List T_api_Balise))), (27, .int .i64 ((a0.Balises.length : Nat) : Int)), (28, .int .i64 ((i : Nat) : Int))], [(4, .cells (cellsOf a0))], [], []⟩ 116 24 (.mapo (esO m) (Enc.k T_api_Balise) (Enc.b T_api_Balise) dynTk) (dynF m)) (fun (m : List (Int × List T_api_Balise)) => ((⟨[(1, lstOf .frozen (a1 : (List T_api_Step))), (2, .int .i64 a2), (3, .int .i64 a3), (4, .ref 4 0), (9, .mp 24)], (24, .map (mpOf m)) :: [(4, .cells (cellsOf a0))], [], []⟩ : JS).st 116)) ?_ ?_ ?_ ?_
  · exact wkr_mo0 24 (by kernel_rfl) (by kernel_rfl) (by decide) (by kernel_rfl)
  · intro i x hx
    have hi := lt_of_get hx
    refine pwp_seq (r_reg ?_)
    refine e_end (by kernel_rfl) ?_
    refine q_next (pwp_seq ?_)
    refine r_cond_t (b := decide (((i : Nat) : Int) < ((a0.Balises.length : Nat) : Int))) (decide_eq_true (by omega)) (by kernel_rfl) ?_
    refine pwp_skip (q_next (pwp_seq (pwp_block (pwp_seq (r_reg ?_)))))
    refine p_ix (ixO_nat hx) (by kernel_rfl) ?_
    refine e_end (by kernel_rfl) ?_
    refine q_next (r_regd (by kernel_rfl) (by kernel_rfl) ?_)
    refine p_run 6 (by kernel_rfl) ?_
    refine p_lkO (m := (grp (fun (x : T_api_Balise) => x.El) (a0.Balises.take i))) (k := x.El) (tk := dynTk) 24 (by kernel_rfl) (by kernel_rfl) ?_
    cases hf : mfind x.El (grp (fun (x : T_api_Balise) => x.El) (a0.Balises.take i)) with
    | none =>
      refine p_run 2 (by kernel_rfl) ?_
      refine p_appn (α := T_api_Balise) (tk := 41) (L := ([] : List T_api_Balise)) (ys := [x]) (M := [x]) (app_one (n := a0.Balises.length) (by simp; omega) hz) (by kernel_rfl) ?_
      refine p_updO (m := (grp (fun (x : T_api_Balise) => x.El) (a0.Balises.take i))) (k := x.El) (M := [x]) (tk := dynTk) 41 24 (by kernel_rfl) (by kernel_rfl) ?_
      refine e_nil (by kernel_rfl) ?_
      refine q_block (q_next (pwp_wkr (wkr_moN (j := ⟨[(1, lstOf .frozen (a1 : (List T_api_Step))), (2, .int .i64 a2), (3, .int .i64 a3), (4, .ref 4 0), (9, .mp 24), (26, lstOf .frozen (a0.Balises : (List T_api_Balise))), (27, .int .i64 ((a0.Balises.length : Nat) : Int)), (28, .int .i64 ((i : Nat) : Int))], [(4, .cells (cellsOf a0))], [], []⟩) (n := 116) 24 41 (fk := (fun (x : T_api_Balise) => x.El)) (x := x) (m := (grp (fun (x : T_api_Balise) => x.El) (a0.Balises.take i))) (by decide) hf (by kernel_rfl) (by kernel_rfl) (by have h1 := grp_length (fun (x : T_api_Balise) => x.El) (a0.Balises.take i); simp only [List.length_take] at h1; omega) (by kernel_rfl) (by kernel_rfl)) ?_))
      refine r_reg ?_
      refine e_end (by kernel_rfl) ?_
      refine ⟨rfl, ?_⟩
      have hw : ((i + 1 : Nat) : Int) = w64 ((i : Int) + 1) := (w64n (by omega)).symm
      show Wkr _ (moSt ⟨[(1, lstOf .frozen (a1 : (List T_api_Step))), (2, .int .i64 a2), (3, .int .i64 a3), (4, .ref 4 0), (9, .mp 24), (26, lstOf .frozen (a0.Balises : (List T_api_Balise))), (27, .int .i64 ((a0.Balises.length : Nat) : Int)), (28, .int .i64 ((i + 1 : Nat) : Int))], [(4, .cells (cellsOf a0))], [], []⟩ 116 24 (.mapo (esO (gput (fun (x : T_api_Balise) => x.El) x (grp (fun (x : T_api_Balise) => x.El) (a0.Balises.take i)))) (Enc.k T_api_Balise) (Enc.b T_api_Balise) dynTk) (dynF (gput (fun (x : T_api_Balise) => x.El) x (grp (fun (x : T_api_Balise) => x.El) (a0.Balises.take i)))))
      rw [hw]
      exact wkr_moK 24 (by kernel_rfl) (by kernel_rfl) (by kernel_rfl) (by kernel_rfl)
    | some y =>
      obtain ⟨q, M⟩ := y
      refine p_run 2 (by kernel_rfl) ?_
      refine p_appT (α := T_api_Balise) (tk := dynTk q) (L := M) (ys := [x]) (M := M ++ [x]) (T := dynF (grp (fun (x : T_api_Balise) => x.El) (a0.Balises.take i))) (app_one (grp_find_len hx hf) hz) (by kernel_rfl) (dynF_find hf) (by kernel_rfl) ?_
      refine p_updO (m := (grp (fun (x : T_api_Balise) => x.El) (a0.Balises.take i))) (k := x.El) (M := M ++ [x]) (tk := dynTk) (dynTk q) 24 (by kernel_rfl) (by kernel_rfl) ?_
      refine e_nil (by kernel_rfl) ?_
      refine q_block (q_next (pwp_wkr (wkr_moS (j := ⟨[(1, lstOf .frozen (a1 : (List T_api_Step))), (2, .int .i64 a2), (3, .int .i64 a3), (4, .ref 4 0), (9, .mp 24), (26, lstOf .frozen (a0.Balises : (List T_api_Balise))), (27, .int .i64 ((a0.Balises.length : Nat) : Int)), (28, .int .i64 ((i : Nat) : Int))], [(4, .cells (cellsOf a0))], [], []⟩) (n := 116) 24 (fk := (fun (x : T_api_Balise) => x.El)) (x := x) (m := (grp (fun (x : T_api_Balise) => x.El) (a0.Balises.take i))) hf (by kernel_rfl) (by kernel_rfl) (by kernel_rfl) (by kernel_rfl)) ?_))
      refine r_reg ?_
      refine e_end (by kernel_rfl) ?_
      refine ⟨rfl, ?_⟩
      have hw : ((i + 1 : Nat) : Int) = w64 ((i : Int) + 1) := (w64n (by omega)).symm
      show Wkr _ (moSt ⟨[(1, lstOf .frozen (a1 : (List T_api_Step))), (2, .int .i64 a2), (3, .int .i64 a3), (4, .ref 4 0), (9, .mp 24), (26, lstOf .frozen (a0.Balises : (List T_api_Balise))), (27, .int .i64 ((a0.Balises.length : Nat) : Int)), (28, .int .i64 ((i + 1 : Nat) : Int))], [(4, .cells (cellsOf a0))], [], []⟩ 116 24 (.mapo (esO (gput (fun (x : T_api_Balise) => x.El) x (grp (fun (x : T_api_Balise) => x.El) (a0.Balises.take i)))) (Enc.k T_api_Balise) (Enc.b T_api_Balise) dynTk) (dynF (gput (fun (x : T_api_Balise) => x.El) x (grp (fun (x : T_api_Balise) => x.El) (a0.Balises.take i)))))
      rw [hw]
      exact wkr_moK 24 (by kernel_rfl) (by kernel_rfl) (by kernel_rfl) (by kernel_rfl)
  · intro m
    refine pwp_seq (r_reg ?_)
    refine e_end (by kernel_rfl) ?_
    refine q_next (pwp_seq ?_)
    refine r_cond_f (b := decide (((a0.Balises.length : Nat) : Int) < ((a0.Balises.length : Nat) : Int))) (decide_eq_false (by omega)) (by kernel_rfl) ?_
    refine pwp_exit (q_seq_exit ?_)
    exact ⟨rfl, wkr_moF (j := ⟨[(1, lstOf .frozen (a1 : (List T_api_Step))), (2, .int .i64 a2), (3, .int .i64 a3), (4, .ref 4 0), (9, .mp 24)], [(4, .cells (cellsOf a0))], [], []⟩) (m := m) (tk := dynTk) 24 (by kernel_rfl) (by kernel_rfl) (by kernel_rfl)⟩
  intro s' hs
  rw [← em2] at hs
  refine q_block_hit ?_
  refine q_next (pwp_wkr hs ?_)
  refine pwp_seq (r_reg ?_)
  refine e_end (by kernel_rfl) ?_
  refine q_next (pwp_seq (r_reg ?_))
  refine e_end (by kernel_rfl) ?_
  refine q_next (pwp_seq (pwp_seq (r_reg ?_)))
  refine p_run 1 (by kernel_rfl) ?_
  refine p_len (L := (a1 : (List T_api_Step))) (by kernel_rfl) ?_
  refine e_end (by kernel_rfl) ?_
  refine q_next (pwp_block ?_)
  refine pwp_wkr (wkr_nilX 12 100012 2 16 (by kernel_rfl) (by kernel_rfl)) ?_
  obtain ⟨o177, h177, h⟩ := o_inl h
  refine r_loop2 116 2 (fun (x132, x133, x134, x135) => ⟨[(3, .int .i64 a3), (4, .ref 4 0), (9, .mp 24), (12, .ex 100012 2 16 (((x135 : (List T_api_Linked)).map cellsOf).length) 0 (((x135 : (List T_api_Linked)).map cellsOf).length)), (13, .int .i64 x132), (44, lstOf .frozen (a1 : (List T_api_Step))), (45, .int .i64 ((a1.length : Nat) : Int)), (46, .int .i64 x133)], [(4, .cells (cellsOf a0)), (24, .map (mpOf (x134 : (List (Int × (List T_api_Balise))))))], [(100012, (((x135 : (List T_api_Linked)).map cellsOf).length, 0))], [(100012, (2, (16, (x135 : (List T_api_Linked)).map cellsOf)))]⟩) (fun x191 => ⟨[(12, .ex 100012 2 16 (((x191 : (List T_api_Linked)).map cellsOf).length) 0 (((x191 : (List T_api_Linked)).map cellsOf).length))], [], [(100012, (((x191 : (List T_api_Linked)).map cellsOf).length, 0))], [(100012, (2, (16, (x191 : (List T_api_Linked)).map cellsOf)))]⟩) h177 (by kernel_rfl) (fun _ => by kernel_rfl) ?_ ?_
  · rintro ⟨x132, x133, x134, x135⟩ oh176 h176
    unfold d_linking_Of_1 at h176
    refine pwp_seq (r_reg ?_)
    refine e_end (by kernel_rfl) ?_
    refine q_next (pwp_seq ?_)
    rcases o_cond h176 with ⟨hb, h176⟩ | ⟨hb, h176⟩
    · refine r_cond_t hb (by kernel_rfl) ?_
      refine pwp_skip (q_next (pwp_seq (pwp_block (pwp_seq (r_reg ?_)))))
      obtain ⟨x192, h178, h176⟩ := o_bind h176
      refine p_ix h178 (by kernel_rfl) ?_
      refine e_end (by kernel_rfl) ?_
      refine q_next (pwp_seq (pwp_seq (r_reg ?_)))
      obtain ⟨b193, h179, h176⟩ := o_bind h176
      refine p_run 4 (by kernel_rfl) ?_
      refine e_seg 7 60 (.bool b193) ?_ ?_
      · rcases o_cond h179 with ⟨hb, h179⟩ | ⟨hb, h179⟩
        · refine p_settle 53 hb (by kernel_rfl) (by kernel_rfl) ?_
          cases h179
          exact f_end (by kernel_rfl) (by kernel_rfl)
        refine p_settle 53 hb (by kernel_rfl) (by kernel_rfl) ?_
        refine p_run 4 (by kernel_rfl) ?_
        refine p_len (L := (a0.Elements : (List T_api_Element))) (by kernel_rfl) ?_
        cases h179
        exact f_end (by kernel_rfl) (by kernel_rfl)
      refine e_nil (by kernel_rfl) ?_
      refine q_next ?_
      rcases o_cond h176 with ⟨hb, h176⟩ | ⟨hb, h176⟩
      · refine r_cond_t hb (by kernel_rfl) ?_
        refine pwp_seq (r_reg ?_)
        refine e_end (by kernel_rfl) ?_
        refine q_next (pwp_ret (q_seq_ret (q_block_ret (q_seq_ret ?_))))
        cases h176
        refine q_lout_ret fun he => ?_
        subst he
        have h180 := o_outr h
        refine q_block_ret (q_seq_ret ?_)
        cases h180
        exact q_ret (by kernel_rfl) (by kernel_rfl) (by kernel_rfl)
      refine r_cond_f hb (by kernel_rfl) ?_
      refine pwp_skip (q_next (pwp_seq (r_reg ?_)))
      refine p_run 4 (by kernel_rfl) ?_
      obtain ⟨x194, h181, h176⟩ := o_bind h176
      refine p_ix h181 (by kernel_rfl) ?_
      refine e_end (by kernel_rfl) ?_
      refine q_next ?_
      obtain ⟨o206, h206, h176⟩ := o_inl h176
      refine r_join (o := o206) 116 (fun (x220, x221) => ⟨[(3, .int .i64 a3), (4, .ref 4 0), (9, .mp 24), (12, .ex 100012 2 16 (((x220 : (List T_api_Linked)).map cellsOf).length) 0 (((x220 : (List T_api_Linked)).map cellsOf).length)), (13, .int .i64 x132), (16, .ref 16 0), (44, lstOf .frozen (a1 : (List T_api_Step))), (45, .int .i64 ((a1.length : Nat) : Int)), (46, .int .i64 x133)], [(4, .cells (cellsOf a0)), (16, .cells (cellsOf x194)), (24, .map (mpOf (x221 : (List (Int × (List T_api_Balise))))))], [(100012, (((x220 : (List T_api_Linked)).map cellsOf).length, 0))], [(100012, (2, (16, (x220 : (List T_api_Linked)).map cellsOf)))]⟩) ?_ ?_
      · refine pwp_seq (r_reg ?_)
        refine p_run 3 (by kernel_rfl) ?_
        obtain ⟨r222, h207, h206⟩ := o_bind h206
        refine p_call (d_linking_passed_ok _ _ r222 h207) (by kernel_rfl) (by kernel_rfl) ?_
        refine e_nil (by kernel_rfl) ?_
        refine q_next ?_
        rcases o_cond h206 with ⟨hb, h206⟩ | ⟨hb, h206⟩
        · refine r_cond_t hb (by kernel_rfl) ?_
          refine pwp_seq (pwp_seq (r_reg ?_))
          refine p_run 3 (by kernel_rfl) ?_
          refine p_lookup (m := (x134 : (List (Int × (List T_api_Balise))))) (k := x192.El) ([] : (List T_api_Balise)) 24 (by kernel_rfl) (by kernel_rfl) ?_
          refine p_len (L := (((mget (x134 : (List (Int × (List T_api_Balise)))) x192.El).getD ([] : (List T_api_Balise))) : (List T_api_Balise))) (by kernel_rfl) ?_
          refine e_end (by kernel_rfl) ?_
          refine q_next (pwp_block ?_)
          obtain ⟨o223, h223, h206⟩ := o_inl h206
          refine r_loop2 116 4 (fun (x230, x231) => ⟨[(3, .int .i64 a3), (4, .ref 4 0), (9, .mp 24), (12, .ex 100012 2 16 (((x231 : (List T_api_Linked)).map cellsOf).length) 0 (((x231 : (List T_api_Linked)).map cellsOf).length)), (13, .int .i64 x132), (15, .ref 15 0), (16, .ref 16 0), (44, lstOf .frozen (a1 : (List T_api_Step))), (45, .int .i64 ((a1.length : Nat) : Int)), (46, .int .i64 x133), (74, lstOf .frozen (((mget (x134 : (List (Int × (List T_api_Balise)))) x192.El).getD ([] : (List T_api_Balise))) : (List T_api_Balise))), (75, .int .i64 ((((mget (x134 : (List (Int × (List T_api_Balise)))) x192.El).getD ([] : (List T_api_Balise))).length : Nat) : Int)), (76, .int .i64 x230)], [(4, .cells (cellsOf a0)), (15, .cells (cellsOf x192)), (16, .cells (cellsOf x194)), (24, .map (mpOf (x134 : (List (Int × (List T_api_Balise))))))], [(100012, (((x231 : (List T_api_Linked)).map cellsOf).length, 0))], [(100012, (2, (16, (x231 : (List T_api_Linked)).map cellsOf)))]⟩) (fun x239 => ⟨[(3, .int .i64 a3), (4, .ref 4 0), (9, .mp 24), (12, .ex 100012 2 16 (((x239 : (List T_api_Linked)).map cellsOf).length) 0 (((x239 : (List T_api_Linked)).map cellsOf).length)), (13, .int .i64 x132), (15, .ref 15 0), (16, .ref 16 0), (44, lstOf .frozen (a1 : (List T_api_Step))), (45, .int .i64 ((a1.length : Nat) : Int)), (46, .int .i64 x133)], [(4, .cells (cellsOf a0)), (15, .cells (cellsOf x192)), (16, .cells (cellsOf x194)), (24, .map (mpOf (x134 : (List (Int × (List T_api_Balise))))))], [(100012, (((x239 : (List T_api_Linked)).map cellsOf).length, 0))], [(100012, (2, (16, (x239 : (List T_api_Linked)).map cellsOf)))]⟩) h223 (by kernel_rfl) (fun _ => by kernel_rfl) ?_ ?_
          · rintro ⟨x230, x231⟩ oh222 h222
            unfold d_linking_Of_2 at h222
            refine pwp_seq (r_reg ?_)
            refine e_end (by kernel_rfl) ?_
            refine q_next (pwp_seq ?_)
            rcases o_cond h222 with ⟨hb, h222⟩ | ⟨hb, h222⟩
            · refine r_cond_t hb (by kernel_rfl) ?_
              refine pwp_skip (q_next ?_)
              obtain ⟨o227, h227, h222⟩ := o_inl h222
              refine r_join (o := o227) 116 (fun x243 => ⟨[(3, .int .i64 a3), (4, .ref 4 0), (9, .mp 24), (12, .ex 100012 2 16 (((x243 : (List T_api_Linked)).map cellsOf).length) 0 (((x243 : (List T_api_Linked)).map cellsOf).length)), (13, .int .i64 x132), (15, .ref 15 0), (16, .ref 16 0), (44, lstOf .frozen (a1 : (List T_api_Step))), (45, .int .i64 ((a1.length : Nat) : Int)), (46, .int .i64 x133), (74, lstOf .frozen (((mget (x134 : (List (Int × (List T_api_Balise)))) x192.El).getD ([] : (List T_api_Balise))) : (List T_api_Balise))), (75, .int .i64 ((((mget (x134 : (List (Int × (List T_api_Balise)))) x192.El).getD ([] : (List T_api_Balise))).length : Nat) : Int)), (76, .int .i64 x230)], [(4, .cells (cellsOf a0)), (15, .cells (cellsOf x192)), (16, .cells (cellsOf x194)), (24, .map (mpOf (x134 : (List (Int × (List T_api_Balise))))))], [(100012, (((x243 : (List T_api_Linked)).map cellsOf).length, 0))], [(100012, (2, (16, (x243 : (List T_api_Linked)).map cellsOf)))]⟩) ?_ ?_
              · refine pwp_block (pwp_seq (r_reg ?_))
                obtain ⟨x244, h228, h227⟩ := o_bind h227
                refine p_ix h228 (by kernel_rfl) ?_
                refine e_end (by kernel_rfl) ?_
                refine q_next (pwp_seq (r_reg ?_))
                refine e_end (by kernel_rfl) ?_
                refine q_next ?_
                obtain ⟨o229, h229, h227⟩ := o_inl h227
                refine r_join (o := o229) 116 (fun x245 => ⟨[(3, .int .i64 a3), (4, .ref 4 0), (9, .mp 24), (12, .ex 100012 2 16 (((x231 : (List T_api_Linked)).map cellsOf).length) 0 (((x231 : (List T_api_Linked)).map cellsOf).length)), (13, .int .i64 x132), (15, .ref 15 0), (16, .ref 16 0), (18, .ref 18 0), (19, .int .i64 x245), (44, lstOf .frozen (a1 : (List T_api_Step))), (45, .int .i64 ((a1.length : Nat) : Int)), (46, .int .i64 x133), (74, lstOf .frozen (((mget (x134 : (List (Int × (List T_api_Balise)))) x192.El).getD ([] : (List T_api_Balise))) : (List T_api_Balise))), (75, .int .i64 ((((mget (x134 : (List (Int × (List T_api_Balise)))) x192.El).getD ([] : (List T_api_Balise))).length : Nat) : Int)), (76, .int .i64 x230)], [(4, .cells (cellsOf a0)), (15, .cells (cellsOf x192)), (16, .cells (cellsOf x194)), (18, .cells (cellsOf x244)), (24, .map (mpOf (x134 : (List (Int × (List T_api_Balise))))))], [(100012, (((x231 : (List T_api_Linked)).map cellsOf).length, 0))], [(100012, (2, (16, (x231 : (List T_api_Linked)).map cellsOf)))]⟩) ?_ ?_
                · refine pwp_seq (r_reg ?_)
                  refine e_end (by kernel_rfl) ?_
                  refine q_next ?_
                  rcases o_cond h229 with ⟨hb, h229⟩ | ⟨hb, h229⟩
                  · refine r_cond_t hb (by kernel_rfl) ?_
                    refine r_reg ?_
                    refine e_end (by kernel_rfl) ?_
                    cases h229
                    exact q_join (by kernel_rfl) (by kernel_rfl)
                  refine r_cond_f hb (by kernel_rfl) ?_
                  refine pwp_skip ?_
                  cases h229
                  exact q_join (by kernel_rfl) (by kernel_rfl)
                rintro x245 rfl
                have h227 := o_outl h227
                refine pwp_seq (r_reg ?_)
                refine e_end (by kernel_rfl) ?_
                refine q_next ?_
                rcases o_cond h227 with ⟨hb, h227⟩ | ⟨hb, h227⟩
                · refine r_cond_t hb (by kernel_rfl) ?_
                  refine r_reg ?_
                  refine p_run 6 (by kernel_rfl) ?_
                  obtain ⟨x246, h230, h227⟩ := o_bind h227
                  refine p_xapp (tk := 100012) (N := ((x231 : (List T_api_Linked)).map cellsOf).length) h230 (by kernel_rfl) (by kernel_rfl) (by kernel_rfl) ?_
                  refine e_end (by kernel_rfl) ?_
                  refine q_block ?_
                  cases h227
                  exact q_join (by kernel_rfl) (by kernel_rfl)
                refine r_cond_f hb (by kernel_rfl) ?_
                refine pwp_skip (q_block ?_)
                cases h227
                exact q_join (by kernel_rfl) (by kernel_rfl)
              rintro x243 rfl
              have h222 := o_outl h222
              refine r_reg ?_
              refine e_end (by kernel_rfl) ?_
              cases h222
              exact q_lback (by kernel_rfl)
            refine r_cond_f hb (by kernel_rfl) ?_
            refine pwp_exit (q_seq_exit ?_)
            cases h222
            exact q_lexit (by kernel_rfl) (by kernel_rfl)
          rintro x239 s' rfl hs
          have h206 := o_outl h206
          refine q_block_hit ?_
          refine q_next (pwp_wkr hs ?_)
          refine r_reg ?_
          refine p_run 3 (by kernel_rfl) ?_
          refine p_mdel (m := (x134 : (List (Int × (List T_api_Balise))))) (k := x192.El) 24 (by kernel_rfl) (by kernel_rfl) ?_
          refine e_nil (by kernel_rfl) ?_
          cases h206
          exact q_join (by kernel_rfl) (by kernel_rfl)
        refine r_cond_f hb (by kernel_rfl) ?_
        refine pwp_skip ?_
        cases h206
        exact q_join (by kernel_rfl) (by kernel_rfl)
      rintro ⟨x220, x221⟩ rfl
      have h176 := o_outl h176
      refine r_reg ?_
      refine e_end (by kernel_rfl) ?_
      refine q_block (q_next (r_reg ?_))
      refine e_end (by kernel_rfl) ?_
      cases h176
      exact q_lback (by kernel_rfl)
    refine r_cond_f hb (by kernel_rfl) ?_
    refine pwp_exit (q_seq_exit ?_)
    cases h176
    exact q_lexit (by kernel_rfl) (by kernel_rfl)
  rintro x191 s' rfl hs
  have h := o_outl h
  refine q_block_hit ?_
  refine q_next (pwp_wkr hs ?_)
  refine pwp_seq (r_reg ?_)
  refine p_run 1 (by kernel_rfl) ?_
  obtain ⟨r247, h231, h⟩ := o_bind h
  refine p_xcall (t := 100012) (L := (x191 : (List T_api_Linked))) (L' := (r247 : (List T_api_Linked))) (N := ((x191 : (List T_api_Linked)).map cellsOf).length) (by kernel_rfl) (by kernel_rfl) (by kernel_rfl) (d_slices_SortStableFunc_api_Linked__linking_Of_c1_xc _ r247 h231) ?_
  refine e_nil (by kernel_rfl) ?_
  refine q_next (pwp_seq (r_reg ?_))
  refine e_end (by kernel_rfl) ?_
  refine q_next ?_
  refine pwp_wkr (wkr_share (xss := (r247 : (List T_api_Linked)).map cellsOf) 100012 2 16 (((x191 : (List T_api_Linked)).map cellsOf).length) [8, 12, 113, 115] [] (by kernel_rfl) (by kernel_rfl) (by kernel_rfl) (by kernel_rfl)) ?_
  refine pwp_ret ?_
  cases h
  exact q_ret (by kernel_rfl) (by kernel_rfl) (by kernel_rfl)

/-! num.Clamp -/
noncomputable def d_num_Clamp (a0 : Int) (a1 : Int) (a2 : Int) : Option Int :=
  some (max a1 (min a0 a2))
theorem d_num_Clamp_ok (a0 : Int) (a1 : Int) (a2 : Int) (r : Int) (h : d_num_Clamp a0 a1 a2 = some r) : PCall Go.Proofs.Tryd.prog GlS 33 [Enc.pv a0, Enc.pv a1, Enc.pv a2] (Enc.pv r) := by
  unfold d_num_Clamp at h
  refine pcall_of_pwp Go.Proofs.Tryd.func33 (by rfl) rfl Go.Proofs.Tryd.ntmps33 (by rfl) rfl ?_
  refine pwp_seq (r_reg ?_)
  refine e_end (by kernel_rfl) ?_
  refine q_next (pwp_seq (r_reg ?_))
  refine e_end (by kernel_rfl) ?_
  refine q_next (pwp_ret ?_)
  cases h
  exact q_ret (by kernel_rfl) (by kernel_rfl) (by kernel_rfl)

/-! linking.find -/
noncomputable def d_linking_find_0 (a0 : (List T_api_Linked)) (a2 : Int) : Int → Option (Int ⊕ (Unit ⊕ Int)) := fun x2 =>
  bif decide (x2 < ((a0.length : Nat) : Int)) then (
    (ixO a0 x2).bind fun x4 =>
    bif decide (x4.Id = a2) then (
      some (.inr (.inr x2))
    ) else (
      some (.inl (w64 (x2 + 1)))
    )
  ) else (
    some (.inr (.inl ()))
  )

noncomputable def d_linking_find (a0 : (List T_api_Linked)) (a1 : Int) (a2 : Int) : Option Int :=
  onInl (α := Unit) (β := Int) (loopO (d_linking_find_0 a0 a2) a1) fun _ =>
  some (-1)
theorem d_linking_find_ok (a0 : (List T_api_Linked)) (a1 : Int) (a2 : Int) (r : Int) (h : d_linking_find a0 a1 a2 = some r) : PCall Go.Proofs.Tryd.prog GlS 32 [Enc.pv a0, Enc.pv a1, Enc.pv a2] (Enc.pv r) := by
  unfold d_linking_find at h
  refine pcall_of_pwp Go.Proofs.Tryd.func32 (by rfl) rfl Go.Proofs.Tryd.ntmps32 (by rfl) rfl ?_
  refine pwp_seq (r_reg ?_)
  refine e_end (by kernel_rfl) ?_
  refine q_next (pwp_seq (pwp_seq (r_reg ?_)))
  refine e_end (by kernel_rfl) ?_
  refine q_next (pwp_block ?_)
  obtain ⟨o6, h6, h⟩ := o_inl h
  refine r_loop2 23 0 (fun x2 => ⟨[(0, lstOf .frozen (a0 : (List T_api_Linked))), (2, .int .i64 a2), (7, .int .i64 x2)], [], [], []⟩) (fun (_ : Unit) => ⟨[], [], [], []⟩) h6 (by kernel_rfl) (fun _ => by kernel_rfl) ?_ ?_
  · rintro x2 oh5 h5
    unfold d_linking_find_0 at h5
    refine pwp_seq (pwp_seq (r_reg ?_))
    refine p_run 2 (by kernel_rfl) ?_
    refine p_len (L := (a0 : (List T_api_Linked))) (by kernel_rfl) ?_
    refine e_end (by kernel_rfl) ?_
    refine q_next ?_
    rcases o_cond h5 with ⟨hb, h5⟩ | ⟨hb, h5⟩
    · refine r_cond_t hb (by kernel_rfl) ?_
      refine pwp_skip (q_next (pwp_seq (pwp_block (pwp_seq (r_reg ?_)))))
      refine p_run 2 (by kernel_rfl) ?_
      obtain ⟨x4, h7, h5⟩ := o_bind h5
      refine p_ix h7 (by kernel_rfl) ?_
      refine e_end (by kernel_rfl) ?_
      refine q_next ?_
      rcases o_cond h5 with ⟨hb, h5⟩ | ⟨hb, h5⟩
      · refine r_cond_t hb (by kernel_rfl) ?_
        refine pwp_seq (r_reg ?_)
        refine e_end (by kernel_rfl) ?_
        refine q_next (pwp_ret (q_block_ret (q_seq_ret ?_)))
        cases h5
        refine q_lout_ret fun he => ?_
        subst he
        have h8 := o_outr h
        refine q_block_ret (q_seq_ret ?_)
        cases h8
        exact q_ret (by kernel_rfl) (by kernel_rfl) (by kernel_rfl)
      refine r_cond_f hb (by kernel_rfl) ?_
      refine pwp_skip (q_block (q_next (r_reg ?_)))
      refine e_end (by kernel_rfl) ?_
      cases h5
      exact q_lback (by kernel_rfl)
    refine r_cond_f hb (by kernel_rfl) ?_
    refine pwp_exit (q_seq_exit ?_)
    cases h5
    exact q_lexit (by kernel_rfl) (by kernel_rfl)
  rintro _ s' rfl hs
  have h := o_outl h
  refine q_block_hit ?_
  refine q_next (pwp_wkr hs ?_)
  refine pwp_seq (r_reg ?_)
  refine e_end (by kernel_rfl) ?_
  refine q_next (pwp_ret ?_)
  cases h
  exact q_ret (by kernel_rfl) (by kernel_rfl) (by kernel_rfl)

/-! linking.Read -/
noncomputable def d_linking_Read (a0 : (List T_api_Linked)) (a1 : Int) (a2 : Int) : Option (Int × Int) :=
  (d_num_Clamp a1 0 ((a0.length : Nat) : Int)).bind fun r1 =>
  (d_linking_find a0 r1 a2).bind fun r2 =>
  bif decide (r2 < 0) then (
    some (r1, 0)
  ) else (
    bif decide (r2 = r1) then (
      some (w64 (r2 + 1), 1)
    ) else (
      some (w64 (r2 + 1), 2)
    )
  )
theorem d_linking_Read_ok (a0 : (List T_api_Linked)) (a1 : Int) (a2 : Int) (r : (Int × Int)) (h : d_linking_Read a0 a1 a2 = some r) : PCall Go.Proofs.Tryd.prog GlS 17 [Enc.pv a0, Enc.pv a1, Enc.pv a2] (.tup [Enc.pv r.1, Enc.pv r.2]) := by
  unfold d_linking_Read at h
  refine pcall_of_pwp Go.Proofs.Tryd.func17 (by rfl) rfl Go.Proofs.Tryd.ntmps17 (by rfl) rfl ?_
  refine pwp_seq (r_reg ?_)
  refine e_end (by kernel_rfl) ?_
  refine q_next (pwp_seq (r_reg ?_))
  refine p_run 2 (by kernel_rfl) ?_
  refine p_len (L := (a0 : (List T_api_Linked))) (by kernel_rfl) ?_
  obtain ⟨r1, h1, h⟩ := o_bind h
  refine p_call (d_num_Clamp_ok _ _ _ r1 h1) (by kernel_rfl) (by kernel_rfl) ?_
  refine e_end (by kernel_rfl) ?_
  refine q_next (pwp_seq (r_reg ?_))
  refine p_run 3 (by kernel_rfl) ?_
  obtain ⟨r2, h2, h⟩ := o_bind h
  refine p_call (d_linking_find_ok _ _ _ r2 h2) (by kernel_rfl) (by kernel_rfl) ?_
  refine e_end (by kernel_rfl) ?_
  refine q_next (pwp_seq (pwp_block (pwp_seq (r_reg ?_))))
  refine e_end (by kernel_rfl) ?_
  refine q_next ?_
  rcases o_cond h with ⟨hb, h⟩ | ⟨hb, h⟩
  · refine r_cond_t hb (by kernel_rfl) ?_
    refine pwp_seq (r_reg ?_)
    refine e_end (by kernel_rfl) ?_
    refine q_next (pwp_ret (q_block_ret (q_seq_ret ?_)))
    cases h
    exact q_ret (by kernel_rfl) (by kernel_rfl) (by kernel_rfl)
  refine r_cond_f hb (by kernel_rfl) ?_
  refine pwp_seq (r_reg ?_)
  refine e_end (by kernel_rfl) ?_
  refine q_next ?_
  rcases o_cond h with ⟨hb, h⟩ | ⟨hb, h⟩
  · refine r_cond_t hb (by kernel_rfl) ?_
    refine pwp_seq (r_reg ?_)
    refine e_end (by kernel_rfl) ?_
    refine q_next (pwp_ret (q_block_ret (q_seq_ret ?_)))
    cases h
    exact q_ret (by kernel_rfl) (by kernel_rfl) (by kernel_rfl)
  refine r_cond_f hb (by kernel_rfl) ?_
  refine pwp_skip (q_block (q_next (pwp_seq (r_reg ?_))))
  refine e_end (by kernel_rfl) ?_
  refine q_next (pwp_ret ?_)
  cases h
  exact q_ret (by kernel_rfl) (by kernel_rfl) (by kernel_rfl)

/-! signallingref32.Same -/
noncomputable def d_ref32_Same_0 (a0 : (List T_api_Linked)) (a1 : (List T_api_Linked)) : Int → Option (Int ⊕ (Unit ⊕ Bool)) := fun x3 =>
  bif decide (x3 < ((a0.length : Nat) : Int)) then (
    (ixO a0 x3).bind fun x6 =>
    (ixO a1 x3).bind fun x7 =>
    bif (!(eq_T_api_Linked x6 x7)) then (
      some (.inr (.inr false))
    ) else (
      some (.inl (w64 (x3 + 1)))
    )
  ) else (
    some (.inr (.inl ()))
  )

noncomputable def d_ref32_Same (a0 : (List T_api_Linked)) (a1 : (List T_api_Linked)) : Option Bool :=
  bif (!(decide (((a0.length : Nat) : Int) = ((a1.length : Nat) : Int)))) then (
    some false
  ) else (
    onInl (α := Unit) (β := Bool) (loopO (d_ref32_Same_0 a0 a1) 0) fun _ =>
    some true
  )
theorem d_ref32_Same_ok (a0 : (List T_api_Linked)) (a1 : (List T_api_Linked)) (r : Bool) (h : d_ref32_Same a0 a1 = some r) : PCall Go.Proofs.Tryd.prog GlS 10 [Enc.pv a0, Enc.pv a1] (Enc.pv r) := by
  unfold d_ref32_Same at h
  refine pcall_of_pwp Go.Proofs.Tryd.func10 (by rfl) rfl Go.Proofs.Tryd.ntmps10 (by rfl) rfl ?_
  refine pwp_seq (r_reg ?_)
  refine e_end (by kernel_rfl) ?_
  refine q_next (pwp_seq (pwp_seq (r_reg ?_)))
  refine p_run 1 (by kernel_rfl) ?_
  refine p_len (L := (a0 : (List T_api_Linked))) (by kernel_rfl) ?_
  refine p_run 1 (by kernel_rfl) ?_
  refine p_len (L := (a1 : (List T_api_Linked))) (by kernel_rfl) ?_
  refine e_end (by kernel_rfl) ?_
  refine q_next ?_
  rcases o_cond h with ⟨hb, h⟩ | ⟨hb, h⟩
  · refine r_cond_t hb (by kernel_rfl) ?_
    refine pwp_seq (r_reg ?_)
    refine e_end (by kernel_rfl) ?_
    refine q_next (pwp_ret (q_seq_ret ?_))
    cases h
    exact q_ret (by kernel_rfl) (by kernel_rfl) (by kernel_rfl)
  refine r_cond_f hb (by kernel_rfl) ?_
  refine pwp_skip (q_next (pwp_seq (pwp_seq (r_reg ?_))))
  refine e_end (by kernel_rfl) ?_
  refine q_next (pwp_block ?_)
  obtain ⟨o8, h8, h⟩ := o_inl h
  refine r_loop2 26 0 (fun x3 => ⟨[(0, lstOf .frozen (a0 : (List T_api_Linked))), (1, lstOf .frozen (a1 : (List T_api_Linked))), (5, .int .i64 x3)], [], [], []⟩) (fun (_ : Unit) => ⟨[], [], [], []⟩) h8 (by kernel_rfl) (fun _ => by kernel_rfl) ?_ ?_
  · rintro x3 oh7 h7
    unfold d_ref32_Same_0 at h7
    refine pwp_seq (pwp_seq (r_reg ?_))
    refine p_run 2 (by kernel_rfl) ?_
    refine p_len (L := (a0 : (List T_api_Linked))) (by kernel_rfl) ?_
    refine e_end (by kernel_rfl) ?_
    refine q_next ?_
    rcases o_cond h7 with ⟨hb, h7⟩ | ⟨hb, h7⟩
    · refine r_cond_t hb (by kernel_rfl) ?_
      refine pwp_skip (q_next (pwp_seq (pwp_block (pwp_seq ?_))))
      refine r_regd (by kernel_rfl) (by kernel_rfl) ?_
      refine p_run 2 (by kernel_rfl) ?_
      obtain ⟨x6, h9, h7⟩ := o_bind h7
      refine p_ix h9 (by kernel_rfl) ?_
      refine p_run 3 (by kernel_rfl) ?_
      obtain ⟨x7, h10, h7⟩ := o_bind h7
      refine p_ix h10 (by kernel_rfl) ?_
      refine e_end (by kernel_rfl) ?_
      refine q_next ?_
      rcases o_cond h7 with ⟨hb, h7⟩ | ⟨hb, h7⟩
      · refine r_cond_t hb (by kernel_rfl) ?_
        refine pwp_seq (r_reg ?_)
        refine e_end (by kernel_rfl) ?_
        refine q_next (pwp_ret (q_block_ret (q_seq_ret ?_)))
        cases h7
        refine q_lout_ret fun he => ?_
        subst he
        have h11 := o_outr h
        refine q_block_ret (q_seq_ret ?_)
        cases h11
        exact q_ret (by kernel_rfl) (by kernel_rfl) (by kernel_rfl)
      refine r_cond_f hb (by kernel_rfl) ?_
      refine pwp_skip (q_block (q_next (r_reg ?_)))
      refine e_end (by kernel_rfl) ?_
      cases h7
      exact q_lback (by kernel_rfl)
    refine r_cond_f hb (by kernel_rfl) ?_
    refine pwp_exit (q_seq_exit ?_)
    cases h7
    exact q_lexit (by kernel_rfl) (by kernel_rfl)
  rintro _ s' rfl hs
  have h := o_outl h
  refine q_block_hit ?_
  refine q_next (pwp_wkr hs ?_)
  refine pwp_seq (r_reg ?_)
  refine e_end (by kernel_rfl) ?_
  refine q_next (pwp_ret ?_)
  cases h
  exact q_ret (by kernel_rfl) (by kernel_rfl) (by kernel_rfl)

/-! linking.Valid -/
noncomputable def d_linking_Valid_0 (a0 : (List T_api_Linked)) : Int → Option (Int ⊕ (Unit ⊕ Bool)) := fun x7 =>
  bif decide (x7 < ((a0.length : Nat) : Int)) then (
    (ixO a0 x7).bind fun x14 =>
    ((bif decide (0 < x7) then (
      (ixO a0 (w64 (x7 - 1))).bind fun x16 =>
      some (decide (x14.At < x16.At))
    ) else some false) : Option Bool).bind fun b15 =>
    ((bif b15 then some true else (
      (slO a0 none (some x7) none).bind fun x18 =>
      (d_linking_find x18 0 x14.Id).bind fun r19 =>
      some (decide (0 ≤ r19))
    )) : Option Bool).bind fun b17 =>
    bif b17 then (
      some (.inr (.inr false))
    ) else (
      some (.inl (w64 (x7 + 1)))
    )
  ) else (
    some (.inr (.inl ()))
  )

noncomputable def d_linking_Valid (a0 : (List T_api_Linked)) : Option Bool :=
  bif decide (24 < ((a0.length : Nat) : Int)) then (
    some false
  ) else (
    onInl (α := Unit) (β := Bool) (loopO (d_linking_Valid_0 a0) 0) fun _ =>
    some true
  )
theorem d_linking_Valid_ok (a0 : (List T_api_Linked)) (r : Bool) (h : d_linking_Valid a0 = some r) : PCall Go.Proofs.Tryd.prog GlS 13 [Enc.pv a0] (Enc.pv r) := by
  unfold d_linking_Valid at h
  refine pcall_of_pwp Go.Proofs.Tryd.func13 (by rfl) rfl Go.Proofs.Tryd.ntmps13 (by rfl) rfl ?_
  refine pwp_seq (r_reg ?_)
  refine e_end (by kernel_rfl) ?_
  refine q_next (pwp_seq (pwp_seq (r_reg ?_)))
  refine p_run 1 (by kernel_rfl) ?_
  refine p_len (L := (a0 : (List T_api_Linked))) (by kernel_rfl) ?_
  refine e_end (by kernel_rfl) ?_
  refine q_next ?_
  rcases o_cond h with ⟨hb, h⟩ | ⟨hb, h⟩
  · refine r_cond_t hb (by kernel_rfl) ?_
    refine pwp_seq (r_reg ?_)
    refine e_end (by kernel_rfl) ?_
    refine q_next (pwp_ret (q_seq_ret ?_))
    cases h
    exact q_ret (by kernel_rfl) (by kernel_rfl) (by kernel_rfl)
  refine r_cond_f hb (by kernel_rfl) ?_
  refine pwp_skip (q_next (pwp_seq (pwp_seq (r_reg ?_))))
  refine p_run 1 (by kernel_rfl) ?_
  refine p_len (L := (a0 : (List T_api_Linked))) (by kernel_rfl) ?_
  refine e_end (by kernel_rfl) ?_
  refine q_next (pwp_block ?_)
  obtain ⟨o16, h16, h⟩ := o_inl h
  refine r_loop2 38 0 (fun x7 => ⟨[(0, lstOf .frozen (a0 : (List T_api_Linked))), (8, lstOf .frozen (a0 : (List T_api_Linked))), (9, .int .i64 ((a0.length : Nat) : Int)), (10, .int .i64 x7)], [], [], []⟩) (fun (_ : Unit) => ⟨[], [], [], []⟩) h16 (by kernel_rfl) (fun _ => by kernel_rfl) ?_ ?_
  · rintro x7 oh15 h15
    unfold d_linking_Valid_0 at h15
    refine pwp_seq (r_reg ?_)
    refine e_end (by kernel_rfl) ?_
    refine q_next (pwp_seq ?_)
    rcases o_cond h15 with ⟨hb, h15⟩ | ⟨hb, h15⟩
    · refine r_cond_t hb (by kernel_rfl) ?_
      refine pwp_skip (q_next (pwp_seq (pwp_block (pwp_seq (r_reg ?_)))))
      refine p_run 1 (by kernel_rfl) ?_
      obtain ⟨x14, h17, h15⟩ := o_bind h15
      refine p_ix h17 (by kernel_rfl) ?_
      refine e_end (by kernel_rfl) ?_
      refine q_next (pwp_seq ?_)
      refine r_regd (by kernel_rfl) (by kernel_rfl) ?_
      obtain ⟨b15, h18, h15⟩ := o_bind h15
      refine p_run 3 (by kernel_rfl) ?_
      refine e_seg 10 27 (.bool b15) ?_ ?_
      · rcases o_cond h18 with ⟨hb, h18⟩ | ⟨hb, h18⟩
        · refine p_settle 17 hb (by kernel_rfl) (by kernel_rfl) ?_
          refine p_run 5 (by kernel_rfl) ?_
          obtain ⟨x16, h19, h18⟩ := o_bind h18
          refine p_ix h19 (by kernel_rfl) ?_
          cases h18
          exact f_end (by kernel_rfl) (by kernel_rfl)
        refine p_settle 17 hb (by kernel_rfl) (by kernel_rfl) ?_
        cases h18
        exact f_end (by kernel_rfl) (by kernel_rfl)
      obtain ⟨b17, h20, h15⟩ := o_bind h15
      refine p_run 1 (by kernel_rfl) ?_
      refine e_seg 8 36 (.bool b17) ?_ ?_
      · rcases o_cond h20 with ⟨hb, h20⟩ | ⟨hb, h20⟩
        · refine p_settle 28 hb (by kernel_rfl) (by kernel_rfl) ?_
          cases h20
          exact f_end (by kernel_rfl) (by kernel_rfl)
        refine p_settle 28 hb (by kernel_rfl) (by kernel_rfl) ?_
        refine p_run 2 (by kernel_rfl) ?_
        obtain ⟨x18, h21, h20⟩ := o_bind h20
        refine p_sl h21 .frozen (by kernel_rfl) (by kernel_rfl) (by kernel_rfl) ?_
        refine p_run 2 (by kernel_rfl) ?_
        obtain ⟨r19, h22, h20⟩ := o_bind h20
        refine p_call (d_linking_find_ok _ _ _ r19 h22) (by kernel_rfl) (by kernel_rfl) ?_
        cases h20
        exact f_end (by kernel_rfl) (by kernel_rfl)
      refine e_nil (by kernel_rfl) ?_
      refine q_next ?_
      rcases o_cond h15 with ⟨hb, h15⟩ | ⟨hb, h15⟩
      · refine r_cond_t hb (by kernel_rfl) ?_
        refine pwp_seq (r_reg ?_)
        refine e_end (by kernel_rfl) ?_
        refine q_next (pwp_ret (q_block_ret (q_seq_ret ?_)))
        cases h15
        refine q_lout_ret fun he => ?_
        subst he
        have h23 := o_outr h
        refine q_block_ret (q_seq_ret ?_)
        cases h23
        exact q_ret (by kernel_rfl) (by kernel_rfl) (by kernel_rfl)
      refine r_cond_f hb (by kernel_rfl) ?_
      refine pwp_skip (q_block (q_next (r_reg ?_)))
      refine e_end (by kernel_rfl) ?_
      cases h15
      exact q_lback (by kernel_rfl)
    refine r_cond_f hb (by kernel_rfl) ?_
    refine pwp_exit (q_seq_exit ?_)
    cases h15
    exact q_lexit (by kernel_rfl) (by kernel_rfl)
  rintro _ s' rfl hs
  have h := o_outl h
  refine q_block_hit ?_
  refine q_next (pwp_wkr hs ?_)
  refine pwp_seq (r_reg ?_)
  refine e_end (by kernel_rfl) ?_
  refine q_next (pwp_ret ?_)
  cases h
  exact q_ret (by kernel_rfl) (by kernel_rfl) (by kernel_rfl)

/-! linking.Overdue -/
noncomputable def d_linking_Overdue_0 (a0 : (List T_api_Linked)) (a2 : T_api_Estimate) : Int → Option (Int ⊕ (Unit ⊕ Int)) := fun x3 =>
  bif decide (x3 < ((a0.length : Nat) : Int)) then (
    (ixO a0 x3).bind fun x5 =>
    bif decide (a2.Min ≤ (w64 (x5.At + 500))) then (
      some (.inr (.inr x3))
    ) else (
      some (.inl (w64 (x3 + 1)))
    )
  ) else (
    some (.inr (.inl ()))
  )

noncomputable def d_linking_Overdue (a0 : (List T_api_Linked)) (a1 : Int) (a2 : T_api_Estimate) : Option Int :=
  (d_num_Clamp a1 0 ((a0.length : Nat) : Int)).bind fun r1 =>
  onInl (α := Unit) (β := Int) (loopO (d_linking_Overdue_0 a0 a2) r1) fun _ =>
  some ((a0.length : Nat) : Int)
theorem d_linking_Overdue_ok (a0 : (List T_api_Linked)) (a1 : Int) (a2 : T_api_Estimate) (r : Int) (h : d_linking_Overdue a0 a1 a2 = some r) : PCall Go.Proofs.Tryd.prog GlS 15 [Enc.pv a0, Enc.pv a1, Enc.pv a2] (Enc.pv r) := by
  unfold d_linking_Overdue at h
  refine pcall_of_pwp Go.Proofs.Tryd.func15 (by rfl) rfl Go.Proofs.Tryd.ntmps15 (by rfl) rfl ?_
  refine pwp_seq (r_reg ?_)
  refine e_end (by kernel_rfl) ?_
  refine q_next (pwp_seq (pwp_seq (r_reg ?_)))
  refine p_run 2 (by kernel_rfl) ?_
  refine p_len (L := (a0 : (List T_api_Linked))) (by kernel_rfl) ?_
  obtain ⟨r1, h1, h⟩ := o_bind h
  refine p_call (d_num_Clamp_ok _ _ _ r1 h1) (by kernel_rfl) (by kernel_rfl) ?_
  refine e_end (by kernel_rfl) ?_
  refine q_next (pwp_block ?_)
  obtain ⟨o7, h7, h⟩ := o_inl h
  refine r_loop2 30 0 (fun x3 => ⟨[(0, lstOf .frozen (a0 : (List T_api_Linked))), (5, .ref 5 0), (7, .int .i64 x3)], [(5, .cells (cellsOf a2))], [], []⟩) (fun (_ : Unit) => ⟨[(0, lstOf .frozen (a0 : (List T_api_Linked)))], [], [], []⟩) h7 (by kernel_rfl) (fun _ => by kernel_rfl) ?_ ?_
  · rintro x3 oh6 h6
    unfold d_linking_Overdue_0 at h6
    refine pwp_seq (pwp_seq (r_reg ?_))
    refine p_run 2 (by kernel_rfl) ?_
    refine p_len (L := (a0 : (List T_api_Linked))) (by kernel_rfl) ?_
    refine e_end (by kernel_rfl) ?_
    refine q_next ?_
    rcases o_cond h6 with ⟨hb, h6⟩ | ⟨hb, h6⟩
    · refine r_cond_t hb (by kernel_rfl) ?_
      refine pwp_skip (q_next (pwp_seq (pwp_block (pwp_seq ?_))))
      refine r_regd (by kernel_rfl) (by kernel_rfl) ?_
      refine p_run 2 (by kernel_rfl) ?_
      obtain ⟨x5, h8, h6⟩ := o_bind h6
      refine p_ix h8 (by kernel_rfl) ?_
      refine e_end (by kernel_rfl) ?_
      refine q_next ?_
      rcases o_cond h6 with ⟨hb, h6⟩ | ⟨hb, h6⟩
      · refine r_cond_t hb (by kernel_rfl) ?_
        refine pwp_seq (r_reg ?_)
        refine e_end (by kernel_rfl) ?_
        refine q_next (pwp_ret (q_block_ret (q_seq_ret ?_)))
        cases h6
        refine q_lout_ret fun he => ?_
        subst he
        have h9 := o_outr h
        refine q_block_ret (q_seq_ret ?_)
        cases h9
        exact q_ret (by kernel_rfl) (by kernel_rfl) (by kernel_rfl)
      refine r_cond_f hb (by kernel_rfl) ?_
      refine pwp_skip (q_block (q_next (r_reg ?_)))
      refine e_end (by kernel_rfl) ?_
      cases h6
      exact q_lback (by kernel_rfl)
    refine r_cond_f hb (by kernel_rfl) ?_
    refine pwp_exit (q_seq_exit ?_)
    cases h6
    exact q_lexit (by kernel_rfl) (by kernel_rfl)
  rintro _ s' rfl hs
  have h := o_outl h
  refine q_block_hit ?_
  refine q_next (pwp_wkr hs ?_)
  refine pwp_seq (r_reg ?_)
  refine p_run 1 (by kernel_rfl) ?_
  refine p_len (L := (a0 : (List T_api_Linked))) (by kernel_rfl) ?_
  refine e_end (by kernel_rfl) ?_
  refine q_next (pwp_ret ?_)
  cases h
  exact q_ret (by kernel_rfl) (by kernel_rfl) (by kernel_rfl)

/-! signallinglaw32.alive -/
noncomputable def d_law32_alive : Option Bool :=
  (d_law32_example ).bind fun r1 =>
  (d_linking_Of r1 [(T_api_Step.mk 0 0 1)] 100 5000).bind fun r2 =>
  (d_law32_example ).bind fun r3 =>
  (d_linking_Of r3 [(T_api_Step.mk 0 1 0)] 100 1000).bind fun r4 =>
  (d_linking_Read r2 0 5).bind fun r5 =>
  (d_linking_Read r2 0 9).bind fun r6 =>
  (d_linking_Read r2 0 7).bind fun r7 =>
  (d_ref32_Same r2 [(T_api_Linked.mk 5 400), (T_api_Linked.mk 9 1600)]).bind fun r8 =>
  ((bif r8 then (
    (d_ref32_Same r4 [(T_api_Linked.mk 9 600)]).bind fun r10 =>
    some r10
  ) else some false) : Option Bool).bind fun b9 =>
  ((bif ((((((b9 && (decide (r5.1 = 1))) && (decide (r5.2 = 1))) && (decide (r6.1 = 2))) && (decide (r6.2 = 2))) && (decide (r7.1 = 0))) && (decide (r7.2 = 0))) then (
    (d_linking_Valid r2).bind fun r12 =>
    some r12
  ) else some false) : Option Bool).bind fun b11 =>
  ((bif b11 then (
    (d_linking_Overdue r2 0 (T_api_Estimate.mk 900 0 0)).bind fun r14 =>
    some (decide (r14 = 0))
  ) else some false) : Option Bool).bind fun b13 =>
  ((bif b13 then (
    (d_linking_Overdue r2 0 (T_api_Estimate.mk 901 0 0)).bind fun r16 =>
    some (decide (r16 = 1))
  ) else some false) : Option Bool).bind fun b15 =>
  some b15
theorem d_law32_alive_ok (r : Bool) (h : d_law32_alive = some r) : PCall Go.Proofs.Tryd.prog GlS 9 [] (Enc.pv r) := by
  unfold d_law32_alive at h
  refine pcall_of_pwp Go.Proofs.Tryd.func9 (by rfl) rfl Go.Proofs.Tryd.ntmps9 (by rfl) rfl ?_
  refine pwp_seq (r_reg ?_)
  refine e_end (by kernel_rfl) ?_
  refine q_next (pwp_seq (r_reg ?_))
  obtain ⟨r1, h1, h⟩ := o_bind h
  refine p_call (d_law32_example_ok  r1 h1) (by kernel_rfl) (by kernel_rfl) ?_
  refine p_run 2 (by kernel_rfl) ?_
  obtain ⟨r2, h2, h⟩ := o_bind h
  refine p_call (d_linking_Of_ok _ _ _ _ r2 h2) (by kernel_rfl) (by kernel_rfl) ?_
  refine e_end (by kernel_rfl) ?_
  refine q_next (pwp_seq (r_reg ?_))
  obtain ⟨r3, h3, h⟩ := o_bind h
  refine p_call (d_law32_example_ok  r3 h3) (by kernel_rfl) (by kernel_rfl) ?_
  refine p_run 2 (by kernel_rfl) ?_
  obtain ⟨r4, h4, h⟩ := o_bind h
  refine p_call (d_linking_Of_ok _ _ _ _ r4 h4) (by kernel_rfl) (by kernel_rfl) ?_
  refine e_end (by kernel_rfl) ?_
  refine q_next (pwp_seq (r_reg ?_))
  refine p_run 1 (by kernel_rfl) ?_
  obtain ⟨r5, h5, h⟩ := o_bind h
  refine p_call (d_linking_Read_ok _ _ _ r5 h5) (by kernel_rfl) (by kernel_rfl) ?_
  refine e_end (by kernel_rfl) ?_
  refine q_next (pwp_seq (r_reg ?_))
  refine p_run 1 (by kernel_rfl) ?_
  obtain ⟨r6, h6, h⟩ := o_bind h
  refine p_call (d_linking_Read_ok _ _ _ r6 h6) (by kernel_rfl) (by kernel_rfl) ?_
  refine e_end (by kernel_rfl) ?_
  refine q_next (pwp_seq (r_reg ?_))
  refine p_run 1 (by kernel_rfl) ?_
  obtain ⟨r7, h7, h⟩ := o_bind h
  refine p_call (d_linking_Read_ok _ _ _ r7 h7) (by kernel_rfl) (by kernel_rfl) ?_
  refine e_end (by kernel_rfl) ?_
  refine q_next (pwp_seq (r_reg ?_))
  refine p_run 4 (by kernel_rfl) ?_
  obtain ⟨r8, h8, h⟩ := o_bind h
  refine p_call (d_ref32_Same_ok _ _ r8 h8) (by kernel_rfl) (by kernel_rfl) ?_
  obtain ⟨b9, h9, h⟩ := o_bind h
  refine p_run 1 (by kernel_rfl) ?_
  refine e_seg 5 42 (.bool b9) ?_ ?_
  · rcases o_cond h9 with ⟨hb, h9⟩ | ⟨hb, h9⟩
    · refine p_settle 37 hb (by kernel_rfl) (by kernel_rfl) ?_
      refine p_run 3 (by kernel_rfl) ?_
      obtain ⟨r10, h10, h9⟩ := o_bind h9
      refine p_call (d_ref32_Same_ok _ _ r10 h10) (by kernel_rfl) (by kernel_rfl) ?_
      cases h9
      exact f_end (by kernel_rfl) (by kernel_rfl)
    refine p_settle 37 hb (by kernel_rfl) (by kernel_rfl) ?_
    cases h9
    exact f_end (by kernel_rfl) (by kernel_rfl)
  refine p_run 1 (by kernel_rfl) ?_
  refine e_segb 3 46 (b9 && (decide (r5.1 = 1))) (fun x hx => ?_) ?_
  · rcases b_and hx with ⟨hb, hx⟩ | ⟨hb, hx⟩
    · refine p_settle 43 hb (by kernel_rfl) (by kernel_rfl) ?_
      subst hx
      exact f_end (by kernel_rfl) (by kernel_rfl)
    refine p_settle 43 hb (by kernel_rfl) (by kernel_rfl) ?_
    subst hx
    exact f_end (by kernel_rfl) (by kernel_rfl)
  refine p_run 1 (by kernel_rfl) ?_
  refine e_segb 3 50 ((b9 && (decide (r5.1 = 1))) && (decide (r5.2 = 1))) (fun x hx => ?_) ?_
  · rcases b_and hx with ⟨hb, hx⟩ | ⟨hb, hx⟩
    · refine p_settle 47 hb (by kernel_rfl) (by kernel_rfl) ?_
      subst hx
      exact f_end (by kernel_rfl) (by kernel_rfl)
    refine p_settle 47 hb (by kernel_rfl) (by kernel_rfl) ?_
    subst hx
    exact f_end (by kernel_rfl) (by kernel_rfl)
  refine p_run 1 (by kernel_rfl) ?_
  refine e_segb 3 54 (((b9 && (decide (r5.1 = 1))) && (decide (r5.2 = 1))) && (decide (r6.1 = 2))) (fun x hx => ?_) ?_
  · rcases b_and hx with ⟨hb, hx⟩ | ⟨hb, hx⟩
    · refine p_settle 51 hb (by kernel_rfl) (by kernel_rfl) ?_
      subst hx
      exact f_end (by kernel_rfl) (by kernel_rfl)
    refine p_settle 51 hb (by kernel_rfl) (by kernel_rfl) ?_
    subst hx
    exact f_end (by kernel_rfl) (by kernel_rfl)
  refine p_run 1 (by kernel_rfl) ?_
  refine e_segb 3 58 ((((b9 && (decide (r5.1 = 1))) && (decide (r5.2 = 1))) && (decide (r6.1 = 2))) && (decide (r6.2 = 2))) (fun x hx => ?_) ?_
  · rcases b_and hx with ⟨hb, hx⟩ | ⟨hb, hx⟩
    · refine p_settle 55 hb (by kernel_rfl) (by kernel_rfl) ?_
      subst hx
      exact f_end (by kernel_rfl) (by kernel_rfl)
    refine p_settle 55 hb (by kernel_rfl) (by kernel_rfl) ?_
    subst hx
    exact f_end (by kernel_rfl) (by kernel_rfl)
  refine p_run 1 (by kernel_rfl) ?_
  refine e_segb 3 62 (((((b9 && (decide (r5.1 = 1))) && (decide (r5.2 = 1))) && (decide (r6.1 = 2))) && (decide (r6.2 = 2))) && (decide (r7.1 = 0))) (fun x hx => ?_) ?_
  · rcases b_and hx with ⟨hb, hx⟩ | ⟨hb, hx⟩
    · refine p_settle 59 hb (by kernel_rfl) (by kernel_rfl) ?_
      subst hx
      exact f_end (by kernel_rfl) (by kernel_rfl)
    refine p_settle 59 hb (by kernel_rfl) (by kernel_rfl) ?_
    subst hx
    exact f_end (by kernel_rfl) (by kernel_rfl)
  refine p_run 1 (by kernel_rfl) ?_
  refine e_segb 3 66 ((((((b9 && (decide (r5.1 = 1))) && (decide (r5.2 = 1))) && (decide (r6.1 = 2))) && (decide (r6.2 = 2))) && (decide (r7.1 = 0))) && (decide (r7.2 = 0))) (fun x hx => ?_) ?_
  · rcases b_and hx with ⟨hb, hx⟩ | ⟨hb, hx⟩
    · refine p_settle 63 hb (by kernel_rfl) (by kernel_rfl) ?_
      subst hx
      exact f_end (by kernel_rfl) (by kernel_rfl)
    refine p_settle 63 hb (by kernel_rfl) (by kernel_rfl) ?_
    subst hx
    exact f_end (by kernel_rfl) (by kernel_rfl)
  obtain ⟨b11, h11, h⟩ := o_bind h
  refine p_run 1 (by kernel_rfl) ?_
  refine e_seg 3 70 (.bool b11) ?_ ?_
  · rcases o_cond h11 with ⟨hb, h11⟩ | ⟨hb, h11⟩
    · refine p_settle 67 hb (by kernel_rfl) (by kernel_rfl) ?_
      refine p_run 1 (by kernel_rfl) ?_
      obtain ⟨r12, h12, h11⟩ := o_bind h11
      refine p_call (d_linking_Valid_ok _ r12 h12) (by kernel_rfl) (by kernel_rfl) ?_
      cases h11
      exact f_end (by kernel_rfl) (by kernel_rfl)
    refine p_settle 67 hb (by kernel_rfl) (by kernel_rfl) ?_
    cases h11
    exact f_end (by kernel_rfl) (by kernel_rfl)
  obtain ⟨b13, h13, h⟩ := o_bind h
  refine p_run 1 (by kernel_rfl) ?_
  refine e_seg 5 76 (.bool b13) ?_ ?_
  · rcases o_cond h13 with ⟨hb, h13⟩ | ⟨hb, h13⟩
    · refine p_settle 71 hb (by kernel_rfl) (by kernel_rfl) ?_
      refine p_run 2 (by kernel_rfl) ?_
      obtain ⟨r14, h14, h13⟩ := o_bind h13
      refine p_call (d_linking_Overdue_ok _ _ _ r14 h14) (by kernel_rfl) (by kernel_rfl) ?_
      cases h13
      exact f_end (by kernel_rfl) (by kernel_rfl)
    refine p_settle 71 hb (by kernel_rfl) (by kernel_rfl) ?_
    cases h13
    exact f_end (by kernel_rfl) (by kernel_rfl)
  obtain ⟨b15, h15, h⟩ := o_bind h
  refine p_run 1 (by kernel_rfl) ?_
  refine e_seg 5 82 (.bool b15) ?_ ?_
  · rcases o_cond h15 with ⟨hb, h15⟩ | ⟨hb, h15⟩
    · refine p_settle 77 hb (by kernel_rfl) (by kernel_rfl) ?_
      refine p_run 2 (by kernel_rfl) ?_
      obtain ⟨r16, h16, h15⟩ := o_bind h15
      refine p_call (d_linking_Overdue_ok _ _ _ r16 h16) (by kernel_rfl) (by kernel_rfl) ?_
      cases h15
      exact f_end (by kernel_rfl) (by kernel_rfl)
    refine p_settle 77 hb (by kernel_rfl) (by kernel_rfl) ?_
    cases h15
    exact f_end (by kernel_rfl) (by kernel_rfl)
  refine e_end (by kernel_rfl) ?_
  refine q_next (pwp_ret ?_)
  cases h
  exact q_ret (by kernel_rfl) (by kernel_rfl) (by kernel_rfl)

/-! signallingref09.exists -/
noncomputable def d_ref09_exists (a0 : T_api_Layout) (a1 : Int) : Option Bool :=
  ((bif decide (0 ≤ a1) then (
    some (decide (a1 < ((a0.Elements.length : Nat) : Int)))
  ) else some false) : Option Bool).bind fun b1 =>
  some b1
theorem d_ref09_exists_ok (a0 : T_api_Layout) (a1 : Int) (r : Bool) (h : d_ref09_exists a0 a1 = some r) : PCall Go.Proofs.Tryd.prog GlS 37 [Enc.pv a0, Enc.pv a1] (Enc.pv r) := by
  unfold d_ref09_exists at h
  refine pcall_of_pwp Go.Proofs.Tryd.func37 (by rfl) rfl Go.Proofs.Tryd.ntmps37 (by rfl) rfl ?_
  refine pwp_seq (r_reg ?_)
  refine e_end (by kernel_rfl) ?_
  refine q_next (pwp_seq (r_reg ?_))
  obtain ⟨b1, h1, h⟩ := o_bind h
  refine p_run 3 (by kernel_rfl) ?_
  refine e_seg 6 13 (.bool b1) ?_ ?_
  · rcases o_cond h1 with ⟨hb, h1⟩ | ⟨hb, h1⟩
    · refine p_settle 7 hb (by kernel_rfl) (by kernel_rfl) ?_
      refine p_run 3 (by kernel_rfl) ?_
      refine p_len (L := (a0.Elements : (List T_api_Element))) (by kernel_rfl) ?_
      cases h1
      exact f_end (by kernel_rfl) (by kernel_rfl)
    refine p_settle 7 hb (by kernel_rfl) (by kernel_rfl) ?_
    cases h1
    exact f_end (by kernel_rfl) (by kernel_rfl)
  refine e_end (by kernel_rfl) ?_
  refine q_next (pwp_ret ?_)
  cases h
  exact q_ret (by kernel_rfl) (by kernel_rfl) (by kernel_rfl)

/-! signallingref06.Need -/
noncomputable def d_ref06_Need (a0 : Int) (a1 : Int) (a2 : Int) : Option (Int × Bool) :=
  bif ((decide (a0 = 1)) || (decide (a0 = 3))) then (
    some (0, (((decide ((min a1 a2) = 0)) && (decide ((max a1 a2) = 1))) || (((decide (a0 = 3)) && (decide ((min a1 a2) = 2))) && (decide ((max a1 a2) = 3)))))
  ) else (
    bif (((decide (a0 = 2)) && (decide ((min a1 a2) = 0))) && (decide ((max a1 a2) = 1))) then (
      some (1, true)
    ) else (
      bif (((decide (a0 = 2)) && (decide ((min a1 a2) = 0))) && (decide ((max a1 a2) = 2))) then (
        some (2, true)
      ) else (
        some (0, false)
      )
    )
  )
theorem d_ref06_Need_ok (a0 : Int) (a1 : Int) (a2 : Int) (r : (Int × Bool)) (h : d_ref06_Need a0 a1 a2 = some r) : PCall Go.Proofs.Tryd.prog GlS 47 [Enc.pv a0, Enc.pv a1, Enc.pv a2] (.tup [Enc.pv r.1, Enc.pv r.2]) := by
  unfold d_ref06_Need at h
  refine pcall_of_pwp Go.Proofs.Tryd.func47 (by rfl) rfl Go.Proofs.Tryd.ntmps47 (by rfl) rfl ?_
  refine pwp_seq (r_reg ?_)
  refine e_end (by kernel_rfl) ?_
  refine q_next (pwp_seq (r_reg ?_))
  refine e_end (by kernel_rfl) ?_
  refine q_next (pwp_seq (r_reg ?_))
  refine e_end (by kernel_rfl) ?_
  refine q_next (pwp_seq (pwp_seq (r_reg ?_)))
  refine p_run 3 (by kernel_rfl) ?_
  refine e_segb 3 21 ((decide (a0 = 1)) || (decide (a0 = 3))) (fun x hx => ?_) ?_
  · rcases b_or hx with ⟨hb, hx⟩ | ⟨hb, hx⟩
    · refine p_settle 18 hb (by kernel_rfl) (by kernel_rfl) ?_
      subst hx
      exact f_end (by kernel_rfl) (by kernel_rfl)
    refine p_settle 18 hb (by kernel_rfl) (by kernel_rfl) ?_
    subst hx
    exact f_end (by kernel_rfl) (by kernel_rfl)
  refine e_nil (by kernel_rfl) ?_
  refine q_next ?_
  rcases o_cond h with ⟨hb, h⟩ | ⟨hb, h⟩
  · refine r_cond_t hb (by kernel_rfl) ?_
    refine pwp_seq (r_reg ?_)
    refine p_run 3 (by kernel_rfl) ?_
    refine e_segb 3 27 ((decide ((min a1 a2) = 0)) && (decide ((max a1 a2) = 1))) (fun x hx => ?_) ?_
    · rcases b_and hx with ⟨hb, hx⟩ | ⟨hb, hx⟩
      · refine p_settle 24 hb (by kernel_rfl) (by kernel_rfl) ?_
        subst hx
        exact f_end (by kernel_rfl) (by kernel_rfl)
      refine p_settle 24 hb (by kernel_rfl) (by kernel_rfl) ?_
      subst hx
      exact f_end (by kernel_rfl) (by kernel_rfl)
    refine p_run 1 (by kernel_rfl) ?_
    refine e_segb 11 39 (((decide ((min a1 a2) = 0)) && (decide ((max a1 a2) = 1))) || (((decide (a0 = 3)) && (decide ((min a1 a2) = 2))) && (decide ((max a1 a2) = 3)))) (fun x hx => ?_) ?_
    · rcases b_or hx with ⟨hb, hx⟩ | ⟨hb, hx⟩
      · refine p_settle 28 hb (by kernel_rfl) (by kernel_rfl) ?_
        subst hx
        exact f_end (by kernel_rfl) (by kernel_rfl)
      refine p_settle 28 hb (by kernel_rfl) (by kernel_rfl) ?_
      refine p_run 3 (by kernel_rfl) ?_
      refine f_segb 3 34 ((decide (a0 = 3)) && (decide ((min a1 a2) = 2))) (fun x hx => ?_) ?_
      · rcases b_and hx with ⟨hb, hx⟩ | ⟨hb, hx⟩
        · refine p_settle 31 hb (by kernel_rfl) (by kernel_rfl) ?_
          subst hx
          exact f_end (by kernel_rfl) (by kernel_rfl)
        refine p_settle 31 hb (by kernel_rfl) (by kernel_rfl) ?_
        subst hx
        exact f_end (by kernel_rfl) (by kernel_rfl)
      refine p_run 1 (by kernel_rfl) ?_
      refine f_segb 3 38 (((decide (a0 = 3)) && (decide ((min a1 a2) = 2))) && (decide ((max a1 a2) = 3))) (fun x hx => ?_) ?_
      · rcases b_and hx with ⟨hb, hx⟩ | ⟨hb, hx⟩
        · refine p_settle 35 hb (by kernel_rfl) (by kernel_rfl) ?_
          subst hx
          exact f_end (by kernel_rfl) (by kernel_rfl)
        refine p_settle 35 hb (by kernel_rfl) (by kernel_rfl) ?_
        subst hx
        exact f_end (by kernel_rfl) (by kernel_rfl)
      subst hx
      exact f_end (by kernel_rfl) (by kernel_rfl)
    refine e_end (by kernel_rfl) ?_
    refine q_next (pwp_ret (q_seq_ret ?_))
    cases h
    exact q_ret (by kernel_rfl) (by kernel_rfl) (by kernel_rfl)
  refine r_cond_f hb (by kernel_rfl) ?_
  refine pwp_skip (q_next (pwp_seq (pwp_seq (r_reg ?_))))
  refine p_run 3 (by kernel_rfl) ?_
  refine e_segb 3 45 ((decide (a0 = 2)) && (decide ((min a1 a2) = 0))) (fun x hx => ?_) ?_
  · rcases b_and hx with ⟨hb, hx⟩ | ⟨hb, hx⟩
    · refine p_settle 42 hb (by kernel_rfl) (by kernel_rfl) ?_
      subst hx
      exact f_end (by kernel_rfl) (by kernel_rfl)
    refine p_settle 42 hb (by kernel_rfl) (by kernel_rfl) ?_
    subst hx
    exact f_end (by kernel_rfl) (by kernel_rfl)
  refine p_run 1 (by kernel_rfl) ?_
  refine e_segb 3 49 (((decide (a0 = 2)) && (decide ((min a1 a2) = 0))) && (decide ((max a1 a2) = 1))) (fun x hx => ?_) ?_
  · rcases b_and hx with ⟨hb, hx⟩ | ⟨hb, hx⟩
    · refine p_settle 46 hb (by kernel_rfl) (by kernel_rfl) ?_
      subst hx
      exact f_end (by kernel_rfl) (by kernel_rfl)
    refine p_settle 46 hb (by kernel_rfl) (by kernel_rfl) ?_
    subst hx
    exact f_end (by kernel_rfl) (by kernel_rfl)
  refine e_nil (by kernel_rfl) ?_
  refine q_next ?_
  rcases o_cond h with ⟨hb, h⟩ | ⟨hb, h⟩
  · refine r_cond_t hb (by kernel_rfl) ?_
    refine pwp_seq (r_reg ?_)
    refine e_end (by kernel_rfl) ?_
    refine q_next (pwp_ret (q_seq_ret ?_))
    cases h
    exact q_ret (by kernel_rfl) (by kernel_rfl) (by kernel_rfl)
  refine r_cond_f hb (by kernel_rfl) ?_
  refine pwp_skip (q_next (pwp_seq (pwp_seq (r_reg ?_))))
  refine p_run 3 (by kernel_rfl) ?_
  refine e_segb 3 55 ((decide (a0 = 2)) && (decide ((min a1 a2) = 0))) (fun x hx => ?_) ?_
  · rcases b_and hx with ⟨hb, hx⟩ | ⟨hb, hx⟩
    · refine p_settle 52 hb (by kernel_rfl) (by kernel_rfl) ?_
      subst hx
      exact f_end (by kernel_rfl) (by kernel_rfl)
    refine p_settle 52 hb (by kernel_rfl) (by kernel_rfl) ?_
    subst hx
    exact f_end (by kernel_rfl) (by kernel_rfl)
  refine p_run 1 (by kernel_rfl) ?_
  refine e_segb 3 59 (((decide (a0 = 2)) && (decide ((min a1 a2) = 0))) && (decide ((max a1 a2) = 2))) (fun x hx => ?_) ?_
  · rcases b_and hx with ⟨hb, hx⟩ | ⟨hb, hx⟩
    · refine p_settle 56 hb (by kernel_rfl) (by kernel_rfl) ?_
      subst hx
      exact f_end (by kernel_rfl) (by kernel_rfl)
    refine p_settle 56 hb (by kernel_rfl) (by kernel_rfl) ?_
    subst hx
    exact f_end (by kernel_rfl) (by kernel_rfl)
  refine e_nil (by kernel_rfl) ?_
  refine q_next ?_
  rcases o_cond h with ⟨hb, h⟩ | ⟨hb, h⟩
  · refine r_cond_t hb (by kernel_rfl) ?_
    refine pwp_seq (r_reg ?_)
    refine e_end (by kernel_rfl) ?_
    refine q_next (pwp_ret (q_seq_ret ?_))
    cases h
    exact q_ret (by kernel_rfl) (by kernel_rfl) (by kernel_rfl)
  refine r_cond_f hb (by kernel_rfl) ?_
  refine pwp_skip (q_next (pwp_seq (r_reg ?_)))
  refine e_end (by kernel_rfl) ?_
  refine q_next (pwp_ret ?_)
  cases h
  exact q_ret (by kernel_rfl) (by kernel_rfl) (by kernel_rfl)

/-! signallingref09.need -/
noncomputable def d_ref09_need (a0 : T_api_Layout) (a1 : T_api_Step) : Option (Int × Bool) :=
  (d_ref09_exists a0 a1.El).bind fun r1 =>
  bif (!r1) then (
    some (0, false)
  ) else (
    (ixO a0.Elements a1.El).bind fun x2 =>
    (d_ref06_Need x2.Kind a1.In a1.Out).bind fun r3 =>
    some (r3.1, r3.2)
  )
theorem d_ref09_need_ok (a0 : T_api_Layout) (a1 : T_api_Step) (r : (Int × Bool)) (h : d_ref09_need a0 a1 = some r) : PCall Go.Proofs.Tryd.prog GlS 35 [Enc.pv a0, Enc.pv a1] (.tup [Enc.pv r.1, Enc.pv r.2]) := by
  unfold d_ref09_need at h
  refine pcall_of_pwp Go.Proofs.Tryd.func35 (by rfl) rfl Go.Proofs.Tryd.ntmps35 (by rfl) rfl ?_
  refine pwp_seq (r_reg ?_)
  refine e_end (by kernel_rfl) ?_
  refine q_next (pwp_seq (pwp_seq (r_reg ?_)))
  refine p_run 3 (by kernel_rfl) ?_
  obtain ⟨r1, h1, h⟩ := o_bind h
  refine p_call (d_ref09_exists_ok _ _ r1 h1) (by kernel_rfl) (by kernel_rfl) ?_
  refine e_end (by kernel_rfl) ?_
  refine q_next ?_
  rcases o_cond h with ⟨hb, h⟩ | ⟨hb, h⟩
  · refine r_cond_t hb (by kernel_rfl) ?_
    refine pwp_seq (r_reg ?_)
    refine e_end (by kernel_rfl) ?_
    refine q_next (pwp_ret (q_seq_ret ?_))
    cases h
    exact q_ret (by kernel_rfl) (by kernel_rfl) (by kernel_rfl)
  refine r_cond_f hb (by kernel_rfl) ?_
  refine pwp_skip (q_next (pwp_seq ?_))
  refine r_regd (by kernel_rfl) (by kernel_rfl) ?_
  refine p_run 4 (by kernel_rfl) ?_
  obtain ⟨x2, h2, h⟩ := o_bind h
  refine p_ix h2 (by kernel_rfl) ?_
  refine p_run 6 (by kernel_rfl) ?_
  obtain ⟨r3, h3, h⟩ := o_bind h
  refine p_call (d_ref06_Need_ok _ _ _ r3 h3) (by kernel_rfl) (by kernel_rfl) ?_
  refine e_end (by kernel_rfl) ?_
  refine q_next (pwp_ret ?_)
  cases h
  exact q_ret (by kernel_rfl) (by kernel_rfl) (by kernel_rfl)

/-! signallingref09.Next -/
noncomputable def d_ref09_Next (a0 : T_api_Layout) (a1 : T_api_Step) : Option (T_api_End × Bool) :=
  (d_ref07_Joined a0 (T_api_End.mk a1.El a1.Out)).bind fun r1 =>
  some (r1.1, r1.2)
theorem d_ref09_Next_ok (a0 : T_api_Layout) (a1 : T_api_Step) (r : (T_api_End × Bool)) (h : d_ref09_Next a0 a1 = some r) : PCall Go.Proofs.Tryd.prog GlS 36 [Enc.pv a0, Enc.pv a1] (.tup [Enc.pv r.1, Enc.pv r.2]) := by
  unfold d_ref09_Next at h
  refine pcall_of_pwp Go.Proofs.Tryd.func36 (by rfl) rfl Go.Proofs.Tryd.ntmps36 (by rfl) rfl ?_
  refine pwp_seq (r_reg ?_)
  refine e_end (by kernel_rfl) ?_
  refine q_next (pwp_seq (r_reg ?_))
  refine p_run 6 (by kernel_rfl) ?_
  obtain ⟨r1, h1, h⟩ := o_bind h
  refine p_call (d_ref07_Joined_ok _ _ r1 h1) (by kernel_rfl) (by kernel_rfl) ?_
  refine e_end (by kernel_rfl) ?_
  refine q_next (pwp_ret ?_)
  cases h
  exact q_ret (by kernel_rfl) (by kernel_rfl) (by kernel_rfl)

end PM
