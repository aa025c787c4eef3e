/-
  Plain functions for the program's functions, and the proofs that the program does them. Printed by den.py.
-/
import Derived.Test.YtcobolgkboknbaaDoorDen1
namespace PM
open Go Go.RowKit
attribute [local irreducible] pops pwp

/-! slices.symMergeCmpFunc[api.Linked] -/
noncomputable def d_slices_symMergeCmpFunc_api_Linked_0 (a0 : (List T_api_Linked)) (a1 : Int) : (Int × Int) → Option ((Int × Int) ⊕ (Int ⊕ (List T_api_Linked))) := fun (x6, x7) =>
  bif decide (x6 < x7) then (
    (xixO 0 (((a0 : (List T_api_Linked)).map cellsOf).length) (w64 ((IntKind.u64.wrap (w64 (x6 + x7))).fdiv 2))).bind fun j14 =>
    (xldO a0 (((a0 : (List T_api_Linked)).map cellsOf).length) j14).bind fun x15 =>
    (xixO 0 (((a0 : (List T_api_Linked)).map cellsOf).length) a1).bind fun j16 =>
    (xldO a0 (((a0 : (List T_api_Linked)).map cellsOf).length) j16).bind fun x17 =>
    (d_linking_Of_c1 x15 x17).bind fun r18 =>
    bif decide (r18 < 0) then (
      some (.inl (w64 ((w64 ((IntKind.u64.wrap (w64 (x6 + x7))).fdiv 2)) + 1), x7))
    ) else (
      some (.inl (x6, w64 ((IntKind.u64.wrap (w64 (x6 + x7))).fdiv 2)))
    )
  ) else (
    some (.inr (.inl x6))
  )

noncomputable def d_slices_symMergeCmpFunc_api_Linked_1 (a0 : (List T_api_Linked)) (x13 : Int) : (Int × (List T_api_Linked)) → Option ((Int × (List T_api_Linked)) ⊕ ((List T_api_Linked) ⊕ (List T_api_Linked))) := fun (x27, x28) =>
  bif decide (x27 < (w64 (x13 - 1))) then (
    (xixO 0 (((a0 : (List T_api_Linked)).map cellsOf).length) (w64 (x27 + 1))).bind fun j38 =>
    (xldO x28 (((a0 : (List T_api_Linked)).map cellsOf).length) j38).bind fun x39 =>
    (xixO 0 (((a0 : (List T_api_Linked)).map cellsOf).length) x27).bind fun j40 =>
    (xldO x28 (((a0 : (List T_api_Linked)).map cellsOf).length) j40).bind fun x41 =>
    (xixO 0 (((a0 : (List T_api_Linked)).map cellsOf).length) x27).bind fun j42 =>
    (xldO x28 (((a0 : (List T_api_Linked)).map cellsOf).length) j42).bind fun x43 =>
    (xixO 0 (((a0 : (List T_api_Linked)).map cellsOf).length) (w64 (x27 + 1))).bind fun j44 =>
    (xldO (x28.set j42 x39) (((a0 : (List T_api_Linked)).map cellsOf).length) j44).bind fun x45 =>
    some (.inl (w64 (x27 + 1), ((x28.set j42 x39).set j44 x41)))
  ) else (
    some (.inr (.inl x28))
  )

noncomputable def d_slices_symMergeCmpFunc_api_Linked_2 (a0 : (List T_api_Linked)) (a2 : Int) : (Int × Int) → Option ((Int × Int) ⊕ (Int ⊕ (List T_api_Linked))) := fun (x51, x52) =>
  bif decide (x51 < x52) then (
    (xixO 0 (((a0 : (List T_api_Linked)).map cellsOf).length) a2).bind fun j59 =>
    (xldO a0 (((a0 : (List T_api_Linked)).map cellsOf).length) j59).bind fun x60 =>
    (xixO 0 (((a0 : (List T_api_Linked)).map cellsOf).length) (w64 ((IntKind.u64.wrap (w64 (x51 + x52))).fdiv 2))).bind fun j61 =>
    (xldO a0 (((a0 : (List T_api_Linked)).map cellsOf).length) j61).bind fun x62 =>
    (d_linking_Of_c1 x60 x62).bind fun r63 =>
    bif (!(decide (r63 < 0))) then (
      some (.inl (w64 ((w64 ((IntKind.u64.wrap (w64 (x51 + x52))).fdiv 2)) + 1), x52))
    ) else (
      some (.inl (x51, w64 ((IntKind.u64.wrap (w64 (x51 + x52))).fdiv 2)))
    )
  ) else (
    some (.inr (.inl x51))
  )

noncomputable def d_slices_symMergeCmpFunc_api_Linked_3 (a0 : (List T_api_Linked)) (x58 : Int) : (Int × (List T_api_Linked)) → Option ((Int × (List T_api_Linked)) ⊕ ((List T_api_Linked) ⊕ (List T_api_Linked))) := fun (x72, x73) =>
  bif decide (x58 < x72) then (
    (xixO 0 (((a0 : (List T_api_Linked)).map cellsOf).length) (w64 (x72 - 1))).bind fun j83 =>
    (xldO x73 (((a0 : (List T_api_Linked)).map cellsOf).length) j83).bind fun x84 =>
    (xixO 0 (((a0 : (List T_api_Linked)).map cellsOf).length) x72).bind fun j85 =>
    (xldO x73 (((a0 : (List T_api_Linked)).map cellsOf).length) j85).bind fun x86 =>
    (xixO 0 (((a0 : (List T_api_Linked)).map cellsOf).length) x72).bind fun j87 =>
    (xldO x73 (((a0 : (List T_api_Linked)).map cellsOf).length) j87).bind fun x88 =>
    (xixO 0 (((a0 : (List T_api_Linked)).map cellsOf).length) (w64 (x72 - 1))).bind fun j89 =>
    (xldO (x73.set j87 x84) (((a0 : (List T_api_Linked)).map cellsOf).length) j89).bind fun x90 =>
    some (.inl (w64 (x72 - 1), ((x73.set j87 x84).set j89 x86)))
  ) else (
    some (.inr (.inl x73))
  )

noncomputable def d_slices_symMergeCmpFunc_api_Linked_4 (a0 : (List T_api_Linked)) (a1 : Int) (a2 : Int) (a3 : Int) : (Int × Int) → Option ((Int × Int) ⊕ (Int ⊕ (List T_api_Linked))) := fun (x98, x99) =>
  bif decide (x98 < x99) then (
    (xixO 0 (((a0 : (List T_api_Linked)).map cellsOf).length) (w64 ((w64 ((w64 ((w64 ((IntKind.u64.wrap (w64 (a1 + a3))).fdiv 2)) + a2)) - 1)) - (w64 ((IntKind.u64.wrap (w64 (x98 + x99))).fdiv 2))))).bind fun j106 =>
    (xldO a0 (((a0 : (List T_api_Linked)).map cellsOf).length) j106).bind fun x107 =>
    (xixO 0 (((a0 : (List T_api_Linked)).map cellsOf).length) (w64 ((IntKind.u64.wrap (w64 (x98 + x99))).fdiv 2))).bind fun j108 =>
    (xldO a0 (((a0 : (List T_api_Linked)).map cellsOf).length) j108).bind fun x109 =>
    (d_linking_Of_c1 x107 x109).bind fun r110 =>
    bif (!(decide (r110 < 0))) then (
      some (.inl (w64 ((w64 ((IntKind.u64.wrap (w64 (x98 + x99))).fdiv 2)) + 1), x99))
    ) else (
      some (.inl (x98, w64 ((IntKind.u64.wrap (w64 (x98 + x99))).fdiv 2)))
    )
  ) else (
    some (.inr (.inl x98))
  )

noncomputable def d_slices_symMergeCmpFunc_api_Linked__linking_Of_c1_F (rc_d_slices_symMergeCmpFunc_api_Linked__linking_Of_c1 : (List T_api_Linked) → Int → Int → Int → Option (List T_api_Linked)) (a0 : (List T_api_Linked)) (a1 : Int) (a2 : Int) (a3 : Int) : Option (List T_api_Linked) :=
  bif decide ((w64 (a2 - a1)) = 1) then (
    onInl (α := Int) (β := (List T_api_Linked)) (loopO (d_slices_symMergeCmpFunc_api_Linked_0 a0 a1) (a2, a3)) fun x13 =>
    onInl (α := (List T_api_Linked)) (β := (List T_api_Linked)) (loopO (d_slices_symMergeCmpFunc_api_Linked_1 a0 x13) (a1, a0)) fun x37 =>
    some x37
  ) else (
    bif decide ((w64 (a3 - a2)) = 1) then (
      onInl (α := Int) (β := (List T_api_Linked)) (loopO (d_slices_symMergeCmpFunc_api_Linked_2 a0 a2) (a1, a2)) fun x58 =>
      onInl (α := (List T_api_Linked)) (β := (List T_api_Linked)) (loopO (d_slices_symMergeCmpFunc_api_Linked_3 a0 x58) (a2, a0)) fun x82 =>
      some x82
    ) else (
      onInl (α := (Int × Int)) (β := (List T_api_Linked)) (
        bif decide ((w64 ((IntKind.u64.wrap (w64 (a1 + a3))).fdiv 2)) < a2) then (
          some (.inl (w64 ((w64 ((w64 ((IntKind.u64.wrap (w64 (a1 + a3))).fdiv 2)) + a2)) - a3), w64 ((IntKind.u64.wrap (w64 (a1 + a3))).fdiv 2)))
        ) else (
          some (.inl (a1, a2))
        )
      ) fun (x91, x92) =>
      onInl (α := Int) (β := (List T_api_Linked)) (loopO (d_slices_symMergeCmpFunc_api_Linked_4 a0 a1 a2 a3) (x91, x92)) fun x105 =>
      onInl (α := (List T_api_Linked)) (β := (List T_api_Linked)) (
        bif ((decide (x105 < a2)) && (decide (a2 < (w64 ((w64 ((w64 ((IntKind.u64.wrap (w64 (a1 + a3))).fdiv 2)) + a2)) - x105))))) then (
          (d_slices_rotateCmpFunc_api_Linked__linking_Of_c1 a0 x105 a2 (w64 ((w64 ((w64 ((IntKind.u64.wrap (w64 (a1 + a3))).fdiv 2)) + a2)) - x105))).bind fun r113 =>
          some (.inl r113)
        ) else (
          some (.inl a0)
        )
      ) fun x112 =>
      onInl (α := (List T_api_Linked)) (β := (List T_api_Linked)) (
        bif ((decide (a1 < x105)) && (decide (x105 < (w64 ((IntKind.u64.wrap (w64 (a1 + a3))).fdiv 2))))) then (
          (rc_d_slices_symMergeCmpFunc_api_Linked__linking_Of_c1 x112 a1 x105 (w64 ((IntKind.u64.wrap (w64 (a1 + a3))).fdiv 2))).bind fun r116 =>
          some (.inl r116)
        ) else (
          some (.inl x112)
        )
      ) fun x115 =>
      bif ((decide ((w64 ((IntKind.u64.wrap (w64 (a1 + a3))).fdiv 2)) < (w64 ((w64 ((w64 ((IntKind.u64.wrap (w64 (a1 + a3))).fdiv 2)) + a2)) - x105)))) && (decide ((w64 ((w64 ((w64 ((IntKind.u64.wrap (w64 (a1 + a3))).fdiv 2)) + a2)) - x105)) < a3))) then (
        (rc_d_slices_symMergeCmpFunc_api_Linked__linking_Of_c1 x115 (w64 ((IntKind.u64.wrap (w64 (a1 + a3))).fdiv 2)) (w64 ((w64 ((w64 ((IntKind.u64.wrap (w64 (a1 + a3))).fdiv 2)) + a2)) - x105)) a3).bind fun r117 =>
        some r117
      ) else (
        some x115
      )
    )
  )
theorem d_slices_symMergeCmpFunc_api_Linked__linking_Of_c1_F_xc (rc_d_slices_symMergeCmpFunc_api_Linked__linking_Of_c1 : (List T_api_Linked) → Int → Int → Int → Option (List T_api_Linked)) (hrc_d_slices_symMergeCmpFunc_api_Linked__linking_Of_c1 : ∀ (a0 : (List T_api_Linked)) (a1 : Int) (a2 : Int) (a3 : Int) (r : (List T_api_Linked)), rc_d_slices_symMergeCmpFunc_api_Linked__linking_Of_c1 a0 a1 a2 a3 = some r → XCall Go.Proofs.Tryd.prog GlS 88 2 16 (a0.map cellsOf) [Enc.pv a1, Enc.pv a2, Enc.pv a3, .fn 55 []] none (r.map cellsOf)) (a0 : (List T_api_Linked)) (a1 : Int) (a2 : Int) (a3 : Int) (r : (List T_api_Linked)) (h : d_slices_symMergeCmpFunc_api_Linked__linking_Of_c1_F rc_d_slices_symMergeCmpFunc_api_Linked__linking_Of_c1 a0 a1 a2 a3 = some r) : XCall Go.Proofs.Tryd.prog GlS 88 2 16 (a0.map cellsOf) [Enc.pv a1, Enc.pv a2, Enc.pv a3, .fn 55 []] none (r.map cellsOf) := by
  unfold d_slices_symMergeCmpFunc_api_Linked__linking_Of_c1_F at h
  refine xcall_of_pwpW Go.Proofs.Tryd.func88 (by rfl) rfl Go.Proofs.Tryd.ntmps88 (by rfl) rfl ?_
  refine pwp_seq (pwp_seq (r_reg ?_))
  refine zE ?_
  refine q_next ?_
  rcases o_cond h with ⟨hb, h⟩ | ⟨hb, h⟩
  · refine zT hb ?_
    refine pwp_seq (r_reg ?_)
    refine zE ?_
    refine q_next (pwp_seq (r_reg ?_))
    refine zE ?_
    refine q_next (pwp_seq (pwp_block ?_))
    obtain ⟨o12, h12, h⟩ := o_inl h
    refine r_loop2 220 0 (fun (x6, x7) => ⟨[(0, .ex 1000000000 2 16 (((a0 : (List T_api_Linked)).map cellsOf).length) 0 (((a0 : (List T_api_Linked)).map cellsOf).length)), (1, .int .i64 a1), (4, .fn 55 []), (10, .int .i64 x6), (11, .int .i64 x7)], [], [(1000000000, (((a0 : (List T_api_Linked)).map cellsOf).length, 0))], [(1000000000, (2, (16, (a0 : (List T_api_Linked)).map cellsOf)))]⟩) (fun x13 => ⟨[(0, .ex 1000000000 2 16 (((a0 : (List T_api_Linked)).map cellsOf).length) 0 (((a0 : (List T_api_Linked)).map cellsOf).length)), (1, .int .i64 a1), (10, .int .i64 x13)], [], [(1000000000, (((a0 : (List T_api_Linked)).map cellsOf).length, 0))], [(1000000000, (2, (16, (a0 : (List T_api_Linked)).map cellsOf)))]⟩) h12 (by kernel_rfl) (fun _ => by kernel_rfl) ?_ ?_
    · rintro ⟨x6, x7⟩ oh11 h11
      unfold d_slices_symMergeCmpFunc_api_Linked_0 at h11
      refine pwp_seq (pwp_seq (r_reg ?_))
      refine zE ?_
      refine q_next ?_
      rcases o_cond h11 with ⟨hb, h11⟩ | ⟨hb, h11⟩
      · refine zT hb ?_
        refine pwp_skip (q_next (pwp_block (pwp_seq (r_reg ?_))))
        refine zE ?_
        refine q_next (pwp_seq ?_)
        refine r_regd (by kernel_rfl) (by kernel_rfl) ?_
        refine zR 3 ?_
        obtain ⟨j14, h13, h11⟩ := o_bind h11
        refine p_xix (tk := 1000000000) (k := 2) (N := ((a0 : (List T_api_Linked)).map cellsOf).length) h13 (by kernel_rfl) ?_
        obtain ⟨x15, h14, h11⟩ := o_bind h11
        refine p_xld (L := (a0 : (List T_api_Linked))) (N := ((a0 : (List T_api_Linked)).map cellsOf).length) (j := j14) (y := x15) (v := Enc.pv x15) h14 true 2 0 (by kernel_rfl) (by kernel_rfl) ?_
        refine zR 2 ?_
        obtain ⟨j16, h15, h11⟩ := o_bind h11
        refine p_xix (tk := 1000000000) (k := 2) (N := ((a0 : (List T_api_Linked)).map cellsOf).length) h15 (by kernel_rfl) ?_
        obtain ⟨x17, h16, h11⟩ := o_bind h11
        refine p_xld (L := (a0 : (List T_api_Linked))) (N := ((a0 : (List T_api_Linked)).map cellsOf).length) (j := j16) (y := x17) (v := Enc.pv x17) h16 true 2 0 (by kernel_rfl) (by kernel_rfl) ?_
        obtain ⟨r18, h17, h11⟩ := o_bind h11
        refine p_call (d_linking_Of_c1_ok _ _ r18 h17) (by kernel_rfl) (by kernel_rfl) ?_
        refine zE ?_
        refine q_next ?_
        rcases o_cond h11 with ⟨hb, h11⟩ | ⟨hb, h11⟩
        · refine zT hb ?_
          refine r_reg ?_
          refine zE ?_
          refine q_block ?_
          cases h11
          exact zB
        refine zU hb ?_
        refine r_reg ?_
        refine zE ?_
        refine q_block ?_
        cases h11
        exact zB
      refine zU hb ?_
      refine pwp_exit (q_seq_exit ?_)
      cases h11
      exact zX
    rintro x13 s' rfl hs
    have h := o_outl h
    refine q_block_hit ?_
    refine q_next (pwp_wkr hs ?_)
    refine pwp_seq (pwp_seq (r_reg ?_))
    refine zE ?_
    refine q_next (pwp_block ?_)
    obtain ⟨o35, h35, h⟩ := o_inl h
    refine r_loop2 220 2 (fun (x27, x28) => ⟨[(0, .ex 1000000000 2 16 (((a0 : (List T_api_Linked)).map cellsOf).length) 0 (((a0 : (List T_api_Linked)).map cellsOf).length)), (10, .int .i64 x13), (13, .int .i64 x27)], [], [(1000000000, (((a0 : (List T_api_Linked)).map cellsOf).length, 0))], [(1000000000, (2, (16, (x28 : (List T_api_Linked)).map cellsOf)))]⟩) (fun x37 => ⟨[], [], [(1000000000, (((a0 : (List T_api_Linked)).map cellsOf).length, 0))], [(1000000000, (2, (16, (x37 : (List T_api_Linked)).map cellsOf)))]⟩) h35 (by kernel_rfl) (fun _ => by kernel_rfl) ?_ ?_
    · rintro ⟨x27, x28⟩ oh34 h34
      unfold d_slices_symMergeCmpFunc_api_Linked_1 at h34
      refine pwp_seq (pwp_seq (r_reg ?_))
      refine zE ?_
      refine q_next ?_
      rcases o_cond h34 with ⟨hb, h34⟩ | ⟨hb, h34⟩
      · refine zT hb ?_
        refine pwp_skip (q_next (pwp_seq (pwp_block ?_)))
        refine r_regd (by kernel_rfl) (by kernel_rfl) ?_
        refine zR 8 ?_
        obtain ⟨j38, h36, h34⟩ := o_bind h34
        refine p_xix (tk := 1000000000) (k := 2) (N := ((a0 : (List T_api_Linked)).map cellsOf).length) h36 (by kernel_rfl) ?_
        obtain ⟨x39, h37, h34⟩ := o_bind h34
        refine p_xld (L := (x28 : (List T_api_Linked))) (N := ((a0 : (List T_api_Linked)).map cellsOf).length) (j := j38) (y := x39) (v := Enc.pv x39) h37 true 2 0 (by kernel_rfl) (by kernel_rfl) ?_
        refine zR 2 ?_
        obtain ⟨j40, h38, h34⟩ := o_bind h34
        refine p_xix (tk := 1000000000) (k := 2) (N := ((a0 : (List T_api_Linked)).map cellsOf).length) h38 (by kernel_rfl) ?_
        obtain ⟨x41, h39, h34⟩ := o_bind h34
        refine p_xld (L := (x28 : (List T_api_Linked))) (N := ((a0 : (List T_api_Linked)).map cellsOf).length) (j := j40) (y := x41) (v := Enc.pv x41) h39 true 2 0 (by kernel_rfl) (by kernel_rfl) ?_
        obtain ⟨j42, h40, h34⟩ := o_bind h34
        refine p_xix (tk := 1000000000) (k := 2) (N := ((a0 : (List T_api_Linked)).map cellsOf).length) h40 (by kernel_rfl) ?_
        obtain ⟨x43, h41, h34⟩ := o_bind h34
        refine p_xst (L := (x28 : (List T_api_Linked))) (tk := 1000000000) (N := ((a0 : (List T_api_Linked)).map cellsOf).length) (j := j42) (y := x43) (y' := x39) h41 0 2 [.int .i64 x39.Id, .int .i64 x39.At] (by kernel_rfl) (by kernel_rfl) ?_
        obtain ⟨j44, h42, h34⟩ := o_bind h34
        refine p_xix (tk := 1000000000) (k := 2) (N := ((a0 : (List T_api_Linked)).map cellsOf).length) h42 (by kernel_rfl) ?_
        obtain ⟨x45, h43, h34⟩ := o_bind h34
        refine p_xst (L := ((x28.set j42 x39) : (List T_api_Linked))) (tk := 1000000000) (N := ((a0 : (List T_api_Linked)).map cellsOf).length) (j := j44) (y := x45) (y' := x41) h43 0 2 [.int .i64 x41.Id, .int .i64 x41.At] (by kernel_rfl) (by kernel_rfl) ?_
        refine zN ?_
        refine q_block (q_next (r_reg ?_))
        refine zE ?_
        cases h34
        exact zB
      refine zU hb ?_
      refine pwp_exit (q_seq_exit ?_)
      cases h34
      exact zX
    rintro x37 s' rfl hs
    have h := o_outl h
    refine q_block_hit ?_
    refine q_next (pwp_wkr hs ?_)
    refine pwp_ret (q_seq_ret ?_)
    cases h
    exact q_xretW (by kernel_rfl)
  refine zU hb ?_
  refine pwp_skip (q_next (pwp_seq (pwp_seq (r_reg ?_))))
  refine zE ?_
  refine q_next ?_
  rcases o_cond h with ⟨hb, h⟩ | ⟨hb, h⟩
  · refine zT hb ?_
    refine pwp_seq (r_reg ?_)
    refine zE ?_
    refine q_next (pwp_seq (r_reg ?_))
    refine zE ?_
    refine q_next (pwp_seq (pwp_block ?_))
    obtain ⟨o55, h55, h⟩ := o_inl h
    refine r_loop2 220 4 (fun (x51, x52) => ⟨[(0, .ex 1000000000 2 16 (((a0 : (List T_api_Linked)).map cellsOf).length) 0 (((a0 : (List T_api_Linked)).map cellsOf).length)), (2, .int .i64 a2), (4, .fn 55 []), (14, .int .i64 x51), (15, .int .i64 x52)], [], [(1000000000, (((a0 : (List T_api_Linked)).map cellsOf).length, 0))], [(1000000000, (2, (16, (a0 : (List T_api_Linked)).map cellsOf)))]⟩) (fun x58 => ⟨[(0, .ex 1000000000 2 16 (((a0 : (List T_api_Linked)).map cellsOf).length) 0 (((a0 : (List T_api_Linked)).map cellsOf).length)), (2, .int .i64 a2), (14, .int .i64 x58)], [], [(1000000000, (((a0 : (List T_api_Linked)).map cellsOf).length, 0))], [(1000000000, (2, (16, (a0 : (List T_api_Linked)).map cellsOf)))]⟩) h55 (by kernel_rfl) (fun _ => by kernel_rfl) ?_ ?_
    · rintro ⟨x51, x52⟩ oh54 h54
      unfold d_slices_symMergeCmpFunc_api_Linked_2 at h54
      refine pwp_seq (pwp_seq (r_reg ?_))
      refine zE ?_
      refine q_next ?_
      rcases o_cond h54 with ⟨hb, h54⟩ | ⟨hb, h54⟩
      · refine zT hb ?_
        refine pwp_skip (q_next (pwp_block (pwp_seq (r_reg ?_))))
        refine zE ?_
        refine q_next (pwp_seq ?_)
        refine r_regd (by kernel_rfl) (by kernel_rfl) ?_
        refine zR 3 ?_
        obtain ⟨j59, h56, h54⟩ := o_bind h54
        refine p_xix (tk := 1000000000) (k := 2) (N := ((a0 : (List T_api_Linked)).map cellsOf).length) h56 (by kernel_rfl) ?_
        obtain ⟨x60, h57, h54⟩ := o_bind h54
        refine p_xld (L := (a0 : (List T_api_Linked))) (N := ((a0 : (List T_api_Linked)).map cellsOf).length) (j := j59) (y := x60) (v := Enc.pv x60) h57 true 2 0 (by kernel_rfl) (by kernel_rfl) ?_
        refine zR 2 ?_
        obtain ⟨j61, h58, h54⟩ := o_bind h54
        refine p_xix (tk := 1000000000) (k := 2) (N := ((a0 : (List T_api_Linked)).map cellsOf).length) h58 (by kernel_rfl) ?_
        obtain ⟨x62, h59, h54⟩ := o_bind h54
        refine p_xld (L := (a0 : (List T_api_Linked))) (N := ((a0 : (List T_api_Linked)).map cellsOf).length) (j := j61) (y := x62) (v := Enc.pv x62) h59 true 2 0 (by kernel_rfl) (by kernel_rfl) ?_
        obtain ⟨r63, h60, h54⟩ := o_bind h54
        refine p_call (d_linking_Of_c1_ok _ _ r63 h60) (by kernel_rfl) (by kernel_rfl) ?_
        refine zE ?_
        refine q_next ?_
        rcases o_cond h54 with ⟨hb, h54⟩ | ⟨hb, h54⟩
        · refine zT hb ?_
          refine r_reg ?_
          refine zE ?_
          refine q_block ?_
          cases h54
          exact zB
        refine zU hb ?_
        refine r_reg ?_
        refine zE ?_
        refine q_block ?_
        cases h54
        exact zB
      refine zU hb ?_
      refine pwp_exit (q_seq_exit ?_)
      cases h54
      exact zX
    rintro x58 s' rfl hs
    have h := o_outl h
    refine q_block_hit ?_
    refine q_next (pwp_wkr hs ?_)
    refine pwp_seq (pwp_seq (r_reg ?_))
    refine zE ?_
    refine q_next (pwp_block ?_)
    obtain ⟨o78, h78, h⟩ := o_inl h
    refine r_loop2 220 6 (fun (x72, x73) => ⟨[(0, .ex 1000000000 2 16 (((a0 : (List T_api_Linked)).map cellsOf).length) 0 (((a0 : (List T_api_Linked)).map cellsOf).length)), (14, .int .i64 x58), (17, .int .i64 x72)], [], [(1000000000, (((a0 : (List T_api_Linked)).map cellsOf).length, 0))], [(1000000000, (2, (16, (x73 : (List T_api_Linked)).map cellsOf)))]⟩) (fun x82 => ⟨[], [], [(1000000000, (((a0 : (List T_api_Linked)).map cellsOf).length, 0))], [(1000000000, (2, (16, (x82 : (List T_api_Linked)).map cellsOf)))]⟩) h78 (by kernel_rfl) (fun _ => by kernel_rfl) ?_ ?_
    · rintro ⟨x72, x73⟩ oh77 h77
      unfold d_slices_symMergeCmpFunc_api_Linked_3 at h77
      refine pwp_seq (pwp_seq (r_reg ?_))
      refine zE ?_
      refine q_next ?_
      rcases o_cond h77 with ⟨hb, h77⟩ | ⟨hb, h77⟩
      · refine zT hb ?_
        refine pwp_skip (q_next (pwp_seq (pwp_block ?_)))
        refine r_regd (by kernel_rfl) (by kernel_rfl) ?_
        refine zR 8 ?_
        obtain ⟨j83, h79, h77⟩ := o_bind h77
        refine p_xix (tk := 1000000000) (k := 2) (N := ((a0 : (List T_api_Linked)).map cellsOf).length) h79 (by kernel_rfl) ?_
        obtain ⟨x84, h80, h77⟩ := o_bind h77
        refine p_xld (L := (x73 : (List T_api_Linked))) (N := ((a0 : (List T_api_Linked)).map cellsOf).length) (j := j83) (y := x84) (v := Enc.pv x84) h80 true 2 0 (by kernel_rfl) (by kernel_rfl) ?_
        refine zR 2 ?_
        obtain ⟨j85, h81, h77⟩ := o_bind h77
        refine p_xix (tk := 1000000000) (k := 2) (N := ((a0 : (List T_api_Linked)).map cellsOf).length) h81 (by kernel_rfl) ?_
        obtain ⟨x86, h82, h77⟩ := o_bind h77
        refine p_xld (L := (x73 : (List T_api_Linked))) (N := ((a0 : (List T_api_Linked)).map cellsOf).length) (j := j85) (y := x86) (v := Enc.pv x86) h82 true 2 0 (by kernel_rfl) (by kernel_rfl) ?_
        obtain ⟨j87, h83, h77⟩ := o_bind h77
        refine p_xix (tk := 1000000000) (k := 2) (N := ((a0 : (List T_api_Linked)).map cellsOf).length) h83 (by kernel_rfl) ?_
        obtain ⟨x88, h84, h77⟩ := o_bind h77
        refine p_xst (L := (x73 : (List T_api_Linked))) (tk := 1000000000) (N := ((a0 : (List T_api_Linked)).map cellsOf).length) (j := j87) (y := x88) (y' := x84) h84 0 2 [.int .i64 x84.Id, .int .i64 x84.At] (by kernel_rfl) (by kernel_rfl) ?_
        obtain ⟨j89, h85, h77⟩ := o_bind h77
        refine p_xix (tk := 1000000000) (k := 2) (N := ((a0 : (List T_api_Linked)).map cellsOf).length) h85 (by kernel_rfl) ?_
        obtain ⟨x90, h86, h77⟩ := o_bind h77
        refine p_xst (L := ((x73.set j87 x84) : (List T_api_Linked))) (tk := 1000000000) (N := ((a0 : (List T_api_Linked)).map cellsOf).length) (j := j89) (y := x90) (y' := x86) h86 0 2 [.int .i64 x86.Id, .int .i64 x86.At] (by kernel_rfl) (by kernel_rfl) ?_
        refine zN ?_
        refine q_block (q_next (r_reg ?_))
        refine zE ?_
        cases h77
        exact zB
      refine zU hb ?_
      refine pwp_exit (q_seq_exit ?_)
      cases h77
      exact zX
    rintro x82 s' rfl hs
    have h := o_outl h
    refine q_block_hit ?_
    refine q_next (pwp_wkr hs ?_)
    refine pwp_ret (q_seq_ret ?_)
    cases h
    exact q_xretW (by kernel_rfl)
  refine zU hb ?_
  refine pwp_skip (q_next (pwp_seq (r_reg ?_)))
  refine zE ?_
  refine q_next (pwp_seq (r_reg ?_))
  refine zE ?_
  refine q_next (pwp_seq (r_reg ?_))
  refine zE ?_
  refine q_next ?_
  obtain ⟨o87, h87, h⟩ := o_inl h
  refine r_join (o := o87) 220 (fun (x91, x92) => ⟨[(0, .ex 1000000000 2 16 (((a0 : (List T_api_Linked)).map cellsOf).length) 0 (((a0 : (List T_api_Linked)).map cellsOf).length)), (1, .int .i64 a1), (2, .int .i64 a2), (3, .int .i64 a3), (4, .fn 55 []), (18, .int .i64 (w64 ((IntKind.u64.wrap (w64 (a1 + a3))).fdiv 2))), (19, .int .i64 (w64 ((w64 ((IntKind.u64.wrap (w64 (a1 + a3))).fdiv 2)) + a2))), (20, .int .i64 x91), (21, .int .i64 x92)], [], [(1000000000, (((a0 : (List T_api_Linked)).map cellsOf).length, 0))], [(1000000000, (2, (16, (a0 : (List T_api_Linked)).map cellsOf)))]⟩) ?_ ?_
  · refine pwp_seq (r_reg ?_)
    refine zE ?_
    refine q_next ?_
    rcases o_cond h87 with ⟨hb, h87⟩ | ⟨hb, h87⟩
    · refine zT hb ?_
      refine pwp_seq (r_reg ?_)
      refine zE ?_
      refine q_next (r_reg ?_)
      refine zE ?_
      cases h87
      exact zJ
    refine zU hb ?_
    refine pwp_seq (r_reg ?_)
    refine zE ?_
    refine q_next (r_reg ?_)
    refine zE ?_
    cases h87
    exact zJ
  rintro ⟨x91, x92⟩ rfl
  have h := o_outl h
  refine pwp_seq (r_reg ?_)
  refine zE ?_
  refine q_next (pwp_seq (pwp_block ?_))
  obtain ⟨o99, h99, h⟩ := o_inl h
  refine r_loop2 220 8 (fun (x98, x99) => ⟨[(0, .ex 1000000000 2 16 (((a0 : (List T_api_Linked)).map cellsOf).length) 0 (((a0 : (List T_api_Linked)).map cellsOf).length)), (1, .int .i64 a1), (2, .int .i64 a2), (3, .int .i64 a3), (4, .fn 55 []), (18, .int .i64 (w64 ((IntKind.u64.wrap (w64 (a1 + a3))).fdiv 2))), (19, .int .i64 (w64 ((w64 ((IntKind.u64.wrap (w64 (a1 + a3))).fdiv 2)) + a2))), (20, .int .i64 x98), (21, .int .i64 x99), (22, .int .i64 (w64 ((w64 ((w64 ((IntKind.u64.wrap (w64 (a1 + a3))).fdiv 2)) + a2)) - 1)))], [], [(1000000000, (((a0 : (List T_api_Linked)).map cellsOf).length, 0))], [(1000000000, (2, (16, (a0 : (List T_api_Linked)).map cellsOf)))]⟩) (fun x105 => ⟨[(0, .ex 1000000000 2 16 (((a0 : (List T_api_Linked)).map cellsOf).length) 0 (((a0 : (List T_api_Linked)).map cellsOf).length)), (1, .int .i64 a1), (2, .int .i64 a2), (3, .int .i64 a3), (4, .fn 55 []), (18, .int .i64 (w64 ((IntKind.u64.wrap (w64 (a1 + a3))).fdiv 2))), (19, .int .i64 (w64 ((w64 ((IntKind.u64.wrap (w64 (a1 + a3))).fdiv 2)) + a2))), (20, .int .i64 x105)], [], [(1000000000, (((a0 : (List T_api_Linked)).map cellsOf).length, 0))], [(1000000000, (2, (16, (a0 : (List T_api_Linked)).map cellsOf)))]⟩) h99 (by kernel_rfl) (fun _ => by kernel_rfl) ?_ ?_
  · rintro ⟨x98, x99⟩ oh98 h98
    unfold d_slices_symMergeCmpFunc_api_Linked_4 at h98
    refine pwp_seq (pwp_seq (r_reg ?_))
    refine zE ?_
    refine q_next ?_
    rcases o_cond h98 with ⟨hb, h98⟩ | ⟨hb, h98⟩
    · refine zT hb ?_
      refine pwp_skip (q_next (pwp_block (pwp_seq (r_reg ?_))))
      refine zE ?_
      refine q_next (pwp_seq ?_)
      refine r_regd (by kernel_rfl) (by kernel_rfl) ?_
      refine zR 5 ?_
      obtain ⟨j106, h100, h98⟩ := o_bind h98
      refine p_xix (tk := 1000000000) (k := 2) (N := ((a0 : (List T_api_Linked)).map cellsOf).length) h100 (by kernel_rfl) ?_
      obtain ⟨x107, h101, h98⟩ := o_bind h98
      refine p_xld (L := (a0 : (List T_api_Linked))) (N := ((a0 : (List T_api_Linked)).map cellsOf).length) (j := j106) (y := x107) (v := Enc.pv x107) h101 true 2 0 (by kernel_rfl) (by kernel_rfl) ?_
      refine zR 2 ?_
      obtain ⟨j108, h102, h98⟩ := o_bind h98
      refine p_xix (tk := 1000000000) (k := 2) (N := ((a0 : (List T_api_Linked)).map cellsOf).length) h102 (by kernel_rfl) ?_
      obtain ⟨x109, h103, h98⟩ := o_bind h98
      refine p_xld (L := (a0 : (List T_api_Linked))) (N := ((a0 : (List T_api_Linked)).map cellsOf).length) (j := j108) (y := x109) (v := Enc.pv x109) h103 true 2 0 (by kernel_rfl) (by kernel_rfl) ?_
      obtain ⟨r110, h104, h98⟩ := o_bind h98
      refine p_call (d_linking_Of_c1_ok _ _ r110 h104) (by kernel_rfl) (by kernel_rfl) ?_
      refine zE ?_
      refine q_next ?_
      rcases o_cond h98 with ⟨hb, h98⟩ | ⟨hb, h98⟩
      · refine zT hb ?_
        refine r_reg ?_
        refine zE ?_
        refine q_block ?_
        cases h98
        exact zB
      refine zU hb ?_
      refine r_reg ?_
      refine zE ?_
      refine q_block ?_
      cases h98
      exact zB
    refine zU hb ?_
    refine pwp_exit (q_seq_exit ?_)
    cases h98
    exact zX
  rintro x105 s' rfl hs
  have h := o_outl h
  refine q_block_hit ?_
  refine q_next (pwp_wkr hs ?_)
  refine pwp_seq (r_reg ?_)
  refine zE ?_
  refine q_next ?_
  obtain ⟨o106, h106, h⟩ := o_inl h
  refine r_join (o := o106) 220 (fun x112 => ⟨[(0, .ex 1000000000 2 16 (((a0 : (List T_api_Linked)).map cellsOf).length) 0 (((a0 : (List T_api_Linked)).map cellsOf).length)), (1, .int .i64 a1), (3, .int .i64 a3), (4, .fn 55 []), (18, .int .i64 (w64 ((IntKind.u64.wrap (w64 (a1 + a3))).fdiv 2))), (20, .int .i64 x105), (24, .int .i64 (w64 ((w64 ((w64 ((IntKind.u64.wrap (w64 (a1 + a3))).fdiv 2)) + a2)) - x105)))], [], [(1000000000, (((a0 : (List T_api_Linked)).map cellsOf).length, 0))], [(1000000000, (2, (16, (x112 : (List T_api_Linked)).map cellsOf)))]⟩) ?_ ?_
  · refine pwp_seq (r_reg ?_)
    refine zR 4 ?_
    refine e_segb 4 185 ((decide (x105 < a2)) && (decide (a2 < (w64 ((w64 ((w64 ((IntKind.u64.wrap (w64 (a1 + a3))).fdiv 2)) + a2)) - x105))))) (fun x hx => ?_) ?_
    · rcases b_and hx with ⟨hb, hx⟩ | ⟨hb, hx⟩
      · refine zS 181 hb ?_
        subst hx
        exact zF
      refine zS 181 hb ?_
      subst hx
      exact zF
    refine zN ?_
    refine q_next ?_
    rcases o_cond h106 with ⟨hb, h106⟩ | ⟨hb, h106⟩
    · refine zT hb ?_
      refine r_reg ?_
      refine zR 5 ?_
      obtain ⟨r113, h107, h106⟩ := o_bind h106
      refine p_xcall (t := 1000000000) (L := (a0 : (List T_api_Linked))) (L' := (r113 : (List T_api_Linked))) (N := ((a0 : (List T_api_Linked)).map cellsOf).length) (by kernel_rfl) (by kernel_rfl) (by kernel_rfl) (d_slices_rotateCmpFunc_api_Linked__linking_Of_c1_xc _ _ _ _ r113 h107) ?_
      refine zN ?_
      cases h106
      exact zJ
    refine zU hb ?_
    refine pwp_skip ?_
    cases h106
    exact zJ
  rintro x112 rfl
  have h := o_outl h
  obtain ⟨o109, h109, h⟩ := o_inl h
  refine r_join (o := o109) 220 (fun x115 => ⟨[(0, .ex 1000000000 2 16 (((a0 : (List T_api_Linked)).map cellsOf).length) 0 (((a0 : (List T_api_Linked)).map cellsOf).length)), (3, .int .i64 a3), (4, .fn 55 []), (18, .int .i64 (w64 ((IntKind.u64.wrap (w64 (a1 + a3))).fdiv 2))), (24, .int .i64 (w64 ((w64 ((w64 ((IntKind.u64.wrap (w64 (a1 + a3))).fdiv 2)) + a2)) - x105)))], [], [(1000000000, (((a0 : (List T_api_Linked)).map cellsOf).length, 0))], [(1000000000, (2, (16, (x115 : (List T_api_Linked)).map cellsOf)))]⟩) ?_ ?_
  · refine pwp_seq (r_reg ?_)
    refine zR 4 ?_
    refine e_segb 4 199 ((decide (a1 < x105)) && (decide (x105 < (w64 ((IntKind.u64.wrap (w64 (a1 + a3))).fdiv 2))))) (fun x hx => ?_) ?_
    · rcases b_and hx with ⟨hb, hx⟩ | ⟨hb, hx⟩
      · refine zS 195 hb ?_
        subst hx
        exact zF
      refine zS 195 hb ?_
      subst hx
      exact zF
    refine zN ?_
    refine q_next ?_
    rcases o_cond h109 with ⟨hb, h109⟩ | ⟨hb, h109⟩
    · refine zT hb ?_
      refine r_reg ?_
      refine zR 5 ?_
      obtain ⟨r116, h110, h109⟩ := o_bind h109
      refine p_xcall (t := 1000000000) (L := (x112 : (List T_api_Linked))) (L' := (r116 : (List T_api_Linked))) (N := ((a0 : (List T_api_Linked)).map cellsOf).length) (by kernel_rfl) (by kernel_rfl) (by kernel_rfl) (hrc_d_slices_symMergeCmpFunc_api_Linked__linking_Of_c1 _ _ _ _ r116 h110) ?_
      refine zN ?_
      cases h109
      exact zJ
    refine zU hb ?_
    refine pwp_skip ?_
    cases h109
    exact zJ
  rintro x115 rfl
  have h := o_outl h
  refine pwp_seq (r_reg ?_)
  refine zR 4 ?_
  refine e_segb 4 213 ((decide ((w64 ((IntKind.u64.wrap (w64 (a1 + a3))).fdiv 2)) < (w64 ((w64 ((w64 ((IntKind.u64.wrap (w64 (a1 + a3))).fdiv 2)) + a2)) - x105)))) && (decide ((w64 ((w64 ((w64 ((IntKind.u64.wrap (w64 (a1 + a3))).fdiv 2)) + a2)) - x105)) < a3))) (fun x hx => ?_) ?_
  · rcases b_and hx with ⟨hb, hx⟩ | ⟨hb, hx⟩
    · refine zS 209 hb ?_
      subst hx
      exact zF
    refine zS 209 hb ?_
    subst hx
    exact zF
  refine zN ?_
  refine q_next ?_
  rcases o_cond h with ⟨hb, h⟩ | ⟨hb, h⟩
  · refine zT hb ?_
    refine r_reg ?_
    refine zR 5 ?_
    obtain ⟨r117, h111, h⟩ := o_bind h
    refine p_xcall (t := 1000000000) (L := (x115 : (List T_api_Linked))) (L' := (r117 : (List T_api_Linked))) (N := ((a0 : (List T_api_Linked)).map cellsOf).length) (by kernel_rfl) (by kernel_rfl) (by kernel_rfl) (hrc_d_slices_symMergeCmpFunc_api_Linked__linking_Of_c1 _ _ _ _ r117 h111) ?_
    refine zN ?_
    cases h
    exact q_xretW (by kernel_rfl)
  refine zU hb ?_
  refine pwp_skip ?_
  cases h
  exact q_xretW (by kernel_rfl)
noncomputable def d_slices_symMergeCmpFunc_api_Linked__linking_Of_c1_N (n : Nat) : (List T_api_Linked) → Int → Int → Int → Option (List T_api_Linked) := Nat.rec (fun _ _ _ _ => none) (fun _ ih => d_slices_symMergeCmpFunc_api_Linked__linking_Of_c1_F ih) n
theorem d_slices_symMergeCmpFunc_api_Linked__linking_Of_c1_N_xc : ∀ (n : Nat) (a0 : (List T_api_Linked)) (a1 : Int) (a2 : Int) (a3 : Int) (r : (List T_api_Linked)), d_slices_symMergeCmpFunc_api_Linked__linking_Of_c1_N n a0 a1 a2 a3 = some r → XCall Go.Proofs.Tryd.prog GlS 88 2 16 (a0.map cellsOf) [Enc.pv a1, Enc.pv a2, Enc.pv a3, .fn 55 []] none (r.map cellsOf)
  | 0, _, _, _, _, _, h => by cases h
  | n + 1, a0, a1, a2, a3, r, h => d_slices_symMergeCmpFunc_api_Linked__linking_Of_c1_F_xc (d_slices_symMergeCmpFunc_api_Linked__linking_Of_c1_N n) (d_slices_symMergeCmpFunc_api_Linked__linking_Of_c1_N_xc n) a0 a1 a2 a3 r h
noncomputable def d_slices_symMergeCmpFunc_api_Linked__linking_Of_c1 (a0 : (List T_api_Linked)) (a1 : Int) (a2 : Int) (a3 : Int) : Option (List T_api_Linked) := d_slices_symMergeCmpFunc_api_Linked__linking_Of_c1_F (d_slices_symMergeCmpFunc_api_Linked__linking_Of_c1_N recFuel) a0 a1 a2 a3
theorem d_slices_symMergeCmpFunc_api_Linked__linking_Of_c1_xc (a0 : (List T_api_Linked)) (a1 : Int) (a2 : Int) (a3 : Int) (r : (List T_api_Linked)) (h : d_slices_symMergeCmpFunc_api_Linked__linking_Of_c1 a0 a1 a2 a3 = some r) : XCall Go.Proofs.Tryd.prog GlS 88 2 16 (a0.map cellsOf) [Enc.pv a1, Enc.pv a2, Enc.pv a3, .fn 55 []] none (r.map cellsOf) := d_slices_symMergeCmpFunc_api_Linked__linking_Of_c1_F_xc (d_slices_symMergeCmpFunc_api_Linked__linking_Of_c1_N recFuel) (d_slices_symMergeCmpFunc_api_Linked__linking_Of_c1_N_xc recFuel) a0 a1 a2 a3 r h

/-! slices.stableCmpFunc[api.Linked] -/
noncomputable def d_slices_stableCmpFunc_api_Linked_0 (a1 : Int) : (Int × Int × (List T_api_Linked)) → Option ((Int × Int × (List T_api_Linked)) ⊕ (((List T_api_Linked) × Int) ⊕ (List T_api_Linked))) := fun (x2, x3, x4) =>
  bif decide (x3 ≤ a1) then (
    (d_slices_insertionSortCmpFunc_api_Linked__linking_Of_c1 x4 x2 x3).bind fun r8 =>
    some (.inl (x3, w64 (x3 + 20), r8))
  ) else (
    some (.inr (.inl (x4, x2)))
  )

noncomputable def d_slices_stableCmpFunc_api_Linked_2 (a1 : Int) (x21 : Int) : (Int × Int × (List T_api_Linked)) → Option ((Int × Int × (List T_api_Linked)) ⊕ (((List T_api_Linked) × Int) ⊕ ((Int × (List T_api_Linked)) ⊕ ((List T_api_Linked) ⊕ (List T_api_Linked))))) := fun (x36, x37, x38) =>
  bif decide (x37 ≤ a1) then (
    (d_slices_symMergeCmpFunc_api_Linked__linking_Of_c1 x38 x36 (w64 (x36 + x21)) x37).bind fun r42 =>
    some (.inl (x37, w64 (x37 + (w64 (2 * x21))), r42))
  ) else (
    some (.inr (.inl (x38, x36)))
  )

noncomputable def d_slices_stableCmpFunc_api_Linked_1 (a1 : Int) : (Int × (List T_api_Linked)) → Option ((Int × (List T_api_Linked)) ⊕ ((List T_api_Linked) ⊕ (List T_api_Linked))) := fun (x21, x22) =>
  bif decide (x21 < a1) then (
    onInl (α := ((List T_api_Linked) × Int)) (β := ((Int × (List T_api_Linked)) ⊕ ((List T_api_Linked) ⊕ (List T_api_Linked)))) (loopO (d_slices_stableCmpFunc_api_Linked_2 a1 x21) (0, w64 (2 * x21), x22)) fun (x40, x41) =>
    onInl (α := (List T_api_Linked)) (β := ((Int × (List T_api_Linked)) ⊕ ((List T_api_Linked) ⊕ (List T_api_Linked)))) (
      bif decide ((w64 (x41 + x21)) < a1) then (
        (d_slices_symMergeCmpFunc_api_Linked__linking_Of_c1 x40 x41 (w64 (x41 + x21)) a1).bind fun r45 =>
        some (.inl r45)
      ) else (
        some (.inl x40)
      )
    ) fun x44 =>
    some (.inl (w64 (x21 * 2), x44))
  ) else (
    some (.inr (.inl x22))
  )

noncomputable def d_slices_stableCmpFunc_api_Linked__linking_Of_c1 (a0 : (List T_api_Linked)) (a1 : Int) : Option (List T_api_Linked) :=
  onInl (α := ((List T_api_Linked) × Int)) (β := (List T_api_Linked)) (loopO (d_slices_stableCmpFunc_api_Linked_0 a1) (0, 20, a0)) fun (x6, x7) =>
  (d_slices_insertionSortCmpFunc_api_Linked__linking_Of_c1 x6 x7 a1).bind fun r9 =>
  onInl (α := (List T_api_Linked)) (β := (List T_api_Linked)) (loopO (d_slices_stableCmpFunc_api_Linked_1 a1) (20, r9)) fun x34 =>
  some x34
theorem d_slices_stableCmpFunc_api_Linked__linking_Of_c1_xc (a0 : (List T_api_Linked)) (a1 : Int) (r : (List T_api_Linked)) (h : d_slices_stableCmpFunc_api_Linked__linking_Of_c1 a0 a1 = some r) : XCall Go.Proofs.Tryd.prog GlS 82 2 16 (a0.map cellsOf) [Enc.pv a1, .fn 55 []] none (r.map cellsOf) := by
  unfold d_slices_stableCmpFunc_api_Linked__linking_Of_c1 at h
  refine xcall_of_pwpW Go.Proofs.Tryd.func82 (by rfl) rfl Go.Proofs.Tryd.ntmps82 (by rfl) rfl ?_
  refine pwp_seq (r_reg ?_)
  refine zE ?_
  refine q_next (pwp_seq (r_reg ?_))
  refine zE ?_
  refine q_next (pwp_seq (pwp_block ?_))
  obtain ⟨o4, h4, h⟩ := o_inl h
  refine r_loop2 63 0 (fun (x2, x3, x4) => ⟨[(0, .ex 1000000000 2 16 (((a0 : (List T_api_Linked)).map cellsOf).length) 0 (((a0 : (List T_api_Linked)).map cellsOf).length)), (1, .int .i64 a1), (2, .fn 55 []), (6, .int .i64 20), (7, .int .i64 x2), (8, .int .i64 x3)], [], [(1000000000, (((a0 : (List T_api_Linked)).map cellsOf).length, 0))], [(1000000000, (2, (16, (x4 : (List T_api_Linked)).map cellsOf)))]⟩) (fun (x6, x7) => ⟨[(0, .ex 1000000000 2 16 (((a0 : (List T_api_Linked)).map cellsOf).length) 0 (((a0 : (List T_api_Linked)).map cellsOf).length)), (1, .int .i64 a1), (2, .fn 55 []), (6, .int .i64 20), (7, .int .i64 x7)], [], [(1000000000, (((a0 : (List T_api_Linked)).map cellsOf).length, 0))], [(1000000000, (2, (16, (x6 : (List T_api_Linked)).map cellsOf)))]⟩) h4 (by kernel_rfl) (fun _ => by kernel_rfl) ?_ ?_
  · rintro ⟨x2, x3, x4⟩ oh3 h3
    unfold d_slices_stableCmpFunc_api_Linked_0 at h3
    refine pwp_seq (pwp_seq (r_reg ?_))
    refine zE ?_
    refine q_next ?_
    rcases o_cond h3 with ⟨hb, h3⟩ | ⟨hb, h3⟩
    · refine zT hb ?_
      refine pwp_skip (q_next (pwp_block (pwp_seq (r_reg ?_))))
      refine zR 4 ?_
      obtain ⟨r8, h5, h3⟩ := o_bind h3
      refine p_xcall (t := 1000000000) (L := (x4 : (List T_api_Linked))) (L' := (r8 : (List T_api_Linked))) (N := ((a0 : (List T_api_Linked)).map cellsOf).length) (by kernel_rfl) (by kernel_rfl) (by kernel_rfl) (d_slices_insertionSortCmpFunc_api_Linked__linking_Of_c1_xc _ _ _ r8 h5) ?_
      refine zN ?_
      refine q_next (pwp_seq (r_reg ?_))
      refine zE ?_
      refine q_next (r_reg ?_)
      refine zE ?_
      refine q_block ?_
      cases h3
      exact zB
    refine zU hb ?_
    refine pwp_exit (q_seq_exit ?_)
    cases h3
    exact zX
  rintro ⟨x6, x7⟩ s' rfl hs
  have h := o_outl h
  refine q_block_hit ?_
  refine q_next (pwp_wkr hs ?_)
  refine pwp_seq (r_reg ?_)
  refine zR 4 ?_
  obtain ⟨r9, h6, h⟩ := o_bind h
  refine p_xcall (t := 1000000000) (L := (x6 : (List T_api_Linked))) (L' := (r9 : (List T_api_Linked))) (N := ((a0 : (List T_api_Linked)).map cellsOf).length) (by kernel_rfl) (by kernel_rfl) (by kernel_rfl) (d_slices_insertionSortCmpFunc_api_Linked__linking_Of_c1_xc _ _ _ r9 h6) ?_
  refine zN ?_
  refine q_next (pwp_block ?_)
  obtain ⟨o24, h24, h⟩ := o_inl h
  refine r_loop2 63 2 (fun (x21, x22) => ⟨[(0, .ex 1000000000 2 16 (((a0 : (List T_api_Linked)).map cellsOf).length) 0 (((a0 : (List T_api_Linked)).map cellsOf).length)), (1, .int .i64 a1), (2, .fn 55 []), (6, .int .i64 x21)], [], [(1000000000, (((a0 : (List T_api_Linked)).map cellsOf).length, 0))], [(1000000000, (2, (16, (x22 : (List T_api_Linked)).map cellsOf)))]⟩) (fun x34 => ⟨[], [], [(1000000000, (((a0 : (List T_api_Linked)).map cellsOf).length, 0))], [(1000000000, (2, (16, (x34 : (List T_api_Linked)).map cellsOf)))]⟩) h24 (by kernel_rfl) (fun _ => by kernel_rfl) ?_ ?_
  · rintro ⟨x21, x22⟩ oh23 h23
    unfold d_slices_stableCmpFunc_api_Linked_1 at h23
    refine pwp_seq (pwp_seq (r_reg ?_))
    refine zE ?_
    refine q_next ?_
    rcases o_cond h23 with ⟨hb, h23⟩ | ⟨hb, h23⟩
    · refine zT hb ?_
      refine pwp_skip (q_next (pwp_block (pwp_seq (r_reg ?_))))
      refine zE ?_
      refine q_next (pwp_seq (pwp_block ?_))
      obtain ⟨o28, h28, h23⟩ := o_inl h23
      refine r_loop2 63 4 (fun (x36, x37, x38) => ⟨[(0, .ex 1000000000 2 16 (((a0 : (List T_api_Linked)).map cellsOf).length) 0 (((a0 : (List T_api_Linked)).map cellsOf).length)), (1, .int .i64 a1), (2, .fn 55 []), (6, .int .i64 x21), (7, .int .i64 x36), (8, .int .i64 x37)], [], [(1000000000, (((a0 : (List T_api_Linked)).map cellsOf).length, 0))], [(1000000000, (2, (16, (x38 : (List T_api_Linked)).map cellsOf)))]⟩) (fun (x40, x41) => ⟨[(0, .ex 1000000000 2 16 (((a0 : (List T_api_Linked)).map cellsOf).length) 0 (((a0 : (List T_api_Linked)).map cellsOf).length)), (1, .int .i64 a1), (2, .fn 55 []), (6, .int .i64 x21), (7, .int .i64 x41)], [], [(1000000000, (((a0 : (List T_api_Linked)).map cellsOf).length, 0))], [(1000000000, (2, (16, (x40 : (List T_api_Linked)).map cellsOf)))]⟩) h28 (by kernel_rfl) (fun _ => by kernel_rfl) ?_ ?_
      · rintro ⟨x36, x37, x38⟩ oh27 h27
        unfold d_slices_stableCmpFunc_api_Linked_2 at h27
        refine pwp_seq (pwp_seq (r_reg ?_))
        refine zE ?_
        refine q_next ?_
        rcases o_cond h27 with ⟨hb, h27⟩ | ⟨hb, h27⟩
        · refine zT hb ?_
          refine pwp_skip (q_next (pwp_block (pwp_seq (r_reg ?_))))
          refine zR 7 ?_
          obtain ⟨r42, h29, h27⟩ := o_bind h27
          refine p_xcall (t := 1000000000) (L := (x38 : (List T_api_Linked))) (L' := (r42 : (List T_api_Linked))) (N := ((a0 : (List T_api_Linked)).map cellsOf).length) (by kernel_rfl) (by kernel_rfl) (by kernel_rfl) (d_slices_symMergeCmpFunc_api_Linked__linking_Of_c1_xc _ _ _ _ r42 h29) ?_
          refine zN ?_
          refine q_next (pwp_seq (r_reg ?_))
          refine zE ?_
          refine q_next (r_reg ?_)
          refine zE ?_
          refine q_block ?_
          cases h27
          exact zB
        refine zU hb ?_
        refine pwp_exit (q_seq_exit ?_)
        cases h27
        exact zX
      rintro ⟨x40, x41⟩ s' rfl hs
      have h23 := o_outl h23
      refine q_block_hit ?_
      refine q_next (pwp_wkr hs ?_)
      obtain ⟨o31, h31, h23⟩ := o_inl h23
      refine r_join (o := o31) 63 (fun x44 => ⟨[(0, .ex 1000000000 2 16 (((a0 : (List T_api_Linked)).map cellsOf).length) 0 (((a0 : (List T_api_Linked)).map cellsOf).length)), (1, .int .i64 a1), (2, .fn 55 []), (6, .int .i64 x21)], [], [(1000000000, (((a0 : (List T_api_Linked)).map cellsOf).length, 0))], [(1000000000, (2, (16, (x44 : (List T_api_Linked)).map cellsOf)))]⟩) ?_ ?_
      · refine pwp_seq (r_reg ?_)
        refine zE ?_
        refine q_next (pwp_seq (r_reg ?_))
        refine zE ?_
        refine q_next ?_
        rcases o_cond h31 with ⟨hb, h31⟩ | ⟨hb, h31⟩
        · refine zT hb ?_
          refine r_reg ?_
          refine zR 5 ?_
          obtain ⟨r45, h32, h31⟩ := o_bind h31
          refine p_xcall (t := 1000000000) (L := (x40 : (List T_api_Linked))) (L' := (r45 : (List T_api_Linked))) (N := ((a0 : (List T_api_Linked)).map cellsOf).length) (by kernel_rfl) (by kernel_rfl) (by kernel_rfl) (d_slices_symMergeCmpFunc_api_Linked__linking_Of_c1_xc _ _ _ _ r45 h32) ?_
          refine zN ?_
          cases h31
          exact zJ
        refine zU hb ?_
        refine pwp_skip ?_
        cases h31
        exact zJ
      rintro x44 rfl
      have h23 := o_outl h23
      refine r_reg ?_
      refine zE ?_
      refine q_block ?_
      cases h23
      exact zB
    refine zU hb ?_
    refine pwp_exit (q_seq_exit ?_)
    cases h23
    exact zX
  rintro x34 s' rfl hs
  have h := o_outl h
  refine q_block_hit ?_
  cases h
  exact q_xretW_w hs (by kernel_rfl)

/-! slices.SortStableFunc[[]api.Linked,api.Linked] -/
noncomputable def d_slices_SortStableFunc_api_Linked__linking_Of_c1 (a0 : (List T_api_Linked)) : Option (List T_api_Linked) :=
  (d_slices_stableCmpFunc_api_Linked__linking_Of_c1 a0 ((((a0 : (List T_api_Linked)).map cellsOf).length : Nat) : Int)).bind fun r1 =>
  some r1
theorem d_slices_SortStableFunc_api_Linked__linking_Of_c1_xc (a0 : (List T_api_Linked)) (r : (List T_api_Linked)) (h : d_slices_SortStableFunc_api_Linked__linking_Of_c1 a0 = some r) : XCall Go.Proofs.Tryd.prog GlS 54 2 16 (a0.map cellsOf) [.fn 55 []] none (r.map cellsOf) := by
  unfold d_slices_SortStableFunc_api_Linked__linking_Of_c1 at h
  refine xcall_of_pwpW Go.Proofs.Tryd.func54 (by rfl) rfl Go.Proofs.Tryd.ntmps54 (by rfl) rfl ?_
  refine r_reg ?_
  refine zR 4 ?_
  obtain ⟨r1, h1, h⟩ := o_bind h
  refine p_xcall (t := 1000000000) (L := (a0 : (List T_api_Linked))) (L' := (r1 : (List T_api_Linked))) (N := ((a0 : (List T_api_Linked)).map cellsOf).length) (by kernel_rfl) (by kernel_rfl) (by kernel_rfl) (d_slices_stableCmpFunc_api_Linked__linking_Of_c1_xc _ _ r1 h1) ?_
  refine zN ?_
  cases h
  exact q_xretW (by kernel_rfl)

/-! linking.Of -/
noncomputable def d_linking_Of_2 (a3 : Int) (x132 : Int) (x134 : (List (Int × (List T_api_Balise)))) (x192 : T_api_Step) (x194 : T_api_Element) : (Int × (List T_api_Linked)) → Option ((Int × (List T_api_Linked)) ⊕ ((List T_api_Linked) ⊕ (((List T_api_Linked) × (List (Int × (List T_api_Balise)))) ⊕ ((Int × Int × (List (Int × (List T_api_Balise))) × (List T_api_Linked)) ⊕ ((List T_api_Linked) ⊕ (List T_api_Linked)))))) := fun (x230, x231) =>
  bif decide (x230 < ((((mget (x134 : (List (Int × (List T_api_Balise)))) x192.El).getD ([] : (List T_api_Balise))).length : Nat) : Int)) then (
    onInl (α := (List T_api_Linked)) (β := ((Int × (List T_api_Linked)) ⊕ ((List T_api_Linked) ⊕ (((List T_api_Linked) × (List (Int × (List T_api_Balise)))) ⊕ ((Int × Int × (List (Int × (List T_api_Balise))) × (List T_api_Linked)) ⊕ ((List T_api_Linked) ⊕ (List T_api_Linked))))))) (
      (ixO ((mget (x134 : (List (Int × (List T_api_Balise)))) x192.El).getD ([] : (List T_api_Balise))) x230).bind fun x244 =>
      onInl (α := Int) (β := ((List T_api_Linked) ⊕ ((Int × (List T_api_Linked)) ⊕ ((List T_api_Linked) ⊕ (((List T_api_Linked) × (List (Int × (List T_api_Balise)))) ⊕ ((Int × Int × (List (Int × (List T_api_Balise))) × (List T_api_Linked)) ⊕ ((List T_api_Linked) ⊕ (List T_api_Linked)))))))) (
        bif decide (x192.In = 1) then (
          some (.inl (w64 ((w64 (x132 + x194.Length)) - x244.Offset)))
        ) else (
          some (.inl (w64 (x132 + x244.Offset)))
        )
      ) fun x245 =>
      bif decide (x245 ≤ a3) then (
        (appO x231 [(T_api_Linked.mk x244.Id x245)]).bind fun x246 =>
        some (.inl x246)
      ) else (
        some (.inl x231)
      )
    ) fun x243 =>
    some (.inl (w64 (x230 + 1), x243))
  ) else (
    some (.inr (.inl x231))
  )

noncomputable def d_linking_Of_1 (a0 : T_api_Layout) (a1 : (List T_api_Step)) (a3 : Int) : (Int × Int × (List (Int × (List T_api_Balise))) × (List T_api_Linked)) → Option ((Int × Int × (List (Int × (List T_api_Balise))) × (List T_api_Linked)) ⊕ ((List T_api_Linked) ⊕ (List T_api_Linked))) := fun (x132, x133, x134, x135) =>
  bif decide (x133 < ((a1.length : Nat) : Int)) then (
    (ixO a1 x133).bind fun x192 =>
    ((bif decide (x192.El < 0) then some true else (
      some (decide (((a0.Elements.length : Nat) : Int) ≤ x192.El))
    )) : Option Bool).bind fun b193 =>
    bif b193 then (
      some (.inr (.inr ([] : (List T_api_Linked))))
    ) else (
      (ixO a0.Elements x192.El).bind fun x194 =>
      onInl (α := ((List T_api_Linked) × (List (Int × (List T_api_Balise))))) (β := ((Int × Int × (List (Int × (List T_api_Balise))) × (List T_api_Linked)) ⊕ ((List T_api_Linked) ⊕ (List T_api_Linked)))) (
        (d_linking_passed x194.Kind x192).bind fun r222 =>
        bif r222 then (
          onInl (α := (List T_api_Linked)) (β := (((List T_api_Linked) × (List (Int × (List T_api_Balise)))) ⊕ ((Int × Int × (List (Int × (List T_api_Balise))) × (List T_api_Linked)) ⊕ ((List T_api_Linked) ⊕ (List T_api_Linked))))) (loopO (d_linking_Of_2 a3 x132 x134 x192 x194) (0, x135)) fun x239 =>
          some (.inl (x239, (mdel x192.El x134)))
        ) else (
          some (.inl (x135, x134))
        )
      ) fun (x220, x221) =>
      some (.inl (w64 (x132 + x194.Length), w64 (x133 + 1), x221, x220))
    )
  ) else (
    some (.inr (.inl x135))
  )

noncomputable def d_linking_Of (a0 : T_api_Layout) (a1 : (List T_api_Step)) (a2 : Int) (a3 : Int) : Option (List T_api_Linked) :=
  (d_walk_Valid a0 a1).bind fun r1 =>
  bif (!r1) then (
    some ([] : (List T_api_Linked))
  ) else (
    (groupO (fun (x : T_api_Balise) => x.El) a0.Balises).bind fun m2 =>
    onInl (α := (List T_api_Linked)) (β := (List T_api_Linked)) (loopO (d_linking_Of_1 a0 a1 a3) (a2, 0, m2, ([] : (List T_api_Linked)))) fun x191 =>
    (d_slices_SortStableFunc_api_Linked__linking_Of_c1 x191).bind fun r247 =>
    some r247
  )
theorem d_linking_Of_ok (a0 : T_api_Layout) (a1 : (List T_api_Step)) (a2 : Int) (a3 : Int) (r : (List T_api_Linked)) (h : d_linking_Of a0 a1 a2 a3 = some r) : PCall Go.Proofs.Tryd.prog GlS 24 [Enc.pv a0, Enc.pv a1, Enc.pv a2, Enc.pv a3] (Enc.pv r) := by
  unfold d_linking_Of at h
  refine pcall_of_pwp Go.Proofs.Tryd.func24 (by rfl) rfl Go.Proofs.Tryd.ntmps24 (by rfl) rfl ?_
  refine pwp_seq (r_reg ?_)
  refine zE ?_
  refine q_next (pwp_seq (pwp_seq (r_reg ?_)))
  refine zR 2 ?_
  obtain ⟨r1, h1, h⟩ := o_bind h
  refine p_call (d_walk_Valid_ok _ _ r1 h1) (by kernel_rfl) (by kernel_rfl) ?_
  refine zE ?_
  refine q_next ?_
  rcases o_cond h with ⟨hb, h⟩ | ⟨hb, h⟩
  · refine zT hb ?_
    refine pwp_seq (r_reg ?_)
    refine zE ?_
    refine q_next (pwp_ret (q_seq_ret ?_))
    cases h
    exact zQ
  refine zU hb ?_
  refine pwp_skip (q_next (pwp_seq (r_reg ?_)))
  refine zE ?_
  refine q_next (pwp_seq (pwp_seq (r_reg ?_)))
  refine zR 2 ?_
  refine p_len (L := (a0.Balises : (List T_api_Balise))) (by kernel_rfl) ?_
  refine zE ?_
  refine q_next (pwp_block ?_)
  obtain ⟨m2, h2, h⟩ := o_bind h
  obtain ⟨em2, hz, hz2⟩ := groupO_some h2
  refine r_mloop (κ := Int) (ν := T_api_Balise) a0.Balises (fun (x : T_api_Balise) => x.El) 0 (fun (i : Nat) (m : List (Int × List T_api_Balise)) => moSt ⟨[(1, lstOf .frozen (a1 : (List T_api_Step))), (2, .int .i64 a2), (3, .int .i64 a3), (4, .ref 4 0), (9, .mp 24), (26, lstOf .frozen (a0.Balises : (List T_api_Balise))), (27, .int .i64 ((a0.Balises.length : Nat) : Int)), (28, .int .i64 ((i : Nat) : Int))], [(4, .cells (cellsOf a0))], [], []⟩ 116 24 (.mapo (esO m) (Enc.k T_api_Balise) (Enc.b T_api_Balise) dynTk) (dynF m)) (fun (m : List (Int × List T_api_Balise)) => ((⟨[(1, lstOf .frozen (a1 : (List T_api_Step))), (2, .int .i64 a2), (3, .int .i64 a3), (4, .ref 4 0), (9, .mp 24)], (24, .map (mpOf m)) :: [(4, .cells (cellsOf a0))], [], []⟩ : JS).st 116)) ?_ ?_ ?_ ?_
  · exact wkr_mo0 24 (by kernel_rfl) (by kernel_rfl) (by decide) (by kernel_rfl)
  · intro i x hx
    have hi := lt_of_get hx
    refine pwp_seq (r_reg ?_)
    refine zE ?_
    refine q_next (pwp_seq ?_)
    refine r_cond_t (b := decide (((i : Nat) : Int) < ((a0.Balises.length : Nat) : Int))) (decide_eq_true (by omega)) (by kernel_rfl) ?_
    refine pwp_skip (q_next (pwp_seq (pwp_block (pwp_seq (r_reg ?_)))))
    refine p_ix (ixO_nat hx) (by kernel_rfl) ?_
    refine zE ?_
    refine q_next (r_regd (by kernel_rfl) (by kernel_rfl) ?_)
    refine zR 6 ?_
    refine p_lkO (m := (grp (fun (x : T_api_Balise) => x.El) (a0.Balises.take i))) (k := x.El) (tk := dynTk) 24 (by kernel_rfl) (by kernel_rfl) ?_
    cases hf : mfind x.El (grp (fun (x : T_api_Balise) => x.El) (a0.Balises.take i)) with
    | none =>
      refine zR 2 ?_
      refine p_appn (α := T_api_Balise) (tk := 41) (L := ([] : List T_api_Balise)) (ys := [x]) (M := [x]) (app_one (n := a0.Balises.length) (by simp; omega) hz) (by kernel_rfl) ?_
      refine p_updO (m := (grp (fun (x : T_api_Balise) => x.El) (a0.Balises.take i))) (k := x.El) (M := [x]) (tk := dynTk) 41 24 (by kernel_rfl) (by kernel_rfl) ?_
      refine zN ?_
      refine q_block (q_next (pwp_wkr (wkr_moN (j := ⟨[(1, lstOf .frozen (a1 : (List T_api_Step))), (2, .int .i64 a2), (3, .int .i64 a3), (4, .ref 4 0), (9, .mp 24), (26, lstOf .frozen (a0.Balises : (List T_api_Balise))), (27, .int .i64 ((a0.Balises.length : Nat) : Int)), (28, .int .i64 ((i : Nat) : Int))], [(4, .cells (cellsOf a0))], [], []⟩) (n := 116) 24 41 (fk := (fun (x : T_api_Balise) => x.El)) (x := x) (m := (grp (fun (x : T_api_Balise) => x.El) (a0.Balises.take i))) (by decide) hf (by kernel_rfl) (by kernel_rfl) (by have h1 := grp_length (fun (x : T_api_Balise) => x.El) (a0.Balises.take i); simp only [List.length_take] at h1; omega) (by kernel_rfl) (by kernel_rfl)) ?_))
      refine r_reg ?_
      refine zE ?_
      refine ⟨rfl, ?_⟩
      have hw : ((i + 1 : Nat) : Int) = w64 ((i : Int) + 1) := (w64n (by omega)).symm
      show Wkr _ (moSt ⟨[(1, lstOf .frozen (a1 : (List T_api_Step))), (2, .int .i64 a2), (3, .int .i64 a3), (4, .ref 4 0), (9, .mp 24), (26, lstOf .frozen (a0.Balises : (List T_api_Balise))), (27, .int .i64 ((a0.Balises.length : Nat) : Int)), (28, .int .i64 ((i + 1 : Nat) : Int))], [(4, .cells (cellsOf a0))], [], []⟩ 116 24 (.mapo (esO (gput (fun (x : T_api_Balise) => x.El) x (grp (fun (x : T_api_Balise) => x.El) (a0.Balises.take i)))) (Enc.k T_api_Balise) (Enc.b T_api_Balise) dynTk) (dynF (gput (fun (x : T_api_Balise) => x.El) x (grp (fun (x : T_api_Balise) => x.El) (a0.Balises.take i)))))
      rw [hw]
      exact wkr_moK 24 (by kernel_rfl) (by kernel_rfl) (by kernel_rfl) (by kernel_rfl)
    | some y =>
      obtain ⟨q, M⟩ := y
      refine zR 2 ?_
      refine p_appT (α := T_api_Balise) (tk := dynTk q) (L := M) (ys := [x]) (M := M ++ [x]) (T := dynF (grp (fun (x : T_api_Balise) => x.El) (a0.Balises.take i))) (app_one (grp_find_len hx hf) hz) (by kernel_rfl) (dynF_find hf) (by kernel_rfl) ?_
      refine p_updO (m := (grp (fun (x : T_api_Balise) => x.El) (a0.Balises.take i))) (k := x.El) (M := M ++ [x]) (tk := dynTk) (dynTk q) 24 (by kernel_rfl) (by kernel_rfl) ?_
      refine zN ?_
      refine q_block (q_next (pwp_wkr (wkr_moS (j := ⟨[(1, lstOf .frozen (a1 : (List T_api_Step))), (2, .int .i64 a2), (3, .int .i64 a3), (4, .ref 4 0), (9, .mp 24), (26, lstOf .frozen (a0.Balises : (List T_api_Balise))), (27, .int .i64 ((a0.Balises.length : Nat) : Int)), (28, .int .i64 ((i : Nat) : Int))], [(4, .cells (cellsOf a0))], [], []⟩) (n := 116) 24 (fk := (fun (x : T_api_Balise) => x.El)) (x := x) (m := (grp (fun (x : T_api_Balise) => x.El) (a0.Balises.take i))) hf (by kernel_rfl) (by kernel_rfl) (by kernel_rfl) (by kernel_rfl)) ?_))
      refine r_reg ?_
      refine zE ?_
      refine ⟨rfl, ?_⟩
      have hw : ((i + 1 : Nat) : Int) = w64 ((i : Int) + 1) := (w64n (by omega)).symm
      show Wkr _ (moSt ⟨[(1, lstOf .frozen (a1 : (List T_api_Step))), (2, .int .i64 a2), (3, .int .i64 a3), (4, .ref 4 0), (9, .mp 24), (26, lstOf .frozen (a0.Balises : (List T_api_Balise))), (27, .int .i64 ((a0.Balises.length : Nat) : Int)), (28, .int .i64 ((i + 1 : Nat) : Int))], [(4, .cells (cellsOf a0))], [], []⟩ 116 24 (.mapo (esO (gput (fun (x : T_api_Balise) => x.El) x (grp (fun (x : T_api_Balise) => x.El) (a0.Balises.take i)))) (Enc.k T_api_Balise) (Enc.b T_api_Balise) dynTk) (dynF (gput (fun (x : T_api_Balise) => x.El) x (grp (fun (x : T_api_Balise) => x.El) (a0.Balises.take i)))))
      rw [hw]
      exact wkr_moK 24 (by kernel_rfl) (by kernel_rfl) (by kernel_rfl) (by kernel_rfl)
  · intro m
    refine pwp_seq (r_reg ?_)
    refine zE ?_
    refine q_next (pwp_seq ?_)
    refine r_cond_f (b := decide (((a0.Balises.length : Nat) : Int) < ((a0.Balises.length : Nat) : Int))) (decide_eq_false (by omega)) (by kernel_rfl) ?_
    refine pwp_exit (q_seq_exit ?_)
    exact ⟨rfl, wkr_moF (j := ⟨[(1, lstOf .frozen (a1 : (List T_api_Step))), (2, .int .i64 a2), (3, .int .i64 a3), (4, .ref 4 0), (9, .mp 24)], [(4, .cells (cellsOf a0))], [], []⟩) (m := m) (tk := dynTk) 24 (by kernel_rfl) (by kernel_rfl) (by kernel_rfl)⟩
  intro s' hs
  rw [← em2] at hs
  refine q_block_hit ?_
  refine q_next (pwp_wkr hs ?_)
  refine pwp_seq (r_reg ?_)
  refine zE ?_
  refine q_next (pwp_seq (r_reg ?_))
  refine zE ?_
  refine q_next (pwp_seq (pwp_seq (r_reg ?_)))
  refine zR 1 ?_
  refine p_len (L := (a1 : (List T_api_Step))) (by kernel_rfl) ?_
  refine zE ?_
  refine q_next (pwp_block ?_)
  refine pwp_wkr (wkr_nilX 12 100012 2 16 (by kernel_rfl) (by kernel_rfl)) ?_
  obtain ⟨o177, h177, h⟩ := o_inl h
  refine r_loop2 116 2 (fun (x132, x133, x134, x135) => ⟨[(3, .int .i64 a3), (4, .ref 4 0), (9, .mp 24), (12, .ex 100012 2 16 (((x135 : (List T_api_Linked)).map cellsOf).length) 0 (((x135 : (List T_api_Linked)).map cellsOf).length)), (13, .int .i64 x132), (44, lstOf .frozen (a1 : (List T_api_Step))), (45, .int .i64 ((a1.length : Nat) : Int)), (46, .int .i64 x133)], [(4, .cells (cellsOf a0)), (24, .map (mpOf (x134 : (List (Int × (List T_api_Balise))))))], [(100012, (((x135 : (List T_api_Linked)).map cellsOf).length, 0))], [(100012, (2, (16, (x135 : (List T_api_Linked)).map cellsOf)))]⟩) (fun x191 => ⟨[(12, .ex 100012 2 16 (((x191 : (List T_api_Linked)).map cellsOf).length) 0 (((x191 : (List T_api_Linked)).map cellsOf).length))], [], [(100012, (((x191 : (List T_api_Linked)).map cellsOf).length, 0))], [(100012, (2, (16, (x191 : (List T_api_Linked)).map cellsOf)))]⟩) h177 (by kernel_rfl) (fun _ => by kernel_rfl) ?_ ?_
  · rintro ⟨x132, x133, x134, x135⟩ oh176 h176
    unfold d_linking_Of_1 at h176
    refine pwp_seq (r_reg ?_)
    refine zE ?_
    refine q_next (pwp_seq ?_)
    rcases o_cond h176 with ⟨hb, h176⟩ | ⟨hb, h176⟩
    · refine zT hb ?_
      refine pwp_skip (q_next (pwp_seq (pwp_block (pwp_seq (r_reg ?_)))))
      obtain ⟨x192, h178, h176⟩ := o_bind h176
      refine zI h178 ?_
      refine zE ?_
      refine q_next (pwp_seq (pwp_seq (r_reg ?_)))
      obtain ⟨b193, h179, h176⟩ := o_bind h176
      refine zR 4 ?_
      refine e_seg 7 60 (.bool b193) ?_ ?_
      · rcases o_cond h179 with ⟨hb, h179⟩ | ⟨hb, h179⟩
        · refine zS 53 hb ?_
          cases h179
          exact zF
        refine zS 53 hb ?_
        refine zR 4 ?_
        refine p_len (L := (a0.Elements : (List T_api_Element))) (by kernel_rfl) ?_
        cases h179
        exact zF
      refine zN ?_
      refine q_next ?_
      rcases o_cond h176 with ⟨hb, h176⟩ | ⟨hb, h176⟩
      · refine zT hb ?_
        refine pwp_seq (r_reg ?_)
        refine zE ?_
        refine q_next (pwp_ret (q_seq_ret (q_block_ret (q_seq_ret ?_))))
        cases h176
        refine q_lout_ret fun he => ?_
        subst he
        have h180 := o_outr h
        refine q_block_ret (q_seq_ret ?_)
        cases h180
        exact zQ
      refine zU hb ?_
      refine pwp_skip (q_next (pwp_seq (r_reg ?_)))
      refine zR 4 ?_
      obtain ⟨x194, h181, h176⟩ := o_bind h176
      refine zI h181 ?_
      refine zE ?_
      refine q_next ?_
      obtain ⟨o206, h206, h176⟩ := o_inl h176
      refine r_join (o := o206) 116 (fun (x220, x221) => ⟨[(3, .int .i64 a3), (4, .ref 4 0), (9, .mp 24), (12, .ex 100012 2 16 (((x220 : (List T_api_Linked)).map cellsOf).length) 0 (((x220 : (List T_api_Linked)).map cellsOf).length)), (13, .int .i64 x132), (16, .ref 16 0), (44, lstOf .frozen (a1 : (List T_api_Step))), (45, .int .i64 ((a1.length : Nat) : Int)), (46, .int .i64 x133)], [(4, .cells (cellsOf a0)), (16, .cells (cellsOf x194)), (24, .map (mpOf (x221 : (List (Int × (List T_api_Balise))))))], [(100012, (((x220 : (List T_api_Linked)).map cellsOf).length, 0))], [(100012, (2, (16, (x220 : (List T_api_Linked)).map cellsOf)))]⟩) ?_ ?_
      · refine pwp_seq (r_reg ?_)
        refine zR 3 ?_
        obtain ⟨r222, h207, h206⟩ := o_bind h206
        refine p_call (d_linking_passed_ok _ _ r222 h207) (by kernel_rfl) (by kernel_rfl) ?_
        refine zN ?_
        refine q_next ?_
        rcases o_cond h206 with ⟨hb, h206⟩ | ⟨hb, h206⟩
        · refine zT hb ?_
          refine pwp_seq (pwp_seq (r_reg ?_))
          refine zR 3 ?_
          refine p_lookup (m := (x134 : (List (Int × (List T_api_Balise))))) (k := x192.El) ([] : (List T_api_Balise)) 24 (by kernel_rfl) (by kernel_rfl) ?_
          refine p_len (L := (((mget (x134 : (List (Int × (List T_api_Balise)))) x192.El).getD ([] : (List T_api_Balise))) : (List T_api_Balise))) (by kernel_rfl) ?_
          refine zE ?_
          refine q_next (pwp_block ?_)
          obtain ⟨o223, h223, h206⟩ := o_inl h206
          refine r_loop2 116 4 (fun (x230, x231) => ⟨[(3, .int .i64 a3), (4, .ref 4 0), (9, .mp 24), (12, .ex 100012 2 16 (((x231 : (List T_api_Linked)).map cellsOf).length) 0 (((x231 : (List T_api_Linked)).map cellsOf).length)), (13, .int .i64 x132), (15, .ref 15 0), (16, .ref 16 0), (44, lstOf .frozen (a1 : (List T_api_Step))), (45, .int .i64 ((a1.length : Nat) : Int)), (46, .int .i64 x133), (74, lstOf .frozen (((mget (x134 : (List (Int × (List T_api_Balise)))) x192.El).getD ([] : (List T_api_Balise))) : (List T_api_Balise))), (75, .int .i64 ((((mget (x134 : (List (Int × (List T_api_Balise)))) x192.El).getD ([] : (List T_api_Balise))).length : Nat) : Int)), (76, .int .i64 x230)], [(4, .cells (cellsOf a0)), (15, .cells (cellsOf x192)), (16, .cells (cellsOf x194)), (24, .map (mpOf (x134 : (List (Int × (List T_api_Balise))))))], [(100012, (((x231 : (List T_api_Linked)).map cellsOf).length, 0))], [(100012, (2, (16, (x231 : (List T_api_Linked)).map cellsOf)))]⟩) (fun x239 => ⟨[(3, .int .i64 a3), (4, .ref 4 0), (9, .mp 24), (12, .ex 100012 2 16 (((x239 : (List T_api_Linked)).map cellsOf).length) 0 (((x239 : (List T_api_Linked)).map cellsOf).length)), (13, .int .i64 x132), (15, .ref 15 0), (16, .ref 16 0), (44, lstOf .frozen (a1 : (List T_api_Step))), (45, .int .i64 ((a1.length : Nat) : Int)), (46, .int .i64 x133)], [(4, .cells (cellsOf a0)), (15, .cells (cellsOf x192)), (16, .cells (cellsOf x194)), (24, .map (mpOf (x134 : (List (Int × (List T_api_Balise))))))], [(100012, (((x239 : (List T_api_Linked)).map cellsOf).length, 0))], [(100012, (2, (16, (x239 : (List T_api_Linked)).map cellsOf)))]⟩) h223 (by kernel_rfl) (fun _ => by kernel_rfl) ?_ ?_
          · rintro ⟨x230, x231⟩ oh222 h222
            unfold d_linking_Of_2 at h222
            refine pwp_seq (r_reg ?_)
            refine zE ?_
            refine q_next (pwp_seq ?_)
            rcases o_cond h222 with ⟨hb, h222⟩ | ⟨hb, h222⟩
            · refine zT hb ?_
              refine pwp_skip (q_next ?_)
              obtain ⟨o227, h227, h222⟩ := o_inl h222
              refine r_join (o := o227) 116 (fun x243 => ⟨[(3, .int .i64 a3), (4, .ref 4 0), (9, .mp 24), (12, .ex 100012 2 16 (((x243 : (List T_api_Linked)).map cellsOf).length) 0 (((x243 : (List T_api_Linked)).map cellsOf).length)), (13, .int .i64 x132), (15, .ref 15 0), (16, .ref 16 0), (44, lstOf .frozen (a1 : (List T_api_Step))), (45, .int .i64 ((a1.length : Nat) : Int)), (46, .int .i64 x133), (74, lstOf .frozen (((mget (x134 : (List (Int × (List T_api_Balise)))) x192.El).getD ([] : (List T_api_Balise))) : (List T_api_Balise))), (75, .int .i64 ((((mget (x134 : (List (Int × (List T_api_Balise)))) x192.El).getD ([] : (List T_api_Balise))).length : Nat) : Int)), (76, .int .i64 x230)], [(4, .cells (cellsOf a0)), (15, .cells (cellsOf x192)), (16, .cells (cellsOf x194)), (24, .map (mpOf (x134 : (List (Int × (List T_api_Balise))))))], [(100012, (((x243 : (List T_api_Linked)).map cellsOf).length, 0))], [(100012, (2, (16, (x243 : (List T_api_Linked)).map cellsOf)))]⟩) ?_ ?_
              · refine pwp_block (pwp_seq (r_reg ?_))
                obtain ⟨x244, h228, h227⟩ := o_bind h227
                refine zI h228 ?_
                refine zE ?_
                refine q_next (pwp_seq (r_reg ?_))
                refine zE ?_
                refine q_next ?_
                obtain ⟨o229, h229, h227⟩ := o_inl h227
                refine r_join (o := o229) 116 (fun x245 => ⟨[(3, .int .i64 a3), (4, .ref 4 0), (9, .mp 24), (12, .ex 100012 2 16 (((x231 : (List T_api_Linked)).map cellsOf).length) 0 (((x231 : (List T_api_Linked)).map cellsOf).length)), (13, .int .i64 x132), (15, .ref 15 0), (16, .ref 16 0), (18, .ref 18 0), (19, .int .i64 x245), (44, lstOf .frozen (a1 : (List T_api_Step))), (45, .int .i64 ((a1.length : Nat) : Int)), (46, .int .i64 x133), (74, lstOf .frozen (((mget (x134 : (List (Int × (List T_api_Balise)))) x192.El).getD ([] : (List T_api_Balise))) : (List T_api_Balise))), (75, .int .i64 ((((mget (x134 : (List (Int × (List T_api_Balise)))) x192.El).getD ([] : (List T_api_Balise))).length : Nat) : Int)), (76, .int .i64 x230)], [(4, .cells (cellsOf a0)), (15, .cells (cellsOf x192)), (16, .cells (cellsOf x194)), (18, .cells (cellsOf x244)), (24, .map (mpOf (x134 : (List (Int × (List T_api_Balise))))))], [(100012, (((x231 : (List T_api_Linked)).map cellsOf).length, 0))], [(100012, (2, (16, (x231 : (List T_api_Linked)).map cellsOf)))]⟩) ?_ ?_
                · refine pwp_seq (r_reg ?_)
                  refine zE ?_
                  refine q_next ?_
                  rcases o_cond h229 with ⟨hb, h229⟩ | ⟨hb, h229⟩
                  · refine zT hb ?_
                    refine r_reg ?_
                    refine zE ?_
                    cases h229
                    exact zJ
                  refine zU hb ?_
                  refine pwp_skip ?_
                  cases h229
                  exact zJ
                rintro x245 rfl
                have h227 := o_outl h227
                refine pwp_seq (r_reg ?_)
                refine zE ?_
                refine q_next ?_
                rcases o_cond h227 with ⟨hb, h227⟩ | ⟨hb, h227⟩
                · refine zT hb ?_
                  refine r_reg ?_
                  refine zR 6 ?_
                  obtain ⟨x246, h230, h227⟩ := o_bind h227
                  refine p_xapp (tk := 100012) (N := ((x231 : (List T_api_Linked)).map cellsOf).length) h230 (by kernel_rfl) (by kernel_rfl) (by kernel_rfl) ?_
                  refine zE ?_
                  refine q_block ?_
                  cases h227
                  exact zJ
                refine zU hb ?_
                refine pwp_skip (q_block ?_)
                cases h227
                exact zJ
              rintro x243 rfl
              have h222 := o_outl h222
              refine r_reg ?_
              refine zE ?_
              cases h222
              exact zB
            refine zU hb ?_
            refine pwp_exit (q_seq_exit ?_)
            cases h222
            exact zX
          rintro x239 s' rfl hs
          have h206 := o_outl h206
          refine q_block_hit ?_
          refine q_next (pwp_wkr hs ?_)
          refine r_reg ?_
          refine zR 3 ?_
          refine p_mdel (m := (x134 : (List (Int × (List T_api_Balise))))) (k := x192.El) 24 (by kernel_rfl) (by kernel_rfl) ?_
          refine zN ?_
          cases h206
          exact zJ
        refine zU hb ?_
        refine pwp_skip ?_
        cases h206
        exact zJ
      rintro ⟨x220, x221⟩ rfl
      have h176 := o_outl h176
      refine r_reg ?_
      refine zE ?_
      refine q_block (q_next (r_reg ?_))
      refine zE ?_
      cases h176
      exact zB
    refine zU hb ?_
    refine pwp_exit (q_seq_exit ?_)
    cases h176
    exact zX
  rintro x191 s' rfl hs
  have h := o_outl h
  refine q_block_hit ?_
  refine q_next (pwp_wkr hs ?_)
  refine pwp_seq (r_reg ?_)
  refine zR 1 ?_
  obtain ⟨r247, h231, h⟩ := o_bind h
  refine p_xcall (t := 100012) (L := (x191 : (List T_api_Linked))) (L' := (r247 : (List T_api_Linked))) (N := ((x191 : (List T_api_Linked)).map cellsOf).length) (by kernel_rfl) (by kernel_rfl) (by kernel_rfl) (d_slices_SortStableFunc_api_Linked__linking_Of_c1_xc _ r247 h231) ?_
  refine zN ?_
  refine q_next (pwp_seq (r_reg ?_))
  refine zE ?_
  refine q_next ?_
  refine pwp_wkr (wkr_share (xss := (r247 : (List T_api_Linked)).map cellsOf) 100012 2 16 (((x191 : (List T_api_Linked)).map cellsOf).length) [8, 12, 113, 115] [] (by kernel_rfl) (by kernel_rfl) (by kernel_rfl) (by kernel_rfl)) ?_
  refine pwp_ret ?_
  cases h
  exact zQ

/-! linking.find -/
noncomputable def d_linking_find_0 (a0 : (List T_api_Linked)) (a2 : Int) : Int → Option (Int ⊕ (Unit ⊕ Int)) := fun x2 =>
  bif decide (x2 < ((a0.length : Nat) : Int)) then (
    (ixO a0 x2).bind fun x4 =>
    bif decide (x4.Id = a2) then (
      some (.inr (.inr x2))
    ) else (
      some (.inl (w64 (x2 + 1)))
    )
  ) else (
    some (.inr (.inl ()))
  )

noncomputable def d_linking_find (a0 : (List T_api_Linked)) (a1 : Int) (a2 : Int) : Option Int :=
  onInl (α := Unit) (β := Int) (loopO (d_linking_find_0 a0 a2) a1) fun _ =>
  some (-1)
theorem d_linking_find_ok (a0 : (List T_api_Linked)) (a1 : Int) (a2 : Int) (r : Int) (h : d_linking_find a0 a1 a2 = some r) : PCall Go.Proofs.Tryd.prog GlS 77 [Enc.pv a0, Enc.pv a1, Enc.pv a2] (Enc.pv r) := by
  unfold d_linking_find at h
  refine pcall_of_pwp Go.Proofs.Tryd.func77 (by rfl) rfl Go.Proofs.Tryd.ntmps77 (by rfl) rfl ?_
  refine pwp_seq (r_reg ?_)
  refine zE ?_
  refine q_next (pwp_seq (pwp_seq (r_reg ?_)))
  refine zE ?_
  refine q_next (pwp_block ?_)
  obtain ⟨o6, h6, h⟩ := o_inl h
  refine r_loop2 23 0 (fun x2 => ⟨[(0, lstOf .frozen (a0 : (List T_api_Linked))), (2, .int .i64 a2), (7, .int .i64 x2)], [], [], []⟩) (fun (_ : Unit) => ⟨[], [], [], []⟩) h6 (by kernel_rfl) (fun _ => by kernel_rfl) ?_ ?_
  · rintro x2 oh5 h5
    unfold d_linking_find_0 at h5
    refine pwp_seq (pwp_seq (r_reg ?_))
    refine zR 2 ?_
    refine p_len (L := (a0 : (List T_api_Linked))) (by kernel_rfl) ?_
    refine zE ?_
    refine q_next ?_
    rcases o_cond h5 with ⟨hb, h5⟩ | ⟨hb, h5⟩
    · refine zT hb ?_
      refine pwp_skip (q_next (pwp_seq (pwp_block (pwp_seq (r_reg ?_)))))
      refine zR 2 ?_
      obtain ⟨x4, h7, h5⟩ := o_bind h5
      refine zI h7 ?_
      refine zE ?_
      refine q_next ?_
      rcases o_cond h5 with ⟨hb, h5⟩ | ⟨hb, h5⟩
      · refine zT hb ?_
        refine pwp_seq (r_reg ?_)
        refine zE ?_
        refine q_next (pwp_ret (q_block_ret (q_seq_ret ?_)))
        cases h5
        refine q_lout_ret fun he => ?_
        subst he
        have h8 := o_outr h
        refine q_block_ret (q_seq_ret ?_)
        cases h8
        exact zQ
      refine zU hb ?_
      refine pwp_skip (q_block (q_next (r_reg ?_)))
      refine zE ?_
      cases h5
      exact zB
    refine zU hb ?_
    refine pwp_exit (q_seq_exit ?_)
    cases h5
    exact zX
  rintro _ s' rfl hs
  have h := o_outl h
  refine q_block_hit ?_
  refine q_next (pwp_wkr hs ?_)
  refine pwp_seq (r_reg ?_)
  refine zE ?_
  refine q_next (pwp_ret ?_)
  cases h
  exact zQ

/-! linking.Valid -/
noncomputable def d_linking_Valid_0 (a0 : (List T_api_Linked)) : Int → Option (Int ⊕ (Unit ⊕ Bool)) := fun x7 =>
  bif decide (x7 < ((a0.length : Nat) : Int)) then (
    (ixO a0 x7).bind fun x14 =>
    ((bif decide (0 < x7) then (
      (ixO a0 (w64 (x7 - 1))).bind fun x16 =>
      some (decide (x14.At < x16.At))
    ) else some false) : Option Bool).bind fun b15 =>
    ((bif b15 then some true else (
      (slO a0 none (some x7) none).bind fun x18 =>
      (d_linking_find x18 0 x14.Id).bind fun r19 =>
      some (decide (0 ≤ r19))
    )) : Option Bool).bind fun b17 =>
    bif b17 then (
      some (.inr (.inr false))
    ) else (
      some (.inl (w64 (x7 + 1)))
    )
  ) else (
    some (.inr (.inl ()))
  )

noncomputable def d_linking_Valid (a0 : (List T_api_Linked)) : Option Bool :=
  bif decide (24 < ((a0.length : Nat) : Int)) then (
    some false
  ) else (
    onInl (α := Unit) (β := Bool) (loopO (d_linking_Valid_0 a0) 0) fun _ =>
    some true
  )
theorem d_linking_Valid_ok (a0 : (List T_api_Linked)) (r : Bool) (h : d_linking_Valid a0 = some r) : PCall Go.Proofs.Tryd.prog GlS 45 [Enc.pv a0] (Enc.pv r) := by
  unfold d_linking_Valid at h
  refine pcall_of_pwp Go.Proofs.Tryd.func45 (by rfl) rfl Go.Proofs.Tryd.ntmps45 (by rfl) rfl ?_
  refine pwp_seq (r_reg ?_)
  refine zE ?_
  refine q_next (pwp_seq (pwp_seq (r_reg ?_)))
  refine zR 1 ?_
  refine p_len (L := (a0 : (List T_api_Linked))) (by kernel_rfl) ?_
  refine zE ?_
  refine q_next ?_
  rcases o_cond h with ⟨hb, h⟩ | ⟨hb, h⟩
  · refine zT hb ?_
    refine pwp_seq (r_reg ?_)
    refine zE ?_
    refine q_next (pwp_ret (q_seq_ret ?_))
    cases h
    exact zQ
  refine zU hb ?_
  refine pwp_skip (q_next (pwp_seq (pwp_seq (r_reg ?_))))
  refine zR 1 ?_
  refine p_len (L := (a0 : (List T_api_Linked))) (by kernel_rfl) ?_
  refine zE ?_
  refine q_next (pwp_block ?_)
  obtain ⟨o16, h16, h⟩ := o_inl h
  refine r_loop2 38 0 (fun x7 => ⟨[(0, lstOf .frozen (a0 : (List T_api_Linked))), (8, lstOf .frozen (a0 : (List T_api_Linked))), (9, .int .i64 ((a0.length : Nat) : Int)), (10, .int .i64 x7)], [], [], []⟩) (fun (_ : Unit) => ⟨[], [], [], []⟩) h16 (by kernel_rfl) (fun _ => by kernel_rfl) ?_ ?_
  · rintro x7 oh15 h15
    unfold d_linking_Valid_0 at h15
    refine pwp_seq (r_reg ?_)
    refine zE ?_
    refine q_next (pwp_seq ?_)
    rcases o_cond h15 with ⟨hb, h15⟩ | ⟨hb, h15⟩
    · refine zT hb ?_
      refine pwp_skip (q_next (pwp_seq (pwp_block (pwp_seq (r_reg ?_)))))
      refine zR 1 ?_
      obtain ⟨x14, h17, h15⟩ := o_bind h15
      refine zI h17 ?_
      refine zE ?_
      refine q_next (pwp_seq ?_)
      refine r_regd (by kernel_rfl) (by kernel_rfl) ?_
      obtain ⟨b15, h18, h15⟩ := o_bind h15
      refine zR 3 ?_
      refine e_seg 10 27 (.bool b15) ?_ ?_
      · rcases o_cond h18 with ⟨hb, h18⟩ | ⟨hb, h18⟩
        · refine zS 17 hb ?_
          refine zR 5 ?_
          obtain ⟨x16, h19, h18⟩ := o_bind h18
          refine zI h19 ?_
          cases h18
          exact zF
        refine zS 17 hb ?_
        cases h18
        exact zF
      obtain ⟨b17, h20, h15⟩ := o_bind h15
      refine zR 1 ?_
      refine e_seg 8 36 (.bool b17) ?_ ?_
      · rcases o_cond h20 with ⟨hb, h20⟩ | ⟨hb, h20⟩
        · refine zS 28 hb ?_
          cases h20
          exact zF
        refine zS 28 hb ?_
        refine zR 2 ?_
        obtain ⟨x18, h21, h20⟩ := o_bind h20
        refine p_sl h21 .frozen (by kernel_rfl) (by kernel_rfl) (by kernel_rfl) ?_
        refine zR 2 ?_
        obtain ⟨r19, h22, h20⟩ := o_bind h20
        refine p_call (d_linking_find_ok _ _ _ r19 h22) (by kernel_rfl) (by kernel_rfl) ?_
        cases h20
        exact zF
      refine zN ?_
      refine q_next ?_
      rcases o_cond h15 with ⟨hb, h15⟩ | ⟨hb, h15⟩
      · refine zT hb ?_
        refine pwp_seq (r_reg ?_)
        refine zE ?_
        refine q_next (pwp_ret (q_block_ret (q_seq_ret ?_)))
        cases h15
        refine q_lout_ret fun he => ?_
        subst he
        have h23 := o_outr h
        refine q_block_ret (q_seq_ret ?_)
        cases h23
        exact zQ
      refine zU hb ?_
      refine pwp_skip (q_block (q_next (r_reg ?_)))
      refine zE ?_
      cases h15
      exact zB
    refine zU hb ?_
    refine pwp_exit (q_seq_exit ?_)
    cases h15
    exact zX
  rintro _ s' rfl hs
  have h := o_outl h
  refine q_block_hit ?_
  refine q_next (pwp_wkr hs ?_)
  refine pwp_seq (r_reg ?_)
  refine zE ?_
  refine q_next (pwp_ret ?_)
  cases h
  exact zQ

/-! authority.Valid -/
noncomputable def d_authority_Valid (a0 : T_api_Authority) : Option Bool :=
  ((bif ((decide (1 ≤ a0.Seq)) && (decide (a0.Seq ≤ 1073741824))) then (
    (d_profile_Valid a0.Profile).bind fun r2 =>
    some r2
  ) else some false) : Option Bool).bind fun b1 =>
  ((bif (b1 && (decide (0 < ((a0.Profile.length : Nat) : Int)))) then (
    (ixO a0.Profile (w64 (((a0.Profile.length : Nat) : Int) - 1))).bind fun x4 =>
    some (decide (x4.To = a0.End))
  ) else some false) : Option Bool).bind fun b3 =>
  ((bif b3 then (
    (d_linking_Valid a0.Links).bind fun r6 =>
    some r6
  ) else some false) : Option Bool).bind fun b5 =>
  some b5
theorem d_authority_Valid_ok (a0 : T_api_Authority) (r : Bool) (h : d_authority_Valid a0 = some r) : PCall Go.Proofs.Tryd.prog GlS 18 [Enc.pv a0] (Enc.pv r) := by
  unfold d_authority_Valid at h
  refine pcall_of_pwp Go.Proofs.Tryd.func18 (by rfl) rfl Go.Proofs.Tryd.ntmps18 (by rfl) rfl ?_
  refine pwp_seq (r_reg ?_)
  refine zE ?_
  refine q_next (pwp_seq (r_reg ?_))
  refine zR 2 ?_
  refine p_len (L := (a0.Profile : (List T_api_Segment))) (by kernel_rfl) ?_
  refine zE ?_
  refine q_next (pwp_seq ?_)
  refine r_regd (by kernel_rfl) (by kernel_rfl) ?_
  refine zR 4 ?_
  refine e_segb 4 14 ((decide (1 ≤ a0.Seq)) && (decide (a0.Seq ≤ 1073741824))) (fun x hx => ?_) ?_
  · rcases b_and hx with ⟨hb, hx⟩ | ⟨hb, hx⟩
    · refine zS 10 hb ?_
      subst hx
      exact zF
    refine zS 10 hb ?_
    subst hx
    exact zF
  obtain ⟨b1, h1, h⟩ := o_bind h
  refine zR 1 ?_
  refine e_seg 4 19 (.bool b1) ?_ ?_
  · rcases o_cond h1 with ⟨hb, h1⟩ | ⟨hb, h1⟩
    · refine zS 15 hb ?_
      refine zR 2 ?_
      obtain ⟨r2, h2, h1⟩ := o_bind h1
      refine p_call (d_profile_Valid_ok _ r2 h2) (by kernel_rfl) (by kernel_rfl) ?_
      cases h1
      exact zF
    refine zS 15 hb ?_
    cases h1
    exact zF
  refine zR 1 ?_
  refine e_segb 3 23 (b1 && (decide (0 < ((a0.Profile.length : Nat) : Int)))) (fun x hx => ?_) ?_
  · rcases b_and hx with ⟨hb, hx⟩ | ⟨hb, hx⟩
    · refine zS 20 hb ?_
      subst hx
      exact zF
    refine zS 20 hb ?_
    subst hx
    exact zF
  obtain ⟨b3, h3, h⟩ := o_bind h
  refine zR 1 ?_
  refine e_seg 11 35 (.bool b3) ?_ ?_
  · rcases o_cond h3 with ⟨hb, h3⟩ | ⟨hb, h3⟩
    · refine zS 24 hb ?_
      refine zR 4 ?_
      obtain ⟨x4, h4, h3⟩ := o_bind h3
      refine zI h4 ?_
      cases h3
      exact zF
    refine zS 24 hb ?_
    cases h3
    exact zF
  obtain ⟨b5, h5, h⟩ := o_bind h
  refine zR 1 ?_
  refine e_seg 4 40 (.bool b5) ?_ ?_
  · rcases o_cond h5 with ⟨hb, h5⟩ | ⟨hb, h5⟩
    · refine zS 36 hb ?_
      refine zR 2 ?_
      obtain ⟨r6, h6, h5⟩ := o_bind h5
      refine p_call (d_linking_Valid_ok _ r6 h6) (by kernel_rfl) (by kernel_rfl) ?_
      cases h5
      exact zF
    refine zS 36 hb ?_
    cases h5
    exact zF
  refine zE ?_
  refine q_next (pwp_ret ?_)
  cases h
  exact zQ

/-! authority.Build -/
noncomputable def d_authority_Build (a0 : T_api_Layout) (a1 : T_api_Track) (a2 : (List T_api_Restriction)) (a3 : Int) : Option (T_api_Authority × Int) :=
  (d_walk_Valid a0 a1.Steps).bind fun r1 =>
  bif (((!r1) || (decide (a3 < 1))) || (decide (1073741824 < a3))) then (
    some ((T_api_Authority.mk 0 0 [] []), 1)
  ) else (
    (d_profile_Of a0 a1.Steps a1.Origin).bind fun r2 =>
    (d_restriction_Apply a2 a1.Steps a1.Origin a0 r2).bind fun r3 =>
    (d_profile_Cut r3 a1.Origin a1.At).bind fun r4 =>
    (d_linking_Of a0 a1.Steps a1.Origin a1.At).bind fun r5 =>
    (d_authority_Valid (T_api_Authority.mk a3 a1.At r4 r5)).bind fun r6 =>
    bif (!r6) then (
      some ((T_api_Authority.mk 0 0 [] []), 2)
    ) else (
      some ((T_api_Authority.mk a3 a1.At r4 r5), 0)
    )
  )
set_option maxRecDepth 100000 in
theorem d_authority_Build_ok (a0 : T_api_Layout) (a1 : T_api_Track) (a2 : (List T_api_Restriction)) (a3 : Int) (r : (T_api_Authority × Int)) (h : d_authority_Build a0 a1 a2 a3 = some r) : PCall Go.Proofs.Tryd.prog GlS 9 [Enc.pv a0, Enc.pv a1, Enc.pv a2, Enc.pv a3] (.tup [Enc.pv r.1, Enc.pv r.2]) := by
  unfold d_authority_Build at h
  refine pcall_of_pwpD Go.Proofs.Tryd.func9 (by rfl) rfl Go.Proofs.Tryd.ntmps9 (by rfl) rfl ?_
  refine pwpD_seq (r_reg ?_)
  refine zE ?_
  refine qd_next (pwpD_seq (pwp_seq (r_reg ?_)))
  refine zR 3 ?_
  obtain ⟨r1, h1, h⟩ := o_bind h
  refine p_call (d_walk_Valid_ok _ _ r1 h1) (by kernel_rfl) (by kernel_rfl) ?_
  refine zR 2 ?_
  refine e_segb 3 19 ((!r1) || (decide (a3 < 1))) (fun x hx => ?_) ?_
  · rcases b_or hx with ⟨hb, hx⟩ | ⟨hb, hx⟩
    · refine zS 16 hb ?_
      subst hx
      exact zF
    refine zS 16 hb ?_
    subst hx
    exact zF
  refine zR 1 ?_
  refine e_segb 3 23 (((!r1) || (decide (a3 < 1))) || (decide (1073741824 < a3))) (fun x hx => ?_) ?_
  · rcases b_or hx with ⟨hb, hx⟩ | ⟨hb, hx⟩
    · refine zS 20 hb ?_
      subst hx
      exact zF
    refine zS 20 hb ?_
    subst hx
    exact zF
  refine zN ?_
  refine q_next ?_
  rcases o_cond h with ⟨hb, h⟩ | ⟨hb, h⟩
  · refine zT hb ?_
    refine pwp_seq (r_reg ?_)
    refine zE ?_
    refine q_next (pwp_ret (qd_ret ?_))
    cases h
    exact zQ
  refine zU hb ?_
  refine pwp_skip (qd_next ?_)
  refine pwpD_defer 1 21 [.ref 8 0, .ref 9 0] (by rfl) ?_
  refine zE ?_
  refine ⟨by kernel_rfl, by kernel_rfl, by kernel_rfl, ?_⟩
  refine pwp_seq ?_
  refine r_regd (by kernel_rfl) (by kernel_rfl) ?_
  refine zR 11 ?_
  obtain ⟨r2, h2, h⟩ := o_bind h
  refine p_call (d_profile_Of_ok _ _ _ r2 h2) (by kernel_rfl) (by kernel_rfl) ?_
  obtain ⟨r3, h3, h⟩ := o_bind h
  refine p_call (d_restriction_Apply_ok _ _ _ _ _ r3 h3) (by kernel_rfl) (by kernel_rfl) ?_
  refine zE ?_
  refine q_next (pwp_seq ?_)
  refine r_regd (by kernel_rfl) (by kernel_rfl) ?_
  refine zR 8 ?_
  obtain ⟨r4, h4, h⟩ := o_bind h
  refine p_call (d_profile_Cut_fz _ _ _ r4 h4) (by kernel_rfl) (by kernel_rfl) ?_
  refine zR 7 ?_
  obtain ⟨r5, h5, h⟩ := o_bind h
  refine p_call (d_linking_Of_ok _ _ _ _ r5 h5) (by kernel_rfl) (by kernel_rfl) ?_
  refine zE ?_
  refine q_next (pwp_ret ?_)
  refine q_dend (caps := [.ref 8 0, .ref 9 0]) (by kernel_rfl) Go.Proofs.Tryd.func21 (by rfl) rfl Go.Proofs.Tryd.ntmps21 (by rfl) ?_
  refine pwp_wkr ((wkr_ren 1 (by kernel_rfl)).trans (.of (j := ⟨[(0, .ref 1008 0), (1, .ref 1009 0), (14, .ref 1008 0), (15, .ref 1009 0), (63, .fn 21 [.ref 1008 0, .ref 1009 0])], [(1008, .cells ([.int .i64 a3, .int .i64 a1.At, lstOf .frozen (r4 : (List T_api_Segment)), lstOf .frozen (r5 : (List T_api_Linked))])), (1009, .cells ([.int .i64 0]))], [], []⟩) (n := 5800064) (by kernel_rfl) (by kernel_rfl))) ?_
  refine pwp_seq (r_reg ?_)
  refine zR 1 ?_
  obtain ⟨r6, h6, h⟩ := o_bind h
  refine p_call (d_authority_Valid_ok _ r6 h6) (by kernel_rfl) (by kernel_rfl) ?_
  refine zE ?_
  refine q_next ?_
  rcases o_cond h with ⟨hb, h⟩ | ⟨hb, h⟩
  · refine zT hb ?_
    refine r_reg ?_
    refine zE ?_
    cases h
    exact q_dfin (by kernel_rfl) (by kernel_rfl) (by kernel_rfl)
  refine zU hb ?_
  refine pwp_skip ?_
  cases h
  exact q_dfin (by kernel_rfl) (by kernel_rfl) (by kernel_rfl)

/-! signallingref10.Same -/
noncomputable def d_ref10_Same_0 (a0 : (List T_api_Segment)) (a1 : (List T_api_Segment)) : Int → Option (Int ⊕ (Unit ⊕ Bool)) := fun x3 =>
  bif decide (x3 < ((a0.length : Nat) : Int)) then (
    (ixO a0 x3).bind fun x6 =>
    (ixO a1 x3).bind fun x7 =>
    bif (!(eq_T_api_Segment x6 x7)) then (
      some (.inr (.inr false))
    ) else (
      some (.inl (w64 (x3 + 1)))
    )
  ) else (
    some (.inr (.inl ()))
  )

noncomputable def d_ref10_Same (a0 : (List T_api_Segment)) (a1 : (List T_api_Segment)) : Option Bool :=
  bif (!(decide (((a0.length : Nat) : Int) = ((a1.length : Nat) : Int)))) then (
    some false
  ) else (
    onInl (α := Unit) (β := Bool) (loopO (d_ref10_Same_0 a0 a1) 0) fun _ =>
    some true
  )
theorem d_ref10_Same_ok (a0 : (List T_api_Segment)) (a1 : (List T_api_Segment)) (r : Bool) (h : d_ref10_Same a0 a1 = some r) : PCall Go.Proofs.Tryd.prog GlS 31 [Enc.pv a0, Enc.pv a1] (Enc.pv r) := by
  unfold d_ref10_Same at h
  refine pcall_of_pwp Go.Proofs.Tryd.func31 (by rfl) rfl Go.Proofs.Tryd.ntmps31 (by rfl) rfl ?_
  refine pwp_seq (r_reg ?_)
  refine zE ?_
  refine q_next (pwp_seq (pwp_seq (r_reg ?_)))
  refine zR 1 ?_
  refine p_len (L := (a0 : (List T_api_Segment))) (by kernel_rfl) ?_
  refine zR 1 ?_
  refine p_len (L := (a1 : (List T_api_Segment))) (by kernel_rfl) ?_
  refine zE ?_
  refine q_next ?_
  rcases o_cond h with ⟨hb, h⟩ | ⟨hb, h⟩
  · refine zT hb ?_
    refine pwp_seq (r_reg ?_)
    refine zE ?_
    refine q_next (pwp_ret (q_seq_ret ?_))
    cases h
    exact zQ
  refine zU hb ?_
  refine pwp_skip (q_next (pwp_seq (pwp_seq (r_reg ?_))))
  refine zR 1 ?_
  refine p_len (L := (a0 : (List T_api_Segment))) (by kernel_rfl) ?_
  refine zE ?_
  refine q_next (pwp_block ?_)
  obtain ⟨o8, h8, h⟩ := o_inl h
  refine r_loop2 26 0 (fun x3 => ⟨[(0, lstOf .frozen (a0 : (List T_api_Segment))), (1, lstOf .frozen (a1 : (List T_api_Segment))), (12, .int .i64 ((a0.length : Nat) : Int)), (13, .int .i64 x3)], [], [], []⟩) (fun (_ : Unit) => ⟨[], [], [], []⟩) h8 (by kernel_rfl) (fun _ => by kernel_rfl) ?_ ?_
  · rintro x3 oh7 h7
    unfold d_ref10_Same_0 at h7
    refine pwp_seq (r_reg ?_)
    refine zE ?_
    refine q_next (pwp_seq ?_)
    rcases o_cond h7 with ⟨hb, h7⟩ | ⟨hb, h7⟩
    · refine zT hb ?_
      refine pwp_skip (q_next (pwp_seq (pwp_block (pwp_seq (r_reg ?_)))))
      refine zE ?_
      refine q_next (pwp_seq ?_)
      refine r_regd (by kernel_rfl) (by kernel_rfl) ?_
      refine zR 2 ?_
      obtain ⟨x6, h9, h7⟩ := o_bind h7
      refine zI h9 ?_
      refine zR 3 ?_
      obtain ⟨x7, h10, h7⟩ := o_bind h7
      refine zI h10 ?_
      refine zE ?_
      refine q_next ?_
      rcases o_cond h7 with ⟨hb, h7⟩ | ⟨hb, h7⟩
      · refine zT hb ?_
        refine pwp_seq (r_reg ?_)
        refine zE ?_
        refine q_next (pwp_ret (q_block_ret (q_seq_ret ?_)))
        cases h7
        refine q_lout_ret fun he => ?_
        subst he
        have h11 := o_outr h
        refine q_block_ret (q_seq_ret ?_)
        cases h11
        exact zQ
      refine zU hb ?_
      refine pwp_skip (q_block (q_next (r_reg ?_)))
      refine zE ?_
      cases h7
      exact zB
    refine zU hb ?_
    refine pwp_exit (q_seq_exit ?_)
    cases h7
    exact zX
  rintro _ s' rfl hs
  have h := o_outl h
  refine q_block_hit ?_
  refine q_next (pwp_wkr hs ?_)
  refine pwp_seq (r_reg ?_)
  refine zE ?_
  refine q_next (pwp_ret ?_)
  cases h
  exact zQ

/-! signallingref32.Same -/
noncomputable def d_ref32_Same_0 (a0 : (List T_api_Linked)) (a1 : (List T_api_Linked)) : Int → Option (Int ⊕ (Unit ⊕ Bool)) := fun x3 =>
  bif decide (x3 < ((a0.length : Nat) : Int)) then (
    (ixO a0 x3).bind fun x6 =>
    (ixO a1 x3).bind fun x7 =>
    bif (!(eq_T_api_Linked x6 x7)) then (
      some (.inr (.inr false))
    ) else (
      some (.inl (w64 (x3 + 1)))
    )
  ) else (
    some (.inr (.inl ()))
  )

noncomputable def d_ref32_Same (a0 : (List T_api_Linked)) (a1 : (List T_api_Linked)) : Option Bool :=
  bif (!(decide (((a0.length : Nat) : Int) = ((a1.length : Nat) : Int)))) then (
    some false
  ) else (
    onInl (α := Unit) (β := Bool) (loopO (d_ref32_Same_0 a0 a1) 0) fun _ =>
    some true
  )
theorem d_ref32_Same_ok (a0 : (List T_api_Linked)) (a1 : (List T_api_Linked)) (r : Bool) (h : d_ref32_Same a0 a1 = some r) : PCall Go.Proofs.Tryd.prog GlS 32 [Enc.pv a0, Enc.pv a1] (Enc.pv r) := by
  unfold d_ref32_Same at h
  refine pcall_of_pwp Go.Proofs.Tryd.func32 (by rfl) rfl Go.Proofs.Tryd.ntmps32 (by rfl) rfl ?_
  refine pwp_seq (r_reg ?_)
  refine zE ?_
  refine q_next (pwp_seq (pwp_seq (r_reg ?_)))
  refine zR 1 ?_
  refine p_len (L := (a0 : (List T_api_Linked))) (by kernel_rfl) ?_
  refine zR 1 ?_
  refine p_len (L := (a1 : (List T_api_Linked))) (by kernel_rfl) ?_
  refine zE ?_
  refine q_next ?_
  rcases o_cond h with ⟨hb, h⟩ | ⟨hb, h⟩
  · refine zT hb ?_
    refine pwp_seq (r_reg ?_)
    refine zE ?_
    refine q_next (pwp_ret (q_seq_ret ?_))
    cases h
    exact zQ
  refine zU hb ?_
  refine pwp_skip (q_next (pwp_seq (pwp_seq (r_reg ?_))))
  refine zE ?_
  refine q_next (pwp_block ?_)
  obtain ⟨o8, h8, h⟩ := o_inl h
  refine r_loop2 26 0 (fun x3 => ⟨[(0, lstOf .frozen (a0 : (List T_api_Linked))), (1, lstOf .frozen (a1 : (List T_api_Linked))), (5, .int .i64 x3)], [], [], []⟩) (fun (_ : Unit) => ⟨[], [], [], []⟩) h8 (by kernel_rfl) (fun _ => by kernel_rfl) ?_ ?_
  · rintro x3 oh7 h7
    unfold d_ref32_Same_0 at h7
    refine pwp_seq (pwp_seq (r_reg ?_))
    refine zR 2 ?_
    refine p_len (L := (a0 : (List T_api_Linked))) (by kernel_rfl) ?_
    refine zE ?_
    refine q_next ?_
    rcases o_cond h7 with ⟨hb, h7⟩ | ⟨hb, h7⟩
    · refine zT hb ?_
      refine pwp_skip (q_next (pwp_seq (pwp_block (pwp_seq ?_))))
      refine r_regd (by kernel_rfl) (by kernel_rfl) ?_
      refine zR 2 ?_
      obtain ⟨x6, h9, h7⟩ := o_bind h7
      refine zI h9 ?_
      refine zR 3 ?_
      obtain ⟨x7, h10, h7⟩ := o_bind h7
      refine zI h10 ?_
      refine zE ?_
      refine q_next ?_
      rcases o_cond h7 with ⟨hb, h7⟩ | ⟨hb, h7⟩
      · refine zT hb ?_
        refine pwp_seq (r_reg ?_)
        refine zE ?_
        refine q_next (pwp_ret (q_block_ret (q_seq_ret ?_)))
        cases h7
        refine q_lout_ret fun he => ?_
        subst he
        have h11 := o_outr h
        refine q_block_ret (q_seq_ret ?_)
        cases h11
        exact zQ
      refine zU hb ?_
      refine pwp_skip (q_block (q_next (r_reg ?_)))
      refine zE ?_
      cases h7
      exact zB
    refine zU hb ?_
    refine pwp_exit (q_seq_exit ?_)
    cases h7
    exact zX
  rintro _ s' rfl hs
  have h := o_outl h
  refine q_block_hit ?_
  refine q_next (pwp_wkr hs ?_)
  refine pwp_seq (r_reg ?_)
  refine zE ?_
  refine q_next (pwp_ret ?_)
  cases h
  exact zQ

/-! signallingref45.Same -/
noncomputable def d_ref45_Same (a0 : T_api_Authority) (a1 : T_api_Authority) : Option Bool :=
  ((bif ((decide (a0.Seq = a1.Seq)) && (decide (a0.End = a1.End))) then (
    (d_ref10_Same a0.Profile a1.Profile).bind fun r2 =>
    some r2
  ) else some false) : Option Bool).bind fun b1 =>
  ((bif b1 then (
    (d_ref32_Same a0.Links a1.Links).bind fun r4 =>
    some r4
  ) else some false) : Option Bool).bind fun b3 =>
  some b3
theorem d_ref45_Same_ok (a0 : T_api_Authority) (a1 : T_api_Authority) (r : Bool) (h : d_ref45_Same a0 a1 = some r) : PCall Go.Proofs.Tryd.prog GlS 11 [Enc.pv a0, Enc.pv a1] (Enc.pv r) := by
  unfold d_ref45_Same at h
  refine pcall_of_pwp Go.Proofs.Tryd.func11 (by rfl) rfl Go.Proofs.Tryd.ntmps11 (by rfl) rfl ?_
  refine pwp_seq (r_reg ?_)
  refine zE ?_
  refine q_next (pwp_seq (r_reg ?_))
  refine zR 6 ?_
  refine e_segb 6 16 ((decide (a0.Seq = a1.Seq)) && (decide (a0.End = a1.End))) (fun x hx => ?_) ?_
  · rcases b_and hx with ⟨hb, hx⟩ | ⟨hb, hx⟩
    · refine zS 10 hb ?_
      subst hx
      exact zF
    refine zS 10 hb ?_
    subst hx
    exact zF
  obtain ⟨b1, h1, h⟩ := o_bind h
  refine zR 1 ?_
  refine e_seg 6 23 (.bool b1) ?_ ?_
  · rcases o_cond h1 with ⟨hb, h1⟩ | ⟨hb, h1⟩
    · refine zS 17 hb ?_
      refine zR 4 ?_
      obtain ⟨r2, h2, h1⟩ := o_bind h1
      refine p_call (d_ref10_Same_ok _ _ r2 h2) (by kernel_rfl) (by kernel_rfl) ?_
      cases h1
      exact zF
    refine zS 17 hb ?_
    cases h1
    exact zF
  obtain ⟨b3, h3, h⟩ := o_bind h
  refine zR 1 ?_
  refine e_seg 6 30 (.bool b3) ?_ ?_
  · rcases o_cond h3 with ⟨hb, h3⟩ | ⟨hb, h3⟩
    · refine zS 24 hb ?_
      refine zR 4 ?_
      obtain ⟨r4, h4, h3⟩ := o_bind h3
      refine p_call (d_ref32_Same_ok _ _ r4 h4) (by kernel_rfl) (by kernel_rfl) ?_
      cases h3
      exact zF
    refine zS 24 hb ?_
    cases h3
    exact zF
  refine zE ?_
  refine q_next (pwp_ret ?_)
  cases h
  exact zQ

/-! slices.Equal[[]api.Segment,api.Segment] -/
noncomputable def d_slices_Equal_api_Segment_0 (a0 : (List T_api_Segment)) (a1 : (List T_api_Segment)) : Int → Option (Int ⊕ (Unit ⊕ Bool)) := fun x3 =>
  bif decide (x3 < ((a0.length : Nat) : Int)) then (
    (ixO a0 x3).bind fun x6 =>
    (ixO a1 x3).bind fun x7 =>
    bif (!(eq_T_api_Segment x6 x7)) then (
      some (.inr (.inr false))
    ) else (
      some (.inl (w64 (x3 + 1)))
    )
  ) else (
    some (.inr (.inl ()))
  )

noncomputable def d_slices_Equal_api_Segment (a0 : (List T_api_Segment)) (a1 : (List T_api_Segment)) : Option Bool :=
  bif (!(decide (((a0.length : Nat) : Int) = ((a1.length : Nat) : Int)))) then (
    some false
  ) else (
    onInl (α := Unit) (β := Bool) (loopO (d_slices_Equal_api_Segment_0 a0 a1) 0) fun _ =>
    some true
  )
theorem d_slices_Equal_api_Segment_ok (a0 : (List T_api_Segment)) (a1 : (List T_api_Segment)) (r : Bool) (h : d_slices_Equal_api_Segment a0 a1 = some r) : PCall Go.Proofs.Tryd.prog GlS 43 [Enc.pv a0, Enc.pv a1] (Enc.pv r) := by
  unfold d_slices_Equal_api_Segment at h
  refine pcall_of_pwp Go.Proofs.Tryd.func43 (by rfl) rfl Go.Proofs.Tryd.ntmps43 (by rfl) rfl ?_
  refine pwp_seq (r_reg ?_)
  refine zE ?_
  refine q_next (pwp_seq (pwp_seq (r_reg ?_)))
  refine zR 1 ?_
  refine p_len (L := (a0 : (List T_api_Segment))) (by kernel_rfl) ?_
  refine zR 1 ?_
  refine p_len (L := (a1 : (List T_api_Segment))) (by kernel_rfl) ?_
  refine zE ?_
  refine q_next ?_
  rcases o_cond h with ⟨hb, h⟩ | ⟨hb, h⟩
  · refine zT hb ?_
    refine pwp_seq (r_reg ?_)
    refine zE ?_
    refine q_next (pwp_ret (q_seq_ret ?_))
    cases h
    exact zQ
  refine zU hb ?_
  refine pwp_skip (q_next (pwp_seq (pwp_seq (r_reg ?_))))
  refine zR 1 ?_
  refine p_len (L := (a0 : (List T_api_Segment))) (by kernel_rfl) ?_
  refine zE ?_
  refine q_next (pwp_block ?_)
  obtain ⟨o8, h8, h⟩ := o_inl h
  refine r_loop2 26 0 (fun x3 => ⟨[(0, lstOf .frozen (a0 : (List T_api_Segment))), (1, lstOf .frozen (a1 : (List T_api_Segment))), (12, .int .i64 ((a0.length : Nat) : Int)), (13, .int .i64 x3)], [], [], []⟩) (fun (_ : Unit) => ⟨[], [], [], []⟩) h8 (by kernel_rfl) (fun _ => by kernel_rfl) ?_ ?_
  · rintro x3 oh7 h7
    unfold d_slices_Equal_api_Segment_0 at h7
    refine pwp_seq (r_reg ?_)
    refine zE ?_
    refine q_next (pwp_seq ?_)
    rcases o_cond h7 with ⟨hb, h7⟩ | ⟨hb, h7⟩
    · refine zT hb ?_
      refine pwp_skip (q_next (pwp_seq (pwp_block (pwp_seq (r_reg ?_)))))
      refine zE ?_
      refine q_next (pwp_seq ?_)
      refine r_regd (by kernel_rfl) (by kernel_rfl) ?_
      refine zR 2 ?_
      obtain ⟨x6, h9, h7⟩ := o_bind h7
      refine zI h9 ?_
      refine zR 3 ?_
      obtain ⟨x7, h10, h7⟩ := o_bind h7
      refine zI h10 ?_
      refine zE ?_
      refine q_next ?_
      rcases o_cond h7 with ⟨hb, h7⟩ | ⟨hb, h7⟩
      · refine zT hb ?_
        refine pwp_seq (r_reg ?_)
        refine zE ?_
        refine q_next (pwp_ret (q_block_ret (q_seq_ret ?_)))
        cases h7
        refine q_lout_ret fun he => ?_
        subst he
        have h11 := o_outr h
        refine q_block_ret (q_seq_ret ?_)
        cases h11
        exact zQ
      refine zU hb ?_
      refine pwp_skip (q_block (q_next (r_reg ?_)))
      refine zE ?_
      cases h7
      exact zB
    refine zU hb ?_
    refine pwp_exit (q_seq_exit ?_)
    cases h7
    exact zX
  rintro _ s' rfl hs
  have h := o_outl h
  refine q_block_hit ?_
  refine q_next (pwp_wkr hs ?_)
  refine pwp_seq (r_reg ?_)
  refine zE ?_
  refine q_next (pwp_ret ?_)
  cases h
  exact zQ

/-! slices.Equal[[]api.Linked,api.Linked] -/
noncomputable def d_slices_Equal_api_Linked_0 (a0 : (List T_api_Linked)) (a1 : (List T_api_Linked)) : Int → Option (Int ⊕ (Unit ⊕ Bool)) := fun x3 =>
  bif decide (x3 < ((a0.length : Nat) : Int)) then (
    (ixO a0 x3).bind fun x6 =>
    (ixO a1 x3).bind fun x7 =>
    bif (!(eq_T_api_Linked x6 x7)) then (
      some (.inr (.inr false))
    ) else (
      some (.inl (w64 (x3 + 1)))
    )
  ) else (
    some (.inr (.inl ()))
  )

noncomputable def d_slices_Equal_api_Linked (a0 : (List T_api_Linked)) (a1 : (List T_api_Linked)) : Option Bool :=
  bif (!(decide (((a0.length : Nat) : Int) = ((a1.length : Nat) : Int)))) then (
    some false
  ) else (
    onInl (α := Unit) (β := Bool) (loopO (d_slices_Equal_api_Linked_0 a0 a1) 0) fun _ =>
    some true
  )
theorem d_slices_Equal_api_Linked_ok (a0 : (List T_api_Linked)) (a1 : (List T_api_Linked)) (r : Bool) (h : d_slices_Equal_api_Linked a0 a1 = some r) : PCall Go.Proofs.Tryd.prog GlS 44 [Enc.pv a0, Enc.pv a1] (Enc.pv r) := by
  unfold d_slices_Equal_api_Linked at h
  refine pcall_of_pwp Go.Proofs.Tryd.func44 (by rfl) rfl Go.Proofs.Tryd.ntmps44 (by rfl) rfl ?_
  refine pwp_seq (r_reg ?_)
  refine zE ?_
  refine q_next (pwp_seq (pwp_seq (r_reg ?_)))
  refine zR 1 ?_
  refine p_len (L := (a0 : (List T_api_Linked))) (by kernel_rfl) ?_
  refine zR 1 ?_
  refine p_len (L := (a1 : (List T_api_Linked))) (by kernel_rfl) ?_
  refine zE ?_
  refine q_next ?_
  rcases o_cond h with ⟨hb, h⟩ | ⟨hb, h⟩
  · refine zT hb ?_
    refine pwp_seq (r_reg ?_)
    refine zE ?_
    refine q_next (pwp_ret (q_seq_ret ?_))
    cases h
    exact zQ
  refine zU hb ?_
  refine pwp_skip (q_next (pwp_seq (pwp_seq (r_reg ?_))))
  refine zR 1 ?_
  refine p_len (L := (a0 : (List T_api_Linked))) (by kernel_rfl) ?_
  refine zE ?_
  refine q_next (pwp_block ?_)
  obtain ⟨o8, h8, h⟩ := o_inl h
  refine r_loop2 26 0 (fun x3 => ⟨[(0, lstOf .frozen (a0 : (List T_api_Linked))), (1, lstOf .frozen (a1 : (List T_api_Linked))), (12, .int .i64 ((a0.length : Nat) : Int)), (13, .int .i64 x3)], [], [], []⟩) (fun (_ : Unit) => ⟨[], [], [], []⟩) h8 (by kernel_rfl) (fun _ => by kernel_rfl) ?_ ?_
  · rintro x3 oh7 h7
    unfold d_slices_Equal_api_Linked_0 at h7
    refine pwp_seq (r_reg ?_)
    refine zE ?_
    refine q_next (pwp_seq ?_)
    rcases o_cond h7 with ⟨hb, h7⟩ | ⟨hb, h7⟩
    · refine zT hb ?_
      refine pwp_skip (q_next (pwp_seq (pwp_block (pwp_seq (r_reg ?_)))))
      refine zE ?_
      refine q_next (pwp_seq ?_)
      refine r_regd (by kernel_rfl) (by kernel_rfl) ?_
      refine zR 2 ?_
      obtain ⟨x6, h9, h7⟩ := o_bind h7
      refine zI h9 ?_
      refine zR 3 ?_
      obtain ⟨x7, h10, h7⟩ := o_bind h7
      refine zI h10 ?_
      refine zE ?_
      refine q_next ?_
      rcases o_cond h7 with ⟨hb, h7⟩ | ⟨hb, h7⟩
      · refine zT hb ?_
        refine pwp_seq (r_reg ?_)
        refine zE ?_
        refine q_next (pwp_ret (q_block_ret (q_seq_ret ?_)))
        cases h7
        refine q_lout_ret fun he => ?_
        subst he
        have h11 := o_outr h
        refine q_block_ret (q_seq_ret ?_)
        cases h11
        exact zQ
      refine zU hb ?_
      refine pwp_skip (q_block (q_next (r_reg ?_)))
      refine zE ?_
      cases h7
      exact zB
    refine zU hb ?_
    refine pwp_exit (q_seq_exit ?_)
    cases h7
    exact zX
  rintro _ s' rfl hs
  have h := o_outl h
  refine q_block_hit ?_
  refine q_next (pwp_wkr hs ?_)
  refine pwp_seq (r_reg ?_)
  refine zE ?_
  refine q_next (pwp_ret ?_)
  cases h
  exact zQ

/-! authority.Same -/
noncomputable def d_authority_Same (a0 : T_api_Authority) (a1 : T_api_Authority) : Option Bool :=
  ((bif ((decide (a0.Seq = a1.Seq)) && (decide (a0.End = a1.End))) then (
    (d_slices_Equal_api_Segment a0.Profile a1.Profile).bind fun r2 =>
    some r2
  ) else some false) : Option Bool).bind fun b1 =>
  ((bif b1 then (
    (d_slices_Equal_api_Linked a0.Links a1.Links).bind fun r4 =>
    some r4
  ) else some false) : Option Bool).bind fun b3 =>
  some b3
theorem d_authority_Same_ok (a0 : T_api_Authority) (a1 : T_api_Authority) (r : Bool) (h : d_authority_Same a0 a1 = some r) : PCall Go.Proofs.Tryd.prog GlS 17 [Enc.pv a0, Enc.pv a1] (Enc.pv r) := by
  unfold d_authority_Same at h
  refine pcall_of_pwp Go.Proofs.Tryd.func17 (by rfl) rfl Go.Proofs.Tryd.ntmps17 (by rfl) rfl ?_
  refine pwp_seq (r_reg ?_)
  refine zE ?_
  refine q_next (pwp_seq (r_reg ?_))
  refine zR 6 ?_
  refine e_segb 6 16 ((decide (a0.Seq = a1.Seq)) && (decide (a0.End = a1.End))) (fun x hx => ?_) ?_
  · rcases b_and hx with ⟨hb, hx⟩ | ⟨hb, hx⟩
    · refine zS 10 hb ?_
      subst hx
      exact zF
    refine zS 10 hb ?_
    subst hx
    exact zF
  obtain ⟨b1, h1, h⟩ := o_bind h
  refine zR 1 ?_
  refine e_seg 6 23 (.bool b1) ?_ ?_
  · rcases o_cond h1 with ⟨hb, h1⟩ | ⟨hb, h1⟩
    · refine zS 17 hb ?_
      refine zR 4 ?_
      obtain ⟨r2, h2, h1⟩ := o_bind h1
      refine p_call (d_slices_Equal_api_Segment_ok _ _ r2 h2) (by kernel_rfl) (by kernel_rfl) ?_
      cases h1
      exact zF
    refine zS 17 hb ?_
    cases h1
    exact zF
  obtain ⟨b3, h3, h⟩ := o_bind h
  refine zR 1 ?_
  refine e_seg 6 30 (.bool b3) ?_ ?_
  · rcases o_cond h3 with ⟨hb, h3⟩ | ⟨hb, h3⟩
    · refine zS 24 hb ?_
      refine zR 4 ?_
      obtain ⟨r4, h4, h3⟩ := o_bind h3
      refine p_call (d_slices_Equal_api_Linked_ok _ _ r4 h4) (by kernel_rfl) (by kernel_rfl) ?_
      cases h3
      exact zF
    refine zS 24 hb ?_
    cases h3
    exact zF
  refine zE ?_
  refine q_next (pwp_ret ?_)
  cases h
  exact zQ

/-! profile.At -/
noncomputable def d_profile_At_0 (a0 : (List T_api_Segment)) (a1 : Int) : Int → Option (Int ⊕ (Unit ⊕ (T_api_Segment × Bool))) := fun x3 =>
  bif decide (x3 < ((a0.length : Nat) : Int)) then (
    (ixO a0 x3).bind fun x5 =>
    bif ((decide (x5.From ≤ a1)) && (decide (a1 < x5.To))) then (
      some (.inr (.inr (x5, true)))
    ) else (
      some (.inl (w64 (x3 + 1)))
    )
  ) else (
    some (.inr (.inl ()))
  )

noncomputable def d_profile_At (a0 : (List T_api_Segment)) (a1 : Int) : Option (T_api_Segment × Bool) :=
  (d_profile_Valid a0).bind fun r1 =>
  bif (!r1) then (
    some ((T_api_Segment.mk 0 0 0 0), false)
  ) else (
    onInl (α := Unit) (β := (T_api_Segment × Bool)) (loopO (d_profile_At_0 a0 a1) 0) fun _ =>
    some ((T_api_Segment.mk 0 0 0 0), false)
  )
theorem d_profile_At_ok (a0 : (List T_api_Segment)) (a1 : Int) (r : (T_api_Segment × Bool)) (h : d_profile_At a0 a1 = some r) : PCall Go.Proofs.Tryd.prog GlS 33 [Enc.pv a0, Enc.pv a1] (.tup [Enc.pv r.1, Enc.pv r.2]) := by
  unfold d_profile_At at h
  refine pcall_of_pwp Go.Proofs.Tryd.func33 (by rfl) rfl Go.Proofs.Tryd.ntmps33 (by rfl) rfl ?_
  refine pwp_seq (r_reg ?_)
  refine zE ?_
  refine q_next (pwp_seq (pwp_seq (r_reg ?_)))
  refine zR 1 ?_
  obtain ⟨r1, h1, h⟩ := o_bind h
  refine p_call (d_profile_Valid_ok _ r1 h1) (by kernel_rfl) (by kernel_rfl) ?_
  refine zE ?_
  refine q_next ?_
  rcases o_cond h with ⟨hb, h⟩ | ⟨hb, h⟩
  · refine zT hb ?_
    refine pwp_seq (r_reg ?_)
    refine zE ?_
    refine q_next (pwp_ret (q_seq_ret ?_))
    cases h
    exact zQ
  refine zU hb ?_
  refine pwp_skip (q_next (pwp_seq (pwp_seq (r_reg ?_))))
  refine zR 1 ?_
  refine p_len (L := (a0 : (List T_api_Segment))) (by kernel_rfl) ?_
  refine zE ?_
  refine q_next (pwp_block ?_)
  obtain ⟨o7, h7, h⟩ := o_inl h
  refine r_loop2 31 0 (fun x3 => ⟨[(1, .int .i64 a1), (4, .ref 4 0), (12, lstOf .frozen (a0 : (List T_api_Segment))), (13, .int .i64 ((a0.length : Nat) : Int)), (14, .int .i64 x3)], [(4, .cells ([.int .i64 0, .int .i64 0, .int .i64 0, .int .i64 0]))], [], []⟩) (fun (_ : Unit) => ⟨[(4, .ref 4 0)], [(4, .cells ([.int .i64 0, .int .i64 0, .int .i64 0, .int .i64 0]))], [], []⟩) h7 (by kernel_rfl) (fun _ => by kernel_rfl) ?_ ?_
  · rintro x3 oh6 h6
    unfold d_profile_At_0 at h6
    refine pwp_seq (r_reg ?_)
    refine zE ?_
    refine q_next (pwp_seq ?_)
    rcases o_cond h6 with ⟨hb, h6⟩ | ⟨hb, h6⟩
    · refine zT hb ?_
      refine pwp_skip (q_next (pwp_seq (pwp_block (pwp_seq (r_reg ?_)))))
      obtain ⟨x5, h8, h6⟩ := o_bind h6
      refine zI h8 ?_
      refine zE ?_
      refine q_next (pwp_seq (r_reg ?_))
      refine zR 5 ?_
      refine e_segb 5 27 ((decide (x5.From ≤ a1)) && (decide (a1 < x5.To))) (fun x hx => ?_) ?_
      · rcases b_and hx with ⟨hb, hx⟩ | ⟨hb, hx⟩
        · refine zS 22 hb ?_
          subst hx
          exact zF
        refine zS 22 hb ?_
        subst hx
        exact zF
      refine zN ?_
      refine q_next ?_
      rcases o_cond h6 with ⟨hb, h6⟩ | ⟨hb, h6⟩
      · refine zT hb ?_
        refine pwp_seq (r_reg ?_)
        refine zE ?_
        refine q_next (pwp_ret (q_block_ret (q_seq_ret ?_)))
        cases h6
        refine q_lout_ret fun he => ?_
        subst he
        have h9 := o_outr h
        refine q_block_ret (q_seq_ret ?_)
        cases h9
        exact zQ
      refine zU hb ?_
      refine pwp_skip (q_block (q_next (r_reg ?_)))
      refine zE ?_
      cases h6
      exact zB
    refine zU hb ?_
    refine pwp_exit (q_seq_exit ?_)
    cases h6
    exact zX
  rintro _ s' rfl hs
  have h := o_outl h
  refine q_block_hit ?_
  refine q_next (pwp_wkr hs ?_)
  refine pwp_seq (r_reg ?_)
  refine zE ?_
  refine q_next (pwp_ret ?_)
  cases h
  exact zQ

/-! authority.Extends -/
noncomputable def d_authority_Extends_0 (a0 : T_api_Authority) (a1 : T_api_Authority) : Int → Option (Int ⊕ (Unit ⊕ Bool)) := fun x8 =>
  bif decide (x8 < a0.End) then (
    (d_profile_At a0.Profile x8).bind fun r11 =>
    (d_profile_At a1.Profile x8).bind fun r12 =>
    bif ((((!r11.2) || (!r12.2)) || (!(decide (r11.1.Grade = r12.1.Grade)))) || (!(decide (r11.1.Speed = r12.1.Speed)))) then (
      some (.inr (.inr false))
    ) else (
      bif decide ((min r11.1.To r12.1.To) ≤ x8) then (
        some (.inr (.inr false))
      ) else (
        some (.inl (min r11.1.To r12.1.To))
      )
    )
  ) else (
    some (.inr (.inl ()))
  )

noncomputable def d_authority_Extends (a0 : T_api_Authority) (a1 : T_api_Authority) : Option Bool :=
  (d_authority_Valid a0).bind fun r1 =>
  ((bif (!r1) then some true else (
    (d_authority_Valid a1).bind fun r3 =>
    some (!r3)
  )) : Option Bool).bind fun b2 =>
  bif (b2 || (decide (a1.End < a0.End))) then (
    some false
  ) else (
    (ixO a0.Profile 0).bind fun x4 =>
    (ixO a1.Profile 0).bind fun x5 =>
    onInl (α := Unit) (β := Bool) (loopO (d_authority_Extends_0 a0 a1) (max x4.From x5.From)) fun _ =>
    some true
  )
theorem d_authority_Extends_ok (a0 : T_api_Authority) (a1 : T_api_Authority) (r : Bool) (h : d_authority_Extends a0 a1 = some r) : PCall Go.Proofs.Tryd.prog GlS 19 [Enc.pv a0, Enc.pv a1] (Enc.pv r) := by
  unfold d_authority_Extends at h
  refine pcall_of_pwp Go.Proofs.Tryd.func19 (by rfl) rfl Go.Proofs.Tryd.ntmps19 (by rfl) rfl ?_
  refine pwp_seq (r_reg ?_)
  refine zE ?_
  refine q_next (pwp_seq (pwp_seq (r_reg ?_)))
  refine zR 1 ?_
  obtain ⟨r1, h1, h⟩ := o_bind h
  refine p_call (d_authority_Valid_ok _ r1 h1) (by kernel_rfl) (by kernel_rfl) ?_
  obtain ⟨b2, h2, h⟩ := o_bind h
  refine zR 2 ?_
  refine e_seg 4 18 (.bool b2) ?_ ?_
  · rcases o_cond h2 with ⟨hb, h2⟩ | ⟨hb, h2⟩
    · refine zS 14 hb ?_
      cases h2
      exact zF
    refine zS 14 hb ?_
    refine zR 1 ?_
    obtain ⟨r3, h3, h2⟩ := o_bind h2
    refine p_call (d_authority_Valid_ok _ r3 h3) (by kernel_rfl) (by kernel_rfl) ?_
    cases h2
    exact zF
  refine zR 1 ?_
  refine e_segb 6 25 (b2 || (decide (a1.End < a0.End))) (fun x hx => ?_) ?_
  · rcases b_or hx with ⟨hb, hx⟩ | ⟨hb, hx⟩
    · refine zS 19 hb ?_
      subst hx
      exact zF
    refine zS 19 hb ?_
    subst hx
    exact zF
  refine zN ?_
  refine q_next ?_
  rcases o_cond h with ⟨hb, h⟩ | ⟨hb, h⟩
  · refine zT hb ?_
    refine pwp_seq (r_reg ?_)
    refine zE ?_
    refine q_next (pwp_ret (q_seq_ret ?_))
    cases h
    exact zQ
  refine zU hb ?_
  refine pwp_skip (q_next (pwp_seq ?_))
  refine r_regd (by kernel_rfl) (by kernel_rfl) ?_
  refine zR 2 ?_
  obtain ⟨x4, h4, h⟩ := o_bind h
  refine zI h4 ?_
  refine zR 4 ?_
  obtain ⟨x5, h5, h⟩ := o_bind h
  refine zI h5 ?_
  refine zE ?_
  refine q_next (pwp_seq (pwp_block ?_))
  obtain ⟨o15, h15, h⟩ := o_inl h
  refine r_loop2 84 0 (fun x8 => ⟨[(2, .ref 2 0), (3, .ref 3 0), (5, .int .i64 x8)], [(2, .cells (cellsOf a0)), (3, .cells (cellsOf a1))], [], []⟩) (fun (_ : Unit) => ⟨[], [], [], []⟩) h15 (by kernel_rfl) (fun _ => by kernel_rfl) ?_ ?_
  · rintro x8 oh14 h14
    unfold d_authority_Extends_0 at h14
    refine pwp_seq (pwp_seq (r_reg ?_))
    refine zE ?_
    refine q_next ?_
    rcases o_cond h14 with ⟨hb, h14⟩ | ⟨hb, h14⟩
    · refine zT hb ?_
      refine pwp_skip (q_next (pwp_block (pwp_seq (r_reg ?_))))
      refine zR 3 ?_
      obtain ⟨r11, h16, h14⟩ := o_bind h14
      refine p_call (d_profile_At_ok _ _ r11 h16) (by kernel_rfl) (by kernel_rfl) ?_
      refine zE ?_
      refine q_next (pwp_seq (r_reg ?_))
      refine zR 3 ?_
      obtain ⟨r12, h17, h14⟩ := o_bind h14
      refine p_call (d_profile_At_ok _ _ r12 h17) (by kernel_rfl) (by kernel_rfl) ?_
      refine zE ?_
      refine q_next (pwp_seq (pwp_seq (r_reg ?_)))
      refine zR 3 ?_
      refine e_segb 3 60 ((!r11.2) || (!r12.2)) (fun x hx => ?_) ?_
      · rcases b_or hx with ⟨hb, hx⟩ | ⟨hb, hx⟩
        · refine zS 57 hb ?_
          subst hx
          exact zF
        refine zS 57 hb ?_
        subst hx
        exact zF
      refine zR 1 ?_
      refine e_segb 6 67 (((!r11.2) || (!r12.2)) || (!(decide (r11.1.Grade = r12.1.Grade)))) (fun x hx => ?_) ?_
      · rcases b_or hx with ⟨hb, hx⟩ | ⟨hb, hx⟩
        · refine zS 61 hb ?_
          subst hx
          exact zF
        refine zS 61 hb ?_
        subst hx
        exact zF
      refine zR 1 ?_
      refine e_segb 6 74 ((((!r11.2) || (!r12.2)) || (!(decide (r11.1.Grade = r12.1.Grade)))) || (!(decide (r11.1.Speed = r12.1.Speed)))) (fun x hx => ?_) ?_
      · rcases b_or hx with ⟨hb, hx⟩ | ⟨hb, hx⟩
        · refine zS 68 hb ?_
          subst hx
          exact zF
        refine zS 68 hb ?_
        subst hx
        exact zF
      refine zN ?_
      refine q_next ?_
      rcases o_cond h14 with ⟨hb, h14⟩ | ⟨hb, h14⟩
      · refine zT hb ?_
        refine pwp_seq (r_reg ?_)
        refine zE ?_
        refine q_next (pwp_ret (q_seq_ret (q_block_ret ?_)))
        cases h14
        refine q_lout_ret fun he => ?_
        subst he
        have h18 := o_outr h
        refine q_block_ret (q_seq_ret ?_)
        cases h18
        exact zQ
      refine zU hb ?_
      refine pwp_skip (q_next (pwp_seq (r_reg ?_)))
      refine zE ?_
      refine q_next (pwp_seq (pwp_seq (r_reg ?_)))
      refine zE ?_
      refine q_next ?_
      rcases o_cond h14 with ⟨hb, h14⟩ | ⟨hb, h14⟩
      · refine zT hb ?_
        refine pwp_seq (r_reg ?_)
        refine zE ?_
        refine q_next (pwp_ret (q_seq_ret (q_block_ret ?_)))
        cases h14
        refine q_lout_ret fun he => ?_
        subst he
        have h19 := o_outr h
        refine q_block_ret (q_seq_ret ?_)
        cases h19
        exact zQ
      refine zU hb ?_
      refine pwp_skip (q_next (r_reg ?_))
      refine zE ?_
      refine q_block ?_
      cases h14
      exact zB
    refine zU hb ?_
    refine pwp_exit (q_seq_exit ?_)
    cases h14
    exact zX
  rintro _ s' rfl hs
  have h := o_outl h
  refine q_block_hit ?_
  refine q_next (pwp_wkr hs ?_)
  refine pwp_seq (r_reg ?_)
  refine zE ?_
  refine q_next (pwp_ret ?_)
  cases h
  exact zQ

/-! signallinglaw45.alive -/
noncomputable def d_law45_alive : Option Bool :=
  (d_law45_line ).bind fun r1 =>
  (d_authority_Build r1 (T_api_Track.mk 0 (-15000) 0 5000 [(T_api_Step.mk 0 0 1)] [] [] [] [] 0 0 0 0 0) ([] : (List T_api_Restriction)) 1).bind fun r2 =>
  (appO [(T_api_Step.mk 0 0 1)] [(T_api_Step.mk 1 0 1)]).bind fun x3 =>
  (d_law45_line ).bind fun r4 =>
  (d_authority_Build r4 (T_api_Track.mk 0 (-15000) 0 25000 x3 [] [] [] [] 0 0 0 0 0) ([] : (List T_api_Restriction)) 2).bind fun r5 =>
  (d_law45_line ).bind fun r6 =>
  (d_authority_Build r6 (T_api_Track.mk 0 (-15000) 0 26000 x3 [] [] [] [] 0 0 0 0 0) ([] : (List T_api_Restriction)) 3).bind fun r7 =>
  ((bif (((decide (r2.2 = 0)) && (decide (r5.2 = 0))) && (decide (r7.2 = 2))) then (
    (d_ref45_Same r2.1 (T_api_Authority.mk 1 5000 [(T_api_Segment.mk (-15000) 5000 0 3000)] [])).bind fun r9 =>
    some r9
  ) else some false) : Option Bool).bind fun b8 =>
  ((bif b8 then (
    (d_authority_Same r2.1 (T_api_Authority.mk 1 5000 [(T_api_Segment.mk (-15000) 5000 0 3000)] [])).bind fun r11 =>
    some r11
  ) else some false) : Option Bool).bind fun b10 =>
  ((bif b10 then (
    (d_authority_Valid r5.1).bind fun r13 =>
    some r13
  ) else some false) : Option Bool).bind fun b12 =>
  ((bif b12 then (
    some (decide (((r5.1.Profile.length : Nat) : Int) = 2))
  ) else some false) : Option Bool).bind fun b14 =>
  ((bif b14 then (
    (d_authority_Extends r2.1 r5.1).bind fun r16 =>
    some r16
  ) else some false) : Option Bool).bind fun b15 =>
  ((bif b15 then (
    (d_authority_Extends r5.1 r2.1).bind fun r18 =>
    some (!r18)
  ) else some false) : Option Bool).bind fun b17 =>
  some b17
set_option maxRecDepth 100000 in
theorem d_law45_alive_ok (r : Bool) (h : d_law45_alive = some r) : PCall Go.Proofs.Tryd.prog GlS 8 [] (Enc.pv r) := by
  unfold d_law45_alive at h
  refine pcall_of_pwp Go.Proofs.Tryd.func8 (by rfl) rfl Go.Proofs.Tryd.ntmps8 (by rfl) rfl ?_
  refine pwp_seq (r_reg ?_)
  refine zE ?_
  refine q_next (pwp_seq (r_reg ?_))
  refine zE ?_
  refine q_next (pwp_seq ?_)
  refine r_regd (by kernel_rfl) (by kernel_rfl) ?_
  obtain ⟨r1, h1, h⟩ := o_bind h
  refine p_call (d_law45_line_ok  r1 h1) (by kernel_rfl) (by kernel_rfl) ?_
  refine zR 1 ?_
  obtain ⟨r2, h2, h⟩ := o_bind h
  refine p_call (d_authority_Build_ok _ _ _ _ r2 h2) (by kernel_rfl) (by kernel_rfl) ?_
  refine zE ?_
  refine q_next (pwp_seq (r_reg ?_))
  refine zR 4 ?_
  obtain ⟨x3, h3, h⟩ := o_bind h
  refine p_appn (tk := 22) h3 (by kernel_rfl) ?_
  refine zE ?_
  refine q_next (pwp_seq (r_reg ?_))
  refine zE ?_
  refine q_next (pwp_seq ?_)
  refine r_regd (by kernel_rfl) (by kernel_rfl) ?_
  obtain ⟨r4, h4, h⟩ := o_bind h
  refine p_call (d_law45_line_ok  r4 h4) (by kernel_rfl) (by kernel_rfl) ?_
  refine zR 1 ?_
  obtain ⟨r5, h5, h⟩ := o_bind h
  refine p_call (d_authority_Build_ok _ _ _ _ r5 h5) (by kernel_rfl) (by kernel_rfl) ?_
  refine zE ?_
  refine q_next (pwp_seq (r_reg ?_))
  refine zE ?_
  refine q_next (pwp_seq ?_)
  refine r_regd (by kernel_rfl) (by kernel_rfl) ?_
  obtain ⟨r6, h6, h⟩ := o_bind h
  refine p_call (d_law45_line_ok  r6 h6) (by kernel_rfl) (by kernel_rfl) ?_
  refine zR 1 ?_
  obtain ⟨r7, h7, h⟩ := o_bind h
  refine p_call (d_authority_Build_ok _ _ _ _ r7 h7) (by kernel_rfl) (by kernel_rfl) ?_
  refine zE ?_
  refine q_next (pwp_seq (r_reg ?_))
  refine zE ?_
  refine q_next (pwp_seq (r_reg ?_))
  refine zR 3 ?_
  refine e_segb 3 46 ((decide (r2.2 = 0)) && (decide (r5.2 = 0))) (fun x hx => ?_) ?_
  · rcases b_and hx with ⟨hb, hx⟩ | ⟨hb, hx⟩
    · refine zS 43 hb ?_
      subst hx
      exact zF
    refine zS 43 hb ?_
    subst hx
    exact zF
  refine zR 1 ?_
  refine e_segb 3 50 (((decide (r2.2 = 0)) && (decide (r5.2 = 0))) && (decide (r7.2 = 2))) (fun x hx => ?_) ?_
  · rcases b_and hx with ⟨hb, hx⟩ | ⟨hb, hx⟩
    · refine zS 47 hb ?_
      subst hx
      exact zF
    refine zS 47 hb ?_
    subst hx
    exact zF
  obtain ⟨b8, h8, h⟩ := o_bind h
  refine zR 1 ?_
  refine e_seg 4 55 (.bool b8) ?_ ?_
  · rcases o_cond h8 with ⟨hb, h8⟩ | ⟨hb, h8⟩
    · refine zS 51 hb ?_
      refine zR 2 ?_
      obtain ⟨r9, h9, h8⟩ := o_bind h8
      refine p_call (d_ref45_Same_ok _ _ r9 h9) (by kernel_rfl) (by kernel_rfl) ?_
      cases h8
      exact zF
    refine zS 51 hb ?_
    cases h8
    exact zF
  obtain ⟨b10, h10, h⟩ := o_bind h
  refine zR 1 ?_
  refine e_seg 4 60 (.bool b10) ?_ ?_
  · rcases o_cond h10 with ⟨hb, h10⟩ | ⟨hb, h10⟩
    · refine zS 56 hb ?_
      refine zR 2 ?_
      obtain ⟨r11, h11, h10⟩ := o_bind h10
      refine p_call (d_authority_Same_ok _ _ r11 h11) (by kernel_rfl) (by kernel_rfl) ?_
      cases h10
      exact zF
    refine zS 56 hb ?_
    cases h10
    exact zF
  obtain ⟨b12, h12, h⟩ := o_bind h
  refine zR 1 ?_
  refine e_seg 3 64 (.bool b12) ?_ ?_
  · rcases o_cond h12 with ⟨hb, h12⟩ | ⟨hb, h12⟩
    · refine zS 61 hb ?_
      refine zR 1 ?_
      obtain ⟨r13, h13, h12⟩ := o_bind h12
      refine p_call (d_authority_Valid_ok _ r13 h13) (by kernel_rfl) (by kernel_rfl) ?_
      cases h12
      exact zF
    refine zS 61 hb ?_
    cases h12
    exact zF
  obtain ⟨b14, h14, h⟩ := o_bind h
  refine zR 1 ?_
  refine e_seg 5 70 (.bool b14) ?_ ?_
  · rcases o_cond h14 with ⟨hb, h14⟩ | ⟨hb, h14⟩
    · refine zS 65 hb ?_
      refine zR 2 ?_
      refine p_len (L := (r5.1.Profile : (List T_api_Segment))) (by kernel_rfl) ?_
      cases h14
      exact zF
    refine zS 65 hb ?_
    cases h14
    exact zF
  obtain ⟨b15, h15, h⟩ := o_bind h
  refine zR 1 ?_
  refine e_seg 4 75 (.bool b15) ?_ ?_
  · rcases o_cond h15 with ⟨hb, h15⟩ | ⟨hb, h15⟩
    · refine zS 71 hb ?_
      refine zR 2 ?_
      obtain ⟨r16, h16, h15⟩ := o_bind h15
      refine p_call (d_authority_Extends_ok _ _ r16 h16) (by kernel_rfl) (by kernel_rfl) ?_
      cases h15
      exact zF
    refine zS 71 hb ?_
    cases h15
    exact zF
  obtain ⟨b17, h17, h⟩ := o_bind h
  refine zR 1 ?_
  refine e_seg 5 81 (.bool b17) ?_ ?_
  · rcases o_cond h17 with ⟨hb, h17⟩ | ⟨hb, h17⟩
    · refine zS 76 hb ?_
      refine zR 2 ?_
      obtain ⟨r18, h18, h17⟩ := o_bind h17
      refine p_call (d_authority_Extends_ok _ _ r18 h18) (by kernel_rfl) (by kernel_rfl) ?_
      cases h17
      exact zF
    refine zS 76 hb ?_
    cases h17
    exact zF
  refine zE ?_
  refine q_next (pwp_ret ?_)
  cases h
  exact zQ

/-! signallingref09.exists -/
noncomputable def d_ref09_exists (a0 : T_api_Layout) (a1 : Int) : Option Bool :=
  ((bif decide (0 ≤ a1) then (
    some (decide (a1 < ((a0.Elements.length : Nat) : Int)))
  ) else some false) : Option Bool).bind fun b1 =>
  some b1
theorem d_ref09_exists_ok (a0 : T_api_Layout) (a1 : Int) (r : Bool) (h : d_ref09_exists a0 a1 = some r) : PCall Go.Proofs.Tryd.prog GlS 84 [Enc.pv a0, Enc.pv a1] (Enc.pv r) := by
  unfold d_ref09_exists at h
  refine pcall_of_pwp Go.Proofs.Tryd.func84 (by rfl) rfl Go.Proofs.Tryd.ntmps84 (by rfl) rfl ?_
  refine pwp_seq (r_reg ?_)
  refine zE ?_
  refine q_next (pwp_seq (r_reg ?_))
  obtain ⟨b1, h1, h⟩ := o_bind h
  refine zR 3 ?_
  refine e_seg 6 13 (.bool b1) ?_ ?_
  · rcases o_cond h1 with ⟨hb, h1⟩ | ⟨hb, h1⟩
    · refine zS 7 hb ?_
      refine zR 3 ?_
      refine p_len (L := (a0.Elements : (List T_api_Element))) (by kernel_rfl) ?_
      cases h1
      exact zF
    refine zS 7 hb ?_
    cases h1
    exact zF
  refine zE ?_
  refine q_next (pwp_ret ?_)
  cases h
  exact zQ

end PM
