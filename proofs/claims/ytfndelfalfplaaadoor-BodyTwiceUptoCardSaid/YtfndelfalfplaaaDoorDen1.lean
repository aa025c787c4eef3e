/-
  Plain functions for the program's functions, and the proofs that the program does them. Printed by den.py.
-/
import Derived.Test.YtfndelfalfplaaaDoorDen0
namespace PM
open Go Go.RowKit
attribute [local irreducible] pops pwp

/-! walk.Valid -/
noncomputable def d_walk_Valid_1 (x49 : T_api_Step) (x51 : (List T_api_Step)) : Int → Option (Int ⊕ (Unit ⊕ (Unit ⊕ (Int ⊕ (Unit ⊕ Bool))))) := fun x53 =>
  bif decide (x53 < ((x51.length : Nat) : Int)) then (
    (ixO x51 x53).bind fun x55 =>
    bif decide (x55.El = x49.El) then (
      some (.inr (.inr (.inr (.inr (.inr false)))))
    ) else (
      some (.inl (w64 (x53 + 1)))
    )
  ) else (
    some (.inr (.inl ()))
  )

noncomputable def d_walk_Valid_0 (a0 : T_api_Layout) (a1 : (List T_api_Step)) (r2 : T_api_Layout) : Int → Option (Int ⊕ (Unit ⊕ Bool)) := fun x21 =>
  bif decide (x21 < ((a1.length : Nat) : Int)) then (
    onInl (α := Unit) (β := (Int ⊕ (Unit ⊕ Bool))) (
      (ixO a1 x21).bind fun x49 =>
      (d_walk_possible a0 x49).bind fun r50 =>
      bif (!r50.2) then (
        some (.inr (.inr (.inr false)))
      ) else (
        (slO a1 none (some x21) none).bind fun x51 =>
        onInl (α := Unit) (β := (Unit ⊕ (Int ⊕ (Unit ⊕ Bool)))) (loopO (d_walk_Valid_1 x49 x51) 0) fun _ =>
        bif decide (x21 = 0) then (
          some (.inl ())
        ) else (
          (ixO a1 (w64 (x21 - 1))).bind fun x56 =>
          (d_walk_passage_1 x56 r2).bind fun r57 =>
          bif (((!r57.2) || (!(decide (r57.1.El = x49.El)))) || (!(decide (r57.1.Side = x49.In)))) then (
            some (.inr (.inr (.inr false)))
          ) else (
            some (.inl ())
          )
        )
      )
    ) fun _ =>
    some (.inl (w64 (x21 + 1)))
  ) else (
    some (.inr (.inl ()))
  )

noncomputable def d_walk_Valid (a0 : T_api_Layout) (a1 : (List T_api_Step)) : Option Bool :=
  ((bif decide (((a1.length : Nat) : Int) = 0) then some true else (
    some (decide (64 < ((a1.length : Nat) : Int)))
  )) : Option Bool).bind fun b1 =>
  bif b1 then (
    some false
  ) else (
    (d_walk_passage a0).bind fun r2 =>
    onInl (α := Unit) (β := Bool) (loopO (d_walk_Valid_0 a0 a1 r2) 0) fun _ =>
    some true
  )
theorem d_walk_Valid_ok (a0 : T_api_Layout) (a1 : (List T_api_Step)) (r : Bool) (h : d_walk_Valid a0 a1 = some r) : PCall Go.Proofs.Tryd.prog GlS 25 [Enc.pv a0, Enc.pv a1] (Enc.pv r) := by
  unfold d_walk_Valid at h
  refine pcall_of_pwp Go.Proofs.Tryd.func25 (by rfl) rfl Go.Proofs.Tryd.ntmps25 (by rfl) rfl ?_
  refine pwp_seq ?_
  refine r_reg ?_
  refine e_end (by kernel_rfl) ?_
  refine q_next ?_
  refine pwp_seq ?_
  refine pwp_seq ?_
  refine r_reg ?_
  refine p_run 1 (by kernel_rfl) ?_
  refine p_len (L := (a1 : (List T_api_Step))) (by kernel_rfl) ?_
  obtain ⟨b1, h1, h⟩ := o_bind h
  refine p_run 2 (by kernel_rfl) ?_
  refine e_seg 4 21 (.bool b1) ?_ ?_
  · rcases o_cond h1 with ⟨hb, h1⟩ | ⟨hb, h1⟩
    · refine p_settle 17 hb (by kernel_rfl) (by kernel_rfl) ?_
      cases h1
      exact f_end (by kernel_rfl) (by kernel_rfl)
    · refine p_settle 17 hb (by kernel_rfl) (by kernel_rfl) ?_
      refine p_run 1 (by kernel_rfl) ?_
      refine p_len (L := (a1 : (List T_api_Step))) (by kernel_rfl) ?_
      cases h1
      exact f_end (by kernel_rfl) (by kernel_rfl)
  · refine e_nil (by kernel_rfl) ?_
    refine q_next ?_
    rcases o_cond h with ⟨hb, h⟩ | ⟨hb, h⟩
    · refine r_cond_t hb (by kernel_rfl) ?_
      refine pwp_seq ?_
      refine r_reg ?_
      refine e_end (by kernel_rfl) ?_
      refine q_next ?_
      refine pwp_ret ?_
      refine q_seq_ret ?_
      cases h
      exact q_ret (by kernel_rfl) (by kernel_rfl) (by kernel_rfl)
    · refine r_cond_f hb (by kernel_rfl) ?_
      refine pwp_skip ?_
      refine q_next ?_
      refine pwp_seq ?_
      refine r_reg ?_
      refine p_run 1 (by kernel_rfl) ?_
      obtain ⟨r2, h2, h⟩ := o_bind h
      refine p_call (d_walk_passage_ok _ r2 h2) (by kernel_rfl) (by kernel_rfl) ?_
      refine e_end (by kernel_rfl) ?_
      refine q_next ?_
      refine pwp_seq ?_
      refine pwp_seq ?_
      refine r_reg ?_
      refine p_run 1 (by kernel_rfl) ?_
      refine p_len (L := (a1 : (List T_api_Step))) (by kernel_rfl) ?_
      refine e_end (by kernel_rfl) ?_
      refine q_next ?_
      refine pwp_block ?_
      obtain ⟨o98, h98, h⟩ := o_inl h
      refine r_loop2 82 0 (fun x21 => ⟨[(1, lstOf .frozen (a1 : (List T_api_Step))), (2, .ref 2 0), (5, .fn 68 [.cptr (cellsOf r2)]), (24, lstOf .frozen (a1 : (List T_api_Step))), (25, .int .i64 ((a1.length : Nat) : Int)), (26, .int .i64 x21)], [(2, .cells (cellsOf a0))], [], []⟩) (fun (_ : Unit) => ⟨[], [], [], []⟩) h98 (by kernel_rfl) (fun _ => by kernel_rfl) ?_ ?_
      · rintro x21 oh97 h97
        unfold d_walk_Valid_0 at h97
        refine pwp_seq ?_
        refine r_reg ?_
        refine e_end (by kernel_rfl) ?_
        refine q_next ?_
        refine pwp_seq ?_
        rcases o_cond h97 with ⟨hb, h97⟩ | ⟨hb, h97⟩
        · refine r_cond_t hb (by kernel_rfl) ?_
          refine pwp_skip ?_
          refine q_next ?_
          obtain ⟨o122, h122, h97⟩ := o_inl h97
          refine r_join (o := o122) 82 (fun (_ : Unit) => ⟨[(1, lstOf .frozen (a1 : (List T_api_Step))), (2, .ref 2 0), (5, .fn 68 [.cptr (cellsOf r2)]), (24, lstOf .frozen (a1 : (List T_api_Step))), (25, .int .i64 ((a1.length : Nat) : Int)), (26, .int .i64 x21)], [(2, .cells (cellsOf a0))], [], []⟩) ?_ ?_
          · refine pwp_block ?_
            refine pwp_seq ?_
            refine r_reg ?_
            refine p_run 1 (by kernel_rfl) ?_
            obtain ⟨x49, h123, h122⟩ := o_bind h122
            refine p_ix h123 (by kernel_rfl) ?_
            refine e_end (by kernel_rfl) ?_
            refine q_next ?_
            refine pwp_seq ?_
            refine pwp_seq ?_
            refine r_reg ?_
            refine p_run 2 (by kernel_rfl) ?_
            obtain ⟨r50, h124, h122⟩ := o_bind h122
            refine p_call (d_walk_possible_ok _ _ r50 h124) (by kernel_rfl) (by kernel_rfl) ?_
            refine e_end (by kernel_rfl) ?_
            refine q_next ?_
            refine pwp_seq ?_
            refine r_reg ?_
            refine e_end (by kernel_rfl) ?_
            refine q_next ?_
            rcases o_cond h122 with ⟨hb, h122⟩ | ⟨hb, h122⟩
            · refine r_cond_t hb (by kernel_rfl) ?_
              refine pwp_seq ?_
              refine r_reg ?_
              refine e_end (by kernel_rfl) ?_
              refine q_next ?_
              refine pwp_ret ?_
              refine q_seq_ret ?_
              refine q_block_ret ?_
              cases h122
              refine q_jout_ret ?_
              have h125 := o_outr h97
              cases h125
              refine q_lout_ret fun he => ?_
              subst he
              have h126 := o_outr h
              refine q_block_ret ?_
              refine q_seq_ret ?_
              cases h126
              exact q_ret (by kernel_rfl) (by kernel_rfl) (by kernel_rfl)
            · refine r_cond_f hb (by kernel_rfl) ?_
              refine pwp_skip ?_
              refine q_next ?_
              refine pwp_seq ?_
              refine pwp_seq ?_
              refine r_reg ?_
              refine p_run 2 (by kernel_rfl) ?_
              obtain ⟨x51, h127, h122⟩ := o_bind h122
              refine p_sl h127 .frozen (by kernel_rfl) (by kernel_rfl) (by kernel_rfl) ?_
              refine p_len (L := (x51 : (List T_api_Step))) (by kernel_rfl) ?_
              refine e_end (by kernel_rfl) ?_
              refine q_next ?_
              refine pwp_block ?_
              obtain ⟨o137, h137, h122⟩ := o_inl h122
              refine r_loop2 82 2 (fun x53 => ⟨[(1, lstOf .frozen (a1 : (List T_api_Step))), (2, .ref 2 0), (5, .fn 68 [.cptr (cellsOf r2)]), (6, .int .i64 x21), (7, .ref 7 0), (24, lstOf .frozen (a1 : (List T_api_Step))), (25, .int .i64 ((a1.length : Nat) : Int)), (26, .int .i64 x21), (41, lstOf .frozen (x51 : (List T_api_Step))), (42, .int .i64 ((x51.length : Nat) : Int)), (43, .int .i64 x53)], [(2, .cells (cellsOf a0)), (7, .cells (cellsOf x49))], [], []⟩) (fun (_ : Unit) => ⟨[(1, lstOf .frozen (a1 : (List T_api_Step))), (2, .ref 2 0), (5, .fn 68 [.cptr (cellsOf r2)]), (6, .int .i64 x21), (7, .ref 7 0), (24, lstOf .frozen (a1 : (List T_api_Step))), (25, .int .i64 ((a1.length : Nat) : Int)), (26, .int .i64 x21)], [(2, .cells (cellsOf a0)), (7, .cells (cellsOf x49))], [], []⟩) h137 (by kernel_rfl) (fun _ => by kernel_rfl) ?_ ?_
              · rintro x53 oh136 h136
                unfold d_walk_Valid_1 at h136
                refine pwp_seq ?_
                refine r_reg ?_
                refine e_end (by kernel_rfl) ?_
                refine q_next ?_
                refine pwp_seq ?_
                rcases o_cond h136 with ⟨hb, h136⟩ | ⟨hb, h136⟩
                · refine r_cond_t hb (by kernel_rfl) ?_
                  refine pwp_skip ?_
                  refine q_next ?_
                  refine pwp_seq ?_
                  refine pwp_block ?_
                  refine pwp_seq ?_
                  refine r_reg ?_
                  obtain ⟨x55, h138, h136⟩ := o_bind h136
                  refine p_ix h138 (by kernel_rfl) ?_
                  refine e_end (by kernel_rfl) ?_
                  refine q_next ?_
                  refine pwp_seq ?_
                  refine r_reg ?_
                  refine e_end (by kernel_rfl) ?_
                  refine q_next ?_
                  rcases o_cond h136 with ⟨hb, h136⟩ | ⟨hb, h136⟩
                  · refine r_cond_t hb (by kernel_rfl) ?_
                    refine pwp_seq ?_
                    refine r_reg ?_
                    refine e_end (by kernel_rfl) ?_
                    refine q_next ?_
                    refine pwp_ret ?_
                    refine q_block_ret ?_
                    refine q_seq_ret ?_
                    cases h136
                    refine q_lout_ret fun he => ?_
                    subst he
                    have h139 := o_outr h122
                    refine q_block_ret ?_
                    refine q_seq_ret ?_
                    refine q_block_ret ?_
                    cases h139
                    refine q_jout_ret ?_
                    have h140 := o_outr h97
                    cases h140
                    refine q_lout_ret fun he => ?_
                    subst he
                    have h141 := o_outr h
                    refine q_block_ret ?_
                    refine q_seq_ret ?_
                    cases h141
                    exact q_ret (by kernel_rfl) (by kernel_rfl) (by kernel_rfl)
                  · refine r_cond_f hb (by kernel_rfl) ?_
                    refine pwp_skip ?_
                    refine q_block ?_
                    refine q_next ?_
                    refine r_reg ?_
                    refine e_end (by kernel_rfl) ?_
                    cases h136
                    exact q_lback (by kernel_rfl)
                · refine r_cond_f hb (by kernel_rfl) ?_
                  refine pwp_exit ?_
                  refine q_seq_exit ?_
                  cases h136
                  exact q_lexit (by kernel_rfl) (by kernel_rfl)
              · rintro _ s' rfl hs
                have h122 := o_outl h122
                refine q_block_hit ?_
                refine q_next (pwp_wkr hs ?_)
                refine pwp_seq ?_
                refine pwp_seq ?_
                refine r_reg ?_
                refine e_end (by kernel_rfl) ?_
                refine q_next ?_
                rcases o_cond h122 with ⟨hb, h122⟩ | ⟨hb, h122⟩
                · refine r_cond_t hb (by kernel_rfl) ?_
                  refine pwp_exit ?_
                  refine q_seq_exit ?_
                  refine q_block_hit ?_
                  cases h122
                  exact q_join (by kernel_rfl) (by kernel_rfl)
                · refine r_cond_f hb (by kernel_rfl) ?_
                  refine pwp_skip ?_
                  refine q_next ?_
                  refine pwp_seq ?_
                  refine r_reg ?_
                  refine p_run 4 (by kernel_rfl) ?_
                  obtain ⟨x56, h142, h122⟩ := o_bind h122
                  refine p_ix h142 (by kernel_rfl) ?_
                  refine p_run 1 (by kernel_rfl) ?_
                  obtain ⟨r57, h143, h122⟩ := o_bind h122
                  refine p_call (d_walk_passage_1_ok _ _ r57 h143) (by kernel_rfl) (by kernel_rfl) ?_
                  refine e_end (by kernel_rfl) ?_
                  refine q_next ?_
                  refine pwp_seq ?_
                  refine r_reg ?_
                  refine p_run 3 (by kernel_rfl) ?_
                  refine e_segb 6 73 ((!r57.2) || (!(decide (r57.1.El = x49.El)))) (fun x hx => ?_) ?_
                  · rcases b_or hx with ⟨hb, hx⟩ | ⟨hb, hx⟩
                    · refine p_settle 67 hb (by kernel_rfl) (by kernel_rfl) ?_
                      subst hx
                      exact f_end (by kernel_rfl) (by kernel_rfl)
                    · refine p_settle 67 hb (by kernel_rfl) (by kernel_rfl) ?_
                      subst hx
                      exact f_end (by kernel_rfl) (by kernel_rfl)
                  · refine p_run 1 (by kernel_rfl) ?_
                    refine e_segb 6 80 (((!r57.2) || (!(decide (r57.1.El = x49.El)))) || (!(decide (r57.1.Side = x49.In)))) (fun x hx => ?_) ?_
                    · rcases b_or hx with ⟨hb, hx⟩ | ⟨hb, hx⟩
                      · refine p_settle 74 hb (by kernel_rfl) (by kernel_rfl) ?_
                        subst hx
                        exact f_end (by kernel_rfl) (by kernel_rfl)
                      · refine p_settle 74 hb (by kernel_rfl) (by kernel_rfl) ?_
                        subst hx
                        exact f_end (by kernel_rfl) (by kernel_rfl)
                    · refine e_nil (by kernel_rfl) ?_
                      refine q_next ?_
                      rcases o_cond h122 with ⟨hb, h122⟩ | ⟨hb, h122⟩
                      · refine r_cond_t hb (by kernel_rfl) ?_
                        refine pwp_seq ?_
                        refine r_reg ?_
                        refine e_end (by kernel_rfl) ?_
                        refine q_next ?_
                        refine pwp_ret ?_
                        refine q_block_ret ?_
                        cases h122
                        refine q_jout_ret ?_
                        have h144 := o_outr h97
                        cases h144
                        refine q_lout_ret fun he => ?_
                        subst he
                        have h145 := o_outr h
                        refine q_block_ret ?_
                        refine q_seq_ret ?_
                        cases h145
                        exact q_ret (by kernel_rfl) (by kernel_rfl) (by kernel_rfl)
                      · refine r_cond_f hb (by kernel_rfl) ?_
                        refine pwp_skip ?_
                        refine q_block ?_
                        cases h122
                        exact q_join (by kernel_rfl) (by kernel_rfl)
          · rintro _ rfl
            have h97 := o_outl h97
            refine r_reg ?_
            refine e_end (by kernel_rfl) ?_
            cases h97
            exact q_lback (by kernel_rfl)
        · refine r_cond_f hb (by kernel_rfl) ?_
          refine pwp_exit ?_
          refine q_seq_exit ?_
          cases h97
          exact q_lexit (by kernel_rfl) (by kernel_rfl)
      · rintro _ s' rfl hs
        have h := o_outl h
        refine q_block_hit ?_
        refine q_next (pwp_wkr hs ?_)
        refine pwp_seq ?_
        refine r_reg ?_
        refine e_end (by kernel_rfl) ?_
        refine q_next ?_
        refine pwp_ret ?_
        cases h
        exact q_ret (by kernel_rfl) (by kernel_rfl) (by kernel_rfl)

/-! body.last -/
noncomputable def d_body_last (a0 : T_api_Body) : Option T_api_Step :=
  (ixO a0.Steps (w64 (((a0.Steps.length : Nat) : Int) - 1))).bind fun x1 =>
  some x1
theorem d_body_last_ok (a0 : T_api_Body) (r : T_api_Step) (h : d_body_last a0 = some r) : PCall Go.Proofs.Tryd.prog GlS 26 [Enc.pv a0] (Enc.pv r) := by
  unfold d_body_last at h
  refine pcall_of_pwp Go.Proofs.Tryd.func26 (by rfl) rfl Go.Proofs.Tryd.ntmps26 (by rfl) rfl ?_
  refine pwp_seq ?_
  refine r_reg ?_
  refine e_end (by kernel_rfl) ?_
  refine q_next ?_
  refine pwp_seq ?_
  refine r_reg ?_
  refine p_run 4 (by kernel_rfl) ?_
  refine p_len (L := (a0.Steps : (List T_api_Step))) (by kernel_rfl) ?_
  refine p_run 1 (by kernel_rfl) ?_
  obtain ⟨x1, h1, h⟩ := o_bind h
  refine p_ix h1 (by kernel_rfl) ?_
  refine e_end (by kernel_rfl) ?_
  refine q_next ?_
  refine pwp_ret ?_
  cases h
  exact q_ret (by kernel_rfl) (by kernel_rfl) (by kernel_rfl)

/-! walk.Length -/
noncomputable def d_walk_Length_0 (a0 : T_api_Layout) (a1 : (List T_api_Step)) : (Int × Int) → Option ((Int × Int) ⊕ (Int ⊕ Int)) := fun (x8, x9) =>
  bif decide (x9 < ((a1.length : Nat) : Int)) then (
    onInl (α := Int) (β := ((Int × Int) ⊕ (Int ⊕ Int))) (
      (ixO a1 x9).bind fun x22 =>
      (d_walk_exists a0 x22.El).bind fun r23 =>
      bif r23 then (
        (ixO a0.Elements x22.El).bind fun x24 =>
        some (.inl (w64 (x8 + x24.Length)))
      ) else (
        some (.inl x8)
      )
    ) fun x21 =>
    some (.inl (x21, w64 (x9 + 1)))
  ) else (
    some (.inr (.inl x8))
  )

noncomputable def d_walk_Length (a0 : T_api_Layout) (a1 : (List T_api_Step)) : Option Int :=
  onInl (α := Int) (β := Int) (loopO (d_walk_Length_0 a0 a1) (0, 0)) fun x17 =>
  some x17
theorem d_walk_Length_ok (a0 : T_api_Layout) (a1 : (List T_api_Step)) (r : Int) (h : d_walk_Length a0 a1 = some r) : PCall Go.Proofs.Tryd.prog GlS 47 [Enc.pv a0, Enc.pv a1] (Enc.pv r) := by
  unfold d_walk_Length at h
  refine pcall_of_pwp Go.Proofs.Tryd.func47 (by rfl) rfl Go.Proofs.Tryd.ntmps47 (by rfl) rfl ?_
  refine pwp_seq ?_
  refine r_reg ?_
  refine e_end (by kernel_rfl) ?_
  refine q_next ?_
  refine pwp_seq ?_
  refine r_reg ?_
  refine e_end (by kernel_rfl) ?_
  refine q_next ?_
  refine pwp_seq ?_
  refine pwp_seq ?_
  refine r_reg ?_
  refine p_run 1 (by kernel_rfl) ?_
  refine p_len (L := (a1 : (List T_api_Step))) (by kernel_rfl) ?_
  refine e_end (by kernel_rfl) ?_
  refine q_next ?_
  refine pwp_block ?_
  obtain ⟨o16, h16, h⟩ := o_inl h
  refine r_loop2 29 0 (fun (x8, x9) => ⟨[(2, .ref 2 0), (5, .int .i64 x8), (8, lstOf .frozen (a1 : (List T_api_Step))), (9, .int .i64 ((a1.length : Nat) : Int)), (10, .int .i64 x9)], [(2, .cells (cellsOf a0))], [], []⟩) (fun x17 => ⟨[(5, .int .i64 x17)], [], [], []⟩) h16 (by kernel_rfl) (fun _ => by kernel_rfl) ?_ ?_
  · rintro ⟨x8, x9⟩ oh15 h15
    unfold d_walk_Length_0 at h15
    refine pwp_seq ?_
    refine r_reg ?_
    refine e_end (by kernel_rfl) ?_
    refine q_next ?_
    refine pwp_seq ?_
    rcases o_cond h15 with ⟨hb, h15⟩ | ⟨hb, h15⟩
    · refine r_cond_t hb (by kernel_rfl) ?_
      refine pwp_skip ?_
      refine q_next ?_
      obtain ⟨o20, h20, h15⟩ := o_inl h15
      refine r_join (o := o20) 29 (fun x21 => ⟨[(2, .ref 2 0), (5, .int .i64 x21), (8, lstOf .frozen (a1 : (List T_api_Step))), (9, .int .i64 ((a1.length : Nat) : Int)), (10, .int .i64 x9)], [(2, .cells (cellsOf a0))], [], []⟩) ?_ ?_
      · refine pwp_block ?_
        refine pwp_seq ?_
        refine r_reg ?_
        obtain ⟨x22, h21, h20⟩ := o_bind h20
        refine p_ix h21 (by kernel_rfl) ?_
        refine e_end (by kernel_rfl) ?_
        refine q_next ?_
        refine pwp_seq ?_
        refine r_reg ?_
        refine p_run 3 (by kernel_rfl) ?_
        obtain ⟨r23, h22, h20⟩ := o_bind h20
        refine p_call (d_walk_exists_ok _ _ r23 h22) (by kernel_rfl) (by kernel_rfl) ?_
        refine e_nil (by kernel_rfl) ?_
        refine q_next ?_
        rcases o_cond h20 with ⟨hb, h20⟩ | ⟨hb, h20⟩
        · refine r_cond_t hb (by kernel_rfl) ?_
          refine r_reg ?_
          refine p_run 5 (by kernel_rfl) ?_
          obtain ⟨x24, h23, h20⟩ := o_bind h20
          refine p_ix h23 (by kernel_rfl) ?_
          refine e_end (by kernel_rfl) ?_
          refine q_block ?_
          cases h20
          exact q_join (by kernel_rfl) (by kernel_rfl)
        · refine r_cond_f hb (by kernel_rfl) ?_
          refine pwp_skip ?_
          refine q_block ?_
          cases h20
          exact q_join (by kernel_rfl) (by kernel_rfl)
      · rintro x21 rfl
        have h15 := o_outl h15
        refine r_reg ?_
        refine e_end (by kernel_rfl) ?_
        cases h15
        exact q_lback (by kernel_rfl)
    · refine r_cond_f hb (by kernel_rfl) ?_
      refine pwp_exit ?_
      refine q_seq_exit ?_
      cases h15
      exact q_lexit (by kernel_rfl) (by kernel_rfl)
  · rintro x17 s' rfl hs
    have h := o_outl h
    refine q_block_hit ?_
    refine q_next (pwp_wkr hs ?_)
    refine pwp_seq ?_
    refine r_reg ?_
    refine e_end (by kernel_rfl) ?_
    refine q_next ?_
    refine pwp_ret ?_
    cases h
    exact q_ret (by kernel_rfl) (by kernel_rfl) (by kernel_rfl)

/-! body.rearEnd -/
noncomputable def d_body_rearEnd (a0 : T_api_Layout) (a1 : T_api_Body) : Option Int :=
  (slO a1.Steps none (some (w64 (((a1.Steps.length : Nat) : Int) - 1))) none).bind fun x1 =>
  (d_walk_Length a0 x1).bind fun r2 =>
  some (w64 ((w64 (r2 + a1.Head)) - a1.Length))
theorem d_body_rearEnd_ok (a0 : T_api_Layout) (a1 : T_api_Body) (r : Int) (h : d_body_rearEnd a0 a1 = some r) : PCall Go.Proofs.Tryd.prog GlS 27 [Enc.pv a0, Enc.pv a1] (Enc.pv r) := by
  unfold d_body_rearEnd at h
  refine pcall_of_pwp Go.Proofs.Tryd.func27 (by rfl) rfl Go.Proofs.Tryd.ntmps27 (by rfl) rfl ?_
  refine pwp_seq ?_
  refine r_reg ?_
  refine e_end (by kernel_rfl) ?_
  refine q_next ?_
  refine pwp_seq ?_
  refine r_regd (by kernel_rfl) (by kernel_rfl) ?_
  refine p_run 5 (by kernel_rfl) ?_
  refine p_len (L := (a1.Steps : (List T_api_Step))) (by kernel_rfl) ?_
  refine p_run 1 (by kernel_rfl) ?_
  obtain ⟨x1, h1, h⟩ := o_bind h
  refine p_sl h1 .frozen (by kernel_rfl) (by kernel_rfl) (by kernel_rfl) ?_
  obtain ⟨r2, h2, h⟩ := o_bind h
  refine p_call (d_walk_Length_ok _ _ r2 h2) (by kernel_rfl) (by kernel_rfl) ?_
  refine e_end (by kernel_rfl) ?_
  refine q_next ?_
  refine pwp_seq ?_
  refine r_reg ?_
  refine e_end (by kernel_rfl) ?_
  refine q_next ?_
  refine pwp_ret ?_
  cases h
  exact q_ret (by kernel_rfl) (by kernel_rfl) (by kernel_rfl)

/-! body.Check -/
noncomputable def d_body_Check (a0 : T_api_Layout) (a1 : T_api_Body) : Option Int :=
  (d_walk_Valid a0 a1.Steps).bind fun r1 =>
  ((bif ((((!r1) || (decide (a1.Length < 1))) || (decide (1000000 < a1.Length))) || (decide (a1.Head < 1))) then some true else (
    (d_body_last a1).bind fun r3 =>
    (ixO a0.Elements r3.El).bind fun x4 =>
    some (decide (x4.Length < a1.Head))
  )) : Option Bool).bind fun b2 =>
  bif b2 then (
    some 1
  ) else (
    (d_body_rearEnd a0 a1).bind fun r5 =>
    ((bif decide (r5 < 0) then some true else (
      ((bif decide (1 < ((a1.Steps.length : Nat) : Int)) then (
        (ixO a1.Steps 0).bind fun x8 =>
        (ixO a0.Elements x8.El).bind fun x9 =>
        some (decide (x9.Length ≤ r5))
      ) else some false) : Option Bool).bind fun b7 =>
      some b7
    )) : Option Bool).bind fun b6 =>
    bif b6 then (
      some 10
    ) else (
      some 0
    )
  )
theorem d_body_Check_ok (a0 : T_api_Layout) (a1 : T_api_Body) (r : Int) (h : d_body_Check a0 a1 = some r) : PCall Go.Proofs.Tryd.prog GlS 10 [Enc.pv a0, Enc.pv a1] (Enc.pv r) := by
  unfold d_body_Check at h
  refine pcall_of_pwp Go.Proofs.Tryd.func10 (by rfl) rfl Go.Proofs.Tryd.ntmps10 (by rfl) rfl ?_
  refine pwp_seq ?_
  refine r_reg ?_
  refine e_end (by kernel_rfl) ?_
  refine q_next ?_
  refine pwp_seq ?_
  refine pwp_seq ?_
  refine r_regd (by kernel_rfl) (by kernel_rfl) ?_
  refine p_run 3 (by kernel_rfl) ?_
  obtain ⟨r1, h1, h⟩ := o_bind h
  refine p_call (d_walk_Valid_ok _ _ r1 h1) (by kernel_rfl) (by kernel_rfl) ?_
  refine p_run 2 (by kernel_rfl) ?_
  refine e_segb 4 15 ((!r1) || (decide (a1.Length < 1))) (fun x hx => ?_) ?_
  · rcases b_or hx with ⟨hb, hx⟩ | ⟨hb, hx⟩
    · refine p_settle 11 hb (by kernel_rfl) (by kernel_rfl) ?_
      subst hx
      exact f_end (by kernel_rfl) (by kernel_rfl)
    · refine p_settle 11 hb (by kernel_rfl) (by kernel_rfl) ?_
      subst hx
      exact f_end (by kernel_rfl) (by kernel_rfl)
  · refine p_run 1 (by kernel_rfl) ?_
    refine e_segb 4 20 (((!r1) || (decide (a1.Length < 1))) || (decide (1000000 < a1.Length))) (fun x hx => ?_) ?_
    · rcases b_or hx with ⟨hb, hx⟩ | ⟨hb, hx⟩
      · refine p_settle 16 hb (by kernel_rfl) (by kernel_rfl) ?_
        subst hx
        exact f_end (by kernel_rfl) (by kernel_rfl)
      · refine p_settle 16 hb (by kernel_rfl) (by kernel_rfl) ?_
        subst hx
        exact f_end (by kernel_rfl) (by kernel_rfl)
    · refine p_run 1 (by kernel_rfl) ?_
      refine e_segb 4 25 ((((!r1) || (decide (a1.Length < 1))) || (decide (1000000 < a1.Length))) || (decide (a1.Head < 1))) (fun x hx => ?_) ?_
      · rcases b_or hx with ⟨hb, hx⟩ | ⟨hb, hx⟩
        · refine p_settle 21 hb (by kernel_rfl) (by kernel_rfl) ?_
          subst hx
          exact f_end (by kernel_rfl) (by kernel_rfl)
        · refine p_settle 21 hb (by kernel_rfl) (by kernel_rfl) ?_
          subst hx
          exact f_end (by kernel_rfl) (by kernel_rfl)
      · obtain ⟨b2, h2, h⟩ := o_bind h
        refine p_run 1 (by kernel_rfl) ?_
        refine e_seg 12 38 (.bool b2) ?_ ?_
        · rcases o_cond h2 with ⟨hb, h2⟩ | ⟨hb, h2⟩
          · refine p_settle 26 hb (by kernel_rfl) (by kernel_rfl) ?_
            cases h2
            exact f_end (by kernel_rfl) (by kernel_rfl)
          · refine p_settle 26 hb (by kernel_rfl) (by kernel_rfl) ?_
            refine p_run 5 (by kernel_rfl) ?_
            obtain ⟨r3, h3, h2⟩ := o_bind h2
            refine p_call (d_body_last_ok _ r3 h3) (by kernel_rfl) (by kernel_rfl) ?_
            refine p_run 1 (by kernel_rfl) ?_
            obtain ⟨x4, h4, h2⟩ := o_bind h2
            refine p_ix h4 (by kernel_rfl) ?_
            cases h2
            exact f_end (by kernel_rfl) (by kernel_rfl)
        · refine e_nil (by kernel_rfl) ?_
          refine q_next ?_
          rcases o_cond h with ⟨hb, h⟩ | ⟨hb, h⟩
          · refine r_cond_t hb (by kernel_rfl) ?_
            refine pwp_seq ?_
            refine r_reg ?_
            refine e_end (by kernel_rfl) ?_
            refine q_next ?_
            refine pwp_ret ?_
            refine q_seq_ret ?_
            cases h
            exact q_ret (by kernel_rfl) (by kernel_rfl) (by kernel_rfl)
          · refine r_cond_f hb (by kernel_rfl) ?_
            refine pwp_skip ?_
            refine q_next ?_
            refine pwp_seq ?_
            refine r_reg ?_
            refine p_run 2 (by kernel_rfl) ?_
            obtain ⟨r5, h5, h⟩ := o_bind h
            refine p_call (d_body_rearEnd_ok _ _ r5 h5) (by kernel_rfl) (by kernel_rfl) ?_
            refine e_end (by kernel_rfl) ?_
            refine q_next ?_
            refine pwp_seq ?_
            refine pwp_seq ?_
            refine r_regd (by kernel_rfl) (by kernel_rfl) ?_
            obtain ⟨b6, h6, h⟩ := o_bind h
            refine p_run 3 (by kernel_rfl) ?_
            refine e_seg 19 63 (.bool b6) ?_ ?_
            · rcases o_cond h6 with ⟨hb, h6⟩ | ⟨hb, h6⟩
              · refine p_settle 44 hb (by kernel_rfl) (by kernel_rfl) ?_
                cases h6
                exact f_end (by kernel_rfl) (by kernel_rfl)
              · refine p_settle 44 hb (by kernel_rfl) (by kernel_rfl) ?_
                refine p_run 2 (by kernel_rfl) ?_
                refine p_len (L := (a1.Steps : (List T_api_Step))) (by kernel_rfl) ?_
                obtain ⟨b7, h7, h6⟩ := o_bind h6
                refine p_run 2 (by kernel_rfl) ?_
                refine f_seg 13 62 (.bool b7) ?_ ?_
                · rcases o_cond h7 with ⟨hb, h7⟩ | ⟨hb, h7⟩
                  · refine p_settle 49 hb (by kernel_rfl) (by kernel_rfl) ?_
                    refine p_run 5 (by kernel_rfl) ?_
                    obtain ⟨x8, h8, h7⟩ := o_bind h7
                    refine p_ix h8 (by kernel_rfl) ?_
                    refine p_run 2 (by kernel_rfl) ?_
                    obtain ⟨x9, h9, h7⟩ := o_bind h7
                    refine p_ix h9 (by kernel_rfl) ?_
                    cases h7
                    exact f_end (by kernel_rfl) (by kernel_rfl)
                  · refine p_settle 49 hb (by kernel_rfl) (by kernel_rfl) ?_
                    cases h7
                    exact f_end (by kernel_rfl) (by kernel_rfl)
                · cases h6
                  exact f_end (by kernel_rfl) (by kernel_rfl)
            · refine e_nil (by kernel_rfl) ?_
              refine q_next ?_
              rcases o_cond h with ⟨hb, h⟩ | ⟨hb, h⟩
              · refine r_cond_t hb (by kernel_rfl) ?_
                refine pwp_seq ?_
                refine r_reg ?_
                refine e_end (by kernel_rfl) ?_
                refine q_next ?_
                refine pwp_ret ?_
                refine q_seq_ret ?_
                cases h
                exact q_ret (by kernel_rfl) (by kernel_rfl) (by kernel_rfl)
              · refine r_cond_f hb (by kernel_rfl) ?_
                refine pwp_skip ?_
                refine q_next ?_
                refine pwp_seq ?_
                refine r_reg ?_
                refine e_end (by kernel_rfl) ?_
                refine q_next ?_
                refine pwp_ret ?_
                cases h
                exact q_ret (by kernel_rfl) (by kernel_rfl) (by kernel_rfl)

/-! body.Rear -/
noncomputable def d_body_Rear (a0 : T_api_Layout) (a1 : T_api_Body) : Option (Int × Int) :=
  (d_body_Check a0 a1).bind fun r1 =>
  bif (!(decide (r1 = 0))) then (
    some ((-1), 0)
  ) else (
    (ixO a1.Steps 0).bind fun x2 =>
    (d_body_rearEnd a0 a1).bind fun r3 =>
    some (x2.El, r3)
  )
theorem d_body_Rear_ok (a0 : T_api_Layout) (a1 : T_api_Body) (r : (Int × Int)) (h : d_body_Rear a0 a1 = some r) : PCall Go.Proofs.Tryd.prog GlS 12 [Enc.pv a0, Enc.pv a1] (.tup [Enc.pv r.1, Enc.pv r.2]) := by
  unfold d_body_Rear at h
  refine pcall_of_pwp Go.Proofs.Tryd.func12 (by rfl) rfl Go.Proofs.Tryd.ntmps12 (by rfl) rfl ?_
  refine pwp_seq ?_
  refine r_reg ?_
  refine e_end (by kernel_rfl) ?_
  refine q_next ?_
  refine pwp_seq ?_
  refine pwp_seq ?_
  refine r_reg ?_
  refine p_run 2 (by kernel_rfl) ?_
  obtain ⟨r1, h1, h⟩ := o_bind h
  refine p_call (d_body_Check_ok _ _ r1 h1) (by kernel_rfl) (by kernel_rfl) ?_
  refine e_end (by kernel_rfl) ?_
  refine q_next ?_
  rcases o_cond h with ⟨hb, h⟩ | ⟨hb, h⟩
  · refine r_cond_t hb (by kernel_rfl) ?_
    refine pwp_seq ?_
    refine r_reg ?_
    refine e_end (by kernel_rfl) ?_
    refine q_next ?_
    refine pwp_ret ?_
    refine q_seq_ret ?_
    cases h
    exact q_ret (by kernel_rfl) (by kernel_rfl) (by kernel_rfl)
  · refine r_cond_f hb (by kernel_rfl) ?_
    refine pwp_skip ?_
    refine q_next ?_
    refine pwp_seq ?_
    refine r_regd (by kernel_rfl) (by kernel_rfl) ?_
    refine p_run 2 (by kernel_rfl) ?_
    obtain ⟨x2, h2, h⟩ := o_bind h
    refine p_ix h2 (by kernel_rfl) ?_
    refine p_run 4 (by kernel_rfl) ?_
    obtain ⟨r3, h3, h⟩ := o_bind h
    refine p_call (d_body_rearEnd_ok _ _ r3 h3) (by kernel_rfl) (by kernel_rfl) ?_
    refine e_end (by kernel_rfl) ?_
    refine q_next ?_
    refine pwp_ret ?_
    cases h
    exact q_ret (by kernel_rfl) (by kernel_rfl) (by kernel_rfl)

/-! slices.Clone[[]api.Step,api.Step] -/
noncomputable def d_slices_Clone_api_Step (a0 : (List T_api_Step)) : Option (List T_api_Step) :=
  (appO ([] : (List T_api_Step)) a0).bind fun x1 =>
  some x1
theorem d_slices_Clone_api_Step_ok (a0 : (List T_api_Step)) (r : (List T_api_Step)) (h : d_slices_Clone_api_Step a0 = some r) : PCall Go.Proofs.Tryd.prog GlS 35 [Enc.pv a0] (lstOf (.own 7) r) := by
  unfold d_slices_Clone_api_Step at h
  refine pcall_of_pwp Go.Proofs.Tryd.func35 (by rfl) rfl Go.Proofs.Tryd.ntmps35 (by rfl) rfl ?_
  refine pwp_seq ?_
  refine r_reg ?_
  refine e_end (by kernel_rfl) ?_
  refine q_next ?_
  refine pwp_seq ?_
  refine pwp_seq ?_
  refine r_reg ?_
  refine e_end (by kernel_rfl) ?_
  refine q_next ?_
  refine pwp_condU (e := ((a0 : (List T_api_Step)).map cellsOf).isEmpty) (by kernel_rfl) (fun hub => ?_) ?_
  · have hN := clone_nil (ub_nil hub) h
    refine pwp_seq ?_
    refine r_reg ?_
    refine e_end (by kernel_rfl) ?_
    refine q_next ?_
    refine g_nil 2 7 3 24 (by kernel_rfl) (by kernel_rfl) ?_
    refine pwp_ret ?_
    refine q_seq_ret ?_
    cases hN
    exact q_ret (by kernel_rfl) (by kernel_rfl) (by kernel_rfl)
  · refine pwp_skip ?_
    refine q_next ?_
    refine pwp_seq ?_
    refine r_reg ?_
    refine p_run 2 (by kernel_rfl) ?_
    obtain ⟨x1, h1, h⟩ := o_bind h
    refine p_appn (tk := 7) h1 (by kernel_rfl) ?_
    refine e_end (by kernel_rfl) ?_
    refine q_next ?_
    refine pwp_ret ?_
    cases h
    exact q_ret (by kernel_rfl) (by kernel_rfl) (by kernel_rfl)
theorem d_slices_Clone_api_Step_fz (a0 : (List T_api_Step)) (r : (List T_api_Step)) (h : d_slices_Clone_api_Step a0 = some r) : PCall Go.Proofs.Tryd.prog GlS 35 [Enc.pv a0] (Enc.pv r) :=
  (d_slices_Clone_api_Step_ok a0 r h).freeze (by kernel_rfl) (by kernel_rfl) (by kernel_rfl)

/-! walk.Next -/
noncomputable def d_walk_Next (a0 : T_api_Layout) (a1 : T_api_Step) : Option (T_api_End × Bool) :=
  (d_walk_passage a0).bind fun r1 =>
  (d_walk_passage_1 a1 r1).bind fun r2 =>
  some (r2.1, r2.2)
theorem d_walk_Next_ok (a0 : T_api_Layout) (a1 : T_api_Step) (r : (T_api_End × Bool)) (h : d_walk_Next a0 a1 = some r) : PCall Go.Proofs.Tryd.prog GlS 54 [Enc.pv a0, Enc.pv a1] (.tup [Enc.pv r.1, Enc.pv r.2]) := by
  unfold d_walk_Next at h
  refine pcall_of_pwp Go.Proofs.Tryd.func54 (by rfl) rfl Go.Proofs.Tryd.ntmps54 (by rfl) rfl ?_
  refine pwp_seq ?_
  refine r_reg ?_
  refine e_end (by kernel_rfl) ?_
  refine q_next ?_
  refine pwp_seq ?_
  refine r_regd (by kernel_rfl) (by kernel_rfl) ?_
  refine p_run 1 (by kernel_rfl) ?_
  obtain ⟨r1, h1, h⟩ := o_bind h
  refine p_call (d_walk_passage_ok _ r1 h1) (by kernel_rfl) (by kernel_rfl) ?_
  refine p_run 1 (by kernel_rfl) ?_
  obtain ⟨r2, h2, h⟩ := o_bind h
  refine p_call (d_walk_passage_1_ok _ _ r2 h2) (by kernel_rfl) (by kernel_rfl) ?_
  refine e_end (by kernel_rfl) ?_
  refine q_next ?_
  refine pwp_ret ?_
  cases h
  exact q_ret (by kernel_rfl) (by kernel_rfl) (by kernel_rfl)

/-! layout.Section -/
noncomputable def d_layout_Section (a0 : T_api_Layout) (a1 : Int) : Option Int :=
  ((bif decide (a1 < 0) then some true else (
    some (decide (((a0.Elements.length : Nat) : Int) ≤ a1))
  )) : Option Bool).bind fun b1 =>
  bif b1 then (
    some (-1)
  ) else (
    (ixO a0.Elements a1).bind fun x2 =>
    some x2.Section
  )
theorem d_layout_Section_ok (a0 : T_api_Layout) (a1 : Int) (r : Int) (h : d_layout_Section a0 a1 = some r) : PCall Go.Proofs.Tryd.prog GlS 55 [Enc.pv a0, Enc.pv a1] (Enc.pv r) := by
  unfold d_layout_Section at h
  refine pcall_of_pwp Go.Proofs.Tryd.func55 (by rfl) rfl Go.Proofs.Tryd.ntmps55 (by rfl) rfl ?_
  refine pwp_seq ?_
  refine r_reg ?_
  refine e_end (by kernel_rfl) ?_
  refine q_next ?_
  refine pwp_seq ?_
  refine pwp_seq ?_
  refine r_reg ?_
  obtain ⟨b1, h1, h⟩ := o_bind h
  refine p_run 3 (by kernel_rfl) ?_
  refine e_seg 6 13 (.bool b1) ?_ ?_
  · rcases o_cond h1 with ⟨hb, h1⟩ | ⟨hb, h1⟩
    · refine p_settle 7 hb (by kernel_rfl) (by kernel_rfl) ?_
      cases h1
      exact f_end (by kernel_rfl) (by kernel_rfl)
    · refine p_settle 7 hb (by kernel_rfl) (by kernel_rfl) ?_
      refine p_run 3 (by kernel_rfl) ?_
      refine p_len (L := (a0.Elements : (List T_api_Element))) (by kernel_rfl) ?_
      cases h1
      exact f_end (by kernel_rfl) (by kernel_rfl)
  · refine e_nil (by kernel_rfl) ?_
    refine q_next ?_
    rcases o_cond h with ⟨hb, h⟩ | ⟨hb, h⟩
    · refine r_cond_t hb (by kernel_rfl) ?_
      refine pwp_seq ?_
      refine r_reg ?_
      refine e_end (by kernel_rfl) ?_
      refine q_next ?_
      refine pwp_ret ?_
      refine q_seq_ret ?_
      cases h
      exact q_ret (by kernel_rfl) (by kernel_rfl) (by kernel_rfl)
    · refine r_cond_f hb (by kernel_rfl) ?_
      refine pwp_skip ?_
      refine q_next ?_
      refine pwp_seq ?_
      refine r_reg ?_
      refine p_run 3 (by kernel_rfl) ?_
      obtain ⟨x2, h2, h⟩ := o_bind h
      refine p_ix h2 (by kernel_rfl) ?_
      refine e_end (by kernel_rfl) ?_
      refine q_next ?_
      refine pwp_ret ?_
      cases h
      exact q_ret (by kernel_rfl) (by kernel_rfl) (by kernel_rfl)

/-! body.Covers -/
noncomputable def d_body_Covers_0 (a0 : T_api_Body) (a1 : Int) : Int → Option (Int ⊕ (Unit ⊕ (T_api_Step × Bool))) := fun x2 =>
  bif decide (x2 < ((a0.Steps.length : Nat) : Int)) then (
    (ixO a0.Steps x2).bind fun x4 =>
    bif decide (x4.El = a1) then (
      some (.inr (.inr (x4, true)))
    ) else (
      some (.inl (w64 (x2 + 1)))
    )
  ) else (
    some (.inr (.inl ()))
  )

noncomputable def d_body_Covers (a0 : T_api_Body) (a1 : Int) : Option (T_api_Step × Bool) :=
  onInl (α := Unit) (β := (T_api_Step × Bool)) (loopO (d_body_Covers_0 a0 a1) 0) fun _ =>
  some ((T_api_Step.mk 0 0 0), false)
theorem d_body_Covers_ok (a0 : T_api_Body) (a1 : Int) (r : (T_api_Step × Bool)) (h : d_body_Covers a0 a1 = some r) : PCall Go.Proofs.Tryd.prog GlS 14 [Enc.pv a0, Enc.pv a1] (.tup [Enc.pv r.1, Enc.pv r.2]) := by
  unfold d_body_Covers at h
  refine pcall_of_pwp Go.Proofs.Tryd.func14 (by rfl) rfl Go.Proofs.Tryd.ntmps14 (by rfl) rfl ?_
  refine pwp_seq ?_
  refine r_reg ?_
  refine e_end (by kernel_rfl) ?_
  refine q_next ?_
  refine pwp_seq ?_
  refine pwp_seq ?_
  refine r_reg ?_
  refine p_run 2 (by kernel_rfl) ?_
  refine p_len (L := (a0.Steps : (List T_api_Step))) (by kernel_rfl) ?_
  refine e_end (by kernel_rfl) ?_
  refine q_next ?_
  refine pwp_block ?_
  obtain ⟨o6, h6, h⟩ := o_inl h
  refine r_loop2 22 0 (fun x2 => ⟨[(1, .int .i64 a1), (4, .ref 4 0), (9, lstOf .frozen (a0.Steps : (List T_api_Step))), (10, .int .i64 ((a0.Steps.length : Nat) : Int)), (11, .int .i64 x2)], [(4, .cells ([.int .i64 0, .int .i64 0, .int .i64 0]))], [], []⟩) (fun (_ : Unit) => ⟨[(4, .ref 4 0)], [(4, .cells ([.int .i64 0, .int .i64 0, .int .i64 0]))], [], []⟩) h6 (by kernel_rfl) (fun _ => by kernel_rfl) ?_ ?_
  · rintro x2 oh5 h5
    unfold d_body_Covers_0 at h5
    refine pwp_seq ?_
    refine r_reg ?_
    refine e_end (by kernel_rfl) ?_
    refine q_next ?_
    refine pwp_seq ?_
    rcases o_cond h5 with ⟨hb, h5⟩ | ⟨hb, h5⟩
    · refine r_cond_t hb (by kernel_rfl) ?_
      refine pwp_skip ?_
      refine q_next ?_
      refine pwp_seq ?_
      refine pwp_block ?_
      refine pwp_seq ?_
      refine r_reg ?_
      obtain ⟨x4, h7, h5⟩ := o_bind h5
      refine p_ix h7 (by kernel_rfl) ?_
      refine e_end (by kernel_rfl) ?_
      refine q_next ?_
      refine pwp_seq ?_
      refine r_reg ?_
      refine e_end (by kernel_rfl) ?_
      refine q_next ?_
      rcases o_cond h5 with ⟨hb, h5⟩ | ⟨hb, h5⟩
      · refine r_cond_t hb (by kernel_rfl) ?_
        refine pwp_seq ?_
        refine r_reg ?_
        refine e_end (by kernel_rfl) ?_
        refine q_next ?_
        refine pwp_ret ?_
        refine q_block_ret ?_
        refine q_seq_ret ?_
        cases h5
        refine q_lout_ret fun he => ?_
        subst he
        have h8 := o_outr h
        refine q_block_ret ?_
        refine q_seq_ret ?_
        cases h8
        exact q_ret (by kernel_rfl) (by kernel_rfl) (by kernel_rfl)
      · refine r_cond_f hb (by kernel_rfl) ?_
        refine pwp_skip ?_
        refine q_block ?_
        refine q_next ?_
        refine r_reg ?_
        refine e_end (by kernel_rfl) ?_
        cases h5
        exact q_lback (by kernel_rfl)
    · refine r_cond_f hb (by kernel_rfl) ?_
      refine pwp_exit ?_
      refine q_seq_exit ?_
      cases h5
      exact q_lexit (by kernel_rfl) (by kernel_rfl)
  · rintro _ s' rfl hs
    have h := o_outl h
    refine q_block_hit ?_
    refine q_next (pwp_wkr hs ?_)
    refine pwp_seq ?_
    refine r_reg ?_
    refine e_end (by kernel_rfl) ?_
    refine q_next ?_
    refine pwp_ret ?_
    cases h
    exact q_ret (by kernel_rfl) (by kernel_rfl) (by kernel_rfl)

/-! rail.Out -/
noncomputable def d_rail_Out_0 (a0 : Int) (a1 : Int) (a2 : Int) : Int → Option (Int ⊕ (Unit ⊕ (Int × Bool))) := fun x2 =>
  bif decide (x2 < 10) then (
    (ixO tab_rail_passages x2).bind fun x4 =>
    bif (((decide (x4.kind_ = a0)) && (decide (x4.in_ = a1))) && ((decide (x4.need_ = 0)) || (decide (x4.need_ = a2)))) then (
      some (.inr (.inr (x4.out_, true)))
    ) else (
      some (.inl (w64 (x2 + 1)))
    )
  ) else (
    some (.inr (.inl ()))
  )

noncomputable def d_rail_Out (a0 : Int) (a1 : Int) (a2 : Int) : Option (Int × Bool) :=
  onInl (α := Unit) (β := (Int × Bool)) (loopO (d_rail_Out_0 a0 a1 a2) 0) fun _ =>
  some (0, false)
theorem d_rail_Out_ok (a0 : Int) (a1 : Int) (a2 : Int) (r : (Int × Bool)) (h : d_rail_Out a0 a1 a2 = some r) : PCall Go.Proofs.Tryd.prog GlS 56 [Enc.pv a0, Enc.pv a1, Enc.pv a2] (.tup [Enc.pv r.1, Enc.pv r.2]) := by
  unfold d_rail_Out at h
  refine pcall_of_pwp Go.Proofs.Tryd.func56 (by rfl) rfl Go.Proofs.Tryd.ntmps56 (by rfl) rfl ?_
  refine pwp_seq ?_
  refine r_reg ?_
  refine e_end (by kernel_rfl) ?_
  refine q_next ?_
  refine pwp_seq ?_
  refine pwp_seq ?_
  refine r_reg ?_
  refine e_end (by kernel_rfl) ?_
  refine q_next ?_
  refine pwp_block ?_
  obtain ⟨o6, h6, h⟩ := o_inl h
  refine r_loop2 38 0 (fun x2 => ⟨[(0, .int .i64 a0), (1, .int .i64 a1), (2, .int .i64 a2), (10, .agg (tab_rail_passages.flatMap cellsOf)), (11, .int .i64 x2)], [], [], []⟩) (fun (_ : Unit) => ⟨[], [], [], []⟩) h6 (by kernel_rfl) (fun _ => by kernel_rfl) ?_ ?_
  · rintro x2 oh5 h5
    unfold d_rail_Out_0 at h5
    refine pwp_seq ?_
    refine r_reg ?_
    refine e_end (by kernel_rfl) ?_
    refine q_next ?_
    refine pwp_seq ?_
    rcases o_cond h5 with ⟨hb, h5⟩ | ⟨hb, h5⟩
    · refine r_cond_t hb (by kernel_rfl) ?_
      refine pwp_skip ?_
      refine q_next ?_
      refine pwp_seq ?_
      refine pwp_block ?_
      refine pwp_seq ?_
      refine r_reg ?_
      obtain ⟨x4, h7, h5⟩ := o_bind h5
      refine p_tix (tab := tab_rail_passages) h7 true 10 4 (by kernel_rfl) (by kernel_rfl) (by kernel_rfl) (by kernel_rfl) ?_
      refine e_end (by kernel_rfl) ?_
      refine q_next ?_
      refine pwp_seq ?_
      refine r_reg ?_
      refine p_run 5 (by kernel_rfl) ?_
      refine e_segb 5 23 ((decide (x4.kind_ = a0)) && (decide (x4.in_ = a1))) (fun x hx => ?_) ?_
      · rcases b_and hx with ⟨hb, hx⟩ | ⟨hb, hx⟩
        · refine p_settle 18 hb (by kernel_rfl) (by kernel_rfl) ?_
          subst hx
          exact f_end (by kernel_rfl) (by kernel_rfl)
        · refine p_settle 18 hb (by kernel_rfl) (by kernel_rfl) ?_
          subst hx
          exact f_end (by kernel_rfl) (by kernel_rfl)
      · refine p_run 1 (by kernel_rfl) ?_
        refine e_segb 10 34 (((decide (x4.kind_ = a0)) && (decide (x4.in_ = a1))) && ((decide (x4.need_ = 0)) || (decide (x4.need_ = a2)))) (fun x hx => ?_) ?_
        · rcases b_and hx with ⟨hb, hx⟩ | ⟨hb, hx⟩
          · refine p_settle 24 hb (by kernel_rfl) (by kernel_rfl) ?_
            refine p_run 4 (by kernel_rfl) ?_
            refine f_segb 5 33 ((decide (x4.need_ = 0)) || (decide (x4.need_ = a2))) (fun x hx => ?_) ?_
            · rcases b_or hx with ⟨hb, hx⟩ | ⟨hb, hx⟩
              · refine p_settle 28 hb (by kernel_rfl) (by kernel_rfl) ?_
                subst hx
                exact f_end (by kernel_rfl) (by kernel_rfl)
              · refine p_settle 28 hb (by kernel_rfl) (by kernel_rfl) ?_
                subst hx
                exact f_end (by kernel_rfl) (by kernel_rfl)
            · subst hx
              exact f_end (by kernel_rfl) (by kernel_rfl)
          · refine p_settle 24 hb (by kernel_rfl) (by kernel_rfl) ?_
            subst hx
            exact f_end (by kernel_rfl) (by kernel_rfl)
        · refine e_nil (by kernel_rfl) ?_
          refine q_next ?_
          rcases o_cond h5 with ⟨hb, h5⟩ | ⟨hb, h5⟩
          · refine r_cond_t hb (by kernel_rfl) ?_
            refine pwp_seq ?_
            refine r_reg ?_
            refine e_end (by kernel_rfl) ?_
            refine q_next ?_
            refine pwp_ret ?_
            refine q_block_ret ?_
            refine q_seq_ret ?_
            cases h5
            refine q_lout_ret fun he => ?_
            subst he
            have h8 := o_outr h
            refine q_block_ret ?_
            refine q_seq_ret ?_
            cases h8
            exact q_ret (by kernel_rfl) (by kernel_rfl) (by kernel_rfl)
          · refine r_cond_f hb (by kernel_rfl) ?_
            refine pwp_skip ?_
            refine q_block ?_
            refine q_next ?_
            refine r_reg ?_
            refine e_end (by kernel_rfl) ?_
            cases h5
            exact q_lback (by kernel_rfl)
    · refine r_cond_f hb (by kernel_rfl) ?_
      refine pwp_exit ?_
      refine q_seq_exit ?_
      cases h5
      exact q_lexit (by kernel_rfl) (by kernel_rfl)
  · rintro _ s' rfl hs
    have h := o_outl h
    refine q_block_hit ?_
    refine q_next (pwp_wkr hs ?_)
    refine pwp_seq ?_
    refine r_reg ?_
    refine e_end (by kernel_rfl) ?_
    refine q_next ?_
    refine pwp_ret ?_
    cases h
    exact q_ret (by kernel_rfl) (by kernel_rfl) (by kernel_rfl)

/-! body.ahead -/
noncomputable def d_body_ahead (a0 : T_api_Layout) (a1 : (List Int)) (a2 : T_api_Body) : Option (T_api_Step × Bool) :=
  (d_body_last a2).bind fun r1 =>
  (d_walk_Next a0 r1).bind fun r2 =>
  ((bif (!r2.2) then some true else (
    (d_layout_Section a0 r2.1.El).bind fun r4 =>
    some (decide (r4 < 0))
  )) : Option Bool).bind fun b3 =>
  ((bif b3 then some true else (
    (ixO a0.Elements r2.1.El).bind fun x6 =>
    some (decide (x6.Length < 1))
  )) : Option Bool).bind fun b5 =>
  bif b5 then (
    some ((T_api_Step.mk 0 0 0), false)
  ) else (
    (d_body_Covers a2 r2.1.El).bind fun r7 =>
    bif r7.2 then (
      some ((T_api_Step.mk 0 0 0), false)
    ) else (
      onInl (α := Int) (β := (T_api_Step × Bool)) (
        bif decide (r2.1.El < ((a1.length : Nat) : Int)) then (
          (ixO a1 r2.1.El).bind fun x10 =>
          some (.inl x10)
        ) else (
          some (.inl 0)
        )
      ) fun x9 =>
      (ixO a0.Elements r2.1.El).bind fun x11 =>
      (d_rail_Out x11.Kind r2.1.Side x9).bind fun r12 =>
      bif (!r12.2) then (
        some ((T_api_Step.mk 0 0 0), false)
      ) else (
        some ((T_api_Step.mk r2.1.El r2.1.Side r12.1), true)
      )
    )
  )
theorem d_body_ahead_ok (a0 : T_api_Layout) (a1 : (List Int)) (a2 : T_api_Body) (r : (T_api_Step × Bool)) (h : d_body_ahead a0 a1 a2 = some r) : PCall Go.Proofs.Tryd.prog GlS 38 [Enc.pv a0, Enc.pv a1, Enc.pv a2] (.tup [Enc.pv r.1, Enc.pv r.2]) := by
  unfold d_body_ahead at h
  refine pcall_of_pwp Go.Proofs.Tryd.func38 (by rfl) rfl Go.Proofs.Tryd.ntmps38 (by rfl) rfl ?_
  refine pwp_seq ?_
  refine r_reg ?_
  refine e_end (by kernel_rfl) ?_
  refine q_next ?_
  refine pwp_seq ?_
  refine r_regd (by kernel_rfl) (by kernel_rfl) ?_
  refine p_run 2 (by kernel_rfl) ?_
  obtain ⟨r1, h1, h⟩ := o_bind h
  refine p_call (d_body_last_ok _ r1 h1) (by kernel_rfl) (by kernel_rfl) ?_
  obtain ⟨r2, h2, h⟩ := o_bind h
  refine p_call (d_walk_Next_ok _ _ r2 h2) (by kernel_rfl) (by kernel_rfl) ?_
  refine e_end (by kernel_rfl) ?_
  refine q_next ?_
  refine pwp_seq ?_
  refine pwp_seq ?_
  refine r_reg ?_
  obtain ⟨b3, h3, h⟩ := o_bind h
  refine p_run 3 (by kernel_rfl) ?_
  refine e_seg 6 29 (.bool b3) ?_ ?_
  · rcases o_cond h3 with ⟨hb, h3⟩ | ⟨hb, h3⟩
    · refine p_settle 23 hb (by kernel_rfl) (by kernel_rfl) ?_
      cases h3
      exact f_end (by kernel_rfl) (by kernel_rfl)
    · refine p_settle 23 hb (by kernel_rfl) (by kernel_rfl) ?_
      refine p_run 3 (by kernel_rfl) ?_
      obtain ⟨r4, h4, h3⟩ := o_bind h3
      refine p_call (d_layout_Section_ok _ _ r4 h4) (by kernel_rfl) (by kernel_rfl) ?_
      cases h3
      exact f_end (by kernel_rfl) (by kernel_rfl)
  · obtain ⟨b5, h5, h⟩ := o_bind h
    refine p_run 1 (by kernel_rfl) ?_
    refine e_seg 9 39 (.bool b5) ?_ ?_
    · rcases o_cond h5 with ⟨hb, h5⟩ | ⟨hb, h5⟩
      · refine p_settle 30 hb (by kernel_rfl) (by kernel_rfl) ?_
        cases h5
        exact f_end (by kernel_rfl) (by kernel_rfl)
      · refine p_settle 30 hb (by kernel_rfl) (by kernel_rfl) ?_
        refine p_run 4 (by kernel_rfl) ?_
        obtain ⟨x6, h6, h5⟩ := o_bind h5
        refine p_ix h6 (by kernel_rfl) ?_
        cases h5
        exact f_end (by kernel_rfl) (by kernel_rfl)
    · refine e_nil (by kernel_rfl) ?_
      refine q_next ?_
      rcases o_cond h with ⟨hb, h⟩ | ⟨hb, h⟩
      · refine r_cond_t hb (by kernel_rfl) ?_
        refine pwp_seq ?_
        refine r_reg ?_
        refine e_end (by kernel_rfl) ?_
        refine q_next ?_
        refine pwp_ret ?_
        refine q_seq_ret ?_
        cases h
        exact q_ret (by kernel_rfl) (by kernel_rfl) (by kernel_rfl)
      · refine r_cond_f hb (by kernel_rfl) ?_
        refine pwp_skip ?_
        refine q_next ?_
        refine pwp_seq ?_
        refine pwp_seq ?_
        refine r_reg ?_
        refine p_run 3 (by kernel_rfl) ?_
        obtain ⟨r7, h7, h⟩ := o_bind h
        refine p_call (d_body_Covers_ok _ _ r7 h7) (by kernel_rfl) (by kernel_rfl) ?_
        refine e_end (by kernel_rfl) ?_
        refine q_next ?_
        refine pwp_seq ?_
        refine r_reg ?_
        refine e_end (by kernel_rfl) ?_
        refine q_next ?_
        rcases o_cond h with ⟨hb, h⟩ | ⟨hb, h⟩
        · refine r_cond_t hb (by kernel_rfl) ?_
          refine pwp_seq ?_
          refine r_reg ?_
          refine e_end (by kernel_rfl) ?_
          refine q_next ?_
          refine pwp_ret ?_
          refine q_seq_ret ?_
          cases h
          exact q_ret (by kernel_rfl) (by kernel_rfl) (by kernel_rfl)
        · refine r_cond_f hb (by kernel_rfl) ?_
          refine pwp_skip ?_
          refine q_next ?_
          refine pwp_seq ?_
          refine r_reg ?_
          refine e_end (by kernel_rfl) ?_
          refine q_next ?_
          obtain ⟨o9, h9, h⟩ := o_inl h
          refine r_join (o := o9) 83 (fun x9 => ⟨[(3, .ref 3 0), (6, .ref 6 0), (8, .ref 8 0), (12, .int .i64 x9)], [(3, .cells (cellsOf a0)), (6, .cells ([.int .i64 0, .int .i64 0, .int .i64 0])), (8, .cells (cellsOf r2.1))], [], []⟩) ?_ ?_
          · refine pwp_seq ?_
            refine r_reg ?_
            refine p_run 3 (by kernel_rfl) ?_
            refine p_len (L := (a1 : (List Int))) (by kernel_rfl) ?_
            refine e_end (by kernel_rfl) ?_
            refine q_next ?_
            rcases o_cond h9 with ⟨hb, h9⟩ | ⟨hb, h9⟩
            · refine r_cond_t hb (by kernel_rfl) ?_
              refine r_reg ?_
              refine p_run 3 (by kernel_rfl) ?_
              obtain ⟨x10, h10, h9⟩ := o_bind h9
              refine p_ix h10 (by kernel_rfl) ?_
              refine e_end (by kernel_rfl) ?_
              cases h9
              exact q_join (by kernel_rfl) (by kernel_rfl)
            · refine r_cond_f hb (by kernel_rfl) ?_
              refine pwp_skip ?_
              cases h9
              exact q_join (by kernel_rfl) (by kernel_rfl)
          · rintro x9 rfl
            have h := o_outl h
            refine pwp_seq ?_
            refine r_regd (by kernel_rfl) (by kernel_rfl) ?_
            refine p_run 4 (by kernel_rfl) ?_
            obtain ⟨x11, h11, h⟩ := o_bind h
            refine p_ix h11 (by kernel_rfl) ?_
            refine p_run 5 (by kernel_rfl) ?_
            obtain ⟨r12, h12, h⟩ := o_bind h
            refine p_call (d_rail_Out_ok _ _ _ r12 h12) (by kernel_rfl) (by kernel_rfl) ?_
            refine e_end (by kernel_rfl) ?_
            refine q_next ?_
            refine pwp_seq ?_
            refine pwp_seq ?_
            refine r_reg ?_
            refine e_end (by kernel_rfl) ?_
            refine q_next ?_
            rcases o_cond h with ⟨hb, h⟩ | ⟨hb, h⟩
            · refine r_cond_t hb (by kernel_rfl) ?_
              refine pwp_seq ?_
              refine r_reg ?_
              refine e_end (by kernel_rfl) ?_
              refine q_next ?_
              refine pwp_ret ?_
              refine q_seq_ret ?_
              cases h
              exact q_ret (by kernel_rfl) (by kernel_rfl) (by kernel_rfl)
            · refine r_cond_f hb (by kernel_rfl) ?_
              refine pwp_skip ?_
              refine q_next ?_
              refine pwp_seq ?_
              refine r_reg ?_
              refine e_end (by kernel_rfl) ?_
              refine q_next ?_
              refine pwp_ret ?_
              cases h
              exact q_ret (by kernel_rfl) (by kernel_rfl) (by kernel_rfl)

/-! body.Move -/
noncomputable def d_body_Move_1 (a0 : T_api_Layout) : ((List T_api_Step) × Int) → Option (((List T_api_Step) × Int) ⊕ ((List T_api_Step) ⊕ (List T_api_Step))) := fun (x231, x232) =>
  ((bif decide (1 < ((x231.length : Nat) : Int)) then (
    (ixO x231 0).bind fun x241 =>
    (ixO a0.Elements x241.El).bind fun x242 =>
    some (decide (x242.Length ≤ x232))
  ) else some false) : Option Bool).bind fun b240 =>
  bif b240 then (
    (ixO x231 0).bind fun x243 =>
    (ixO a0.Elements x243.El).bind fun x244 =>
    (slLoO x231 1).bind fun x245 =>
    some (.inl (x245, w64 (x232 - x244.Length)))
  ) else (
    some (.inr (.inl x231))
  )

noncomputable def d_body_Move_2 (a0 : T_api_Layout) : ((List T_api_Step) × Int) → Option (((List T_api_Step) × Int) ⊕ ((List T_api_Step) ⊕ (List T_api_Step))) := fun (x277, x278) =>
  ((bif decide (1 < ((x277.length : Nat) : Int)) then (
    (ixO x277 0).bind fun x287 =>
    (ixO a0.Elements x287.El).bind fun x288 =>
    some (decide (x288.Length ≤ x278))
  ) else some false) : Option Bool).bind fun b286 =>
  bif b286 then (
    (ixO x277 0).bind fun x289 =>
    (ixO a0.Elements x289.El).bind fun x290 =>
    (slLoO x277 1).bind fun x291 =>
    some (.inl (x291, w64 (x278 - x290.Length)))
  ) else (
    some (.inr (.inl x277))
  )

noncomputable def d_body_Move_0 (a0 : T_api_Layout) (a1 : (List Int)) (a2 : T_api_Body) (a3 : Int) : (Int × Int × (List T_api_Step)) → Option ((Int × Int × (List T_api_Step)) ⊕ ((Int × (List T_api_Step) × Int) ⊕ (T_api_Body × Int × Bool))) := fun (x98, x99, x100) =>
  bif decide (x98 < (max 0 (min a3 1000000))) then (
    (d_body_last (T_api_Body.mk x100 x99 a2.Length)).bind fun r199 =>
    (ixO a0.Elements r199.El).bind fun x200 =>
    bif decide (0 < (w64 (x200.Length - x99))) then (
      some (.inl (w64 (x98 + (min (w64 (x200.Length - x99)) (w64 ((max 0 (min a3 1000000)) - x98)))), w64 (x99 + (min (w64 (x200.Length - x99)) (w64 ((max 0 (min a3 1000000)) - x98)))), x100))
    ) else (
      Option.bind (α := (List T_api_Step)) (
        (d_body_rearEnd a0 (T_api_Body.mk x100 x99 a2.Length)).bind fun r224 =>
        onInl (α := (List T_api_Step)) (β := (List T_api_Step)) (loopO (d_body_Move_1 a0) (x100, r224)) fun x239 =>
        some x239
      ) fun x223 =>
      (d_body_ahead a0 a1 (T_api_Body.mk x223 x99 a2.Length)).bind fun r246 =>
      bif (!r246.2) then (
        Option.bind (α := (T_api_Body × Int × Bool)) (
          Option.bind (α := (List T_api_Step)) (
            (d_body_rearEnd a0 (T_api_Body.mk x223 x99 a2.Length)).bind fun r270 =>
            onInl (α := (List T_api_Step)) (β := (List T_api_Step)) (loopO (d_body_Move_2 a0) (x223, r270)) fun x285 =>
            some x285
          ) fun x269 =>
          some ((T_api_Body.mk x269 x99 a2.Length), x98, true)
        ) fun b292 => some (.inr (.inr b292))
      ) else (
        (appO x223 [r246.1]).bind fun x293 =>
        some (.inl (x98, 0, x293))
      )
    )
  ) else (
    some (.inr (.inl (x98, x100, x99)))
  )

noncomputable def d_body_Move_3 (a0 : T_api_Layout) : ((List T_api_Step) × Int) → Option (((List T_api_Step) × Int) ⊕ ((List T_api_Step) ⊕ (List T_api_Step))) := fun (x324, x325) =>
  ((bif decide (1 < ((x324.length : Nat) : Int)) then (
    (ixO x324 0).bind fun x334 =>
    (ixO a0.Elements x334.El).bind fun x335 =>
    some (decide (x335.Length ≤ x325))
  ) else some false) : Option Bool).bind fun b333 =>
  bif b333 then (
    (ixO x324 0).bind fun x336 =>
    (ixO a0.Elements x336.El).bind fun x337 =>
    (slLoO x324 1).bind fun x338 =>
    some (.inl (x338, w64 (x325 - x337.Length)))
  ) else (
    some (.inr (.inl x324))
  )

noncomputable def d_body_Move (a0 : T_api_Layout) (a1 : (List Int)) (a2 : T_api_Body) (a3 : Int) : Option (T_api_Body × Int × Bool) :=
  (d_slices_Clone_api_Step a2.Steps).bind fun r1 =>
  (d_body_Check a0 (T_api_Body.mk r1 a2.Head a2.Length)).bind fun r2 =>
  bif (!(decide (r2 = 0))) then (
    some ((T_api_Body.mk r1 a2.Head a2.Length), 0, false)
  ) else (
    onInl (α := (Int × (List T_api_Step) × Int)) (β := (T_api_Body × Int × Bool)) (loopO (d_body_Move_0 a0 a1 a2 a3) (0, a2.Head, r1)) fun (x196, x197, x198) =>
    Option.bind (α := (List T_api_Step)) (
      (d_body_rearEnd a0 (T_api_Body.mk x197 x198 a2.Length)).bind fun r317 =>
      onInl (α := (List T_api_Step)) (β := (List T_api_Step)) (loopO (d_body_Move_3 a0) (x197, r317)) fun x332 =>
      some x332
    ) fun x316 =>
    some ((T_api_Body.mk x316 x198 a2.Length), x196, false)
  )
set_option maxRecDepth 100000 in
theorem d_body_Move_ok (a0 : T_api_Layout) (a1 : (List Int)) (a2 : T_api_Body) (a3 : Int) (r : (T_api_Body × Int × Bool)) (h : d_body_Move a0 a1 a2 a3 = some r) : PCall Go.Proofs.Tryd.prog GlS 19 [Enc.pv a0, Enc.pv a1, Enc.pv a2, Enc.pv a3] (.tup [Enc.pv r.1, Enc.pv r.2.1, Enc.pv r.2.2]) := by
  unfold d_body_Move at h
  refine pcall_of_pwpD Go.Proofs.Tryd.func19 (by rfl) rfl Go.Proofs.Tryd.ntmps19 (by rfl) rfl ?_
  refine pwpD_seq ?_
  refine r_reg ?_
  refine e_end (by kernel_rfl) ?_
  refine qd_next ?_
  refine pwpD_seq ?_
  refine r_reg ?_
  refine p_run 2 (by kernel_rfl) ?_
  obtain ⟨r1, h1, h⟩ := o_bind h
  refine p_call (d_slices_Clone_api_Step_ok _ r1 h1) (by kernel_rfl) (by kernel_rfl) ?_
  refine e_end (by kernel_rfl) ?_
  refine qd_next ?_
  refine pwpD_seq ?_
  refine pwp_seq ?_
  refine r_reg ?_
  refine p_run 2 (by kernel_rfl) ?_
  obtain ⟨r2, h2, h⟩ := o_bind h
  refine p_call (d_body_Check_ok _ _ r2 h2) (by kernel_rfl) (by kernel_rfl) ?_
  refine e_end (by kernel_rfl) ?_
  refine q_next ?_
  rcases o_cond h with ⟨hb, h⟩ | ⟨hb, h⟩
  · refine r_cond_t hb (by kernel_rfl) ?_
    refine pwp_seq ?_
    refine r_reg ?_
    refine e_end (by kernel_rfl) ?_
    refine q_next ?_
    refine pwp_ret ?_
    refine qd_ret ?_
    cases h
    exact q_ret (by kernel_rfl) (by kernel_rfl) (by kernel_rfl)
  · refine r_cond_f hb (by kernel_rfl) ?_
    refine pwp_skip ?_
    refine qd_next ?_
    refine pwpD_seq ?_
    refine r_reg ?_
    refine e_end (by kernel_rfl) ?_
    refine qd_next ?_
    refine pwpD_defer 1 36 [.ref 4 0, .ref 8 0] (by rfl) ?_
    refine e_end (by kernel_rfl) ?_
    refine ⟨by kernel_rfl, by kernel_rfl, by kernel_rfl, ?_⟩
    refine pwp_seq ?_
    refine r_reg ?_
    refine e_end (by kernel_rfl) ?_
    refine q_next ?_
    refine pwp_seq ?_
    refine pwp_block ?_
    obtain ⟨o186, h186, h⟩ := o_inl h
    refine r_loop2 100083 0 (fun (x98, x99, x100) => ⟨[(1, lstOf .frozen (a1 : (List Int))), (3, .int .i64 (max 0 (min a3 1000000))), (4, .ref 4 0), (8, .ref 8 0), (9, .int .i64 x98), (82, .fn 36 [.ref 4 0, .ref 8 0])], [(4, .cells (cellsOf a0)), (8, .cells ([lstOf (.own 17007) (x100 : (List T_api_Step)), .int .i64 x99, .int .i64 a2.Length]))], [(17007, (((x100).map cellsOf).length, 3))], []⟩) (fun (x196, x197, x198) => ⟨[(8, .ref 8 0), (9, .int .i64 x196), (82, .fn 36 [.ref 4 0, .ref 8 0])], [(4, .cells (cellsOf a0)), (8, .cells ([lstOf (.own 17007) (x197 : (List T_api_Step)), .int .i64 x198, .int .i64 a2.Length]))], [(17007, (((x197).map cellsOf).length, 3))], []⟩) h186 (by kernel_rfl) (fun _ => by kernel_rfl) ?_ ?_
    · rintro ⟨x98, x99, x100⟩ oh185 h185
      unfold d_body_Move_0 at h185
      refine pwp_seq ?_
      refine pwp_seq ?_
      refine r_reg ?_
      refine e_end (by kernel_rfl) ?_
      refine q_next ?_
      rcases o_cond h185 with ⟨hb, h185⟩ | ⟨hb, h185⟩
      · refine r_cond_t hb (by kernel_rfl) ?_
        refine pwp_skip ?_
        refine q_next ?_
        refine pwp_block ?_
        refine pwp_seq ?_
        refine r_regd (by kernel_rfl) (by kernel_rfl) ?_
        refine p_run 3 (by kernel_rfl) ?_
        obtain ⟨r199, h187, h185⟩ := o_bind h185
        refine p_call (d_body_last_ok _ r199 h187) (by kernel_rfl) (by kernel_rfl) ?_
        refine p_run 1 (by kernel_rfl) ?_
        obtain ⟨x200, h188, h185⟩ := o_bind h185
        refine p_ix h188 (by kernel_rfl) ?_
        refine e_end (by kernel_rfl) ?_
        refine q_next ?_
        refine pwp_seq ?_
        refine pwp_seq ?_
        refine r_reg ?_
        refine e_end (by kernel_rfl) ?_
        refine q_next ?_
        rcases o_cond h185 with ⟨hb, h185⟩ | ⟨hb, h185⟩
        · refine r_cond_t hb (by kernel_rfl) ?_
          refine pwp_seq ?_
          refine r_reg ?_
          refine e_end (by kernel_rfl) ?_
          refine q_next ?_
          refine pwp_seq ?_
          refine r_reg ?_
          refine e_end (by kernel_rfl) ?_
          refine q_next ?_
          refine pwp_seq ?_
          refine r_reg ?_
          refine e_end (by kernel_rfl) ?_
          refine q_next ?_
          refine pwp_exit ?_
          refine q_seq_exit ?_
          refine q_block_hit ?_
          cases h185
          exact q_lback (by kernel_rfl)
        · refine r_cond_f hb (by kernel_rfl) ?_
          refine pwp_skip ?_
          refine q_next ?_
          refine pwp_seq ?_
          refine r_regi ?_
          refine wl_run 0 2 ?_
          refine e_end (by kernel_rfl) ?_
          refine wl_ren 1 ⟨[(1, lstOf .frozen (a1 : (List Int))), (3, .int .i64 (max 0 (min a3 1000000))), (4, .ref 1004 0), (8, .ref 1008 0), (9, .int .i64 x98), (58, Enc.pv a0), (59, .agg [lstOf (.own 1017007) (x100 : (List T_api_Step)), .int .i64 x99, .int .i64 a2.Length]), (82, .fn 36 [.ref 1004 0, .ref 1008 0])], [(1004, .cells (cellsOf a0)), (1008, .cells ([lstOf (.own 1017007) (x100 : (List T_api_Step)), .int .i64 x99, .int .i64 a2.Length]))], [(1017007, (((x100).map cellsOf).length, 3))], []⟩ 100083 (by kernel_rfl) (by kernel_rfl) (by kernel_rfl) ?_
          obtain ⟨o210, h210, h185⟩ := o_bind h185
          refine p_inl (f := 37) (asx := [Enc.pv a0, .agg [lstOf (.own 1017007) (x100 : (List T_api_Step)), .int .i64 x99, .int .i64 a2.Length]]) (by kernel_rfl) Go.Proofs.Tryd.func37 (by rfl) rfl Go.Proofs.Tryd.ntmps37 (by rfl) ?_
          refine r_joinI o210 8300125 (fun x223 => ⟨[(4, lstOf (.own 1017007) (x223 : (List T_api_Step))), (43, lstOf .frozen (a1 : (List Int))), (45, .int .i64 (max 0 (min a3 1000000))), (46, .ref 1004 0), (50, .ref 1008 0), (51, .int .i64 x98), (124, .fn 36 [.ref 1004 0, .ref 1008 0])], [(1004, .cells (cellsOf a0)), (1008, .cells ([lstOf .frozen (x100 : (List T_api_Step)), .int .i64 x99, .int .i64 a2.Length]))], [(1017007, (((x223).map cellsOf).length, 3))], []⟩) ?_ ?_
          · refine pwp_seq ?_
            refine r_reg ?_
            refine e_end (by kernel_rfl) ?_
            refine q_next ?_
            refine pwp_seq ?_
            refine r_regd (by kernel_rfl) (by kernel_rfl) ?_
            refine p_run 4 (by kernel_rfl) ?_
            obtain ⟨r224, h211, h210⟩ := o_bind h210
            refine p_call (d_body_rearEnd_ok _ _ r224 h211) (by kernel_rfl) (by kernel_rfl) ?_
            refine e_end (by kernel_rfl) ?_
            refine q_next ?_
            refine pwp_seq ?_
            refine pwp_block ?_
            obtain ⟨o225, h225, h210⟩ := o_inl h210
            refine r_loop2 8300125 0 (fun (x231, x232) => ⟨[(2, .ref 2 0), (5, lstOf (.own 1017007) (x231 : (List T_api_Step))), (6, .int .i64 x232), (43, lstOf .frozen (a1 : (List Int))), (45, .int .i64 (max 0 (min a3 1000000))), (46, .ref 1004 0), (50, .ref 1008 0), (51, .int .i64 x98), (124, .fn 36 [.ref 1004 0, .ref 1008 0])], [(2, .cells (cellsOf a0)), (1004, .cells (cellsOf a0)), (1008, .cells ([lstOf .frozen (x100 : (List T_api_Step)), .int .i64 x99, .int .i64 a2.Length]))], [(1017007, (((x231).map cellsOf).length, 3))], []⟩) (fun x239 => ⟨[(5, lstOf (.own 1017007) (x239 : (List T_api_Step))), (43, lstOf .frozen (a1 : (List Int))), (45, .int .i64 (max 0 (min a3 1000000))), (46, .ref 1004 0), (50, .ref 1008 0), (51, .int .i64 x98), (124, .fn 36 [.ref 1004 0, .ref 1008 0])], [(1004, .cells (cellsOf a0)), (1008, .cells ([lstOf .frozen (x100 : (List T_api_Step)), .int .i64 x99, .int .i64 a2.Length]))], [(1017007, (((x239).map cellsOf).length, 3))], []⟩) h225 (by kernel_rfl) (fun _ => by kernel_rfl) ?_ ?_
            · rintro ⟨x231, x232⟩ oh224 h224
              unfold d_body_Move_1 at h224
              refine pwp_seq ?_
              refine pwp_seq ?_
              refine r_regd (by kernel_rfl) (by kernel_rfl) ?_
              refine p_run 1 (by kernel_rfl) ?_
              refine p_len (L := (x231 : (List T_api_Step))) (by kernel_rfl) ?_
              obtain ⟨b240, h226, h224⟩ := o_bind h224
              refine p_run 2 (by kernel_rfl) ?_
              refine e_seg 12 27 (.bool b240) ?_ ?_
              · rcases o_cond h226 with ⟨hb, h226⟩ | ⟨hb, h226⟩
                · refine p_settle 15 hb (by kernel_rfl) (by kernel_rfl) ?_
                  refine p_run 4 (by kernel_rfl) ?_
                  obtain ⟨x241, h227, h226⟩ := o_bind h226
                  refine p_ix h227 (by kernel_rfl) ?_
                  refine p_run 2 (by kernel_rfl) ?_
                  obtain ⟨x242, h228, h226⟩ := o_bind h226
                  refine p_ix h228 (by kernel_rfl) ?_
                  cases h226
                  exact f_end (by kernel_rfl) (by kernel_rfl)
                · refine p_settle 15 hb (by kernel_rfl) (by kernel_rfl) ?_
                  cases h226
                  exact f_end (by kernel_rfl) (by kernel_rfl)
              · refine e_nil (by kernel_rfl) ?_
                refine q_next ?_
                rcases o_cond h224 with ⟨hb, h224⟩ | ⟨hb, h224⟩
                · refine r_cond_t hb (by kernel_rfl) ?_
                  refine pwp_skip ?_
                  refine q_next ?_
                  refine pwp_block ?_
                  refine pwp_seq ?_
                  refine r_regd (by kernel_rfl) (by kernel_rfl) ?_
                  refine p_run 4 (by kernel_rfl) ?_
                  obtain ⟨x243, h229, h224⟩ := o_bind h224
                  refine p_ix h229 (by kernel_rfl) ?_
                  refine p_run 2 (by kernel_rfl) ?_
                  obtain ⟨x244, h230, h224⟩ := o_bind h224
                  refine p_ix h230 (by kernel_rfl) ?_
                  refine e_end (by kernel_rfl) ?_
                  refine q_next ?_
                  refine r_reg_w ?_
                  refine p_run 1 (by kernel_rfl) ?_
                  obtain ⟨x245, h231, h224⟩ := o_bind h224
                  refine p_slR 1017007 900040 h231 (by kernel_rfl) (by kernel_rfl) ?_
                  refine e_end (by kernel_rfl) ?_
                  refine ⟨_, wkr_swap 1017007 900040 ⟨[(2, .ref 2 0), (5, lstOf (.own 1017007) (x245 : (List T_api_Step))), (6, .int .i64 (w64 (x232 - x244.Length))), (43, lstOf .frozen (a1 : (List Int))), (45, .int .i64 (max 0 (min a3 1000000))), (46, .ref 1004 0), (50, .ref 1008 0), (51, .int .i64 x98), (124, .fn 36 [.ref 1004 0, .ref 1008 0])], [(2, .cells (cellsOf a0)), (1004, .cells (cellsOf a0)), (1008, .cells ([lstOf .frozen (x100 : (List T_api_Step)), .int .i64 x99, .int .i64 a2.Length]))], [(1017007, (((x245).map cellsOf).length, 3))], []⟩ 8300125 (by kernel_rfl) (by kernel_rfl) (by kernel_rfl), ?_⟩
                  refine q_block ?_
                  cases h224
                  exact q_lback (by kernel_rfl)
                · refine r_cond_f hb (by kernel_rfl) ?_
                  refine pwp_exit ?_
                  refine q_seq_exit ?_
                  cases h224
                  exact q_lexit (by kernel_rfl) (by kernel_rfl)
            · rintro x239 s' rfl hs
              have h210 := o_outl h210
              refine q_block_hit ?_
              refine q_next (pwp_wkr hs ?_)
              refine pwp_seq ?_
              refine r_reg ?_
              refine e_end (by kernel_rfl) ?_
              refine q_next ?_
              refine pwp_ret ?_
              cases h210
              exact q_ij (by kernel_rfl) (by kernel_rfl)
          · generalize o210 = x223 at *
            refine q_inl (r := lstOf (.own 1017007) (x223 : (List T_api_Step))) (by kernel_rfl) ?_
            refine wl_ren 2 ⟨[(1, lstOf .frozen (a1 : (List Int))), (3, .int .i64 (max 0 (min a3 1000000))), (4, .ref 1004 0), (8, .ref 1008 0), (9, .int .i64 x98), (60, lstOf (.own 1017007) (x223 : (List T_api_Step))), (82, .fn 36 [.ref 1004 0, .ref 1008 0])], [(1004, .cells (cellsOf a0)), (1008, .cells ([lstOf .frozen (x100 : (List T_api_Step)), .int .i64 x99, .int .i64 a2.Length]))], [(1017007, (((x223).map cellsOf).length, 3))], []⟩ 100083 (by kernel_rfl) (by kernel_rfl) (by kernel_rfl) ?_
            refine wl_ren 1 ⟨[(1, lstOf .frozen (a1 : (List Int))), (3, .int .i64 (max 0 (min a3 1000000))), (4, .ref 4 0), (8, .ref 8 0), (9, .int .i64 x98), (60, lstOf (.own 17007) (x223 : (List T_api_Step))), (82, .fn 36 [.ref 4 0, .ref 8 0])], [(4, .cells (cellsOf a0)), (8, .cells ([lstOf .frozen (x100 : (List T_api_Step)), .int .i64 x99, .int .i64 a2.Length]))], [(17007, (((x223).map cellsOf).length, 3))], []⟩ 100083 (by kernel_rfl) (by kernel_rfl) (by kernel_rfl) ?_
            refine wl_run 3 2 ?_
            refine e_end (by kernel_rfl) ?_
            refine wl_end ?_
            refine q_next ?_
            refine pwp_seq ?_
            refine r_reg ?_
            refine p_run 3 (by kernel_rfl) ?_
            obtain ⟨r246, h232, h185⟩ := o_bind h185
            refine p_call (d_body_ahead_ok _ _ _ r246 h232) (by kernel_rfl) (by kernel_rfl) ?_
            refine e_end (by kernel_rfl) ?_
            refine q_next ?_
            refine pwp_seq ?_
            refine pwp_seq ?_
            refine r_reg ?_
            refine e_end (by kernel_rfl) ?_
            refine q_next ?_
            rcases o_cond h185 with ⟨hb, h185⟩ | ⟨hb, h185⟩
            · refine r_cond_t hb (by kernel_rfl) ?_
              refine pwp_seq ?_
              refine r_reg ?_
              refine e_end (by kernel_rfl) ?_
              refine q_next ?_
              refine pwp_ret ?_
              refine q_seq_ret ?_
              refine q_block_ret ?_
              obtain ⟨b292, h233, h185⟩ := o_bind h185
              cases h185
              refine q_lout_ret fun he => ?_
              subst he
              cases o_outr h
              refine q_block_ret ?_
              refine q_seq_ret ?_
              refine q_dend (caps := [.ref 4 0, .ref 8 0]) (by kernel_rfl) Go.Proofs.Tryd.func36 (by rfl) rfl Go.Proofs.Tryd.ntmps36 (by rfl) ?_
              refine pwp_wkr ((wkr_ren 11 (by kernel_rfl)).trans (.of (j := ⟨[(0, .ref 11004 0), (1, .ref 11008 0), (14, .ref 11008 0), (15, .int .i64 x98), (16, .bool true), (88, .fn 36 [.ref 11004 0, .ref 11008 0])], [(11004, .cells (cellsOf a0)), (11008, .cells ([lstOf (.own 11017007) (x223 : (List T_api_Step)), .int .i64 x99, .int .i64 a2.Length]))], [(11017007, (((x223).map cellsOf).length, 3))], []⟩) (n := 8300089) (by kernel_rfl) (by kernel_rfl))) ?_
              refine r_regi ?_
              refine wl_run 0 2 ?_
              refine e_end (by kernel_rfl) ?_
              refine wl_ren 13 ⟨[(1, .ref 11008 0), (2, Enc.pv a0), (3, .agg [lstOf (.own 11017007) (x223 : (List T_api_Step)), .int .i64 x99, .int .i64 a2.Length]), (14, .ref 11008 0), (15, .int .i64 x98), (16, .bool true), (88, .fn 36 [.ref 11004 0, .ref 11008 0])], [(11004, .cells (cellsOf a0)), (11008, .cells ([lstOf (.own 11017007) (x223 : (List T_api_Step)), .int .i64 x99, .int .i64 a2.Length]))], [(11017007, (((x223).map cellsOf).length, 3))], []⟩ 8300089 (by kernel_rfl) (by kernel_rfl) (by kernel_rfl) ?_
              obtain ⟨o255, h255, h233⟩ := o_bind h233
              refine p_inl (f := 37) (asx := [Enc.pv a0, .agg [lstOf (.own 11017007) (x223 : (List T_api_Step)), .int .i64 x99, .int .i64 a2.Length]]) (by kernel_rfl) Go.Proofs.Tryd.func37 (by rfl) rfl Go.Proofs.Tryd.ntmps37 (by rfl) ?_
              refine r_joinI o255 8900131 (fun x269 => ⟨[(4, lstOf (.own 11017007) (x269 : (List T_api_Step))), (43, .ref 11008 0), (56, .ref 11008 0), (57, .int .i64 x98), (58, .bool true), (130, .fn 36 [.ref 11004 0, .ref 11008 0])], [(11004, .cells (cellsOf a0)), (11008, .cells ([lstOf .frozen (x223 : (List T_api_Step)), .int .i64 x99, .int .i64 a2.Length]))], [(11017007, (((x269).map cellsOf).length, 3))], []⟩) ?_ ?_
              · refine pwp_seq ?_
                refine r_reg ?_
                refine e_end (by kernel_rfl) ?_
                refine q_next ?_
                refine pwp_seq ?_
                refine r_regd (by kernel_rfl) (by kernel_rfl) ?_
                refine p_run 4 (by kernel_rfl) ?_
                obtain ⟨r270, h256, h255⟩ := o_bind h255
                refine p_call (d_body_rearEnd_ok _ _ r270 h256) (by kernel_rfl) (by kernel_rfl) ?_
                refine e_end (by kernel_rfl) ?_
                refine q_next ?_
                refine pwp_seq ?_
                refine pwp_block ?_
                obtain ⟨o270, h270, h255⟩ := o_inl h255
                refine r_loop2 8900131 0 (fun (x277, x278) => ⟨[(2, .ref 2 0), (5, lstOf (.own 11017007) (x277 : (List T_api_Step))), (6, .int .i64 x278), (43, .ref 11008 0), (56, .ref 11008 0), (57, .int .i64 x98), (58, .bool true), (130, .fn 36 [.ref 11004 0, .ref 11008 0])], [(2, .cells (cellsOf a0)), (11004, .cells (cellsOf a0)), (11008, .cells ([lstOf .frozen (x223 : (List T_api_Step)), .int .i64 x99, .int .i64 a2.Length]))], [(11017007, (((x277).map cellsOf).length, 3))], []⟩) (fun x285 => ⟨[(5, lstOf (.own 11017007) (x285 : (List T_api_Step))), (43, .ref 11008 0), (56, .ref 11008 0), (57, .int .i64 x98), (58, .bool true), (130, .fn 36 [.ref 11004 0, .ref 11008 0])], [(11004, .cells (cellsOf a0)), (11008, .cells ([lstOf .frozen (x223 : (List T_api_Step)), .int .i64 x99, .int .i64 a2.Length]))], [(11017007, (((x285).map cellsOf).length, 3))], []⟩) h270 (by kernel_rfl) (fun _ => by kernel_rfl) ?_ ?_
                · rintro ⟨x277, x278⟩ oh269 h269
                  unfold d_body_Move_2 at h269
                  refine pwp_seq ?_
                  refine pwp_seq ?_
                  refine r_regd (by kernel_rfl) (by kernel_rfl) ?_
                  refine p_run 1 (by kernel_rfl) ?_
                  refine p_len (L := (x277 : (List T_api_Step))) (by kernel_rfl) ?_
                  obtain ⟨b286, h271, h269⟩ := o_bind h269
                  refine p_run 2 (by kernel_rfl) ?_
                  refine e_seg 12 27 (.bool b286) ?_ ?_
                  · rcases o_cond h271 with ⟨hb, h271⟩ | ⟨hb, h271⟩
                    · refine p_settle 15 hb (by kernel_rfl) (by kernel_rfl) ?_
                      refine p_run 4 (by kernel_rfl) ?_
                      obtain ⟨x287, h272, h271⟩ := o_bind h271
                      refine p_ix h272 (by kernel_rfl) ?_
                      refine p_run 2 (by kernel_rfl) ?_
                      obtain ⟨x288, h273, h271⟩ := o_bind h271
                      refine p_ix h273 (by kernel_rfl) ?_
                      cases h271
                      exact f_end (by kernel_rfl) (by kernel_rfl)
                    · refine p_settle 15 hb (by kernel_rfl) (by kernel_rfl) ?_
                      cases h271
                      exact f_end (by kernel_rfl) (by kernel_rfl)
                  · refine e_nil (by kernel_rfl) ?_
                    refine q_next ?_
                    rcases o_cond h269 with ⟨hb, h269⟩ | ⟨hb, h269⟩
                    · refine r_cond_t hb (by kernel_rfl) ?_
                      refine pwp_skip ?_
                      refine q_next ?_
                      refine pwp_block ?_
                      refine pwp_seq ?_
                      refine r_regd (by kernel_rfl) (by kernel_rfl) ?_
                      refine p_run 4 (by kernel_rfl) ?_
                      obtain ⟨x289, h274, h269⟩ := o_bind h269
                      refine p_ix h274 (by kernel_rfl) ?_
                      refine p_run 2 (by kernel_rfl) ?_
                      obtain ⟨x290, h275, h269⟩ := o_bind h269
                      refine p_ix h275 (by kernel_rfl) ?_
                      refine e_end (by kernel_rfl) ?_
                      refine q_next ?_
                      refine r_reg_w ?_
                      refine p_run 1 (by kernel_rfl) ?_
                      obtain ⟨x291, h276, h269⟩ := o_bind h269
                      refine p_slR 11017007 900040 h276 (by kernel_rfl) (by kernel_rfl) ?_
                      refine e_end (by kernel_rfl) ?_
                      refine ⟨_, wkr_swap 11017007 900040 ⟨[(2, .ref 2 0), (5, lstOf (.own 11017007) (x291 : (List T_api_Step))), (6, .int .i64 (w64 (x278 - x290.Length))), (43, .ref 11008 0), (56, .ref 11008 0), (57, .int .i64 x98), (58, .bool true), (130, .fn 36 [.ref 11004 0, .ref 11008 0])], [(2, .cells (cellsOf a0)), (11004, .cells (cellsOf a0)), (11008, .cells ([lstOf .frozen (x223 : (List T_api_Step)), .int .i64 x99, .int .i64 a2.Length]))], [(11017007, (((x291).map cellsOf).length, 3))], []⟩ 8900131 (by kernel_rfl) (by kernel_rfl) (by kernel_rfl), ?_⟩
                      refine q_block ?_
                      cases h269
                      exact q_lback (by kernel_rfl)
                    · refine r_cond_f hb (by kernel_rfl) ?_
                      refine pwp_exit ?_
                      refine q_seq_exit ?_
                      cases h269
                      exact q_lexit (by kernel_rfl) (by kernel_rfl)
                · rintro x285 s' rfl hs
                  have h255 := o_outl h255
                  refine q_block_hit ?_
                  refine q_next (pwp_wkr hs ?_)
                  refine pwp_seq ?_
                  refine r_reg ?_
                  refine e_end (by kernel_rfl) ?_
                  refine q_next ?_
                  refine pwp_ret ?_
                  cases h255
                  exact q_ij (by kernel_rfl) (by kernel_rfl)
              · generalize o255 = x269 at *
                refine q_inl (r := lstOf (.own 11017007) (x269 : (List T_api_Step))) (by kernel_rfl) ?_
                refine wl_ren 14 ⟨[(1, .ref 11008 0), (4, lstOf (.own 11017007) (x269 : (List T_api_Step))), (14, .ref 11008 0), (15, .int .i64 x98), (16, .bool true), (88, .fn 36 [.ref 11004 0, .ref 11008 0])], [(11004, .cells (cellsOf a0)), (11008, .cells ([lstOf .frozen (x223 : (List T_api_Step)), .int .i64 x99, .int .i64 a2.Length]))], [(11017007, (((x269).map cellsOf).length, 3))], []⟩ 8300089 (by kernel_rfl) (by kernel_rfl) (by kernel_rfl) ?_
                refine wl_ren 13 ⟨[(1, .ref 11008 0), (4, lstOf (.own 11017007) (x269 : (List T_api_Step))), (14, .ref 11008 0), (15, .int .i64 x98), (16, .bool true), (88, .fn 36 [.ref 11004 0, .ref 11008 0])], [(11004, .cells (cellsOf a0)), (11008, .cells ([lstOf .frozen (x223 : (List T_api_Step)), .int .i64 x99, .int .i64 a2.Length]))], [(11017007, (((x269).map cellsOf).length, 3))], []⟩ 8300089 (by kernel_rfl) (by kernel_rfl) (by kernel_rfl) ?_
                refine wl_run 3 2 ?_
                refine e_end (by kernel_rfl) ?_
                refine wl_end ?_
                cases h233
                exact q_dfin (by kernel_rfl) (by kernel_rfl) (by kernel_rfl)
            · refine r_cond_f hb (by kernel_rfl) ?_
              refine pwp_skip ?_
              refine q_next ?_
              refine pwp_seq ?_
              refine r_reg ?_
              refine p_run 4 (by kernel_rfl) ?_
              obtain ⟨x293, h277, h185⟩ := o_bind h185
              refine p_app (tk := 17007) h277 (by kernel_rfl) (by kernel_rfl) ?_
              refine e_end (by kernel_rfl) ?_
              refine q_next ?_
              refine r_reg ?_
              refine e_end (by kernel_rfl) ?_
              refine q_block ?_
              cases h185
              exact q_lback (by kernel_rfl)
      · refine r_cond_f hb (by kernel_rfl) ?_
        refine pwp_exit ?_
        refine q_seq_exit ?_
        cases h185
        exact q_lexit (by kernel_rfl) (by kernel_rfl)
    · rintro ⟨x196, x197, x198⟩ s' rfl hs
      have h := o_outl h
      refine q_block_hit ?_
      refine q_next (pwp_wkr hs ?_)
      refine pwp_seq ?_
      refine r_reg ?_
      refine e_end (by kernel_rfl) ?_
      refine q_next ?_
      refine pwp_ret ?_
      refine q_dend (caps := [.ref 4 0, .ref 8 0]) (by kernel_rfl) Go.Proofs.Tryd.func36 (by rfl) rfl Go.Proofs.Tryd.ntmps36 (by rfl) ?_
      refine pwp_wkr ((wkr_ren 15 (by kernel_rfl)).trans (.of (j := ⟨[(0, .ref 15004 0), (1, .ref 15008 0), (14, .ref 15008 0), (15, .int .i64 x196), (16, .bool false), (88, .fn 36 [.ref 15004 0, .ref 15008 0])], [(15004, .cells (cellsOf a0)), (15008, .cells ([lstOf (.own 15017007) (x197 : (List T_api_Step)), .int .i64 x198, .int .i64 a2.Length]))], [(15017007, (((x197).map cellsOf).length, 3))], []⟩) (n := 8300089) (by kernel_rfl) (by kernel_rfl))) ?_
      refine r_regi ?_
      refine wl_run 0 2 ?_
      refine e_end (by kernel_rfl) ?_
      refine wl_ren 17 ⟨[(1, .ref 15008 0), (2, Enc.pv a0), (3, .agg [lstOf (.own 15017007) (x197 : (List T_api_Step)), .int .i64 x198, .int .i64 a2.Length]), (14, .ref 15008 0), (15, .int .i64 x196), (16, .bool false), (88, .fn 36 [.ref 15004 0, .ref 15008 0])], [(15004, .cells (cellsOf a0)), (15008, .cells ([lstOf (.own 15017007) (x197 : (List T_api_Step)), .int .i64 x198, .int .i64 a2.Length]))], [(15017007, (((x197).map cellsOf).length, 3))], []⟩ 8300089 (by kernel_rfl) (by kernel_rfl) (by kernel_rfl) ?_
      obtain ⟨o299, h299, h⟩ := o_bind h
      refine p_inl (f := 37) (asx := [Enc.pv a0, .agg [lstOf (.own 15017007) (x197 : (List T_api_Step)), .int .i64 x198, .int .i64 a2.Length]]) (by kernel_rfl) Go.Proofs.Tryd.func37 (by rfl) rfl Go.Proofs.Tryd.ntmps37 (by rfl) ?_
      refine r_joinI o299 8900131 (fun x316 => ⟨[(4, lstOf (.own 15017007) (x316 : (List T_api_Step))), (43, .ref 15008 0), (56, .ref 15008 0), (57, .int .i64 x196), (58, .bool false), (130, .fn 36 [.ref 15004 0, .ref 15008 0])], [(15004, .cells (cellsOf a0)), (15008, .cells ([lstOf .frozen (x197 : (List T_api_Step)), .int .i64 x198, .int .i64 a2.Length]))], [(15017007, (((x316).map cellsOf).length, 3))], []⟩) ?_ ?_
      · refine pwp_seq ?_
        refine r_reg ?_
        refine e_end (by kernel_rfl) ?_
        refine q_next ?_
        refine pwp_seq ?_
        refine r_regd (by kernel_rfl) (by kernel_rfl) ?_
        refine p_run 4 (by kernel_rfl) ?_
        obtain ⟨r317, h300, h299⟩ := o_bind h299
        refine p_call (d_body_rearEnd_ok _ _ r317 h300) (by kernel_rfl) (by kernel_rfl) ?_
        refine e_end (by kernel_rfl) ?_
        refine q_next ?_
        refine pwp_seq ?_
        refine pwp_block ?_
        obtain ⟨o314, h314, h299⟩ := o_inl h299
        refine r_loop2 8900131 0 (fun (x324, x325) => ⟨[(2, .ref 2 0), (5, lstOf (.own 15017007) (x324 : (List T_api_Step))), (6, .int .i64 x325), (43, .ref 15008 0), (56, .ref 15008 0), (57, .int .i64 x196), (58, .bool false), (130, .fn 36 [.ref 15004 0, .ref 15008 0])], [(2, .cells (cellsOf a0)), (15004, .cells (cellsOf a0)), (15008, .cells ([lstOf .frozen (x197 : (List T_api_Step)), .int .i64 x198, .int .i64 a2.Length]))], [(15017007, (((x324).map cellsOf).length, 3))], []⟩) (fun x332 => ⟨[(5, lstOf (.own 15017007) (x332 : (List T_api_Step))), (43, .ref 15008 0), (56, .ref 15008 0), (57, .int .i64 x196), (58, .bool false), (130, .fn 36 [.ref 15004 0, .ref 15008 0])], [(15004, .cells (cellsOf a0)), (15008, .cells ([lstOf .frozen (x197 : (List T_api_Step)), .int .i64 x198, .int .i64 a2.Length]))], [(15017007, (((x332).map cellsOf).length, 3))], []⟩) h314 (by kernel_rfl) (fun _ => by kernel_rfl) ?_ ?_
        · rintro ⟨x324, x325⟩ oh313 h313
          unfold d_body_Move_3 at h313
          refine pwp_seq ?_
          refine pwp_seq ?_
          refine r_regd (by kernel_rfl) (by kernel_rfl) ?_
          refine p_run 1 (by kernel_rfl) ?_
          refine p_len (L := (x324 : (List T_api_Step))) (by kernel_rfl) ?_
          obtain ⟨b333, h315, h313⟩ := o_bind h313
          refine p_run 2 (by kernel_rfl) ?_
          refine e_seg 12 27 (.bool b333) ?_ ?_
          · rcases o_cond h315 with ⟨hb, h315⟩ | ⟨hb, h315⟩
            · refine p_settle 15 hb (by kernel_rfl) (by kernel_rfl) ?_
              refine p_run 4 (by kernel_rfl) ?_
              obtain ⟨x334, h316, h315⟩ := o_bind h315
              refine p_ix h316 (by kernel_rfl) ?_
              refine p_run 2 (by kernel_rfl) ?_
              obtain ⟨x335, h317, h315⟩ := o_bind h315
              refine p_ix h317 (by kernel_rfl) ?_
              cases h315
              exact f_end (by kernel_rfl) (by kernel_rfl)
            · refine p_settle 15 hb (by kernel_rfl) (by kernel_rfl) ?_
              cases h315
              exact f_end (by kernel_rfl) (by kernel_rfl)
          · refine e_nil (by kernel_rfl) ?_
            refine q_next ?_
            rcases o_cond h313 with ⟨hb, h313⟩ | ⟨hb, h313⟩
            · refine r_cond_t hb (by kernel_rfl) ?_
              refine pwp_skip ?_
              refine q_next ?_
              refine pwp_block ?_
              refine pwp_seq ?_
              refine r_regd (by kernel_rfl) (by kernel_rfl) ?_
              refine p_run 4 (by kernel_rfl) ?_
              obtain ⟨x336, h318, h313⟩ := o_bind h313
              refine p_ix h318 (by kernel_rfl) ?_
              refine p_run 2 (by kernel_rfl) ?_
              obtain ⟨x337, h319, h313⟩ := o_bind h313
              refine p_ix h319 (by kernel_rfl) ?_
              refine e_end (by kernel_rfl) ?_
              refine q_next ?_
              refine r_reg_w ?_
              refine p_run 1 (by kernel_rfl) ?_
              obtain ⟨x338, h320, h313⟩ := o_bind h313
              refine p_slR 15017007 900040 h320 (by kernel_rfl) (by kernel_rfl) ?_
              refine e_end (by kernel_rfl) ?_
              refine ⟨_, wkr_swap 15017007 900040 ⟨[(2, .ref 2 0), (5, lstOf (.own 15017007) (x338 : (List T_api_Step))), (6, .int .i64 (w64 (x325 - x337.Length))), (43, .ref 15008 0), (56, .ref 15008 0), (57, .int .i64 x196), (58, .bool false), (130, .fn 36 [.ref 15004 0, .ref 15008 0])], [(2, .cells (cellsOf a0)), (15004, .cells (cellsOf a0)), (15008, .cells ([lstOf .frozen (x197 : (List T_api_Step)), .int .i64 x198, .int .i64 a2.Length]))], [(15017007, (((x338).map cellsOf).length, 3))], []⟩ 8900131 (by kernel_rfl) (by kernel_rfl) (by kernel_rfl), ?_⟩
              refine q_block ?_
              cases h313
              exact q_lback (by kernel_rfl)
            · refine r_cond_f hb (by kernel_rfl) ?_
              refine pwp_exit ?_
              refine q_seq_exit ?_
              cases h313
              exact q_lexit (by kernel_rfl) (by kernel_rfl)
        · rintro x332 s' rfl hs
          have h299 := o_outl h299
          refine q_block_hit ?_
          refine q_next (pwp_wkr hs ?_)
          refine pwp_seq ?_
          refine r_reg ?_
          refine e_end (by kernel_rfl) ?_
          refine q_next ?_
          refine pwp_ret ?_
          cases h299
          exact q_ij (by kernel_rfl) (by kernel_rfl)
      · generalize o299 = x316 at *
        refine q_inl (r := lstOf (.own 15017007) (x316 : (List T_api_Step))) (by kernel_rfl) ?_
        refine wl_ren 18 ⟨[(1, .ref 15008 0), (4, lstOf (.own 15017007) (x316 : (List T_api_Step))), (14, .ref 15008 0), (15, .int .i64 x196), (16, .bool false), (88, .fn 36 [.ref 15004 0, .ref 15008 0])], [(15004, .cells (cellsOf a0)), (15008, .cells ([lstOf .frozen (x197 : (List T_api_Step)), .int .i64 x198, .int .i64 a2.Length]))], [(15017007, (((x316).map cellsOf).length, 3))], []⟩ 8300089 (by kernel_rfl) (by kernel_rfl) (by kernel_rfl) ?_
        refine wl_ren 17 ⟨[(1, .ref 15008 0), (4, lstOf (.own 15017007) (x316 : (List T_api_Step))), (14, .ref 15008 0), (15, .int .i64 x196), (16, .bool false), (88, .fn 36 [.ref 15004 0, .ref 15008 0])], [(15004, .cells (cellsOf a0)), (15008, .cells ([lstOf .frozen (x197 : (List T_api_Step)), .int .i64 x198, .int .i64 a2.Length]))], [(15017007, (((x316).map cellsOf).length, 3))], []⟩ 8300089 (by kernel_rfl) (by kernel_rfl) (by kernel_rfl) ?_
        refine wl_run 3 2 ?_
        refine e_end (by kernel_rfl) ?_
        refine wl_end ?_
        cases h
        exact q_dfin (by kernel_rfl) (by kernel_rfl) (by kernel_rfl)

/-! signallingref11.Same -/
noncomputable def d_ref11_Same_0 (a0 : T_api_Body) (a1 : T_api_Body) : Int → Option (Int ⊕ (Unit ⊕ Bool)) := fun x4 =>
  bif decide (x4 < ((a0.Steps.length : Nat) : Int)) then (
    (ixO a0.Steps x4).bind fun x7 =>
    (ixO a1.Steps x4).bind fun x8 =>
    bif (!(eq_T_api_Step x7 x8)) then (
      some (.inr (.inr false))
    ) else (
      some (.inl (w64 (x4 + 1)))
    )
  ) else (
    some (.inr (.inl ()))
  )

noncomputable def d_ref11_Same (a0 : T_api_Body) (a1 : T_api_Body) : Option Bool :=
  ((bif ((!(decide (a0.Head = a1.Head))) || (!(decide (a0.Length = a1.Length)))) then some true else (
    some (!(decide (((a0.Steps.length : Nat) : Int) = ((a1.Steps.length : Nat) : Int))))
  )) : Option Bool).bind fun b1 =>
  bif b1 then (
    some false
  ) else (
    onInl (α := Unit) (β := Bool) (loopO (d_ref11_Same_0 a0 a1) 0) fun _ =>
    some true
  )
theorem d_ref11_Same_ok (a0 : T_api_Body) (a1 : T_api_Body) (r : Bool) (h : d_ref11_Same a0 a1 = some r) : PCall Go.Proofs.Tryd.prog GlS 21 [Enc.pv a0, Enc.pv a1] (Enc.pv r) := by
  unfold d_ref11_Same at h
  refine pcall_of_pwp Go.Proofs.Tryd.func21 (by rfl) rfl Go.Proofs.Tryd.ntmps21 (by rfl) rfl ?_
  refine pwp_seq ?_
  refine r_reg ?_
  refine e_end (by kernel_rfl) ?_
  refine q_next ?_
  refine pwp_seq ?_
  refine pwp_seq ?_
  refine r_reg ?_
  refine p_run 6 (by kernel_rfl) ?_
  refine e_segb 6 17 ((!(decide (a0.Head = a1.Head))) || (!(decide (a0.Length = a1.Length)))) (fun x hx => ?_) ?_
  · rcases b_or hx with ⟨hb, hx⟩ | ⟨hb, hx⟩
    · refine p_settle 11 hb (by kernel_rfl) (by kernel_rfl) ?_
      subst hx
      exact f_end (by kernel_rfl) (by kernel_rfl)
    · refine p_settle 11 hb (by kernel_rfl) (by kernel_rfl) ?_
      subst hx
      exact f_end (by kernel_rfl) (by kernel_rfl)
  · obtain ⟨b1, h1, h⟩ := o_bind h
    refine p_run 1 (by kernel_rfl) ?_
    refine e_seg 8 26 (.bool b1) ?_ ?_
    · rcases o_cond h1 with ⟨hb, h1⟩ | ⟨hb, h1⟩
      · refine p_settle 18 hb (by kernel_rfl) (by kernel_rfl) ?_
        cases h1
        exact f_end (by kernel_rfl) (by kernel_rfl)
      · refine p_settle 18 hb (by kernel_rfl) (by kernel_rfl) ?_
        refine p_run 2 (by kernel_rfl) ?_
        refine p_len (L := (a0.Steps : (List T_api_Step))) (by kernel_rfl) ?_
        refine p_run 2 (by kernel_rfl) ?_
        refine p_len (L := (a1.Steps : (List T_api_Step))) (by kernel_rfl) ?_
        cases h1
        exact f_end (by kernel_rfl) (by kernel_rfl)
    · refine e_nil (by kernel_rfl) ?_
      refine q_next ?_
      rcases o_cond h with ⟨hb, h⟩ | ⟨hb, h⟩
      · refine r_cond_t hb (by kernel_rfl) ?_
        refine pwp_seq ?_
        refine r_reg ?_
        refine e_end (by kernel_rfl) ?_
        refine q_next ?_
        refine pwp_ret ?_
        refine q_seq_ret ?_
        cases h
        exact q_ret (by kernel_rfl) (by kernel_rfl) (by kernel_rfl)
      · refine r_cond_f hb (by kernel_rfl) ?_
        refine pwp_skip ?_
        refine q_next ?_
        refine pwp_seq ?_
        refine pwp_seq ?_
        refine r_reg ?_
        refine e_end (by kernel_rfl) ?_
        refine q_next ?_
        refine pwp_block ?_
        obtain ⟨o9, h9, h⟩ := o_inl h
        refine r_loop2 45 0 (fun x4 => ⟨[(2, .ref 2 0), (3, .ref 3 0), (5, .int .i64 x4)], [(2, .cells (cellsOf a0)), (3, .cells (cellsOf a1))], [], []⟩) (fun (_ : Unit) => ⟨[], [], [], []⟩) h9 (by kernel_rfl) (fun _ => by kernel_rfl) ?_ ?_
        · rintro x4 oh8 h8
          unfold d_ref11_Same_0 at h8
          refine pwp_seq ?_
          refine pwp_seq ?_
          refine r_reg ?_
          refine p_run 3 (by kernel_rfl) ?_
          refine p_len (L := (a0.Steps : (List T_api_Step))) (by kernel_rfl) ?_
          refine e_end (by kernel_rfl) ?_
          refine q_next ?_
          rcases o_cond h8 with ⟨hb, h8⟩ | ⟨hb, h8⟩
          · refine r_cond_t hb (by kernel_rfl) ?_
            refine pwp_skip ?_
            refine q_next ?_
            refine pwp_seq ?_
            refine pwp_block ?_
            refine pwp_seq ?_
            refine r_regd (by kernel_rfl) (by kernel_rfl) ?_
            refine p_run 3 (by kernel_rfl) ?_
            obtain ⟨x7, h10, h8⟩ := o_bind h8
            refine p_ix h10 (by kernel_rfl) ?_
            refine p_run 4 (by kernel_rfl) ?_
            obtain ⟨x8, h11, h8⟩ := o_bind h8
            refine p_ix h11 (by kernel_rfl) ?_
            refine e_end (by kernel_rfl) ?_
            refine q_next ?_
            rcases o_cond h8 with ⟨hb, h8⟩ | ⟨hb, h8⟩
            · refine r_cond_t hb (by kernel_rfl) ?_
              refine pwp_seq ?_
              refine r_reg ?_
              refine e_end (by kernel_rfl) ?_
              refine q_next ?_
              refine pwp_ret ?_
              refine q_block_ret ?_
              refine q_seq_ret ?_
              cases h8
              refine q_lout_ret fun he => ?_
              subst he
              have h12 := o_outr h
              refine q_block_ret ?_
              refine q_seq_ret ?_
              cases h12
              exact q_ret (by kernel_rfl) (by kernel_rfl) (by kernel_rfl)
            · refine r_cond_f hb (by kernel_rfl) ?_
              refine pwp_skip ?_
              refine q_block ?_
              refine q_next ?_
              refine r_reg ?_
              refine e_end (by kernel_rfl) ?_
              cases h8
              exact q_lback (by kernel_rfl)
          · refine r_cond_f hb (by kernel_rfl) ?_
            refine pwp_exit ?_
            refine q_seq_exit ?_
            cases h8
            exact q_lexit (by kernel_rfl) (by kernel_rfl)
        · rintro _ s' rfl hs
          have h := o_outl h
          refine q_block_hit ?_
          refine q_next (pwp_wkr hs ?_)
          refine pwp_seq ?_
          refine r_reg ?_
          refine e_end (by kernel_rfl) ?_
          refine q_next ?_
          refine pwp_ret ?_
          cases h
          exact q_ret (by kernel_rfl) (by kernel_rfl) (by kernel_rfl)

/-! walk.Sections -/
noncomputable def d_walk_Sections_0 (a0 : T_api_Layout) (a1 : (List T_api_Step)) : (Int × (List (Int × Bool)) × (List Int)) → Option ((Int × (List (Int × Bool)) × (List Int)) ⊕ ((List Int) ⊕ (List Int))) := fun (x23, x24, x25) =>
  bif decide (x23 < ((a1.length : Nat) : Int)) then (
    onInl (α := ((List Int) × (List (Int × Bool)))) (β := ((Int × (List (Int × Bool)) × (List Int)) ⊕ ((List Int) ⊕ (List Int)))) (
      (ixO a1 x23).bind fun x43 =>
      (d_walk_exists a0 x43.El).bind fun r44 =>
      bif (!r44) then (
        some (.inl (x25, x24))
      ) else (
        (ixO a0.Elements x43.El).bind fun x45 =>
        bif (!((mget (x24 : (List (Int × Bool))) x45.Section).getD false)) then (
          (appO x25 [x45.Section]).bind fun x46 =>
          some (.inl (x46, (mset x45.Section true x24)))
        ) else (
          some (.inl (x25, x24))
        )
      )
    ) fun (x41, x42) =>
    some (.inl (w64 (x23 + 1), x42, x41))
  ) else (
    some (.inr (.inl x25))
  )

noncomputable def d_walk_Sections (a0 : T_api_Layout) (a1 : (List T_api_Step)) : Option (List Int) :=
  onInl (α := (List Int)) (β := (List Int)) (loopO (d_walk_Sections_0 a0 a1) (0, ([] : (List (Int × Bool))), ([] : (List Int)))) fun x36 =>
  some x36
theorem d_walk_Sections_ok (a0 : T_api_Layout) (a1 : (List T_api_Step)) (r : (List Int)) (h : d_walk_Sections a0 a1 = some r) : PCall Go.Proofs.Tryd.prog GlS 31 [Enc.pv a0, Enc.pv a1] (lstOf (.own 100005) r) := by
  unfold d_walk_Sections at h
  refine pcall_of_pwp Go.Proofs.Tryd.func31 (by rfl) rfl Go.Proofs.Tryd.ntmps31 (by rfl) rfl ?_
  refine pwp_seq ?_
  refine r_reg ?_
  refine e_end (by kernel_rfl) ?_
  refine q_next ?_
  refine pwp_seq ?_
  refine r_reg ?_
  refine e_end (by kernel_rfl) ?_
  refine q_next ?_
  refine pwp_seq ?_
  refine r_reg ?_
  refine e_end (by kernel_rfl) ?_
  refine q_next ?_
  refine pwp_seq ?_
  refine pwp_seq ?_
  refine r_reg ?_
  refine p_run 1 (by kernel_rfl) ?_
  refine p_len (L := (a1 : (List T_api_Step))) (by kernel_rfl) ?_
  refine e_end (by kernel_rfl) ?_
  refine q_next ?_
  refine pwp_block ?_
  refine g_nil 5 100005 1 8 (by kernel_rfl) (by kernel_rfl) ?_
  obtain ⟨o29, h29, h⟩ := o_inl h
  refine r_loop2 41 0 (fun (x23, x24, x25) => ⟨[(2, .ref 2 0), (5, lstOf (.own 100005) (x25 : (List Int))), (6, .mp 10), (11, lstOf .frozen (a1 : (List T_api_Step))), (12, .int .i64 ((a1.length : Nat) : Int)), (13, .int .i64 x23)], [(2, .cells (cellsOf a0)), (10, .map (mpOf (x24 : (List (Int × Bool)))))], [(100005, (((x25).map cellsOf).length, 1))], []⟩) (fun x36 => ⟨[(5, lstOf (.own 100005) (x36 : (List Int)))], [], [(100005, (((x36).map cellsOf).length, 1))], []⟩) h29 (by kernel_rfl) (fun _ => by kernel_rfl) ?_ ?_
  · rintro ⟨x23, x24, x25⟩ oh28 h28
    unfold d_walk_Sections_0 at h28
    refine pwp_seq ?_
    refine r_reg ?_
    refine e_end (by kernel_rfl) ?_
    refine q_next ?_
    refine pwp_seq ?_
    rcases o_cond h28 with ⟨hb, h28⟩ | ⟨hb, h28⟩
    · refine r_cond_t hb (by kernel_rfl) ?_
      refine pwp_skip ?_
      refine q_next ?_
      obtain ⟨o34, h34, h28⟩ := o_inl h28
      refine r_join (o := o34) 41 (fun (x41, x42) => ⟨[(2, .ref 2 0), (5, lstOf (.own 100005) (x41 : (List Int))), (6, .mp 10), (11, lstOf .frozen (a1 : (List T_api_Step))), (12, .int .i64 ((a1.length : Nat) : Int)), (13, .int .i64 x23)], [(2, .cells (cellsOf a0)), (10, .map (mpOf (x42 : (List (Int × Bool)))))], [(100005, (((x41).map cellsOf).length, 1))], []⟩) ?_ ?_
      · refine pwp_block ?_
        refine pwp_seq ?_
        refine r_reg ?_
        obtain ⟨x43, h35, h34⟩ := o_bind h34
        refine p_ix h35 (by kernel_rfl) ?_
        refine e_end (by kernel_rfl) ?_
        refine q_next ?_
        refine pwp_seq ?_
        refine pwp_seq ?_
        refine r_reg ?_
        refine p_run 3 (by kernel_rfl) ?_
        obtain ⟨r44, h36, h34⟩ := o_bind h34
        refine p_call (d_walk_exists_ok _ _ r44 h36) (by kernel_rfl) (by kernel_rfl) ?_
        refine e_end (by kernel_rfl) ?_
        refine q_next ?_
        rcases o_cond h34 with ⟨hb, h34⟩ | ⟨hb, h34⟩
        · refine r_cond_t hb (by kernel_rfl) ?_
          refine pwp_exit ?_
          refine q_seq_exit ?_
          refine q_block_hit ?_
          cases h34
          exact q_join (by kernel_rfl) (by kernel_rfl)
        · refine r_cond_f hb (by kernel_rfl) ?_
          refine pwp_skip ?_
          refine q_next ?_
          refine pwp_seq ?_
          refine r_reg ?_
          refine p_run 4 (by kernel_rfl) ?_
          obtain ⟨x45, h37, h34⟩ := o_bind h34
          refine p_ix h37 (by kernel_rfl) ?_
          refine e_end (by kernel_rfl) ?_
          refine q_next ?_
          refine pwp_seq ?_
          refine r_reg ?_
          refine p_run 2 (by kernel_rfl) ?_
          refine p_lookup (m := (x24 : (List (Int × Bool)))) (k := x45.Section) false 10 (by kernel_rfl) (by kernel_rfl) ?_
          refine e_end (by kernel_rfl) ?_
          refine q_next ?_
          rcases o_cond h34 with ⟨hb, h34⟩ | ⟨hb, h34⟩
          · refine r_cond_t hb (by kernel_rfl) ?_
            refine pwp_seq ?_
            refine r_reg ?_
            refine p_run 2 (by kernel_rfl) ?_
            refine p_mset (m := (x24 : (List (Int × Bool)))) (k := x45.Section) (v := true) 10 (by kernel_rfl) (by kernel_rfl) (by kernel_rfl) ?_
            refine e_nil (by kernel_rfl) ?_
            refine q_next ?_
            refine r_reg ?_
            refine p_run 3 (by kernel_rfl) ?_
            obtain ⟨x46, h38, h34⟩ := o_bind h34
            refine p_app (tk := 100005) h38 (by kernel_rfl) (by kernel_rfl) ?_
            refine e_end (by kernel_rfl) ?_
            refine q_block ?_
            cases h34
            exact q_join (by kernel_rfl) (by kernel_rfl)
          · refine r_cond_f hb (by kernel_rfl) ?_
            refine pwp_skip ?_
            refine q_block ?_
            cases h34
            exact q_join (by kernel_rfl) (by kernel_rfl)
      · rintro ⟨x41, x42⟩ rfl
        have h28 := o_outl h28
        refine r_reg ?_
        refine e_end (by kernel_rfl) ?_
        cases h28
        exact q_lback (by kernel_rfl)
    · refine r_cond_f hb (by kernel_rfl) ?_
      refine pwp_exit ?_
      refine q_seq_exit ?_
      cases h28
      exact q_lexit (by kernel_rfl) (by kernel_rfl)
  · rintro x36 s' rfl hs
    have h := o_outl h
    refine q_block_hit ?_
    refine q_next (pwp_wkr hs ?_)
    refine pwp_seq ?_
    refine r_reg ?_
    refine e_end (by kernel_rfl) ?_
    refine q_next ?_
    refine pwp_ret ?_
    cases h
    exact q_ret (by kernel_rfl) (by kernel_rfl) (by kernel_rfl)
theorem d_walk_Sections_fz (a0 : T_api_Layout) (a1 : (List T_api_Step)) (r : (List Int)) (h : d_walk_Sections a0 a1 = some r) : PCall Go.Proofs.Tryd.prog GlS 31 [Enc.pv a0, Enc.pv a1] (Enc.pv r) :=
  (d_walk_Sections_ok a0 a1 r h).freeze (by kernel_rfl) (by kernel_rfl) (by kernel_rfl)

/-! walk.Sections -/
noncomputable def d_walk_Sections_X_0 (a0 : T_api_Layout) (a1 : (List T_api_Step)) : (Int × (List (Int × Bool)) × (List Int)) → Option ((Int × (List (Int × Bool)) × (List Int)) ⊕ ((List Int) ⊕ (List Int))) := fun (x23, x24, x25) =>
  bif decide (x23 < ((a1.length : Nat) : Int)) then (
    onInl (α := ((List Int) × (List (Int × Bool)))) (β := ((Int × (List (Int × Bool)) × (List Int)) ⊕ ((List Int) ⊕ (List Int)))) (
      (ixO a1 x23).bind fun x43 =>
      (d_walk_exists a0 x43.El).bind fun r44 =>
      bif (!r44) then (
        some (.inl (x25, x24))
      ) else (
        (ixO a0.Elements x43.El).bind fun x45 =>
        bif (!((mget (x24 : (List (Int × Bool))) x45.Section).getD false)) then (
          (appO x25 [x45.Section]).bind fun x46 =>
          some (.inl (x46, (mset x45.Section true x24)))
        ) else (
          some (.inl (x25, x24))
        )
      )
    ) fun (x41, x42) =>
    some (.inl (w64 (x23 + 1), x42, x41))
  ) else (
    some (.inr (.inl x25))
  )

noncomputable def d_walk_Sections_X (a0 : T_api_Layout) (a1 : (List T_api_Step)) : Option (List Int) :=
  onInl (α := (List Int)) (β := (List Int)) (loopO (d_walk_Sections_X_0 a0 a1) (0, ([] : (List (Int × Bool))), ([] : (List Int)))) fun x36 =>
  some x36
theorem d_walk_Sections_X_x (a0 : T_api_Layout) (a1 : (List T_api_Step)) (r : (List Int)) (h : d_walk_Sections_X a0 a1 = some r) : PCallX Go.Proofs.Tryd.prog GlS 31 [Enc.pv a0, Enc.pv a1] 1 8 (r.map cellsOf) := by
  unfold d_walk_Sections_X at h
  refine pcallx_of_pwp Go.Proofs.Tryd.func31 (by rfl) rfl Go.Proofs.Tryd.ntmps31 (by rfl) rfl ?_
  refine pwp_seq ?_
  refine r_reg ?_
  refine e_end (by kernel_rfl) ?_
  refine q_next ?_
  refine pwp_seq ?_
  refine r_reg ?_
  refine e_end (by kernel_rfl) ?_
  refine q_next ?_
  refine pwp_seq ?_
  refine r_reg ?_
  refine e_end (by kernel_rfl) ?_
  refine q_next ?_
  refine pwp_seq ?_
  refine pwp_seq ?_
  refine r_reg ?_
  refine p_run 1 (by kernel_rfl) ?_
  refine p_len (L := (a1 : (List T_api_Step))) (by kernel_rfl) ?_
  refine e_end (by kernel_rfl) ?_
  refine q_next ?_
  refine pwp_block ?_
  refine pwp_wkr (wkr_nilX 5 100005 1 8 (by kernel_rfl) (by kernel_rfl)) ?_
  obtain ⟨o29, h29, h⟩ := o_inl h
  refine r_loop2 41 0 (fun (x23, x24, x25) => ⟨[(2, .ref 2 0), (5, .ex 100005 1 8 (((x25 : (List Int)).map cellsOf).length) 0 (((x25 : (List Int)).map cellsOf).length)), (6, .mp 10), (11, lstOf .frozen (a1 : (List T_api_Step))), (12, .int .i64 ((a1.length : Nat) : Int)), (13, .int .i64 x23)], [(2, .cells (cellsOf a0)), (10, .map (mpOf (x24 : (List (Int × Bool)))))], [(100005, (((x25 : (List Int)).map cellsOf).length, 0))], [(100005, (1, (8, (x25 : (List Int)).map cellsOf)))]⟩) (fun x36 => ⟨[(5, .ex 100005 1 8 (((x36 : (List Int)).map cellsOf).length) 0 (((x36 : (List Int)).map cellsOf).length))], [], [(100005, (((x36 : (List Int)).map cellsOf).length, 0))], [(100005, (1, (8, (x36 : (List Int)).map cellsOf)))]⟩) h29 (by kernel_rfl) (fun _ => by kernel_rfl) ?_ ?_
  · rintro ⟨x23, x24, x25⟩ oh28 h28
    unfold d_walk_Sections_X_0 at h28
    refine pwp_seq ?_
    refine r_reg ?_
    refine e_end (by kernel_rfl) ?_
    refine q_next ?_
    refine pwp_seq ?_
    rcases o_cond h28 with ⟨hb, h28⟩ | ⟨hb, h28⟩
    · refine r_cond_t hb (by kernel_rfl) ?_
      refine pwp_skip ?_
      refine q_next ?_
      obtain ⟨o34, h34, h28⟩ := o_inl h28
      refine r_join (o := o34) 41 (fun (x41, x42) => ⟨[(2, .ref 2 0), (5, .ex 100005 1 8 (((x41 : (List Int)).map cellsOf).length) 0 (((x41 : (List Int)).map cellsOf).length)), (6, .mp 10), (11, lstOf .frozen (a1 : (List T_api_Step))), (12, .int .i64 ((a1.length : Nat) : Int)), (13, .int .i64 x23)], [(2, .cells (cellsOf a0)), (10, .map (mpOf (x42 : (List (Int × Bool)))))], [(100005, (((x41 : (List Int)).map cellsOf).length, 0))], [(100005, (1, (8, (x41 : (List Int)).map cellsOf)))]⟩) ?_ ?_
      · refine pwp_block ?_
        refine pwp_seq ?_
        refine r_reg ?_
        obtain ⟨x43, h35, h34⟩ := o_bind h34
        refine p_ix h35 (by kernel_rfl) ?_
        refine e_end (by kernel_rfl) ?_
        refine q_next ?_
        refine pwp_seq ?_
        refine pwp_seq ?_
        refine r_reg ?_
        refine p_run 3 (by kernel_rfl) ?_
        obtain ⟨r44, h36, h34⟩ := o_bind h34
        refine p_call (d_walk_exists_ok _ _ r44 h36) (by kernel_rfl) (by kernel_rfl) ?_
        refine e_end (by kernel_rfl) ?_
        refine q_next ?_
        rcases o_cond h34 with ⟨hb, h34⟩ | ⟨hb, h34⟩
        · refine r_cond_t hb (by kernel_rfl) ?_
          refine pwp_exit ?_
          refine q_seq_exit ?_
          refine q_block_hit ?_
          cases h34
          exact q_join (by kernel_rfl) (by kernel_rfl)
        · refine r_cond_f hb (by kernel_rfl) ?_
          refine pwp_skip ?_
          refine q_next ?_
          refine pwp_seq ?_
          refine r_reg ?_
          refine p_run 4 (by kernel_rfl) ?_
          obtain ⟨x45, h37, h34⟩ := o_bind h34
          refine p_ix h37 (by kernel_rfl) ?_
          refine e_end (by kernel_rfl) ?_
          refine q_next ?_
          refine pwp_seq ?_
          refine r_reg ?_
          refine p_run 2 (by kernel_rfl) ?_
          refine p_lookup (m := (x24 : (List (Int × Bool)))) (k := x45.Section) false 10 (by kernel_rfl) (by kernel_rfl) ?_
          refine e_end (by kernel_rfl) ?_
          refine q_next ?_
          rcases o_cond h34 with ⟨hb, h34⟩ | ⟨hb, h34⟩
          · refine r_cond_t hb (by kernel_rfl) ?_
            refine pwp_seq ?_
            refine r_reg ?_
            refine p_run 2 (by kernel_rfl) ?_
            refine p_mset (m := (x24 : (List (Int × Bool)))) (k := x45.Section) (v := true) 10 (by kernel_rfl) (by kernel_rfl) (by kernel_rfl) ?_
            refine e_nil (by kernel_rfl) ?_
            refine q_next ?_
            refine r_reg ?_
            refine p_run 3 (by kernel_rfl) ?_
            obtain ⟨x46, h38, h34⟩ := o_bind h34
            refine p_xapp (tk := 100005) (N := ((x25 : (List Int)).map cellsOf).length) h38 (by kernel_rfl) (by kernel_rfl) (by kernel_rfl) ?_
            refine e_end (by kernel_rfl) ?_
            refine q_block ?_
            cases h34
            exact q_join (by kernel_rfl) (by kernel_rfl)
          · refine r_cond_f hb (by kernel_rfl) ?_
            refine pwp_skip ?_
            refine q_block ?_
            cases h34
            exact q_join (by kernel_rfl) (by kernel_rfl)
      · rintro ⟨x41, x42⟩ rfl
        have h28 := o_outl h28
        refine r_reg ?_
        refine e_end (by kernel_rfl) ?_
        cases h28
        exact q_lback (by kernel_rfl)
    · refine r_cond_f hb (by kernel_rfl) ?_
      refine pwp_exit ?_
      refine q_seq_exit ?_
      cases h28
      exact q_lexit (by kernel_rfl) (by kernel_rfl)
  · rintro x36 s' rfl hs
    have h := o_outl h
    refine q_block_hit ?_
    refine q_next (pwp_wkr hs ?_)
    refine pwp_seq ?_
    refine r_reg ?_
    refine e_end (by kernel_rfl) ?_
    refine q_next ?_
    refine pwp_ret ?_
    have hq := Option.some.inj h
    subst hq
    exact q_xres 100005 (((x36 : (List Int)).map cellsOf).length) (by kernel_rfl)

/-! slices.Sort[[]int,int] (the shelf's contract) -/
noncomputable def d_slices_Sort_int (a0 : (List Int)) : Option (List Int) := some (a0.mergeSort fun x y => decide (x ≤ y))
theorem d_slices_Sort_int_xc (a0 : (List Int)) (r : (List Int)) (h : d_slices_Sort_int a0 = some r) : XCall Go.Proofs.Tryd.prog GlS 32 1 8 (a0.map cellsOf) [] none (r.map cellsOf) := by
  cases h
  exact xcall_sortI Go.Proofs.Tryd.sort32 ⟨_, Go.Proofs.Tryd.func32, rfl, rfl⟩ a0

/-! body.Sections -/
noncomputable def d_body_Sections (a0 : T_api_Layout) (a1 : T_api_Body) : Option (List Int) :=
  (d_walk_Sections_X a0 a1.Steps).bind fun r1 =>
  (d_slices_Sort_int r1).bind fun r2 =>
  some r2
theorem d_body_Sections_ok (a0 : T_api_Layout) (a1 : T_api_Body) (r : (List Int)) (h : d_body_Sections a0 a1 = some r) : PCall Go.Proofs.Tryd.prog GlS 17 [Enc.pv a0, Enc.pv a1] (Enc.pv r) := by
  unfold d_body_Sections at h
  refine pcall_of_pwp Go.Proofs.Tryd.func17 (by rfl) rfl Go.Proofs.Tryd.ntmps17 (by rfl) rfl ?_
  refine pwp_seq ?_
  refine r_reg ?_
  refine e_end (by kernel_rfl) ?_
  refine q_next ?_
  refine pwp_seq ?_
  refine r_reg ?_
  refine p_run 3 (by kernel_rfl) ?_
  obtain ⟨r1, h1, h⟩ := o_bind h
  refine p_callx (α := Int) 9 (d_walk_Sections_X_x _ _ r1 h1) (by kernel_rfl) (by kernel_rfl) ?_
  refine e_end (by kernel_rfl) ?_
  refine q_next ?_
  refine pwp_seq ?_
  refine r_reg ?_
  refine p_run 1 (by kernel_rfl) ?_
  obtain ⟨r2, h2, h⟩ := o_bind h
  refine p_xcall (t := 9) (L := (r1 : (List Int))) (L' := (r2 : (List Int))) (N := ((r1 : (List Int)).map cellsOf).length) (by kernel_rfl) (by kernel_rfl) (by kernel_rfl) (d_slices_Sort_int_xc _ r2 h2) ?_
  refine e_nil (by kernel_rfl) ?_
  refine q_next ?_
  refine pwp_seq ?_
  refine r_reg ?_
  refine e_end (by kernel_rfl) ?_
  refine q_next ?_
  refine pwp_wkr (wkr_share (xss := (r2 : (List Int)).map cellsOf) 9 1 8 (((r1 : (List Int)).map cellsOf).length) [4, 5, 9, 10, 12] [] (by kernel_rfl) (by kernel_rfl) (by kernel_rfl) (by kernel_rfl)) ?_
  refine pwp_ret ?_
  cases h
  exact q_ret (by kernel_rfl) (by kernel_rfl) (by kernel_rfl)

/-! signallingref02.Same -/
noncomputable def d_ref02_Same_0 (a0 : (List Int)) (a1 : (List Int)) : Int → Option (Int ⊕ (Unit ⊕ Bool)) := fun x3 =>
  bif decide (x3 < ((a0.length : Nat) : Int)) then (
    (ixO a0 x3).bind fun x6 =>
    (ixO a1 x3).bind fun x7 =>
    bif (!(decide (x6 = x7))) then (
      some (.inr (.inr false))
    ) else (
      some (.inl (w64 (x3 + 1)))
    )
  ) else (
    some (.inr (.inl ()))
  )

noncomputable def d_ref02_Same (a0 : (List Int)) (a1 : (List Int)) : Option Bool :=
  bif (!(decide (((a0.length : Nat) : Int) = ((a1.length : Nat) : Int)))) then (
    some false
  ) else (
    onInl (α := Unit) (β := Bool) (loopO (d_ref02_Same_0 a0 a1) 0) fun _ =>
    some true
  )
theorem d_ref02_Same_ok (a0 : (List Int)) (a1 : (List Int)) (r : Bool) (h : d_ref02_Same a0 a1 = some r) : PCall Go.Proofs.Tryd.prog GlS 16 [Enc.pv a0, Enc.pv a1] (Enc.pv r) := by
  unfold d_ref02_Same at h
  refine pcall_of_pwp Go.Proofs.Tryd.func16 (by rfl) rfl Go.Proofs.Tryd.ntmps16 (by rfl) rfl ?_
  refine pwp_seq ?_
  refine r_reg ?_
  refine e_end (by kernel_rfl) ?_
  refine q_next ?_
  refine pwp_seq ?_
  refine pwp_seq ?_
  refine r_reg ?_
  refine p_run 1 (by kernel_rfl) ?_
  refine p_len (L := (a0 : (List Int))) (by kernel_rfl) ?_
  refine p_run 1 (by kernel_rfl) ?_
  refine p_len (L := (a1 : (List Int))) (by kernel_rfl) ?_
  refine e_end (by kernel_rfl) ?_
  refine q_next ?_
  rcases o_cond h with ⟨hb, h⟩ | ⟨hb, h⟩
  · refine r_cond_t hb (by kernel_rfl) ?_
    refine pwp_seq ?_
    refine r_reg ?_
    refine e_end (by kernel_rfl) ?_
    refine q_next ?_
    refine pwp_ret ?_
    refine q_seq_ret ?_
    cases h
    exact q_ret (by kernel_rfl) (by kernel_rfl) (by kernel_rfl)
  · refine r_cond_f hb (by kernel_rfl) ?_
    refine pwp_skip ?_
    refine q_next ?_
    refine pwp_seq ?_
    refine pwp_seq ?_
    refine r_reg ?_
    refine e_end (by kernel_rfl) ?_
    refine q_next ?_
    refine pwp_block ?_
    obtain ⟨o8, h8, h⟩ := o_inl h
    refine r_loop2 26 0 (fun x3 => ⟨[(0, lstOf .frozen (a0 : (List Int))), (1, lstOf .frozen (a1 : (List Int))), (5, .int .i64 x3)], [], [], []⟩) (fun (_ : Unit) => ⟨[], [], [], []⟩) h8 (by kernel_rfl) (fun _ => by kernel_rfl) ?_ ?_
    · rintro x3 oh7 h7
      unfold d_ref02_Same_0 at h7
      refine pwp_seq ?_
      refine pwp_seq ?_
      refine r_reg ?_
      refine p_run 2 (by kernel_rfl) ?_
      refine p_len (L := (a0 : (List Int))) (by kernel_rfl) ?_
      refine e_end (by kernel_rfl) ?_
      refine q_next ?_
      rcases o_cond h7 with ⟨hb, h7⟩ | ⟨hb, h7⟩
      · refine r_cond_t hb (by kernel_rfl) ?_
        refine pwp_skip ?_
        refine q_next ?_
        refine pwp_seq ?_
        refine pwp_block ?_
        refine pwp_seq ?_
        refine r_regd (by kernel_rfl) (by kernel_rfl) ?_
        refine p_run 2 (by kernel_rfl) ?_
        obtain ⟨x6, h9, h7⟩ := o_bind h7
        refine p_ix h9 (by kernel_rfl) ?_
        refine p_run 3 (by kernel_rfl) ?_
        obtain ⟨x7, h10, h7⟩ := o_bind h7
        refine p_ix h10 (by kernel_rfl) ?_
        refine e_end (by kernel_rfl) ?_
        refine q_next ?_
        rcases o_cond h7 with ⟨hb, h7⟩ | ⟨hb, h7⟩
        · refine r_cond_t hb (by kernel_rfl) ?_
          refine pwp_seq ?_
          refine r_reg ?_
          refine e_end (by kernel_rfl) ?_
          refine q_next ?_
          refine pwp_ret ?_
          refine q_block_ret ?_
          refine q_seq_ret ?_
          cases h7
          refine q_lout_ret fun he => ?_
          subst he
          have h11 := o_outr h
          refine q_block_ret ?_
          refine q_seq_ret ?_
          cases h11
          exact q_ret (by kernel_rfl) (by kernel_rfl) (by kernel_rfl)
        · refine r_cond_f hb (by kernel_rfl) ?_
          refine pwp_skip ?_
          refine q_block ?_
          refine q_next ?_
          refine r_reg ?_
          refine e_end (by kernel_rfl) ?_
          cases h7
          exact q_lback (by kernel_rfl)
      · refine r_cond_f hb (by kernel_rfl) ?_
        refine pwp_exit ?_
        refine q_seq_exit ?_
        cases h7
        exact q_lexit (by kernel_rfl) (by kernel_rfl)
    · rintro _ s' rfl hs
      have h := o_outl h
      refine q_block_hit ?_
      refine q_next (pwp_wkr hs ?_)
      refine pwp_seq ?_
      refine r_reg ?_
      refine e_end (by kernel_rfl) ?_
      refine q_next ?_
      refine pwp_ret ?_
      cases h
      exact q_ret (by kernel_rfl) (by kernel_rfl) (by kernel_rfl)

/-! signallinglaw11.alive -/
noncomputable def d_law11_alive : Option Bool :=
  (d_law11_over [0]).bind fun r1 =>
  (d_law11_line ).bind fun r2 =>
  (d_body_Rear r2 (T_api_Body.mk r1 15000 5000)).bind fun r3 =>
  (d_law11_line ).bind fun r4 =>
  (d_body_Move r4 ([] : (List Int)) (T_api_Body.mk r1 15000 5000) 7000).bind fun r5 =>
  (d_law11_line ).bind fun r6 =>
  (d_body_Move r6 ([] : (List Int)) r5.1 3000).bind fun r7 =>
  (d_law11_line ).bind fun r8 =>
  (d_body_Move r8 ([] : (List Int)) r7.1 60000).bind fun r9 =>
  bif ((((((((!(decide (r3.1 = 0))) || (!(decide (r3.2 = 10000)))) || (!(decide (r5.2.1 = 7000)))) || r5.2.2) || (!(decide (r7.2.1 = 3000)))) || r7.2.2) || (!(decide (r9.2.1 = 35000)))) || (!r9.2.2)) then (
    some false
  ) else (
    (d_body_Covers r5.1 1).bind fun r10 =>
    (d_law11_over [0, 1]).bind fun r11 =>
    (d_ref11_Same r5.1 (T_api_Body.mk r11 2000 5000)).bind fun r12 =>
    ((bif r12 then (
      (d_law11_over [1]).bind fun r14 =>
      (d_ref11_Same r7.1 (T_api_Body.mk r14 5000 5000)).bind fun r15 =>
      some r15
    ) else some false) : Option Bool).bind fun b13 =>
    ((bif b13 then (
      (d_law11_line ).bind fun r17 =>
      (d_body_Check r17 (T_api_Body.mk r1 15000 5000)).bind fun r18 =>
      some (decide (r18 = 0))
    ) else some false) : Option Bool).bind fun b16 =>
    ((bif b16 then (
      (d_law11_line ).bind fun r20 =>
      (d_law11_over [0, 1]).bind fun r21 =>
      (d_body_Check r20 (T_api_Body.mk r21 5000 5000)).bind fun r22 =>
      some (decide (r22 = 10))
    ) else some false) : Option Bool).bind fun b19 =>
    ((bif b19 then (
      (d_law11_line ).bind fun r24 =>
      (d_body_Sections r24 r5.1).bind fun r25 =>
      (d_ref02_Same r25 [0, 1]).bind fun r26 =>
      some r26
    ) else some false) : Option Bool).bind fun b23 =>
    ((bif (b23 && r10.2) then (
      (d_law11_over [1]).bind fun r28 =>
      (ixO r28 0).bind fun x29 =>
      some (eq_T_api_Step r10.1 x29)
    ) else some false) : Option Bool).bind fun b27 =>
    some b27
  )
theorem d_law11_alive_ok (r : Bool) (h : d_law11_alive = some r) : PCall Go.Proofs.Tryd.prog GlS 9 [] (Enc.pv r) := by
  unfold d_law11_alive at h
  refine pcall_of_pwp Go.Proofs.Tryd.func9 (by rfl) rfl Go.Proofs.Tryd.ntmps9 (by rfl) rfl ?_
  refine pwp_seq ?_
  refine r_reg ?_
  refine e_end (by kernel_rfl) ?_
  refine q_next ?_
  refine pwp_seq ?_
  refine r_reg ?_
  refine p_run 1 (by kernel_rfl) ?_
  obtain ⟨r1, h1, h⟩ := o_bind h
  refine p_call (d_law11_over_ok _ r1 h1) (by kernel_rfl) (by kernel_rfl) ?_
  refine e_end (by kernel_rfl) ?_
  refine q_next ?_
  refine pwp_seq ?_
  refine r_regd (by kernel_rfl) (by kernel_rfl) ?_
  obtain ⟨r2, h2, h⟩ := o_bind h
  refine p_call (d_law11_line_ok  r2 h2) (by kernel_rfl) (by kernel_rfl) ?_
  refine p_run 1 (by kernel_rfl) ?_
  obtain ⟨r3, h3, h⟩ := o_bind h
  refine p_call (d_body_Rear_ok _ _ r3 h3) (by kernel_rfl) (by kernel_rfl) ?_
  refine e_end (by kernel_rfl) ?_
  refine q_next ?_
  refine pwp_seq ?_
  refine r_regd (by kernel_rfl) (by kernel_rfl) ?_
  obtain ⟨r4, h4, h⟩ := o_bind h
  refine p_call (d_law11_line_ok  r4 h4) (by kernel_rfl) (by kernel_rfl) ?_
  refine p_run 1 (by kernel_rfl) ?_
  obtain ⟨r5, h5, h⟩ := o_bind h
  refine p_call (d_body_Move_ok _ _ _ _ r5 h5) (by kernel_rfl) (by kernel_rfl) ?_
  refine e_end (by kernel_rfl) ?_
  refine q_next ?_
  refine pwp_seq ?_
  refine r_regd (by kernel_rfl) (by kernel_rfl) ?_
  obtain ⟨r6, h6, h⟩ := o_bind h
  refine p_call (d_law11_line_ok  r6 h6) (by kernel_rfl) (by kernel_rfl) ?_
  refine p_run 1 (by kernel_rfl) ?_
  obtain ⟨r7, h7, h⟩ := o_bind h
  refine p_call (d_body_Move_ok _ _ _ _ r7 h7) (by kernel_rfl) (by kernel_rfl) ?_
  refine e_end (by kernel_rfl) ?_
  refine q_next ?_
  refine pwp_seq ?_
  refine r_regd (by kernel_rfl) (by kernel_rfl) ?_
  obtain ⟨r8, h8, h⟩ := o_bind h
  refine p_call (d_law11_line_ok  r8 h8) (by kernel_rfl) (by kernel_rfl) ?_
  refine p_run 1 (by kernel_rfl) ?_
  obtain ⟨r9, h9, h⟩ := o_bind h
  refine p_call (d_body_Move_ok _ _ _ _ r9 h9) (by kernel_rfl) (by kernel_rfl) ?_
  refine e_end (by kernel_rfl) ?_
  refine q_next ?_
  refine pwp_seq ?_
  refine pwp_seq ?_
  refine r_reg ?_
  refine p_run 3 (by kernel_rfl) ?_
  refine e_segb 3 50 ((!(decide (r3.1 = 0))) || (!(decide (r3.2 = 10000)))) (fun x hx => ?_) ?_
  · rcases b_or hx with ⟨hb, hx⟩ | ⟨hb, hx⟩
    · refine p_settle 47 hb (by kernel_rfl) (by kernel_rfl) ?_
      subst hx
      exact f_end (by kernel_rfl) (by kernel_rfl)
    · refine p_settle 47 hb (by kernel_rfl) (by kernel_rfl) ?_
      subst hx
      exact f_end (by kernel_rfl) (by kernel_rfl)
  · refine p_run 1 (by kernel_rfl) ?_
    refine e_segb 3 54 (((!(decide (r3.1 = 0))) || (!(decide (r3.2 = 10000)))) || (!(decide (r5.2.1 = 7000)))) (fun x hx => ?_) ?_
    · rcases b_or hx with ⟨hb, hx⟩ | ⟨hb, hx⟩
      · refine p_settle 51 hb (by kernel_rfl) (by kernel_rfl) ?_
        subst hx
        exact f_end (by kernel_rfl) (by kernel_rfl)
      · refine p_settle 51 hb (by kernel_rfl) (by kernel_rfl) ?_
        subst hx
        exact f_end (by kernel_rfl) (by kernel_rfl)
    · refine p_run 1 (by kernel_rfl) ?_
      refine e_segb 2 57 ((((!(decide (r3.1 = 0))) || (!(decide (r3.2 = 10000)))) || (!(decide (r5.2.1 = 7000)))) || r5.2.2) (fun x hx => ?_) ?_
      · rcases b_or hx with ⟨hb, hx⟩ | ⟨hb, hx⟩
        · refine p_settle 55 hb (by kernel_rfl) (by kernel_rfl) ?_
          subst hx
          exact f_end (by kernel_rfl) (by kernel_rfl)
        · refine p_settle 55 hb (by kernel_rfl) (by kernel_rfl) ?_
          subst hx
          exact f_end (by kernel_rfl) (by kernel_rfl)
      · refine p_run 1 (by kernel_rfl) ?_
        refine e_segb 3 61 (((((!(decide (r3.1 = 0))) || (!(decide (r3.2 = 10000)))) || (!(decide (r5.2.1 = 7000)))) || r5.2.2) || (!(decide (r7.2.1 = 3000)))) (fun x hx => ?_) ?_
        · rcases b_or hx with ⟨hb, hx⟩ | ⟨hb, hx⟩
          · refine p_settle 58 hb (by kernel_rfl) (by kernel_rfl) ?_
            subst hx
            exact f_end (by kernel_rfl) (by kernel_rfl)
          · refine p_settle 58 hb (by kernel_rfl) (by kernel_rfl) ?_
            subst hx
            exact f_end (by kernel_rfl) (by kernel_rfl)
        · refine p_run 1 (by kernel_rfl) ?_
          refine e_segb 2 64 ((((((!(decide (r3.1 = 0))) || (!(decide (r3.2 = 10000)))) || (!(decide (r5.2.1 = 7000)))) || r5.2.2) || (!(decide (r7.2.1 = 3000)))) || r7.2.2) (fun x hx => ?_) ?_
          · rcases b_or hx with ⟨hb, hx⟩ | ⟨hb, hx⟩
            · refine p_settle 62 hb (by kernel_rfl) (by kernel_rfl) ?_
              subst hx
              exact f_end (by kernel_rfl) (by kernel_rfl)
            · refine p_settle 62 hb (by kernel_rfl) (by kernel_rfl) ?_
              subst hx
              exact f_end (by kernel_rfl) (by kernel_rfl)
          · refine p_run 1 (by kernel_rfl) ?_
            refine e_segb 3 68 (((((((!(decide (r3.1 = 0))) || (!(decide (r3.2 = 10000)))) || (!(decide (r5.2.1 = 7000)))) || r5.2.2) || (!(decide (r7.2.1 = 3000)))) || r7.2.2) || (!(decide (r9.2.1 = 35000)))) (fun x hx => ?_) ?_
            · rcases b_or hx with ⟨hb, hx⟩ | ⟨hb, hx⟩
              · refine p_settle 65 hb (by kernel_rfl) (by kernel_rfl) ?_
                subst hx
                exact f_end (by kernel_rfl) (by kernel_rfl)
              · refine p_settle 65 hb (by kernel_rfl) (by kernel_rfl) ?_
                subst hx
                exact f_end (by kernel_rfl) (by kernel_rfl)
            · refine p_run 1 (by kernel_rfl) ?_
              refine e_segb 3 72 ((((((((!(decide (r3.1 = 0))) || (!(decide (r3.2 = 10000)))) || (!(decide (r5.2.1 = 7000)))) || r5.2.2) || (!(decide (r7.2.1 = 3000)))) || r7.2.2) || (!(decide (r9.2.1 = 35000)))) || (!r9.2.2)) (fun x hx => ?_) ?_
              · rcases b_or hx with ⟨hb, hx⟩ | ⟨hb, hx⟩
                · refine p_settle 69 hb (by kernel_rfl) (by kernel_rfl) ?_
                  subst hx
                  exact f_end (by kernel_rfl) (by kernel_rfl)
                · refine p_settle 69 hb (by kernel_rfl) (by kernel_rfl) ?_
                  subst hx
                  exact f_end (by kernel_rfl) (by kernel_rfl)
              · refine e_nil (by kernel_rfl) ?_
                refine q_next ?_
                rcases o_cond h with ⟨hb, h⟩ | ⟨hb, h⟩
                · refine r_cond_t hb (by kernel_rfl) ?_
                  refine pwp_seq ?_
                  refine r_reg ?_
                  refine e_end (by kernel_rfl) ?_
                  refine q_next ?_
                  refine pwp_ret ?_
                  refine q_seq_ret ?_
                  cases h
                  exact q_ret (by kernel_rfl) (by kernel_rfl) (by kernel_rfl)
                · refine r_cond_f hb (by kernel_rfl) ?_
                  refine pwp_skip ?_
                  refine q_next ?_
                  refine pwp_seq ?_
                  refine r_reg ?_
                  refine p_run 1 (by kernel_rfl) ?_
                  obtain ⟨r10, h10, h⟩ := o_bind h
                  refine p_call (d_body_Covers_ok _ _ r10 h10) (by kernel_rfl) (by kernel_rfl) ?_
                  refine e_end (by kernel_rfl) ?_
                  refine q_next ?_
                  refine pwp_seq ?_
                  refine r_regd (by kernel_rfl) (by kernel_rfl) ?_
                  refine p_run 2 (by kernel_rfl) ?_
                  obtain ⟨r11, h11, h⟩ := o_bind h
                  refine p_call (d_law11_over_fz _ r11 h11) (by kernel_rfl) (by kernel_rfl) ?_
                  refine p_run 1 (by kernel_rfl) ?_
                  obtain ⟨r12, h12, h⟩ := o_bind h
                  refine p_call (d_ref11_Same_ok _ _ r12 h12) (by kernel_rfl) (by kernel_rfl) ?_
                  obtain ⟨b13, h13, h⟩ := o_bind h
                  refine p_run 1 (by kernel_rfl) ?_
                  refine e_seg 6 89 (.bool b13) ?_ ?_
                  · rcases o_cond h13 with ⟨hb, h13⟩ | ⟨hb, h13⟩
                    · refine p_settle 83 hb (by kernel_rfl) (by kernel_rfl) ?_
                      refine p_run 2 (by kernel_rfl) ?_
                      obtain ⟨r14, h14, h13⟩ := o_bind h13
                      refine p_call (d_law11_over_fz _ r14 h14) (by kernel_rfl) (by kernel_rfl) ?_
                      refine p_run 1 (by kernel_rfl) ?_
                      obtain ⟨r15, h15, h13⟩ := o_bind h13
                      refine p_call (d_ref11_Same_ok _ _ r15 h15) (by kernel_rfl) (by kernel_rfl) ?_
                      cases h13
                      exact f_end (by kernel_rfl) (by kernel_rfl)
                    · refine p_settle 83 hb (by kernel_rfl) (by kernel_rfl) ?_
                      cases h13
                      exact f_end (by kernel_rfl) (by kernel_rfl)
                  · obtain ⟨b16, h16, h⟩ := o_bind h
                    refine p_run 1 (by kernel_rfl) ?_
                    refine e_seg 5 95 (.bool b16) ?_ ?_
                    · rcases o_cond h16 with ⟨hb, h16⟩ | ⟨hb, h16⟩
                      · refine p_settle 90 hb (by kernel_rfl) (by kernel_rfl) ?_
                        obtain ⟨r17, h17, h16⟩ := o_bind h16
                        refine p_call (d_law11_line_ok  r17 h17) (by kernel_rfl) (by kernel_rfl) ?_
                        refine p_run 1 (by kernel_rfl) ?_
                        obtain ⟨r18, h18, h16⟩ := o_bind h16
                        refine p_call (d_body_Check_ok _ _ r18 h18) (by kernel_rfl) (by kernel_rfl) ?_
                        cases h16
                        exact f_end (by kernel_rfl) (by kernel_rfl)
                      · refine p_settle 90 hb (by kernel_rfl) (by kernel_rfl) ?_
                        cases h16
                        exact f_end (by kernel_rfl) (by kernel_rfl)
                    · obtain ⟨b19, h19, h⟩ := o_bind h
                      refine p_run 1 (by kernel_rfl) ?_
                      refine e_seg 7 103 (.bool b19) ?_ ?_
                      · rcases o_cond h19 with ⟨hb, h19⟩ | ⟨hb, h19⟩
                        · refine p_settle 96 hb (by kernel_rfl) (by kernel_rfl) ?_
                          obtain ⟨r20, h20, h19⟩ := o_bind h19
                          refine p_call (d_law11_line_ok  r20 h20) (by kernel_rfl) (by kernel_rfl) ?_
                          refine p_run 1 (by kernel_rfl) ?_
                          obtain ⟨r21, h21, h19⟩ := o_bind h19
                          refine p_call (d_law11_over_fz _ r21 h21) (by kernel_rfl) (by kernel_rfl) ?_
                          refine p_run 1 (by kernel_rfl) ?_
                          obtain ⟨r22, h22, h19⟩ := o_bind h19
                          refine p_call (d_body_Check_ok _ _ r22 h22) (by kernel_rfl) (by kernel_rfl) ?_
                          cases h19
                          exact f_end (by kernel_rfl) (by kernel_rfl)
                        · refine p_settle 96 hb (by kernel_rfl) (by kernel_rfl) ?_
                          cases h19
                          exact f_end (by kernel_rfl) (by kernel_rfl)
                      · obtain ⟨b23, h23, h⟩ := o_bind h
                        refine p_run 1 (by kernel_rfl) ?_
                        refine e_seg 6 110 (.bool b23) ?_ ?_
                        · rcases o_cond h23 with ⟨hb, h23⟩ | ⟨hb, h23⟩
                          · refine p_settle 104 hb (by kernel_rfl) (by kernel_rfl) ?_
                            obtain ⟨r24, h24, h23⟩ := o_bind h23
                            refine p_call (d_law11_line_ok  r24 h24) (by kernel_rfl) (by kernel_rfl) ?_
                            refine p_run 1 (by kernel_rfl) ?_
                            obtain ⟨r25, h25, h23⟩ := o_bind h23
                            refine p_call (d_body_Sections_ok _ _ r25 h25) (by kernel_rfl) (by kernel_rfl) ?_
                            refine p_run 1 (by kernel_rfl) ?_
                            obtain ⟨r26, h26, h23⟩ := o_bind h23
                            refine p_call (d_ref02_Same_ok _ _ r26 h26) (by kernel_rfl) (by kernel_rfl) ?_
                            cases h23
                            exact f_end (by kernel_rfl) (by kernel_rfl)
                          · refine p_settle 104 hb (by kernel_rfl) (by kernel_rfl) ?_
                            cases h23
                            exact f_end (by kernel_rfl) (by kernel_rfl)
                        · refine p_run 1 (by kernel_rfl) ?_
                          refine e_segb 2 113 (b23 && r10.2) (fun x hx => ?_) ?_
                          · rcases b_and hx with ⟨hb, hx⟩ | ⟨hb, hx⟩
                            · refine p_settle 111 hb (by kernel_rfl) (by kernel_rfl) ?_
                              subst hx
                              exact f_end (by kernel_rfl) (by kernel_rfl)
                            · refine p_settle 111 hb (by kernel_rfl) (by kernel_rfl) ?_
                              subst hx
                              exact f_end (by kernel_rfl) (by kernel_rfl)
                          · obtain ⟨b27, h27, h⟩ := o_bind h
                            refine p_run 1 (by kernel_rfl) ?_
                            refine e_seg 7 121 (.bool b27) ?_ ?_
                            · rcases o_cond h27 with ⟨hb, h27⟩ | ⟨hb, h27⟩
                              · refine p_settle 114 hb (by kernel_rfl) (by kernel_rfl) ?_
                                refine p_run 2 (by kernel_rfl) ?_
                                obtain ⟨r28, h28, h27⟩ := o_bind h27
                                refine p_call (d_law11_over_fz _ r28 h28) (by kernel_rfl) (by kernel_rfl) ?_
                                obtain ⟨x29, h29, h27⟩ := o_bind h27
                                refine p_ix h29 (by kernel_rfl) ?_
                                cases h27
                                exact f_end (by kernel_rfl) (by kernel_rfl)
                              · refine p_settle 114 hb (by kernel_rfl) (by kernel_rfl) ?_
                                cases h27
                                exact f_end (by kernel_rfl) (by kernel_rfl)
                            · refine e_end (by kernel_rfl) ?_
                              refine q_next ?_
                              refine pwp_ret ?_
                              cases h
                              exact q_ret (by kernel_rfl) (by kernel_rfl) (by kernel_rfl)

/-! signallingref09.exists -/
noncomputable def d_ref09_exists (a0 : T_api_Layout) (a1 : Int) : Option Bool :=
  ((bif decide (0 ≤ a1) then (
    some (decide (a1 < ((a0.Elements.length : Nat) : Int)))
  ) else some false) : Option Bool).bind fun b1 =>
  some b1
theorem d_ref09_exists_ok (a0 : T_api_Layout) (a1 : Int) (r : Bool) (h : d_ref09_exists a0 a1 = some r) : PCall Go.Proofs.Tryd.prog GlS 71 [Enc.pv a0, Enc.pv a1] (Enc.pv r) := by
  unfold d_ref09_exists at h
  refine pcall_of_pwp Go.Proofs.Tryd.func71 (by rfl) rfl Go.Proofs.Tryd.ntmps71 (by rfl) rfl ?_
  refine pwp_seq ?_
  refine r_reg ?_
  refine e_end (by kernel_rfl) ?_
  refine q_next ?_
  refine pwp_seq ?_
  refine r_reg ?_
  obtain ⟨b1, h1, h⟩ := o_bind h
  refine p_run 3 (by kernel_rfl) ?_
  refine e_seg 6 13 (.bool b1) ?_ ?_
  · rcases o_cond h1 with ⟨hb, h1⟩ | ⟨hb, h1⟩
    · refine p_settle 7 hb (by kernel_rfl) (by kernel_rfl) ?_
      refine p_run 3 (by kernel_rfl) ?_
      refine p_len (L := (a0.Elements : (List T_api_Element))) (by kernel_rfl) ?_
      cases h1
      exact f_end (by kernel_rfl) (by kernel_rfl)
    · refine p_settle 7 hb (by kernel_rfl) (by kernel_rfl) ?_
      cases h1
      exact f_end (by kernel_rfl) (by kernel_rfl)
  · refine e_end (by kernel_rfl) ?_
    refine q_next ?_
    refine pwp_ret ?_
    cases h
    exact q_ret (by kernel_rfl) (by kernel_rfl) (by kernel_rfl)

end PM
