/-
  Plain functions for the program's functions, and the proofs that the program does them. Printed by den.py.
-/
import Derived.Test.YtjfdmlckdgholaaDoorPmP
import Derived.Test.YtjfdmlckdgholaaDoorProg
namespace PM
open Go Go.RowKit
attribute [local irreducible] pops pwp

structure T_rail_passage where
  kind_ : Int
  in_ : Int
  out_ : Int
  need_ : Int
instance : Enc T_rail_passage := ⟨4, 32, fun x => .agg [.int .i64 x.kind_, .int .i64 x.in_, .int .i64 x.out_, .int .i64 x.need_]⟩
def eq_T_rail_passage (x y : T_rail_passage) : Bool := (decide (x.kind_ = y.kind_) && (decide (x.in_ = y.in_) && (decide (x.out_ = y.out_) && (decide (x.need_ = y.need_) && true))))

def tab0 : List Int := [0, 2, 3, 4]
def tab1 : List T_rail_passage := [(T_rail_passage.mk 1 0 1 0), (T_rail_passage.mk 1 1 0 0), (T_rail_passage.mk 2 0 1 1), (T_rail_passage.mk 2 0 2 2), (T_rail_passage.mk 2 1 0 1), (T_rail_passage.mk 2 2 0 2), (T_rail_passage.mk 3 0 1 0), (T_rail_passage.mk 3 1 0 0), (T_rail_passage.mk 3 2 3 0), (T_rail_passage.mk 3 3 2 0)]
def GlS : Nat → Option (List PV)
  | 0 => some (tab0.flatMap cellsOf)
  | 1 => some (tab1.flatMap cellsOf)
  | _ => none

/-! rail.Sides -/
noncomputable def f15 (a0 : Int) : Option Int :=
  bif ((decide (a0 < 0)) || (decide (4 ≤ a0))) then (
    some 0
  ) else (
    (ixO tab0 a0).bind fun x1 =>
    some x1
  )
theorem f15_ok (a0 : Int) (r : Int) (h : f15 a0 = some r) : PCall Go.Proofs.Tryd.prog GlS 15 [Enc.pv a0] (Enc.pv r) := by
  unfold f15 at h
  refine pcall_of_pwp Go.Proofs.Tryd.func15 (by rfl) rfl Go.Proofs.Tryd.ntmps15 (by rfl) rfl ?_
  refine pwp_seq ?_
  refine r_reg ?_
  refine e_end (by kernel_rfl) ?_
  refine q_next ?_
  refine pwp_seq ?_
  refine pwp_seq ?_
  refine r_reg ?_
  refine p_run 3 (by kernel_rfl) ?_
  refine e_segb 3 8 ((decide (a0 < 0)) || (decide (4 ≤ a0))) (fun x hx => ?_) ?_
  · rcases b_or hx with ⟨hb, hx⟩ | ⟨hb, hx⟩
    · refine p_settle 5 hb (by kernel_rfl) (by kernel_rfl) ?_
      subst hx
      exact f_end (by kernel_rfl) (by kernel_rfl)
    · refine p_settle 5 hb (by kernel_rfl) (by kernel_rfl) ?_
      subst hx
      exact f_end (by kernel_rfl) (by kernel_rfl)
  · refine e_nil (by kernel_rfl) ?_
    refine q_next ?_
    rcases o_cond h with ⟨hb, h⟩ | ⟨hb, h⟩
    · refine r_cond_t hb (by kernel_rfl) ?_
      refine pwp_seq ?_
      refine r_reg ?_
      refine e_end (by kernel_rfl) ?_
      refine q_next ?_
      refine pwp_ret ?_
      refine q_seq_ret ?_
      cases h
      exact q_ret (by kernel_rfl) (by kernel_rfl) (by kernel_rfl)
    · refine r_cond_f hb (by kernel_rfl) ?_
      refine pwp_skip ?_
      refine q_next ?_
      refine pwp_seq ?_
      refine r_reg ?_
      refine p_run 1 (by kernel_rfl) ?_
      obtain ⟨x1, h1, h⟩ := o_bind h
      refine p_gix h1 0 4 1 (by kernel_rfl) (by kernel_rfl) ?_
      refine p_gload (tab := tab0) h1 false 1 (by kernel_rfl) (by kernel_rfl) (by kernel_rfl) ?_
      refine e_end (by kernel_rfl) ?_
      refine q_next ?_
      refine pwp_ret ?_
      cases h
      exact q_ret (by kernel_rfl) (by kernel_rfl) (by kernel_rfl)

/-! signallingref06.Sides -/
noncomputable def f16 (a0 : Int) : Option Int :=
  bif decide (a0 = 1) then (
    some 2
  ) else (
    bif decide (a0 = 2) then (
      some 3
    ) else (
      bif decide (a0 = 3) then (
        some 4
      ) else (
        some 0
      )
    )
  )
theorem f16_ok (a0 : Int) (r : Int) (h : f16 a0 = some r) : PCall Go.Proofs.Tryd.prog GlS 16 [Enc.pv a0] (Enc.pv r) := by
  unfold f16 at h
  refine pcall_of_pwp Go.Proofs.Tryd.func16 (by rfl) rfl Go.Proofs.Tryd.ntmps16 (by rfl) rfl ?_
  refine pwp_seq ?_
  refine r_reg ?_
  refine e_end (by kernel_rfl) ?_
  refine q_next ?_
  refine pwp_seq ?_
  refine pwp_seq ?_
  refine r_reg ?_
  refine e_end (by kernel_rfl) ?_
  refine q_next ?_
  refine pwp_block ?_
  refine pwp_seq ?_
  refine r_reg ?_
  refine e_end (by kernel_rfl) ?_
  refine q_next ?_
  rcases o_cond h with ⟨hb, h⟩ | ⟨hb, h⟩
  · refine r_cond_t hb (by kernel_rfl) ?_
    refine pwp_seq ?_
    refine r_reg ?_
    refine e_end (by kernel_rfl) ?_
    refine q_next ?_
    refine pwp_ret ?_
    refine q_block_ret ?_
    refine q_seq_ret ?_
    cases h
    exact q_ret (by kernel_rfl) (by kernel_rfl) (by kernel_rfl)
  · refine r_cond_f hb (by kernel_rfl) ?_
    refine pwp_seq ?_
    refine r_reg ?_
    refine e_end (by kernel_rfl) ?_
    refine q_next ?_
    rcases o_cond h with ⟨hb, h⟩ | ⟨hb, h⟩
    · refine r_cond_t hb (by kernel_rfl) ?_
      refine pwp_seq ?_
      refine r_reg ?_
      refine e_end (by kernel_rfl) ?_
      refine q_next ?_
      refine pwp_ret ?_
      refine q_block_ret ?_
      refine q_seq_ret ?_
      cases h
      exact q_ret (by kernel_rfl) (by kernel_rfl) (by kernel_rfl)
    · refine r_cond_f hb (by kernel_rfl) ?_
      refine pwp_seq ?_
      refine r_reg ?_
      refine e_end (by kernel_rfl) ?_
      refine q_next ?_
      rcases o_cond h with ⟨hb, h⟩ | ⟨hb, h⟩
      · refine r_cond_t hb (by kernel_rfl) ?_
        refine pwp_seq ?_
        refine r_reg ?_
        refine e_end (by kernel_rfl) ?_
        refine q_next ?_
        refine pwp_ret ?_
        refine q_block_ret ?_
        refine q_seq_ret ?_
        cases h
        exact q_ret (by kernel_rfl) (by kernel_rfl) (by kernel_rfl)
      · refine r_cond_f hb (by kernel_rfl) ?_
        refine pwp_skip ?_
        refine q_block ?_
        refine q_next ?_
        refine pwp_seq ?_
        refine r_reg ?_
        refine e_end (by kernel_rfl) ?_
        refine q_next ?_
        refine pwp_ret ?_
        cases h
        exact q_ret (by kernel_rfl) (by kernel_rfl) (by kernel_rfl)

/-! signallinglaw06.same -/
noncomputable def f17_0 (a0 : (List Int)) (a1 : (List Int)) : Int → Option (Int ⊕ (Unit ⊕ Bool)) := fun x3 =>
  bif decide (x3 < ((a0.length : Nat) : Int)) then (
    (ixO a0 x3).bind fun x6 =>
    (ixO a1 x3).bind fun x7 =>
    bif (!(decide (x6 = x7))) then (
      some (.inr (.inr false))
    ) else (
      some (.inl (w64 (x3 + 1)))
    )
  ) else (
    some (.inr (.inl ()))
  )

noncomputable def f17 (a0 : (List Int)) (a1 : (List Int)) : Option Bool :=
  bif (!(decide (((a0.length : Nat) : Int) = ((a1.length : Nat) : Int)))) then (
    some false
  ) else (
    onInl (α := Unit) (β := Bool) (loopO (f17_0 a0 a1) 0) fun _ =>
    some true
  )
theorem f17_ok (a0 : (List Int)) (a1 : (List Int)) (r : Bool) (h : f17 a0 a1 = some r) : PCall Go.Proofs.Tryd.prog GlS 17 [Enc.pv a0, Enc.pv a1] (Enc.pv r) := by
  unfold f17 at h
  refine pcall_of_pwp Go.Proofs.Tryd.func17 (by rfl) rfl Go.Proofs.Tryd.ntmps17 (by rfl) rfl ?_
  refine pwp_seq ?_
  refine r_reg ?_
  refine e_end (by kernel_rfl) ?_
  refine q_next ?_
  refine pwp_seq ?_
  refine pwp_seq ?_
  refine r_reg ?_
  refine p_run 1 (by kernel_rfl) ?_
  refine p_len (L := (a0 : (List Int))) (by kernel_rfl) ?_
  refine p_run 1 (by kernel_rfl) ?_
  refine p_len (L := (a1 : (List Int))) (by kernel_rfl) ?_
  refine e_end (by kernel_rfl) ?_
  refine q_next ?_
  rcases o_cond h with ⟨hb, h⟩ | ⟨hb, h⟩
  · refine r_cond_t hb (by kernel_rfl) ?_
    refine pwp_seq ?_
    refine r_reg ?_
    refine e_end (by kernel_rfl) ?_
    refine q_next ?_
    refine pwp_ret ?_
    refine q_seq_ret ?_
    cases h
    exact q_ret (by kernel_rfl) (by kernel_rfl) (by kernel_rfl)
  · refine r_cond_f hb (by kernel_rfl) ?_
    refine pwp_skip ?_
    refine q_next ?_
    refine pwp_seq ?_
    refine pwp_seq ?_
    refine r_reg ?_
    refine p_run 1 (by kernel_rfl) ?_
    refine p_len (L := (a0 : (List Int))) (by kernel_rfl) ?_
    refine e_end (by kernel_rfl) ?_
    refine q_next ?_
    refine pwp_block ?_
    obtain ⟨o8, h8, h⟩ := o_inl h
    refine r_loop2 26 0 (fun x3 => ⟨[(0, lstOf .frozen (a0 : (List Int))), (1, lstOf .frozen (a1 : (List Int))), (12, .int .i64 ((a0.length : Nat) : Int)), (13, .int .i64 x3)], [], []⟩) (fun (_ : Unit) => ⟨[], [], []⟩) h8 (by kernel_rfl) (fun _ => by kernel_rfl) ?_ ?_
    · rintro x3 oh7 h7
      unfold f17_0 at h7
      refine pwp_seq ?_
      refine r_reg ?_
      refine e_end (by kernel_rfl) ?_
      refine q_next ?_
      refine pwp_seq ?_
      rcases o_cond h7 with ⟨hb, h7⟩ | ⟨hb, h7⟩
      · refine r_cond_t hb (by kernel_rfl) ?_
        refine pwp_skip ?_
        refine q_next ?_
        refine pwp_seq ?_
        refine pwp_block ?_
        refine pwp_seq ?_
        refine r_reg ?_
        refine e_end (by kernel_rfl) ?_
        refine q_next ?_
        refine pwp_seq ?_
        refine r_regd (by kernel_rfl) (by kernel_rfl) ?_
        refine p_run 2 (by kernel_rfl) ?_
        obtain ⟨x6, h9, h7⟩ := o_bind h7
        refine p_ix h9 (by kernel_rfl) ?_
        refine p_run 3 (by kernel_rfl) ?_
        obtain ⟨x7, h10, h7⟩ := o_bind h7
        refine p_ix h10 (by kernel_rfl) ?_
        refine e_end (by kernel_rfl) ?_
        refine q_next ?_
        rcases o_cond h7 with ⟨hb, h7⟩ | ⟨hb, h7⟩
        · refine r_cond_t hb (by kernel_rfl) ?_
          refine pwp_seq ?_
          refine r_reg ?_
          refine e_end (by kernel_rfl) ?_
          refine q_next ?_
          refine pwp_ret ?_
          refine q_block_ret ?_
          refine q_seq_ret ?_
          cases h7
          refine q_lout_ret fun he => ?_
          subst he
          have h11 := o_outr h
          refine q_block_ret ?_
          refine q_seq_ret ?_
          cases h11
          exact q_ret (by kernel_rfl) (by kernel_rfl) (by kernel_rfl)
        · refine r_cond_f hb (by kernel_rfl) ?_
          refine pwp_skip ?_
          refine q_block ?_
          refine q_next ?_
          refine r_reg ?_
          refine e_end (by kernel_rfl) ?_
          cases h7
          exact q_lback (by kernel_rfl)
      · refine r_cond_f hb (by kernel_rfl) ?_
        refine pwp_exit ?_
        refine q_seq_exit ?_
        cases h7
        exact q_lexit (by kernel_rfl) (by kernel_rfl)
    · rintro _ s' rfl hs
      have h := o_outl h
      refine q_block_hit ?_
      refine q_next (pwp_wkr hs ?_)
      refine pwp_seq ?_
      refine r_reg ?_
      refine e_end (by kernel_rfl) ?_
      refine q_next ?_
      refine pwp_ret ?_
      cases h
      exact q_ret (by kernel_rfl) (by kernel_rfl) (by kernel_rfl)

/-! rail.Legs -/
noncomputable def f18_0 (a0 : Int) (a1 : Int) : (Int × (List Int)) → Option ((Int × (List Int)) ⊕ ((List Int) ⊕ (List Int))) := fun (x12, x13) =>
  bif decide (x12 < 10) then (
    onInl (α := (List Int)) (β := ((Int × (List Int)) ⊕ ((List Int) ⊕ (List Int)))) (
      (ixO tab1 x12).bind fun x23 =>
      bif ((decide (x23.kind_ = a0)) && (decide (x23.in_ = a1))) then (
        (appO x13 [x23.out_]).bind fun x24 =>
        some (.inl x24)
      ) else (
        some (.inl x13)
      )
    ) fun x22 =>
    some (.inl (w64 (x12 + 1), x22))
  ) else (
    some (.inr (.inl x13))
  )

noncomputable def f18 (a0 : Int) (a1 : Int) : Option (List Int) :=
  onInl (α := (List Int)) (β := (List Int)) (loopO (f18_0 a0 a1) (0, ([] : (List Int)))) fun x19 =>
  some x19
theorem f18_ok (a0 : Int) (a1 : Int) (r : (List Int)) (h : f18 a0 a1 = some r) : PCall Go.Proofs.Tryd.prog GlS 18 [Enc.pv a0, Enc.pv a1] (lstOf (.own 100005) r) := by
  unfold f18 at h
  refine pcall_of_pwp Go.Proofs.Tryd.func18 (by rfl) rfl Go.Proofs.Tryd.ntmps18 (by rfl) rfl ?_
  refine pwp_seq ?_
  refine r_reg ?_
  refine e_end (by kernel_rfl) ?_
  refine q_next ?_
  refine pwp_seq ?_
  refine r_reg ?_
  refine e_end (by kernel_rfl) ?_
  refine q_next ?_
  refine pwp_seq ?_
  refine pwp_seq ?_
  refine r_reg ?_
  refine e_end (by kernel_rfl) ?_
  refine q_next ?_
  refine pwp_block ?_
  refine g_nil 5 100005 1 8 (by kernel_rfl) (by kernel_rfl) ?_
  obtain ⟨o17, h17, h⟩ := o_inl h
  refine r_loop2 29 0 (fun (x12, x13) => ⟨[(0, .int .i64 a0), (1, .int .i64 a1), (5, lstOf (.own 100005) (x13 : (List Int))), (8, .agg (tab1.flatMap cellsOf)), (9, .int .i64 x12)], [], [(100005, (((x13).map cellsOf).length, 1))]⟩) (fun x19 => ⟨[(5, lstOf (.own 100005) (x19 : (List Int)))], [], [(100005, (((x19).map cellsOf).length, 1))]⟩) h17 (by kernel_rfl) (fun _ => by kernel_rfl) ?_ ?_
  · rintro ⟨x12, x13⟩ oh16 h16
    unfold f18_0 at h16
    refine pwp_seq ?_
    refine r_reg ?_
    refine e_end (by kernel_rfl) ?_
    refine q_next ?_
    refine pwp_seq ?_
    rcases o_cond h16 with ⟨hb, h16⟩ | ⟨hb, h16⟩
    · refine r_cond_t hb (by kernel_rfl) ?_
      refine pwp_skip ?_
      refine q_next ?_
      obtain ⟨o20, h20, h16⟩ := o_inl h16
      refine r_join (o := o20) 29 (fun x22 => ⟨[(0, .int .i64 a0), (1, .int .i64 a1), (5, lstOf (.own 100005) (x22 : (List Int))), (8, .agg (tab1.flatMap cellsOf)), (9, .int .i64 x12)], [], [(100005, (((x22).map cellsOf).length, 1))]⟩) ?_ ?_
      · refine pwp_block ?_
        refine pwp_seq ?_
        refine r_reg ?_
        obtain ⟨x23, h21, h20⟩ := o_bind h20
        refine p_tix (tab := tab1) h21 true 10 4 (by kernel_rfl) (by kernel_rfl) (by kernel_rfl) (by kernel_rfl) ?_
        refine e_end (by kernel_rfl) ?_
        refine q_next ?_
        refine pwp_seq ?_
        refine r_reg ?_
        refine p_run 5 (by kernel_rfl) ?_
        refine e_segb 5 21 ((decide (x23.kind_ = a0)) && (decide (x23.in_ = a1))) (fun x hx => ?_) ?_
        · rcases b_and hx with ⟨hb, hx⟩ | ⟨hb, hx⟩
          · refine p_settle 16 hb (by kernel_rfl) (by kernel_rfl) ?_
            subst hx
            exact f_end (by kernel_rfl) (by kernel_rfl)
          · refine p_settle 16 hb (by kernel_rfl) (by kernel_rfl) ?_
            subst hx
            exact f_end (by kernel_rfl) (by kernel_rfl)
        · refine e_nil (by kernel_rfl) ?_
          refine q_next ?_
          rcases o_cond h20 with ⟨hb, h20⟩ | ⟨hb, h20⟩
          · refine r_cond_t hb (by kernel_rfl) ?_
            refine r_reg ?_
            refine p_run 4 (by kernel_rfl) ?_
            obtain ⟨x24, h22, h20⟩ := o_bind h20
            refine p_app (tk := 100005) h22 (by kernel_rfl) (by kernel_rfl) ?_
            refine e_end (by kernel_rfl) ?_
            refine q_block ?_
            cases h20
            exact q_join (by kernel_rfl) (by kernel_rfl)
          · refine r_cond_f hb (by kernel_rfl) ?_
            refine pwp_skip ?_
            refine q_block ?_
            cases h20
            exact q_join (by kernel_rfl) (by kernel_rfl)
      · rintro x22 rfl
        have h16 := o_outl h16
        refine r_reg ?_
        refine e_end (by kernel_rfl) ?_
        cases h16
        exact q_lback (by kernel_rfl)
    · refine r_cond_f hb (by kernel_rfl) ?_
      refine pwp_exit ?_
      refine q_seq_exit ?_
      cases h16
      exact q_lexit (by kernel_rfl) (by kernel_rfl)
  · rintro x19 s' rfl hs
    have h := o_outl h
    refine q_block_hit ?_
    refine q_next (pwp_wkr hs ?_)
    refine pwp_seq ?_
    refine r_reg ?_
    refine e_end (by kernel_rfl) ?_
    refine q_next ?_
    refine pwp_ret ?_
    cases h
    exact q_ret (by kernel_rfl) (by kernel_rfl) (by kernel_rfl)
theorem f18_fz (a0 : Int) (a1 : Int) (r : (List Int)) (h : f18 a0 a1 = some r) : PCall Go.Proofs.Tryd.prog GlS 18 [Enc.pv a0, Enc.pv a1] (Enc.pv r) :=
  (f18_ok a0 a1 r h).freeze (by kernel_rfl) (by kernel_rfl) (by kernel_rfl)

/-! signallingref06.Need -/
noncomputable def f26 (a0 : Int) (a1 : Int) (a2 : Int) : Option (Int × Bool) :=
  bif ((decide (a0 = 1)) || (decide (a0 = 3))) then (
    some (0, (((decide ((min a1 a2) = 0)) && (decide ((max a1 a2) = 1))) || (((decide (a0 = 3)) && (decide ((min a1 a2) = 2))) && (decide ((max a1 a2) = 3)))))
  ) else (
    bif (((decide (a0 = 2)) && (decide ((min a1 a2) = 0))) && (decide ((max a1 a2) = 1))) then (
      some (1, true)
    ) else (
      bif (((decide (a0 = 2)) && (decide ((min a1 a2) = 0))) && (decide ((max a1 a2) = 2))) then (
        some (2, true)
      ) else (
        some (0, false)
      )
    )
  )
theorem f26_ok (a0 : Int) (a1 : Int) (a2 : Int) (r : (Int × Bool)) (h : f26 a0 a1 a2 = some r) : PCall Go.Proofs.Tryd.prog GlS 26 [Enc.pv a0, Enc.pv a1, Enc.pv a2] (.tup [Enc.pv r.1, Enc.pv r.2]) := by
  unfold f26 at h
  refine pcall_of_pwp Go.Proofs.Tryd.func26 (by rfl) rfl Go.Proofs.Tryd.ntmps26 (by rfl) rfl ?_
  refine pwp_seq ?_
  refine r_reg ?_
  refine e_end (by kernel_rfl) ?_
  refine q_next ?_
  refine pwp_seq ?_
  refine r_reg ?_
  refine e_end (by kernel_rfl) ?_
  refine q_next ?_
  refine pwp_seq ?_
  refine r_reg ?_
  refine e_end (by kernel_rfl) ?_
  refine q_next ?_
  refine pwp_seq ?_
  refine pwp_seq ?_
  refine r_reg ?_
  refine p_run 3 (by kernel_rfl) ?_
  refine e_segb 3 21 ((decide (a0 = 1)) || (decide (a0 = 3))) (fun x hx => ?_) ?_
  · rcases b_or hx with ⟨hb, hx⟩ | ⟨hb, hx⟩
    · refine p_settle 18 hb (by kernel_rfl) (by kernel_rfl) ?_
      subst hx
      exact f_end (by kernel_rfl) (by kernel_rfl)
    · refine p_settle 18 hb (by kernel_rfl) (by kernel_rfl) ?_
      subst hx
      exact f_end (by kernel_rfl) (by kernel_rfl)
  · refine e_nil (by kernel_rfl) ?_
    refine q_next ?_
    rcases o_cond h with ⟨hb, h⟩ | ⟨hb, h⟩
    · refine r_cond_t hb (by kernel_rfl) ?_
      refine pwp_seq ?_
      refine r_reg ?_
      refine p_run 3 (by kernel_rfl) ?_
      refine e_segb 3 27 ((decide ((min a1 a2) = 0)) && (decide ((max a1 a2) = 1))) (fun x hx => ?_) ?_
      · rcases b_and hx with ⟨hb, hx⟩ | ⟨hb, hx⟩
        · refine p_settle 24 hb (by kernel_rfl) (by kernel_rfl) ?_
          subst hx
          exact f_end (by kernel_rfl) (by kernel_rfl)
        · refine p_settle 24 hb (by kernel_rfl) (by kernel_rfl) ?_
          subst hx
          exact f_end (by kernel_rfl) (by kernel_rfl)
      · refine p_run 1 (by kernel_rfl) ?_
        refine e_segb 11 39 (((decide ((min a1 a2) = 0)) && (decide ((max a1 a2) = 1))) || (((decide (a0 = 3)) && (decide ((min a1 a2) = 2))) && (decide ((max a1 a2) = 3)))) (fun x hx => ?_) ?_
        · rcases b_or hx with ⟨hb, hx⟩ | ⟨hb, hx⟩
          · refine p_settle 28 hb (by kernel_rfl) (by kernel_rfl) ?_
            subst hx
            exact f_end (by kernel_rfl) (by kernel_rfl)
          · refine p_settle 28 hb (by kernel_rfl) (by kernel_rfl) ?_
            refine p_run 3 (by kernel_rfl) ?_
            refine f_segb 3 34 ((decide (a0 = 3)) && (decide ((min a1 a2) = 2))) (fun x hx => ?_) ?_
            · rcases b_and hx with ⟨hb, hx⟩ | ⟨hb, hx⟩
              · refine p_settle 31 hb (by kernel_rfl) (by kernel_rfl) ?_
                subst hx
                exact f_end (by kernel_rfl) (by kernel_rfl)
              · refine p_settle 31 hb (by kernel_rfl) (by kernel_rfl) ?_
                subst hx
                exact f_end (by kernel_rfl) (by kernel_rfl)
            · refine p_run 1 (by kernel_rfl) ?_
              refine f_segb 3 38 (((decide (a0 = 3)) && (decide ((min a1 a2) = 2))) && (decide ((max a1 a2) = 3))) (fun x hx => ?_) ?_
              · rcases b_and hx with ⟨hb, hx⟩ | ⟨hb, hx⟩
                · refine p_settle 35 hb (by kernel_rfl) (by kernel_rfl) ?_
                  subst hx
                  exact f_end (by kernel_rfl) (by kernel_rfl)
                · refine p_settle 35 hb (by kernel_rfl) (by kernel_rfl) ?_
                  subst hx
                  exact f_end (by kernel_rfl) (by kernel_rfl)
              · subst hx
                exact f_end (by kernel_rfl) (by kernel_rfl)
        · refine e_end (by kernel_rfl) ?_
          refine q_next ?_
          refine pwp_ret ?_
          refine q_seq_ret ?_
          cases h
          exact q_ret (by kernel_rfl) (by kernel_rfl) (by kernel_rfl)
    · refine r_cond_f hb (by kernel_rfl) ?_
      refine pwp_skip ?_
      refine q_next ?_
      refine pwp_seq ?_
      refine pwp_seq ?_
      refine r_reg ?_
      refine p_run 3 (by kernel_rfl) ?_
      refine e_segb 3 45 ((decide (a0 = 2)) && (decide ((min a1 a2) = 0))) (fun x hx => ?_) ?_
      · rcases b_and hx with ⟨hb, hx⟩ | ⟨hb, hx⟩
        · refine p_settle 42 hb (by kernel_rfl) (by kernel_rfl) ?_
          subst hx
          exact f_end (by kernel_rfl) (by kernel_rfl)
        · refine p_settle 42 hb (by kernel_rfl) (by kernel_rfl) ?_
          subst hx
          exact f_end (by kernel_rfl) (by kernel_rfl)
      · refine p_run 1 (by kernel_rfl) ?_
        refine e_segb 3 49 (((decide (a0 = 2)) && (decide ((min a1 a2) = 0))) && (decide ((max a1 a2) = 1))) (fun x hx => ?_) ?_
        · rcases b_and hx with ⟨hb, hx⟩ | ⟨hb, hx⟩
          · refine p_settle 46 hb (by kernel_rfl) (by kernel_rfl) ?_
            subst hx
            exact f_end (by kernel_rfl) (by kernel_rfl)
          · refine p_settle 46 hb (by kernel_rfl) (by kernel_rfl) ?_
            subst hx
            exact f_end (by kernel_rfl) (by kernel_rfl)
        · refine e_nil (by kernel_rfl) ?_
          refine q_next ?_
          rcases o_cond h with ⟨hb, h⟩ | ⟨hb, h⟩
          · refine r_cond_t hb (by kernel_rfl) ?_
            refine pwp_seq ?_
            refine r_reg ?_
            refine e_end (by kernel_rfl) ?_
            refine q_next ?_
            refine pwp_ret ?_
            refine q_seq_ret ?_
            cases h
            exact q_ret (by kernel_rfl) (by kernel_rfl) (by kernel_rfl)
          · refine r_cond_f hb (by kernel_rfl) ?_
            refine pwp_skip ?_
            refine q_next ?_
            refine pwp_seq ?_
            refine pwp_seq ?_
            refine r_reg ?_
            refine p_run 3 (by kernel_rfl) ?_
            refine e_segb 3 55 ((decide (a0 = 2)) && (decide ((min a1 a2) = 0))) (fun x hx => ?_) ?_
            · rcases b_and hx with ⟨hb, hx⟩ | ⟨hb, hx⟩
              · refine p_settle 52 hb (by kernel_rfl) (by kernel_rfl) ?_
                subst hx
                exact f_end (by kernel_rfl) (by kernel_rfl)
              · refine p_settle 52 hb (by kernel_rfl) (by kernel_rfl) ?_
                subst hx
                exact f_end (by kernel_rfl) (by kernel_rfl)
            · refine p_run 1 (by kernel_rfl) ?_
              refine e_segb 3 59 (((decide (a0 = 2)) && (decide ((min a1 a2) = 0))) && (decide ((max a1 a2) = 2))) (fun x hx => ?_) ?_
              · rcases b_and hx with ⟨hb, hx⟩ | ⟨hb, hx⟩
                · refine p_settle 56 hb (by kernel_rfl) (by kernel_rfl) ?_
                  subst hx
                  exact f_end (by kernel_rfl) (by kernel_rfl)
                · refine p_settle 56 hb (by kernel_rfl) (by kernel_rfl) ?_
                  subst hx
                  exact f_end (by kernel_rfl) (by kernel_rfl)
              · refine e_nil (by kernel_rfl) ?_
                refine q_next ?_
                rcases o_cond h with ⟨hb, h⟩ | ⟨hb, h⟩
                · refine r_cond_t hb (by kernel_rfl) ?_
                  refine pwp_seq ?_
                  refine r_reg ?_
                  refine e_end (by kernel_rfl) ?_
                  refine q_next ?_
                  refine pwp_ret ?_
                  refine q_seq_ret ?_
                  cases h
                  exact q_ret (by kernel_rfl) (by kernel_rfl) (by kernel_rfl)
                · refine r_cond_f hb (by kernel_rfl) ?_
                  refine pwp_skip ?_
                  refine q_next ?_
                  refine pwp_seq ?_
                  refine r_reg ?_
                  refine e_end (by kernel_rfl) ?_
                  refine q_next ?_
                  refine pwp_ret ?_
                  cases h
                  exact q_ret (by kernel_rfl) (by kernel_rfl) (by kernel_rfl)

/-! signallingref06.Legs -/
noncomputable def f19_0 (a0 : Int) (a1 : Int) : (Int × (List Int)) → Option ((Int × (List Int)) ⊕ ((List Int) ⊕ (List Int))) := fun (x12, x13) =>
  bif decide (x12 < 4) then (
    onInl (α := (List Int)) (β := ((Int × (List Int)) ⊕ ((List Int) ⊕ (List Int)))) (
      (f26 a0 a1 x12).bind fun r23 =>
      bif r23.2 then (
        (appO x13 [x12]).bind fun x24 =>
        some (.inl x24)
      ) else (
        some (.inl x13)
      )
    ) fun x22 =>
    some (.inl (w64 (x12 + 1), x22))
  ) else (
    some (.inr (.inl x13))
  )

noncomputable def f19 (a0 : Int) (a1 : Int) : Option (List Int) :=
  onInl (α := (List Int)) (β := (List Int)) (loopO (f19_0 a0 a1) (0, ([] : (List Int)))) fun x19 =>
  some x19
theorem f19_ok (a0 : Int) (a1 : Int) (r : (List Int)) (h : f19 a0 a1 = some r) : PCall Go.Proofs.Tryd.prog GlS 19 [Enc.pv a0, Enc.pv a1] (lstOf (.own 100005) r) := by
  unfold f19 at h
  refine pcall_of_pwp Go.Proofs.Tryd.func19 (by rfl) rfl Go.Proofs.Tryd.ntmps19 (by rfl) rfl ?_
  refine pwp_seq ?_
  refine r_reg ?_
  refine e_end (by kernel_rfl) ?_
  refine q_next ?_
  refine pwp_seq ?_
  refine r_reg ?_
  refine e_end (by kernel_rfl) ?_
  refine q_next ?_
  refine pwp_seq ?_
  refine pwp_seq ?_
  refine r_reg ?_
  refine e_end (by kernel_rfl) ?_
  refine q_next ?_
  refine pwp_block ?_
  refine g_nil 5 100005 1 8 (by kernel_rfl) (by kernel_rfl) ?_
  obtain ⟨o17, h17, h⟩ := o_inl h
  refine r_loop2 26 0 (fun (x12, x13) => ⟨[(0, .int .i64 a0), (1, .int .i64 a1), (5, lstOf (.own 100005) (x13 : (List Int))), (6, .int .i64 x12)], [], [(100005, (((x13).map cellsOf).length, 1))]⟩) (fun x19 => ⟨[(5, lstOf (.own 100005) (x19 : (List Int)))], [], [(100005, (((x19).map cellsOf).length, 1))]⟩) h17 (by kernel_rfl) (fun _ => by kernel_rfl) ?_ ?_
  · rintro ⟨x12, x13⟩ oh16 h16
    unfold f19_0 at h16
    refine pwp_seq ?_
    refine pwp_seq ?_
    refine r_reg ?_
    refine e_end (by kernel_rfl) ?_
    refine q_next ?_
    rcases o_cond h16 with ⟨hb, h16⟩ | ⟨hb, h16⟩
    · refine r_cond_t hb (by kernel_rfl) ?_
      refine pwp_skip ?_
      refine q_next ?_
      obtain ⟨o20, h20, h16⟩ := o_inl h16
      refine r_join (o := o20) 26 (fun x22 => ⟨[(0, .int .i64 a0), (1, .int .i64 a1), (5, lstOf (.own 100005) (x22 : (List Int))), (6, .int .i64 x12)], [], [(100005, (((x22).map cellsOf).length, 1))]⟩) ?_ ?_
      · refine pwp_block ?_
        refine pwp_seq ?_
        refine r_reg ?_
        refine p_run 3 (by kernel_rfl) ?_
        obtain ⟨r23, h21, h20⟩ := o_bind h20
        refine p_call (f26_ok _ _ _ r23 h21) (by kernel_rfl) (by kernel_rfl) ?_
        refine e_end (by kernel_rfl) ?_
        refine q_next ?_
        refine pwp_seq ?_
        refine r_reg ?_
        refine e_end (by kernel_rfl) ?_
        refine q_next ?_
        rcases o_cond h20 with ⟨hb, h20⟩ | ⟨hb, h20⟩
        · refine r_cond_t hb (by kernel_rfl) ?_
          refine r_reg ?_
          refine p_run 3 (by kernel_rfl) ?_
          obtain ⟨x24, h22, h20⟩ := o_bind h20
          refine p_app (tk := 100005) h22 (by kernel_rfl) (by kernel_rfl) ?_
          refine e_end (by kernel_rfl) ?_
          refine q_block ?_
          cases h20
          exact q_join (by kernel_rfl) (by kernel_rfl)
        · refine r_cond_f hb (by kernel_rfl) ?_
          refine pwp_skip ?_
          refine q_block ?_
          cases h20
          exact q_join (by kernel_rfl) (by kernel_rfl)
      · rintro x22 rfl
        have h16 := o_outl h16
        refine r_reg ?_
        refine e_end (by kernel_rfl) ?_
        cases h16
        exact q_lback (by kernel_rfl)
    · refine r_cond_f hb (by kernel_rfl) ?_
      refine pwp_exit ?_
      refine q_seq_exit ?_
      cases h16
      exact q_lexit (by kernel_rfl) (by kernel_rfl)
  · rintro x19 s' rfl hs
    have h := o_outl h
    refine q_block_hit ?_
    refine q_next (pwp_wkr hs ?_)
    refine pwp_seq ?_
    refine r_reg ?_
    refine e_end (by kernel_rfl) ?_
    refine q_next ?_
    refine pwp_ret ?_
    cases h
    exact q_ret (by kernel_rfl) (by kernel_rfl) (by kernel_rfl)
theorem f19_fz (a0 : Int) (a1 : Int) (r : (List Int)) (h : f19 a0 a1 = some r) : PCall Go.Proofs.Tryd.prog GlS 19 [Enc.pv a0, Enc.pv a1] (Enc.pv r) :=
  (f19_ok a0 a1 r h).freeze (by kernel_rfl) (by kernel_rfl) (by kernel_rfl)

/-! rail.Facing -/
noncomputable def f20 (a0 : Int) (a1 : Int) : Option Bool :=
  some ((decide (a0 = 2)) && (decide (a1 = 0)))
theorem f20_ok (a0 : Int) (a1 : Int) (r : Bool) (h : f20 a0 a1 = some r) : PCall Go.Proofs.Tryd.prog GlS 20 [Enc.pv a0, Enc.pv a1] (Enc.pv r) := by
  unfold f20 at h
  refine pcall_of_pwp Go.Proofs.Tryd.func20 (by rfl) rfl Go.Proofs.Tryd.ntmps20 (by rfl) rfl ?_
  refine pwp_seq ?_
  refine r_reg ?_
  refine e_end (by kernel_rfl) ?_
  refine q_next ?_
  refine pwp_seq ?_
  refine r_reg ?_
  refine p_run 3 (by kernel_rfl) ?_
  refine e_segb 3 10 ((decide (a0 = 2)) && (decide (a1 = 0))) (fun x hx => ?_) ?_
  · rcases b_and hx with ⟨hb, hx⟩ | ⟨hb, hx⟩
    · refine p_settle 7 hb (by kernel_rfl) (by kernel_rfl) ?_
      subst hx
      exact f_end (by kernel_rfl) (by kernel_rfl)
    · refine p_settle 7 hb (by kernel_rfl) (by kernel_rfl) ?_
      subst hx
      exact f_end (by kernel_rfl) (by kernel_rfl)
  · refine e_end (by kernel_rfl) ?_
    refine q_next ?_
    refine pwp_ret ?_
    cases h
    exact q_ret (by kernel_rfl) (by kernel_rfl) (by kernel_rfl)

/-! signallingref06.Facing -/
noncomputable def f21 (a0 : Int) (a1 : Int) : Option Bool :=
  some ((decide (a0 = 2)) && (decide (a1 = 0)))
theorem f21_ok (a0 : Int) (a1 : Int) (r : Bool) (h : f21 a0 a1 = some r) : PCall Go.Proofs.Tryd.prog GlS 21 [Enc.pv a0, Enc.pv a1] (Enc.pv r) := by
  unfold f21 at h
  refine pcall_of_pwp Go.Proofs.Tryd.func21 (by rfl) rfl Go.Proofs.Tryd.ntmps21 (by rfl) rfl ?_
  refine pwp_seq ?_
  refine r_reg ?_
  refine e_end (by kernel_rfl) ?_
  refine q_next ?_
  refine pwp_seq ?_
  refine r_reg ?_
  refine p_run 3 (by kernel_rfl) ?_
  refine e_segb 3 10 ((decide (a0 = 2)) && (decide (a1 = 0))) (fun x hx => ?_) ?_
  · rcases b_and hx with ⟨hb, hx⟩ | ⟨hb, hx⟩
    · refine p_settle 7 hb (by kernel_rfl) (by kernel_rfl) ?_
      subst hx
      exact f_end (by kernel_rfl) (by kernel_rfl)
    · refine p_settle 7 hb (by kernel_rfl) (by kernel_rfl) ?_
      subst hx
      exact f_end (by kernel_rfl) (by kernel_rfl)
  · refine e_end (by kernel_rfl) ?_
    refine q_next ?_
    refine pwp_ret ?_
    cases h
    exact q_ret (by kernel_rfl) (by kernel_rfl) (by kernel_rfl)

/-! rail.Out -/
noncomputable def f23_0 (a0 : Int) (a1 : Int) (a2 : Int) : Int → Option (Int ⊕ (Unit ⊕ (Int × Bool))) := fun x2 =>
  bif decide (x2 < 10) then (
    (ixO tab1 x2).bind fun x4 =>
    bif (((decide (x4.kind_ = a0)) && (decide (x4.in_ = a1))) && ((decide (x4.need_ = 0)) || (decide (x4.need_ = a2)))) then (
      some (.inr (.inr (x4.out_, true)))
    ) else (
      some (.inl (w64 (x2 + 1)))
    )
  ) else (
    some (.inr (.inl ()))
  )

noncomputable def f23 (a0 : Int) (a1 : Int) (a2 : Int) : Option (Int × Bool) :=
  onInl (α := Unit) (β := (Int × Bool)) (loopO (f23_0 a0 a1 a2) 0) fun _ =>
  some (0, false)
theorem f23_ok (a0 : Int) (a1 : Int) (a2 : Int) (r : (Int × Bool)) (h : f23 a0 a1 a2 = some r) : PCall Go.Proofs.Tryd.prog GlS 23 [Enc.pv a0, Enc.pv a1, Enc.pv a2] (.tup [Enc.pv r.1, Enc.pv r.2]) := by
  unfold f23 at h
  refine pcall_of_pwp Go.Proofs.Tryd.func23 (by rfl) rfl Go.Proofs.Tryd.ntmps23 (by rfl) rfl ?_
  refine pwp_seq ?_
  refine r_reg ?_
  refine e_end (by kernel_rfl) ?_
  refine q_next ?_
  refine pwp_seq ?_
  refine pwp_seq ?_
  refine r_reg ?_
  refine e_end (by kernel_rfl) ?_
  refine q_next ?_
  refine pwp_block ?_
  obtain ⟨o6, h6, h⟩ := o_inl h
  refine r_loop2 38 0 (fun x2 => ⟨[(0, .int .i64 a0), (1, .int .i64 a1), (2, .int .i64 a2), (10, .agg (tab1.flatMap cellsOf)), (11, .int .i64 x2)], [], []⟩) (fun (_ : Unit) => ⟨[], [], []⟩) h6 (by kernel_rfl) (fun _ => by kernel_rfl) ?_ ?_
  · rintro x2 oh5 h5
    unfold f23_0 at h5
    refine pwp_seq ?_
    refine r_reg ?_
    refine e_end (by kernel_rfl) ?_
    refine q_next ?_
    refine pwp_seq ?_
    rcases o_cond h5 with ⟨hb, h5⟩ | ⟨hb, h5⟩
    · refine r_cond_t hb (by kernel_rfl) ?_
      refine pwp_skip ?_
      refine q_next ?_
      refine pwp_seq ?_
      refine pwp_block ?_
      refine pwp_seq ?_
      refine r_reg ?_
      obtain ⟨x4, h7, h5⟩ := o_bind h5
      refine p_tix (tab := tab1) h7 true 10 4 (by kernel_rfl) (by kernel_rfl) (by kernel_rfl) (by kernel_rfl) ?_
      refine e_end (by kernel_rfl) ?_
      refine q_next ?_
      refine pwp_seq ?_
      refine r_reg ?_
      refine p_run 5 (by kernel_rfl) ?_
      refine e_segb 5 23 ((decide (x4.kind_ = a0)) && (decide (x4.in_ = a1))) (fun x hx => ?_) ?_
      · rcases b_and hx with ⟨hb, hx⟩ | ⟨hb, hx⟩
        · refine p_settle 18 hb (by kernel_rfl) (by kernel_rfl) ?_
          subst hx
          exact f_end (by kernel_rfl) (by kernel_rfl)
        · refine p_settle 18 hb (by kernel_rfl) (by kernel_rfl) ?_
          subst hx
          exact f_end (by kernel_rfl) (by kernel_rfl)
      · refine p_run 1 (by kernel_rfl) ?_
        refine e_segb 10 34 (((decide (x4.kind_ = a0)) && (decide (x4.in_ = a1))) && ((decide (x4.need_ = 0)) || (decide (x4.need_ = a2)))) (fun x hx => ?_) ?_
        · rcases b_and hx with ⟨hb, hx⟩ | ⟨hb, hx⟩
          · refine p_settle 24 hb (by kernel_rfl) (by kernel_rfl) ?_
            refine p_run 4 (by kernel_rfl) ?_
            refine f_segb 5 33 ((decide (x4.need_ = 0)) || (decide (x4.need_ = a2))) (fun x hx => ?_) ?_
            · rcases b_or hx with ⟨hb, hx⟩ | ⟨hb, hx⟩
              · refine p_settle 28 hb (by kernel_rfl) (by kernel_rfl) ?_
                subst hx
                exact f_end (by kernel_rfl) (by kernel_rfl)
              · refine p_settle 28 hb (by kernel_rfl) (by kernel_rfl) ?_
                subst hx
                exact f_end (by kernel_rfl) (by kernel_rfl)
            · subst hx
              exact f_end (by kernel_rfl) (by kernel_rfl)
          · refine p_settle 24 hb (by kernel_rfl) (by kernel_rfl) ?_
            subst hx
            exact f_end (by kernel_rfl) (by kernel_rfl)
        · refine e_nil (by kernel_rfl) ?_
          refine q_next ?_
          rcases o_cond h5 with ⟨hb, h5⟩ | ⟨hb, h5⟩
          · refine r_cond_t hb (by kernel_rfl) ?_
            refine pwp_seq ?_
            refine r_reg ?_
            refine e_end (by kernel_rfl) ?_
            refine q_next ?_
            refine pwp_ret ?_
            refine q_block_ret ?_
            refine q_seq_ret ?_
            cases h5
            refine q_lout_ret fun he => ?_
            subst he
            have h8 := o_outr h
            refine q_block_ret ?_
            refine q_seq_ret ?_
            cases h8
            exact q_ret (by kernel_rfl) (by kernel_rfl) (by kernel_rfl)
          · refine r_cond_f hb (by kernel_rfl) ?_
            refine pwp_skip ?_
            refine q_block ?_
            refine q_next ?_
            refine r_reg ?_
            refine e_end (by kernel_rfl) ?_
            cases h5
            exact q_lback (by kernel_rfl)
    · refine r_cond_f hb (by kernel_rfl) ?_
      refine pwp_exit ?_
      refine q_seq_exit ?_
      cases h5
      exact q_lexit (by kernel_rfl) (by kernel_rfl)
  · rintro _ s' rfl hs
    have h := o_outl h
    refine q_block_hit ?_
    refine q_next (pwp_wkr hs ?_)
    refine pwp_seq ?_
    refine r_reg ?_
    refine e_end (by kernel_rfl) ?_
    refine q_next ?_
    refine pwp_ret ?_
    cases h
    exact q_ret (by kernel_rfl) (by kernel_rfl) (by kernel_rfl)

/-! rail.Need -/
noncomputable def f25_0 (a0 : Int) (a1 : Int) (a2 : Int) : Int → Option (Int ⊕ (Unit ⊕ (Int × Bool))) := fun x2 =>
  bif decide (x2 < 10) then (
    (ixO tab1 x2).bind fun x4 =>
    bif (((decide (x4.kind_ = a0)) && (decide (x4.in_ = a1))) && (decide (x4.out_ = a2))) then (
      some (.inr (.inr (x4.need_, true)))
    ) else (
      some (.inl (w64 (x2 + 1)))
    )
  ) else (
    some (.inr (.inl ()))
  )

noncomputable def f25 (a0 : Int) (a1 : Int) (a2 : Int) : Option (Int × Bool) :=
  onInl (α := Unit) (β := (Int × Bool)) (loopO (f25_0 a0 a1 a2) 0) fun _ =>
  some (0, false)
theorem f25_ok (a0 : Int) (a1 : Int) (a2 : Int) (r : (Int × Bool)) (h : f25 a0 a1 a2 = some r) : PCall Go.Proofs.Tryd.prog GlS 25 [Enc.pv a0, Enc.pv a1, Enc.pv a2] (.tup [Enc.pv r.1, Enc.pv r.2]) := by
  unfold f25 at h
  refine pcall_of_pwp Go.Proofs.Tryd.func25 (by rfl) rfl Go.Proofs.Tryd.ntmps25 (by rfl) rfl ?_
  refine pwp_seq ?_
  refine r_reg ?_
  refine e_end (by kernel_rfl) ?_
  refine q_next ?_
  refine pwp_seq ?_
  refine pwp_seq ?_
  refine r_reg ?_
  refine e_end (by kernel_rfl) ?_
  refine q_next ?_
  refine pwp_block ?_
  obtain ⟨o6, h6, h⟩ := o_inl h
  refine r_loop2 33 0 (fun x2 => ⟨[(0, .int .i64 a0), (1, .int .i64 a1), (2, .int .i64 a2), (10, .agg (tab1.flatMap cellsOf)), (11, .int .i64 x2)], [], []⟩) (fun (_ : Unit) => ⟨[], [], []⟩) h6 (by kernel_rfl) (fun _ => by kernel_rfl) ?_ ?_
  · rintro x2 oh5 h5
    unfold f25_0 at h5
    refine pwp_seq ?_
    refine r_reg ?_
    refine e_end (by kernel_rfl) ?_
    refine q_next ?_
    refine pwp_seq ?_
    rcases o_cond h5 with ⟨hb, h5⟩ | ⟨hb, h5⟩
    · refine r_cond_t hb (by kernel_rfl) ?_
      refine pwp_skip ?_
      refine q_next ?_
      refine pwp_seq ?_
      refine pwp_block ?_
      refine pwp_seq ?_
      refine r_reg ?_
      obtain ⟨x4, h7, h5⟩ := o_bind h5
      refine p_tix (tab := tab1) h7 true 10 4 (by kernel_rfl) (by kernel_rfl) (by kernel_rfl) (by kernel_rfl) ?_
      refine e_end (by kernel_rfl) ?_
      refine q_next ?_
      refine pwp_seq ?_
      refine r_reg ?_
      refine p_run 5 (by kernel_rfl) ?_
      refine e_segb 5 23 ((decide (x4.kind_ = a0)) && (decide (x4.in_ = a1))) (fun x hx => ?_) ?_
      · rcases b_and hx with ⟨hb, hx⟩ | ⟨hb, hx⟩
        · refine p_settle 18 hb (by kernel_rfl) (by kernel_rfl) ?_
          subst hx
          exact f_end (by kernel_rfl) (by kernel_rfl)
        · refine p_settle 18 hb (by kernel_rfl) (by kernel_rfl) ?_
          subst hx
          exact f_end (by kernel_rfl) (by kernel_rfl)
      · refine p_run 1 (by kernel_rfl) ?_
        refine e_segb 5 29 (((decide (x4.kind_ = a0)) && (decide (x4.in_ = a1))) && (decide (x4.out_ = a2))) (fun x hx => ?_) ?_
        · rcases b_and hx with ⟨hb, hx⟩ | ⟨hb, hx⟩
          · refine p_settle 24 hb (by kernel_rfl) (by kernel_rfl) ?_
            subst hx
            exact f_end (by kernel_rfl) (by kernel_rfl)
          · refine p_settle 24 hb (by kernel_rfl) (by kernel_rfl) ?_
            subst hx
            exact f_end (by kernel_rfl) (by kernel_rfl)
        · refine e_nil (by kernel_rfl) ?_
          refine q_next ?_
          rcases o_cond h5 with ⟨hb, h5⟩ | ⟨hb, h5⟩
          · refine r_cond_t hb (by kernel_rfl) ?_
            refine pwp_seq ?_
            refine r_reg ?_
            refine e_end (by kernel_rfl) ?_
            refine q_next ?_
            refine pwp_ret ?_
            refine q_block_ret ?_
            refine q_seq_ret ?_
            cases h5
            refine q_lout_ret fun he => ?_
            subst he
            have h8 := o_outr h
            refine q_block_ret ?_
            refine q_seq_ret ?_
            cases h8
            exact q_ret (by kernel_rfl) (by kernel_rfl) (by kernel_rfl)
          · refine r_cond_f hb (by kernel_rfl) ?_
            refine pwp_skip ?_
            refine q_block ?_
            refine q_next ?_
            refine r_reg ?_
            refine e_end (by kernel_rfl) ?_
            cases h5
            exact q_lback (by kernel_rfl)
    · refine r_cond_f hb (by kernel_rfl) ?_
      refine pwp_exit ?_
      refine q_seq_exit ?_
      cases h5
      exact q_lexit (by kernel_rfl) (by kernel_rfl)
  · rintro _ s' rfl hs
    have h := o_outl h
    refine q_block_hit ?_
    refine q_next (pwp_wkr hs ?_)
    refine pwp_seq ?_
    refine r_reg ?_
    refine e_end (by kernel_rfl) ?_
    refine q_next ?_
    refine pwp_ret ?_
    cases h
    exact q_ret (by kernel_rfl) (by kernel_rfl) (by kernel_rfl)

/-! signallinglaw06.alive -/
noncomputable def f22 : Option Bool :=
  (f23 2 0 2).bind fun r1 =>
  (f23 2 2 1).bind fun r2 =>
  (f25 3 3 2).bind fun r3 =>
  (f18 2 0).bind fun r4 =>
  ((bif (((((decide (r1.1 = 2)) && r1.2) && (!r2.2)) && (decide (r3.1 = 0))) && r3.2) then (
    (f17 r4 [1, 2]).bind fun r6 =>
    some r6
  ) else some false) : Option Bool).bind fun b5 =>
  ((bif b5 then (
    (f15 3).bind fun r8 =>
    some (decide (r8 = 4))
  ) else some false) : Option Bool).bind fun b7 =>
  ((bif b7 then (
    (f20 2 0).bind fun r10 =>
    some r10
  ) else some false) : Option Bool).bind fun b9 =>
  some b9
theorem f22_ok (r : Bool) (h : f22  = some r) : PCall Go.Proofs.Tryd.prog GlS 22 [] (Enc.pv r) := by
  unfold f22 at h
  refine pcall_of_pwp Go.Proofs.Tryd.func22 (by rfl) rfl Go.Proofs.Tryd.ntmps22 (by rfl) rfl ?_
  refine pwp_seq ?_
  refine r_reg ?_
  refine e_end (by kernel_rfl) ?_
  refine q_next ?_
  refine pwp_seq ?_
  refine r_reg ?_
  obtain ⟨r1, h1, h⟩ := o_bind h
  refine p_call (f23_ok _ _ _ r1 h1) (by kernel_rfl) (by kernel_rfl) ?_
  refine e_end (by kernel_rfl) ?_
  refine q_next ?_
  refine pwp_seq ?_
  refine r_reg ?_
  obtain ⟨r2, h2, h⟩ := o_bind h
  refine p_call (f23_ok _ _ _ r2 h2) (by kernel_rfl) (by kernel_rfl) ?_
  refine e_end (by kernel_rfl) ?_
  refine q_next ?_
  refine pwp_seq ?_
  refine r_reg ?_
  obtain ⟨r3, h3, h⟩ := o_bind h
  refine p_call (f25_ok _ _ _ r3 h3) (by kernel_rfl) (by kernel_rfl) ?_
  refine e_end (by kernel_rfl) ?_
  refine q_next ?_
  refine pwp_seq ?_
  refine r_reg ?_
  obtain ⟨r4, h4, h⟩ := o_bind h
  refine p_call (f18_ok _ _ r4 h4) (by kernel_rfl) (by kernel_rfl) ?_
  refine e_end (by kernel_rfl) ?_
  refine q_next ?_
  refine pwp_seq ?_
  refine r_reg ?_
  refine p_run 3 (by kernel_rfl) ?_
  refine e_segb 2 25 ((decide (r1.1 = 2)) && r1.2) (fun x hx => ?_) ?_
  · rcases b_and hx with ⟨hb, hx⟩ | ⟨hb, hx⟩
    · refine p_settle 23 hb (by kernel_rfl) (by kernel_rfl) ?_
      subst hx
      exact f_end (by kernel_rfl) (by kernel_rfl)
    · refine p_settle 23 hb (by kernel_rfl) (by kernel_rfl) ?_
      subst hx
      exact f_end (by kernel_rfl) (by kernel_rfl)
  · refine p_run 1 (by kernel_rfl) ?_
    refine e_segb 3 29 (((decide (r1.1 = 2)) && r1.2) && (!r2.2)) (fun x hx => ?_) ?_
    · rcases b_and hx with ⟨hb, hx⟩ | ⟨hb, hx⟩
      · refine p_settle 26 hb (by kernel_rfl) (by kernel_rfl) ?_
        subst hx
        exact f_end (by kernel_rfl) (by kernel_rfl)
      · refine p_settle 26 hb (by kernel_rfl) (by kernel_rfl) ?_
        subst hx
        exact f_end (by kernel_rfl) (by kernel_rfl)
    · refine p_run 1 (by kernel_rfl) ?_
      refine e_segb 3 33 ((((decide (r1.1 = 2)) && r1.2) && (!r2.2)) && (decide (r3.1 = 0))) (fun x hx => ?_) ?_
      · rcases b_and hx with ⟨hb, hx⟩ | ⟨hb, hx⟩
        · refine p_settle 30 hb (by kernel_rfl) (by kernel_rfl) ?_
          subst hx
          exact f_end (by kernel_rfl) (by kernel_rfl)
        · refine p_settle 30 hb (by kernel_rfl) (by kernel_rfl) ?_
          subst hx
          exact f_end (by kernel_rfl) (by kernel_rfl)
      · refine p_run 1 (by kernel_rfl) ?_
        refine e_segb 2 36 (((((decide (r1.1 = 2)) && r1.2) && (!r2.2)) && (decide (r3.1 = 0))) && r3.2) (fun x hx => ?_) ?_
        · rcases b_and hx with ⟨hb, hx⟩ | ⟨hb, hx⟩
          · refine p_settle 34 hb (by kernel_rfl) (by kernel_rfl) ?_
            subst hx
            exact f_end (by kernel_rfl) (by kernel_rfl)
          · refine p_settle 34 hb (by kernel_rfl) (by kernel_rfl) ?_
            subst hx
            exact f_end (by kernel_rfl) (by kernel_rfl)
        · obtain ⟨b5, h5, h⟩ := o_bind h
          refine p_run 1 (by kernel_rfl) ?_
          refine e_seg 4 41 (.bool b5) ?_ ?_
          · rcases o_cond h5 with ⟨hb, h5⟩ | ⟨hb, h5⟩
            · refine p_settle 37 hb (by kernel_rfl) (by kernel_rfl) ?_
              refine p_run 2 (by kernel_rfl) ?_
              obtain ⟨r6, h6, h5⟩ := o_bind h5
              refine p_call (f17_ok _ _ r6 h6) (by kernel_rfl) (by kernel_rfl) ?_
              cases h5
              exact f_end (by kernel_rfl) (by kernel_rfl)
            · refine p_settle 37 hb (by kernel_rfl) (by kernel_rfl) ?_
              cases h5
              exact f_end (by kernel_rfl) (by kernel_rfl)
          · obtain ⟨b7, h7, h⟩ := o_bind h
            refine p_run 1 (by kernel_rfl) ?_
            refine e_seg 3 45 (.bool b7) ?_ ?_
            · rcases o_cond h7 with ⟨hb, h7⟩ | ⟨hb, h7⟩
              · refine p_settle 42 hb (by kernel_rfl) (by kernel_rfl) ?_
                obtain ⟨r8, h8, h7⟩ := o_bind h7
                refine p_call (f15_ok _ r8 h8) (by kernel_rfl) (by kernel_rfl) ?_
                cases h7
                exact f_end (by kernel_rfl) (by kernel_rfl)
              · refine p_settle 42 hb (by kernel_rfl) (by kernel_rfl) ?_
                cases h7
                exact f_end (by kernel_rfl) (by kernel_rfl)
            · obtain ⟨b9, h9, h⟩ := o_bind h
              refine p_run 1 (by kernel_rfl) ?_
              refine e_seg 2 48 (.bool b9) ?_ ?_
              · rcases o_cond h9 with ⟨hb, h9⟩ | ⟨hb, h9⟩
                · refine p_settle 46 hb (by kernel_rfl) (by kernel_rfl) ?_
                  obtain ⟨r10, h10, h9⟩ := o_bind h9
                  refine p_call (f20_ok _ _ r10 h10) (by kernel_rfl) (by kernel_rfl) ?_
                  cases h9
                  exact f_end (by kernel_rfl) (by kernel_rfl)
                · refine p_settle 46 hb (by kernel_rfl) (by kernel_rfl) ?_
                  cases h9
                  exact f_end (by kernel_rfl) (by kernel_rfl)
              · refine e_end (by kernel_rfl) ?_
                refine q_next ?_
                refine pwp_ret ?_
                cases h
                exact q_ret (by kernel_rfl) (by kernel_rfl) (by kernel_rfl)

/-! signallinglaw06.RailSides -/
noncomputable def f3 (a0 : Int) (a1 : Int) : Option Bool :=
  (f15 a0).bind fun r1 =>
  (f16 a0).bind fun r2 =>
  ((bif decide (r1 = r2) then (
    (f18 a0 a1).bind fun r4 =>
    (f19 a0 a1).bind fun r5 =>
    (f17 r4 r5).bind fun r6 =>
    some r6
  ) else some false) : Option Bool).bind fun b3 =>
  ((bif b3 then (
    (f20 a0 a1).bind fun r8 =>
    (f21 a0 a1).bind fun r9 =>
    some (r8 == r9)
  ) else some false) : Option Bool).bind fun b7 =>
  ((bif b7 then (
    (f22 ).bind fun r11 =>
    some r11
  ) else some false) : Option Bool).bind fun b10 =>
  some b10
theorem f3_ok (a0 : Int) (a1 : Int) (r : Bool) (h : f3 a0 a1 = some r) : PCall Go.Proofs.Tryd.prog GlS 3 [Enc.pv a0, Enc.pv a1] (Enc.pv r) := by
  unfold f3 at h
  refine pcall_of_pwp Go.Proofs.Tryd.func3 (by rfl) rfl Go.Proofs.Tryd.ntmps3 (by rfl) rfl ?_
  refine pwp_seq ?_
  refine r_reg ?_
  refine e_end (by kernel_rfl) ?_
  refine q_next ?_
  refine pwp_seq ?_
  refine r_reg ?_
  refine p_run 1 (by kernel_rfl) ?_
  obtain ⟨r1, h1, h⟩ := o_bind h
  refine p_call (f15_ok _ r1 h1) (by kernel_rfl) (by kernel_rfl) ?_
  refine p_run 1 (by kernel_rfl) ?_
  obtain ⟨r2, h2, h⟩ := o_bind h
  refine p_call (f16_ok _ r2 h2) (by kernel_rfl) (by kernel_rfl) ?_
  obtain ⟨b3, h3, h⟩ := o_bind h
  refine p_run 2 (by kernel_rfl) ?_
  refine e_seg 8 18 (.bool b3) ?_ ?_
  · rcases o_cond h3 with ⟨hb, h3⟩ | ⟨hb, h3⟩
    · refine p_settle 10 hb (by kernel_rfl) (by kernel_rfl) ?_
      refine p_run 2 (by kernel_rfl) ?_
      obtain ⟨r4, h4, h3⟩ := o_bind h3
      refine p_call (f18_fz _ _ r4 h4) (by kernel_rfl) (by kernel_rfl) ?_
      refine p_run 2 (by kernel_rfl) ?_
      obtain ⟨r5, h5, h3⟩ := o_bind h3
      refine p_call (f19_fz _ _ r5 h5) (by kernel_rfl) (by kernel_rfl) ?_
      obtain ⟨r6, h6, h3⟩ := o_bind h3
      refine p_call (f17_ok _ _ r6 h6) (by kernel_rfl) (by kernel_rfl) ?_
      cases h3
      exact f_end (by kernel_rfl) (by kernel_rfl)
    · refine p_settle 10 hb (by kernel_rfl) (by kernel_rfl) ?_
      cases h3
      exact f_end (by kernel_rfl) (by kernel_rfl)
  · obtain ⟨b7, h7, h⟩ := o_bind h
    refine p_run 1 (by kernel_rfl) ?_
    refine e_seg 8 27 (.bool b7) ?_ ?_
    · rcases o_cond h7 with ⟨hb, h7⟩ | ⟨hb, h7⟩
      · refine p_settle 19 hb (by kernel_rfl) (by kernel_rfl) ?_
        refine p_run 2 (by kernel_rfl) ?_
        obtain ⟨r8, h8, h7⟩ := o_bind h7
        refine p_call (f20_ok _ _ r8 h8) (by kernel_rfl) (by kernel_rfl) ?_
        refine p_run 2 (by kernel_rfl) ?_
        obtain ⟨r9, h9, h7⟩ := o_bind h7
        refine p_call (f21_ok _ _ r9 h9) (by kernel_rfl) (by kernel_rfl) ?_
        cases h7
        exact f_end (by kernel_rfl) (by kernel_rfl)
      · refine p_settle 19 hb (by kernel_rfl) (by kernel_rfl) ?_
        cases h7
        exact f_end (by kernel_rfl) (by kernel_rfl)
    · obtain ⟨b10, h10, h⟩ := o_bind h
      refine p_run 1 (by kernel_rfl) ?_
      refine e_seg 2 30 (.bool b10) ?_ ?_
      · rcases o_cond h10 with ⟨hb, h10⟩ | ⟨hb, h10⟩
        · refine p_settle 28 hb (by kernel_rfl) (by kernel_rfl) ?_
          obtain ⟨r11, h11, h10⟩ := o_bind h10
          refine p_call (f22_ok  r11 h11) (by kernel_rfl) (by kernel_rfl) ?_
          cases h10
          exact f_end (by kernel_rfl) (by kernel_rfl)
        · refine p_settle 28 hb (by kernel_rfl) (by kernel_rfl) ?_
          cases h10
          exact f_end (by kernel_rfl) (by kernel_rfl)
      · refine e_end (by kernel_rfl) ?_
        refine q_next ?_
        refine pwp_ret ?_
        cases h
        exact q_ret (by kernel_rfl) (by kernel_rfl) (by kernel_rfl)

/-! signallingref06.Out -/
noncomputable def f24_0 (a0 : Int) (a1 : Int) (a2 : Int) : Int → Option (Int ⊕ (Unit ⊕ (Int × Bool))) := fun x2 =>
  bif decide (x2 < 4) then (
    (f26 a0 a1 x2).bind fun r4 =>
    bif (r4.2 && ((decide (r4.1 = 0)) || (decide (r4.1 = a2)))) then (
      some (.inr (.inr (x2, true)))
    ) else (
      some (.inl (w64 (x2 + 1)))
    )
  ) else (
    some (.inr (.inl ()))
  )

noncomputable def f24 (a0 : Int) (a1 : Int) (a2 : Int) : Option (Int × Bool) :=
  onInl (α := Unit) (β := (Int × Bool)) (loopO (f24_0 a0 a1 a2) 0) fun _ =>
  some (0, false)
theorem f24_ok (a0 : Int) (a1 : Int) (a2 : Int) (r : (Int × Bool)) (h : f24 a0 a1 a2 = some r) : PCall Go.Proofs.Tryd.prog GlS 24 [Enc.pv a0, Enc.pv a1, Enc.pv a2] (.tup [Enc.pv r.1, Enc.pv r.2]) := by
  unfold f24 at h
  refine pcall_of_pwp Go.Proofs.Tryd.func24 (by rfl) rfl Go.Proofs.Tryd.ntmps24 (by rfl) rfl ?_
  refine pwp_seq ?_
  refine r_reg ?_
  refine e_end (by kernel_rfl) ?_
  refine q_next ?_
  refine pwp_seq ?_
  refine pwp_seq ?_
  refine r_reg ?_
  refine e_end (by kernel_rfl) ?_
  refine q_next ?_
  refine pwp_block ?_
  obtain ⟨o6, h6, h⟩ := o_inl h
  refine r_loop2 33 0 (fun x2 => ⟨[(0, .int .i64 a0), (1, .int .i64 a1), (2, .int .i64 a2), (8, .int .i64 x2)], [], []⟩) (fun (_ : Unit) => ⟨[], [], []⟩) h6 (by kernel_rfl) (fun _ => by kernel_rfl) ?_ ?_
  · rintro x2 oh5 h5
    unfold f24_0 at h5
    refine pwp_seq ?_
    refine pwp_seq ?_
    refine r_reg ?_
    refine e_end (by kernel_rfl) ?_
    refine q_next ?_
    rcases o_cond h5 with ⟨hb, h5⟩ | ⟨hb, h5⟩
    · refine r_cond_t hb (by kernel_rfl) ?_
      refine pwp_skip ?_
      refine q_next ?_
      refine pwp_seq ?_
      refine pwp_block ?_
      refine pwp_seq ?_
      refine r_reg ?_
      refine p_run 3 (by kernel_rfl) ?_
      obtain ⟨r4, h7, h5⟩ := o_bind h5
      refine p_call (f26_ok _ _ _ r4 h7) (by kernel_rfl) (by kernel_rfl) ?_
      refine e_end (by kernel_rfl) ?_
      refine q_next ?_
      refine pwp_seq ?_
      refine r_reg ?_
      refine p_run 2 (by kernel_rfl) ?_
      refine e_segb 8 31 (r4.2 && ((decide (r4.1 = 0)) || (decide (r4.1 = a2)))) (fun x hx => ?_) ?_
      · rcases b_and hx with ⟨hb, hx⟩ | ⟨hb, hx⟩
        · refine p_settle 23 hb (by kernel_rfl) (by kernel_rfl) ?_
          refine p_run 3 (by kernel_rfl) ?_
          refine f_segb 4 30 ((decide (r4.1 = 0)) || (decide (r4.1 = a2))) (fun x hx => ?_) ?_
          · rcases b_or hx with ⟨hb, hx⟩ | ⟨hb, hx⟩
            · refine p_settle 26 hb (by kernel_rfl) (by kernel_rfl) ?_
              subst hx
              exact f_end (by kernel_rfl) (by kernel_rfl)
            · refine p_settle 26 hb (by kernel_rfl) (by kernel_rfl) ?_
              subst hx
              exact f_end (by kernel_rfl) (by kernel_rfl)
          · subst hx
            exact f_end (by kernel_rfl) (by kernel_rfl)
        · refine p_settle 23 hb (by kernel_rfl) (by kernel_rfl) ?_
          subst hx
          exact f_end (by kernel_rfl) (by kernel_rfl)
      · refine e_nil (by kernel_rfl) ?_
        refine q_next ?_
        rcases o_cond h5 with ⟨hb, h5⟩ | ⟨hb, h5⟩
        · refine r_cond_t hb (by kernel_rfl) ?_
          refine pwp_seq ?_
          refine r_reg ?_
          refine e_end (by kernel_rfl) ?_
          refine q_next ?_
          refine pwp_ret ?_
          refine q_block_ret ?_
          refine q_seq_ret ?_
          cases h5
          refine q_lout_ret fun he => ?_
          subst he
          have h8 := o_outr h
          refine q_block_ret ?_
          refine q_seq_ret ?_
          cases h8
          exact q_ret (by kernel_rfl) (by kernel_rfl) (by kernel_rfl)
        · refine r_cond_f hb (by kernel_rfl) ?_
          refine pwp_skip ?_
          refine q_block ?_
          refine q_next ?_
          refine r_reg ?_
          refine e_end (by kernel_rfl) ?_
          cases h5
          exact q_lback (by kernel_rfl)
    · refine r_cond_f hb (by kernel_rfl) ?_
      refine pwp_exit ?_
      refine q_seq_exit ?_
      cases h5
      exact q_lexit (by kernel_rfl) (by kernel_rfl)
  · rintro _ s' rfl hs
    have h := o_outl h
    refine q_block_hit ?_
    refine q_next (pwp_wkr hs ?_)
    refine pwp_seq ?_
    refine r_reg ?_
    refine e_end (by kernel_rfl) ?_
    refine q_next ?_
    refine pwp_ret ?_
    cases h
    exact q_ret (by kernel_rfl) (by kernel_rfl) (by kernel_rfl)

/-! signallinglaw06.RailPassages -/
noncomputable def f4 (a0 : Int) (a1 : Int) (a2 : Int) : Option Bool :=
  (f23 a0 a1 a2).bind fun r1 =>
  (f24 a0 a1 a2).bind fun r2 =>
  (f25 a0 a1 a2).bind fun r3 =>
  (f26 a0 a1 a2).bind fun r4 =>
  ((bif ((((decide (r1.1 = r2.1)) && (r1.2 == r2.2)) && (decide (r3.1 = r4.1))) && (r3.2 == r4.2)) then (
    (f22 ).bind fun r6 =>
    some r6
  ) else some false) : Option Bool).bind fun b5 =>
  some b5
theorem f4_ok (a0 : Int) (a1 : Int) (a2 : Int) (r : Bool) (h : f4 a0 a1 a2 = some r) : PCall Go.Proofs.Tryd.prog GlS 4 [Enc.pv a0, Enc.pv a1, Enc.pv a2] (Enc.pv r) := by
  unfold f4 at h
  refine pcall_of_pwp Go.Proofs.Tryd.func4 (by rfl) rfl Go.Proofs.Tryd.ntmps4 (by rfl) rfl ?_
  refine pwp_seq ?_
  refine r_reg ?_
  refine e_end (by kernel_rfl) ?_
  refine q_next ?_
  refine pwp_seq ?_
  refine r_reg ?_
  refine p_run 3 (by kernel_rfl) ?_
  obtain ⟨r1, h1, h⟩ := o_bind h
  refine p_call (f23_ok _ _ _ r1 h1) (by kernel_rfl) (by kernel_rfl) ?_
  refine e_end (by kernel_rfl) ?_
  refine q_next ?_
  refine pwp_seq ?_
  refine r_reg ?_
  refine p_run 3 (by kernel_rfl) ?_
  obtain ⟨r2, h2, h⟩ := o_bind h
  refine p_call (f24_ok _ _ _ r2 h2) (by kernel_rfl) (by kernel_rfl) ?_
  refine e_end (by kernel_rfl) ?_
  refine q_next ?_
  refine pwp_seq ?_
  refine r_reg ?_
  refine p_run 3 (by kernel_rfl) ?_
  obtain ⟨r3, h3, h⟩ := o_bind h
  refine p_call (f25_ok _ _ _ r3 h3) (by kernel_rfl) (by kernel_rfl) ?_
  refine e_end (by kernel_rfl) ?_
  refine q_next ?_
  refine pwp_seq ?_
  refine r_reg ?_
  refine p_run 3 (by kernel_rfl) ?_
  obtain ⟨r4, h4, h⟩ := o_bind h
  refine p_call (f26_ok _ _ _ r4 h4) (by kernel_rfl) (by kernel_rfl) ?_
  refine e_end (by kernel_rfl) ?_
  refine q_next ?_
  refine pwp_seq ?_
  refine r_reg ?_
  refine p_run 4 (by kernel_rfl) ?_
  refine e_segb 4 50 ((decide (r1.1 = r2.1)) && (r1.2 == r2.2)) (fun x hx => ?_) ?_
  · rcases b_and hx with ⟨hb, hx⟩ | ⟨hb, hx⟩
    · refine p_settle 46 hb (by kernel_rfl) (by kernel_rfl) ?_
      subst hx
      exact f_end (by kernel_rfl) (by kernel_rfl)
    · refine p_settle 46 hb (by kernel_rfl) (by kernel_rfl) ?_
      subst hx
      exact f_end (by kernel_rfl) (by kernel_rfl)
  · refine p_run 1 (by kernel_rfl) ?_
    refine e_segb 4 55 (((decide (r1.1 = r2.1)) && (r1.2 == r2.2)) && (decide (r3.1 = r4.1))) (fun x hx => ?_) ?_
    · rcases b_and hx with ⟨hb, hx⟩ | ⟨hb, hx⟩
      · refine p_settle 51 hb (by kernel_rfl) (by kernel_rfl) ?_
        subst hx
        exact f_end (by kernel_rfl) (by kernel_rfl)
      · refine p_settle 51 hb (by kernel_rfl) (by kernel_rfl) ?_
        subst hx
        exact f_end (by kernel_rfl) (by kernel_rfl)
    · refine p_run 1 (by kernel_rfl) ?_
      refine e_segb 4 60 ((((decide (r1.1 = r2.1)) && (r1.2 == r2.2)) && (decide (r3.1 = r4.1))) && (r3.2 == r4.2)) (fun x hx => ?_) ?_
      · rcases b_and hx with ⟨hb, hx⟩ | ⟨hb, hx⟩
        · refine p_settle 56 hb (by kernel_rfl) (by kernel_rfl) ?_
          subst hx
          exact f_end (by kernel_rfl) (by kernel_rfl)
        · refine p_settle 56 hb (by kernel_rfl) (by kernel_rfl) ?_
          subst hx
          exact f_end (by kernel_rfl) (by kernel_rfl)
      · obtain ⟨b5, h5, h⟩ := o_bind h
        refine p_run 1 (by kernel_rfl) ?_
        refine e_seg 2 63 (.bool b5) ?_ ?_
        · rcases o_cond h5 with ⟨hb, h5⟩ | ⟨hb, h5⟩
          · refine p_settle 61 hb (by kernel_rfl) (by kernel_rfl) ?_
            obtain ⟨r6, h6, h5⟩ := o_bind h5
            refine p_call (f22_ok  r6 h6) (by kernel_rfl) (by kernel_rfl) ?_
            cases h5
            exact f_end (by kernel_rfl) (by kernel_rfl)
          · refine p_settle 61 hb (by kernel_rfl) (by kernel_rfl) ?_
            cases h5
            exact f_end (by kernel_rfl) (by kernel_rfl)
        · refine e_end (by kernel_rfl) ?_
          refine q_next ?_
          refine pwp_ret ?_
          cases h
          exact q_ret (by kernel_rfl) (by kernel_rfl) (by kernel_rfl)

/-! signallinglaw06.RailSymmetric -/
noncomputable def f5 (a0 : Int) (a1 : Int) (a2 : Int) (a3 : Int) : Option Bool :=
  (f25 a0 a1 a2).bind fun r1 =>
  (f25 a0 a2 a1).bind fun r2 =>
  (f23 a0 a1 a3).bind fun r3 =>
  (f23 a0 r3.1 a3).bind fun r4 =>
  ((bif (((decide (r1.1 = r2.1)) && (r1.2 == r2.2)) && ((!r3.2) || (r4.2 && (decide (r4.1 = a1))))) then (
    (f22 ).bind fun r6 =>
    some r6
  ) else some false) : Option Bool).bind fun b5 =>
  some b5
theorem f5_ok (a0 : Int) (a1 : Int) (a2 : Int) (a3 : Int) (r : Bool) (h : f5 a0 a1 a2 a3 = some r) : PCall Go.Proofs.Tryd.prog GlS 5 [Enc.pv a0, Enc.pv a1, Enc.pv a2, Enc.pv a3] (Enc.pv r) := by
  unfold f5 at h
  refine pcall_of_pwp Go.Proofs.Tryd.func5 (by rfl) rfl Go.Proofs.Tryd.ntmps5 (by rfl) rfl ?_
  refine pwp_seq ?_
  refine r_reg ?_
  refine e_end (by kernel_rfl) ?_
  refine q_next ?_
  refine pwp_seq ?_
  refine r_reg ?_
  refine p_run 3 (by kernel_rfl) ?_
  obtain ⟨r1, h1, h⟩ := o_bind h
  refine p_call (f25_ok _ _ _ r1 h1) (by kernel_rfl) (by kernel_rfl) ?_
  refine e_end (by kernel_rfl) ?_
  refine q_next ?_
  refine pwp_seq ?_
  refine r_reg ?_
  refine p_run 3 (by kernel_rfl) ?_
  obtain ⟨r2, h2, h⟩ := o_bind h
  refine p_call (f25_ok _ _ _ r2 h2) (by kernel_rfl) (by kernel_rfl) ?_
  refine e_end (by kernel_rfl) ?_
  refine q_next ?_
  refine pwp_seq ?_
  refine r_reg ?_
  refine p_run 3 (by kernel_rfl) ?_
  obtain ⟨r3, h3, h⟩ := o_bind h
  refine p_call (f23_ok _ _ _ r3 h3) (by kernel_rfl) (by kernel_rfl) ?_
  refine e_end (by kernel_rfl) ?_
  refine q_next ?_
  refine pwp_seq ?_
  refine r_reg ?_
  refine p_run 3 (by kernel_rfl) ?_
  obtain ⟨r4, h4, h⟩ := o_bind h
  refine p_call (f23_ok _ _ _ r4 h4) (by kernel_rfl) (by kernel_rfl) ?_
  refine e_end (by kernel_rfl) ?_
  refine q_next ?_
  refine pwp_seq ?_
  refine r_reg ?_
  refine p_run 4 (by kernel_rfl) ?_
  refine e_segb 4 52 ((decide (r1.1 = r2.1)) && (r1.2 == r2.2)) (fun x hx => ?_) ?_
  · rcases b_and hx with ⟨hb, hx⟩ | ⟨hb, hx⟩
    · refine p_settle 48 hb (by kernel_rfl) (by kernel_rfl) ?_
      subst hx
      exact f_end (by kernel_rfl) (by kernel_rfl)
    · refine p_settle 48 hb (by kernel_rfl) (by kernel_rfl) ?_
      subst hx
      exact f_end (by kernel_rfl) (by kernel_rfl)
  · refine p_run 1 (by kernel_rfl) ?_
    refine e_segb 11 64 (((decide (r1.1 = r2.1)) && (r1.2 == r2.2)) && ((!r3.2) || (r4.2 && (decide (r4.1 = a1))))) (fun x hx => ?_) ?_
    · rcases b_and hx with ⟨hb, hx⟩ | ⟨hb, hx⟩
      · refine p_settle 53 hb (by kernel_rfl) (by kernel_rfl) ?_
        refine p_run 3 (by kernel_rfl) ?_
        refine f_segb 7 63 ((!r3.2) || (r4.2 && (decide (r4.1 = a1)))) (fun x hx => ?_) ?_
        · rcases b_or hx with ⟨hb, hx⟩ | ⟨hb, hx⟩
          · refine p_settle 56 hb (by kernel_rfl) (by kernel_rfl) ?_
            subst hx
            exact f_end (by kernel_rfl) (by kernel_rfl)
          · refine p_settle 56 hb (by kernel_rfl) (by kernel_rfl) ?_
            refine p_run 2 (by kernel_rfl) ?_
            refine f_segb 4 62 (r4.2 && (decide (r4.1 = a1))) (fun x hx => ?_) ?_
            · rcases b_and hx with ⟨hb, hx⟩ | ⟨hb, hx⟩
              · refine p_settle 58 hb (by kernel_rfl) (by kernel_rfl) ?_
                subst hx
                exact f_end (by kernel_rfl) (by kernel_rfl)
              · refine p_settle 58 hb (by kernel_rfl) (by kernel_rfl) ?_
                subst hx
                exact f_end (by kernel_rfl) (by kernel_rfl)
            · subst hx
              exact f_end (by kernel_rfl) (by kernel_rfl)
        · subst hx
          exact f_end (by kernel_rfl) (by kernel_rfl)
      · refine p_settle 53 hb (by kernel_rfl) (by kernel_rfl) ?_
        subst hx
        exact f_end (by kernel_rfl) (by kernel_rfl)
    · obtain ⟨b5, h5, h⟩ := o_bind h
      refine p_run 1 (by kernel_rfl) ?_
      refine e_seg 2 67 (.bool b5) ?_ ?_
      · rcases o_cond h5 with ⟨hb, h5⟩ | ⟨hb, h5⟩
        · refine p_settle 65 hb (by kernel_rfl) (by kernel_rfl) ?_
          obtain ⟨r6, h6, h5⟩ := o_bind h5
          refine p_call (f22_ok  r6 h6) (by kernel_rfl) (by kernel_rfl) ?_
          cases h5
          exact f_end (by kernel_rfl) (by kernel_rfl)
        · refine p_settle 65 hb (by kernel_rfl) (by kernel_rfl) ?_
          cases h5
          exact f_end (by kernel_rfl) (by kernel_rfl)
      · refine e_end (by kernel_rfl) ?_
        refine q_next ?_
        refine pwp_ret ?_
        cases h
        exact q_ret (by kernel_rfl) (by kernel_rfl) (by kernel_rfl)

/-! signallinglaw06.RailPositions -/
noncomputable def f6 (a0 : Int) (a1 : Int) (a2 : Int) (a3 : Int) : Option Bool :=
  (f23 a0 a1 a3).bind fun r1 =>
  (f25 a0 a1 a2).bind fun r2 =>
  ((bif (!((r1.2 && (decide (r1.1 = a2))) == (r2.2 && ((decide (r2.1 = 0)) || (decide (r2.1 = a3)))))) then some true else (
    ((bif r1.2 then (
      ((bif ((decide (r1.1 = a1)) || (decide (r1.1 < 0))) then some true else (
        (f15 a0).bind fun r6 =>
        some (decide (r6 ≤ r1.1))
      )) : Option Bool).bind fun b5 =>
      some b5
    ) else some false) : Option Bool).bind fun b4 =>
    some b4
  )) : Option Bool).bind fun b3 =>
  bif b3 then (
    some false
  ) else (
    (f23 a0 a2 a3).bind fun r7 =>
    ((bif ((((!r1.2) || (!r7.2)) || (decide (a1 = a2))) || (!(decide (r1.1 = r7.1)))) then (
      (f22 ).bind fun r9 =>
      some r9
    ) else some false) : Option Bool).bind fun b8 =>
    some b8
  )
theorem f6_ok (a0 : Int) (a1 : Int) (a2 : Int) (a3 : Int) (r : Bool) (h : f6 a0 a1 a2 a3 = some r) : PCall Go.Proofs.Tryd.prog GlS 6 [Enc.pv a0, Enc.pv a1, Enc.pv a2, Enc.pv a3] (Enc.pv r) := by
  unfold f6 at h
  refine pcall_of_pwp Go.Proofs.Tryd.func6 (by rfl) rfl Go.Proofs.Tryd.ntmps6 (by rfl) rfl ?_
  refine pwp_seq ?_
  refine r_reg ?_
  refine e_end (by kernel_rfl) ?_
  refine q_next ?_
  refine pwp_seq ?_
  refine r_reg ?_
  refine p_run 3 (by kernel_rfl) ?_
  obtain ⟨r1, h1, h⟩ := o_bind h
  refine p_call (f23_ok _ _ _ r1 h1) (by kernel_rfl) (by kernel_rfl) ?_
  refine e_end (by kernel_rfl) ?_
  refine q_next ?_
  refine pwp_seq ?_
  refine r_reg ?_
  refine p_run 3 (by kernel_rfl) ?_
  obtain ⟨r2, h2, h⟩ := o_bind h
  refine p_call (f25_ok _ _ _ r2 h2) (by kernel_rfl) (by kernel_rfl) ?_
  refine e_end (by kernel_rfl) ?_
  refine q_next ?_
  refine pwp_seq ?_
  refine pwp_seq ?_
  refine r_reg ?_
  refine p_run 2 (by kernel_rfl) ?_
  refine e_segb 4 34 (r1.2 && (decide (r1.1 = a2))) (fun x hx => ?_) ?_
  · rcases b_and hx with ⟨hb, hx⟩ | ⟨hb, hx⟩
    · refine p_settle 30 hb (by kernel_rfl) (by kernel_rfl) ?_
      subst hx
      exact f_end (by kernel_rfl) (by kernel_rfl)
    · refine p_settle 30 hb (by kernel_rfl) (by kernel_rfl) ?_
      subst hx
      exact f_end (by kernel_rfl) (by kernel_rfl)
  · refine p_run 2 (by kernel_rfl) ?_
    refine e_segb 8 44 (r2.2 && ((decide (r2.1 = 0)) || (decide (r2.1 = a3)))) (fun x hx => ?_) ?_
    · rcases b_and hx with ⟨hb, hx⟩ | ⟨hb, hx⟩
      · refine p_settle 36 hb (by kernel_rfl) (by kernel_rfl) ?_
        refine p_run 3 (by kernel_rfl) ?_
        refine f_segb 4 43 ((decide (r2.1 = 0)) || (decide (r2.1 = a3))) (fun x hx => ?_) ?_
        · rcases b_or hx with ⟨hb, hx⟩ | ⟨hb, hx⟩
          · refine p_settle 39 hb (by kernel_rfl) (by kernel_rfl) ?_
            subst hx
            exact f_end (by kernel_rfl) (by kernel_rfl)
          · refine p_settle 39 hb (by kernel_rfl) (by kernel_rfl) ?_
            subst hx
            exact f_end (by kernel_rfl) (by kernel_rfl)
        · subst hx
          exact f_end (by kernel_rfl) (by kernel_rfl)
      · refine p_settle 36 hb (by kernel_rfl) (by kernel_rfl) ?_
        subst hx
        exact f_end (by kernel_rfl) (by kernel_rfl)
    · obtain ⟨b3, h3, h⟩ := o_bind h
      refine p_run 2 (by kernel_rfl) ?_
      refine e_seg 17 63 (.bool b3) ?_ ?_
      · rcases o_cond h3 with ⟨hb, h3⟩ | ⟨hb, h3⟩
        · refine p_settle 46 hb (by kernel_rfl) (by kernel_rfl) ?_
          cases h3
          exact f_end (by kernel_rfl) (by kernel_rfl)
        · refine p_settle 46 hb (by kernel_rfl) (by kernel_rfl) ?_
          obtain ⟨b4, h4, h3⟩ := o_bind h3
          refine p_run 2 (by kernel_rfl) ?_
          refine f_seg 14 62 (.bool b4) ?_ ?_
          · rcases o_cond h4 with ⟨hb, h4⟩ | ⟨hb, h4⟩
            · refine p_settle 48 hb (by kernel_rfl) (by kernel_rfl) ?_
              refine p_run 4 (by kernel_rfl) ?_
              refine f_segb 3 55 ((decide (r1.1 = a1)) || (decide (r1.1 < 0))) (fun x hx => ?_) ?_
              · rcases b_or hx with ⟨hb, hx⟩ | ⟨hb, hx⟩
                · refine p_settle 52 hb (by kernel_rfl) (by kernel_rfl) ?_
                  subst hx
                  exact f_end (by kernel_rfl) (by kernel_rfl)
                · refine p_settle 52 hb (by kernel_rfl) (by kernel_rfl) ?_
                  subst hx
                  exact f_end (by kernel_rfl) (by kernel_rfl)
              · obtain ⟨b5, h5, h4⟩ := o_bind h4
                refine p_run 1 (by kernel_rfl) ?_
                refine f_seg 5 61 (.bool b5) ?_ ?_
                · rcases o_cond h5 with ⟨hb, h5⟩ | ⟨hb, h5⟩
                  · refine p_settle 56 hb (by kernel_rfl) (by kernel_rfl) ?_
                    cases h5
                    exact f_end (by kernel_rfl) (by kernel_rfl)
                  · refine p_settle 56 hb (by kernel_rfl) (by kernel_rfl) ?_
                    refine p_run 2 (by kernel_rfl) ?_
                    obtain ⟨r6, h6, h5⟩ := o_bind h5
                    refine p_call (f15_ok _ r6 h6) (by kernel_rfl) (by kernel_rfl) ?_
                    cases h5
                    exact f_end (by kernel_rfl) (by kernel_rfl)
                · cases h4
                  exact f_end (by kernel_rfl) (by kernel_rfl)
            · refine p_settle 48 hb (by kernel_rfl) (by kernel_rfl) ?_
              cases h4
              exact f_end (by kernel_rfl) (by kernel_rfl)
          · cases h3
            exact f_end (by kernel_rfl) (by kernel_rfl)
      · refine e_nil (by kernel_rfl) ?_
        refine q_next ?_
        rcases o_cond h with ⟨hb, h⟩ | ⟨hb, h⟩
        · refine r_cond_t hb (by kernel_rfl) ?_
          refine pwp_seq ?_
          refine r_reg ?_
          refine e_end (by kernel_rfl) ?_
          refine q_next ?_
          refine pwp_ret ?_
          refine q_seq_ret ?_
          cases h
          exact q_ret (by kernel_rfl) (by kernel_rfl) (by kernel_rfl)
        · refine r_cond_f hb (by kernel_rfl) ?_
          refine pwp_skip ?_
          refine q_next ?_
          refine pwp_seq ?_
          refine r_reg ?_
          refine p_run 3 (by kernel_rfl) ?_
          obtain ⟨r7, h7, h⟩ := o_bind h
          refine p_call (f23_ok _ _ _ r7 h7) (by kernel_rfl) (by kernel_rfl) ?_
          refine e_end (by kernel_rfl) ?_
          refine q_next ?_
          refine pwp_seq ?_
          refine r_reg ?_
          refine p_run 3 (by kernel_rfl) ?_
          refine e_segb 3 76 ((!r1.2) || (!r7.2)) (fun x hx => ?_) ?_
          · rcases b_or hx with ⟨hb, hx⟩ | ⟨hb, hx⟩
            · refine p_settle 73 hb (by kernel_rfl) (by kernel_rfl) ?_
              subst hx
              exact f_end (by kernel_rfl) (by kernel_rfl)
            · refine p_settle 73 hb (by kernel_rfl) (by kernel_rfl) ?_
              subst hx
              exact f_end (by kernel_rfl) (by kernel_rfl)
          · refine p_run 1 (by kernel_rfl) ?_
            refine e_segb 4 81 (((!r1.2) || (!r7.2)) || (decide (a1 = a2))) (fun x hx => ?_) ?_
            · rcases b_or hx with ⟨hb, hx⟩ | ⟨hb, hx⟩
              · refine p_settle 77 hb (by kernel_rfl) (by kernel_rfl) ?_
                subst hx
                exact f_end (by kernel_rfl) (by kernel_rfl)
              · refine p_settle 77 hb (by kernel_rfl) (by kernel_rfl) ?_
                subst hx
                exact f_end (by kernel_rfl) (by kernel_rfl)
            · refine p_run 1 (by kernel_rfl) ?_
              refine e_segb 4 86 ((((!r1.2) || (!r7.2)) || (decide (a1 = a2))) || (!(decide (r1.1 = r7.1)))) (fun x hx => ?_) ?_
              · rcases b_or hx with ⟨hb, hx⟩ | ⟨hb, hx⟩
                · refine p_settle 82 hb (by kernel_rfl) (by kernel_rfl) ?_
                  subst hx
                  exact f_end (by kernel_rfl) (by kernel_rfl)
                · refine p_settle 82 hb (by kernel_rfl) (by kernel_rfl) ?_
                  subst hx
                  exact f_end (by kernel_rfl) (by kernel_rfl)
              · obtain ⟨b8, h8, h⟩ := o_bind h
                refine p_run 1 (by kernel_rfl) ?_
                refine e_seg 2 89 (.bool b8) ?_ ?_
                · rcases o_cond h8 with ⟨hb, h8⟩ | ⟨hb, h8⟩
                  · refine p_settle 87 hb (by kernel_rfl) (by kernel_rfl) ?_
                    obtain ⟨r9, h9, h8⟩ := o_bind h8
                    refine p_call (f22_ok  r9 h9) (by kernel_rfl) (by kernel_rfl) ?_
                    cases h8
                    exact f_end (by kernel_rfl) (by kernel_rfl)
                  · refine p_settle 87 hb (by kernel_rfl) (by kernel_rfl) ?_
                    cases h8
                    exact f_end (by kernel_rfl) (by kernel_rfl)
                · refine e_end (by kernel_rfl) ?_
                  refine q_next ?_
                  refine pwp_ret ?_
                  cases h
                  exact q_ret (by kernel_rfl) (by kernel_rfl) (by kernel_rfl)

/-! signallinglaw06.RailLegs -/
noncomputable def f7_1 (r1 : (List Int)) (x9 : Int) : (Bool × Int) → Option ((Bool × Int) ⊕ (Bool ⊕ (Int ⊕ (Unit ⊕ Bool)))) := fun (x18, x19) =>
  bif decide (x19 < ((r1.length : Nat) : Int)) then (
    (ixO r1 x19).bind fun x22 =>
    some (.inl ((x18 || (decide (x22 = x9))), w64 (x19 + 1)))
  ) else (
    some (.inr (.inl x18))
  )

noncomputable def f7_0 (a0 : Int) (a1 : Int) (r1 : (List Int)) : Int → Option (Int ⊕ (Unit ⊕ Bool)) := fun x9 =>
  bif decide (x9 ≤ 4) then (
    onInl (α := Bool) (β := (Int ⊕ (Unit ⊕ Bool))) (loopO (f7_1 r1 x9) (false, 0)) fun x21 =>
    (f25 a0 a1 x9).bind fun r23 =>
    bif (!(r23.2 == x21)) then (
      some (.inr (.inr false))
    ) else (
      some (.inl (w64 (x9 + 1)))
    )
  ) else (
    some (.inr (.inl ()))
  )

noncomputable def f7 (a0 : Int) (a1 : Int) : Option Bool :=
  (f18 a0 a1).bind fun r1 =>
  onInl (α := Unit) (β := Bool) (loopO (f7_0 a0 a1 r1) (-1)) fun _ =>
  ((bif decide (a1 < 0) then some true else (
    (f15 a0).bind fun r25 =>
    some (decide (r25 ≤ a1))
  )) : Option Bool).bind fun b24 =>
  bif b24 then (
    ((bif decide (((r1.length : Nat) : Int) = 0) then (
      (f22 ).bind fun r27 =>
      some r27
    ) else some false) : Option Bool).bind fun b26 =>
    some b26
  ) else (
    (f20 a0 a1).bind fun r28 =>
    bif r28 then (
      ((bif decide (((r1.length : Nat) : Int) = 2) then (
        (f22 ).bind fun r30 =>
        some r30
      ) else some false) : Option Bool).bind fun b29 =>
      some b29
    ) else (
      ((bif decide (((r1.length : Nat) : Int) = 1) then (
        (f22 ).bind fun r32 =>
        some r32
      ) else some false) : Option Bool).bind fun b31 =>
      some b31
    )
  )
theorem f7_ok (a0 : Int) (a1 : Int) (r : Bool) (h : f7 a0 a1 = some r) : PCall Go.Proofs.Tryd.prog GlS 7 [Enc.pv a0, Enc.pv a1] (Enc.pv r) := by
  unfold f7 at h
  refine pcall_of_pwp Go.Proofs.Tryd.func7 (by rfl) rfl Go.Proofs.Tryd.ntmps7 (by rfl) rfl ?_
  refine pwp_seq ?_
  refine r_reg ?_
  refine e_end (by kernel_rfl) ?_
  refine q_next ?_
  refine pwp_seq ?_
  refine r_reg ?_
  refine p_run 2 (by kernel_rfl) ?_
  obtain ⟨r1, h1, h⟩ := o_bind h
  refine p_call (f18_ok _ _ r1 h1) (by kernel_rfl) (by kernel_rfl) ?_
  refine e_end (by kernel_rfl) ?_
  refine q_next ?_
  refine pwp_seq ?_
  refine pwp_seq ?_
  refine r_reg ?_
  refine e_end (by kernel_rfl) ?_
  refine q_next ?_
  refine pwp_block ?_
  obtain ⟨o17, h17, h⟩ := o_inl h
  refine r_loop2 73 0 (fun x9 => ⟨[(0, .int .i64 a0), (1, .int .i64 a1), (5, lstOf (.own 114005) (r1 : (List Int))), (6, .int .i64 x9)], [], [(114005, (((r1).map cellsOf).length, 1))]⟩) (fun (_ : Unit) => ⟨[(0, .int .i64 a0), (1, .int .i64 a1), (5, lstOf (.own 114005) (r1 : (List Int)))], [], [(114005, (((r1).map cellsOf).length, 1))]⟩) h17 (by kernel_rfl) (fun _ => by kernel_rfl) ?_ ?_
  · rintro x9 oh16 h16
    unfold f7_0 at h16
    refine pwp_seq ?_
    refine pwp_seq ?_
    refine r_reg ?_
    refine e_end (by kernel_rfl) ?_
    refine q_next ?_
    rcases o_cond h16 with ⟨hb, h16⟩ | ⟨hb, h16⟩
    · refine r_cond_t hb (by kernel_rfl) ?_
      refine pwp_skip ?_
      refine q_next ?_
      refine pwp_seq ?_
      refine pwp_block ?_
      refine pwp_seq ?_
      refine r_reg ?_
      refine e_end (by kernel_rfl) ?_
      refine q_next ?_
      refine pwp_seq ?_
      refine pwp_seq ?_
      refine r_reg ?_
      refine p_run 1 (by kernel_rfl) ?_
      refine p_len (L := (r1 : (List Int))) (by kernel_rfl) ?_
      refine e_end (by kernel_rfl) ?_
      refine q_next ?_
      refine pwp_block ?_
      obtain ⟨o21, h21, h16⟩ := o_inl h16
      refine r_loop2 73 2 (fun (x18, x19) => ⟨[(0, .int .i64 a0), (1, .int .i64 a1), (5, lstOf (.own 114005) (r1 : (List Int))), (6, .int .i64 x9), (7, .bool x18), (19, lstOf (.own 114005) (r1 : (List Int))), (20, .int .i64 ((r1.length : Nat) : Int)), (21, .int .i64 x19)], [], [(114005, (((r1).map cellsOf).length, 1))]⟩) (fun x21 => ⟨[(0, .int .i64 a0), (1, .int .i64 a1), (5, lstOf (.own 114005) (r1 : (List Int))), (6, .int .i64 x9), (7, .bool x21)], [], [(114005, (((r1).map cellsOf).length, 1))]⟩) h21 (by kernel_rfl) (fun _ => by kernel_rfl) ?_ ?_
      · rintro ⟨x18, x19⟩ oh20 h20
        unfold f7_1 at h20
        refine pwp_seq ?_
        refine r_reg ?_
        refine e_end (by kernel_rfl) ?_
        refine q_next ?_
        refine pwp_seq ?_
        rcases o_cond h20 with ⟨hb, h20⟩ | ⟨hb, h20⟩
        · refine r_cond_t hb (by kernel_rfl) ?_
          refine pwp_skip ?_
          refine q_next ?_
          refine pwp_seq ?_
          refine pwp_block ?_
          refine pwp_seq ?_
          refine r_reg ?_
          obtain ⟨x22, h22, h20⟩ := o_bind h20
          refine p_ix h22 (by kernel_rfl) ?_
          refine e_end (by kernel_rfl) ?_
          refine q_next ?_
          refine r_reg ?_
          refine p_run 2 (by kernel_rfl) ?_
          refine e_segb 4 30 (x18 || (decide (x22 = x9))) (fun x hx => ?_) ?_
          · rcases b_or hx with ⟨hb, hx⟩ | ⟨hb, hx⟩
            · refine p_settle 26 hb (by kernel_rfl) (by kernel_rfl) ?_
              subst hx
              exact f_end (by kernel_rfl) (by kernel_rfl)
            · refine p_settle 26 hb (by kernel_rfl) (by kernel_rfl) ?_
              subst hx
              exact f_end (by kernel_rfl) (by kernel_rfl)
          · refine e_end (by kernel_rfl) ?_
            refine q_block ?_
            refine q_next ?_
            refine r_reg ?_
            refine e_end (by kernel_rfl) ?_
            cases h20
            exact q_lback (by kernel_rfl)
        · refine r_cond_f hb (by kernel_rfl) ?_
          refine pwp_exit ?_
          refine q_seq_exit ?_
          cases h20
          exact q_lexit (by kernel_rfl) (by kernel_rfl)
      · rintro x21 s' rfl hs
        have h16 := o_outl h16
        refine q_block_hit ?_
        refine q_next (pwp_wkr hs ?_)
        refine pwp_seq ?_
        refine r_reg ?_
        refine p_run 3 (by kernel_rfl) ?_
        obtain ⟨r23, h23, h16⟩ := o_bind h16
        refine p_call (f25_ok _ _ _ r23 h23) (by kernel_rfl) (by kernel_rfl) ?_
        refine e_end (by kernel_rfl) ?_
        refine q_next ?_
        refine pwp_seq ?_
        refine r_reg ?_
        refine e_end (by kernel_rfl) ?_
        refine q_next ?_
        rcases o_cond h16 with ⟨hb, h16⟩ | ⟨hb, h16⟩
        · refine r_cond_t hb (by kernel_rfl) ?_
          refine pwp_seq ?_
          refine r_reg ?_
          refine e_end (by kernel_rfl) ?_
          refine q_next ?_
          refine pwp_ret ?_
          refine q_block_ret ?_
          refine q_seq_ret ?_
          cases h16
          refine q_lout_ret fun he => ?_
          subst he
          have h24 := o_outr h
          refine q_block_ret ?_
          refine q_seq_ret ?_
          cases h24
          exact q_ret (by kernel_rfl) (by kernel_rfl) (by kernel_rfl)
        · refine r_cond_f hb (by kernel_rfl) ?_
          refine pwp_skip ?_
          refine q_block ?_
          refine q_next ?_
          refine r_reg ?_
          refine e_end (by kernel_rfl) ?_
          cases h16
          exact q_lback (by kernel_rfl)
    · refine r_cond_f hb (by kernel_rfl) ?_
      refine pwp_exit ?_
      refine q_seq_exit ?_
      cases h16
      exact q_lexit (by kernel_rfl) (by kernel_rfl)
  · rintro _ s' rfl hs
    have h := o_outl h
    refine q_block_hit ?_
    refine q_next (pwp_wkr hs ?_)
    refine pwp_seq ?_
    refine pwp_block ?_
    refine pwp_seq ?_
    refine r_reg ?_
    obtain ⟨b24, h25, h⟩ := o_bind h
    refine p_run 3 (by kernel_rfl) ?_
    refine e_seg 5 50 (.bool b24) ?_ ?_
    · rcases o_cond h25 with ⟨hb, h25⟩ | ⟨hb, h25⟩
      · refine p_settle 45 hb (by kernel_rfl) (by kernel_rfl) ?_
        cases h25
        exact f_end (by kernel_rfl) (by kernel_rfl)
      · refine p_settle 45 hb (by kernel_rfl) (by kernel_rfl) ?_
        refine p_run 2 (by kernel_rfl) ?_
        obtain ⟨r25, h26, h25⟩ := o_bind h25
        refine p_call (f15_ok _ r25 h26) (by kernel_rfl) (by kernel_rfl) ?_
        cases h25
        exact f_end (by kernel_rfl) (by kernel_rfl)
    · refine e_end (by kernel_rfl) ?_
      refine q_next ?_
      rcases o_cond h with ⟨hb, h⟩ | ⟨hb, h⟩
      · refine r_cond_t hb (by kernel_rfl) ?_
        refine pwp_seq ?_
        refine r_reg ?_
        refine p_run 1 (by kernel_rfl) ?_
        refine p_len (L := (r1 : (List Int))) (by kernel_rfl) ?_
        obtain ⟨b26, h27, h⟩ := o_bind h
        refine p_run 2 (by kernel_rfl) ?_
        refine e_seg 2 56 (.bool b26) ?_ ?_
        · rcases o_cond h27 with ⟨hb, h27⟩ | ⟨hb, h27⟩
          · refine p_settle 54 hb (by kernel_rfl) (by kernel_rfl) ?_
            obtain ⟨r27, h28, h27⟩ := o_bind h27
            refine p_call (f22_ok  r27 h28) (by kernel_rfl) (by kernel_rfl) ?_
            cases h27
            exact f_end (by kernel_rfl) (by kernel_rfl)
          · refine p_settle 54 hb (by kernel_rfl) (by kernel_rfl) ?_
            cases h27
            exact f_end (by kernel_rfl) (by kernel_rfl)
        · refine e_end (by kernel_rfl) ?_
          refine q_next ?_
          refine pwp_ret ?_
          refine q_block_ret ?_
          refine q_seq_ret ?_
          cases h
          exact q_ret (by kernel_rfl) (by kernel_rfl) (by kernel_rfl)
      · refine r_cond_f hb (by kernel_rfl) ?_
        refine pwp_seq ?_
        refine r_reg ?_
        refine p_run 2 (by kernel_rfl) ?_
        obtain ⟨r28, h29, h⟩ := o_bind h
        refine p_call (f20_ok _ _ r28 h29) (by kernel_rfl) (by kernel_rfl) ?_
        refine e_end (by kernel_rfl) ?_
        refine q_next ?_
        rcases o_cond h with ⟨hb, h⟩ | ⟨hb, h⟩
        · refine r_cond_t hb (by kernel_rfl) ?_
          refine pwp_seq ?_
          refine r_reg ?_
          refine p_run 1 (by kernel_rfl) ?_
          refine p_len (L := (r1 : (List Int))) (by kernel_rfl) ?_
          obtain ⟨b29, h30, h⟩ := o_bind h
          refine p_run 2 (by kernel_rfl) ?_
          refine e_seg 2 66 (.bool b29) ?_ ?_
          · rcases o_cond h30 with ⟨hb, h30⟩ | ⟨hb, h30⟩
            · refine p_settle 64 hb (by kernel_rfl) (by kernel_rfl) ?_
              obtain ⟨r30, h31, h30⟩ := o_bind h30
              refine p_call (f22_ok  r30 h31) (by kernel_rfl) (by kernel_rfl) ?_
              cases h30
              exact f_end (by kernel_rfl) (by kernel_rfl)
            · refine p_settle 64 hb (by kernel_rfl) (by kernel_rfl) ?_
              cases h30
              exact f_end (by kernel_rfl) (by kernel_rfl)
          · refine e_end (by kernel_rfl) ?_
            refine q_next ?_
            refine pwp_ret ?_
            refine q_block_ret ?_
            refine q_seq_ret ?_
            cases h
            exact q_ret (by kernel_rfl) (by kernel_rfl) (by kernel_rfl)
        · refine r_cond_f hb (by kernel_rfl) ?_
          refine pwp_skip ?_
          refine q_block ?_
          refine q_next ?_
          refine pwp_seq ?_
          refine r_reg ?_
          refine p_run 1 (by kernel_rfl) ?_
          refine p_len (L := (r1 : (List Int))) (by kernel_rfl) ?_
          obtain ⟨b31, h32, h⟩ := o_bind h
          refine p_run 2 (by kernel_rfl) ?_
          refine e_seg 2 72 (.bool b31) ?_ ?_
          · rcases o_cond h32 with ⟨hb, h32⟩ | ⟨hb, h32⟩
            · refine p_settle 70 hb (by kernel_rfl) (by kernel_rfl) ?_
              obtain ⟨r32, h33, h32⟩ := o_bind h32
              refine p_call (f22_ok  r32 h33) (by kernel_rfl) (by kernel_rfl) ?_
              cases h32
              exact f_end (by kernel_rfl) (by kernel_rfl)
            · refine p_settle 70 hb (by kernel_rfl) (by kernel_rfl) ?_
              cases h32
              exact f_end (by kernel_rfl) (by kernel_rfl)
          · refine e_end (by kernel_rfl) ?_
            refine q_next ?_
            refine pwp_ret ?_
            cases h
            exact q_ret (by kernel_rfl) (by kernel_rfl) (by kernel_rfl)

end PM
