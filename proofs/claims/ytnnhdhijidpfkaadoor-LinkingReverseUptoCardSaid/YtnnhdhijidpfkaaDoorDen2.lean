/-
  Plain functions for the program's functions, and the proofs that the program does them. Printed by den.py.
-/
import Derived.Test.YtnnhdhijidpfkaaDoorDen1
namespace PM
open Go Go.RowKit
attribute [local irreducible] pops pwp

/-! signallingref09.Valid -/
noncomputable def d_ref09_Valid_1 (a1 : (List T_api_Step)) (x23 : Int) : Int → Option (Int ⊕ (Unit ⊕ (Int ⊕ (Unit ⊕ Bool)))) := fun x61 =>
  bif decide (x61 < x23) then (
    (ixO a1 x61).bind fun x64 =>
    (ixO a1 x23).bind fun x65 =>
    bif decide (x64.El = x65.El) then (
      some (.inr (.inr (.inr (.inr false))))
    ) else (
      some (.inl (w64 (x61 + 1)))
    )
  ) else (
    some (.inr (.inl ()))
  )

noncomputable def d_ref09_Valid_0 (a0 : T_api_Layout) (a1 : (List T_api_Step)) : Int → Option (Int ⊕ (Unit ⊕ Bool)) := fun x23 =>
  bif decide (x23 < ((a1.length : Nat) : Int)) then (
    (ixO a1 x23).bind fun x45 =>
    (d_ref09_need a0 x45).bind fun r46 =>
    bif (!r46.2) then (
      some (.inr (.inr false))
    ) else (
      onInl (α := Unit) (β := (Int ⊕ (Unit ⊕ Bool))) (
        bif decide (0 < x23) then (
          (ixO a1 (w64 (x23 - 1))).bind fun x53 =>
          (d_ref09_Next a0 x53).bind fun r54 =>
          ((bif (!r54.2) then some true else (
            (ixO a1 x23).bind fun x56 =>
            some (!(decide (r54.1.El = x56.El)))
          )) : Option Bool).bind fun b55 =>
          ((bif b55 then some true else (
            (ixO a1 x23).bind fun x58 =>
            some (!(decide (r54.1.Side = x58.In)))
          )) : Option Bool).bind fun b57 =>
          bif b57 then (
            some (.inr (.inr (.inr false)))
          ) else (
            some (.inl ())
          )
        ) else (
          some (.inl ())
        )
      ) fun _ =>
      onInl (α := Unit) (β := (Int ⊕ (Unit ⊕ Bool))) (loopO (d_ref09_Valid_1 a1 x23) 0) fun _ =>
      some (.inl (w64 (x23 + 1)))
    )
  ) else (
    some (.inr (.inl ()))
  )

noncomputable def d_ref09_Valid (a0 : T_api_Layout) (a1 : (List T_api_Step)) : Option Bool :=
  ((bif decide (((a1.length : Nat) : Int) = 0) then some true else (
    some (decide (64 < ((a1.length : Nat) : Int)))
  )) : Option Bool).bind fun b1 =>
  bif b1 then (
    some false
  ) else (
    onInl (α := Unit) (β := Bool) (loopO (d_ref09_Valid_0 a0 a1) 0) fun _ =>
    some true
  )
theorem d_ref09_Valid_ok (a0 : T_api_Layout) (a1 : (List T_api_Step)) (r : Bool) (h : d_ref09_Valid a0 a1 = some r) : PCall Go.Proofs.Tryd.prog GlS 18 [Enc.pv a0, Enc.pv a1] (Enc.pv r) := by
  unfold d_ref09_Valid at h
  refine pcall_of_pwp Go.Proofs.Tryd.func18 (by rfl) rfl Go.Proofs.Tryd.ntmps18 (by rfl) rfl ?_
  refine pwp_seq (r_reg ?_)
  refine e_end (by kernel_rfl) ?_
  refine q_next (pwp_seq (pwp_seq (r_reg ?_)))
  refine p_run 1 (by kernel_rfl) ?_
  refine p_len (L := (a1 : (List T_api_Step))) (by kernel_rfl) ?_
  obtain ⟨b1, h1, h⟩ := o_bind h
  refine p_run 2 (by kernel_rfl) ?_
  refine e_seg 4 18 (.bool b1) ?_ ?_
  · rcases o_cond h1 with ⟨hb, h1⟩ | ⟨hb, h1⟩
    · refine p_settle 14 hb (by kernel_rfl) (by kernel_rfl) ?_
      cases h1
      exact f_end (by kernel_rfl) (by kernel_rfl)
    refine p_settle 14 hb (by kernel_rfl) (by kernel_rfl) ?_
    refine p_run 1 (by kernel_rfl) ?_
    refine p_len (L := (a1 : (List T_api_Step))) (by kernel_rfl) ?_
    cases h1
    exact f_end (by kernel_rfl) (by kernel_rfl)
  refine e_nil (by kernel_rfl) ?_
  refine q_next ?_
  rcases o_cond h with ⟨hb, h⟩ | ⟨hb, h⟩
  · refine r_cond_t hb (by kernel_rfl) ?_
    refine pwp_seq (r_reg ?_)
    refine e_end (by kernel_rfl) ?_
    refine q_next (pwp_ret (q_seq_ret ?_))
    cases h
    exact q_ret (by kernel_rfl) (by kernel_rfl) (by kernel_rfl)
  refine r_cond_f hb (by kernel_rfl) ?_
  refine pwp_skip (q_next (pwp_seq (pwp_seq (r_reg ?_))))
  refine e_end (by kernel_rfl) ?_
  refine q_next (pwp_block ?_)
  obtain ⟨o71, h71, h⟩ := o_inl h
  refine r_loop2 86 0 (fun x23 => ⟨[(1, lstOf .frozen (a1 : (List T_api_Step))), (2, .ref 2 0), (5, .int .i64 x23)], [(2, .cells (cellsOf a0))], [], []⟩) (fun (_ : Unit) => ⟨[], [], [], []⟩) h71 (by kernel_rfl) (fun _ => by kernel_rfl) ?_ ?_
  · rintro x23 oh70 h70
    unfold d_ref09_Valid_0 at h70
    refine pwp_seq (pwp_seq (r_reg ?_))
    refine p_run 2 (by kernel_rfl) ?_
    refine p_len (L := (a1 : (List T_api_Step))) (by kernel_rfl) ?_
    refine e_end (by kernel_rfl) ?_
    refine q_next ?_
    rcases o_cond h70 with ⟨hb, h70⟩ | ⟨hb, h70⟩
    · refine r_cond_t hb (by kernel_rfl) ?_
      refine pwp_skip (q_next (pwp_seq (pwp_block (pwp_seq ?_))))
      refine r_regd (by kernel_rfl) (by kernel_rfl) ?_
      refine p_run 3 (by kernel_rfl) ?_
      obtain ⟨x45, h72, h70⟩ := o_bind h70
      refine p_ix h72 (by kernel_rfl) ?_
      refine p_run 1 (by kernel_rfl) ?_
      obtain ⟨r46, h73, h70⟩ := o_bind h70
      refine p_call (d_ref09_need_ok _ _ r46 h73) (by kernel_rfl) (by kernel_rfl) ?_
      refine e_end (by kernel_rfl) ?_
      refine q_next (pwp_seq (pwp_seq (r_reg ?_)))
      refine e_end (by kernel_rfl) ?_
      refine q_next ?_
      rcases o_cond h70 with ⟨hb, h70⟩ | ⟨hb, h70⟩
      · refine r_cond_t hb (by kernel_rfl) ?_
        refine pwp_seq (r_reg ?_)
        refine e_end (by kernel_rfl) ?_
        refine q_next (pwp_ret (q_seq_ret (q_block_ret (q_seq_ret ?_))))
        cases h70
        refine q_lout_ret fun he => ?_
        subst he
        have h74 := o_outr h
        refine q_block_ret (q_seq_ret ?_)
        cases h74
        exact q_ret (by kernel_rfl) (by kernel_rfl) (by kernel_rfl)
      refine r_cond_f hb (by kernel_rfl) ?_
      refine pwp_skip (q_next ?_)
      obtain ⟨o83, h83, h70⟩ := o_inl h70
      refine r_join (o := o83) 86 (fun (_ : Unit) => ⟨[(1, lstOf .frozen (a1 : (List T_api_Step))), (2, .ref 2 0), (5, .int .i64 x23)], [(2, .cells (cellsOf a0))], [], []⟩) ?_ ?_
      · refine pwp_seq (r_reg ?_)
        refine e_end (by kernel_rfl) ?_
        refine q_next ?_
        rcases o_cond h83 with ⟨hb, h83⟩ | ⟨hb, h83⟩
        · refine r_cond_t hb (by kernel_rfl) ?_
          refine pwp_seq ?_
          refine r_regd (by kernel_rfl) (by kernel_rfl) ?_
          refine p_run 4 (by kernel_rfl) ?_
          obtain ⟨x53, h84, h83⟩ := o_bind h83
          refine p_ix h84 (by kernel_rfl) ?_
          refine p_run 1 (by kernel_rfl) ?_
          obtain ⟨r54, h85, h83⟩ := o_bind h83
          refine p_call (d_ref09_Next_ok _ _ r54 h85) (by kernel_rfl) (by kernel_rfl) ?_
          refine e_end (by kernel_rfl) ?_
          refine q_next (pwp_seq ?_)
          refine r_regd (by kernel_rfl) (by kernel_rfl) ?_
          obtain ⟨b55, h86, h83⟩ := o_bind h83
          refine p_run 3 (by kernel_rfl) ?_
          refine e_seg 9 59 (.bool b55) ?_ ?_
          · rcases o_cond h86 with ⟨hb, h86⟩ | ⟨hb, h86⟩
            · refine p_settle 50 hb (by kernel_rfl) (by kernel_rfl) ?_
              cases h86
              exact f_end (by kernel_rfl) (by kernel_rfl)
            refine p_settle 50 hb (by kernel_rfl) (by kernel_rfl) ?_
            refine p_run 4 (by kernel_rfl) ?_
            obtain ⟨x56, h87, h86⟩ := o_bind h86
            refine p_ix h87 (by kernel_rfl) ?_
            cases h86
            exact f_end (by kernel_rfl) (by kernel_rfl)
          obtain ⟨b57, h88, h83⟩ := o_bind h83
          refine p_run 1 (by kernel_rfl) ?_
          refine e_seg 9 69 (.bool b57) ?_ ?_
          · rcases o_cond h88 with ⟨hb, h88⟩ | ⟨hb, h88⟩
            · refine p_settle 60 hb (by kernel_rfl) (by kernel_rfl) ?_
              cases h88
              exact f_end (by kernel_rfl) (by kernel_rfl)
            refine p_settle 60 hb (by kernel_rfl) (by kernel_rfl) ?_
            refine p_run 4 (by kernel_rfl) ?_
            obtain ⟨x58, h89, h88⟩ := o_bind h88
            refine p_ix h89 (by kernel_rfl) ?_
            cases h88
            exact f_end (by kernel_rfl) (by kernel_rfl)
          refine e_nil (by kernel_rfl) ?_
          refine q_next ?_
          rcases o_cond h83 with ⟨hb, h83⟩ | ⟨hb, h83⟩
          · refine r_cond_t hb (by kernel_rfl) ?_
            refine pwp_seq (r_reg ?_)
            refine e_end (by kernel_rfl) ?_
            refine q_next (pwp_ret ?_)
            cases h83
            refine q_jout_ret ?_
            have h90 := o_outr h70
            refine q_block_ret (q_seq_ret ?_)
            cases h90
            refine q_lout_ret fun he => ?_
            subst he
            have h91 := o_outr h
            refine q_block_ret (q_seq_ret ?_)
            cases h91
            exact q_ret (by kernel_rfl) (by kernel_rfl) (by kernel_rfl)
          refine r_cond_f hb (by kernel_rfl) ?_
          refine pwp_skip ?_
          cases h83
          exact q_join (by kernel_rfl) (by kernel_rfl)
        refine r_cond_f hb (by kernel_rfl) ?_
        refine pwp_skip ?_
        cases h83
        exact q_join (by kernel_rfl) (by kernel_rfl)
      rintro _ rfl
      have h70 := o_outl h70
      refine pwp_seq (r_reg ?_)
      refine e_end (by kernel_rfl) ?_
      refine q_next (pwp_block ?_)
      obtain ⟨o101, h101, h70⟩ := o_inl h70
      refine r_loop2 86 2 (fun x61 => ⟨[(1, lstOf .frozen (a1 : (List T_api_Step))), (2, .ref 2 0), (5, .int .i64 x23), (10, .int .i64 x61)], [(2, .cells (cellsOf a0))], [], []⟩) (fun (_ : Unit) => ⟨[(1, lstOf .frozen (a1 : (List T_api_Step))), (2, .ref 2 0), (5, .int .i64 x23)], [(2, .cells (cellsOf a0))], [], []⟩) h101 (by kernel_rfl) (fun _ => by kernel_rfl) ?_ ?_
      · rintro x61 oh100 h100
        unfold d_ref09_Valid_1 at h100
        refine pwp_seq (pwp_seq (r_reg ?_))
        refine e_end (by kernel_rfl) ?_
        refine q_next ?_
        rcases o_cond h100 with ⟨hb, h100⟩ | ⟨hb, h100⟩
        · refine r_cond_t hb (by kernel_rfl) ?_
          refine pwp_skip (q_next (pwp_seq (pwp_block (pwp_seq ?_))))
          refine r_regd (by kernel_rfl) (by kernel_rfl) ?_
          refine p_run 2 (by kernel_rfl) ?_
          obtain ⟨x64, h102, h100⟩ := o_bind h100
          refine p_ix h102 (by kernel_rfl) ?_
          refine p_run 4 (by kernel_rfl) ?_
          obtain ⟨x65, h103, h100⟩ := o_bind h100
          refine p_ix h103 (by kernel_rfl) ?_
          refine e_end (by kernel_rfl) ?_
          refine q_next ?_
          rcases o_cond h100 with ⟨hb, h100⟩ | ⟨hb, h100⟩
          · refine r_cond_t hb (by kernel_rfl) ?_
            refine pwp_seq (r_reg ?_)
            refine e_end (by kernel_rfl) ?_
            refine q_next (pwp_ret (q_block_ret (q_seq_ret ?_)))
            cases h100
            refine q_lout_ret fun he => ?_
            subst he
            have h104 := o_outr h70
            refine q_block_ret (q_block_ret (q_seq_ret ?_))
            cases h104
            refine q_lout_ret fun he => ?_
            subst he
            have h105 := o_outr h
            refine q_block_ret (q_seq_ret ?_)
            cases h105
            exact q_ret (by kernel_rfl) (by kernel_rfl) (by kernel_rfl)
          refine r_cond_f hb (by kernel_rfl) ?_
          refine pwp_skip (q_block (q_next (r_reg ?_)))
          refine e_end (by kernel_rfl) ?_
          cases h100
          exact q_lback (by kernel_rfl)
        refine r_cond_f hb (by kernel_rfl) ?_
        refine pwp_exit (q_seq_exit ?_)
        cases h100
        exact q_lexit (by kernel_rfl) (by kernel_rfl)
      rintro _ s' rfl hs
      have h70 := o_outl h70
      refine q_block_hit (q_block ?_)
      refine q_next (pwp_wkr hs ?_)
      refine r_reg ?_
      refine e_end (by kernel_rfl) ?_
      cases h70
      exact q_lback (by kernel_rfl)
    refine r_cond_f hb (by kernel_rfl) ?_
    refine pwp_exit (q_seq_exit ?_)
    cases h70
    exact q_lexit (by kernel_rfl) (by kernel_rfl)
  rintro _ s' rfl hs
  have h := o_outl h
  refine q_block_hit ?_
  refine q_next (pwp_wkr hs ?_)
  refine pwp_seq (r_reg ?_)
  refine e_end (by kernel_rfl) ?_
  refine q_next (pwp_ret ?_)
  cases h
  exact q_ret (by kernel_rfl) (by kernel_rfl) (by kernel_rfl)

/-! signallingref32.place -/
noncomputable def d_ref32_place (a0 : T_api_Element) (a1 : T_api_Step) (a2 : T_api_Balise) : Option Int :=
  bif decide (a1.In = 1) then (
    some (w64 (a0.Length - a2.Offset))
  ) else (
    some a2.Offset
  )
theorem d_ref32_place_ok (a0 : T_api_Element) (a1 : T_api_Step) (a2 : T_api_Balise) (r : Int) (h : d_ref32_place a0 a1 a2 = some r) : PCall Go.Proofs.Tryd.prog GlS 29 [Enc.pv a0, Enc.pv a1, Enc.pv a2] (Enc.pv r) := by
  unfold d_ref32_place at h
  refine pcall_of_pwp Go.Proofs.Tryd.func29 (by rfl) rfl Go.Proofs.Tryd.ntmps29 (by rfl) rfl ?_
  refine pwp_seq (r_reg ?_)
  refine e_end (by kernel_rfl) ?_
  refine q_next (pwp_seq (pwp_seq (r_reg ?_)))
  refine e_end (by kernel_rfl) ?_
  refine q_next ?_
  rcases o_cond h with ⟨hb, h⟩ | ⟨hb, h⟩
  · refine r_cond_t hb (by kernel_rfl) ?_
    refine pwp_seq (r_reg ?_)
    refine e_end (by kernel_rfl) ?_
    refine q_next (pwp_ret (q_seq_ret ?_))
    cases h
    exact q_ret (by kernel_rfl) (by kernel_rfl) (by kernel_rfl)
  refine r_cond_f hb (by kernel_rfl) ?_
  refine pwp_skip (q_next (pwp_seq (r_reg ?_)))
  refine e_end (by kernel_rfl) ?_
  refine q_next (pwp_ret ?_)
  cases h
  exact q_ret (by kernel_rfl) (by kernel_rfl) (by kernel_rfl)

/-! signallingref32.passes -/
noncomputable def d_ref32_passes (a0 : Int) (a1 : T_api_Step) : Option Bool :=
  some ((decide (a0 = 1)) || (decide ((w64 (a1.In + a1.Out)) = 1)))
theorem d_ref32_passes_ok (a0 : Int) (a1 : T_api_Step) (r : Bool) (h : d_ref32_passes a0 a1 = some r) : PCall Go.Proofs.Tryd.prog GlS 30 [Enc.pv a0, Enc.pv a1] (Enc.pv r) := by
  unfold d_ref32_passes at h
  refine pcall_of_pwp Go.Proofs.Tryd.func30 (by rfl) rfl Go.Proofs.Tryd.ntmps30 (by rfl) rfl ?_
  refine pwp_seq (r_reg ?_)
  refine e_end (by kernel_rfl) ?_
  refine q_next (pwp_seq (r_reg ?_))
  refine p_run 3 (by kernel_rfl) ?_
  refine e_segb 7 14 ((decide (a0 = 1)) || (decide ((w64 (a1.In + a1.Out)) = 1))) (fun x hx => ?_) ?_
  · rcases b_or hx with ⟨hb, hx⟩ | ⟨hb, hx⟩
    · refine p_settle 7 hb (by kernel_rfl) (by kernel_rfl) ?_
      subst hx
      exact f_end (by kernel_rfl) (by kernel_rfl)
    refine p_settle 7 hb (by kernel_rfl) (by kernel_rfl) ?_
    subst hx
    exact f_end (by kernel_rfl) (by kernel_rfl)
  refine e_end (by kernel_rfl) ?_
  refine q_next (pwp_ret ?_)
  cases h
  exact q_ret (by kernel_rfl) (by kernel_rfl) (by kernel_rfl)

/-! signallingref32.before -/
noncomputable def d_ref32_before (a0 : T_api_Linked) (a1 : T_api_Linked) : Option Bool :=
  some ((decide (a0.At < a1.At)) || ((decide (a0.At = a1.At)) && (decide (a0.Id < a1.Id))))
theorem d_ref32_before_ok (a0 : T_api_Linked) (a1 : T_api_Linked) (r : Bool) (h : d_ref32_before a0 a1 = some r) : PCall Go.Proofs.Tryd.prog GlS 46 [Enc.pv a0, Enc.pv a1] (Enc.pv r) := by
  unfold d_ref32_before at h
  refine pcall_of_pwp Go.Proofs.Tryd.func46 (by rfl) rfl Go.Proofs.Tryd.ntmps46 (by rfl) rfl ?_
  refine pwp_seq (r_reg ?_)
  refine e_end (by kernel_rfl) ?_
  refine q_next (pwp_seq (r_reg ?_))
  refine p_run 6 (by kernel_rfl) ?_
  refine e_segb 13 23 ((decide (a0.At < a1.At)) || ((decide (a0.At = a1.At)) && (decide (a0.Id < a1.Id)))) (fun x hx => ?_) ?_
  · rcases b_or hx with ⟨hb, hx⟩ | ⟨hb, hx⟩
    · refine p_settle 10 hb (by kernel_rfl) (by kernel_rfl) ?_
      subst hx
      exact f_end (by kernel_rfl) (by kernel_rfl)
    refine p_settle 10 hb (by kernel_rfl) (by kernel_rfl) ?_
    refine p_run 6 (by kernel_rfl) ?_
    refine f_segb 6 22 ((decide (a0.At = a1.At)) && (decide (a0.Id < a1.Id))) (fun x hx => ?_) ?_
    · rcases b_and hx with ⟨hb, hx⟩ | ⟨hb, hx⟩
      · refine p_settle 16 hb (by kernel_rfl) (by kernel_rfl) ?_
        subst hx
        exact f_end (by kernel_rfl) (by kernel_rfl)
      refine p_settle 16 hb (by kernel_rfl) (by kernel_rfl) ?_
      subst hx
      exact f_end (by kernel_rfl) (by kernel_rfl)
    subst hx
    exact f_end (by kernel_rfl) (by kernel_rfl)
  refine e_end (by kernel_rfl) ?_
  refine q_next (pwp_ret ?_)
  cases h
  exact q_ret (by kernel_rfl) (by kernel_rfl) (by kernel_rfl)

/-! signallingref32.put -/
noncomputable def d_ref32_put_0 (a0 : (List T_api_Linked)) (a1 : T_api_Linked) : (Bool × Int × (List T_api_Linked)) → Option ((Bool × Int × (List T_api_Linked)) ⊕ (((List T_api_Linked) × Bool) ⊕ (List T_api_Linked))) := fun (x27, x28, x29) =>
  bif decide (x28 < ((a0.length : Nat) : Int)) then (
    onInl (α := ((List T_api_Linked) × Bool)) (β := ((Bool × Int × (List T_api_Linked)) ⊕ (((List T_api_Linked) × Bool) ⊕ (List T_api_Linked)))) (
      ((bif (!x27) then (
        (ixO a0 x28).bind fun x51 =>
        (d_ref32_before a1 x51).bind fun r52 =>
        some r52
      ) else some false) : Option Bool).bind fun b50 =>
      bif b50 then (
        (appO x29 [a1]).bind fun x53 =>
        some (.inl (x53, true))
      ) else (
        some (.inl (x29, x27))
      )
    ) fun (x48, x49) =>
    (ixO a0 x28).bind fun x54 =>
    (appO x48 [x54]).bind fun x55 =>
    some (.inl (x49, w64 (x28 + 1), x55))
  ) else (
    some (.inr (.inl (x29, x27)))
  )

noncomputable def d_ref32_put (a0 : (List T_api_Linked)) (a1 : T_api_Linked) : Option (List T_api_Linked) :=
  onInl (α := ((List T_api_Linked) × Bool)) (β := (List T_api_Linked)) (loopO (d_ref32_put_0 a0 a1) (false, 0, ([] : (List T_api_Linked)))) fun (x42, x43) =>
  onInl (α := (List T_api_Linked)) (β := (List T_api_Linked)) (
    bif (!x43) then (
      (appO x42 [a1]).bind fun x58 =>
      some (.inl x58)
    ) else (
      some (.inl x42)
    )
  ) fun x57 =>
  some x57
theorem d_ref32_put_ok (a0 : (List T_api_Linked)) (a1 : T_api_Linked) (r : (List T_api_Linked)) (h : d_ref32_put a0 a1 = some r) : PCall Go.Proofs.Tryd.prog GlS 31 [Enc.pv a0, Enc.pv a1] (lstOf (.own 100005) r) := by
  unfold d_ref32_put at h
  refine pcall_of_pwp Go.Proofs.Tryd.func31 (by rfl) rfl Go.Proofs.Tryd.ntmps31 (by rfl) rfl ?_
  refine pwp_seq (r_reg ?_)
  refine e_end (by kernel_rfl) ?_
  refine q_next (pwp_seq (r_reg ?_))
  refine e_end (by kernel_rfl) ?_
  refine q_next (pwp_seq (r_reg ?_))
  refine e_end (by kernel_rfl) ?_
  refine q_next (pwp_seq (pwp_seq (r_reg ?_)))
  refine e_end (by kernel_rfl) ?_
  refine q_next (pwp_block ?_)
  refine g_nil 5 100005 2 16 (by kernel_rfl) (by kernel_rfl) ?_
  obtain ⟨o35, h35, h⟩ := o_inl h
  refine r_loop2 42 0 (fun (x27, x28, x29) => ⟨[(0, lstOf .frozen (a0 : (List T_api_Linked))), (3, .ref 3 0), (5, lstOf (.own 100005) (x29 : (List T_api_Linked))), (6, .bool x27), (7, .int .i64 x28)], [(3, .cells (cellsOf a1))], [(100005, (((x29).map cellsOf).length, 2))], []⟩) (fun (x42, x43) => ⟨[(3, .ref 3 0), (5, lstOf (.own 100005) (x42 : (List T_api_Linked))), (6, .bool x43)], [(3, .cells (cellsOf a1))], [(100005, (((x42).map cellsOf).length, 2))], []⟩) h35 (by kernel_rfl) (fun _ => by kernel_rfl) ?_ ?_
  · rintro ⟨x27, x28, x29⟩ oh34 h34
    unfold d_ref32_put_0 at h34
    refine pwp_seq (pwp_seq (r_reg ?_))
    refine p_run 2 (by kernel_rfl) ?_
    refine p_len (L := (a0 : (List T_api_Linked))) (by kernel_rfl) ?_
    refine e_end (by kernel_rfl) ?_
    refine q_next ?_
    rcases o_cond h34 with ⟨hb, h34⟩ | ⟨hb, h34⟩
    · refine r_cond_t hb (by kernel_rfl) ?_
      refine pwp_skip (q_next (pwp_seq (pwp_block ?_)))
      obtain ⟨o40, h40, h34⟩ := o_inl h34
      refine r_join (o := o40) 42 (fun (x48, x49) => ⟨[(0, lstOf .frozen (a0 : (List T_api_Linked))), (3, .ref 3 0), (5, lstOf (.own 100005) (x48 : (List T_api_Linked))), (6, .bool x49), (7, .int .i64 x28)], [(3, .cells (cellsOf a1))], [(100005, (((x48).map cellsOf).length, 2))], []⟩) ?_ ?_
      · refine pwp_seq ?_
        refine r_regd (by kernel_rfl) (by kernel_rfl) ?_
        obtain ⟨b50, h41, h40⟩ := o_bind h40
        refine p_run 3 (by kernel_rfl) ?_
        refine e_seg 7 23 (.bool b50) ?_ ?_
        · rcases o_cond h41 with ⟨hb, h41⟩ | ⟨hb, h41⟩
          · refine p_settle 16 hb (by kernel_rfl) (by kernel_rfl) ?_
            refine p_run 3 (by kernel_rfl) ?_
            obtain ⟨x51, h42, h41⟩ := o_bind h41
            refine p_ix h42 (by kernel_rfl) ?_
            refine p_run 1 (by kernel_rfl) ?_
            obtain ⟨r52, h43, h41⟩ := o_bind h41
            refine p_call (d_ref32_before_ok _ _ r52 h43) (by kernel_rfl) (by kernel_rfl) ?_
            cases h41
            exact f_end (by kernel_rfl) (by kernel_rfl)
          refine p_settle 16 hb (by kernel_rfl) (by kernel_rfl) ?_
          cases h41
          exact f_end (by kernel_rfl) (by kernel_rfl)
        refine e_nil (by kernel_rfl) ?_
        refine q_next ?_
        rcases o_cond h40 with ⟨hb, h40⟩ | ⟨hb, h40⟩
        · refine r_cond_t hb (by kernel_rfl) ?_
          refine pwp_seq (r_reg ?_)
          refine p_run 3 (by kernel_rfl) ?_
          obtain ⟨x53, h44, h40⟩ := o_bind h40
          refine p_app (tk := 100005) h44 (by kernel_rfl) (by kernel_rfl) ?_
          refine e_end (by kernel_rfl) ?_
          refine q_next (r_reg ?_)
          refine e_end (by kernel_rfl) ?_
          cases h40
          exact q_join (by kernel_rfl) (by kernel_rfl)
        refine r_cond_f hb (by kernel_rfl) ?_
        refine pwp_skip ?_
        cases h40
        exact q_join (by kernel_rfl) (by kernel_rfl)
      rintro ⟨x48, x49⟩ rfl
      have h34 := o_outl h34
      refine r_reg ?_
      refine p_run 3 (by kernel_rfl) ?_
      obtain ⟨x54, h45, h34⟩ := o_bind h34
      refine p_ix h45 (by kernel_rfl) ?_
      refine p_run 2 (by kernel_rfl) ?_
      obtain ⟨x55, h46, h34⟩ := o_bind h34
      refine p_app (tk := 100005) h46 (by kernel_rfl) (by kernel_rfl) ?_
      refine e_end (by kernel_rfl) ?_
      refine q_block (q_next (r_reg ?_))
      refine e_end (by kernel_rfl) ?_
      cases h34
      exact q_lback (by kernel_rfl)
    refine r_cond_f hb (by kernel_rfl) ?_
    refine pwp_exit (q_seq_exit ?_)
    cases h34
    exact q_lexit (by kernel_rfl) (by kernel_rfl)
  rintro ⟨x42, x43⟩ s' rfl hs
  have h := o_outl h
  refine q_block_hit ?_
  refine q_next (pwp_wkr hs ?_)
  obtain ⟨o48, h48, h⟩ := o_inl h
  refine r_join (o := o48) 42 (fun x57 => ⟨[(5, lstOf (.own 100005) (x57 : (List T_api_Linked)))], [], [(100005, (((x57).map cellsOf).length, 2))], []⟩) ?_ ?_
  · refine pwp_seq (r_reg ?_)
    refine e_end (by kernel_rfl) ?_
    refine q_next ?_
    rcases o_cond h48 with ⟨hb, h48⟩ | ⟨hb, h48⟩
    · refine r_cond_t hb (by kernel_rfl) ?_
      refine r_reg ?_
      refine p_run 3 (by kernel_rfl) ?_
      obtain ⟨x58, h49, h48⟩ := o_bind h48
      refine p_app (tk := 100005) h49 (by kernel_rfl) (by kernel_rfl) ?_
      refine e_end (by kernel_rfl) ?_
      cases h48
      exact q_join (by kernel_rfl) (by kernel_rfl)
    refine r_cond_f hb (by kernel_rfl) ?_
    refine pwp_skip ?_
    cases h48
    exact q_join (by kernel_rfl) (by kernel_rfl)
  rintro x57 rfl
  have h := o_outl h
  refine pwp_seq (r_reg ?_)
  refine e_end (by kernel_rfl) ?_
  refine q_next (pwp_ret ?_)
  cases h
  exact q_ret (by kernel_rfl) (by kernel_rfl) (by kernel_rfl)
theorem d_ref32_put_fz (a0 : (List T_api_Linked)) (a1 : T_api_Linked) (r : (List T_api_Linked)) (h : d_ref32_put a0 a1 = some r) : PCall Go.Proofs.Tryd.prog GlS 31 [Enc.pv a0, Enc.pv a1] (Enc.pv r) :=
  (d_ref32_put_ok a0 a1 r h).freeze (by kernel_rfl) (by kernel_rfl) (by kernel_rfl)

/-! signallingref32.Of -/
noncomputable def d_ref32_Of_1 (a0 : T_api_Layout) (a1 : (List T_api_Step)) (a3 : Int) (x134 : Int) (x135 : Int) (x195 : T_api_Element) : ((List T_api_Linked) × Int) → Option (((List T_api_Linked) × Int) ⊕ ((List T_api_Linked) ⊕ ((Int × Int × (List T_api_Linked)) ⊕ ((List T_api_Linked) ⊕ (List T_api_Linked))))) := fun (x213, x214) =>
  bif decide (x214 < ((a0.Balises.length : Nat) : Int)) then (
    onInl (α := (List T_api_Linked)) (β := (((List T_api_Linked) × Int) ⊕ ((List T_api_Linked) ⊕ ((Int × Int × (List T_api_Linked)) ⊕ ((List T_api_Linked) ⊕ (List T_api_Linked)))))) (
      (ixO a0.Balises x214).bind fun x242 =>
      (ixO a1 x135).bind fun x243 =>
      (d_ref32_place x195 x243 x242).bind fun r244 =>
      (ixO a1 x135).bind fun x245 =>
      ((bif decide (x242.El = x245.El) then (
        (ixO a1 x135).bind fun x247 =>
        (d_ref32_passes x195.Kind x247).bind fun r248 =>
        some r248
      ) else some false) : Option Bool).bind fun b246 =>
      bif (b246 && (decide ((w64 (x134 + r244)) ≤ a3))) then (
        (d_ref32_put x213 (T_api_Linked.mk x242.Id (w64 (x134 + r244)))).bind fun r249 =>
        some (.inl r249)
      ) else (
        some (.inl x213)
      )
    ) fun x241 =>
    some (.inl (x241, w64 (x214 + 1)))
  ) else (
    some (.inr (.inl x213))
  )

noncomputable def d_ref32_Of_0 (a0 : T_api_Layout) (a1 : (List T_api_Step)) (a3 : Int) : (Int × Int × (List T_api_Linked)) → Option ((Int × Int × (List T_api_Linked)) ⊕ ((List T_api_Linked) ⊕ (List T_api_Linked))) := fun (x134, x135, x136) =>
  bif decide (x135 < ((a1.length : Nat) : Int)) then (
    (ixO a1 x135).bind fun x194 =>
    (ixO a0.Elements x194.El).bind fun x195 =>
    onInl (α := (List T_api_Linked)) (β := ((Int × Int × (List T_api_Linked)) ⊕ ((List T_api_Linked) ⊕ (List T_api_Linked)))) (loopO (d_ref32_Of_1 a0 a1 a3 x134 x135 x195) (x136, 0)) fun x232 =>
    some (.inl (w64 (x134 + x195.Length), w64 (x135 + 1), x232))
  ) else (
    some (.inr (.inl x136))
  )

noncomputable def d_ref32_Of (a0 : T_api_Layout) (a1 : (List T_api_Step)) (a2 : Int) (a3 : Int) : Option (List T_api_Linked) :=
  (d_ref09_Valid a0 a1).bind fun r1 =>
  bif (!r1) then (
    some ([] : (List T_api_Linked))
  ) else (
    onInl (α := (List T_api_Linked)) (β := (List T_api_Linked)) (loopO (d_ref32_Of_0 a0 a1 a3) (a2, 0, ([] : (List T_api_Linked)))) fun x193 =>
    some x193
  )
theorem d_ref32_Of_ok (a0 : T_api_Layout) (a1 : (List T_api_Step)) (a2 : Int) (a3 : Int) (r : (List T_api_Linked)) (h : d_ref32_Of a0 a1 a2 a3 = some r) : PCall Go.Proofs.Tryd.prog GlS 12 [Enc.pv a0, Enc.pv a1, Enc.pv a2, Enc.pv a3] (Enc.pv r) := by
  unfold d_ref32_Of at h
  refine pcall_of_pwp Go.Proofs.Tryd.func12 (by rfl) rfl Go.Proofs.Tryd.ntmps12 (by rfl) rfl ?_
  refine pwp_seq (r_reg ?_)
  refine e_end (by kernel_rfl) ?_
  refine q_next (pwp_seq (pwp_seq (r_reg ?_)))
  refine p_run 2 (by kernel_rfl) ?_
  obtain ⟨r1, h1, h⟩ := o_bind h
  refine p_call (d_ref09_Valid_ok _ _ r1 h1) (by kernel_rfl) (by kernel_rfl) ?_
  refine e_end (by kernel_rfl) ?_
  refine q_next ?_
  rcases o_cond h with ⟨hb, h⟩ | ⟨hb, h⟩
  · refine r_cond_t hb (by kernel_rfl) ?_
    refine pwp_seq (r_reg ?_)
    refine e_end (by kernel_rfl) ?_
    refine q_next (pwp_ret (q_seq_ret ?_))
    cases h
    exact q_ret (by kernel_rfl) (by kernel_rfl) (by kernel_rfl)
  refine r_cond_f hb (by kernel_rfl) ?_
  refine pwp_skip (q_next (pwp_seq (r_reg ?_)))
  refine e_end (by kernel_rfl) ?_
  refine q_next (pwp_seq (r_reg ?_))
  refine e_end (by kernel_rfl) ?_
  refine q_next (pwp_seq (pwp_seq (r_reg ?_)))
  refine e_end (by kernel_rfl) ?_
  refine q_next (pwp_block ?_)
  obtain ⟨o185, h185, h⟩ := o_inl h
  refine r_loop2 91 0 (fun (x134, x135, x136) => ⟨[(1, lstOf .frozen (a1 : (List T_api_Step))), (3, .int .i64 a3), (4, .ref 4 0), (9, lstOf .frozen (x136 : (List T_api_Linked))), (10, .int .i64 x134), (11, .int .i64 x135)], [(4, .cells (cellsOf a0))], [], []⟩) (fun x193 => ⟨[(9, lstOf .frozen (x193 : (List T_api_Linked)))], [], [], []⟩) h185 (by kernel_rfl) (fun _ => by kernel_rfl) ?_ ?_
  · rintro ⟨x134, x135, x136⟩ oh184 h184
    unfold d_ref32_Of_0 at h184
    refine pwp_seq (pwp_seq (r_reg ?_))
    refine p_run 2 (by kernel_rfl) ?_
    refine p_len (L := (a1 : (List T_api_Step))) (by kernel_rfl) ?_
    refine e_end (by kernel_rfl) ?_
    refine q_next ?_
    rcases o_cond h184 with ⟨hb, h184⟩ | ⟨hb, h184⟩
    · refine r_cond_t hb (by kernel_rfl) ?_
      refine pwp_skip (q_next (pwp_seq (pwp_block (pwp_seq ?_))))
      refine r_regd (by kernel_rfl) (by kernel_rfl) ?_
      refine p_run 4 (by kernel_rfl) ?_
      obtain ⟨x194, h186, h184⟩ := o_bind h184
      refine p_ix h186 (by kernel_rfl) ?_
      refine p_run 2 (by kernel_rfl) ?_
      obtain ⟨x195, h187, h184⟩ := o_bind h184
      refine p_ix h187 (by kernel_rfl) ?_
      refine e_end (by kernel_rfl) ?_
      refine q_next (pwp_seq (pwp_seq (r_reg ?_)))
      refine e_end (by kernel_rfl) ?_
      refine q_next (pwp_block ?_)
      obtain ⟨o223, h223, h184⟩ := o_inl h184
      refine r_loop2 91 2 (fun (x213, x214) => ⟨[(1, lstOf .frozen (a1 : (List T_api_Step))), (3, .int .i64 a3), (4, .ref 4 0), (9, lstOf .frozen (x213 : (List T_api_Linked))), (10, .int .i64 x134), (11, .int .i64 x135), (12, .ref 12 0), (13, .int .i64 x214)], [(4, .cells (cellsOf a0)), (12, .cells (cellsOf x195))], [], []⟩) (fun x232 => ⟨[(1, lstOf .frozen (a1 : (List T_api_Step))), (3, .int .i64 a3), (4, .ref 4 0), (9, lstOf .frozen (x232 : (List T_api_Linked))), (10, .int .i64 x134), (11, .int .i64 x135), (12, .ref 12 0)], [(4, .cells (cellsOf a0)), (12, .cells (cellsOf x195))], [], []⟩) h223 (by kernel_rfl) (fun _ => by kernel_rfl) ?_ ?_
      · rintro ⟨x213, x214⟩ oh222 h222
        unfold d_ref32_Of_1 at h222
        refine pwp_seq (pwp_seq (r_reg ?_))
        refine p_run 3 (by kernel_rfl) ?_
        refine p_len (L := (a0.Balises : (List T_api_Balise))) (by kernel_rfl) ?_
        refine e_end (by kernel_rfl) ?_
        refine q_next ?_
        rcases o_cond h222 with ⟨hb, h222⟩ | ⟨hb, h222⟩
        · refine r_cond_t hb (by kernel_rfl) ?_
          refine pwp_skip (q_next ?_)
          obtain ⟨o232, h232, h222⟩ := o_inl h222
          refine r_join (o := o232) 91 (fun x241 => ⟨[(1, lstOf .frozen (a1 : (List T_api_Step))), (3, .int .i64 a3), (4, .ref 4 0), (9, lstOf .frozen (x241 : (List T_api_Linked))), (10, .int .i64 x134), (11, .int .i64 x135), (12, .ref 12 0), (13, .int .i64 x214)], [(4, .cells (cellsOf a0)), (12, .cells (cellsOf x195))], [], []⟩) ?_ ?_
          · refine pwp_block (pwp_seq (r_reg ?_))
            refine p_run 3 (by kernel_rfl) ?_
            obtain ⟨x242, h233, h232⟩ := o_bind h232
            refine p_ix h233 (by kernel_rfl) ?_
            refine e_end (by kernel_rfl) ?_
            refine q_next (pwp_seq ?_)
            refine r_regd (by kernel_rfl) (by kernel_rfl) ?_
            refine p_run 6 (by kernel_rfl) ?_
            obtain ⟨x243, h234, h232⟩ := o_bind h232
            refine p_ix h234 (by kernel_rfl) ?_
            refine p_run 2 (by kernel_rfl) ?_
            obtain ⟨r244, h235, h232⟩ := o_bind h232
            refine p_call (d_ref32_place_ok _ _ _ r244 h235) (by kernel_rfl) (by kernel_rfl) ?_
            refine e_end (by kernel_rfl) ?_
            refine q_next (pwp_seq ?_)
            refine r_regd (by kernel_rfl) (by kernel_rfl) ?_
            refine p_run 4 (by kernel_rfl) ?_
            obtain ⟨x245, h236, h232⟩ := o_bind h232
            refine p_ix h236 (by kernel_rfl) ?_
            obtain ⟨b246, h237, h232⟩ := o_bind h232
            refine p_run 4 (by kernel_rfl) ?_
            refine e_seg 8 76 (.bool b246) ?_ ?_
            · rcases o_cond h237 with ⟨hb, h237⟩ | ⟨hb, h237⟩
              · refine p_settle 68 hb (by kernel_rfl) (by kernel_rfl) ?_
                refine p_run 4 (by kernel_rfl) ?_
                obtain ⟨x247, h238, h237⟩ := o_bind h237
                refine p_ix h238 (by kernel_rfl) ?_
                refine p_run 1 (by kernel_rfl) ?_
                obtain ⟨r248, h239, h237⟩ := o_bind h237
                refine p_call (d_ref32_passes_ok _ _ r248 h239) (by kernel_rfl) (by kernel_rfl) ?_
                cases h237
                exact f_end (by kernel_rfl) (by kernel_rfl)
              refine p_settle 68 hb (by kernel_rfl) (by kernel_rfl) ?_
              cases h237
              exact f_end (by kernel_rfl) (by kernel_rfl)
            refine p_run 1 (by kernel_rfl) ?_
            refine e_segb 5 82 (b246 && (decide ((w64 (x134 + r244)) ≤ a3))) (fun x hx => ?_) ?_
            · rcases b_and hx with ⟨hb, hx⟩ | ⟨hb, hx⟩
              · refine p_settle 77 hb (by kernel_rfl) (by kernel_rfl) ?_
                subst hx
                exact f_end (by kernel_rfl) (by kernel_rfl)
              refine p_settle 77 hb (by kernel_rfl) (by kernel_rfl) ?_
              subst hx
              exact f_end (by kernel_rfl) (by kernel_rfl)
            refine e_nil (by kernel_rfl) ?_
            refine q_next ?_
            rcases o_cond h232 with ⟨hb, h232⟩ | ⟨hb, h232⟩
            · refine r_cond_t hb (by kernel_rfl) ?_
              refine r_reg ?_
              refine p_run 2 (by kernel_rfl) ?_
              obtain ⟨r249, h240, h232⟩ := o_bind h232
              refine p_call (d_ref32_put_ok _ _ r249 h240) (by kernel_rfl) (by kernel_rfl) ?_
              refine e_end (by kernel_rfl) ?_
              refine q_block ?_
              cases h232
              exact q_join (by kernel_rfl) (by kernel_rfl)
            refine r_cond_f hb (by kernel_rfl) ?_
            refine pwp_skip (q_block ?_)
            cases h232
            exact q_join (by kernel_rfl) (by kernel_rfl)
          rintro x241 rfl
          have h222 := o_outl h222
          refine r_reg ?_
          refine e_end (by kernel_rfl) ?_
          cases h222
          exact q_lback (by kernel_rfl)
        refine r_cond_f hb (by kernel_rfl) ?_
        refine pwp_exit (q_seq_exit ?_)
        cases h222
        exact q_lexit (by kernel_rfl) (by kernel_rfl)
      rintro x232 s' rfl hs
      have h184 := o_outl h184
      refine q_block_hit ?_
      refine q_next (pwp_wkr hs ?_)
      refine r_reg ?_
      refine e_end (by kernel_rfl) ?_
      refine q_block (q_next (r_reg ?_))
      refine e_end (by kernel_rfl) ?_
      cases h184
      exact q_lback (by kernel_rfl)
    refine r_cond_f hb (by kernel_rfl) ?_
    refine pwp_exit (q_seq_exit ?_)
    cases h184
    exact q_lexit (by kernel_rfl) (by kernel_rfl)
  rintro x193 s' rfl hs
  have h := o_outl h
  refine q_block_hit ?_
  refine q_next (pwp_wkr hs ?_)
  refine pwp_seq (r_reg ?_)
  refine e_end (by kernel_rfl) ?_
  refine q_next (pwp_ret ?_)
  cases h
  exact q_ret (by kernel_rfl) (by kernel_rfl) (by kernel_rfl)

/-! signallinglaw32.LinkingOf -/
noncomputable def d_law32_LinkingOf (a0 : T_api_Layout) (a1 : (List T_api_Step)) (a2 : Int) (a3 : Int) : Option Bool :=
  (d_law32_few a0 a1 a2).bind fun r1 =>
  bif (!r1) then (
    (d_law32_alive ).bind fun r2 =>
    some r2
  ) else (
    (d_linking_Of a0 a1 a2 a3).bind fun r3 =>
    (d_ref32_Of a0 a1 a2 a3).bind fun r4 =>
    (d_ref32_Same r3 r4).bind fun r5 =>
    ((bif r5 then (
      (d_law32_alive ).bind fun r7 =>
      some r7
    ) else some false) : Option Bool).bind fun b6 =>
    some b6
  )
theorem d_law32_LinkingOf_ok (a0 : T_api_Layout) (a1 : (List T_api_Step)) (a2 : Int) (a3 : Int) (r : Bool) (h : d_law32_LinkingOf a0 a1 a2 a3 = some r) : PCall Go.Proofs.Tryd.prog GlS 3 [Enc.pv a0, Enc.pv a1, Enc.pv a2, Enc.pv a3] (Enc.pv r) := by
  unfold d_law32_LinkingOf at h
  refine pcall_of_pwp Go.Proofs.Tryd.func3 (by rfl) rfl Go.Proofs.Tryd.ntmps3 (by rfl) rfl ?_
  refine pwp_seq (r_reg ?_)
  refine e_end (by kernel_rfl) ?_
  refine q_next (pwp_seq (pwp_seq (r_reg ?_)))
  refine p_run 3 (by kernel_rfl) ?_
  obtain ⟨r1, h1, h⟩ := o_bind h
  refine p_call (d_law32_few_ok _ _ _ r1 h1) (by kernel_rfl) (by kernel_rfl) ?_
  refine e_end (by kernel_rfl) ?_
  refine q_next ?_
  rcases o_cond h with ⟨hb, h⟩ | ⟨hb, h⟩
  · refine r_cond_t hb (by kernel_rfl) ?_
    refine pwp_seq (r_reg ?_)
    obtain ⟨r2, h2, h⟩ := o_bind h
    refine p_call (d_law32_alive_ok  r2 h2) (by kernel_rfl) (by kernel_rfl) ?_
    refine e_end (by kernel_rfl) ?_
    refine q_next (pwp_ret (q_seq_ret ?_))
    cases h
    exact q_ret (by kernel_rfl) (by kernel_rfl) (by kernel_rfl)
  refine r_cond_f hb (by kernel_rfl) ?_
  refine pwp_skip (q_next (pwp_seq ?_))
  refine r_regd (by kernel_rfl) (by kernel_rfl) ?_
  refine p_run 4 (by kernel_rfl) ?_
  obtain ⟨r3, h3, h⟩ := o_bind h
  refine p_call (d_linking_Of_ok _ _ _ _ r3 h3) (by kernel_rfl) (by kernel_rfl) ?_
  refine p_run 4 (by kernel_rfl) ?_
  obtain ⟨r4, h4, h⟩ := o_bind h
  refine p_call (d_ref32_Of_ok _ _ _ _ r4 h4) (by kernel_rfl) (by kernel_rfl) ?_
  obtain ⟨r5, h5, h⟩ := o_bind h
  refine p_call (d_ref32_Same_ok _ _ r5 h5) (by kernel_rfl) (by kernel_rfl) ?_
  obtain ⟨b6, h6, h⟩ := o_bind h
  refine p_run 1 (by kernel_rfl) ?_
  refine e_seg 2 28 (.bool b6) ?_ ?_
  · rcases o_cond h6 with ⟨hb, h6⟩ | ⟨hb, h6⟩
    · refine p_settle 26 hb (by kernel_rfl) (by kernel_rfl) ?_
      obtain ⟨r7, h7, h6⟩ := o_bind h6
      refine p_call (d_law32_alive_ok  r7 h7) (by kernel_rfl) (by kernel_rfl) ?_
      cases h6
      exact f_end (by kernel_rfl) (by kernel_rfl)
    refine p_settle 26 hb (by kernel_rfl) (by kernel_rfl) ?_
    cases h6
    exact f_end (by kernel_rfl) (by kernel_rfl)
  refine e_end (by kernel_rfl) ?_
  refine q_next (pwp_ret ?_)
  cases h
  exact q_ret (by kernel_rfl) (by kernel_rfl) (by kernel_rfl)

/-! signallingref32.Valid -/
noncomputable def d_ref32_Valid_1 (a0 : (List T_api_Linked)) (x12 : Int) : Int → Option (Int ⊕ (Unit ⊕ (Int ⊕ (Unit ⊕ Bool)))) := fun x30 =>
  bif decide (x30 < x12) then (
    (ixO a0 x30).bind fun x33 =>
    (ixO a0 x12).bind fun x34 =>
    bif decide (x33.Id = x34.Id) then (
      some (.inr (.inr (.inr (.inr false))))
    ) else (
      some (.inl (w64 (x30 + 1)))
    )
  ) else (
    some (.inr (.inl ()))
  )

noncomputable def d_ref32_Valid_0 (a0 : (List T_api_Linked)) : Int → Option (Int ⊕ (Unit ⊕ Bool)) := fun x12 =>
  ((bif decide (x12 < ((a0.length : Nat) : Int)) then (
    some (decide (((a0.length : Nat) : Int) ≤ 24))
  ) else some false) : Option Bool).bind fun b24 =>
  bif b24 then (
    ((bif decide (0 < x12) then (
      (ixO a0 x12).bind fun x26 =>
      (ixO a0 (w64 (x12 - 1))).bind fun x27 =>
      some (decide (x26.At < x27.At))
    ) else some false) : Option Bool).bind fun b25 =>
    bif b25 then (
      some (.inr (.inr false))
    ) else (
      onInl (α := Unit) (β := (Int ⊕ (Unit ⊕ Bool))) (loopO (d_ref32_Valid_1 a0 x12) 0) fun _ =>
      some (.inl (w64 (x12 + 1)))
    )
  ) else (
    some (.inr (.inl ()))
  )

noncomputable def d_ref32_Valid (a0 : (List T_api_Linked)) : Option Bool :=
  onInl (α := Unit) (β := Bool) (loopO (d_ref32_Valid_0 a0) 0) fun _ =>
  some (decide (((a0.length : Nat) : Int) ≤ 24))
theorem d_ref32_Valid_ok (a0 : (List T_api_Linked)) (r : Bool) (h : d_ref32_Valid a0 = some r) : PCall Go.Proofs.Tryd.prog GlS 14 [Enc.pv a0] (Enc.pv r) := by
  unfold d_ref32_Valid at h
  refine pcall_of_pwp Go.Proofs.Tryd.func14 (by rfl) rfl Go.Proofs.Tryd.ntmps14 (by rfl) rfl ?_
  refine pwp_seq (r_reg ?_)
  refine e_end (by kernel_rfl) ?_
  refine q_next (pwp_seq (pwp_seq (r_reg ?_)))
  refine e_end (by kernel_rfl) ?_
  refine q_next (pwp_block ?_)
  obtain ⟨o40, h40, h⟩ := o_inl h
  refine r_loop2 51 0 (fun x12 => ⟨[(0, lstOf .frozen (a0 : (List T_api_Linked))), (3, .int .i64 x12)], [], [], []⟩) (fun (_ : Unit) => ⟨[(0, lstOf .frozen (a0 : (List T_api_Linked)))], [], [], []⟩) h40 (by kernel_rfl) (fun _ => by kernel_rfl) ?_ ?_
  · rintro x12 oh39 h39
    unfold d_ref32_Valid_0 at h39
    refine pwp_seq (pwp_seq (r_reg ?_))
    refine p_run 2 (by kernel_rfl) ?_
    refine p_len (L := (a0 : (List T_api_Linked))) (by kernel_rfl) ?_
    obtain ⟨b24, h41, h39⟩ := o_bind h39
    refine p_run 2 (by kernel_rfl) ?_
    refine e_seg 4 13 (.bool b24) ?_ ?_
    · rcases o_cond h41 with ⟨hb, h41⟩ | ⟨hb, h41⟩
      · refine p_settle 9 hb (by kernel_rfl) (by kernel_rfl) ?_
        refine p_run 1 (by kernel_rfl) ?_
        refine p_len (L := (a0 : (List T_api_Linked))) (by kernel_rfl) ?_
        cases h41
        exact f_end (by kernel_rfl) (by kernel_rfl)
      refine p_settle 9 hb (by kernel_rfl) (by kernel_rfl) ?_
      cases h41
      exact f_end (by kernel_rfl) (by kernel_rfl)
    refine e_nil (by kernel_rfl) ?_
    refine q_next ?_
    rcases o_cond h39 with ⟨hb, h39⟩ | ⟨hb, h39⟩
    · refine r_cond_t hb (by kernel_rfl) ?_
      refine pwp_skip (q_next (pwp_seq (pwp_block (pwp_seq (pwp_seq ?_)))))
      refine r_regd (by kernel_rfl) (by kernel_rfl) ?_
      obtain ⟨b25, h42, h39⟩ := o_bind h39
      refine p_run 3 (by kernel_rfl) ?_
      refine e_seg 13 31 (.bool b25) ?_ ?_
      · rcases o_cond h42 with ⟨hb, h42⟩ | ⟨hb, h42⟩
        · refine p_settle 18 hb (by kernel_rfl) (by kernel_rfl) ?_
          refine p_run 2 (by kernel_rfl) ?_
          obtain ⟨x26, h43, h42⟩ := o_bind h42
          refine p_ix h43 (by kernel_rfl) ?_
          refine p_run 5 (by kernel_rfl) ?_
          obtain ⟨x27, h44, h42⟩ := o_bind h42
          refine p_ix h44 (by kernel_rfl) ?_
          cases h42
          exact f_end (by kernel_rfl) (by kernel_rfl)
        refine p_settle 18 hb (by kernel_rfl) (by kernel_rfl) ?_
        cases h42
        exact f_end (by kernel_rfl) (by kernel_rfl)
      refine e_nil (by kernel_rfl) ?_
      refine q_next ?_
      rcases o_cond h39 with ⟨hb, h39⟩ | ⟨hb, h39⟩
      · refine r_cond_t hb (by kernel_rfl) ?_
        refine pwp_seq (r_reg ?_)
        refine e_end (by kernel_rfl) ?_
        refine q_next (pwp_ret (q_seq_ret (q_block_ret (q_seq_ret ?_))))
        cases h39
        refine q_lout_ret fun he => ?_
        subst he
        have h45 := o_outr h
        refine q_block_ret (q_seq_ret ?_)
        cases h45
        exact q_ret (by kernel_rfl) (by kernel_rfl) (by kernel_rfl)
      refine r_cond_f hb (by kernel_rfl) ?_
      refine pwp_skip (q_next (pwp_seq (r_reg ?_)))
      refine e_end (by kernel_rfl) ?_
      refine q_next (pwp_block ?_)
      obtain ⟨o55, h55, h39⟩ := o_inl h39
      refine r_loop2 51 2 (fun x30 => ⟨[(0, lstOf .frozen (a0 : (List T_api_Linked))), (3, .int .i64 x12), (4, .int .i64 x30)], [], [], []⟩) (fun (_ : Unit) => ⟨[(0, lstOf .frozen (a0 : (List T_api_Linked))), (3, .int .i64 x12)], [], [], []⟩) h55 (by kernel_rfl) (fun _ => by kernel_rfl) ?_ ?_
      · rintro x30 oh54 h54
        unfold d_ref32_Valid_1 at h54
        refine pwp_seq (pwp_seq (r_reg ?_))
        refine e_end (by kernel_rfl) ?_
        refine q_next ?_
        rcases o_cond h54 with ⟨hb, h54⟩ | ⟨hb, h54⟩
        · refine r_cond_t hb (by kernel_rfl) ?_
          refine pwp_skip (q_next (pwp_seq (pwp_block (pwp_seq ?_))))
          refine r_regd (by kernel_rfl) (by kernel_rfl) ?_
          refine p_run 2 (by kernel_rfl) ?_
          obtain ⟨x33, h56, h54⟩ := o_bind h54
          refine p_ix h56 (by kernel_rfl) ?_
          refine p_run 4 (by kernel_rfl) ?_
          obtain ⟨x34, h57, h54⟩ := o_bind h54
          refine p_ix h57 (by kernel_rfl) ?_
          refine e_end (by kernel_rfl) ?_
          refine q_next ?_
          rcases o_cond h54 with ⟨hb, h54⟩ | ⟨hb, h54⟩
          · refine r_cond_t hb (by kernel_rfl) ?_
            refine pwp_seq (r_reg ?_)
            refine e_end (by kernel_rfl) ?_
            refine q_next (pwp_ret (q_block_ret (q_seq_ret ?_)))
            cases h54
            refine q_lout_ret fun he => ?_
            subst he
            have h58 := o_outr h39
            refine q_block_ret (q_block_ret (q_seq_ret ?_))
            cases h58
            refine q_lout_ret fun he => ?_
            subst he
            have h59 := o_outr h
            refine q_block_ret (q_seq_ret ?_)
            cases h59
            exact q_ret (by kernel_rfl) (by kernel_rfl) (by kernel_rfl)
          refine r_cond_f hb (by kernel_rfl) ?_
          refine pwp_skip (q_block (q_next (r_reg ?_)))
          refine e_end (by kernel_rfl) ?_
          cases h54
          exact q_lback (by kernel_rfl)
        refine r_cond_f hb (by kernel_rfl) ?_
        refine pwp_exit (q_seq_exit ?_)
        cases h54
        exact q_lexit (by kernel_rfl) (by kernel_rfl)
      rintro _ s' rfl hs
      have h39 := o_outl h39
      refine q_block_hit (q_block ?_)
      refine q_next (pwp_wkr hs ?_)
      refine r_reg ?_
      refine e_end (by kernel_rfl) ?_
      cases h39
      exact q_lback (by kernel_rfl)
    refine r_cond_f hb (by kernel_rfl) ?_
    refine pwp_exit (q_seq_exit ?_)
    cases h39
    exact q_lexit (by kernel_rfl) (by kernel_rfl)
  rintro _ s' rfl hs
  have h := o_outl h
  refine q_block_hit ?_
  refine q_next (pwp_wkr hs ?_)
  refine pwp_seq (r_reg ?_)
  refine p_run 1 (by kernel_rfl) ?_
  refine p_len (L := (a0 : (List T_api_Linked))) (by kernel_rfl) ?_
  refine e_end (by kernel_rfl) ?_
  refine q_next (pwp_ret ?_)
  cases h
  exact q_ret (by kernel_rfl) (by kernel_rfl) (by kernel_rfl)

/-! signallinglaw32.LinkingValid -/
noncomputable def d_law32_LinkingValid (a0 : (List T_api_Linked)) : Option Bool :=
  ((bif decide (100 < ((a0.length : Nat) : Int)) then some true else (
    (d_linking_Valid a0).bind fun r2 =>
    (d_ref32_Valid a0).bind fun r3 =>
    ((bif (r2 == r3) then (
      (d_law32_alive ).bind fun r5 =>
      some r5
    ) else some false) : Option Bool).bind fun b4 =>
    some b4
  )) : Option Bool).bind fun b1 =>
  some b1
theorem d_law32_LinkingValid_ok (a0 : (List T_api_Linked)) (r : Bool) (h : d_law32_LinkingValid a0 = some r) : PCall Go.Proofs.Tryd.prog GlS 4 [Enc.pv a0] (Enc.pv r) := by
  unfold d_law32_LinkingValid at h
  refine pcall_of_pwp Go.Proofs.Tryd.func4 (by rfl) rfl Go.Proofs.Tryd.ntmps4 (by rfl) rfl ?_
  refine pwp_seq (r_reg ?_)
  refine e_end (by kernel_rfl) ?_
  refine q_next (pwp_seq (r_reg ?_))
  refine p_run 1 (by kernel_rfl) ?_
  refine p_len (L := (a0 : (List T_api_Linked))) (by kernel_rfl) ?_
  obtain ⟨b1, h1, h⟩ := o_bind h
  refine p_run 2 (by kernel_rfl) ?_
  refine e_seg 9 15 (.bool b1) ?_ ?_
  · rcases o_cond h1 with ⟨hb, h1⟩ | ⟨hb, h1⟩
    · refine p_settle 6 hb (by kernel_rfl) (by kernel_rfl) ?_
      cases h1
      exact f_end (by kernel_rfl) (by kernel_rfl)
    refine p_settle 6 hb (by kernel_rfl) (by kernel_rfl) ?_
    refine p_run 1 (by kernel_rfl) ?_
    obtain ⟨r2, h2, h1⟩ := o_bind h1
    refine p_call (d_linking_Valid_ok _ r2 h2) (by kernel_rfl) (by kernel_rfl) ?_
    refine p_run 1 (by kernel_rfl) ?_
    obtain ⟨r3, h3, h1⟩ := o_bind h1
    refine p_call (d_ref32_Valid_ok _ r3 h3) (by kernel_rfl) (by kernel_rfl) ?_
    obtain ⟨b4, h4, h1⟩ := o_bind h1
    refine p_run 2 (by kernel_rfl) ?_
    refine f_seg 2 14 (.bool b4) ?_ ?_
    · rcases o_cond h4 with ⟨hb, h4⟩ | ⟨hb, h4⟩
      · refine p_settle 12 hb (by kernel_rfl) (by kernel_rfl) ?_
        obtain ⟨r5, h5, h4⟩ := o_bind h4
        refine p_call (d_law32_alive_ok  r5 h5) (by kernel_rfl) (by kernel_rfl) ?_
        cases h4
        exact f_end (by kernel_rfl) (by kernel_rfl)
      refine p_settle 12 hb (by kernel_rfl) (by kernel_rfl) ?_
      cases h4
      exact f_end (by kernel_rfl) (by kernel_rfl)
    cases h1
    exact f_end (by kernel_rfl) (by kernel_rfl)
  refine e_end (by kernel_rfl) ?_
  refine q_next (pwp_ret ?_)
  cases h
  exact q_ret (by kernel_rfl) (by kernel_rfl) (by kernel_rfl)

/-! signallingref32.clamped -/
noncomputable def d_ref32_clamped (a0 : (List T_api_Linked)) (a1 : Int) : Option Int :=
  some (max 0 (min a1 ((a0.length : Nat) : Int)))
theorem d_ref32_clamped_ok (a0 : (List T_api_Linked)) (a1 : Int) (r : Int) (h : d_ref32_clamped a0 a1 = some r) : PCall Go.Proofs.Tryd.prog GlS 34 [Enc.pv a0, Enc.pv a1] (Enc.pv r) := by
  unfold d_ref32_clamped at h
  refine pcall_of_pwp Go.Proofs.Tryd.func34 (by rfl) rfl Go.Proofs.Tryd.ntmps34 (by rfl) rfl ?_
  refine pwp_seq (r_reg ?_)
  refine e_end (by kernel_rfl) ?_
  refine q_next (pwp_seq (r_reg ?_))
  refine p_run 2 (by kernel_rfl) ?_
  refine p_len (L := (a0 : (List T_api_Linked))) (by kernel_rfl) ?_
  refine e_end (by kernel_rfl) ?_
  refine q_next (pwp_ret ?_)
  cases h
  exact q_ret (by kernel_rfl) (by kernel_rfl) (by kernel_rfl)

/-! signallingref32.Overdue -/
noncomputable def d_ref32_Overdue_0 (a0 : (List T_api_Linked)) (a2 : T_api_Estimate) : Int → Option (Int ⊕ (Int ⊕ Int)) := fun x4 =>
  ((bif decide (x4 < ((a0.length : Nat) : Int)) then (
    (ixO a0 x4).bind fun x9 =>
    some (decide ((w64 (x9.At + 500)) < a2.Min))
  ) else some false) : Option Bool).bind fun b8 =>
  bif b8 then (
    some (.inl (w64 (x4 + 1)))
  ) else (
    some (.inr (.inl x4))
  )

noncomputable def d_ref32_Overdue (a0 : (List T_api_Linked)) (a1 : Int) (a2 : T_api_Estimate) : Option Int :=
  (d_ref32_clamped a0 a1).bind fun r1 =>
  onInl (α := Int) (β := Int) (loopO (d_ref32_Overdue_0 a0 a2) r1) fun x7 =>
  some x7
theorem d_ref32_Overdue_ok (a0 : (List T_api_Linked)) (a1 : Int) (a2 : T_api_Estimate) (r : Int) (h : d_ref32_Overdue a0 a1 a2 = some r) : PCall Go.Proofs.Tryd.prog GlS 16 [Enc.pv a0, Enc.pv a1, Enc.pv a2] (Enc.pv r) := by
  unfold d_ref32_Overdue at h
  refine pcall_of_pwp Go.Proofs.Tryd.func16 (by rfl) rfl Go.Proofs.Tryd.ntmps16 (by rfl) rfl ?_
  refine pwp_seq (r_reg ?_)
  refine e_end (by kernel_rfl) ?_
  refine q_next (pwp_seq (r_reg ?_))
  refine p_run 2 (by kernel_rfl) ?_
  obtain ⟨r1, h1, h⟩ := o_bind h
  refine p_call (d_ref32_clamped_ok _ _ r1 h1) (by kernel_rfl) (by kernel_rfl) ?_
  refine e_end (by kernel_rfl) ?_
  refine q_next (pwp_seq (pwp_block ?_))
  obtain ⟨o7, h7, h⟩ := o_inl h
  refine r_loop2 29 0 (fun x4 => ⟨[(0, lstOf .frozen (a0 : (List T_api_Linked))), (5, .ref 5 0), (7, .int .i64 x4)], [(5, .cells (cellsOf a2))], [], []⟩) (fun x7 => ⟨[(7, .int .i64 x7)], [], [], []⟩) h7 (by kernel_rfl) (fun _ => by kernel_rfl) ?_ ?_
  · rintro x4 oh6 h6
    unfold d_ref32_Overdue_0 at h6
    refine pwp_seq (pwp_seq ?_)
    refine r_regd (by kernel_rfl) (by kernel_rfl) ?_
    refine p_run 2 (by kernel_rfl) ?_
    refine p_len (L := (a0 : (List T_api_Linked))) (by kernel_rfl) ?_
    obtain ⟨b8, h8, h6⟩ := o_bind h6
    refine p_run 2 (by kernel_rfl) ?_
    refine e_seg 10 25 (.bool b8) ?_ ?_
    · rcases o_cond h8 with ⟨hb, h8⟩ | ⟨hb, h8⟩
      · refine p_settle 15 hb (by kernel_rfl) (by kernel_rfl) ?_
        refine p_run 2 (by kernel_rfl) ?_
        obtain ⟨x9, h9, h8⟩ := o_bind h8
        refine p_ix h9 (by kernel_rfl) ?_
        cases h8
        exact f_end (by kernel_rfl) (by kernel_rfl)
      refine p_settle 15 hb (by kernel_rfl) (by kernel_rfl) ?_
      cases h8
      exact f_end (by kernel_rfl) (by kernel_rfl)
    refine e_nil (by kernel_rfl) ?_
    refine q_next ?_
    rcases o_cond h6 with ⟨hb, h6⟩ | ⟨hb, h6⟩
    · refine r_cond_t hb (by kernel_rfl) ?_
      refine pwp_skip (q_next (pwp_block (r_reg ?_)))
      refine e_end (by kernel_rfl) ?_
      refine q_block ?_
      cases h6
      exact q_lback (by kernel_rfl)
    refine r_cond_f hb (by kernel_rfl) ?_
    refine pwp_exit (q_seq_exit ?_)
    cases h6
    exact q_lexit (by kernel_rfl) (by kernel_rfl)
  rintro x7 s' rfl hs
  have h := o_outl h
  refine q_block_hit ?_
  refine q_next (pwp_wkr hs ?_)
  refine pwp_seq (r_reg ?_)
  refine e_end (by kernel_rfl) ?_
  refine q_next (pwp_ret ?_)
  cases h
  exact q_ret (by kernel_rfl) (by kernel_rfl) (by kernel_rfl)

/-! signallinglaw32.LinkingOverdue -/
noncomputable def d_law32_LinkingOverdue_0 (a0 : (List T_api_Linked)) : Int → Option (Int ⊕ (Unit ⊕ Bool)) := fun x6 =>
  bif decide (x6 < ((a0.length : Nat) : Int)) then (
    (ixO a0 x6).bind fun x11 =>
    ((bif decide (x11.At < (-2147483648)) then some true else (
      (ixO a0 x6).bind fun x13 =>
      some (decide (2147483648 < x13.At))
    )) : Option Bool).bind fun b12 =>
    bif b12 then (
      (d_law32_alive ).bind fun r14 =>
      some (.inr (.inr r14))
    ) else (
      some (.inl (w64 (x6 + 1)))
    )
  ) else (
    some (.inr (.inl ()))
  )

noncomputable def d_law32_LinkingOverdue (a0 : (List T_api_Linked)) (a1 : Int) (a2 : T_api_Estimate) : Option Bool :=
  bif (((decide (100 < ((a0.length : Nat) : Int))) || (decide (a2.Min < (-2147483648)))) || (decide (2147483648 < a2.Min))) then (
    (d_law32_alive ).bind fun r1 =>
    some r1
  ) else (
    onInl (α := Unit) (β := Bool) (loopO (d_law32_LinkingOverdue_0 a0) 0) fun _ =>
    (d_linking_Overdue a0 a1 a2).bind fun r15 =>
    (d_ref32_Overdue a0 a1 a2).bind fun r16 =>
    ((bif decide (r15 = r16) then (
      (d_linking_Overdue a0 r15 a2).bind fun r18 =>
      some (decide (r18 = r15))
    ) else some false) : Option Bool).bind fun b17 =>
    ((bif b17 then (
      (d_law32_alive ).bind fun r20 =>
      some r20
    ) else some false) : Option Bool).bind fun b19 =>
    some b19
  )
theorem d_law32_LinkingOverdue_ok (a0 : (List T_api_Linked)) (a1 : Int) (a2 : T_api_Estimate) (r : Bool) (h : d_law32_LinkingOverdue a0 a1 a2 = some r) : PCall Go.Proofs.Tryd.prog GlS 5 [Enc.pv a0, Enc.pv a1, Enc.pv a2] (Enc.pv r) := by
  unfold d_law32_LinkingOverdue at h
  refine pcall_of_pwp Go.Proofs.Tryd.func5 (by rfl) rfl Go.Proofs.Tryd.ntmps5 (by rfl) rfl ?_
  refine pwp_seq (r_reg ?_)
  refine e_end (by kernel_rfl) ?_
  refine q_next (pwp_seq (pwp_seq (r_reg ?_)))
  refine p_run 1 (by kernel_rfl) ?_
  refine p_len (L := (a0 : (List T_api_Linked))) (by kernel_rfl) ?_
  refine p_run 2 (by kernel_rfl) ?_
  refine e_segb 4 16 ((decide (100 < ((a0.length : Nat) : Int))) || (decide (a2.Min < (-2147483648)))) (fun x hx => ?_) ?_
  · rcases b_or hx with ⟨hb, hx⟩ | ⟨hb, hx⟩
    · refine p_settle 12 hb (by kernel_rfl) (by kernel_rfl) ?_
      subst hx
      exact f_end (by kernel_rfl) (by kernel_rfl)
    refine p_settle 12 hb (by kernel_rfl) (by kernel_rfl) ?_
    subst hx
    exact f_end (by kernel_rfl) (by kernel_rfl)
  refine p_run 1 (by kernel_rfl) ?_
  refine e_segb 4 21 (((decide (100 < ((a0.length : Nat) : Int))) || (decide (a2.Min < (-2147483648)))) || (decide (2147483648 < a2.Min))) (fun x hx => ?_) ?_
  · rcases b_or hx with ⟨hb, hx⟩ | ⟨hb, hx⟩
    · refine p_settle 17 hb (by kernel_rfl) (by kernel_rfl) ?_
      subst hx
      exact f_end (by kernel_rfl) (by kernel_rfl)
    refine p_settle 17 hb (by kernel_rfl) (by kernel_rfl) ?_
    subst hx
    exact f_end (by kernel_rfl) (by kernel_rfl)
  refine e_nil (by kernel_rfl) ?_
  refine q_next ?_
  rcases o_cond h with ⟨hb, h⟩ | ⟨hb, h⟩
  · refine r_cond_t hb (by kernel_rfl) ?_
    refine pwp_seq (r_reg ?_)
    obtain ⟨r1, h1, h⟩ := o_bind h
    refine p_call (d_law32_alive_ok  r1 h1) (by kernel_rfl) (by kernel_rfl) ?_
    refine e_end (by kernel_rfl) ?_
    refine q_next (pwp_ret (q_seq_ret ?_))
    cases h
    exact q_ret (by kernel_rfl) (by kernel_rfl) (by kernel_rfl)
  refine r_cond_f hb (by kernel_rfl) ?_
  refine pwp_skip (q_next (pwp_seq (pwp_seq (r_reg ?_))))
  refine e_end (by kernel_rfl) ?_
  refine q_next (pwp_block ?_)
  obtain ⟨o13, h13, h⟩ := o_inl h
  refine r_loop2 65 0 (fun x6 => ⟨[(0, lstOf .frozen (a0 : (List T_api_Linked))), (1, .int .i64 a1), (5, .ref 5 0), (7, .int .i64 x6)], [(5, .cells (cellsOf a2))], [], []⟩) (fun (_ : Unit) => ⟨[(0, lstOf .frozen (a0 : (List T_api_Linked))), (1, .int .i64 a1), (5, .ref 5 0)], [(5, .cells (cellsOf a2))], [], []⟩) h13 (by kernel_rfl) (fun _ => by kernel_rfl) ?_ ?_
  · rintro x6 oh12 h12
    unfold d_law32_LinkingOverdue_0 at h12
    refine pwp_seq (pwp_seq (r_reg ?_))
    refine p_run 2 (by kernel_rfl) ?_
    refine p_len (L := (a0 : (List T_api_Linked))) (by kernel_rfl) ?_
    refine e_end (by kernel_rfl) ?_
    refine q_next ?_
    rcases o_cond h12 with ⟨hb, h12⟩ | ⟨hb, h12⟩
    · refine r_cond_t hb (by kernel_rfl) ?_
      refine pwp_skip (q_next (pwp_seq (pwp_block (pwp_seq (r_reg ?_)))))
      refine p_run 2 (by kernel_rfl) ?_
      obtain ⟨x11, h14, h12⟩ := o_bind h12
      refine p_ix h14 (by kernel_rfl) ?_
      obtain ⟨b12, h15, h12⟩ := o_bind h12
      refine p_run 4 (by kernel_rfl) ?_
      refine e_seg 7 42 (.bool b12) ?_ ?_
      · rcases o_cond h15 with ⟨hb, h15⟩ | ⟨hb, h15⟩
        · refine p_settle 35 hb (by kernel_rfl) (by kernel_rfl) ?_
          cases h15
          exact f_end (by kernel_rfl) (by kernel_rfl)
        refine p_settle 35 hb (by kernel_rfl) (by kernel_rfl) ?_
        refine p_run 2 (by kernel_rfl) ?_
        obtain ⟨x13, h16, h15⟩ := o_bind h15
        refine p_ix h16 (by kernel_rfl) ?_
        cases h15
        exact f_end (by kernel_rfl) (by kernel_rfl)
      refine e_nil (by kernel_rfl) ?_
      refine q_next ?_
      rcases o_cond h12 with ⟨hb, h12⟩ | ⟨hb, h12⟩
      · refine r_cond_t hb (by kernel_rfl) ?_
        refine pwp_seq (r_reg ?_)
        obtain ⟨r14, h17, h12⟩ := o_bind h12
        refine p_call (d_law32_alive_ok  r14 h17) (by kernel_rfl) (by kernel_rfl) ?_
        refine e_end (by kernel_rfl) ?_
        refine q_next (pwp_ret (q_block_ret (q_seq_ret ?_)))
        cases h12
        refine q_lout_ret fun he => ?_
        subst he
        have h18 := o_outr h
        refine q_block_ret (q_seq_ret ?_)
        cases h18
        exact q_ret (by kernel_rfl) (by kernel_rfl) (by kernel_rfl)
      refine r_cond_f hb (by kernel_rfl) ?_
      refine pwp_skip (q_block (q_next (r_reg ?_)))
      refine e_end (by kernel_rfl) ?_
      cases h12
      exact q_lback (by kernel_rfl)
    refine r_cond_f hb (by kernel_rfl) ?_
    refine pwp_exit (q_seq_exit ?_)
    cases h12
    exact q_lexit (by kernel_rfl) (by kernel_rfl)
  rintro _ s' rfl hs
  have h := o_outl h
  refine q_block_hit ?_
  refine q_next (pwp_wkr hs ?_)
  refine pwp_seq (r_reg ?_)
  refine p_run 3 (by kernel_rfl) ?_
  obtain ⟨r15, h19, h⟩ := o_bind h
  refine p_call (d_linking_Overdue_ok _ _ _ r15 h19) (by kernel_rfl) (by kernel_rfl) ?_
  refine e_end (by kernel_rfl) ?_
  refine q_next (pwp_seq (r_reg ?_))
  refine p_run 4 (by kernel_rfl) ?_
  obtain ⟨r16, h20, h⟩ := o_bind h
  refine p_call (d_ref32_Overdue_ok _ _ _ r16 h20) (by kernel_rfl) (by kernel_rfl) ?_
  obtain ⟨b17, h21, h⟩ := o_bind h
  refine p_run 2 (by kernel_rfl) ?_
  refine e_seg 7 61 (.bool b17) ?_ ?_
  · rcases o_cond h21 with ⟨hb, h21⟩ | ⟨hb, h21⟩
    · refine p_settle 54 hb (by kernel_rfl) (by kernel_rfl) ?_
      refine p_run 3 (by kernel_rfl) ?_
      obtain ⟨r18, h22, h21⟩ := o_bind h21
      refine p_call (d_linking_Overdue_ok _ _ _ r18 h22) (by kernel_rfl) (by kernel_rfl) ?_
      cases h21
      exact f_end (by kernel_rfl) (by kernel_rfl)
    refine p_settle 54 hb (by kernel_rfl) (by kernel_rfl) ?_
    cases h21
    exact f_end (by kernel_rfl) (by kernel_rfl)
  obtain ⟨b19, h23, h⟩ := o_bind h
  refine p_run 1 (by kernel_rfl) ?_
  refine e_seg 2 64 (.bool b19) ?_ ?_
  · rcases o_cond h23 with ⟨hb, h23⟩ | ⟨hb, h23⟩
    · refine p_settle 62 hb (by kernel_rfl) (by kernel_rfl) ?_
      obtain ⟨r20, h24, h23⟩ := o_bind h23
      refine p_call (d_law32_alive_ok  r20 h24) (by kernel_rfl) (by kernel_rfl) ?_
      cases h23
      exact f_end (by kernel_rfl) (by kernel_rfl)
    refine p_settle 62 hb (by kernel_rfl) (by kernel_rfl) ?_
    cases h23
    exact f_end (by kernel_rfl) (by kernel_rfl)
  refine e_end (by kernel_rfl) ?_
  refine q_next (pwp_ret ?_)
  cases h
  exact q_ret (by kernel_rfl) (by kernel_rfl) (by kernel_rfl)

/-! signallinglaw32.LinkingOrder -/
noncomputable def d_law32_LinkingOrder_0 (a2 : Int) (a3 : Int) (r3 : (List T_api_Linked)) : (Int × Int) → Option ((Int × Int) ⊕ (Unit ⊕ Bool)) := fun (x11, x12) =>
  bif decide (x12 < ((r3.length : Nat) : Int)) then (
    (ixO r3 x12).bind fun x19 =>
    (d_linking_Read r3 x11 x19.Id).bind fun r20 =>
    ((bif ((!(decide (r20.1 = (w64 (x12 + 1))))) || (!(decide (r20.2 = 1)))) then some true else (
      (ixO r3 x12).bind fun x22 =>
      some (decide (a3 < x22.At))
    )) : Option Bool).bind fun b21 =>
    ((bif b21 then some true else (
      (ixO r3 x12).bind fun x24 =>
      some (decide (x24.At < a2))
    )) : Option Bool).bind fun b23 =>
    bif b23 then (
      some (.inr (.inr false))
    ) else (
      some (.inl (r20.1, w64 (x12 + 1)))
    )
  ) else (
    some (.inr (.inl ()))
  )

noncomputable def d_law32_LinkingOrder (a0 : T_api_Layout) (a1 : (List T_api_Step)) (a2 : Int) (a3 : Int) : Option Bool :=
  (d_law32_few a0 a1 a2).bind fun r1 =>
  bif (!r1) then (
    (d_law32_alive ).bind fun r2 =>
    some r2
  ) else (
    (d_linking_Of a0 a1 a2 a3).bind fun r3 =>
    (d_linking_Valid r3).bind fun r4 =>
    bif (!r4) then (
      some false
    ) else (
      onInl (α := Unit) (β := Bool) (loopO (d_law32_LinkingOrder_0 a2 a3 r3) (0, 0)) fun _ =>
      (d_law32_alive ).bind fun r25 =>
      some r25
    )
  )
theorem d_law32_LinkingOrder_ok (a0 : T_api_Layout) (a1 : (List T_api_Step)) (a2 : Int) (a3 : Int) (r : Bool) (h : d_law32_LinkingOrder a0 a1 a2 a3 = some r) : PCall Go.Proofs.Tryd.prog GlS 6 [Enc.pv a0, Enc.pv a1, Enc.pv a2, Enc.pv a3] (Enc.pv r) := by
  unfold d_law32_LinkingOrder at h
  refine pcall_of_pwp Go.Proofs.Tryd.func6 (by rfl) rfl Go.Proofs.Tryd.ntmps6 (by rfl) rfl ?_
  refine pwp_seq (r_reg ?_)
  refine e_end (by kernel_rfl) ?_
  refine q_next (pwp_seq (pwp_seq (r_reg ?_)))
  refine p_run 3 (by kernel_rfl) ?_
  obtain ⟨r1, h1, h⟩ := o_bind h
  refine p_call (d_law32_few_ok _ _ _ r1 h1) (by kernel_rfl) (by kernel_rfl) ?_
  refine e_end (by kernel_rfl) ?_
  refine q_next ?_
  rcases o_cond h with ⟨hb, h⟩ | ⟨hb, h⟩
  · refine r_cond_t hb (by kernel_rfl) ?_
    refine pwp_seq (r_reg ?_)
    obtain ⟨r2, h2, h⟩ := o_bind h
    refine p_call (d_law32_alive_ok  r2 h2) (by kernel_rfl) (by kernel_rfl) ?_
    refine e_end (by kernel_rfl) ?_
    refine q_next (pwp_ret (q_seq_ret ?_))
    cases h
    exact q_ret (by kernel_rfl) (by kernel_rfl) (by kernel_rfl)
  refine r_cond_f hb (by kernel_rfl) ?_
  refine pwp_skip (q_next (pwp_seq (r_reg ?_)))
  refine p_run 4 (by kernel_rfl) ?_
  obtain ⟨r3, h3, h⟩ := o_bind h
  refine p_call (d_linking_Of_ok _ _ _ _ r3 h3) (by kernel_rfl) (by kernel_rfl) ?_
  refine e_end (by kernel_rfl) ?_
  refine q_next (pwp_seq (pwp_seq (r_reg ?_)))
  refine p_run 1 (by kernel_rfl) ?_
  obtain ⟨r4, h4, h⟩ := o_bind h
  refine p_call (d_linking_Valid_ok _ r4 h4) (by kernel_rfl) (by kernel_rfl) ?_
  refine e_end (by kernel_rfl) ?_
  refine q_next ?_
  rcases o_cond h with ⟨hb, h⟩ | ⟨hb, h⟩
  · refine r_cond_t hb (by kernel_rfl) ?_
    refine pwp_seq (r_reg ?_)
    refine e_end (by kernel_rfl) ?_
    refine q_next (pwp_ret (q_seq_ret ?_))
    cases h
    exact q_ret (by kernel_rfl) (by kernel_rfl) (by kernel_rfl)
  refine r_cond_f hb (by kernel_rfl) ?_
  refine pwp_skip (q_next (pwp_seq (r_reg ?_)))
  refine e_end (by kernel_rfl) ?_
  refine q_next (pwp_seq (pwp_seq (r_reg ?_)))
  refine e_end (by kernel_rfl) ?_
  refine q_next (pwp_block ?_)
  obtain ⟨o20, h20, h⟩ := o_inl h
  refine r_loop2 73 0 (fun (x11, x12) => ⟨[(2, .int .i64 a2), (3, .int .i64 a3), (9, lstOf .frozen (r3 : (List T_api_Linked))), (10, .int .i64 x11), (11, .int .i64 x12)], [], [], []⟩) (fun (_ : Unit) => ⟨[], [], [], []⟩) h20 (by kernel_rfl) (fun _ => by kernel_rfl) ?_ ?_
  · rintro ⟨x11, x12⟩ oh19 h19
    unfold d_law32_LinkingOrder_0 at h19
    refine pwp_seq (pwp_seq (r_reg ?_))
    refine p_run 2 (by kernel_rfl) ?_
    refine p_len (L := (r3 : (List T_api_Linked))) (by kernel_rfl) ?_
    refine e_end (by kernel_rfl) ?_
    refine q_next ?_
    rcases o_cond h19 with ⟨hb, h19⟩ | ⟨hb, h19⟩
    · refine r_cond_t hb (by kernel_rfl) ?_
      refine pwp_skip (q_next (pwp_seq (pwp_block (pwp_seq (r_reg ?_)))))
      refine p_run 4 (by kernel_rfl) ?_
      obtain ⟨x19, h21, h19⟩ := o_bind h19
      refine p_ix h21 (by kernel_rfl) ?_
      refine p_run 2 (by kernel_rfl) ?_
      obtain ⟨r20, h22, h19⟩ := o_bind h19
      refine p_call (d_linking_Read_ok _ _ _ r20 h22) (by kernel_rfl) (by kernel_rfl) ?_
      refine e_end (by kernel_rfl) ?_
      refine q_next (pwp_seq (pwp_seq (r_reg ?_)))
      refine p_run 5 (by kernel_rfl) ?_
      refine e_segb 3 52 ((!(decide (r20.1 = (w64 (x12 + 1))))) || (!(decide (r20.2 = 1)))) (fun x hx => ?_) ?_
      · rcases b_or hx with ⟨hb, hx⟩ | ⟨hb, hx⟩
        · refine p_settle 49 hb (by kernel_rfl) (by kernel_rfl) ?_
          subst hx
          exact f_end (by kernel_rfl) (by kernel_rfl)
        refine p_settle 49 hb (by kernel_rfl) (by kernel_rfl) ?_
        subst hx
        exact f_end (by kernel_rfl) (by kernel_rfl)
      obtain ⟨b21, h23, h19⟩ := o_bind h19
      refine p_run 1 (by kernel_rfl) ?_
      refine e_seg 8 61 (.bool b21) ?_ ?_
      · rcases o_cond h23 with ⟨hb, h23⟩ | ⟨hb, h23⟩
        · refine p_settle 53 hb (by kernel_rfl) (by kernel_rfl) ?_
          cases h23
          exact f_end (by kernel_rfl) (by kernel_rfl)
        refine p_settle 53 hb (by kernel_rfl) (by kernel_rfl) ?_
        refine p_run 2 (by kernel_rfl) ?_
        obtain ⟨x22, h24, h23⟩ := o_bind h23
        refine p_ix h24 (by kernel_rfl) ?_
        cases h23
        exact f_end (by kernel_rfl) (by kernel_rfl)
      obtain ⟨b23, h25, h19⟩ := o_bind h19
      refine p_run 1 (by kernel_rfl) ?_
      refine e_seg 8 70 (.bool b23) ?_ ?_
      · rcases o_cond h25 with ⟨hb, h25⟩ | ⟨hb, h25⟩
        · refine p_settle 62 hb (by kernel_rfl) (by kernel_rfl) ?_
          cases h25
          exact f_end (by kernel_rfl) (by kernel_rfl)
        refine p_settle 62 hb (by kernel_rfl) (by kernel_rfl) ?_
        refine p_run 2 (by kernel_rfl) ?_
        obtain ⟨x24, h26, h25⟩ := o_bind h25
        refine p_ix h26 (by kernel_rfl) ?_
        cases h25
        exact f_end (by kernel_rfl) (by kernel_rfl)
      refine e_nil (by kernel_rfl) ?_
      refine q_next ?_
      rcases o_cond h19 with ⟨hb, h19⟩ | ⟨hb, h19⟩
      · refine r_cond_t hb (by kernel_rfl) ?_
        refine pwp_seq (r_reg ?_)
        refine e_end (by kernel_rfl) ?_
        refine q_next (pwp_ret (q_seq_ret (q_block_ret (q_seq_ret ?_))))
        cases h19
        refine q_lout_ret fun he => ?_
        subst he
        have h27 := o_outr h
        refine q_block_ret (q_seq_ret ?_)
        cases h27
        exact q_ret (by kernel_rfl) (by kernel_rfl) (by kernel_rfl)
      refine r_cond_f hb (by kernel_rfl) ?_
      refine pwp_skip (q_next (r_reg ?_))
      refine e_end (by kernel_rfl) ?_
      refine q_block (q_next (r_reg ?_))
      refine e_end (by kernel_rfl) ?_
      cases h19
      exact q_lback (by kernel_rfl)
    refine r_cond_f hb (by kernel_rfl) ?_
    refine pwp_exit (q_seq_exit ?_)
    cases h19
    exact q_lexit (by kernel_rfl) (by kernel_rfl)
  rintro _ s' rfl hs
  have h := o_outl h
  refine q_block_hit ?_
  refine q_next (pwp_wkr hs ?_)
  refine pwp_seq (r_reg ?_)
  obtain ⟨r25, h28, h⟩ := o_bind h
  refine p_call (d_law32_alive_ok  r25 h28) (by kernel_rfl) (by kernel_rfl) ?_
  refine e_end (by kernel_rfl) ?_
  refine q_next (pwp_ret ?_)
  cases h
  exact q_ret (by kernel_rfl) (by kernel_rfl) (by kernel_rfl)

/-! signallingref09.Length -/
noncomputable def d_ref09_Length_0 (a0 : T_api_Layout) (a1 : (List T_api_Step)) : (Int × Int) → Option ((Int × Int) ⊕ (Int ⊕ Int)) := fun (x10, x11) =>
  bif decide (x11 < ((a1.length : Nat) : Int)) then (
    onInl (α := Int) (β := ((Int × Int) ⊕ (Int ⊕ Int))) (
      (ixO a1 x11).bind fun x27 =>
      (d_ref09_exists a0 x27.El).bind fun r28 =>
      bif r28 then (
        (ixO a1 x11).bind fun x29 =>
        (ixO a0.Elements x29.El).bind fun x30 =>
        some (.inl (w64 (x10 + x30.Length)))
      ) else (
        some (.inl x10)
      )
    ) fun x26 =>
    some (.inl (x26, w64 (x11 + 1)))
  ) else (
    some (.inr (.inl x10))
  )

noncomputable def d_ref09_Length (a0 : T_api_Layout) (a1 : (List T_api_Step)) : Option Int :=
  onInl (α := Int) (β := Int) (loopO (d_ref09_Length_0 a0 a1) (0, 0)) fun x21 =>
  some x21
theorem d_ref09_Length_ok (a0 : T_api_Layout) (a1 : (List T_api_Step)) (r : Int) (h : d_ref09_Length a0 a1 = some r) : PCall Go.Proofs.Tryd.prog GlS 19 [Enc.pv a0, Enc.pv a1] (Enc.pv r) := by
  unfold d_ref09_Length at h
  refine pcall_of_pwp Go.Proofs.Tryd.func19 (by rfl) rfl Go.Proofs.Tryd.ntmps19 (by rfl) rfl ?_
  refine pwp_seq (r_reg ?_)
  refine e_end (by kernel_rfl) ?_
  refine q_next (pwp_seq (r_reg ?_))
  refine e_end (by kernel_rfl) ?_
  refine q_next (pwp_seq (pwp_seq (r_reg ?_)))
  refine e_end (by kernel_rfl) ?_
  refine q_next (pwp_block ?_)
  obtain ⟨o20, h20, h⟩ := o_inl h
  refine r_loop2 33 0 (fun (x10, x11) => ⟨[(1, lstOf .frozen (a1 : (List T_api_Step))), (2, .ref 2 0), (5, .int .i64 x10), (6, .int .i64 x11)], [(2, .cells (cellsOf a0))], [], []⟩) (fun x21 => ⟨[(5, .int .i64 x21)], [], [], []⟩) h20 (by kernel_rfl) (fun _ => by kernel_rfl) ?_ ?_
  · rintro ⟨x10, x11⟩ oh19 h19
    unfold d_ref09_Length_0 at h19
    refine pwp_seq (pwp_seq (r_reg ?_))
    refine p_run 2 (by kernel_rfl) ?_
    refine p_len (L := (a1 : (List T_api_Step))) (by kernel_rfl) ?_
    refine e_end (by kernel_rfl) ?_
    refine q_next ?_
    rcases o_cond h19 with ⟨hb, h19⟩ | ⟨hb, h19⟩
    · refine r_cond_t hb (by kernel_rfl) ?_
      refine pwp_skip (q_next ?_)
      obtain ⟨o25, h25, h19⟩ := o_inl h19
      refine r_join (o := o25) 33 (fun x26 => ⟨[(1, lstOf .frozen (a1 : (List T_api_Step))), (2, .ref 2 0), (5, .int .i64 x26), (6, .int .i64 x11)], [(2, .cells (cellsOf a0))], [], []⟩) ?_ ?_
      · refine pwp_block (pwp_seq ?_)
        refine r_regd (by kernel_rfl) (by kernel_rfl) ?_
        refine p_run 3 (by kernel_rfl) ?_
        obtain ⟨x27, h26, h25⟩ := o_bind h25
        refine p_ix h26 (by kernel_rfl) ?_
        refine p_run 2 (by kernel_rfl) ?_
        obtain ⟨r28, h27, h25⟩ := o_bind h25
        refine p_call (d_ref09_exists_ok _ _ r28 h27) (by kernel_rfl) (by kernel_rfl) ?_
        refine e_nil (by kernel_rfl) ?_
        refine q_next ?_
        rcases o_cond h25 with ⟨hb, h25⟩ | ⟨hb, h25⟩
        · refine r_cond_t hb (by kernel_rfl) ?_
          refine r_regd (by kernel_rfl) (by kernel_rfl) ?_
          refine p_run 5 (by kernel_rfl) ?_
          obtain ⟨x29, h28, h25⟩ := o_bind h25
          refine p_ix h28 (by kernel_rfl) ?_
          refine p_run 2 (by kernel_rfl) ?_
          obtain ⟨x30, h29, h25⟩ := o_bind h25
          refine p_ix h29 (by kernel_rfl) ?_
          refine e_end (by kernel_rfl) ?_
          refine q_block ?_
          cases h25
          exact q_join (by kernel_rfl) (by kernel_rfl)
        refine r_cond_f hb (by kernel_rfl) ?_
        refine pwp_skip (q_block ?_)
        cases h25
        exact q_join (by kernel_rfl) (by kernel_rfl)
      rintro x26 rfl
      have h19 := o_outl h19
      refine r_reg ?_
      refine e_end (by kernel_rfl) ?_
      cases h19
      exact q_lback (by kernel_rfl)
    refine r_cond_f hb (by kernel_rfl) ?_
    refine pwp_exit (q_seq_exit ?_)
    cases h19
    exact q_lexit (by kernel_rfl) (by kernel_rfl)
  rintro x21 s' rfl hs
  have h := o_outl h
  refine q_block_hit ?_
  refine q_next (pwp_wkr hs ?_)
  refine pwp_seq (r_reg ?_)
  refine e_end (by kernel_rfl) ?_
  refine q_next (pwp_ret ?_)
  cases h
  exact q_ret (by kernel_rfl) (by kernel_rfl) (by kernel_rfl)

/-! signallingref09.Reverse -/
noncomputable def d_ref09_Reverse_0 (a0 : (List T_api_Step)) : (Int × (List T_api_Step)) → Option ((Int × (List T_api_Step)) ⊕ ((List T_api_Step) ⊕ (List T_api_Step))) := fun (x10, x11) =>
  bif decide (0 ≤ x10) then (
    (ixO a0 x10).bind fun x17 =>
    (ixO a0 x10).bind fun x18 =>
    (ixO a0 x10).bind fun x19 =>
    (appO x11 [(T_api_Step.mk x17.El x18.Out x19.In)]).bind fun x20 =>
    some (.inl (w64 (x10 - 1), x20))
  ) else (
    some (.inr (.inl x11))
  )

noncomputable def d_ref09_Reverse (a0 : (List T_api_Step)) : Option (List T_api_Step) :=
  onInl (α := (List T_api_Step)) (β := (List T_api_Step)) (loopO (d_ref09_Reverse_0 a0) (w64 (((a0.length : Nat) : Int) - 1), ([] : (List T_api_Step)))) fun x16 =>
  some x16
theorem d_ref09_Reverse_ok (a0 : (List T_api_Step)) (r : (List T_api_Step)) (h : d_ref09_Reverse a0 = some r) : PCall Go.Proofs.Tryd.prog GlS 20 [Enc.pv a0] (lstOf (.own 100003) r) := by
  unfold d_ref09_Reverse at h
  refine pcall_of_pwp Go.Proofs.Tryd.func20 (by rfl) rfl Go.Proofs.Tryd.ntmps20 (by rfl) rfl ?_
  refine pwp_seq (r_reg ?_)
  refine e_end (by kernel_rfl) ?_
  refine q_next (pwp_seq (r_reg ?_))
  refine e_end (by kernel_rfl) ?_
  refine q_next (pwp_seq (pwp_seq (r_reg ?_)))
  refine p_run 1 (by kernel_rfl) ?_
  refine p_len (L := (a0 : (List T_api_Step))) (by kernel_rfl) ?_
  refine e_end (by kernel_rfl) ?_
  refine q_next (pwp_block ?_)
  refine g_nil 3 100003 3 24 (by kernel_rfl) (by kernel_rfl) ?_
  obtain ⟨o14, h14, h⟩ := o_inl h
  refine r_loop2 32 0 (fun (x10, x11) => ⟨[(0, lstOf .frozen (a0 : (List T_api_Step))), (3, lstOf (.own 100003) (x11 : (List T_api_Step))), (4, .int .i64 x10)], [], [(100003, (((x11).map cellsOf).length, 3))], []⟩) (fun x16 => ⟨[(3, lstOf (.own 100003) (x16 : (List T_api_Step)))], [], [(100003, (((x16).map cellsOf).length, 3))], []⟩) h14 (by kernel_rfl) (fun _ => by kernel_rfl) ?_ ?_
  · rintro ⟨x10, x11⟩ oh13 h13
    unfold d_ref09_Reverse_0 at h13
    refine pwp_seq (pwp_seq (r_reg ?_))
    refine e_end (by kernel_rfl) ?_
    refine q_next ?_
    rcases o_cond h13 with ⟨hb, h13⟩ | ⟨hb, h13⟩
    · refine r_cond_t hb (by kernel_rfl) ?_
      refine pwp_skip (q_next (pwp_seq (pwp_block ?_)))
      refine r_regd (by kernel_rfl) (by kernel_rfl) ?_
      refine p_run 3 (by kernel_rfl) ?_
      obtain ⟨x17, h15, h13⟩ := o_bind h13
      refine p_ix h15 (by kernel_rfl) ?_
      refine p_run 4 (by kernel_rfl) ?_
      obtain ⟨x18, h16, h13⟩ := o_bind h13
      refine p_ix h16 (by kernel_rfl) ?_
      refine p_run 4 (by kernel_rfl) ?_
      obtain ⟨x19, h17, h13⟩ := o_bind h13
      refine p_ix h17 (by kernel_rfl) ?_
      refine p_run 4 (by kernel_rfl) ?_
      obtain ⟨x20, h18, h13⟩ := o_bind h13
      refine p_app (tk := 100003) h18 (by kernel_rfl) (by kernel_rfl) ?_
      refine e_end (by kernel_rfl) ?_
      refine q_block (q_next (r_reg ?_))
      refine e_end (by kernel_rfl) ?_
      cases h13
      exact q_lback (by kernel_rfl)
    refine r_cond_f hb (by kernel_rfl) ?_
    refine pwp_exit (q_seq_exit ?_)
    cases h13
    exact q_lexit (by kernel_rfl) (by kernel_rfl)
  rintro x16 s' rfl hs
  have h := o_outl h
  refine q_block_hit ?_
  refine q_next (pwp_wkr hs ?_)
  refine pwp_seq (r_reg ?_)
  refine e_end (by kernel_rfl) ?_
  refine q_next (pwp_ret ?_)
  cases h
  exact q_ret (by kernel_rfl) (by kernel_rfl) (by kernel_rfl)
theorem d_ref09_Reverse_fz (a0 : (List T_api_Step)) (r : (List T_api_Step)) (h : d_ref09_Reverse a0 = some r) : PCall Go.Proofs.Tryd.prog GlS 20 [Enc.pv a0] (Enc.pv r) :=
  (d_ref09_Reverse_ok a0 r h).freeze (by kernel_rfl) (by kernel_rfl) (by kernel_rfl)

/-! signallinglaw32.LinkingReverse -/
noncomputable def d_law32_LinkingReverse_1 (r5 : Int) (r6 : (List T_api_Linked)) (r8 : (List T_api_Linked)) (x29 : Int) : (Bool × Int) → Option ((Bool × Int) ⊕ (Bool ⊕ (Int ⊕ (Unit ⊕ Bool)))) := fun (x55, x56) =>
  bif decide (x56 < ((r8.length : Nat) : Int)) then (
    ((bif x55 then some true else (
      (ixO r8 x56).bind fun x65 =>
      (ixO r6 x29).bind fun x66 =>
      ((bif decide (x65.Id = x66.Id) then (
        (ixO r8 x56).bind fun x68 =>
        (ixO r6 x29).bind fun x69 =>
        some (decide (x68.At = (w64 (r5 - x69.At))))
      ) else some false) : Option Bool).bind fun b67 =>
      some b67
    )) : Option Bool).bind fun b64 =>
    some (.inl (b64, w64 (x56 + 1)))
  ) else (
    some (.inr (.inl x55))
  )

noncomputable def d_law32_LinkingReverse_0 (r5 : Int) (r6 : (List T_api_Linked)) (r8 : (List T_api_Linked)) : Int → Option (Int ⊕ (Unit ⊕ Bool)) := fun x29 =>
  bif decide (x29 < ((r6.length : Nat) : Int)) then (
    onInl (α := Bool) (β := (Int ⊕ (Unit ⊕ Bool))) (loopO (d_law32_LinkingReverse_1 r5 r6 r8 x29) (false, 0)) fun x63 =>
    bif (!x63) then (
      some (.inr (.inr false))
    ) else (
      some (.inl (w64 (x29 + 1)))
    )
  ) else (
    some (.inr (.inl ()))
  )

noncomputable def d_law32_LinkingReverse (a0 : T_api_Layout) (a1 : (List T_api_Step)) : Option Bool :=
  (d_law32_few a0 a1 0).bind fun r1 =>
  ((bif (!r1) then some true else (
    (d_ref09_Valid a0 a1).bind fun r3 =>
    some (!r3)
  )) : Option Bool).bind fun b2 =>
  bif b2 then (
    (d_law32_alive ).bind fun r4 =>
    some r4
  ) else (
    (d_ref09_Length a0 a1).bind fun r5 =>
    (d_linking_Of a0 a1 0 r5).bind fun r6 =>
    (d_ref09_Reverse a1).bind fun r7 =>
    (d_linking_Of a0 r7 0 r5).bind fun r8 =>
    bif (!(decide (((r6.length : Nat) : Int) = ((r8.length : Nat) : Int)))) then (
      some false
    ) else (
      onInl (α := Unit) (β := Bool) (loopO (d_law32_LinkingReverse_0 r5 r6 r8) 0) fun _ =>
      (d_law32_alive ).bind fun r70 =>
      some r70
    )
  )
theorem d_law32_LinkingReverse_ok (a0 : T_api_Layout) (a1 : (List T_api_Step)) (r : Bool) (h : d_law32_LinkingReverse a0 a1 = some r) : PCall Go.Proofs.Tryd.prog GlS 7 [Enc.pv a0, Enc.pv a1] (Enc.pv r) := by
  unfold d_law32_LinkingReverse at h
  refine pcall_of_pwp Go.Proofs.Tryd.func7 (by rfl) rfl Go.Proofs.Tryd.ntmps7 (by rfl) rfl ?_
  refine pwp_seq (r_reg ?_)
  refine e_end (by kernel_rfl) ?_
  refine q_next (pwp_seq (pwp_seq (r_reg ?_)))
  refine p_run 2 (by kernel_rfl) ?_
  obtain ⟨r1, h1, h⟩ := o_bind h
  refine p_call (d_law32_few_ok _ _ _ r1 h1) (by kernel_rfl) (by kernel_rfl) ?_
  obtain ⟨b2, h2, h⟩ := o_bind h
  refine p_run 2 (by kernel_rfl) ?_
  refine e_seg 5 20 (.bool b2) ?_ ?_
  · rcases o_cond h2 with ⟨hb, h2⟩ | ⟨hb, h2⟩
    · refine p_settle 15 hb (by kernel_rfl) (by kernel_rfl) ?_
      cases h2
      exact f_end (by kernel_rfl) (by kernel_rfl)
    refine p_settle 15 hb (by kernel_rfl) (by kernel_rfl) ?_
    refine p_run 2 (by kernel_rfl) ?_
    obtain ⟨r3, h3, h2⟩ := o_bind h2
    refine p_call (d_ref09_Valid_ok _ _ r3 h3) (by kernel_rfl) (by kernel_rfl) ?_
    cases h2
    exact f_end (by kernel_rfl) (by kernel_rfl)
  refine e_nil (by kernel_rfl) ?_
  refine q_next ?_
  rcases o_cond h with ⟨hb, h⟩ | ⟨hb, h⟩
  · refine r_cond_t hb (by kernel_rfl) ?_
    refine pwp_seq (r_reg ?_)
    obtain ⟨r4, h4, h⟩ := o_bind h
    refine p_call (d_law32_alive_ok  r4 h4) (by kernel_rfl) (by kernel_rfl) ?_
    refine e_end (by kernel_rfl) ?_
    refine q_next (pwp_ret (q_seq_ret ?_))
    cases h
    exact q_ret (by kernel_rfl) (by kernel_rfl) (by kernel_rfl)
  refine r_cond_f hb (by kernel_rfl) ?_
  refine pwp_skip (q_next (pwp_seq (r_reg ?_)))
  refine p_run 2 (by kernel_rfl) ?_
  obtain ⟨r5, h5, h⟩ := o_bind h
  refine p_call (d_ref09_Length_ok _ _ r5 h5) (by kernel_rfl) (by kernel_rfl) ?_
  refine e_end (by kernel_rfl) ?_
  refine q_next (pwp_seq ?_)
  refine r_regd (by kernel_rfl) (by kernel_rfl) ?_
  refine p_run 3 (by kernel_rfl) ?_
  obtain ⟨r6, h6, h⟩ := o_bind h
  refine p_call (d_linking_Of_ok _ _ _ _ r6 h6) (by kernel_rfl) (by kernel_rfl) ?_
  refine p_run 2 (by kernel_rfl) ?_
  obtain ⟨r7, h7, h⟩ := o_bind h
  refine p_call (d_ref09_Reverse_fz _ r7 h7) (by kernel_rfl) (by kernel_rfl) ?_
  refine p_run 1 (by kernel_rfl) ?_
  obtain ⟨r8, h8, h⟩ := o_bind h
  refine p_call (d_linking_Of_ok _ _ _ _ r8 h8) (by kernel_rfl) (by kernel_rfl) ?_
  refine e_end (by kernel_rfl) ?_
  refine q_next (pwp_seq (pwp_seq (r_reg ?_)))
  refine p_run 1 (by kernel_rfl) ?_
  refine p_len (L := (r6 : (List T_api_Linked))) (by kernel_rfl) ?_
  refine p_run 1 (by kernel_rfl) ?_
  refine p_len (L := (r8 : (List T_api_Linked))) (by kernel_rfl) ?_
  refine e_end (by kernel_rfl) ?_
  refine q_next ?_
  rcases o_cond h with ⟨hb, h⟩ | ⟨hb, h⟩
  · refine r_cond_t hb (by kernel_rfl) ?_
    refine pwp_seq (r_reg ?_)
    refine e_end (by kernel_rfl) ?_
    refine q_next (pwp_ret (q_seq_ret ?_))
    cases h
    exact q_ret (by kernel_rfl) (by kernel_rfl) (by kernel_rfl)
  refine r_cond_f hb (by kernel_rfl) ?_
  refine pwp_skip (q_next (pwp_seq (pwp_seq (r_reg ?_))))
  refine e_end (by kernel_rfl) ?_
  refine q_next (pwp_block ?_)
  obtain ⟨o50, h50, h⟩ := o_inl h
  refine r_loop2 83 0 (fun x29 => ⟨[(5, .int .i64 r5), (6, lstOf .frozen (r6 : (List T_api_Linked))), (7, lstOf .frozen (r8 : (List T_api_Linked))), (8, .int .i64 x29)], [], [], []⟩) (fun (_ : Unit) => ⟨[], [], [], []⟩) h50 (by kernel_rfl) (fun _ => by kernel_rfl) ?_ ?_
  · rintro x29 oh49 h49
    unfold d_law32_LinkingReverse_0 at h49
    refine pwp_seq (pwp_seq (r_reg ?_))
    refine p_run 2 (by kernel_rfl) ?_
    refine p_len (L := (r6 : (List T_api_Linked))) (by kernel_rfl) ?_
    refine e_end (by kernel_rfl) ?_
    refine q_next ?_
    rcases o_cond h49 with ⟨hb, h49⟩ | ⟨hb, h49⟩
    · refine r_cond_t hb (by kernel_rfl) ?_
      refine pwp_skip (q_next (pwp_seq (pwp_block (pwp_seq (r_reg ?_)))))
      refine e_end (by kernel_rfl) ?_
      refine q_next (pwp_seq (pwp_seq (r_reg ?_)))
      refine e_end (by kernel_rfl) ?_
      refine q_next (pwp_block ?_)
      obtain ⟨o63, h63, h49⟩ := o_inl h49
      refine r_loop2 83 2 (fun (x55, x56) => ⟨[(5, .int .i64 r5), (6, lstOf .frozen (r6 : (List T_api_Linked))), (7, lstOf .frozen (r8 : (List T_api_Linked))), (8, .int .i64 x29), (9, .bool x55), (10, .int .i64 x56)], [], [], []⟩) (fun x63 => ⟨[(5, .int .i64 r5), (6, lstOf .frozen (r6 : (List T_api_Linked))), (7, lstOf .frozen (r8 : (List T_api_Linked))), (8, .int .i64 x29), (9, .bool x63)], [], [], []⟩) h63 (by kernel_rfl) (fun _ => by kernel_rfl) ?_ ?_
      · rintro ⟨x55, x56⟩ oh62 h62
        unfold d_law32_LinkingReverse_1 at h62
        refine pwp_seq (pwp_seq (r_reg ?_))
        refine p_run 2 (by kernel_rfl) ?_
        refine p_len (L := (r8 : (List T_api_Linked))) (by kernel_rfl) ?_
        refine e_end (by kernel_rfl) ?_
        refine q_next ?_
        rcases o_cond h62 with ⟨hb, h62⟩ | ⟨hb, h62⟩
        · refine r_cond_t hb (by kernel_rfl) ?_
          refine pwp_skip (q_next (pwp_seq (pwp_block ?_)))
          refine r_regd (by kernel_rfl) (by kernel_rfl) ?_
          obtain ⟨b64, h64, h62⟩ := o_bind h62
          refine p_run 2 (by kernel_rfl) ?_
          refine e_seg 27 79 (.bool b64) ?_ ?_
          · rcases o_cond h64 with ⟨hb, h64⟩ | ⟨hb, h64⟩
            · refine p_settle 52 hb (by kernel_rfl) (by kernel_rfl) ?_
              cases h64
              exact f_end (by kernel_rfl) (by kernel_rfl)
            refine p_settle 52 hb (by kernel_rfl) (by kernel_rfl) ?_
            refine p_run 2 (by kernel_rfl) ?_
            obtain ⟨x65, h65, h64⟩ := o_bind h64
            refine p_ix h65 (by kernel_rfl) ?_
            refine p_run 4 (by kernel_rfl) ?_
            obtain ⟨x66, h66, h64⟩ := o_bind h64
            refine p_ix h66 (by kernel_rfl) ?_
            obtain ⟨b67, h67, h64⟩ := o_bind h64
            refine p_run 4 (by kernel_rfl) ?_
            refine f_seg 14 78 (.bool b67) ?_ ?_
            · rcases o_cond h67 with ⟨hb, h67⟩ | ⟨hb, h67⟩
              · refine p_settle 64 hb (by kernel_rfl) (by kernel_rfl) ?_
                refine p_run 2 (by kernel_rfl) ?_
                obtain ⟨x68, h68, h67⟩ := o_bind h67
                refine p_ix h68 (by kernel_rfl) ?_
                refine p_run 5 (by kernel_rfl) ?_
                obtain ⟨x69, h69, h67⟩ := o_bind h67
                refine p_ix h69 (by kernel_rfl) ?_
                cases h67
                exact f_end (by kernel_rfl) (by kernel_rfl)
              refine p_settle 64 hb (by kernel_rfl) (by kernel_rfl) ?_
              cases h67
              exact f_end (by kernel_rfl) (by kernel_rfl)
            cases h64
            exact f_end (by kernel_rfl) (by kernel_rfl)
          refine e_end (by kernel_rfl) ?_
          refine q_block (q_next (r_reg ?_))
          refine e_end (by kernel_rfl) ?_
          cases h62
          exact q_lback (by kernel_rfl)
        refine r_cond_f hb (by kernel_rfl) ?_
        refine pwp_exit (q_seq_exit ?_)
        cases h62
        exact q_lexit (by kernel_rfl) (by kernel_rfl)
      rintro x63 s' rfl hs
      have h49 := o_outl h49
      refine q_block_hit ?_
      refine q_next (pwp_wkr hs ?_)
      refine pwp_seq (r_reg ?_)
      refine e_end (by kernel_rfl) ?_
      refine q_next ?_
      rcases o_cond h49 with ⟨hb, h49⟩ | ⟨hb, h49⟩
      · refine r_cond_t hb (by kernel_rfl) ?_
        refine pwp_seq (r_reg ?_)
        refine e_end (by kernel_rfl) ?_
        refine q_next (pwp_ret (q_block_ret (q_seq_ret ?_)))
        cases h49
        refine q_lout_ret fun he => ?_
        subst he
        have h70 := o_outr h
        refine q_block_ret (q_seq_ret ?_)
        cases h70
        exact q_ret (by kernel_rfl) (by kernel_rfl) (by kernel_rfl)
      refine r_cond_f hb (by kernel_rfl) ?_
      refine pwp_skip (q_block (q_next (r_reg ?_)))
      refine e_end (by kernel_rfl) ?_
      cases h49
      exact q_lback (by kernel_rfl)
    refine r_cond_f hb (by kernel_rfl) ?_
    refine pwp_exit (q_seq_exit ?_)
    cases h49
    exact q_lexit (by kernel_rfl) (by kernel_rfl)
  rintro _ s' rfl hs
  have h := o_outl h
  refine q_block_hit ?_
  refine q_next (pwp_wkr hs ?_)
  refine pwp_seq (r_reg ?_)
  obtain ⟨r70, h71, h⟩ := o_bind h
  refine p_call (d_law32_alive_ok  r70 h71) (by kernel_rfl) (by kernel_rfl) ?_
  refine e_end (by kernel_rfl) ?_
  refine q_next (pwp_ret ?_)
  cases h
  exact q_ret (by kernel_rfl) (by kernel_rfl) (by kernel_rfl)

end PM
