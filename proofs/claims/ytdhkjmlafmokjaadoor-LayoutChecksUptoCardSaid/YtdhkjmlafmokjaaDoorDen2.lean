/-
  Plain functions for the program's functions, and the proofs that the program does them. Printed by den.py.
-/
import Derived.Test.YtdhkjmlafmokjaaDoorDen1
namespace PM
open Go Go.RowKit
attribute [local irreducible] pops pwp

/-! signallinglaw07.LayoutRemoves -/
noncomputable def d_law07_LayoutRemoves (a0 : T_api_Layout) (a1 : Int) : Option Bool :=
  (d_law07_Few a0).bind fun r1 =>
  ((bif (!r1) then some true else (
    (d_layout_Check a0).bind fun r3 =>
    some (!(decide (r3 = 0)))
  )) : Option Bool).bind fun b2 =>
  bif b2 then (
    (d_law07_alive ).bind fun r4 =>
    some r4
  ) else (
    onInl (α := (List T_api_Balise)) (β := Bool) (
      bif decide (0 < ((a0.Balises.length : Nat) : Int)) then (
        (remO (w64 a1) ((a0.Balises.length : Nat) : Int)).bind fun x12 =>
        (slO a0.Balises none (some x12) none).bind fun x13 =>
        (appO ([] : (List T_api_Balise)) x13).bind fun x14 =>
        (slO a0.Balises (some (w64 (x12 + 1))) none none).bind fun x15 =>
        (appO x14 x15).bind fun x16 =>
        (d_layout_Check (T_api_Layout.mk a0.Name a0.Sections a0.Elements a0.Joints a0.Signals x16)).bind fun r17 =>
        bif (!(decide (r17 = 0))) then (
          some (.inr false)
        ) else (
          some (.inl x16)
        )
      ) else (
        some (.inl a0.Balises)
      )
    ) fun x11 =>
    onInl (α := (List T_api_Signal)) (β := Bool) (
      bif decide (0 < ((a0.Signals.length : Nat) : Int)) then (
        (remO (w64 a1) ((a0.Signals.length : Nat) : Int)).bind fun x25 =>
        (slO a0.Signals none (some x25) none).bind fun x26 =>
        (appO ([] : (List T_api_Signal)) x26).bind fun x27 =>
        (slO a0.Signals (some (w64 (x25 + 1))) none none).bind fun x28 =>
        (appO x27 x28).bind fun x29 =>
        (d_layout_Check (T_api_Layout.mk a0.Name a0.Sections a0.Elements a0.Joints x29 a0.Balises)).bind fun r30 =>
        bif (!(decide (r30 = 0))) then (
          some (.inr false)
        ) else (
          some (.inl x29)
        )
      ) else (
        some (.inl a0.Signals)
      )
    ) fun x24 =>
    onInl (α := Unit) (β := Bool) (
      bif decide (0 < ((a0.Joints.length : Nat) : Int)) then (
        (remO (w64 a1) ((a0.Joints.length : Nat) : Int)).bind fun x43 =>
        (ixO a0.Joints x43).bind fun x44 =>
        (d_layout_Signal a0 x44.A).bind fun r45 =>
        ((bif decide (0 ≤ r45) then some true else (
          (ixO a0.Joints x43).bind fun x47 =>
          (d_layout_Signal a0 x47.B).bind fun r48 =>
          some (decide (0 ≤ r48))
        )) : Option Bool).bind fun b46 =>
        bif b46 then (
          (d_law07_alive ).bind fun r49 =>
          some (.inr r49)
        ) else (
          (slO a0.Joints none (some x43) none).bind fun x50 =>
          (appO ([] : (List T_api_Joint)) x50).bind fun x51 =>
          (slO a0.Joints (some (w64 (x43 + 1))) none none).bind fun x52 =>
          (appO x51 x52).bind fun x53 =>
          (d_layout_Check (T_api_Layout.mk a0.Name a0.Sections a0.Elements x53 a0.Signals a0.Balises)).bind fun r54 =>
          bif (!(decide (r54 = 0))) then (
            some (.inr false)
          ) else (
            some (.inl ())
          )
        )
      ) else (
        some (.inl ())
      )
    ) fun _ =>
    (d_law07_alive ).bind fun r55 =>
    some r55
  )
theorem d_law07_LayoutRemoves_ok (a0 : T_api_Layout) (a1 : Int) (r : Bool) (h : d_law07_LayoutRemoves a0 a1 = some r) : PCall Go.Proofs.Tryd.prog GlS 5 [Enc.pv a0, .int .u8 a1] (Enc.pv r) := by
  unfold d_law07_LayoutRemoves at h
  refine pcall_of_pwp Go.Proofs.Tryd.func5 (by rfl) rfl Go.Proofs.Tryd.ntmps5 (by rfl) rfl ?_
  refine pwp_seq ?_
  refine r_reg ?_
  refine e_end (by kernel_rfl) ?_
  refine q_next ?_
  refine pwp_seq ?_
  refine pwp_seq ?_
  refine r_reg ?_
  refine p_run 1 (by kernel_rfl) ?_
  obtain ⟨r1, h1, h⟩ := o_bind h
  refine p_call (d_law07_Few_ok _ r1 h1) (by kernel_rfl) (by kernel_rfl) ?_
  obtain ⟨b2, h2, h⟩ := o_bind h
  refine p_run 2 (by kernel_rfl) ?_
  refine e_seg 4 16 (.bool b2) ?_ ?_
  · rcases o_cond h2 with ⟨hb, h2⟩ | ⟨hb, h2⟩
    · refine p_settle 12 hb (by kernel_rfl) (by kernel_rfl) ?_
      cases h2
      exact f_end (by kernel_rfl) (by kernel_rfl)
    · refine p_settle 12 hb (by kernel_rfl) (by kernel_rfl) ?_
      refine p_run 1 (by kernel_rfl) ?_
      obtain ⟨r3, h3, h2⟩ := o_bind h2
      refine p_call (d_layout_Check_ok _ r3 h3) (by kernel_rfl) (by kernel_rfl) ?_
      cases h2
      exact f_end (by kernel_rfl) (by kernel_rfl)
  · refine e_nil (by kernel_rfl) ?_
    refine q_next ?_
    rcases o_cond h with ⟨hb, h⟩ | ⟨hb, h⟩
    · refine r_cond_t hb (by kernel_rfl) ?_
      refine pwp_seq ?_
      refine r_reg ?_
      obtain ⟨r4, h4, h⟩ := o_bind h
      refine p_call (d_law07_alive_ok  r4 h4) (by kernel_rfl) (by kernel_rfl) ?_
      refine e_end (by kernel_rfl) ?_
      refine q_next ?_
      refine pwp_ret ?_
      refine q_seq_ret ?_
      cases h
      exact q_ret (by kernel_rfl) (by kernel_rfl) (by kernel_rfl)
    · refine r_cond_f hb (by kernel_rfl) ?_
      refine pwp_skip ?_
      refine q_next ?_
      refine pwp_seq ?_
      refine r_reg ?_
      refine e_end (by kernel_rfl) ?_
      refine q_next ?_
      obtain ⟨o12, h12, h⟩ := o_inl h
      refine r_join (o := o12) 121 (fun x11 => ⟨[(1, .int .u8 a1), (2, .ref 2 0), (5, .ref 5 0)], [(2, .cells (cellsOf a0)), (5, .cells ([.str a0.Name, lstOf .frozen (a0.Sections : (List ByteArray)), lstOf .frozen (a0.Elements : (List T_api_Element)), lstOf .frozen (a0.Joints : (List T_api_Joint)), lstOf .frozen (a0.Signals : (List T_api_Signal)), lstOf .frozen (x11 : (List T_api_Balise))]))], [], []⟩) ?_ ?_
      · refine pwp_seq ?_
        refine r_reg ?_
        refine p_run 2 (by kernel_rfl) ?_
        refine p_len (L := (a0.Balises : (List T_api_Balise))) (by kernel_rfl) ?_
        refine e_end (by kernel_rfl) ?_
        refine q_next ?_
        rcases o_cond h12 with ⟨hb, h12⟩ | ⟨hb, h12⟩
        · refine r_cond_t hb (by kernel_rfl) ?_
          refine pwp_seq ?_
          refine r_reg ?_
          refine p_run 4 (by kernel_rfl) ?_
          refine p_len (L := (a0.Balises : (List T_api_Balise))) (by kernel_rfl) ?_
          obtain ⟨x12, h13, h12⟩ := o_bind h12
          refine p_rem h13 (by kernel_rfl) ?_
          refine e_end (by kernel_rfl) ?_
          refine q_next ?_
          refine pwp_seq ?_
          refine r_regd (by kernel_rfl) (by kernel_rfl) ?_
          refine p_run 4 (by kernel_rfl) ?_
          obtain ⟨x13, h14, h12⟩ := o_bind h12
          refine p_sl h14 .frozen (by kernel_rfl) (by kernel_rfl) (by kernel_rfl) ?_
          obtain ⟨x14, h15, h12⟩ := o_bind h12
          refine p_appn (tk := 34) h15 (by kernel_rfl) ?_
          refine p_run 4 (by kernel_rfl) ?_
          obtain ⟨x15, h16, h12⟩ := o_bind h12
          refine p_sl h16 .frozen (by kernel_rfl) (by kernel_rfl) (by kernel_rfl) ?_
          obtain ⟨x16, h17, h12⟩ := o_bind h12
          refine p_app (tk := 34) h17 (by kernel_rfl) (by kernel_rfl) ?_
          refine e_end (by kernel_rfl) ?_
          refine q_next ?_
          refine pwp_seq ?_
          refine r_reg ?_
          refine p_run 1 (by kernel_rfl) ?_
          obtain ⟨r17, h18, h12⟩ := o_bind h12
          refine p_call (d_layout_Check_ok _ r17 h18) (by kernel_rfl) (by kernel_rfl) ?_
          refine e_end (by kernel_rfl) ?_
          refine q_next ?_
          rcases o_cond h12 with ⟨hb, h12⟩ | ⟨hb, h12⟩
          · refine r_cond_t hb (by kernel_rfl) ?_
            refine pwp_seq ?_
            refine r_reg ?_
            refine e_end (by kernel_rfl) ?_
            refine q_next ?_
            refine pwp_ret ?_
            cases h12
            refine q_jout_ret ?_
            have h19 := o_outr h
            cases h19
            exact q_ret (by kernel_rfl) (by kernel_rfl) (by kernel_rfl)
          · refine r_cond_f hb (by kernel_rfl) ?_
            refine pwp_skip ?_
            cases h12
            exact q_join (by kernel_rfl) (by kernel_rfl)
        · refine r_cond_f hb (by kernel_rfl) ?_
          refine pwp_skip ?_
          cases h12
          exact q_join (by kernel_rfl) (by kernel_rfl)
      · rintro x11 rfl
        have h := o_outl h
        refine pwp_seq ?_
        refine r_reg ?_
        refine e_end (by kernel_rfl) ?_
        refine q_next ?_
        obtain ⟨o27, h27, h⟩ := o_inl h
        refine r_join (o := o27) 121 (fun x24 => ⟨[(1, .int .u8 a1), (2, .ref 2 0), (5, .ref 5 0)], [(2, .cells (cellsOf a0)), (5, .cells ([.str a0.Name, lstOf .frozen (a0.Sections : (List ByteArray)), lstOf .frozen (a0.Elements : (List T_api_Element)), lstOf .frozen (a0.Joints : (List T_api_Joint)), lstOf .frozen (x24 : (List T_api_Signal)), lstOf .frozen (a0.Balises : (List T_api_Balise))]))], [], []⟩) ?_ ?_
        · refine pwp_seq ?_
          refine r_reg ?_
          refine p_run 2 (by kernel_rfl) ?_
          refine p_len (L := (a0.Signals : (List T_api_Signal))) (by kernel_rfl) ?_
          refine e_end (by kernel_rfl) ?_
          refine q_next ?_
          rcases o_cond h27 with ⟨hb, h27⟩ | ⟨hb, h27⟩
          · refine r_cond_t hb (by kernel_rfl) ?_
            refine pwp_seq ?_
            refine r_reg ?_
            refine p_run 4 (by kernel_rfl) ?_
            refine p_len (L := (a0.Signals : (List T_api_Signal))) (by kernel_rfl) ?_
            obtain ⟨x25, h28, h27⟩ := o_bind h27
            refine p_rem h28 (by kernel_rfl) ?_
            refine e_end (by kernel_rfl) ?_
            refine q_next ?_
            refine pwp_seq ?_
            refine r_regd (by kernel_rfl) (by kernel_rfl) ?_
            refine p_run 4 (by kernel_rfl) ?_
            obtain ⟨x26, h29, h27⟩ := o_bind h27
            refine p_sl h29 .frozen (by kernel_rfl) (by kernel_rfl) (by kernel_rfl) ?_
            obtain ⟨x27, h30, h27⟩ := o_bind h27
            refine p_appn (tk := 61) h30 (by kernel_rfl) ?_
            refine p_run 4 (by kernel_rfl) ?_
            obtain ⟨x28, h31, h27⟩ := o_bind h27
            refine p_sl h31 .frozen (by kernel_rfl) (by kernel_rfl) (by kernel_rfl) ?_
            obtain ⟨x29, h32, h27⟩ := o_bind h27
            refine p_app (tk := 61) h32 (by kernel_rfl) (by kernel_rfl) ?_
            refine e_end (by kernel_rfl) ?_
            refine q_next ?_
            refine pwp_seq ?_
            refine r_reg ?_
            refine p_run 1 (by kernel_rfl) ?_
            obtain ⟨r30, h33, h27⟩ := o_bind h27
            refine p_call (d_layout_Check_ok _ r30 h33) (by kernel_rfl) (by kernel_rfl) ?_
            refine e_end (by kernel_rfl) ?_
            refine q_next ?_
            rcases o_cond h27 with ⟨hb, h27⟩ | ⟨hb, h27⟩
            · refine r_cond_t hb (by kernel_rfl) ?_
              refine pwp_seq ?_
              refine r_reg ?_
              refine e_end (by kernel_rfl) ?_
              refine q_next ?_
              refine pwp_ret ?_
              cases h27
              refine q_jout_ret ?_
              have h34 := o_outr h
              cases h34
              exact q_ret (by kernel_rfl) (by kernel_rfl) (by kernel_rfl)
            · refine r_cond_f hb (by kernel_rfl) ?_
              refine pwp_skip ?_
              cases h27
              exact q_join (by kernel_rfl) (by kernel_rfl)
          · refine r_cond_f hb (by kernel_rfl) ?_
            refine pwp_skip ?_
            cases h27
            exact q_join (by kernel_rfl) (by kernel_rfl)
        · rintro x24 rfl
          have h := o_outl h
          refine pwp_seq ?_
          refine r_reg ?_
          refine e_end (by kernel_rfl) ?_
          refine q_next ?_
          obtain ⟨o49, h49, h⟩ := o_inl h
          refine r_join (o := o49) 121 (fun (_ : Unit) => ⟨[], [], [], []⟩) ?_ ?_
          · refine pwp_seq ?_
            refine r_reg ?_
            refine p_run 2 (by kernel_rfl) ?_
            refine p_len (L := (a0.Joints : (List T_api_Joint))) (by kernel_rfl) ?_
            refine e_end (by kernel_rfl) ?_
            refine q_next ?_
            rcases o_cond h49 with ⟨hb, h49⟩ | ⟨hb, h49⟩
            · refine r_cond_t hb (by kernel_rfl) ?_
              refine pwp_seq ?_
              refine r_reg ?_
              refine p_run 4 (by kernel_rfl) ?_
              refine p_len (L := (a0.Joints : (List T_api_Joint))) (by kernel_rfl) ?_
              obtain ⟨x43, h50, h49⟩ := o_bind h49
              refine p_rem h50 (by kernel_rfl) ?_
              refine e_end (by kernel_rfl) ?_
              refine q_next ?_
              refine pwp_seq ?_
              refine pwp_seq ?_
              refine r_regd (by kernel_rfl) (by kernel_rfl) ?_
              refine p_run 4 (by kernel_rfl) ?_
              obtain ⟨x44, h51, h49⟩ := o_bind h49
              refine p_ix h51 (by kernel_rfl) ?_
              refine p_run 2 (by kernel_rfl) ?_
              obtain ⟨r45, h52, h49⟩ := o_bind h49
              refine p_call (d_layout_Signal_ok _ _ r45 h52) (by kernel_rfl) (by kernel_rfl) ?_
              obtain ⟨b46, h53, h49⟩ := o_bind h49
              refine p_run 2 (by kernel_rfl) ?_
              refine e_seg 10 102 (.bool b46) ?_ ?_
              · rcases o_cond h53 with ⟨hb, h53⟩ | ⟨hb, h53⟩
                · refine p_settle 92 hb (by kernel_rfl) (by kernel_rfl) ?_
                  cases h53
                  exact f_end (by kernel_rfl) (by kernel_rfl)
                · refine p_settle 92 hb (by kernel_rfl) (by kernel_rfl) ?_
                  refine p_run 4 (by kernel_rfl) ?_
                  obtain ⟨x47, h54, h53⟩ := o_bind h53
                  refine p_ix h54 (by kernel_rfl) ?_
                  refine p_run 2 (by kernel_rfl) ?_
                  obtain ⟨r48, h55, h53⟩ := o_bind h53
                  refine p_call (d_layout_Signal_ok _ _ r48 h55) (by kernel_rfl) (by kernel_rfl) ?_
                  cases h53
                  exact f_end (by kernel_rfl) (by kernel_rfl)
              · refine e_nil (by kernel_rfl) ?_
                refine q_next ?_
                rcases o_cond h49 with ⟨hb, h49⟩ | ⟨hb, h49⟩
                · refine r_cond_t hb (by kernel_rfl) ?_
                  refine pwp_seq ?_
                  refine r_reg ?_
                  obtain ⟨r49, h56, h49⟩ := o_bind h49
                  refine p_call (d_law07_alive_ok  r49 h56) (by kernel_rfl) (by kernel_rfl) ?_
                  refine e_end (by kernel_rfl) ?_
                  refine q_next ?_
                  refine pwp_ret ?_
                  refine q_seq_ret ?_
                  cases h49
                  refine q_jout_ret ?_
                  have h57 := o_outr h
                  cases h57
                  exact q_ret (by kernel_rfl) (by kernel_rfl) (by kernel_rfl)
                · refine r_cond_f hb (by kernel_rfl) ?_
                  refine pwp_skip ?_
                  refine q_next ?_
                  refine pwp_seq ?_
                  refine r_regd (by kernel_rfl) (by kernel_rfl) ?_
                  refine p_run 4 (by kernel_rfl) ?_
                  obtain ⟨x50, h58, h49⟩ := o_bind h49
                  refine p_sl h58 .frozen (by kernel_rfl) (by kernel_rfl) (by kernel_rfl) ?_
                  obtain ⟨x51, h59, h49⟩ := o_bind h49
                  refine p_appn (tk := 109) h59 (by kernel_rfl) ?_
                  refine p_run 4 (by kernel_rfl) ?_
                  obtain ⟨x52, h60, h49⟩ := o_bind h49
                  refine p_sl h60 .frozen (by kernel_rfl) (by kernel_rfl) (by kernel_rfl) ?_
                  obtain ⟨x53, h61, h49⟩ := o_bind h49
                  refine p_app (tk := 109) h61 (by kernel_rfl) (by kernel_rfl) ?_
                  refine e_end (by kernel_rfl) ?_
                  refine q_next ?_
                  refine pwp_seq ?_
                  refine r_reg ?_
                  refine p_run 1 (by kernel_rfl) ?_
                  obtain ⟨r54, h62, h49⟩ := o_bind h49
                  refine p_call (d_layout_Check_ok _ r54 h62) (by kernel_rfl) (by kernel_rfl) ?_
                  refine e_end (by kernel_rfl) ?_
                  refine q_next ?_
                  rcases o_cond h49 with ⟨hb, h49⟩ | ⟨hb, h49⟩
                  · refine r_cond_t hb (by kernel_rfl) ?_
                    refine pwp_seq ?_
                    refine r_reg ?_
                    refine e_end (by kernel_rfl) ?_
                    refine q_next ?_
                    refine pwp_ret ?_
                    cases h49
                    refine q_jout_ret ?_
                    have h63 := o_outr h
                    cases h63
                    exact q_ret (by kernel_rfl) (by kernel_rfl) (by kernel_rfl)
                  · refine r_cond_f hb (by kernel_rfl) ?_
                    refine pwp_skip ?_
                    cases h49
                    exact q_join (by kernel_rfl) (by kernel_rfl)
            · refine r_cond_f hb (by kernel_rfl) ?_
              refine pwp_skip ?_
              cases h49
              exact q_join (by kernel_rfl) (by kernel_rfl)
          · rintro _ rfl
            have h := o_outl h
            refine pwp_seq ?_
            refine r_reg ?_
            obtain ⟨r55, h64, h⟩ := o_bind h
            refine p_call (d_law07_alive_ok  r55 h64) (by kernel_rfl) (by kernel_rfl) ?_
            refine e_end (by kernel_rfl) ?_
            refine q_next ?_
            refine pwp_ret ?_
            cases h
            exact q_ret (by kernel_rfl) (by kernel_rfl) (by kernel_rfl)

/-! layout.Points -/
noncomputable def d_layout_Points_0 (a0 : T_api_Layout) : (Int × (List Int)) → Option ((Int × (List Int)) ⊕ ((List Int) ⊕ (List Int))) := fun (x12, x13) =>
  bif decide (x12 < ((a0.Elements.length : Nat) : Int)) then (
    onInl (α := (List Int)) (β := ((Int × (List Int)) ⊕ ((List Int) ⊕ (List Int)))) (
      (ixO a0.Elements x12).bind fun x23 =>
      bif decide (x23.Kind = 2) then (
        (appO x13 [x12]).bind fun x24 =>
        some (.inl x24)
      ) else (
        some (.inl x13)
      )
    ) fun x22 =>
    some (.inl (w64 (x12 + 1), x22))
  ) else (
    some (.inr (.inl x13))
  )

noncomputable def d_layout_Points (a0 : T_api_Layout) : Option (List Int) :=
  onInl (α := (List Int)) (β := (List Int)) (loopO (d_layout_Points_0 a0) (0, ([] : (List Int)))) fun x19 =>
  some x19
theorem d_layout_Points_ok (a0 : T_api_Layout) (r : (List Int)) (h : d_layout_Points a0 = some r) : PCall Go.Proofs.Tryd.prog GlS 21 [Enc.pv a0] (lstOf (.own 100003) r) := by
  unfold d_layout_Points at h
  refine pcall_of_pwp Go.Proofs.Tryd.func21 (by rfl) rfl Go.Proofs.Tryd.ntmps21 (by rfl) rfl ?_
  refine pwp_seq ?_
  refine r_reg ?_
  refine e_end (by kernel_rfl) ?_
  refine q_next ?_
  refine pwp_seq ?_
  refine r_reg ?_
  refine e_end (by kernel_rfl) ?_
  refine q_next ?_
  refine pwp_seq ?_
  refine pwp_seq ?_
  refine r_reg ?_
  refine p_run 2 (by kernel_rfl) ?_
  refine p_len (L := (a0.Elements : (List T_api_Element))) (by kernel_rfl) ?_
  refine e_end (by kernel_rfl) ?_
  refine q_next ?_
  refine pwp_block ?_
  refine g_nil 3 100003 1 8 (by kernel_rfl) (by kernel_rfl) ?_
  obtain ⟨o17, h17, h⟩ := o_inl h
  refine r_loop2 23 0 (fun (x12, x13) => ⟨[(3, lstOf (.own 100003) (x13 : (List Int))), (7, lstOf .frozen (a0.Elements : (List T_api_Element))), (8, .int .i64 ((a0.Elements.length : Nat) : Int)), (9, .int .i64 x12)], [], [(100003, (((x13).map cellsOf).length, 1))], []⟩) (fun x19 => ⟨[(3, lstOf (.own 100003) (x19 : (List Int)))], [], [(100003, (((x19).map cellsOf).length, 1))], []⟩) h17 (by kernel_rfl) (fun _ => by kernel_rfl) ?_ ?_
  · rintro ⟨x12, x13⟩ oh16 h16
    unfold d_layout_Points_0 at h16
    refine pwp_seq ?_
    refine r_reg ?_
    refine e_end (by kernel_rfl) ?_
    refine q_next ?_
    refine pwp_seq ?_
    rcases o_cond h16 with ⟨hb, h16⟩ | ⟨hb, h16⟩
    · refine r_cond_t hb (by kernel_rfl) ?_
      refine pwp_skip ?_
      refine q_next ?_
      obtain ⟨o20, h20, h16⟩ := o_inl h16
      refine r_join (o := o20) 23 (fun x22 => ⟨[(3, lstOf (.own 100003) (x22 : (List Int))), (7, lstOf .frozen (a0.Elements : (List T_api_Element))), (8, .int .i64 ((a0.Elements.length : Nat) : Int)), (9, .int .i64 x12)], [], [(100003, (((x22).map cellsOf).length, 1))], []⟩) ?_ ?_
      · refine pwp_block ?_
        refine pwp_seq ?_
        refine r_reg ?_
        refine p_run 1 (by kernel_rfl) ?_
        obtain ⟨x23, h21, h20⟩ := o_bind h20
        refine p_ix h21 (by kernel_rfl) ?_
        refine e_end (by kernel_rfl) ?_
        refine q_next ?_
        refine pwp_seq ?_
        refine r_reg ?_
        refine e_end (by kernel_rfl) ?_
        refine q_next ?_
        rcases o_cond h20 with ⟨hb, h20⟩ | ⟨hb, h20⟩
        · refine r_cond_t hb (by kernel_rfl) ?_
          refine r_reg ?_
          refine p_run 3 (by kernel_rfl) ?_
          obtain ⟨x24, h22, h20⟩ := o_bind h20
          refine p_app (tk := 100003) h22 (by kernel_rfl) (by kernel_rfl) ?_
          refine e_end (by kernel_rfl) ?_
          refine q_block ?_
          cases h20
          exact q_join (by kernel_rfl) (by kernel_rfl)
        · refine r_cond_f hb (by kernel_rfl) ?_
          refine pwp_skip ?_
          refine q_block ?_
          cases h20
          exact q_join (by kernel_rfl) (by kernel_rfl)
      · rintro x22 rfl
        have h16 := o_outl h16
        refine r_reg ?_
        refine e_end (by kernel_rfl) ?_
        cases h16
        exact q_lback (by kernel_rfl)
    · refine r_cond_f hb (by kernel_rfl) ?_
      refine pwp_exit ?_
      refine q_seq_exit ?_
      cases h16
      exact q_lexit (by kernel_rfl) (by kernel_rfl)
  · rintro x19 s' rfl hs
    have h := o_outl h
    refine q_block_hit ?_
    refine q_next (pwp_wkr hs ?_)
    refine pwp_seq ?_
    refine r_reg ?_
    refine e_end (by kernel_rfl) ?_
    refine q_next ?_
    refine pwp_ret ?_
    cases h
    exact q_ret (by kernel_rfl) (by kernel_rfl) (by kernel_rfl)
theorem d_layout_Points_fz (a0 : T_api_Layout) (r : (List Int)) (h : d_layout_Points a0 = some r) : PCall Go.Proofs.Tryd.prog GlS 21 [Enc.pv a0] (Enc.pv r) :=
  (d_layout_Points_ok a0 r h).freeze (by kernel_rfl) (by kernel_rfl) (by kernel_rfl)

/-! signallinglaw07.LayoutParts -/
noncomputable def d_law07_LayoutParts_1 (a0 : T_api_Layout) (x5 : (List Int)) (x31 : Int) (r59 : (List Int)) : (Int × Int × (List Int)) → Option ((Int × Int × (List Int)) ⊕ (((List Int) × Int) ⊕ ((Int × Int × (List Int)) ⊕ (((List Int) × Int) ⊕ Bool)))) := fun (x66, x67, x68) =>
  bif decide (x67 < ((r59.length : Nat) : Int)) then (
    (ixO r59 x67).bind fun x77 =>
    (d_layout_Section a0 x77).bind fun r78 =>
    bif (!(decide (r78 = x31))) then (
      some (.inr (.inr (.inr (.inr false))))
    ) else (
      bif ((decide (x77 < 0)) || (decide (((((x5 : (List Int)).map cellsOf).length : Nat) : Int) ≤ x77))) then (
        some (.inr (.inr (.inr (.inr false))))
      ) else (
        (xixO 0 (((x5 : (List Int)).map cellsOf).length) x77).bind fun j79 =>
        (xldO x68 (((x5 : (List Int)).map cellsOf).length) j79).bind fun x80 =>
        (xixO 0 (((x5 : (List Int)).map cellsOf).length) x77).bind fun j81 =>
        (xldO x68 (((x5 : (List Int)).map cellsOf).length) j81).bind fun x82 =>
        some (.inl (w64 (x66 + 1), w64 (x67 + 1), (x68.set j81 (w64 (x80 + 1)))))
      )
    )
  ) else (
    some (.inr (.inl (x68, x66)))
  )

noncomputable def d_law07_LayoutParts_0 (a0 : T_api_Layout) (x5 : (List Int)) : (Int × Int × (List Int)) → Option ((Int × Int × (List Int)) ⊕ (((List Int) × Int) ⊕ Bool)) := fun (x30, x31, x32) =>
  bif decide (x31 < ((a0.Sections.length : Nat) : Int)) then (
    (d_layout_Members a0 x31).bind fun r59 =>
    onInl (α := ((List Int) × Int)) (β := ((Int × Int × (List Int)) ⊕ (((List Int) × Int) ⊕ Bool))) (loopO (d_law07_LayoutParts_1 a0 x5 x31 r59) (x30, 0, x32)) fun (x75, x76) =>
    bif decide (((r59.length : Nat) : Int) = 0) then (
      some (.inr (.inr false))
    ) else (
      some (.inl (x76, w64 (x31 + 1), x75))
    )
  ) else (
    some (.inr (.inl (x32, x30)))
  )

noncomputable def d_law07_LayoutParts_2 (a0 : T_api_Layout) (x5 : (List Int)) (x57 : (List Int)) (r83 : (List Int)) : (Int × Int) → Option ((Int × Int) ⊕ (Int ⊕ Bool)) := fun (x99, x100) =>
  bif decide (x100 < ((a0.Elements.length : Nat) : Int)) then (
    onInl (α := Int) (β := ((Int × Int) ⊕ (Int ⊕ Bool))) (
      (ixO a0.Elements x100).bind fun x125 =>
      (xixO 0 (((x5 : (List Int)).map cellsOf).length) x100).bind fun j126 =>
      (xldO x57 (((x5 : (List Int)).map cellsOf).length) j126).bind fun x127 =>
      ((bif (!(decide (x127 = 1))) then some true else (
        (d_layout_Element a0 x125.Name).bind fun r129 =>
        some (!(decide (r129 = x100)))
      )) : Option Bool).bind fun b128 =>
      bif b128 then (
        some (.inr (.inr (.inr false)))
      ) else (
        bif decide (0 < x125.Slow) then (
          ((bif decide (((r83.length : Nat) : Int) ≤ x99) then some true else (
            (ixO r83 x99).bind fun x131 =>
            some (!(decide (x131 = x100)))
          )) : Option Bool).bind fun b130 =>
          bif b130 then (
            some (.inr (.inr (.inr false)))
          ) else (
            some (.inl (w64 (x99 + 1)))
          )
        ) else (
          some (.inl x99)
        )
      )
    ) fun x124 =>
    some (.inl (x124, w64 (x100 + 1)))
  ) else (
    some (.inr (.inl x99))
  )

noncomputable def d_law07_LayoutParts (a0 : T_api_Layout) : Option Bool :=
  (d_law07_Few a0).bind fun r1 =>
  ((bif (!r1) then some true else (
    (d_layout_Check a0).bind fun r3 =>
    some (!(decide (r3 = 0)))
  )) : Option Bool).bind fun b2 =>
  bif b2 then (
    (d_law07_alive ).bind fun r4 =>
    some r4
  ) else (
    (mkxO ((a0.Elements.length : Nat) : Int) ((a0.Elements.length : Nat) : Int) 8 (0 : Int)).bind fun x5 =>
    onInl (α := ((List Int) × Int)) (β := Bool) (loopO (d_law07_LayoutParts_0 a0 x5) (0, 0, x5)) fun (x57, x58) =>
    (d_layout_Points a0).bind fun r83 =>
    onInl (α := Int) (β := Bool) (loopO (d_law07_LayoutParts_2 a0 x5 x57 r83) (0, 0)) fun x116 =>
    ((bif decide (x116 = ((r83.length : Nat) : Int)) then (
      some (decide (x58 = ((a0.Elements.length : Nat) : Int)))
    ) else some false) : Option Bool).bind fun b132 =>
    ((bif b132 then (
      (d_law07_alive ).bind fun r134 =>
      some r134
    ) else some false) : Option Bool).bind fun b133 =>
    some b133
  )
theorem d_law07_LayoutParts_ok (a0 : T_api_Layout) (r : Bool) (h : d_law07_LayoutParts a0 = some r) : PCall Go.Proofs.Tryd.prog GlS 6 [Enc.pv a0] (Enc.pv r) := by
  unfold d_law07_LayoutParts at h
  refine pcall_of_pwp Go.Proofs.Tryd.func6 (by rfl) rfl Go.Proofs.Tryd.ntmps6 (by rfl) rfl ?_
  refine pwp_seq ?_
  refine r_reg ?_
  refine e_end (by kernel_rfl) ?_
  refine q_next ?_
  refine pwp_seq ?_
  refine pwp_seq ?_
  refine r_reg ?_
  refine p_run 1 (by kernel_rfl) ?_
  obtain ⟨r1, h1, h⟩ := o_bind h
  refine p_call (d_law07_Few_ok _ r1 h1) (by kernel_rfl) (by kernel_rfl) ?_
  obtain ⟨b2, h2, h⟩ := o_bind h
  refine p_run 2 (by kernel_rfl) ?_
  refine e_seg 4 20 (.bool b2) ?_ ?_
  · rcases o_cond h2 with ⟨hb, h2⟩ | ⟨hb, h2⟩
    · refine p_settle 16 hb (by kernel_rfl) (by kernel_rfl) ?_
      cases h2
      exact f_end (by kernel_rfl) (by kernel_rfl)
    · refine p_settle 16 hb (by kernel_rfl) (by kernel_rfl) ?_
      refine p_run 1 (by kernel_rfl) ?_
      obtain ⟨r3, h3, h2⟩ := o_bind h2
      refine p_call (d_layout_Check_ok _ r3 h3) (by kernel_rfl) (by kernel_rfl) ?_
      cases h2
      exact f_end (by kernel_rfl) (by kernel_rfl)
  · refine e_nil (by kernel_rfl) ?_
    refine q_next ?_
    rcases o_cond h with ⟨hb, h⟩ | ⟨hb, h⟩
    · refine r_cond_t hb (by kernel_rfl) ?_
      refine pwp_seq ?_
      refine r_reg ?_
      obtain ⟨r4, h4, h⟩ := o_bind h
      refine p_call (d_law07_alive_ok  r4 h4) (by kernel_rfl) (by kernel_rfl) ?_
      refine e_end (by kernel_rfl) ?_
      refine q_next ?_
      refine pwp_ret ?_
      refine q_seq_ret ?_
      cases h
      exact q_ret (by kernel_rfl) (by kernel_rfl) (by kernel_rfl)
    · refine r_cond_f hb (by kernel_rfl) ?_
      refine pwp_skip ?_
      refine q_next ?_
      refine pwp_seq ?_
      refine r_reg ?_
      refine p_run 2 (by kernel_rfl) ?_
      refine p_len (L := (a0.Elements : (List T_api_Element))) (by kernel_rfl) ?_
      obtain ⟨x5, h5, h⟩ := o_bind h
      refine p_xmk (z := (0 : Int)) 25 h5 (by kernel_rfl) (by kernel_rfl) ?_
      refine e_end (by kernel_rfl) ?_
      refine q_next ?_
      refine pwp_seq ?_
      refine r_reg ?_
      refine e_end (by kernel_rfl) ?_
      refine q_next ?_
      refine pwp_seq ?_
      refine pwp_seq ?_
      refine r_reg ?_
      refine p_run 2 (by kernel_rfl) ?_
      refine p_len (L := (a0.Sections : (List ByteArray))) (by kernel_rfl) ?_
      refine e_end (by kernel_rfl) ?_
      refine q_next ?_
      refine pwp_block ?_
      obtain ⟨o75, h75, h⟩ := o_inl h
      refine r_loop2 122 0 (fun (x30, x31, x32) => ⟨[(1, .ref 1 0), (3, .ex 25 1 8 (((x5 : (List Int)).map cellsOf).length) 0 (((x5 : (List Int)).map cellsOf).length)), (4, .int .i64 x30), (28, .int .i64 ((a0.Sections.length : Nat) : Int)), (29, .int .i64 x31)], [(1, .cells (cellsOf a0))], [(25, (((x5 : (List Int)).map cellsOf).length, 0))], [(25, (1, (8, (x32 : (List Int)).map cellsOf)))]⟩) (fun (x57, x58) => ⟨[(1, .ref 1 0), (3, .ex 25 1 8 (((x5 : (List Int)).map cellsOf).length) 0 (((x5 : (List Int)).map cellsOf).length)), (4, .int .i64 x58)], [(1, .cells (cellsOf a0))], [(25, (((x5 : (List Int)).map cellsOf).length, 0))], [(25, (1, (8, (x57 : (List Int)).map cellsOf)))]⟩) h75 (by kernel_rfl) (fun _ => by kernel_rfl) ?_ ?_
      · rintro ⟨x30, x31, x32⟩ oh74 h74
        unfold d_law07_LayoutParts_0 at h74
        refine pwp_seq ?_
        refine r_reg ?_
        refine e_end (by kernel_rfl) ?_
        refine q_next ?_
        refine pwp_seq ?_
        rcases o_cond h74 with ⟨hb, h74⟩ | ⟨hb, h74⟩
        · refine r_cond_t hb (by kernel_rfl) ?_
          refine pwp_skip ?_
          refine q_next ?_
          refine pwp_seq ?_
          refine pwp_block ?_
          refine pwp_seq ?_
          refine r_reg ?_
          refine e_end (by kernel_rfl) ?_
          refine q_next ?_
          refine pwp_seq ?_
          refine r_reg ?_
          refine p_run 2 (by kernel_rfl) ?_
          obtain ⟨r59, h76, h74⟩ := o_bind h74
          refine p_call (d_layout_Members_ok _ _ r59 h76) (by kernel_rfl) (by kernel_rfl) ?_
          refine e_end (by kernel_rfl) ?_
          refine q_next ?_
          refine pwp_seq ?_
          refine pwp_seq ?_
          refine r_reg ?_
          refine p_run 1 (by kernel_rfl) ?_
          refine p_len (L := (r59 : (List Int))) (by kernel_rfl) ?_
          refine e_end (by kernel_rfl) ?_
          refine q_next ?_
          refine pwp_block ?_
          obtain ⟨o98, h98, h74⟩ := o_inl h74
          refine r_loop2 122 2 (fun (x66, x67, x68) => ⟨[(1, .ref 1 0), (3, .ex 25 1 8 (((x5 : (List Int)).map cellsOf).length) 0 (((x5 : (List Int)).map cellsOf).length)), (4, .int .i64 x66), (5, .int .i64 x31), (6, lstOf (.own 134005) (r59 : (List Int))), (28, .int .i64 ((a0.Sections.length : Nat) : Int)), (29, .int .i64 x31), (35, lstOf (.own 134005) (r59 : (List Int))), (36, .int .i64 ((r59.length : Nat) : Int)), (37, .int .i64 x67)], [(1, .cells (cellsOf a0))], [(134005, (((r59).map cellsOf).length, 1)), (25, (((x5 : (List Int)).map cellsOf).length, 0))], [(25, (1, (8, (x68 : (List Int)).map cellsOf)))]⟩) (fun (x75, x76) => ⟨[(1, .ref 1 0), (3, .ex 25 1 8 (((x5 : (List Int)).map cellsOf).length) 0 (((x5 : (List Int)).map cellsOf).length)), (4, .int .i64 x76), (6, lstOf (.own 134005) (r59 : (List Int))), (28, .int .i64 ((a0.Sections.length : Nat) : Int)), (29, .int .i64 x31)], [(1, .cells (cellsOf a0))], [(134005, (((r59).map cellsOf).length, 1)), (25, (((x5 : (List Int)).map cellsOf).length, 0))], [(25, (1, (8, (x75 : (List Int)).map cellsOf)))]⟩) h98 (by kernel_rfl) (fun _ => by kernel_rfl) ?_ ?_
          · rintro ⟨x66, x67, x68⟩ oh97 h97
            unfold d_law07_LayoutParts_1 at h97
            refine pwp_seq ?_
            refine r_reg ?_
            refine e_end (by kernel_rfl) ?_
            refine q_next ?_
            refine pwp_seq ?_
            rcases o_cond h97 with ⟨hb, h97⟩ | ⟨hb, h97⟩
            · refine r_cond_t hb (by kernel_rfl) ?_
              refine pwp_skip ?_
              refine q_next ?_
              refine pwp_seq ?_
              refine pwp_block ?_
              refine pwp_seq ?_
              refine r_reg ?_
              obtain ⟨x77, h99, h97⟩ := o_bind h97
              refine p_ix h99 (by kernel_rfl) ?_
              refine e_end (by kernel_rfl) ?_
              refine q_next ?_
              refine pwp_seq ?_
              refine pwp_seq ?_
              refine r_reg ?_
              refine p_run 2 (by kernel_rfl) ?_
              obtain ⟨r78, h100, h97⟩ := o_bind h97
              refine p_call (d_layout_Section_ok _ _ r78 h100) (by kernel_rfl) (by kernel_rfl) ?_
              refine e_end (by kernel_rfl) ?_
              refine q_next ?_
              rcases o_cond h97 with ⟨hb, h97⟩ | ⟨hb, h97⟩
              · refine r_cond_t hb (by kernel_rfl) ?_
                refine pwp_seq ?_
                refine r_reg ?_
                refine e_end (by kernel_rfl) ?_
                refine q_next ?_
                refine pwp_ret ?_
                refine q_seq_ret ?_
                refine q_block_ret ?_
                refine q_seq_ret ?_
                cases h97
                refine q_lout_ret fun he => ?_
                subst he
                have h101 := o_outr h74
                refine q_block_ret ?_
                refine q_seq_ret ?_
                refine q_block_ret ?_
                refine q_seq_ret ?_
                cases h101
                refine q_lout_ret fun he => ?_
                subst he
                have h102 := o_outr h
                refine q_block_ret ?_
                refine q_seq_ret ?_
                cases h102
                exact q_ret (by kernel_rfl) (by kernel_rfl) (by kernel_rfl)
              · refine r_cond_f hb (by kernel_rfl) ?_
                refine pwp_skip ?_
                refine q_next ?_
                refine pwp_seq ?_
                refine pwp_seq ?_
                refine r_reg ?_
                refine p_run 3 (by kernel_rfl) ?_
                refine e_segb 5 53 ((decide (x77 < 0)) || (decide (((((x5 : (List Int)).map cellsOf).length : Nat) : Int) ≤ x77))) (fun x hx => ?_) ?_
                · rcases b_or hx with ⟨hb, hx⟩ | ⟨hb, hx⟩
                  · refine p_settle 48 hb (by kernel_rfl) (by kernel_rfl) ?_
                    subst hx
                    exact f_end (by kernel_rfl) (by kernel_rfl)
                  · refine p_settle 48 hb (by kernel_rfl) (by kernel_rfl) ?_
                    subst hx
                    exact f_end (by kernel_rfl) (by kernel_rfl)
                · refine e_nil (by kernel_rfl) ?_
                  refine q_next ?_
                  rcases o_cond h97 with ⟨hb, h97⟩ | ⟨hb, h97⟩
                  · refine r_cond_t hb (by kernel_rfl) ?_
                    refine pwp_seq ?_
                    refine r_reg ?_
                    refine e_end (by kernel_rfl) ?_
                    refine q_next ?_
                    refine pwp_ret ?_
                    refine q_seq_ret ?_
                    refine q_block_ret ?_
                    refine q_seq_ret ?_
                    cases h97
                    refine q_lout_ret fun he => ?_
                    subst he
                    have h103 := o_outr h74
                    refine q_block_ret ?_
                    refine q_seq_ret ?_
                    refine q_block_ret ?_
                    refine q_seq_ret ?_
                    cases h103
                    refine q_lout_ret fun he => ?_
                    subst he
                    have h104 := o_outr h
                    refine q_block_ret ?_
                    refine q_seq_ret ?_
                    cases h104
                    exact q_ret (by kernel_rfl) (by kernel_rfl) (by kernel_rfl)
                  · refine r_cond_f hb (by kernel_rfl) ?_
                    refine pwp_skip ?_
                    refine q_next ?_
                    refine pwp_seq ?_
                    refine r_reg ?_
                    refine p_run 2 (by kernel_rfl) ?_
                    obtain ⟨j79, h105, h97⟩ := o_bind h97
                    refine p_xix (tk := 25) (k := 1) (N := ((x5 : (List Int)).map cellsOf).length) h105 (by kernel_rfl) ?_
                    obtain ⟨x80, h106, h97⟩ := o_bind h97
                    refine p_xld (L := (x68 : (List Int))) (N := ((x5 : (List Int)).map cellsOf).length) (j := j79) (y := x80) (v := .int .i64 x80) h106 false 1 0 (by kernel_rfl) (by kernel_rfl) ?_
                    refine p_run 1 (by kernel_rfl) ?_
                    obtain ⟨j81, h107, h97⟩ := o_bind h97
                    refine p_xix (tk := 25) (k := 1) (N := ((x5 : (List Int)).map cellsOf).length) h107 (by kernel_rfl) ?_
                    obtain ⟨x82, h108, h97⟩ := o_bind h97
                    refine p_xst (L := (x68 : (List Int))) (tk := 25) (N := ((x5 : (List Int)).map cellsOf).length) (j := j81) (y := x82) (y' := (w64 (x80 + 1))) h108 0 1 [.int .i64 (w64 (x80 + 1))] (by kernel_rfl) (by kernel_rfl) ?_
                    refine e_nil (by kernel_rfl) ?_
                    refine q_next ?_
                    refine r_reg ?_
                    refine e_end (by kernel_rfl) ?_
                    refine q_block ?_
                    refine q_next ?_
                    refine r_reg ?_
                    refine e_end (by kernel_rfl) ?_
                    cases h97
                    exact q_lback (by kernel_rfl)
            · refine r_cond_f hb (by kernel_rfl) ?_
              refine pwp_exit ?_
              refine q_seq_exit ?_
              cases h97
              exact q_lexit (by kernel_rfl) (by kernel_rfl)
          · rintro ⟨x75, x76⟩ s' rfl hs
            have h74 := o_outl h74
            refine q_block_hit ?_
            refine q_next (pwp_wkr hs ?_)
            refine pwp_seq ?_
            refine r_reg ?_
            refine p_run 1 (by kernel_rfl) ?_
            refine p_len (L := (r59 : (List Int))) (by kernel_rfl) ?_
            refine e_end (by kernel_rfl) ?_
            refine q_next ?_
            rcases o_cond h74 with ⟨hb, h74⟩ | ⟨hb, h74⟩
            · refine r_cond_t hb (by kernel_rfl) ?_
              refine pwp_seq ?_
              refine r_reg ?_
              refine e_end (by kernel_rfl) ?_
              refine q_next ?_
              refine pwp_ret ?_
              refine q_block_ret ?_
              refine q_seq_ret ?_
              cases h74
              refine q_lout_ret fun he => ?_
              subst he
              have h109 := o_outr h
              refine q_block_ret ?_
              refine q_seq_ret ?_
              cases h109
              exact q_ret (by kernel_rfl) (by kernel_rfl) (by kernel_rfl)
            · refine r_cond_f hb (by kernel_rfl) ?_
              refine pwp_skip ?_
              refine q_block ?_
              refine q_next ?_
              refine r_reg ?_
              refine e_end (by kernel_rfl) ?_
              cases h74
              exact q_lback (by kernel_rfl)
        · refine r_cond_f hb (by kernel_rfl) ?_
          refine pwp_exit ?_
          refine q_seq_exit ?_
          cases h74
          exact q_lexit (by kernel_rfl) (by kernel_rfl)
      · rintro ⟨x57, x58⟩ s' rfl hs
        have h := o_outl h
        refine q_block_hit ?_
        refine q_next (pwp_wkr hs ?_)
        refine pwp_seq ?_
        refine r_reg ?_
        refine e_end (by kernel_rfl) ?_
        refine q_next ?_
        refine pwp_seq ?_
        refine r_reg ?_
        refine p_run 1 (by kernel_rfl) ?_
        obtain ⟨r83, h110, h⟩ := o_bind h
        refine p_call (d_layout_Points_ok _ r83 h110) (by kernel_rfl) (by kernel_rfl) ?_
        refine e_end (by kernel_rfl) ?_
        refine q_next ?_
        refine pwp_seq ?_
        refine pwp_seq ?_
        refine r_reg ?_
        refine p_run 2 (by kernel_rfl) ?_
        refine p_len (L := (a0.Elements : (List T_api_Element))) (by kernel_rfl) ?_
        refine e_end (by kernel_rfl) ?_
        refine q_next ?_
        refine pwp_block ?_
        obtain ⟨o158, h158, h⟩ := o_inl h
        refine r_loop2 122 4 (fun (x99, x100) => ⟨[(1, .ref 1 0), (3, .ex 25 1 8 (((x5 : (List Int)).map cellsOf).length) 0 (((x5 : (List Int)).map cellsOf).length)), (4, .int .i64 x58), (9, .int .i64 x99), (10, lstOf (.own 168003) (r83 : (List Int))), (70, lstOf .frozen (a0.Elements : (List T_api_Element))), (71, .int .i64 ((a0.Elements.length : Nat) : Int)), (72, .int .i64 x100)], [(1, .cells (cellsOf a0))], [(168003, (((r83).map cellsOf).length, 1)), (25, (((x5 : (List Int)).map cellsOf).length, 0))], [(25, (1, (8, (x57 : (List Int)).map cellsOf)))]⟩) (fun x116 => ⟨[(1, .ref 1 0), (4, .int .i64 x58), (9, .int .i64 x116), (10, lstOf (.own 168003) (r83 : (List Int)))], [(1, .cells (cellsOf a0))], [(168003, (((r83).map cellsOf).length, 1))], []⟩) h158 (by kernel_rfl) (fun _ => by kernel_rfl) ?_ ?_
        · rintro ⟨x99, x100⟩ oh157 h157
          unfold d_law07_LayoutParts_2 at h157
          refine pwp_seq ?_
          refine r_reg ?_
          refine e_end (by kernel_rfl) ?_
          refine q_next ?_
          refine pwp_seq ?_
          rcases o_cond h157 with ⟨hb, h157⟩ | ⟨hb, h157⟩
          · refine r_cond_t hb (by kernel_rfl) ?_
            refine pwp_skip ?_
            refine q_next ?_
            obtain ⟨o170, h170, h157⟩ := o_inl h157
            refine r_join (o := o170) 122 (fun x124 => ⟨[(1, .ref 1 0), (3, .ex 25 1 8 (((x5 : (List Int)).map cellsOf).length) 0 (((x5 : (List Int)).map cellsOf).length)), (4, .int .i64 x58), (9, .int .i64 x124), (10, lstOf (.own 168003) (r83 : (List Int))), (70, lstOf .frozen (a0.Elements : (List T_api_Element))), (71, .int .i64 ((a0.Elements.length : Nat) : Int)), (72, .int .i64 x100)], [(1, .cells (cellsOf a0))], [(168003, (((r83).map cellsOf).length, 1)), (25, (((x5 : (List Int)).map cellsOf).length, 0))], [(25, (1, (8, (x57 : (List Int)).map cellsOf)))]⟩) ?_ ?_
            · refine pwp_block ?_
              refine pwp_seq ?_
              refine r_reg ?_
              refine p_run 1 (by kernel_rfl) ?_
              obtain ⟨x125, h171, h170⟩ := o_bind h170
              refine p_ix h171 (by kernel_rfl) ?_
              refine e_end (by kernel_rfl) ?_
              refine q_next ?_
              refine pwp_seq ?_
              refine pwp_seq ?_
              refine r_reg ?_
              refine p_run 2 (by kernel_rfl) ?_
              obtain ⟨j126, h172, h170⟩ := o_bind h170
              refine p_xix (tk := 25) (k := 1) (N := ((x5 : (List Int)).map cellsOf).length) h172 (by kernel_rfl) ?_
              obtain ⟨x127, h173, h170⟩ := o_bind h170
              refine p_xld (L := (x57 : (List Int))) (N := ((x5 : (List Int)).map cellsOf).length) (j := j126) (y := x127) (v := .int .i64 x127) h173 false 1 0 (by kernel_rfl) (by kernel_rfl) ?_
              obtain ⟨b128, h174, h170⟩ := o_bind h170
              refine p_run 2 (by kernel_rfl) ?_
              refine e_seg 7 89 (.bool b128) ?_ ?_
              · rcases o_cond h174 with ⟨hb, h174⟩ | ⟨hb, h174⟩
                · refine p_settle 82 hb (by kernel_rfl) (by kernel_rfl) ?_
                  cases h174
                  exact f_end (by kernel_rfl) (by kernel_rfl)
                · refine p_settle 82 hb (by kernel_rfl) (by kernel_rfl) ?_
                  refine p_run 3 (by kernel_rfl) ?_
                  obtain ⟨r129, h175, h174⟩ := o_bind h174
                  refine p_call (d_layout_Element_ok _ _ r129 h175) (by kernel_rfl) (by kernel_rfl) ?_
                  cases h174
                  exact f_end (by kernel_rfl) (by kernel_rfl)
              · refine e_nil (by kernel_rfl) ?_
                refine q_next ?_
                rcases o_cond h170 with ⟨hb, h170⟩ | ⟨hb, h170⟩
                · refine r_cond_t hb (by kernel_rfl) ?_
                  refine pwp_seq ?_
                  refine r_reg ?_
                  refine e_end (by kernel_rfl) ?_
                  refine q_next ?_
                  refine pwp_ret ?_
                  refine q_seq_ret ?_
                  refine q_block_ret ?_
                  cases h170
                  refine q_jout_ret ?_
                  have h176 := o_outr h157
                  cases h176
                  refine q_lout_ret fun he => ?_
                  subst he
                  have h177 := o_outr h
                  refine q_block_ret ?_
                  refine q_seq_ret ?_
                  cases h177
                  exact q_ret (by kernel_rfl) (by kernel_rfl) (by kernel_rfl)
                · refine r_cond_f hb (by kernel_rfl) ?_
                  refine pwp_skip ?_
                  refine q_next ?_
                  refine pwp_seq ?_
                  refine r_reg ?_
                  refine e_end (by kernel_rfl) ?_
                  refine q_next ?_
                  rcases o_cond h170 with ⟨hb, h170⟩ | ⟨hb, h170⟩
                  · refine r_cond_t hb (by kernel_rfl) ?_
                    refine pwp_seq ?_
                    refine pwp_seq ?_
                    refine r_reg ?_
                    refine p_run 2 (by kernel_rfl) ?_
                    refine p_len (L := (r83 : (List Int))) (by kernel_rfl) ?_
                    obtain ⟨b130, h178, h170⟩ := o_bind h170
                    refine p_run 2 (by kernel_rfl) ?_
                    refine e_seg 7 104 (.bool b130) ?_ ?_
                    · rcases o_cond h178 with ⟨hb, h178⟩ | ⟨hb, h178⟩
                      · refine p_settle 97 hb (by kernel_rfl) (by kernel_rfl) ?_
                        cases h178
                        exact f_end (by kernel_rfl) (by kernel_rfl)
                      · refine p_settle 97 hb (by kernel_rfl) (by kernel_rfl) ?_
                        refine p_run 2 (by kernel_rfl) ?_
                        obtain ⟨x131, h179, h178⟩ := o_bind h178
                        refine p_ix h179 (by kernel_rfl) ?_
                        cases h178
                        exact f_end (by kernel_rfl) (by kernel_rfl)
                    · refine e_nil (by kernel_rfl) ?_
                      refine q_next ?_
                      rcases o_cond h170 with ⟨hb, h170⟩ | ⟨hb, h170⟩
                      · refine r_cond_t hb (by kernel_rfl) ?_
                        refine pwp_seq ?_
                        refine r_reg ?_
                        refine e_end (by kernel_rfl) ?_
                        refine q_next ?_
                        refine pwp_ret ?_
                        refine q_seq_ret ?_
                        refine q_block_ret ?_
                        cases h170
                        refine q_jout_ret ?_
                        have h180 := o_outr h157
                        cases h180
                        refine q_lout_ret fun he => ?_
                        subst he
                        have h181 := o_outr h
                        refine q_block_ret ?_
                        refine q_seq_ret ?_
                        cases h181
                        exact q_ret (by kernel_rfl) (by kernel_rfl) (by kernel_rfl)
                      · refine r_cond_f hb (by kernel_rfl) ?_
                        refine pwp_skip ?_
                        refine q_next ?_
                        refine r_reg ?_
                        refine e_end (by kernel_rfl) ?_
                        refine q_block ?_
                        cases h170
                        exact q_join (by kernel_rfl) (by kernel_rfl)
                  · refine r_cond_f hb (by kernel_rfl) ?_
                    refine pwp_skip ?_
                    refine q_block ?_
                    cases h170
                    exact q_join (by kernel_rfl) (by kernel_rfl)
            · rintro x124 rfl
              have h157 := o_outl h157
              refine r_reg ?_
              refine e_end (by kernel_rfl) ?_
              cases h157
              exact q_lback (by kernel_rfl)
          · refine r_cond_f hb (by kernel_rfl) ?_
            refine pwp_exit ?_
            refine q_seq_exit ?_
            cases h157
            exact q_lexit (by kernel_rfl) (by kernel_rfl)
        · rintro x116 s' rfl hs
          have h := o_outl h
          refine q_block_hit ?_
          refine q_next (pwp_wkr hs ?_)
          refine pwp_seq ?_
          refine r_reg ?_
          refine p_run 2 (by kernel_rfl) ?_
          refine p_len (L := (r83 : (List Int))) (by kernel_rfl) ?_
          obtain ⟨b132, h182, h⟩ := o_bind h
          refine p_run 2 (by kernel_rfl) ?_
          refine e_seg 6 118 (.bool b132) ?_ ?_
          · rcases o_cond h182 with ⟨hb, h182⟩ | ⟨hb, h182⟩
            · refine p_settle 112 hb (by kernel_rfl) (by kernel_rfl) ?_
              refine p_run 3 (by kernel_rfl) ?_
              refine p_len (L := (a0.Elements : (List T_api_Element))) (by kernel_rfl) ?_
              cases h182
              exact f_end (by kernel_rfl) (by kernel_rfl)
            · refine p_settle 112 hb (by kernel_rfl) (by kernel_rfl) ?_
              cases h182
              exact f_end (by kernel_rfl) (by kernel_rfl)
          · obtain ⟨b133, h183, h⟩ := o_bind h
            refine p_run 1 (by kernel_rfl) ?_
            refine e_seg 2 121 (.bool b133) ?_ ?_
            · rcases o_cond h183 with ⟨hb, h183⟩ | ⟨hb, h183⟩
              · refine p_settle 119 hb (by kernel_rfl) (by kernel_rfl) ?_
                obtain ⟨r134, h184, h183⟩ := o_bind h183
                refine p_call (d_law07_alive_ok  r134 h184) (by kernel_rfl) (by kernel_rfl) ?_
                cases h183
                exact f_end (by kernel_rfl) (by kernel_rfl)
              · refine p_settle 119 hb (by kernel_rfl) (by kernel_rfl) ?_
                cases h183
                exact f_end (by kernel_rfl) (by kernel_rfl)
            · refine e_end (by kernel_rfl) ?_
              refine q_next ?_
              refine pwp_ret ?_
              cases h
              exact q_ret (by kernel_rfl) (by kernel_rfl) (by kernel_rfl)

end PM
