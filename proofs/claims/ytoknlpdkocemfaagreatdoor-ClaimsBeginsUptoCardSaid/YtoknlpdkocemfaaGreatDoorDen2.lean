/-
  Plain functions for the program's functions, and the proofs that the program does them. Printed by den.py.
-/
import Derived.Test.YtoknlpdkocemfaaGreatDoorDen1
namespace PM
open Go Go.RowKit
attribute [local irreducible] pops pwp

/-! layout.checkNames -/
noncomputable def d_layout_checkNames_0 (a0 : T_api_Layout) : ((List ByteArray) × Int) → Option (((List ByteArray) × Int) ⊕ ((List ByteArray) ⊕ Int)) := fun (x4, x5) =>
  bif decide (x5 < ((a0.Elements.length : Nat) : Int)) then (
    (ixO a0.Elements x5).bind fun x9 =>
    (appO x4 [x9.Name]).bind fun x10 =>
    some (.inl (x10, w64 (x5 + 1)))
  ) else (
    some (.inr (.inl x4))
  )

noncomputable def d_layout_checkNames_1 (a0 : T_api_Layout) : ((List ByteArray) × Int) → Option (((List ByteArray) × Int) ⊕ ((List ByteArray) ⊕ Int)) := fun (x14, x15) =>
  bif decide (x15 < ((a0.Signals.length : Nat) : Int)) then (
    (ixO a0.Signals x15).bind fun x19 =>
    (appO x14 [x19.Name]).bind fun x20 =>
    some (.inl (x20, w64 (x15 + 1)))
  ) else (
    some (.inr (.inl x14))
  )

noncomputable def d_layout_checkNames_3 (x38 : (List ByteArray)) : Int → Option (Int ⊕ (Unit ⊕ (Int ⊕ (Unit ⊕ Int)))) := fun x41 =>
  bif decide (x41 < ((x38.length : Nat) : Int)) then (
    (ixO x38 x41).bind fun x44 =>
    (d_words_Name x44).bind fun r45 =>
    bif (!r45) then (
      some (.inr (.inr (.inr (.inr 3))))
    ) else (
      some (.inl (w64 (x41 + 1)))
    )
  ) else (
    some (.inr (.inl ()))
  )

noncomputable def d_layout_checkNames_2 (a0 : T_api_Layout) (x8 : (List ByteArray)) (x18 : (List ByteArray)) : Int → Option (Int ⊕ (Unit ⊕ Int)) := fun x29 =>
  bif decide (x29 < (([[a0.Name], a0.Sections, x8, x18].length : Nat) : Int)) then (
    (ixO [[a0.Name], a0.Sections, x8, x18] x29).bind fun x38 =>
    onInl (α := Unit) (β := (Int ⊕ (Unit ⊕ Int))) (loopO (d_layout_checkNames_3 x38) 0) fun _ =>
    some (.inl (w64 (x29 + 1)))
  ) else (
    some (.inr (.inl ()))
  )

noncomputable def d_layout_checkNames_5 (x59 : (List ByteArray)) : (Int × (List (ByteArray × Bool))) → Option ((Int × (List (ByteArray × Bool))) ⊕ (Unit ⊕ (Int ⊕ (Unit ⊕ Int)))) := fun (x61, x62) =>
  bif decide (x61 < ((x59.length : Nat) : Int)) then (
    (ixO x59 x61).bind fun x64 =>
    bif ((mget (x62 : (List (ByteArray × Bool))) x64).getD false) then (
      some (.inr (.inr (.inr (.inr 8))))
    ) else (
      some (.inl (w64 (x61 + 1), (mset x64 true x62)))
    )
  ) else (
    some (.inr (.inl ()))
  )

noncomputable def d_layout_checkNames_4 (a0 : T_api_Layout) (x8 : (List ByteArray)) (x18 : (List ByteArray)) : Int → Option (Int ⊕ (Unit ⊕ Int)) := fun x52 =>
  bif decide (x52 < (([[a0.Name], a0.Sections, x8, x18].length : Nat) : Int)) then (
    (ixO [[a0.Name], a0.Sections, x8, x18] x52).bind fun x59 =>
    onInl (α := Unit) (β := (Int ⊕ (Unit ⊕ Int))) (loopO (d_layout_checkNames_5 x59) (0, ([] : (List (ByteArray × Bool))))) fun _ =>
    some (.inl (w64 (x52 + 1)))
  ) else (
    some (.inr (.inl ()))
  )

noncomputable def d_layout_checkNames (a0 : T_api_Layout) : Option Int :=
  (mkO ByteArray ((a0.Elements.length : Nat) : Int)).bind fun x1 =>
  onInl (α := (List ByteArray)) (β := Int) (loopO (d_layout_checkNames_0 a0) (x1, 0)) fun x8 =>
  (mkO ByteArray ((a0.Signals.length : Nat) : Int)).bind fun x11 =>
  onInl (α := (List ByteArray)) (β := Int) (loopO (d_layout_checkNames_1 a0) (x11, 0)) fun x18 =>
  onInl (α := Unit) (β := Int) (loopO (d_layout_checkNames_2 a0 x8 x18) 0) fun _ =>
  onInl (α := Unit) (β := Int) (loopO (d_layout_checkNames_4 a0 x8 x18) 0) fun _ =>
  some 0
theorem d_layout_checkNames_ok (a0 : T_api_Layout) (r : Int) (h : d_layout_checkNames a0 = some r) : PCall Go.Proofs.Tryz.prog GlS 51 [Enc.pv a0] (Enc.pv r) := by
  unfold d_layout_checkNames at h
  refine pcall_of_pwp Go.Proofs.Tryz.func51 (by rfl) rfl Go.Proofs.Tryz.ntmps51 (by rfl) rfl ?_
  refine pwp_seq (r_reg ?_)
  refine zE ?_
  refine q_next (pwp_seq (r_reg ?_))
  refine zR 2 ?_
  refine p_len (L := (a0.Elements : (List T_api_Element))) (by kernel_rfl) ?_
  obtain ⟨x1, h1, h⟩ := o_bind h
  refine p_mks 22 h1 (by kernel_rfl) ?_
  refine zE ?_
  refine q_next (pwp_seq (pwp_seq (r_reg ?_)))
  refine zR 2 ?_
  refine p_len (L := (a0.Elements : (List T_api_Element))) (by kernel_rfl) ?_
  refine zE ?_
  refine q_next (pwp_block ?_)
  obtain ⟨o7, h7, h⟩ := o_inl h
  refine r_loop2 98 0 (fun (x4, x5) => ⟨[(1, .ref 1 0), (3, lstOf (.own 22) (x4 : (List ByteArray))), (24, lstOf .frozen (a0.Elements : (List T_api_Element))), (25, .int .i64 ((a0.Elements.length : Nat) : Int)), (26, .int .i64 x5)], [(1, .cells (cellsOf a0))], [(22, (((x4).map cellsOf).length, 1))], []⟩) (fun x8 => ⟨[(1, .ref 1 0), (3, lstOf (.own 22) (x8 : (List ByteArray)))], [(1, .cells (cellsOf a0))], [(22, (((x8).map cellsOf).length, 1))], []⟩) h7 (by kernel_rfl) (fun _ => by kernel_rfl) ?_ ?_
  · rintro ⟨x4, x5⟩ oh6 h6
    unfold d_layout_checkNames_0 at h6
    refine pwp_seq (r_reg ?_)
    refine zE ?_
    refine q_next (pwp_seq ?_)
    rcases o_cond h6 with ⟨hb, h6⟩ | ⟨hb, h6⟩
    · refine zT hb ?_
      refine pwp_skip (q_next (pwp_seq (pwp_block (pwp_seq (r_reg ?_)))))
      obtain ⟨x9, h8, h6⟩ := o_bind h6
      refine zI h8 ?_
      refine zE ?_
      refine q_next (r_reg ?_)
      refine zR 4 ?_
      obtain ⟨x10, h9, h6⟩ := o_bind h6
      refine p_app (tk := 22) h9 (by kernel_rfl) (by kernel_rfl) ?_
      refine zE ?_
      refine q_block (q_next (r_reg ?_))
      refine zE ?_
      cases h6
      exact zB
    refine zU hb ?_
    refine pwp_exit (q_seq_exit ?_)
    cases h6
    exact zX
  rintro x8 s' rfl hs
  have h := o_outl h
  refine q_block_hit ?_
  refine q_next (pwp_wkr hs ?_)
  refine pwp_seq (r_reg ?_)
  refine zR 2 ?_
  refine p_len (L := (a0.Signals : (List T_api_Signal))) (by kernel_rfl) ?_
  obtain ⟨x11, h10, h⟩ := o_bind h
  refine p_mks 39 h10 (by kernel_rfl) ?_
  refine zE ?_
  refine q_next (pwp_seq (pwp_seq (r_reg ?_)))
  refine zR 2 ?_
  refine p_len (L := (a0.Signals : (List T_api_Signal))) (by kernel_rfl) ?_
  refine zE ?_
  refine q_next (pwp_block ?_)
  obtain ⟨o16, h16, h⟩ := o_inl h
  refine r_loop2 98 2 (fun (x14, x15) => ⟨[(1, .ref 1 0), (3, lstOf (.own 22) (x8 : (List ByteArray))), (6, lstOf (.own 39) (x14 : (List ByteArray))), (41, lstOf .frozen (a0.Signals : (List T_api_Signal))), (42, .int .i64 ((a0.Signals.length : Nat) : Int)), (43, .int .i64 x15)], [(1, .cells (cellsOf a0))], [(22, (((x8).map cellsOf).length, 1)), (39, (((x14).map cellsOf).length, 1))], []⟩) (fun x18 => ⟨[(1, .ref 1 0), (3, lstOf (.own 22) (x8 : (List ByteArray))), (6, lstOf (.own 39) (x18 : (List ByteArray)))], [(1, .cells (cellsOf a0))], [(22, (((x8).map cellsOf).length, 1)), (39, (((x18).map cellsOf).length, 1))], []⟩) h16 (by kernel_rfl) (fun _ => by kernel_rfl) ?_ ?_
  · rintro ⟨x14, x15⟩ oh15 h15
    unfold d_layout_checkNames_1 at h15
    refine pwp_seq (r_reg ?_)
    refine zE ?_
    refine q_next (pwp_seq ?_)
    rcases o_cond h15 with ⟨hb, h15⟩ | ⟨hb, h15⟩
    · refine zT hb ?_
      refine pwp_skip (q_next (pwp_seq (pwp_block (pwp_seq (r_reg ?_)))))
      obtain ⟨x19, h17, h15⟩ := o_bind h15
      refine zI h17 ?_
      refine zE ?_
      refine q_next (r_reg ?_)
      refine zR 4 ?_
      obtain ⟨x20, h18, h15⟩ := o_bind h15
      refine p_app (tk := 39) h18 (by kernel_rfl) (by kernel_rfl) ?_
      refine zE ?_
      refine q_block (q_next (r_reg ?_))
      refine zE ?_
      cases h15
      exact zB
    refine zU hb ?_
    refine pwp_exit (q_seq_exit ?_)
    cases h15
    exact zX
  rintro x18 s' rfl hs
  have h := o_outl h
  refine q_block_hit ?_
  refine q_next (pwp_wkr hs ?_)
  refine pwp_seq (r_reg ?_)
  refine zE ?_
  refine q_next (pwp_seq (pwp_seq (r_reg ?_)))
  refine zR 1 ?_
  refine p_len (L := ([[a0.Name], a0.Sections, x8, x18] : (List (List ByteArray)))) (by kernel_rfl) ?_
  refine zE ?_
  refine q_next (pwp_block ?_)
  obtain ⟨o50, h50, h⟩ := o_inl h
  refine r_loop2 98 4 (fun x29 => ⟨[(9, lstOf .full ([[a0.Name], a0.Sections, x8, x18] : (List (List ByteArray)))), (61, lstOf .full ([[a0.Name], a0.Sections, x8, x18] : (List (List ByteArray)))), (62, .int .i64 (([[a0.Name], a0.Sections, x8, x18].length : Nat) : Int)), (63, .int .i64 x29)], [], [], []⟩) (fun (_ : Unit) => ⟨[(9, lstOf .full ([[a0.Name], a0.Sections, x8, x18] : (List (List ByteArray))))], [], [], []⟩) h50 (by kernel_rfl) (fun _ => by kernel_rfl) ?_ ?_
  · rintro x29 oh49 h49
    unfold d_layout_checkNames_2 at h49
    refine pwp_seq (r_reg ?_)
    refine zE ?_
    refine q_next (pwp_seq ?_)
    rcases o_cond h49 with ⟨hb, h49⟩ | ⟨hb, h49⟩
    · refine zT hb ?_
      refine pwp_skip (q_next (pwp_seq (pwp_block (pwp_seq (r_reg ?_)))))
      obtain ⟨x38, h51, h49⟩ := o_bind h49
      refine zI h51 ?_
      refine zE ?_
      refine q_next (pwp_seq (r_reg ?_))
      refine zR 1 ?_
      refine p_len (L := (x38 : (List ByteArray))) (by kernel_rfl) ?_
      refine zE ?_
      refine q_next (pwp_block ?_)
      obtain ⟨o61, h61, h49⟩ := o_inl h49
      refine r_loop2 98 6 (fun x41 => ⟨[(9, lstOf .full ([[a0.Name], a0.Sections, x8, x18] : (List (List ByteArray)))), (61, lstOf .full ([[a0.Name], a0.Sections, x8, x18] : (List (List ByteArray)))), (62, .int .i64 (([[a0.Name], a0.Sections, x8, x18].length : Nat) : Int)), (63, .int .i64 x29), (67, lstOf .frozen (x38 : (List ByteArray))), (68, .int .i64 ((x38.length : Nat) : Int)), (69, .int .i64 x41)], [], [], []⟩) (fun (_ : Unit) => ⟨[(9, lstOf .full ([[a0.Name], a0.Sections, x8, x18] : (List (List ByteArray)))), (61, lstOf .full ([[a0.Name], a0.Sections, x8, x18] : (List (List ByteArray)))), (62, .int .i64 (([[a0.Name], a0.Sections, x8, x18].length : Nat) : Int)), (63, .int .i64 x29)], [], [], []⟩) h61 (by kernel_rfl) (fun _ => by kernel_rfl) ?_ ?_
      · rintro x41 oh60 h60
        unfold d_layout_checkNames_3 at h60
        refine pwp_seq (r_reg ?_)
        refine zE ?_
        refine q_next (pwp_seq ?_)
        rcases o_cond h60 with ⟨hb, h60⟩ | ⟨hb, h60⟩
        · refine zT hb ?_
          refine pwp_skip (q_next (pwp_seq (pwp_block (pwp_seq (r_reg ?_)))))
          obtain ⟨x44, h62, h60⟩ := o_bind h60
          refine zI h62 ?_
          refine zE ?_
          refine q_next (pwp_seq (r_reg ?_))
          refine zR 1 ?_
          obtain ⟨r45, h63, h60⟩ := o_bind h60
          refine p_call (d_words_Name_ok _ r45 h63) (by kernel_rfl) (by kernel_rfl) ?_
          refine zE ?_
          refine q_next ?_
          rcases o_cond h60 with ⟨hb, h60⟩ | ⟨hb, h60⟩
          · refine zT hb ?_
            refine pwp_seq (r_reg ?_)
            refine zE ?_
            refine q_next (pwp_ret (q_block_ret (q_seq_ret ?_)))
            cases h60
            refine q_lout_ret fun he => ?_
            subst he
            have h64 := o_outr h49
            refine q_block_ret (q_block_ret (q_seq_ret ?_))
            cases h64
            refine q_lout_ret fun he => ?_
            subst he
            have h65 := o_outr h
            refine q_block_ret (q_seq_ret ?_)
            cases h65
            exact zQ
          refine zU hb ?_
          refine pwp_skip (q_block (q_next (r_reg ?_)))
          refine zE ?_
          cases h60
          exact zB
        refine zU hb ?_
        refine pwp_exit (q_seq_exit ?_)
        cases h60
        exact zX
      rintro _ s' rfl hs
      have h49 := o_outl h49
      refine q_block_hit (q_block ?_)
      refine q_next (pwp_wkr hs ?_)
      refine r_reg ?_
      refine zE ?_
      cases h49
      exact zB
    refine zU hb ?_
    refine pwp_exit (q_seq_exit ?_)
    cases h49
    exact zX
  rintro _ s' rfl hs
  have h := o_outl h
  refine q_block_hit ?_
  refine q_next (pwp_wkr hs ?_)
  refine pwp_seq (pwp_seq (r_reg ?_))
  refine zR 1 ?_
  refine p_len (L := ([[a0.Name], a0.Sections, x8, x18] : (List (List ByteArray)))) (by kernel_rfl) ?_
  refine zE ?_
  refine q_next (pwp_block ?_)
  obtain ⟨o91, h91, h⟩ := o_inl h
  refine r_loop2 98 8 (fun x52 => ⟨[(78, lstOf .full ([[a0.Name], a0.Sections, x8, x18] : (List (List ByteArray)))), (79, .int .i64 (([[a0.Name], a0.Sections, x8, x18].length : Nat) : Int)), (80, .int .i64 x52)], [], [], []⟩) (fun (_ : Unit) => ⟨[], [], [], []⟩) h91 (by kernel_rfl) (fun _ => by kernel_rfl) ?_ ?_
  · rintro x52 oh90 h90
    unfold d_layout_checkNames_4 at h90
    refine pwp_seq (r_reg ?_)
    refine zE ?_
    refine q_next (pwp_seq ?_)
    rcases o_cond h90 with ⟨hb, h90⟩ | ⟨hb, h90⟩
    · refine zT hb ?_
      refine pwp_skip (q_next (pwp_seq (pwp_block (pwp_seq (r_reg ?_)))))
      obtain ⟨x59, h92, h90⟩ := o_bind h90
      refine zI h92 ?_
      refine zE ?_
      refine q_next (pwp_seq (r_reg ?_))
      refine zE ?_
      refine q_next (pwp_seq (r_reg ?_))
      refine zR 1 ?_
      refine p_len (L := (x59 : (List ByteArray))) (by kernel_rfl) ?_
      refine zE ?_
      refine q_next (pwp_block ?_)
      obtain ⟨o100, h100, h90⟩ := o_inl h90
      refine r_loop2 98 10 (fun (x61, x62) => ⟨[(16, .mp 84), (78, lstOf .full ([[a0.Name], a0.Sections, x8, x18] : (List (List ByteArray)))), (79, .int .i64 (([[a0.Name], a0.Sections, x8, x18].length : Nat) : Int)), (80, .int .i64 x52), (85, lstOf .frozen (x59 : (List ByteArray))), (86, .int .i64 ((x59.length : Nat) : Int)), (87, .int .i64 x61)], [(84, .map (mpOf (x62 : (List (ByteArray × Bool)))))], [], []⟩) (fun (_ : Unit) => ⟨[(78, lstOf .full ([[a0.Name], a0.Sections, x8, x18] : (List (List ByteArray)))), (79, .int .i64 (([[a0.Name], a0.Sections, x8, x18].length : Nat) : Int)), (80, .int .i64 x52)], [], [], []⟩) h100 (by kernel_rfl) (fun _ => by kernel_rfl) ?_ ?_
      · rintro ⟨x61, x62⟩ oh99 h99
        unfold d_layout_checkNames_5 at h99
        refine pwp_seq (r_reg ?_)
        refine zE ?_
        refine q_next (pwp_seq ?_)
        rcases o_cond h99 with ⟨hb, h99⟩ | ⟨hb, h99⟩
        · refine zT hb ?_
          refine pwp_skip (q_next (pwp_seq (pwp_block (pwp_seq (r_reg ?_)))))
          obtain ⟨x64, h101, h99⟩ := o_bind h99
          refine zI h101 ?_
          refine zE ?_
          refine q_next (pwp_seq (pwp_seq (r_reg ?_)))
          refine zR 2 ?_
          refine p_lookup (m := (x62 : (List (ByteArray × Bool)))) (k := x64) false 84 (by kernel_rfl) (by kernel_rfl) ?_
          refine zN ?_
          refine q_next ?_
          rcases o_cond h99 with ⟨hb, h99⟩ | ⟨hb, h99⟩
          · refine zT hb ?_
            refine pwp_seq (r_reg ?_)
            refine zE ?_
            refine q_next (pwp_ret (q_seq_ret (q_block_ret (q_seq_ret ?_))))
            cases h99
            refine q_lout_ret fun he => ?_
            subst he
            have h102 := o_outr h90
            refine q_block_ret (q_block_ret (q_seq_ret ?_))
            cases h102
            refine q_lout_ret fun he => ?_
            subst he
            have h103 := o_outr h
            refine q_block_ret (q_seq_ret ?_)
            cases h103
            exact zQ
          refine zU hb ?_
          refine pwp_skip (q_next (r_reg ?_))
          refine zR 2 ?_
          refine p_mset (m := (x62 : (List (ByteArray × Bool)))) (k := x64) (v := true) 84 (by kernel_rfl) (by kernel_rfl) (by kernel_rfl) ?_
          refine zN ?_
          refine q_block (q_next (r_reg ?_))
          refine zE ?_
          cases h99
          exact zB
        refine zU hb ?_
        refine pwp_exit (q_seq_exit ?_)
        cases h99
        exact zX
      rintro _ s' rfl hs
      have h90 := o_outl h90
      refine q_block_hit (q_block ?_)
      refine q_next (pwp_wkr hs ?_)
      refine r_reg ?_
      refine zE ?_
      cases h90
      exact zB
    refine zU hb ?_
    refine pwp_exit (q_seq_exit ?_)
    cases h90
    exact zX
  rintro _ s' rfl hs
  have h := o_outl h
  refine q_block_hit ?_
  refine q_next (pwp_wkr hs ?_)
  refine pwp_seq (r_reg ?_)
  refine zE ?_
  refine q_next (pwp_ret ?_)
  cases h
  exact zQ

/-! layout.elementsFit -/
noncomputable def d_layout_elementsFit_0 (a0 : T_api_Layout) : Int → Option (Int ⊕ (Unit ⊕ Bool)) := fun x13 =>
  bif decide (x13 < ((a0.Elements.length : Nat) : Int)) then (
    (ixO a0.Elements x13).bind fun x26 =>
    (d_layout_within x26.Kind 1 3).bind fun r27 =>
    ((bif (!r27) then some true else (
      (d_layout_within x26.Length 500 1000000).bind fun r29 =>
      some (!r29)
    )) : Option Bool).bind fun b28 =>
    ((bif b28 then some true else (
      (d_layout_within x26.Grade (-50) 50).bind fun r31 =>
      some (!r31)
    )) : Option Bool).bind fun b30 =>
    ((bif b30 then some true else (
      (d_layout_within x26.Speed 100 10000).bind fun r33 =>
      some (!r33)
    )) : Option Bool).bind fun b32 =>
    ((bif b32 then some true else (
      (d_layout_within x26.Section 0 (w64 (((a0.Sections.length : Nat) : Int) - 1))).bind fun r35 =>
      some (!r35)
    )) : Option Bool).bind fun b34 =>
    bif b34 then (
      some (.inr (.inr false))
    ) else (
      ((bif decide (x26.Kind = 2) then (
        (d_layout_within x26.Slow 100 x26.Speed).bind fun r37 =>
        some (!r37)
      ) else some false) : Option Bool).bind fun b36 =>
      bif (b36 || ((!(decide (x26.Kind = 2))) && (!(decide (x26.Slow = 0))))) then (
        some (.inr (.inr false))
      ) else (
        some (.inl (w64 (x13 + 1)))
      )
    )
  ) else (
    some (.inr (.inl ()))
  )

noncomputable def d_layout_elementsFit (a0 : T_api_Layout) : Option Bool :=
  onInl (α := Unit) (β := Bool) (loopO (d_layout_elementsFit_0 a0) 0) fun _ =>
  some true
theorem d_layout_elementsFit_ok (a0 : T_api_Layout) (r : Bool) (h : d_layout_elementsFit a0 = some r) : PCall Go.Proofs.Tryz.prog GlS 52 [Enc.pv a0] (Enc.pv r) := by
  unfold d_layout_elementsFit at h
  refine pcall_of_pwp Go.Proofs.Tryz.func52 (by rfl) rfl Go.Proofs.Tryz.ntmps52 (by rfl) rfl ?_
  refine pwp_seq (r_reg ?_)
  refine zE ?_
  refine q_next (pwp_seq (pwp_seq (r_reg ?_)))
  refine zR 2 ?_
  refine p_len (L := (a0.Elements : (List T_api_Element))) (by kernel_rfl) ?_
  refine zE ?_
  refine q_next (pwp_block ?_)
  obtain ⟨o30, h30, h⟩ := o_inl h
  refine r_loop2 66 0 (fun x13 => ⟨[(1, .ref 1 0), (6, lstOf .frozen (a0.Elements : (List T_api_Element))), (7, .int .i64 ((a0.Elements.length : Nat) : Int)), (8, .int .i64 x13)], [(1, .cells (cellsOf a0))], [], []⟩) (fun (_ : Unit) => ⟨[], [], [], []⟩) h30 (by kernel_rfl) (fun _ => by kernel_rfl) ?_ ?_
  · rintro x13 oh29 h29
    unfold d_layout_elementsFit_0 at h29
    refine pwp_seq (r_reg ?_)
    refine zE ?_
    refine q_next (pwp_seq ?_)
    rcases o_cond h29 with ⟨hb, h29⟩ | ⟨hb, h29⟩
    · refine zT hb ?_
      refine pwp_skip (q_next (pwp_seq (pwp_block (pwp_seq (r_reg ?_)))))
      obtain ⟨x26, h31, h29⟩ := o_bind h29
      refine zI h31 ?_
      refine zE ?_
      refine q_next (pwp_seq (pwp_seq (r_reg ?_)))
      refine zR 2 ?_
      obtain ⟨r27, h32, h29⟩ := o_bind h29
      refine p_call (d_layout_within_ok _ _ _ r27 h32) (by kernel_rfl) (by kernel_rfl) ?_
      obtain ⟨b28, h33, h29⟩ := o_bind h29
      refine zR 2 ?_
      refine e_seg 5 21 (.bool b28) ?_ ?_
      · rcases o_cond h33 with ⟨hb, h33⟩ | ⟨hb, h33⟩
        · refine zS 16 hb ?_
          cases h33
          exact zF
        refine zS 16 hb ?_
        refine zR 2 ?_
        obtain ⟨r29, h34, h33⟩ := o_bind h33
        refine p_call (d_layout_within_ok _ _ _ r29 h34) (by kernel_rfl) (by kernel_rfl) ?_
        cases h33
        exact zF
      obtain ⟨b30, h35, h29⟩ := o_bind h29
      refine zR 1 ?_
      refine e_seg 5 27 (.bool b30) ?_ ?_
      · rcases o_cond h35 with ⟨hb, h35⟩ | ⟨hb, h35⟩
        · refine zS 22 hb ?_
          cases h35
          exact zF
        refine zS 22 hb ?_
        refine zR 2 ?_
        obtain ⟨r31, h36, h35⟩ := o_bind h35
        refine p_call (d_layout_within_ok _ _ _ r31 h36) (by kernel_rfl) (by kernel_rfl) ?_
        cases h35
        exact zF
      obtain ⟨b32, h37, h29⟩ := o_bind h29
      refine zR 1 ?_
      refine e_seg 5 33 (.bool b32) ?_ ?_
      · rcases o_cond h37 with ⟨hb, h37⟩ | ⟨hb, h37⟩
        · refine zS 28 hb ?_
          cases h37
          exact zF
        refine zS 28 hb ?_
        refine zR 2 ?_
        obtain ⟨r33, h38, h37⟩ := o_bind h37
        refine p_call (d_layout_within_ok _ _ _ r33 h38) (by kernel_rfl) (by kernel_rfl) ?_
        cases h37
        exact zF
      obtain ⟨b34, h39, h29⟩ := o_bind h29
      refine zR 1 ?_
      refine e_seg 9 43 (.bool b34) ?_ ?_
      · rcases o_cond h39 with ⟨hb, h39⟩ | ⟨hb, h39⟩
        · refine zS 34 hb ?_
          cases h39
          exact zF
        refine zS 34 hb ?_
        refine zR 4 ?_
        refine p_len (L := (a0.Sections : (List ByteArray))) (by kernel_rfl) ?_
        refine zR 1 ?_
        obtain ⟨r35, h40, h39⟩ := o_bind h39
        refine p_call (d_layout_within_ok _ _ _ r35 h40) (by kernel_rfl) (by kernel_rfl) ?_
        cases h39
        exact zF
      refine zN ?_
      refine q_next ?_
      rcases o_cond h29 with ⟨hb, h29⟩ | ⟨hb, h29⟩
      · refine zT hb ?_
        refine pwp_seq (r_reg ?_)
        refine zE ?_
        refine q_next (pwp_ret (q_seq_ret (q_block_ret (q_seq_ret ?_))))
        cases h29
        refine q_lout_ret fun he => ?_
        subst he
        have h41 := o_outr h
        refine q_block_ret (q_seq_ret ?_)
        cases h41
        exact zQ
      refine zU hb ?_
      refine pwp_skip (q_next (pwp_seq (r_reg ?_)))
      obtain ⟨b36, h42, h29⟩ := o_bind h29
      refine zR 4 ?_
      refine e_seg 7 54 (.bool b36) ?_ ?_
      · rcases o_cond h42 with ⟨hb, h42⟩ | ⟨hb, h42⟩
        · refine zS 47 hb ?_
          refine zR 4 ?_
          obtain ⟨r37, h43, h42⟩ := o_bind h42
          refine p_call (d_layout_within_ok _ _ _ r37 h43) (by kernel_rfl) (by kernel_rfl) ?_
          cases h42
          exact zF
        refine zS 47 hb ?_
        cases h42
        exact zF
      refine zR 1 ?_
      refine e_segb 9 64 (b36 || ((!(decide (x26.Kind = 2))) && (!(decide (x26.Slow = 0))))) (fun x hx => ?_) ?_
      · rcases b_or hx with ⟨hb, hx⟩ | ⟨hb, hx⟩
        · refine zS 55 hb ?_
          subst hx
          exact zF
        refine zS 55 hb ?_
        refine zR 4 ?_
        refine f_segb 4 63 ((!(decide (x26.Kind = 2))) && (!(decide (x26.Slow = 0)))) (fun x hx => ?_) ?_
        · rcases b_and hx with ⟨hb, hx⟩ | ⟨hb, hx⟩
          · refine zS 59 hb ?_
            subst hx
            exact zF
          refine zS 59 hb ?_
          subst hx
          exact zF
        subst hx
        exact zF
      refine zN ?_
      refine q_next ?_
      rcases o_cond h29 with ⟨hb, h29⟩ | ⟨hb, h29⟩
      · refine zT hb ?_
        refine pwp_seq (r_reg ?_)
        refine zE ?_
        refine q_next (pwp_ret (q_block_ret (q_seq_ret ?_)))
        cases h29
        refine q_lout_ret fun he => ?_
        subst he
        have h44 := o_outr h
        refine q_block_ret (q_seq_ret ?_)
        cases h44
        exact zQ
      refine zU hb ?_
      refine pwp_skip (q_block (q_next (r_reg ?_)))
      refine zE ?_
      cases h29
      exact zB
    refine zU hb ?_
    refine pwp_exit (q_seq_exit ?_)
    cases h29
    exact zX
  rintro _ s' rfl hs
  have h := o_outl h
  refine q_block_hit ?_
  refine q_next (pwp_wkr hs ?_)
  refine pwp_seq (r_reg ?_)
  refine zE ?_
  refine q_next (pwp_ret ?_)
  cases h
  exact zQ

/-! layout.Members -/
noncomputable def d_layout_Members_0 (a0 : T_api_Layout) (a1 : Int) : (Int × (List Int)) → Option ((Int × (List Int)) ⊕ ((List Int) ⊕ (List Int))) := fun (x13, x14) =>
  bif decide (x13 < ((a0.Elements.length : Nat) : Int)) then (
    onInl (α := (List Int)) (β := ((Int × (List Int)) ⊕ ((List Int) ⊕ (List Int)))) (
      (ixO a0.Elements x13).bind fun x24 =>
      bif decide (x24.Section = a1) then (
        (appO x14 [x13]).bind fun x25 =>
        some (.inl x25)
      ) else (
        some (.inl x14)
      )
    ) fun x23 =>
    some (.inl (w64 (x13 + 1), x23))
  ) else (
    some (.inr (.inl x14))
  )

noncomputable def d_layout_Members (a0 : T_api_Layout) (a1 : Int) : Option (List Int) :=
  ((bif decide (a1 < 0) then some true else (
    some (decide (((a0.Sections.length : Nat) : Int) ≤ a1))
  )) : Option Bool).bind fun b1 =>
  bif b1 then (
    some ([] : (List Int))
  ) else (
    onInl (α := (List Int)) (β := (List Int)) (loopO (d_layout_Members_0 a0 a1) (0, ([] : (List Int)))) fun x20 =>
    some x20
  )
theorem d_layout_Members_ok (a0 : T_api_Layout) (a1 : Int) (r : (List Int)) (h : d_layout_Members a0 a1 = some r) : PCall Go.Proofs.Tryz.prog GlS 93 [Enc.pv a0, Enc.pv a1] (lstOf (.own 100005) r) := by
  unfold d_layout_Members at h
  refine pcall_of_pwp Go.Proofs.Tryz.func93 (by rfl) rfl Go.Proofs.Tryz.ntmps93 (by rfl) rfl ?_
  refine pwp_seq (r_reg ?_)
  refine zE ?_
  refine q_next (pwp_seq (pwp_seq (r_reg ?_)))
  obtain ⟨b1, h1, h⟩ := o_bind h
  refine zR 3 ?_
  refine e_seg 6 16 (.bool b1) ?_ ?_
  · rcases o_cond h1 with ⟨hb, h1⟩ | ⟨hb, h1⟩
    · refine zS 10 hb ?_
      cases h1
      exact zF
    refine zS 10 hb ?_
    refine zR 3 ?_
    refine p_len (L := (a0.Sections : (List ByteArray))) (by kernel_rfl) ?_
    cases h1
    exact zF
  refine zN ?_
  refine q_next ?_
  rcases o_cond h with ⟨hb, h⟩ | ⟨hb, h⟩
  · refine zT hb ?_
    refine pwp_seq (r_reg ?_)
    refine zE ?_
    refine q_next ?_
    refine g_nil 4 100005 1 8 (by kernel_rfl) (by kernel_rfl) ?_
    refine pwp_ret (q_seq_ret ?_)
    cases h
    exact zQ
  refine zU hb ?_
  refine pwp_skip (q_next (pwp_seq (r_reg ?_)))
  refine zE ?_
  refine q_next (pwp_seq (pwp_seq (r_reg ?_)))
  refine zR 2 ?_
  refine p_len (L := (a0.Elements : (List T_api_Element))) (by kernel_rfl) ?_
  refine zE ?_
  refine q_next (pwp_block ?_)
  refine g_nil 5 100005 1 8 (by kernel_rfl) (by kernel_rfl) ?_
  obtain ⟨o18, h18, h⟩ := o_inl h
  refine r_loop2 35 0 (fun (x13, x14) => ⟨[(1, .int .i64 a1), (5, lstOf (.own 100005) (x14 : (List Int))), (18, lstOf .frozen (a0.Elements : (List T_api_Element))), (19, .int .i64 ((a0.Elements.length : Nat) : Int)), (20, .int .i64 x13)], [], [(100005, (((x14).map cellsOf).length, 1))], []⟩) (fun x20 => ⟨[(5, lstOf (.own 100005) (x20 : (List Int)))], [], [(100005, (((x20).map cellsOf).length, 1))], []⟩) h18 (by kernel_rfl) (fun _ => by kernel_rfl) ?_ ?_
  · rintro ⟨x13, x14⟩ oh17 h17
    unfold d_layout_Members_0 at h17
    refine pwp_seq (r_reg ?_)
    refine zE ?_
    refine q_next (pwp_seq ?_)
    rcases o_cond h17 with ⟨hb, h17⟩ | ⟨hb, h17⟩
    · refine zT hb ?_
      refine pwp_skip (q_next ?_)
      obtain ⟨o21, h21, h17⟩ := o_inl h17
      refine r_join (o := o21) 35 (fun x23 => ⟨[(1, .int .i64 a1), (5, lstOf (.own 100005) (x23 : (List Int))), (18, lstOf .frozen (a0.Elements : (List T_api_Element))), (19, .int .i64 ((a0.Elements.length : Nat) : Int)), (20, .int .i64 x13)], [], [(100005, (((x23).map cellsOf).length, 1))], []⟩) ?_ ?_
      · refine pwp_block (pwp_seq (r_reg ?_))
        refine zR 1 ?_
        obtain ⟨x24, h22, h21⟩ := o_bind h21
        refine zI h22 ?_
        refine zE ?_
        refine q_next (pwp_seq (r_reg ?_))
        refine zE ?_
        refine q_next ?_
        rcases o_cond h21 with ⟨hb, h21⟩ | ⟨hb, h21⟩
        · refine zT hb ?_
          refine r_reg ?_
          refine zR 3 ?_
          obtain ⟨x25, h23, h21⟩ := o_bind h21
          refine p_app (tk := 100005) h23 (by kernel_rfl) (by kernel_rfl) ?_
          refine zE ?_
          refine q_block ?_
          cases h21
          exact zJ
        refine zU hb ?_
        refine pwp_skip (q_block ?_)
        cases h21
        exact zJ
      rintro x23 rfl
      have h17 := o_outl h17
      refine r_reg ?_
      refine zE ?_
      cases h17
      exact zB
    refine zU hb ?_
    refine pwp_exit (q_seq_exit ?_)
    cases h17
    exact zX
  rintro x20 s' rfl hs
  have h := o_outl h
  refine q_block_hit ?_
  refine q_next (pwp_wkr hs ?_)
  refine pwp_seq (r_reg ?_)
  refine zE ?_
  refine q_next (pwp_ret ?_)
  cases h
  exact zQ
theorem d_layout_Members_fz (a0 : T_api_Layout) (a1 : Int) (r : (List Int)) (h : d_layout_Members a0 a1 = some r) : PCall Go.Proofs.Tryz.prog GlS 93 [Enc.pv a0, Enc.pv a1] (Enc.pv r) :=
  (d_layout_Members_ok a0 a1 r h).freeze (by kernel_rfl) (by kernel_rfl) (by kernel_rfl)

/-! layout.sectionsUsed -/
noncomputable def d_layout_sectionsUsed_0 (a0 : T_api_Layout) : Int → Option (Int ⊕ (Unit ⊕ Bool)) := fun x2 =>
  bif decide (x2 < ((a0.Sections.length : Nat) : Int)) then (
    (d_layout_Members a0 x2).bind fun r4 =>
    bif decide (((r4.length : Nat) : Int) = 0) then (
      some (.inr (.inr false))
    ) else (
      some (.inl (w64 (x2 + 1)))
    )
  ) else (
    some (.inr (.inl ()))
  )

noncomputable def d_layout_sectionsUsed (a0 : T_api_Layout) : Option Bool :=
  onInl (α := Unit) (β := Bool) (loopO (d_layout_sectionsUsed_0 a0) 0) fun _ =>
  some true
theorem d_layout_sectionsUsed_ok (a0 : T_api_Layout) (r : Bool) (h : d_layout_sectionsUsed a0 = some r) : PCall Go.Proofs.Tryz.prog GlS 53 [Enc.pv a0] (Enc.pv r) := by
  unfold d_layout_sectionsUsed at h
  refine pcall_of_pwp Go.Proofs.Tryz.func53 (by rfl) rfl Go.Proofs.Tryz.ntmps53 (by rfl) rfl ?_
  refine pwp_seq (r_reg ?_)
  refine zE ?_
  refine q_next (pwp_seq (pwp_seq (r_reg ?_)))
  refine zR 2 ?_
  refine p_len (L := (a0.Sections : (List ByteArray))) (by kernel_rfl) ?_
  refine zE ?_
  refine q_next (pwp_block ?_)
  obtain ⟨o6, h6, h⟩ := o_inl h
  refine r_loop2 16 0 (fun x2 => ⟨[(1, .ref 1 0), (6, .int .i64 ((a0.Sections.length : Nat) : Int)), (7, .int .i64 x2)], [(1, .cells (cellsOf a0))], [], []⟩) (fun (_ : Unit) => ⟨[], [], [], []⟩) h6 (by kernel_rfl) (fun _ => by kernel_rfl) ?_ ?_
  · rintro x2 oh5 h5
    unfold d_layout_sectionsUsed_0 at h5
    refine pwp_seq (r_reg ?_)
    refine zE ?_
    refine q_next (pwp_seq ?_)
    rcases o_cond h5 with ⟨hb, h5⟩ | ⟨hb, h5⟩
    · refine zT hb ?_
      refine pwp_skip (q_next (pwp_seq (pwp_block (pwp_seq (r_reg ?_)))))
      refine zE ?_
      refine q_next (pwp_seq (r_reg ?_))
      refine zR 2 ?_
      obtain ⟨r4, h7, h5⟩ := o_bind h5
      refine p_call (d_layout_Members_ok _ _ r4 h7) (by kernel_rfl) (by kernel_rfl) ?_
      refine p_len (L := (r4 : (List Int))) (by kernel_rfl) ?_
      refine zE ?_
      refine q_next ?_
      rcases o_cond h5 with ⟨hb, h5⟩ | ⟨hb, h5⟩
      · refine zT hb ?_
        refine pwp_seq (r_reg ?_)
        refine zE ?_
        refine q_next (pwp_ret (q_block_ret (q_seq_ret ?_)))
        cases h5
        refine q_lout_ret fun he => ?_
        subst he
        have h8 := o_outr h
        refine q_block_ret (q_seq_ret ?_)
        cases h8
        exact zQ
      refine zU hb ?_
      refine pwp_skip (q_block (q_next (r_reg ?_)))
      refine zE ?_
      cases h5
      exact zB
    refine zU hb ?_
    refine pwp_exit (q_seq_exit ?_)
    cases h5
    exact zX
  rintro _ s' rfl hs
  have h := o_outl h
  refine q_block_hit ?_
  refine q_next (pwp_wkr hs ?_)
  refine pwp_seq (r_reg ?_)
  refine zE ?_
  refine q_next (pwp_ret ?_)
  cases h
  exact zQ

/-! rail.Sides -/
noncomputable def d_rail_Sides (a0 : Int) : Option Int :=
  bif ((decide (a0 < 0)) || (decide (4 ≤ a0))) then (
    some 0
  ) else (
    (ixO tab_rail_sides a0).bind fun x1 =>
    some x1
  )
theorem d_rail_Sides_ok (a0 : Int) (r : Int) (h : d_rail_Sides a0 = some r) : PCall Go.Proofs.Tryz.prog GlS 121 [Enc.pv a0] (Enc.pv r) := by
  unfold d_rail_Sides at h
  refine pcall_of_pwp Go.Proofs.Tryz.func121 (by rfl) rfl Go.Proofs.Tryz.ntmps121 (by rfl) rfl ?_
  refine pwp_seq (r_reg ?_)
  refine zE ?_
  refine q_next (pwp_seq (pwp_seq (r_reg ?_)))
  refine zR 3 ?_
  refine e_segb 3 8 ((decide (a0 < 0)) || (decide (4 ≤ a0))) (fun x hx => ?_) ?_
  · rcases b_or hx with ⟨hb, hx⟩ | ⟨hb, hx⟩
    · refine zS 5 hb ?_
      subst hx
      exact zF
    refine zS 5 hb ?_
    subst hx
    exact zF
  refine zN ?_
  refine q_next ?_
  rcases o_cond h with ⟨hb, h⟩ | ⟨hb, h⟩
  · refine zT hb ?_
    refine pwp_seq (r_reg ?_)
    refine zE ?_
    refine q_next (pwp_ret (q_seq_ret ?_))
    cases h
    exact zQ
  refine zU hb ?_
  refine pwp_skip (q_next (pwp_seq (r_reg ?_)))
  refine zR 1 ?_
  obtain ⟨x1, h1, h⟩ := o_bind h
  refine p_gix h1 0 4 1 (by kernel_rfl) (by kernel_rfl) ?_
  refine p_gload (tab := tab_rail_sides) h1 false 1 (by kernel_rfl) (by kernel_rfl) (by kernel_rfl) ?_
  refine zE ?_
  refine q_next (pwp_ret ?_)
  cases h
  exact zQ

/-! layout.exists -/
noncomputable def d_layout_exists (a0 : T_api_Layout) (a1 : T_api_End) : Option Bool :=
  (d_layout_within a1.El 0 (w64 (((a0.Elements.length : Nat) : Int) - 1))).bind fun r1 =>
  ((bif r1 then (
    (ixO a0.Elements a1.El).bind fun x3 =>
    (d_rail_Sides x3.Kind).bind fun r4 =>
    (d_layout_within a1.Side 0 (w64 (r4 - 1))).bind fun r5 =>
    some r5
  ) else some false) : Option Bool).bind fun b2 =>
  some b2
theorem d_layout_exists_ok (a0 : T_api_Layout) (a1 : T_api_End) (r : Bool) (h : d_layout_exists a0 a1 = some r) : PCall Go.Proofs.Tryz.prog GlS 94 [Enc.pv a0, Enc.pv a1] (Enc.pv r) := by
  unfold d_layout_exists at h
  refine pcall_of_pwp Go.Proofs.Tryz.func94 (by rfl) rfl Go.Proofs.Tryz.ntmps94 (by rfl) rfl ?_
  refine pwp_seq (r_reg ?_)
  refine zE ?_
  refine q_next (pwp_seq ?_)
  refine r_regd (by kernel_rfl) (by kernel_rfl) ?_
  refine zR 4 ?_
  refine p_len (L := (a0.Elements : (List T_api_Element))) (by kernel_rfl) ?_
  refine zR 1 ?_
  obtain ⟨r1, h1, h⟩ := o_bind h
  refine p_call (d_layout_within_ok _ _ _ r1 h1) (by kernel_rfl) (by kernel_rfl) ?_
  obtain ⟨b2, h2, h⟩ := o_bind h
  refine zR 1 ?_
  refine e_seg 13 25 (.bool b2) ?_ ?_
  · rcases o_cond h2 with ⟨hb, h2⟩ | ⟨hb, h2⟩
    · refine zS 12 hb ?_
      refine zR 6 ?_
      obtain ⟨x3, h3, h2⟩ := o_bind h2
      refine zI h3 ?_
      refine zR 2 ?_
      obtain ⟨r4, h4, h2⟩ := o_bind h2
      refine p_call (d_rail_Sides_ok _ r4 h4) (by kernel_rfl) (by kernel_rfl) ?_
      refine zR 1 ?_
      obtain ⟨r5, h5, h2⟩ := o_bind h2
      refine p_call (d_layout_within_ok _ _ _ r5 h5) (by kernel_rfl) (by kernel_rfl) ?_
      cases h2
      exact zF
    refine zS 12 hb ?_
    cases h2
    exact zF
  refine zE ?_
  refine q_next (pwp_ret ?_)
  cases h
  exact zQ

/-! layout.joinEnds -/
noncomputable def d_layout_joinEnds_0 (a0 : T_api_Layout) : Int → Option (Int ⊕ (Unit ⊕ ((List (T_api_End × T_api_End)) × Int))) := fun x5 =>
  bif decide (x5 < ((a0.Joints.length : Nat) : Int)) then (
    (ixO a0.Joints x5).bind fun x10 =>
    (d_layout_exists a0 x10.A).bind fun r11 =>
    ((bif (!r11) then some true else (
      (d_layout_exists a0 x10.B).bind fun r13 =>
      some (!r13)
    )) : Option Bool).bind fun b12 =>
    bif (b12 || (eq_T_api_End x10.A x10.B)) then (
      some (.inr (.inr (([] : (List (T_api_End × T_api_End))), 1)))
    ) else (
      some (.inl (w64 (x5 + 1)))
    )
  ) else (
    some (.inr (.inl ()))
  )

noncomputable def d_layout_joinEnds_1 (a0 : T_api_Layout) : (Int × (List (T_api_End × T_api_End))) → Option ((Int × (List (T_api_End × T_api_End))) ⊕ ((List (T_api_End × T_api_End)) ⊕ ((List (T_api_End × T_api_End)) × Int))) := fun (x15, x16) =>
  bif decide (x15 < ((a0.Joints.length : Nat) : Int)) then (
    (ixO a0.Joints x15).bind fun x19 =>
    bif (((mget (x16 : (List (T_api_End × T_api_End))) x19.A).isSome) || ((mget (x16 : (List (T_api_End × T_api_End))) x19.B).isSome)) then (
      some (.inr (.inr (([] : (List (T_api_End × T_api_End))), 8)))
    ) else (
      some (.inl (w64 (x15 + 1), (mset x19.B x19.A (mset x19.A x19.B x16))))
    )
  ) else (
    some (.inr (.inl x16))
  )

noncomputable def d_layout_joinEnds (a0 : T_api_Layout) : Option ((List (T_api_End × T_api_End)) × Int) :=
  onInl (α := Unit) (β := ((List (T_api_End × T_api_End)) × Int)) (loopO (d_layout_joinEnds_0 a0) 0) fun _ =>
  onInl (α := (List (T_api_End × T_api_End))) (β := ((List (T_api_End × T_api_End)) × Int)) (loopO (d_layout_joinEnds_1 a0) (0, ([] : (List (T_api_End × T_api_End))))) fun x18 =>
  some (x18, 0)
theorem d_layout_joinEnds_ok (a0 : T_api_Layout) (r : ((List (T_api_End × T_api_End)) × Int)) (h : d_layout_joinEnds a0 = some r) : PCall Go.Proofs.Tryz.prog GlS 54 [Enc.pv a0] (.tup [fmOf (r.1 : (List (T_api_End × T_api_End))), Enc.pv r.2]) := by
  unfold d_layout_joinEnds at h
  refine pcall_of_pwp Go.Proofs.Tryz.func54 (by rfl) rfl Go.Proofs.Tryz.ntmps54 (by rfl) rfl ?_
  refine pwp_seq (r_reg ?_)
  refine zE ?_
  refine q_next (pwp_seq (pwp_seq (r_reg ?_)))
  refine zR 2 ?_
  refine p_len (L := (a0.Joints : (List T_api_Joint))) (by kernel_rfl) ?_
  refine zE ?_
  refine q_next (pwp_block ?_)
  obtain ⟨o12, h12, h⟩ := o_inl h
  refine r_loop2 78 0 (fun x5 => ⟨[(1, .ref 1 0), (14, lstOf .frozen (a0.Joints : (List T_api_Joint))), (15, .int .i64 ((a0.Joints.length : Nat) : Int)), (16, .int .i64 x5)], [(1, .cells (cellsOf a0))], [], []⟩) (fun (_ : Unit) => ⟨[(1, .ref 1 0)], [(1, .cells (cellsOf a0))], [], []⟩) h12 (by kernel_rfl) (fun _ => by kernel_rfl) ?_ ?_
  · rintro x5 oh11 h11
    unfold d_layout_joinEnds_0 at h11
    refine pwp_seq (r_reg ?_)
    refine zE ?_
    refine q_next (pwp_seq ?_)
    rcases o_cond h11 with ⟨hb, h11⟩ | ⟨hb, h11⟩
    · refine zT hb ?_
      refine pwp_skip (q_next (pwp_seq (pwp_block (pwp_seq (r_reg ?_)))))
      obtain ⟨x10, h13, h11⟩ := o_bind h11
      refine zI h13 ?_
      refine zE ?_
      refine q_next (pwp_seq (r_reg ?_))
      refine zR 3 ?_
      obtain ⟨r11, h14, h11⟩ := o_bind h11
      refine p_call (d_layout_exists_ok _ _ r11 h14) (by kernel_rfl) (by kernel_rfl) ?_
      obtain ⟨b12, h15, h11⟩ := o_bind h11
      refine zR 2 ?_
      refine e_seg 6 31 (.bool b12) ?_ ?_
      · rcases o_cond h15 with ⟨hb, h15⟩ | ⟨hb, h15⟩
        · refine zS 25 hb ?_
          cases h15
          exact zF
        refine zS 25 hb ?_
        refine zR 3 ?_
        obtain ⟨r13, h16, h15⟩ := o_bind h15
        refine p_call (d_layout_exists_ok _ _ r13 h16) (by kernel_rfl) (by kernel_rfl) ?_
        cases h15
        exact zF
      refine zR 1 ?_
      refine e_segb 6 38 (b12 || (eq_T_api_End x10.A x10.B)) (fun x hx => ?_) ?_
      · rcases b_or hx with ⟨hb, hx⟩ | ⟨hb, hx⟩
        · refine zS 32 hb ?_
          subst hx
          exact zF
        refine zS 32 hb ?_
        subst hx
        exact zF
      refine zN ?_
      refine q_next ?_
      rcases o_cond h11 with ⟨hb, h11⟩ | ⟨hb, h11⟩
      · refine zT hb ?_
        refine pwp_seq (r_reg ?_)
        refine zE ?_
        refine q_next (pwp_ret (q_block_ret (q_seq_ret ?_)))
        cases h11
        refine q_lout_ret fun he => ?_
        subst he
        have h17 := o_outr h
        refine q_block_ret (q_seq_ret ?_)
        cases h17
        exact zQ
      refine zU hb ?_
      refine pwp_skip (q_block (q_next (r_reg ?_)))
      refine zE ?_
      cases h11
      exact zB
    refine zU hb ?_
    refine pwp_exit (q_seq_exit ?_)
    cases h11
    exact zX
  rintro _ s' rfl hs
  have h := o_outl h
  refine q_block_hit ?_
  refine q_next (pwp_wkr hs ?_)
  refine pwp_seq (r_reg ?_)
  refine zE ?_
  refine q_next (pwp_seq (pwp_seq (r_reg ?_)))
  refine zR 2 ?_
  refine p_len (L := (a0.Joints : (List T_api_Joint))) (by kernel_rfl) ?_
  refine zE ?_
  refine q_next (pwp_block ?_)
  obtain ⟨o23, h23, h⟩ := o_inl h
  refine r_loop2 78 2 (fun (x15, x16) => ⟨[(6, .mp 40), (42, lstOf .frozen (a0.Joints : (List T_api_Joint))), (43, .int .i64 ((a0.Joints.length : Nat) : Int)), (44, .int .i64 x15)], [(40, .map (mpOf (x16 : (List (T_api_End × T_api_End)))))], [], []⟩) (fun x18 => ⟨[(6, .mp 40)], [(40, .map (mpOf (x18 : (List (T_api_End × T_api_End)))))], [], []⟩) h23 (by kernel_rfl) (fun _ => by kernel_rfl) ?_ ?_
  · rintro ⟨x15, x16⟩ oh22 h22
    unfold d_layout_joinEnds_1 at h22
    refine pwp_seq (r_reg ?_)
    refine zE ?_
    refine q_next (pwp_seq ?_)
    rcases o_cond h22 with ⟨hb, h22⟩ | ⟨hb, h22⟩
    · refine zT hb ?_
      refine pwp_skip (q_next (pwp_seq (pwp_block (pwp_seq (r_reg ?_)))))
      obtain ⟨x19, h24, h22⟩ := o_bind h22
      refine zI h24 ?_
      refine zE ?_
      refine q_next (pwp_seq (r_reg ?_))
      refine zR 3 ?_
      refine p_lookup2 (m := (x16 : (List (T_api_End × T_api_End)))) (k := x19.A) (T_api_End.mk 0 0) 40 (by kernel_rfl) (by kernel_rfl) ?_
      refine zE ?_
      refine q_next (pwp_seq (r_reg ?_))
      refine zR 3 ?_
      refine p_lookup2 (m := (x16 : (List (T_api_End × T_api_End)))) (k := x19.B) (T_api_End.mk 0 0) 40 (by kernel_rfl) (by kernel_rfl) ?_
      refine zE ?_
      refine q_next (pwp_seq (pwp_seq (r_reg ?_)))
      refine zR 2 ?_
      refine e_segb 2 65 (((mget (x16 : (List (T_api_End × T_api_End))) x19.A).isSome) || ((mget (x16 : (List (T_api_End × T_api_End))) x19.B).isSome)) (fun x hx => ?_) ?_
      · rcases b_or hx with ⟨hb, hx⟩ | ⟨hb, hx⟩
        · refine zS 63 hb ?_
          subst hx
          exact zF
        refine zS 63 hb ?_
        subst hx
        exact zF
      refine zN ?_
      refine q_next ?_
      rcases o_cond h22 with ⟨hb, h22⟩ | ⟨hb, h22⟩
      · refine zT hb ?_
        refine pwp_seq (r_reg ?_)
        refine zE ?_
        refine q_next (pwp_ret (q_seq_ret (q_block_ret (q_seq_ret ?_))))
        cases h22
        refine q_lout_ret fun he => ?_
        subst he
        have h25 := o_outr h
        refine q_block_ret (q_seq_ret ?_)
        cases h25
        exact zQ
      refine zU hb ?_
      refine pwp_skip (q_next ?_)
      refine r_regd (by kernel_rfl) (by kernel_rfl) ?_
      refine zR 10 ?_
      refine p_mset (m := (x16 : (List (T_api_End × T_api_End)))) (k := x19.A) (v := x19.B) 40 (by kernel_rfl) (by kernel_rfl) (by kernel_rfl) ?_
      refine p_mset (m := ((mset x19.A x19.B x16) : (List (T_api_End × T_api_End)))) (k := x19.B) (v := x19.A) 40 (by kernel_rfl) (by kernel_rfl) (by kernel_rfl) ?_
      refine zN ?_
      refine q_block (q_next (r_reg ?_))
      refine zE ?_
      cases h22
      exact zB
    refine zU hb ?_
    refine pwp_exit (q_seq_exit ?_)
    cases h22
    exact zX
  rintro x18 s' rfl hs
  have h := o_outl h
  refine q_block_hit ?_
  refine q_next (pwp_wkr hs ?_)
  refine pwp_seq (r_reg ?_)
  refine zE ?_
  refine q_next ?_
  refine g_shm 40 [] (x18 : (List (T_api_End × T_api_End))) (by kernel_rfl) (by kernel_rfl) (by kernel_rfl) ?_
  refine pwp_ret ?_
  cases h
  exact zQ

/-! layout.Signal -/
noncomputable def d_layout_Signal_0 (a0 : T_api_Layout) (a1 : T_api_End) : Int → Option (Int ⊕ (Unit ⊕ Int)) := fun x2 =>
  bif decide (x2 < ((a0.Signals.length : Nat) : Int)) then (
    (ixO a0.Signals x2).bind fun x4 =>
    bif eq_T_api_End x4.At a1 then (
      some (.inr (.inr x2))
    ) else (
      some (.inl (w64 (x2 + 1)))
    )
  ) else (
    some (.inr (.inl ()))
  )

noncomputable def d_layout_Signal (a0 : T_api_Layout) (a1 : T_api_End) : Option Int :=
  onInl (α := Unit) (β := Int) (loopO (d_layout_Signal_0 a0 a1) 0) fun _ =>
  some (-1)
theorem d_layout_Signal_ok (a0 : T_api_Layout) (a1 : T_api_End) (r : Int) (h : d_layout_Signal a0 a1 = some r) : PCall Go.Proofs.Tryz.prog GlS 23 [Enc.pv a0, Enc.pv a1] (Enc.pv r) := by
  unfold d_layout_Signal at h
  refine pcall_of_pwp Go.Proofs.Tryz.func23 (by rfl) rfl Go.Proofs.Tryz.ntmps23 (by rfl) rfl ?_
  refine pwp_seq (r_reg ?_)
  refine zE ?_
  refine q_next (pwp_seq (pwp_seq (r_reg ?_)))
  refine zR 2 ?_
  refine p_len (L := (a0.Signals : (List T_api_Signal))) (by kernel_rfl) ?_
  refine zE ?_
  refine q_next (pwp_block ?_)
  obtain ⟨o6, h6, h⟩ := o_inl h
  refine r_loop2 21 0 (fun x2 => ⟨[(3, .ref 3 0), (8, lstOf .frozen (a0.Signals : (List T_api_Signal))), (9, .int .i64 ((a0.Signals.length : Nat) : Int)), (10, .int .i64 x2)], [(3, .cells (cellsOf a1))], [], []⟩) (fun (_ : Unit) => ⟨[], [], [], []⟩) h6 (by kernel_rfl) (fun _ => by kernel_rfl) ?_ ?_
  · rintro x2 oh5 h5
    unfold d_layout_Signal_0 at h5
    refine pwp_seq (r_reg ?_)
    refine zE ?_
    refine q_next (pwp_seq ?_)
    rcases o_cond h5 with ⟨hb, h5⟩ | ⟨hb, h5⟩
    · refine zT hb ?_
      refine pwp_skip (q_next (pwp_seq (pwp_block (pwp_seq (r_reg ?_)))))
      refine zR 1 ?_
      obtain ⟨x4, h7, h5⟩ := o_bind h5
      refine zI h7 ?_
      refine zE ?_
      refine q_next (pwp_seq (r_reg ?_))
      refine zE ?_
      refine q_next ?_
      rcases o_cond h5 with ⟨hb, h5⟩ | ⟨hb, h5⟩
      · refine zT hb ?_
        refine pwp_seq (r_reg ?_)
        refine zE ?_
        refine q_next (pwp_ret (q_block_ret (q_seq_ret ?_)))
        cases h5
        refine q_lout_ret fun he => ?_
        subst he
        have h8 := o_outr h
        refine q_block_ret (q_seq_ret ?_)
        cases h8
        exact zQ
      refine zU hb ?_
      refine pwp_skip (q_block (q_next (r_reg ?_)))
      refine zE ?_
      cases h5
      exact zB
    refine zU hb ?_
    refine pwp_exit (q_seq_exit ?_)
    cases h5
    exact zX
  rintro _ s' rfl hs
  have h := o_outl h
  refine q_block_hit ?_
  refine q_next (pwp_wkr hs ?_)
  refine pwp_seq (r_reg ?_)
  refine zE ?_
  refine q_next (pwp_ret ?_)
  cases h
  exact zQ

/-! layout.Section -/
noncomputable def d_layout_Section (a0 : T_api_Layout) (a1 : Int) : Option Int :=
  ((bif decide (a1 < 0) then some true else (
    some (decide (((a0.Elements.length : Nat) : Int) ≤ a1))
  )) : Option Bool).bind fun b1 =>
  bif b1 then (
    some (-1)
  ) else (
    (ixO a0.Elements a1).bind fun x2 =>
    some x2.Section
  )
theorem d_layout_Section_ok (a0 : T_api_Layout) (a1 : Int) (r : Int) (h : d_layout_Section a0 a1 = some r) : PCall Go.Proofs.Tryz.prog GlS 89 [Enc.pv a0, Enc.pv a1] (Enc.pv r) := by
  unfold d_layout_Section at h
  refine pcall_of_pwp Go.Proofs.Tryz.func89 (by rfl) rfl Go.Proofs.Tryz.ntmps89 (by rfl) rfl ?_
  refine pwp_seq (r_reg ?_)
  refine zE ?_
  refine q_next (pwp_seq (pwp_seq (r_reg ?_)))
  obtain ⟨b1, h1, h⟩ := o_bind h
  refine zR 3 ?_
  refine e_seg 6 13 (.bool b1) ?_ ?_
  · rcases o_cond h1 with ⟨hb, h1⟩ | ⟨hb, h1⟩
    · refine zS 7 hb ?_
      cases h1
      exact zF
    refine zS 7 hb ?_
    refine zR 3 ?_
    refine p_len (L := (a0.Elements : (List T_api_Element))) (by kernel_rfl) ?_
    cases h1
    exact zF
  refine zN ?_
  refine q_next ?_
  rcases o_cond h with ⟨hb, h⟩ | ⟨hb, h⟩
  · refine zT hb ?_
    refine pwp_seq (r_reg ?_)
    refine zE ?_
    refine q_next (pwp_ret (q_seq_ret ?_))
    cases h
    exact zQ
  refine zU hb ?_
  refine pwp_skip (q_next (pwp_seq (r_reg ?_)))
  refine zR 3 ?_
  obtain ⟨x2, h2, h⟩ := o_bind h
  refine zI h2 ?_
  refine zE ?_
  refine q_next (pwp_ret ?_)
  cases h
  exact zQ

/-! layout.checkSignals -/
noncomputable def d_layout_checkSignals_0 (a0 : T_api_Layout) : Int → Option (Int ⊕ (Unit ⊕ Int)) := fun x5 =>
  bif decide (x5 < ((a0.Signals.length : Nat) : Int)) then (
    (ixO a0.Signals x5).bind fun x10 =>
    (d_layout_exists a0 x10.At).bind fun r11 =>
    ((bif (!r11) then some true else (
      (d_layout_within x10.Overlap 0 1000000).bind fun r13 =>
      some (!r13)
    )) : Option Bool).bind fun b12 =>
    bif b12 then (
      some (.inr (.inr 1))
    ) else (
      some (.inl (w64 (x5 + 1)))
    )
  ) else (
    some (.inr (.inl ()))
  )

noncomputable def d_layout_checkSignals_1 (a0 : T_api_Layout) : Int → Option (Int ⊕ (Unit ⊕ Int)) := fun x16 =>
  bif decide (x16 < ((a0.Signals.length : Nat) : Int)) then (
    (ixO a0.Signals x16).bind fun x19 =>
    (d_layout_Signal a0 x19.At).bind fun r20 =>
    bif (!(decide (r20 = x16))) then (
      some (.inr (.inr 8))
    ) else (
      some (.inl (w64 (x16 + 1)))
    )
  ) else (
    some (.inr (.inl ()))
  )

noncomputable def d_layout_checkSignals_2 (a0 : T_api_Layout) (a1 : (List (T_api_End × T_api_End))) : Int → Option (Int ⊕ (Unit ⊕ Int)) := fun x25 =>
  bif decide (x25 < ((a0.Signals.length : Nat) : Int)) then (
    (ixO a0.Signals x25).bind fun x30 =>
    ((bif (!((mget (a1 : (List (T_api_End × T_api_End))) x30.At).isSome)) then some true else (
      (d_layout_Section a0 (((mget (a1 : (List (T_api_End × T_api_End))) x30.At).getD (T_api_End.mk 0 0)).El)).bind fun r32 =>
      (d_layout_Section a0 x30.At.El).bind fun r33 =>
      some (decide (r32 = r33))
    )) : Option Bool).bind fun b31 =>
    bif b31 then (
      some (.inr (.inr 14))
    ) else (
      some (.inl (w64 (x25 + 1)))
    )
  ) else (
    some (.inr (.inl ()))
  )

noncomputable def d_layout_checkSignals (a0 : T_api_Layout) (a1 : (List (T_api_End × T_api_End))) : Option Int :=
  onInl (α := Unit) (β := Int) (loopO (d_layout_checkSignals_0 a0) 0) fun _ =>
  onInl (α := Unit) (β := Int) (loopO (d_layout_checkSignals_1 a0) 0) fun _ =>
  onInl (α := Unit) (β := Int) (loopO (d_layout_checkSignals_2 a0 a1) 0) fun _ =>
  some 0
theorem d_layout_checkSignals_ok (a0 : T_api_Layout) (a1 : (List (T_api_End × T_api_End))) (r : Int) (h : d_layout_checkSignals a0 a1 = some r) : PCall Go.Proofs.Tryz.prog GlS 55 [Enc.pv a0, fmOf (a1 : (List (T_api_End × T_api_End)))] (Enc.pv r) := by
  unfold d_layout_checkSignals at h
  refine pcall_of_pwp Go.Proofs.Tryz.func55 (by rfl) rfl Go.Proofs.Tryz.ntmps55 (by rfl) rfl ?_
  refine pwp_seq (r_reg ?_)
  refine zE ?_
  refine q_next (pwp_seq (pwp_seq (r_reg ?_)))
  refine zR 2 ?_
  refine p_len (L := (a0.Signals : (List T_api_Signal))) (by kernel_rfl) ?_
  refine zE ?_
  refine q_next (pwp_block ?_)
  obtain ⟨o12, h12, h⟩ := o_inl h
  refine r_loop2 76 0 (fun x5 => ⟨[(1, fmOf (a1 : (List (T_api_End × T_api_End)))), (2, .ref 2 0), (14, lstOf .frozen (a0.Signals : (List T_api_Signal))), (15, .int .i64 ((a0.Signals.length : Nat) : Int)), (16, .int .i64 x5)], [(2, .cells (cellsOf a0))], [], []⟩) (fun (_ : Unit) => ⟨[(1, fmOf (a1 : (List (T_api_End × T_api_End)))), (2, .ref 2 0)], [(2, .cells (cellsOf a0))], [], []⟩) h12 (by kernel_rfl) (fun _ => by kernel_rfl) ?_ ?_
  · rintro x5 oh11 h11
    unfold d_layout_checkSignals_0 at h11
    refine pwp_seq (r_reg ?_)
    refine zE ?_
    refine q_next (pwp_seq ?_)
    rcases o_cond h11 with ⟨hb, h11⟩ | ⟨hb, h11⟩
    · refine zT hb ?_
      refine pwp_skip (q_next (pwp_seq (pwp_block (pwp_seq (r_reg ?_)))))
      obtain ⟨x10, h13, h11⟩ := o_bind h11
      refine zI h13 ?_
      refine zE ?_
      refine q_next (pwp_seq (r_reg ?_))
      refine zR 3 ?_
      obtain ⟨r11, h14, h11⟩ := o_bind h11
      refine p_call (d_layout_exists_ok _ _ r11 h14) (by kernel_rfl) (by kernel_rfl) ?_
      obtain ⟨b12, h15, h11⟩ := o_bind h11
      refine zR 2 ?_
      refine e_seg 5 30 (.bool b12) ?_ ?_
      · rcases o_cond h15 with ⟨hb, h15⟩ | ⟨hb, h15⟩
        · refine zS 25 hb ?_
          cases h15
          exact zF
        refine zS 25 hb ?_
        refine zR 2 ?_
        obtain ⟨r13, h16, h15⟩ := o_bind h15
        refine p_call (d_layout_within_ok _ _ _ r13 h16) (by kernel_rfl) (by kernel_rfl) ?_
        cases h15
        exact zF
      refine zN ?_
      refine q_next ?_
      rcases o_cond h11 with ⟨hb, h11⟩ | ⟨hb, h11⟩
      · refine zT hb ?_
        refine pwp_seq (r_reg ?_)
        refine zE ?_
        refine q_next (pwp_ret (q_block_ret (q_seq_ret ?_)))
        cases h11
        refine q_lout_ret fun he => ?_
        subst he
        have h17 := o_outr h
        refine q_block_ret (q_seq_ret ?_)
        cases h17
        exact zQ
      refine zU hb ?_
      refine pwp_skip (q_block (q_next (r_reg ?_)))
      refine zE ?_
      cases h11
      exact zB
    refine zU hb ?_
    refine pwp_exit (q_seq_exit ?_)
    cases h11
    exact zX
  rintro _ s' rfl hs
  have h := o_outl h
  refine q_block_hit ?_
  refine q_next (pwp_wkr hs ?_)
  refine pwp_seq (pwp_seq (r_reg ?_))
  refine zR 2 ?_
  refine p_len (L := (a0.Signals : (List T_api_Signal))) (by kernel_rfl) ?_
  refine zE ?_
  refine q_next (pwp_block ?_)
  obtain ⟨o25, h25, h⟩ := o_inl h
  refine r_loop2 76 2 (fun x16 => ⟨[(1, fmOf (a1 : (List (T_api_End × T_api_End)))), (2, .ref 2 0), (33, lstOf .frozen (a0.Signals : (List T_api_Signal))), (34, .int .i64 ((a0.Signals.length : Nat) : Int)), (35, .int .i64 x16)], [(2, .cells (cellsOf a0))], [], []⟩) (fun (_ : Unit) => ⟨[(1, fmOf (a1 : (List (T_api_End × T_api_End)))), (2, .ref 2 0)], [(2, .cells (cellsOf a0))], [], []⟩) h25 (by kernel_rfl) (fun _ => by kernel_rfl) ?_ ?_
  · rintro x16 oh24 h24
    unfold d_layout_checkSignals_1 at h24
    refine pwp_seq (r_reg ?_)
    refine zE ?_
    refine q_next (pwp_seq ?_)
    rcases o_cond h24 with ⟨hb, h24⟩ | ⟨hb, h24⟩
    · refine zT hb ?_
      refine pwp_skip (q_next (pwp_seq (pwp_block (pwp_seq (r_reg ?_)))))
      refine zR 1 ?_
      obtain ⟨x19, h26, h24⟩ := o_bind h24
      refine zI h26 ?_
      refine zE ?_
      refine q_next (pwp_seq (r_reg ?_))
      refine zR 3 ?_
      obtain ⟨r20, h27, h24⟩ := o_bind h24
      refine p_call (d_layout_Signal_ok _ _ r20 h27) (by kernel_rfl) (by kernel_rfl) ?_
      refine zE ?_
      refine q_next ?_
      rcases o_cond h24 with ⟨hb, h24⟩ | ⟨hb, h24⟩
      · refine zT hb ?_
        refine pwp_seq (r_reg ?_)
        refine zE ?_
        refine q_next (pwp_ret (q_block_ret (q_seq_ret ?_)))
        cases h24
        refine q_lout_ret fun he => ?_
        subst he
        have h28 := o_outr h
        refine q_block_ret (q_seq_ret ?_)
        cases h28
        exact zQ
      refine zU hb ?_
      refine pwp_skip (q_block (q_next (r_reg ?_)))
      refine zE ?_
      cases h24
      exact zB
    refine zU hb ?_
    refine pwp_exit (q_seq_exit ?_)
    cases h24
    exact zX
  rintro _ s' rfl hs
  have h := o_outl h
  refine q_block_hit ?_
  refine q_next (pwp_wkr hs ?_)
  refine pwp_seq (pwp_seq (r_reg ?_))
  refine zR 2 ?_
  refine p_len (L := (a0.Signals : (List T_api_Signal))) (by kernel_rfl) ?_
  refine zE ?_
  refine q_next (pwp_block ?_)
  obtain ⟨o40, h40, h⟩ := o_inl h
  refine r_loop2 76 4 (fun x25 => ⟨[(1, fmOf (a1 : (List (T_api_End × T_api_End)))), (2, .ref 2 0), (48, lstOf .frozen (a0.Signals : (List T_api_Signal))), (49, .int .i64 ((a0.Signals.length : Nat) : Int)), (50, .int .i64 x25)], [(2, .cells (cellsOf a0))], [], []⟩) (fun (_ : Unit) => ⟨[], [], [], []⟩) h40 (by kernel_rfl) (fun _ => by kernel_rfl) ?_ ?_
  · rintro x25 oh39 h39
    unfold d_layout_checkSignals_2 at h39
    refine pwp_seq (r_reg ?_)
    refine zE ?_
    refine q_next (pwp_seq ?_)
    rcases o_cond h39 with ⟨hb, h39⟩ | ⟨hb, h39⟩
    · refine zT hb ?_
      refine pwp_skip (q_next (pwp_seq (pwp_block (pwp_seq (r_reg ?_)))))
      obtain ⟨x30, h41, h39⟩ := o_bind h39
      refine zI h41 ?_
      refine zE ?_
      refine q_next (pwp_seq (r_reg ?_))
      refine zR 3 ?_
      refine p_lookupF (m := (a1 : (List (T_api_End × T_api_End)))) (k := x30.At) (T_api_End.mk 0 0) true (by kernel_rfl) ?_
      refine zE ?_
      refine q_next (pwp_seq ?_)
      refine r_regd (by kernel_rfl) (by kernel_rfl) ?_
      obtain ⟨b31, h42, h39⟩ := o_bind h39
      refine zR 3 ?_
      refine e_seg 11 74 (.bool b31) ?_ ?_
      · rcases o_cond h42 with ⟨hb, h42⟩ | ⟨hb, h42⟩
        · refine zS 63 hb ?_
          cases h42
          exact zF
        refine zS 63 hb ?_
        refine zR 3 ?_
        obtain ⟨r32, h43, h42⟩ := o_bind h42
        refine p_call (d_layout_Section_ok _ _ r32 h43) (by kernel_rfl) (by kernel_rfl) ?_
        refine zR 4 ?_
        obtain ⟨r33, h44, h42⟩ := o_bind h42
        refine p_call (d_layout_Section_ok _ _ r33 h44) (by kernel_rfl) (by kernel_rfl) ?_
        cases h42
        exact zF
      refine zN ?_
      refine q_next ?_
      rcases o_cond h39 with ⟨hb, h39⟩ | ⟨hb, h39⟩
      · refine zT hb ?_
        refine pwp_seq (r_reg ?_)
        refine zE ?_
        refine q_next (pwp_ret (q_block_ret (q_seq_ret ?_)))
        cases h39
        refine q_lout_ret fun he => ?_
        subst he
        have h45 := o_outr h
        refine q_block_ret (q_seq_ret ?_)
        cases h45
        exact zQ
      refine zU hb ?_
      refine pwp_skip (q_block (q_next (r_reg ?_)))
      refine zE ?_
      cases h39
      exact zB
    refine zU hb ?_
    refine pwp_exit (q_seq_exit ?_)
    cases h39
    exact zX
  rintro _ s' rfl hs
  have h := o_outl h
  refine q_block_hit ?_
  refine q_next (pwp_wkr hs ?_)
  refine pwp_seq (r_reg ?_)
  refine zE ?_
  refine q_next (pwp_ret ?_)
  cases h
  exact zQ

/-! layout.checkBalises -/
noncomputable def d_layout_checkBalises_0 (a0 : T_api_Layout) : Int → Option (Int ⊕ (Unit ⊕ Int)) := fun x8 =>
  bif decide (x8 < ((a0.Balises.length : Nat) : Int)) then (
    (ixO a0.Balises x8).bind fun x16 =>
    (d_layout_within x16.Id 1 1073741824).bind fun r17 =>
    ((bif (!r17) then some true else (
      (d_layout_within x16.El 0 (w64 (((a0.Elements.length : Nat) : Int) - 1))).bind fun r19 =>
      some (!r19)
    )) : Option Bool).bind fun b18 =>
    ((bif b18 then some true else (
      (ixO a0.Elements x16.El).bind fun x21 =>
      (d_layout_within x16.Offset 0 x21.Length).bind fun r22 =>
      some (!r22)
    )) : Option Bool).bind fun b20 =>
    bif b20 then (
      some (.inr (.inr 1))
    ) else (
      some (.inl (w64 (x8 + 1)))
    )
  ) else (
    some (.inr (.inl ()))
  )

noncomputable def d_layout_checkBalises_1 (a0 : T_api_Layout) : (Int × (List (Int × Bool))) → Option ((Int × (List (Int × Bool))) ⊕ (Unit ⊕ Int)) := fun (x24, x25) =>
  bif decide (x24 < ((a0.Balises.length : Nat) : Int)) then (
    (ixO a0.Balises x24).bind fun x27 =>
    bif ((mget (x25 : (List (Int × Bool))) x27.Id).getD false) then (
      some (.inr (.inr 8))
    ) else (
      some (.inl (w64 (x24 + 1), (mset x27.Id true x25)))
    )
  ) else (
    some (.inr (.inl ()))
  )

noncomputable def d_layout_checkBalises (a0 : T_api_Layout) : Option Int :=
  onInl (α := Unit) (β := Int) (loopO (d_layout_checkBalises_0 a0) 0) fun _ =>
  onInl (α := Unit) (β := Int) (loopO (d_layout_checkBalises_1 a0) (0, ([] : (List (Int × Bool))))) fun _ =>
  some 0
theorem d_layout_checkBalises_ok (a0 : T_api_Layout) (r : Int) (h : d_layout_checkBalises a0 = some r) : PCall Go.Proofs.Tryz.prog GlS 56 [Enc.pv a0] (Enc.pv r) := by
  unfold d_layout_checkBalises at h
  refine pcall_of_pwp Go.Proofs.Tryz.func56 (by rfl) rfl Go.Proofs.Tryz.ntmps56 (by rfl) rfl ?_
  refine pwp_seq (r_reg ?_)
  refine zE ?_
  refine q_next (pwp_seq (pwp_seq (r_reg ?_)))
  refine zR 2 ?_
  refine p_len (L := (a0.Balises : (List T_api_Balise))) (by kernel_rfl) ?_
  refine zE ?_
  refine q_next (pwp_block ?_)
  obtain ⟨o18, h18, h⟩ := o_inl h
  refine r_loop2 59 0 (fun x8 => ⟨[(1, .ref 1 0), (9, lstOf .frozen (a0.Balises : (List T_api_Balise))), (10, .int .i64 ((a0.Balises.length : Nat) : Int)), (11, .int .i64 x8)], [(1, .cells (cellsOf a0))], [], []⟩) (fun (_ : Unit) => ⟨[(1, .ref 1 0)], [(1, .cells (cellsOf a0))], [], []⟩) h18 (by kernel_rfl) (fun _ => by kernel_rfl) ?_ ?_
  · rintro x8 oh17 h17
    unfold d_layout_checkBalises_0 at h17
    refine pwp_seq (r_reg ?_)
    refine zE ?_
    refine q_next (pwp_seq ?_)
    rcases o_cond h17 with ⟨hb, h17⟩ | ⟨hb, h17⟩
    · refine zT hb ?_
      refine pwp_skip (q_next (pwp_seq (pwp_block (pwp_seq (r_reg ?_)))))
      obtain ⟨x16, h19, h17⟩ := o_bind h17
      refine zI h19 ?_
      refine zE ?_
      refine q_next (pwp_seq ?_)
      refine r_regd (by kernel_rfl) (by kernel_rfl) ?_
      refine zR 2 ?_
      obtain ⟨r17, h20, h17⟩ := o_bind h17
      refine p_call (d_layout_within_ok _ _ _ r17 h20) (by kernel_rfl) (by kernel_rfl) ?_
      obtain ⟨b18, h21, h17⟩ := o_bind h17
      refine zR 2 ?_
      refine e_seg 9 28 (.bool b18) ?_ ?_
      · rcases o_cond h21 with ⟨hb, h21⟩ | ⟨hb, h21⟩
        · refine zS 19 hb ?_
          cases h21
          exact zF
        refine zS 19 hb ?_
        refine zR 4 ?_
        refine p_len (L := (a0.Elements : (List T_api_Element))) (by kernel_rfl) ?_
        refine zR 1 ?_
        obtain ⟨r19, h22, h21⟩ := o_bind h21
        refine p_call (d_layout_within_ok _ _ _ r19 h22) (by kernel_rfl) (by kernel_rfl) ?_
        cases h21
        exact zF
      obtain ⟨b20, h23, h17⟩ := o_bind h17
      refine zR 1 ?_
      refine e_seg 12 41 (.bool b20) ?_ ?_
      · rcases o_cond h23 with ⟨hb, h23⟩ | ⟨hb, h23⟩
        · refine zS 29 hb ?_
          cases h23
          exact zF
        refine zS 29 hb ?_
        refine zR 6 ?_
        obtain ⟨x21, h24, h23⟩ := o_bind h23
        refine zI h24 ?_
        refine zR 2 ?_
        obtain ⟨r22, h25, h23⟩ := o_bind h23
        refine p_call (d_layout_within_ok _ _ _ r22 h25) (by kernel_rfl) (by kernel_rfl) ?_
        cases h23
        exact zF
      refine zN ?_
      refine q_next ?_
      rcases o_cond h17 with ⟨hb, h17⟩ | ⟨hb, h17⟩
      · refine zT hb ?_
        refine pwp_seq (r_reg ?_)
        refine zE ?_
        refine q_next (pwp_ret (q_block_ret (q_seq_ret ?_)))
        cases h17
        refine q_lout_ret fun he => ?_
        subst he
        have h26 := o_outr h
        refine q_block_ret (q_seq_ret ?_)
        cases h26
        exact zQ
      refine zU hb ?_
      refine pwp_skip (q_block (q_next (r_reg ?_)))
      refine zE ?_
      cases h17
      exact zB
    refine zU hb ?_
    refine pwp_exit (q_seq_exit ?_)
    cases h17
    exact zX
  rintro _ s' rfl hs
  have h := o_outl h
  refine q_block_hit ?_
  refine q_next (pwp_wkr hs ?_)
  refine pwp_seq (r_reg ?_)
  refine zE ?_
  refine q_next (pwp_seq (pwp_seq (r_reg ?_)))
  refine zR 2 ?_
  refine p_len (L := (a0.Balises : (List T_api_Balise))) (by kernel_rfl) ?_
  refine zE ?_
  refine q_next (pwp_block ?_)
  obtain ⟨o32, h32, h⟩ := o_inl h
  refine r_loop2 59 2 (fun (x24, x25) => ⟨[(5, .mp 43), (45, lstOf .frozen (a0.Balises : (List T_api_Balise))), (46, .int .i64 ((a0.Balises.length : Nat) : Int)), (47, .int .i64 x24)], [(43, .map (mpOf (x25 : (List (Int × Bool)))))], [], []⟩) (fun (_ : Unit) => ⟨[], [], [], []⟩) h32 (by kernel_rfl) (fun _ => by kernel_rfl) ?_ ?_
  · rintro ⟨x24, x25⟩ oh31 h31
    unfold d_layout_checkBalises_1 at h31
    refine pwp_seq (r_reg ?_)
    refine zE ?_
    refine q_next (pwp_seq ?_)
    rcases o_cond h31 with ⟨hb, h31⟩ | ⟨hb, h31⟩
    · refine zT hb ?_
      refine pwp_skip (q_next (pwp_seq (pwp_block (pwp_seq (r_reg ?_)))))
      obtain ⟨x27, h33, h31⟩ := o_bind h31
      refine zI h33 ?_
      refine zE ?_
      refine q_next (pwp_seq (pwp_seq (r_reg ?_)))
      refine zR 3 ?_
      refine p_lookup (m := (x25 : (List (Int × Bool)))) (k := x27.Id) false 43 (by kernel_rfl) (by kernel_rfl) ?_
      refine zN ?_
      refine q_next ?_
      rcases o_cond h31 with ⟨hb, h31⟩ | ⟨hb, h31⟩
      · refine zT hb ?_
        refine pwp_seq (r_reg ?_)
        refine zE ?_
        refine q_next (pwp_ret (q_seq_ret (q_block_ret (q_seq_ret ?_))))
        cases h31
        refine q_lout_ret fun he => ?_
        subst he
        have h34 := o_outr h
        refine q_block_ret (q_seq_ret ?_)
        cases h34
        exact zQ
      refine zU hb ?_
      refine pwp_skip (q_next (r_reg ?_))
      refine zR 3 ?_
      refine p_mset (m := (x25 : (List (Int × Bool)))) (k := x27.Id) (v := true) 43 (by kernel_rfl) (by kernel_rfl) (by kernel_rfl) ?_
      refine zN ?_
      refine q_block (q_next (r_reg ?_))
      refine zE ?_
      cases h31
      exact zB
    refine zU hb ?_
    refine pwp_exit (q_seq_exit ?_)
    cases h31
    exact zX
  rintro _ s' rfl hs
  have h := o_outl h
  refine q_block_hit ?_
  refine q_next (pwp_wkr hs ?_)
  refine pwp_seq (r_reg ?_)
  refine zE ?_
  refine q_next (pwp_ret ?_)
  cases h
  exact zQ

/-! layout.Check -/
noncomputable def d_layout_Check (a0 : T_api_Layout) : Option Int :=
  (d_layout_countsFit a0).bind fun r1 =>
  bif (!r1) then (
    some 2
  ) else (
    (d_layout_checkNames a0).bind fun r2 =>
    bif (!(decide (r2 = 0))) then (
      some r2
    ) else (
      (d_layout_elementsFit a0).bind fun r3 =>
      ((bif (!r3) then some true else (
        (d_layout_sectionsUsed a0).bind fun r5 =>
        some (!r5)
      )) : Option Bool).bind fun b4 =>
      bif b4 then (
        some 1
      ) else (
        (d_layout_joinEnds a0).bind fun r6 =>
        bif (!(decide (r6.2 = 0))) then (
          some r6.2
        ) else (
          (d_layout_checkSignals a0 r6.1).bind fun r7 =>
          bif (!(decide (r7 = 0))) then (
            some r7
          ) else (
            (d_layout_checkBalises a0).bind fun r8 =>
            some r8
          )
        )
      )
    )
  )
theorem d_layout_Check_ok (a0 : T_api_Layout) (r : Int) (h : d_layout_Check a0 = some r) : PCall Go.Proofs.Tryz.prog GlS 20 [Enc.pv a0] (Enc.pv r) := by
  unfold d_layout_Check at h
  refine pcall_of_pwp Go.Proofs.Tryz.func20 (by rfl) rfl Go.Proofs.Tryz.ntmps20 (by rfl) rfl ?_
  refine pwp_seq (r_reg ?_)
  refine zE ?_
  refine q_next (pwp_seq (pwp_seq (r_reg ?_)))
  refine zR 1 ?_
  obtain ⟨r1, h1, h⟩ := o_bind h
  refine p_call (d_layout_countsFit_ok _ r1 h1) (by kernel_rfl) (by kernel_rfl) ?_
  refine zE ?_
  refine q_next ?_
  rcases o_cond h with ⟨hb, h⟩ | ⟨hb, h⟩
  · refine zT hb ?_
    refine pwp_seq (r_reg ?_)
    refine zE ?_
    refine q_next (pwp_ret (q_seq_ret ?_))
    cases h
    exact zQ
  refine zU hb ?_
  refine pwp_skip (q_next (pwp_seq (pwp_seq (r_reg ?_))))
  refine zR 1 ?_
  obtain ⟨r2, h2, h⟩ := o_bind h
  refine p_call (d_layout_checkNames_ok _ r2 h2) (by kernel_rfl) (by kernel_rfl) ?_
  refine zE ?_
  refine q_next (pwp_seq (r_reg ?_))
  refine zE ?_
  refine q_next ?_
  rcases o_cond h with ⟨hb, h⟩ | ⟨hb, h⟩
  · refine zT hb ?_
    refine pwp_seq (r_reg ?_)
    refine zE ?_
    refine q_next (pwp_ret (q_seq_ret ?_))
    cases h
    exact zQ
  refine zU hb ?_
  refine pwp_skip (q_next (pwp_seq (pwp_seq (r_reg ?_))))
  refine zR 1 ?_
  obtain ⟨r3, h3, h⟩ := o_bind h
  refine p_call (d_layout_elementsFit_ok _ r3 h3) (by kernel_rfl) (by kernel_rfl) ?_
  obtain ⟨b4, h4, h⟩ := o_bind h
  refine zR 2 ?_
  refine e_seg 4 22 (.bool b4) ?_ ?_
  · rcases o_cond h4 with ⟨hb, h4⟩ | ⟨hb, h4⟩
    · refine zS 18 hb ?_
      cases h4
      exact zF
    refine zS 18 hb ?_
    refine zR 1 ?_
    obtain ⟨r5, h5, h4⟩ := o_bind h4
    refine p_call (d_layout_sectionsUsed_ok _ r5 h5) (by kernel_rfl) (by kernel_rfl) ?_
    cases h4
    exact zF
  refine zN ?_
  refine q_next ?_
  rcases o_cond h with ⟨hb, h⟩ | ⟨hb, h⟩
  · refine zT hb ?_
    refine pwp_seq (r_reg ?_)
    refine zE ?_
    refine q_next (pwp_ret (q_seq_ret ?_))
    cases h
    exact zQ
  refine zU hb ?_
  refine pwp_skip (q_next (pwp_seq (r_reg ?_)))
  refine zR 1 ?_
  obtain ⟨r6, h6, h⟩ := o_bind h
  refine p_call (d_layout_joinEnds_ok _ r6 h6) (by kernel_rfl) (by kernel_rfl) ?_
  refine zE ?_
  refine q_next (pwp_seq (pwp_seq (r_reg ?_)))
  refine zE ?_
  refine q_next ?_
  rcases o_cond h with ⟨hb, h⟩ | ⟨hb, h⟩
  · refine zT hb ?_
    refine pwp_seq (r_reg ?_)
    refine zE ?_
    refine q_next (pwp_ret (q_seq_ret ?_))
    cases h
    exact zQ
  refine zU hb ?_
  refine pwp_skip (q_next (pwp_seq (pwp_seq (r_reg ?_))))
  refine zR 2 ?_
  obtain ⟨r7, h7, h⟩ := o_bind h
  refine p_call (d_layout_checkSignals_ok _ _ r7 h7) (by kernel_rfl) (by kernel_rfl) ?_
  refine zE ?_
  refine q_next (pwp_seq (r_reg ?_))
  refine zE ?_
  refine q_next ?_
  rcases o_cond h with ⟨hb, h⟩ | ⟨hb, h⟩
  · refine zT hb ?_
    refine pwp_seq (r_reg ?_)
    refine zE ?_
    refine q_next (pwp_ret (q_seq_ret ?_))
    cases h
    exact zQ
  refine zU hb ?_
  refine pwp_skip (q_next (pwp_seq (r_reg ?_)))
  refine zR 1 ?_
  obtain ⟨r8, h8, h⟩ := o_bind h
  refine p_call (d_layout_checkBalises_ok _ r8 h8) (by kernel_rfl) (by kernel_rfl) ?_
  refine zE ?_
  refine q_next (pwp_ret ?_)
  cases h
  exact zQ

/-! num.Clamp -/
noncomputable def d_num_Clamp (a0 : Int) (a1 : Int) (a2 : Int) : Option Int :=
  some (max a1 (min a0 a2))
theorem d_num_Clamp_ok (a0 : Int) (a1 : Int) (a2 : Int) (r : Int) (h : d_num_Clamp a0 a1 a2 = some r) : PCall Go.Proofs.Tryz.prog GlS 95 [Enc.pv a0, Enc.pv a1, Enc.pv a2] (Enc.pv r) := by
  unfold d_num_Clamp at h
  refine pcall_of_pwp Go.Proofs.Tryz.func95 (by rfl) rfl Go.Proofs.Tryz.ntmps95 (by rfl) rfl ?_
  refine pwp_seq (r_reg ?_)
  refine zE ?_
  refine q_next (pwp_seq (r_reg ?_))
  refine zE ?_
  refine q_next (pwp_ret ?_)
  cases h
  exact zQ

/-! train.ranged -/
noncomputable def d_train_ranged (a0 : T_api_Train) : Option T_api_Train :=
  (d_num_Clamp a0.Id 1 99).bind fun r1 =>
  (d_num_Clamp a0.Length 1 50000).bind fun r2 =>
  (d_num_Clamp a0.Speed 1 10000).bind fun r3 =>
  (d_num_Clamp a0.Accel 1 200).bind fun r4 =>
  (d_num_Clamp a0.Service 1 200).bind fun r5 =>
  (d_num_Clamp a0.Emergency a0.Service 200).bind fun r6 =>
  (d_num_Clamp a0.Delay 0 5).bind fun r7 =>
  (d_num_Clamp a0.Const 0 500).bind fun r8 =>
  (d_num_Clamp a0.Rate 0 100).bind fun r9 =>
  some (T_api_Train.mk r1 a0.Name r2 r3 r4 r5 r6 r7 r8 r9)
theorem d_train_ranged_ok (a0 : T_api_Train) (r : T_api_Train) (h : d_train_ranged a0 = some r) : PCall Go.Proofs.Tryz.prog GlS 58 [Enc.pv a0] (Enc.pv r) := by
  unfold d_train_ranged at h
  refine pcall_of_pwp Go.Proofs.Tryz.func58 (by rfl) rfl Go.Proofs.Tryz.ntmps58 (by rfl) rfl ?_
  refine pwp_seq (r_reg ?_)
  refine zE ?_
  refine q_next (pwp_seq ?_)
  refine r_regd (by kernel_rfl) (by kernel_rfl) ?_
  refine zR 2 ?_
  obtain ⟨r1, h1, h⟩ := o_bind h
  refine p_call (d_num_Clamp_ok _ _ _ r1 h1) (by kernel_rfl) (by kernel_rfl) ?_
  refine zR 4 ?_
  obtain ⟨r2, h2, h⟩ := o_bind h
  refine p_call (d_num_Clamp_ok _ _ _ r2 h2) (by kernel_rfl) (by kernel_rfl) ?_
  refine zR 2 ?_
  obtain ⟨r3, h3, h⟩ := o_bind h
  refine p_call (d_num_Clamp_ok _ _ _ r3 h3) (by kernel_rfl) (by kernel_rfl) ?_
  refine zR 2 ?_
  obtain ⟨r4, h4, h⟩ := o_bind h
  refine p_call (d_num_Clamp_ok _ _ _ r4 h4) (by kernel_rfl) (by kernel_rfl) ?_
  refine zR 2 ?_
  obtain ⟨r5, h5, h⟩ := o_bind h
  refine p_call (d_num_Clamp_ok _ _ _ r5 h5) (by kernel_rfl) (by kernel_rfl) ?_
  refine zR 4 ?_
  obtain ⟨r6, h6, h⟩ := o_bind h
  refine p_call (d_num_Clamp_ok _ _ _ r6 h6) (by kernel_rfl) (by kernel_rfl) ?_
  refine zR 2 ?_
  obtain ⟨r7, h7, h⟩ := o_bind h
  refine p_call (d_num_Clamp_ok _ _ _ r7 h7) (by kernel_rfl) (by kernel_rfl) ?_
  refine zR 2 ?_
  obtain ⟨r8, h8, h⟩ := o_bind h
  refine p_call (d_num_Clamp_ok _ _ _ r8 h8) (by kernel_rfl) (by kernel_rfl) ?_
  refine zR 2 ?_
  obtain ⟨r9, h9, h⟩ := o_bind h
  refine p_call (d_num_Clamp_ok _ _ _ r9 h9) (by kernel_rfl) (by kernel_rfl) ?_
  refine zE ?_
  refine q_next (pwp_ret ?_)
  cases h
  exact zQ

/-! train.Check -/
noncomputable def d_train_Check (a0 : T_api_Train) : Option Int :=
  (d_words_Name a0.Name).bind fun r1 =>
  bif (!r1) then (
    some 3
  ) else (
    (d_train_ranged a0).bind fun r2 =>
    bif (!(eq_T_api_Train a0 r2)) then (
      some 1
    ) else (
      some 0
    )
  )
theorem d_train_Check_ok (a0 : T_api_Train) (r : Int) (h : d_train_Check a0 = some r) : PCall Go.Proofs.Tryz.prog GlS 21 [Enc.pv a0] (Enc.pv r) := by
  unfold d_train_Check at h
  refine pcall_of_pwp Go.Proofs.Tryz.func21 (by rfl) rfl Go.Proofs.Tryz.ntmps21 (by rfl) rfl ?_
  refine pwp_seq (r_reg ?_)
  refine zE ?_
  refine q_next (pwp_seq (pwp_seq (r_reg ?_)))
  refine zR 2 ?_
  obtain ⟨r1, h1, h⟩ := o_bind h
  refine p_call (d_words_Name_ok _ r1 h1) (by kernel_rfl) (by kernel_rfl) ?_
  refine zE ?_
  refine q_next ?_
  rcases o_cond h with ⟨hb, h⟩ | ⟨hb, h⟩
  · refine zT hb ?_
    refine pwp_seq (r_reg ?_)
    refine zE ?_
    refine q_next (pwp_ret (q_seq_ret ?_))
    cases h
    exact zQ
  refine zU hb ?_
  refine pwp_skip (q_next (pwp_seq (pwp_seq ?_)))
  refine r_regd (by kernel_rfl) (by kernel_rfl) ?_
  refine zR 2 ?_
  obtain ⟨r2, h2, h⟩ := o_bind h
  refine p_call (d_train_ranged_ok _ r2 h2) (by kernel_rfl) (by kernel_rfl) ?_
  refine zE ?_
  refine q_next ?_
  rcases o_cond h with ⟨hb, h⟩ | ⟨hb, h⟩
  · refine zT hb ?_
    refine pwp_seq (r_reg ?_)
    refine zE ?_
    refine q_next (pwp_ret (q_seq_ret ?_))
    cases h
    exact zQ
  refine zU hb ?_
  refine pwp_skip (q_next (pwp_seq (r_reg ?_)))
  refine zE ?_
  refine q_next (pwp_ret ?_)
  cases h
  exact zQ

/-! walk.passage -/
noncomputable def d_walk_passage (a0 : T_api_Layout) : Option T_api_Layout :=
  some a0
theorem d_walk_passage_ok (a0 : T_api_Layout) (r : T_api_Layout) (h : d_walk_passage a0 = some r) : PCall Go.Proofs.Tryz.prog GlS 96 [Enc.pv a0] (.fn 122 [.cptr (cellsOf r)]) := by
  unfold d_walk_passage at h
  refine pcall_of_pwp Go.Proofs.Tryz.func96 (by rfl) rfl Go.Proofs.Tryz.ntmps96 (by rfl) rfl ?_
  refine pwp_seq (r_reg ?_)
  refine zE ?_
  refine q_next (pwp_seq (r_reg ?_))
  refine zE ?_
  refine q_next ?_
  refine g_frz 1 [] (cs := cellsOf a0) (cs' := cellsOf a0) (by kernel_rfl) (by kernel_rfl) (by kernel_rfl) (by kernel_rfl) ?_
  refine pwp_ret ?_
  cases h
  exact zQ

/-! walk.exists -/
noncomputable def d_walk_exists (a0 : T_api_Layout) (a1 : Int) : Option Bool :=
  ((bif decide (0 ≤ a1) then (
    some (decide (a1 < ((a0.Elements.length : Nat) : Int)))
  ) else some false) : Option Bool).bind fun b1 =>
  some b1
theorem d_walk_exists_ok (a0 : T_api_Layout) (a1 : Int) (r : Bool) (h : d_walk_exists a0 a1 = some r) : PCall Go.Proofs.Tryz.prog GlS 62 [Enc.pv a0, Enc.pv a1] (Enc.pv r) := by
  unfold d_walk_exists at h
  refine pcall_of_pwp Go.Proofs.Tryz.func62 (by rfl) rfl Go.Proofs.Tryz.ntmps62 (by rfl) rfl ?_
  refine pwp_seq (r_reg ?_)
  refine zE ?_
  refine q_next (pwp_seq (r_reg ?_))
  obtain ⟨b1, h1, h⟩ := o_bind h
  refine zR 3 ?_
  refine e_seg 6 13 (.bool b1) ?_ ?_
  · rcases o_cond h1 with ⟨hb, h1⟩ | ⟨hb, h1⟩
    · refine zS 7 hb ?_
      refine zR 3 ?_
      refine p_len (L := (a0.Elements : (List T_api_Element))) (by kernel_rfl) ?_
      cases h1
      exact zF
    refine zS 7 hb ?_
    cases h1
    exact zF
  refine zE ?_
  refine q_next (pwp_ret ?_)
  cases h
  exact zQ

/-! rail.Need -/
noncomputable def d_rail_Need_0 (a0 : Int) (a1 : Int) (a2 : Int) : Int → Option (Int ⊕ (Unit ⊕ (Int × Bool))) := fun x2 =>
  bif decide (x2 < 10) then (
    (ixO tab_rail_passages x2).bind fun x4 =>
    bif (((decide (x4.kind_ = a0)) && (decide (x4.in_ = a1))) && (decide (x4.out_ = a2))) then (
      some (.inr (.inr (x4.need_, true)))
    ) else (
      some (.inl (w64 (x2 + 1)))
    )
  ) else (
    some (.inr (.inl ()))
  )

noncomputable def d_rail_Need (a0 : Int) (a1 : Int) (a2 : Int) : Option (Int × Bool) :=
  onInl (α := Unit) (β := (Int × Bool)) (loopO (d_rail_Need_0 a0 a1 a2) 0) fun _ =>
  some (0, false)
theorem d_rail_Need_ok (a0 : Int) (a1 : Int) (a2 : Int) (r : (Int × Bool)) (h : d_rail_Need a0 a1 a2 = some r) : PCall Go.Proofs.Tryz.prog GlS 124 [Enc.pv a0, Enc.pv a1, Enc.pv a2] (.tup [Enc.pv r.1, Enc.pv r.2]) := by
  unfold d_rail_Need at h
  refine pcall_of_pwp Go.Proofs.Tryz.func124 (by rfl) rfl Go.Proofs.Tryz.ntmps124 (by rfl) rfl ?_
  refine pwp_seq (r_reg ?_)
  refine zE ?_
  refine q_next (pwp_seq (pwp_seq (r_reg ?_)))
  refine zE ?_
  refine q_next (pwp_block ?_)
  obtain ⟨o6, h6, h⟩ := o_inl h
  refine r_loop2 33 0 (fun x2 => ⟨[(0, .int .i64 a0), (1, .int .i64 a1), (2, .int .i64 a2), (10, .agg (tab_rail_passages.flatMap cellsOf)), (11, .int .i64 x2)], [], [], []⟩) (fun (_ : Unit) => ⟨[], [], [], []⟩) h6 (by kernel_rfl) (fun _ => by kernel_rfl) ?_ ?_
  · rintro x2 oh5 h5
    unfold d_rail_Need_0 at h5
    refine pwp_seq (r_reg ?_)
    refine zE ?_
    refine q_next (pwp_seq ?_)
    rcases o_cond h5 with ⟨hb, h5⟩ | ⟨hb, h5⟩
    · refine zT hb ?_
      refine pwp_skip (q_next (pwp_seq (pwp_block (pwp_seq (r_reg ?_)))))
      obtain ⟨x4, h7, h5⟩ := o_bind h5
      refine p_tix (tab := tab_rail_passages) h7 true 10 4 (by kernel_rfl) (by kernel_rfl) (by kernel_rfl) (by kernel_rfl) ?_
      refine zE ?_
      refine q_next (pwp_seq (r_reg ?_))
      refine zR 5 ?_
      refine e_segb 5 23 ((decide (x4.kind_ = a0)) && (decide (x4.in_ = a1))) (fun x hx => ?_) ?_
      · rcases b_and hx with ⟨hb, hx⟩ | ⟨hb, hx⟩
        · refine zS 18 hb ?_
          subst hx
          exact zF
        refine zS 18 hb ?_
        subst hx
        exact zF
      refine zR 1 ?_
      refine e_segb 5 29 (((decide (x4.kind_ = a0)) && (decide (x4.in_ = a1))) && (decide (x4.out_ = a2))) (fun x hx => ?_) ?_
      · rcases b_and hx with ⟨hb, hx⟩ | ⟨hb, hx⟩
        · refine zS 24 hb ?_
          subst hx
          exact zF
        refine zS 24 hb ?_
        subst hx
        exact zF
      refine zN ?_
      refine q_next ?_
      rcases o_cond h5 with ⟨hb, h5⟩ | ⟨hb, h5⟩
      · refine zT hb ?_
        refine pwp_seq (r_reg ?_)
        refine zE ?_
        refine q_next (pwp_ret (q_block_ret (q_seq_ret ?_)))
        cases h5
        refine q_lout_ret fun he => ?_
        subst he
        have h8 := o_outr h
        refine q_block_ret (q_seq_ret ?_)
        cases h8
        exact zQ
      refine zU hb ?_
      refine pwp_skip (q_block (q_next (r_reg ?_)))
      refine zE ?_
      cases h5
      exact zB
    refine zU hb ?_
    refine pwp_exit (q_seq_exit ?_)
    cases h5
    exact zX
  rintro _ s' rfl hs
  have h := o_outl h
  refine q_block_hit ?_
  refine q_next (pwp_wkr hs ?_)
  refine pwp_seq (r_reg ?_)
  refine zE ?_
  refine q_next (pwp_ret ?_)
  cases h
  exact zQ

/-! walk.possible -/
noncomputable def d_walk_possible (a0 : T_api_Layout) (a1 : T_api_Step) : Option (Int × Bool) :=
  (d_walk_exists a0 a1.El).bind fun r1 =>
  bif (!r1) then (
    some (0, false)
  ) else (
    (ixO a0.Elements a1.El).bind fun x2 =>
    (d_rail_Need x2.Kind a1.In a1.Out).bind fun r3 =>
    some (r3.1, r3.2)
  )
theorem d_walk_possible_ok (a0 : T_api_Layout) (a1 : T_api_Step) (r : (Int × Bool)) (h : d_walk_possible a0 a1 = some r) : PCall Go.Proofs.Tryz.prog GlS 97 [Enc.pv a0, Enc.pv a1] (.tup [Enc.pv r.1, Enc.pv r.2]) := by
  unfold d_walk_possible at h
  refine pcall_of_pwp Go.Proofs.Tryz.func97 (by rfl) rfl Go.Proofs.Tryz.ntmps97 (by rfl) rfl ?_
  refine pwp_seq (r_reg ?_)
  refine zE ?_
  refine q_next (pwp_seq (pwp_seq (r_reg ?_)))
  refine zR 3 ?_
  obtain ⟨r1, h1, h⟩ := o_bind h
  refine p_call (d_walk_exists_ok _ _ r1 h1) (by kernel_rfl) (by kernel_rfl) ?_
  refine zE ?_
  refine q_next ?_
  rcases o_cond h with ⟨hb, h⟩ | ⟨hb, h⟩
  · refine zT hb ?_
    refine pwp_seq (r_reg ?_)
    refine zE ?_
    refine q_next (pwp_ret (q_seq_ret ?_))
    cases h
    exact zQ
  refine zU hb ?_
  refine pwp_skip (q_next (pwp_seq ?_))
  refine r_regd (by kernel_rfl) (by kernel_rfl) ?_
  refine zR 4 ?_
  obtain ⟨x2, h2, h⟩ := o_bind h
  refine zI h2 ?_
  refine zR 6 ?_
  obtain ⟨r3, h3, h⟩ := o_bind h
  refine p_call (d_rail_Need_ok _ _ _ r3 h3) (by kernel_rfl) (by kernel_rfl) ?_
  refine zE ?_
  refine q_next (pwp_ret ?_)
  cases h
  exact zQ

/-! layout.Joined -/
noncomputable def d_layout_Joined_0 (a0 : T_api_Layout) (a1 : T_api_End) : Int → Option (Int ⊕ (Unit ⊕ (T_api_End × Bool))) := fun x2 =>
  bif decide (x2 < ((a0.Joints.length : Nat) : Int)) then (
    (ixO a0.Joints x2).bind fun x4 =>
    bif eq_T_api_End x4.A a1 then (
      some (.inr (.inr (x4.B, true)))
    ) else (
      bif eq_T_api_End x4.B a1 then (
        some (.inr (.inr (x4.A, true)))
      ) else (
        some (.inl (w64 (x2 + 1)))
      )
    )
  ) else (
    some (.inr (.inl ()))
  )

noncomputable def d_layout_Joined (a0 : T_api_Layout) (a1 : T_api_End) : Option (T_api_End × Bool) :=
  onInl (α := Unit) (β := (T_api_End × Bool)) (loopO (d_layout_Joined_0 a0 a1) 0) fun _ =>
  some ((T_api_End.mk 0 0), false)
theorem d_layout_Joined_ok (a0 : T_api_Layout) (a1 : T_api_End) (r : (T_api_End × Bool)) (h : d_layout_Joined a0 a1 = some r) : PCall Go.Proofs.Tryz.prog GlS 123 [Enc.pv a0, Enc.pv a1] (.tup [Enc.pv r.1, Enc.pv r.2]) := by
  unfold d_layout_Joined at h
  refine pcall_of_pwp Go.Proofs.Tryz.func123 (by rfl) rfl Go.Proofs.Tryz.ntmps123 (by rfl) rfl ?_
  refine pwp_seq (r_reg ?_)
  refine zE ?_
  refine q_next (pwp_seq (pwp_seq (r_reg ?_)))
  refine zR 2 ?_
  refine p_len (L := (a0.Joints : (List T_api_Joint))) (by kernel_rfl) ?_
  refine zE ?_
  refine q_next (pwp_block ?_)
  obtain ⟨o8, h8, h⟩ := o_inl h
  refine r_loop2 29 0 (fun x2 => ⟨[(3, .ref 3 0), (4, .ref 4 0), (9, lstOf .frozen (a0.Joints : (List T_api_Joint))), (10, .int .i64 ((a0.Joints.length : Nat) : Int)), (11, .int .i64 x2)], [(3, .cells (cellsOf a1)), (4, .cells ([.int .i64 0, .int .i64 0]))], [], []⟩) (fun (_ : Unit) => ⟨[(4, .ref 4 0)], [(4, .cells ([.int .i64 0, .int .i64 0]))], [], []⟩) h8 (by kernel_rfl) (fun _ => by kernel_rfl) ?_ ?_
  · rintro x2 oh7 h7
    unfold d_layout_Joined_0 at h7
    refine pwp_seq (r_reg ?_)
    refine zE ?_
    refine q_next (pwp_seq ?_)
    rcases o_cond h7 with ⟨hb, h7⟩ | ⟨hb, h7⟩
    · refine zT hb ?_
      refine pwp_skip (q_next (pwp_seq (pwp_block (pwp_seq (r_reg ?_)))))
      obtain ⟨x4, h9, h7⟩ := o_bind h7
      refine zI h9 ?_
      refine zE ?_
      refine q_next (pwp_seq (pwp_seq (r_reg ?_)))
      refine zE ?_
      refine q_next ?_
      rcases o_cond h7 with ⟨hb, h7⟩ | ⟨hb, h7⟩
      · refine zT hb ?_
        refine pwp_seq (r_reg ?_)
        refine zE ?_
        refine q_next (pwp_ret (q_seq_ret (q_block_ret (q_seq_ret ?_))))
        cases h7
        refine q_lout_ret fun he => ?_
        subst he
        have h10 := o_outr h
        refine q_block_ret (q_seq_ret ?_)
        cases h10
        exact zQ
      refine zU hb ?_
      refine pwp_skip (q_next (pwp_seq (r_reg ?_)))
      refine zE ?_
      refine q_next ?_
      rcases o_cond h7 with ⟨hb, h7⟩ | ⟨hb, h7⟩
      · refine zT hb ?_
        refine pwp_seq (r_reg ?_)
        refine zE ?_
        refine q_next (pwp_ret (q_block_ret (q_seq_ret ?_)))
        cases h7
        refine q_lout_ret fun he => ?_
        subst he
        have h11 := o_outr h
        refine q_block_ret (q_seq_ret ?_)
        cases h11
        exact zQ
      refine zU hb ?_
      refine pwp_skip (q_block (q_next (r_reg ?_)))
      refine zE ?_
      cases h7
      exact zB
    refine zU hb ?_
    refine pwp_exit (q_seq_exit ?_)
    cases h7
    exact zX
  rintro _ s' rfl hs
  have h := o_outl h
  refine q_block_hit ?_
  refine q_next (pwp_wkr hs ?_)
  refine pwp_seq (r_reg ?_)
  refine zE ?_
  refine q_next (pwp_ret ?_)
  cases h
  exact zQ

/-! walk.passage$1 -/
noncomputable def d_walk_passage_1 (a0 : T_api_Step) (c0 : T_api_Layout) : Option (T_api_End × Bool) :=
  (d_layout_Joined c0 (T_api_End.mk a0.El a0.Out)).bind fun r1 =>
  some (r1.1, r1.2)
theorem d_walk_passage_1_ok (a0 : T_api_Step) (c0 : T_api_Layout) (r : (T_api_End × Bool)) (h : d_walk_passage_1 a0 c0 = some r) : PCall Go.Proofs.Tryz.prog GlS 122 [Enc.pv a0, .cptr (cellsOf c0)] (.tup [Enc.pv r.1, Enc.pv r.2]) := by
  unfold d_walk_passage_1 at h
  refine pcall_of_pwp Go.Proofs.Tryz.func122 (by rfl) rfl Go.Proofs.Tryz.ntmps122 (by rfl) rfl ?_
  refine pwp_seq (r_reg ?_)
  refine zE ?_
  refine q_next (pwp_seq (r_reg ?_))
  refine zR 6 ?_
  obtain ⟨r1, h1, h⟩ := o_bind h
  refine p_call (d_layout_Joined_ok _ _ r1 h1) (by kernel_rfl) (by kernel_rfl) ?_
  refine zE ?_
  refine q_next (pwp_ret ?_)
  cases h
  exact zQ

/-! walk.Valid -/
noncomputable def d_walk_Valid_1 (x49 : T_api_Step) (x51 : (List T_api_Step)) : Int → Option (Int ⊕ (Unit ⊕ (Unit ⊕ (Int ⊕ (Unit ⊕ Bool))))) := fun x53 =>
  bif decide (x53 < ((x51.length : Nat) : Int)) then (
    (ixO x51 x53).bind fun x55 =>
    bif decide (x55.El = x49.El) then (
      some (.inr (.inr (.inr (.inr (.inr false)))))
    ) else (
      some (.inl (w64 (x53 + 1)))
    )
  ) else (
    some (.inr (.inl ()))
  )

noncomputable def d_walk_Valid_0 (a0 : T_api_Layout) (a1 : (List T_api_Step)) (r2 : T_api_Layout) : Int → Option (Int ⊕ (Unit ⊕ Bool)) := fun x21 =>
  bif decide (x21 < ((a1.length : Nat) : Int)) then (
    onInl (α := Unit) (β := (Int ⊕ (Unit ⊕ Bool))) (
      (ixO a1 x21).bind fun x49 =>
      (d_walk_possible a0 x49).bind fun r50 =>
      bif (!r50.2) then (
        some (.inr (.inr (.inr false)))
      ) else (
        (slO a1 none (some x21) none).bind fun x51 =>
        onInl (α := Unit) (β := (Unit ⊕ (Int ⊕ (Unit ⊕ Bool)))) (loopO (d_walk_Valid_1 x49 x51) 0) fun _ =>
        bif decide (x21 = 0) then (
          some (.inl ())
        ) else (
          (ixO a1 (w64 (x21 - 1))).bind fun x56 =>
          (d_walk_passage_1 x56 r2).bind fun r57 =>
          bif (((!r57.2) || (!(decide (r57.1.El = x49.El)))) || (!(decide (r57.1.Side = x49.In)))) then (
            some (.inr (.inr (.inr false)))
          ) else (
            some (.inl ())
          )
        )
      )
    ) fun _ =>
    some (.inl (w64 (x21 + 1)))
  ) else (
    some (.inr (.inl ()))
  )

noncomputable def d_walk_Valid (a0 : T_api_Layout) (a1 : (List T_api_Step)) : Option Bool :=
  ((bif decide (((a1.length : Nat) : Int) = 0) then some true else (
    some (decide (64 < ((a1.length : Nat) : Int)))
  )) : Option Bool).bind fun b1 =>
  bif b1 then (
    some false
  ) else (
    (d_walk_passage a0).bind fun r2 =>
    onInl (α := Unit) (β := Bool) (loopO (d_walk_Valid_0 a0 a1 r2) 0) fun _ =>
    some true
  )
theorem d_walk_Valid_ok (a0 : T_api_Layout) (a1 : (List T_api_Step)) (r : Bool) (h : d_walk_Valid a0 a1 = some r) : PCall Go.Proofs.Tryz.prog GlS 59 [Enc.pv a0, Enc.pv a1] (Enc.pv r) := by
  unfold d_walk_Valid at h
  refine pcall_of_pwp Go.Proofs.Tryz.func59 (by rfl) rfl Go.Proofs.Tryz.ntmps59 (by rfl) rfl ?_
  refine pwp_seq (r_reg ?_)
  refine zE ?_
  refine q_next (pwp_seq (pwp_seq (r_reg ?_)))
  refine zR 1 ?_
  refine p_len (L := (a1 : (List T_api_Step))) (by kernel_rfl) ?_
  obtain ⟨b1, h1, h⟩ := o_bind h
  refine zR 2 ?_
  refine e_seg 4 21 (.bool b1) ?_ ?_
  · rcases o_cond h1 with ⟨hb, h1⟩ | ⟨hb, h1⟩
    · refine zS 17 hb ?_
      cases h1
      exact zF
    refine zS 17 hb ?_
    refine zR 1 ?_
    refine p_len (L := (a1 : (List T_api_Step))) (by kernel_rfl) ?_
    cases h1
    exact zF
  refine zN ?_
  refine q_next ?_
  rcases o_cond h with ⟨hb, h⟩ | ⟨hb, h⟩
  · refine zT hb ?_
    refine pwp_seq (r_reg ?_)
    refine zE ?_
    refine q_next (pwp_ret (q_seq_ret ?_))
    cases h
    exact zQ
  refine zU hb ?_
  refine pwp_skip (q_next (pwp_seq (r_reg ?_)))
  refine zR 1 ?_
  obtain ⟨r2, h2, h⟩ := o_bind h
  refine p_call (d_walk_passage_ok _ r2 h2) (by kernel_rfl) (by kernel_rfl) ?_
  refine zE ?_
  refine q_next (pwp_seq (pwp_seq (r_reg ?_)))
  refine zR 1 ?_
  refine p_len (L := (a1 : (List T_api_Step))) (by kernel_rfl) ?_
  refine zE ?_
  refine q_next (pwp_block ?_)
  obtain ⟨o98, h98, h⟩ := o_inl h
  refine r_loop2 82 0 (fun x21 => ⟨[(1, lstOf .frozen (a1 : (List T_api_Step))), (2, .ref 2 0), (5, .fn 122 [.cptr (cellsOf r2)]), (24, lstOf .frozen (a1 : (List T_api_Step))), (25, .int .i64 ((a1.length : Nat) : Int)), (26, .int .i64 x21)], [(2, .cells (cellsOf a0))], [], []⟩) (fun (_ : Unit) => ⟨[], [], [], []⟩) h98 (by kernel_rfl) (fun _ => by kernel_rfl) ?_ ?_
  · rintro x21 oh97 h97
    unfold d_walk_Valid_0 at h97
    refine pwp_seq (r_reg ?_)
    refine zE ?_
    refine q_next (pwp_seq ?_)
    rcases o_cond h97 with ⟨hb, h97⟩ | ⟨hb, h97⟩
    · refine zT hb ?_
      refine pwp_skip (q_next ?_)
      obtain ⟨o122, h122, h97⟩ := o_inl h97
      refine r_join (o := o122) 82 (fun (_ : Unit) => ⟨[(1, lstOf .frozen (a1 : (List T_api_Step))), (2, .ref 2 0), (5, .fn 122 [.cptr (cellsOf r2)]), (24, lstOf .frozen (a1 : (List T_api_Step))), (25, .int .i64 ((a1.length : Nat) : Int)), (26, .int .i64 x21)], [(2, .cells (cellsOf a0))], [], []⟩) ?_ ?_
      · refine pwp_block (pwp_seq (r_reg ?_))
        refine zR 1 ?_
        obtain ⟨x49, h123, h122⟩ := o_bind h122
        refine zI h123 ?_
        refine zE ?_
        refine q_next (pwp_seq (pwp_seq (r_reg ?_)))
        refine zR 2 ?_
        obtain ⟨r50, h124, h122⟩ := o_bind h122
        refine p_call (d_walk_possible_ok _ _ r50 h124) (by kernel_rfl) (by kernel_rfl) ?_
        refine zE ?_
        refine q_next (pwp_seq (r_reg ?_))
        refine zE ?_
        refine q_next ?_
        rcases o_cond h122 with ⟨hb, h122⟩ | ⟨hb, h122⟩
        · refine zT hb ?_
          refine pwp_seq (r_reg ?_)
          refine zE ?_
          refine q_next (pwp_ret (q_seq_ret (q_block_ret ?_)))
          cases h122
          refine q_jout_ret ?_
          have h125 := o_outr h97
          cases h125
          refine q_lout_ret fun he => ?_
          subst he
          have h126 := o_outr h
          refine q_block_ret (q_seq_ret ?_)
          cases h126
          exact zQ
        refine zU hb ?_
        refine pwp_skip (q_next (pwp_seq (pwp_seq (r_reg ?_))))
        refine zR 2 ?_
        obtain ⟨x51, h127, h122⟩ := o_bind h122
        refine p_sl h127 .frozen (by kernel_rfl) (by kernel_rfl) (by kernel_rfl) ?_
        refine p_len (L := (x51 : (List T_api_Step))) (by kernel_rfl) ?_
        refine zE ?_
        refine q_next (pwp_block ?_)
        obtain ⟨o137, h137, h122⟩ := o_inl h122
        refine r_loop2 82 2 (fun x53 => ⟨[(1, lstOf .frozen (a1 : (List T_api_Step))), (2, .ref 2 0), (5, .fn 122 [.cptr (cellsOf r2)]), (6, .int .i64 x21), (7, .ref 7 0), (24, lstOf .frozen (a1 : (List T_api_Step))), (25, .int .i64 ((a1.length : Nat) : Int)), (26, .int .i64 x21), (41, lstOf .frozen (x51 : (List T_api_Step))), (42, .int .i64 ((x51.length : Nat) : Int)), (43, .int .i64 x53)], [(2, .cells (cellsOf a0)), (7, .cells (cellsOf x49))], [], []⟩) (fun (_ : Unit) => ⟨[(1, lstOf .frozen (a1 : (List T_api_Step))), (2, .ref 2 0), (5, .fn 122 [.cptr (cellsOf r2)]), (6, .int .i64 x21), (7, .ref 7 0), (24, lstOf .frozen (a1 : (List T_api_Step))), (25, .int .i64 ((a1.length : Nat) : Int)), (26, .int .i64 x21)], [(2, .cells (cellsOf a0)), (7, .cells (cellsOf x49))], [], []⟩) h137 (by kernel_rfl) (fun _ => by kernel_rfl) ?_ ?_
        · rintro x53 oh136 h136
          unfold d_walk_Valid_1 at h136
          refine pwp_seq (r_reg ?_)
          refine zE ?_
          refine q_next (pwp_seq ?_)
          rcases o_cond h136 with ⟨hb, h136⟩ | ⟨hb, h136⟩
          · refine zT hb ?_
            refine pwp_skip (q_next (pwp_seq (pwp_block (pwp_seq (r_reg ?_)))))
            obtain ⟨x55, h138, h136⟩ := o_bind h136
            refine zI h138 ?_
            refine zE ?_
            refine q_next (pwp_seq (r_reg ?_))
            refine zE ?_
            refine q_next ?_
            rcases o_cond h136 with ⟨hb, h136⟩ | ⟨hb, h136⟩
            · refine zT hb ?_
              refine pwp_seq (r_reg ?_)
              refine zE ?_
              refine q_next (pwp_ret (q_block_ret (q_seq_ret ?_)))
              cases h136
              refine q_lout_ret fun he => ?_
              subst he
              have h139 := o_outr h122
              refine q_block_ret (q_seq_ret (q_block_ret ?_))
              cases h139
              refine q_jout_ret ?_
              have h140 := o_outr h97
              cases h140
              refine q_lout_ret fun he => ?_
              subst he
              have h141 := o_outr h
              refine q_block_ret (q_seq_ret ?_)
              cases h141
              exact zQ
            refine zU hb ?_
            refine pwp_skip (q_block (q_next (r_reg ?_)))
            refine zE ?_
            cases h136
            exact zB
          refine zU hb ?_
          refine pwp_exit (q_seq_exit ?_)
          cases h136
          exact zX
        rintro _ s' rfl hs
        have h122 := o_outl h122
        refine q_block_hit ?_
        refine q_next (pwp_wkr hs ?_)
        refine pwp_seq (pwp_seq (r_reg ?_))
        refine zE ?_
        refine q_next ?_
        rcases o_cond h122 with ⟨hb, h122⟩ | ⟨hb, h122⟩
        · refine zT hb ?_
          refine pwp_exit (q_seq_exit (q_block_hit ?_))
          cases h122
          exact zJ
        refine zU hb ?_
        refine pwp_skip (q_next (pwp_seq (r_reg ?_)))
        refine zR 4 ?_
        obtain ⟨x56, h142, h122⟩ := o_bind h122
        refine zI h142 ?_
        refine zR 1 ?_
        obtain ⟨r57, h143, h122⟩ := o_bind h122
        refine p_call (d_walk_passage_1_ok _ _ r57 h143) (by kernel_rfl) (by kernel_rfl) ?_
        refine zE ?_
        refine q_next (pwp_seq (r_reg ?_))
        refine zR 3 ?_
        refine e_segb 6 73 ((!r57.2) || (!(decide (r57.1.El = x49.El)))) (fun x hx => ?_) ?_
        · rcases b_or hx with ⟨hb, hx⟩ | ⟨hb, hx⟩
          · refine zS 67 hb ?_
            subst hx
            exact zF
          refine zS 67 hb ?_
          subst hx
          exact zF
        refine zR 1 ?_
        refine e_segb 6 80 (((!r57.2) || (!(decide (r57.1.El = x49.El)))) || (!(decide (r57.1.Side = x49.In)))) (fun x hx => ?_) ?_
        · rcases b_or hx with ⟨hb, hx⟩ | ⟨hb, hx⟩
          · refine zS 74 hb ?_
            subst hx
            exact zF
          refine zS 74 hb ?_
          subst hx
          exact zF
        refine zN ?_
        refine q_next ?_
        rcases o_cond h122 with ⟨hb, h122⟩ | ⟨hb, h122⟩
        · refine zT hb ?_
          refine pwp_seq (r_reg ?_)
          refine zE ?_
          refine q_next (pwp_ret (q_block_ret ?_))
          cases h122
          refine q_jout_ret ?_
          have h144 := o_outr h97
          cases h144
          refine q_lout_ret fun he => ?_
          subst he
          have h145 := o_outr h
          refine q_block_ret (q_seq_ret ?_)
          cases h145
          exact zQ
        refine zU hb ?_
        refine pwp_skip (q_block ?_)
        cases h122
        exact zJ
      rintro _ rfl
      have h97 := o_outl h97
      refine r_reg ?_
      refine zE ?_
      cases h97
      exact zB
    refine zU hb ?_
    refine pwp_exit (q_seq_exit ?_)
    cases h97
    exact zX
  rintro _ s' rfl hs
  have h := o_outl h
  refine q_block_hit ?_
  refine q_next (pwp_wkr hs ?_)
  refine pwp_seq (r_reg ?_)
  refine zE ?_
  refine q_next (pwp_ret ?_)
  cases h
  exact zQ

/-! body.last -/
noncomputable def d_body_last (a0 : T_api_Body) : Option T_api_Step :=
  (ixO a0.Steps (w64 (((a0.Steps.length : Nat) : Int) - 1))).bind fun x1 =>
  some x1
theorem d_body_last_ok (a0 : T_api_Body) (r : T_api_Step) (h : d_body_last a0 = some r) : PCall Go.Proofs.Tryz.prog GlS 60 [Enc.pv a0] (Enc.pv r) := by
  unfold d_body_last at h
  refine pcall_of_pwp Go.Proofs.Tryz.func60 (by rfl) rfl Go.Proofs.Tryz.ntmps60 (by rfl) rfl ?_
  refine pwp_seq (r_reg ?_)
  refine zE ?_
  refine q_next (pwp_seq (r_reg ?_))
  refine zR 4 ?_
  refine p_len (L := (a0.Steps : (List T_api_Step))) (by kernel_rfl) ?_
  refine zR 1 ?_
  obtain ⟨x1, h1, h⟩ := o_bind h
  refine zI h1 ?_
  refine zE ?_
  refine q_next (pwp_ret ?_)
  cases h
  exact zQ

/-! walk.Length -/
noncomputable def d_walk_Length_0 (a0 : T_api_Layout) (a1 : (List T_api_Step)) : (Int × Int) → Option ((Int × Int) ⊕ (Int ⊕ Int)) := fun (x8, x9) =>
  bif decide (x9 < ((a1.length : Nat) : Int)) then (
    onInl (α := Int) (β := ((Int × Int) ⊕ (Int ⊕ Int))) (
      (ixO a1 x9).bind fun x22 =>
      (d_walk_exists a0 x22.El).bind fun r23 =>
      bif r23 then (
        (ixO a0.Elements x22.El).bind fun x24 =>
        some (.inl (w64 (x8 + x24.Length)))
      ) else (
        some (.inl x8)
      )
    ) fun x21 =>
    some (.inl (x21, w64 (x9 + 1)))
  ) else (
    some (.inr (.inl x8))
  )

noncomputable def d_walk_Length (a0 : T_api_Layout) (a1 : (List T_api_Step)) : Option Int :=
  onInl (α := Int) (β := Int) (loopO (d_walk_Length_0 a0 a1) (0, 0)) fun x17 =>
  some x17
theorem d_walk_Length_ok (a0 : T_api_Layout) (a1 : (List T_api_Step)) (r : Int) (h : d_walk_Length a0 a1 = some r) : PCall Go.Proofs.Tryz.prog GlS 24 [Enc.pv a0, Enc.pv a1] (Enc.pv r) := by
  unfold d_walk_Length at h
  refine pcall_of_pwp Go.Proofs.Tryz.func24 (by rfl) rfl Go.Proofs.Tryz.ntmps24 (by rfl) rfl ?_
  refine pwp_seq (r_reg ?_)
  refine zE ?_
  refine q_next (pwp_seq (r_reg ?_))
  refine zE ?_
  refine q_next (pwp_seq (pwp_seq (r_reg ?_)))
  refine zR 1 ?_
  refine p_len (L := (a1 : (List T_api_Step))) (by kernel_rfl) ?_
  refine zE ?_
  refine q_next (pwp_block ?_)
  obtain ⟨o16, h16, h⟩ := o_inl h
  refine r_loop2 29 0 (fun (x8, x9) => ⟨[(2, .ref 2 0), (5, .int .i64 x8), (8, lstOf .frozen (a1 : (List T_api_Step))), (9, .int .i64 ((a1.length : Nat) : Int)), (10, .int .i64 x9)], [(2, .cells (cellsOf a0))], [], []⟩) (fun x17 => ⟨[(5, .int .i64 x17)], [], [], []⟩) h16 (by kernel_rfl) (fun _ => by kernel_rfl) ?_ ?_
  · rintro ⟨x8, x9⟩ oh15 h15
    unfold d_walk_Length_0 at h15
    refine pwp_seq (r_reg ?_)
    refine zE ?_
    refine q_next (pwp_seq ?_)
    rcases o_cond h15 with ⟨hb, h15⟩ | ⟨hb, h15⟩
    · refine zT hb ?_
      refine pwp_skip (q_next ?_)
      obtain ⟨o20, h20, h15⟩ := o_inl h15
      refine r_join (o := o20) 29 (fun x21 => ⟨[(2, .ref 2 0), (5, .int .i64 x21), (8, lstOf .frozen (a1 : (List T_api_Step))), (9, .int .i64 ((a1.length : Nat) : Int)), (10, .int .i64 x9)], [(2, .cells (cellsOf a0))], [], []⟩) ?_ ?_
      · refine pwp_block (pwp_seq (r_reg ?_))
        obtain ⟨x22, h21, h20⟩ := o_bind h20
        refine zI h21 ?_
        refine zE ?_
        refine q_next (pwp_seq (r_reg ?_))
        refine zR 3 ?_
        obtain ⟨r23, h22, h20⟩ := o_bind h20
        refine p_call (d_walk_exists_ok _ _ r23 h22) (by kernel_rfl) (by kernel_rfl) ?_
        refine zN ?_
        refine q_next ?_
        rcases o_cond h20 with ⟨hb, h20⟩ | ⟨hb, h20⟩
        · refine zT hb ?_
          refine r_reg ?_
          refine zR 5 ?_
          obtain ⟨x24, h23, h20⟩ := o_bind h20
          refine zI h23 ?_
          refine zE ?_
          refine q_block ?_
          cases h20
          exact zJ
        refine zU hb ?_
        refine pwp_skip (q_block ?_)
        cases h20
        exact zJ
      rintro x21 rfl
      have h15 := o_outl h15
      refine r_reg ?_
      refine zE ?_
      cases h15
      exact zB
    refine zU hb ?_
    refine pwp_exit (q_seq_exit ?_)
    cases h15
    exact zX
  rintro x17 s' rfl hs
  have h := o_outl h
  refine q_block_hit ?_
  refine q_next (pwp_wkr hs ?_)
  refine pwp_seq (r_reg ?_)
  refine zE ?_
  refine q_next (pwp_ret ?_)
  cases h
  exact zQ

/-! body.rearEnd -/
noncomputable def d_body_rearEnd (a0 : T_api_Layout) (a1 : T_api_Body) : Option Int :=
  (slO a1.Steps none (some (w64 (((a1.Steps.length : Nat) : Int) - 1))) none).bind fun x1 =>
  (d_walk_Length a0 x1).bind fun r2 =>
  some (w64 ((w64 (r2 + a1.Head)) - a1.Length))
theorem d_body_rearEnd_ok (a0 : T_api_Layout) (a1 : T_api_Body) (r : Int) (h : d_body_rearEnd a0 a1 = some r) : PCall Go.Proofs.Tryz.prog GlS 61 [Enc.pv a0, Enc.pv a1] (Enc.pv r) := by
  unfold d_body_rearEnd at h
  refine pcall_of_pwp Go.Proofs.Tryz.func61 (by rfl) rfl Go.Proofs.Tryz.ntmps61 (by rfl) rfl ?_
  refine pwp_seq (r_reg ?_)
  refine zE ?_
  refine q_next (pwp_seq ?_)
  refine r_regd (by kernel_rfl) (by kernel_rfl) ?_
  refine zR 5 ?_
  refine p_len (L := (a1.Steps : (List T_api_Step))) (by kernel_rfl) ?_
  refine zR 1 ?_
  obtain ⟨x1, h1, h⟩ := o_bind h
  refine p_sl h1 .frozen (by kernel_rfl) (by kernel_rfl) (by kernel_rfl) ?_
  obtain ⟨r2, h2, h⟩ := o_bind h
  refine p_call (d_walk_Length_ok _ _ r2 h2) (by kernel_rfl) (by kernel_rfl) ?_
  refine zE ?_
  refine q_next (pwp_seq (r_reg ?_))
  refine zE ?_
  refine q_next (pwp_ret ?_)
  cases h
  exact zQ

/-! body.Check -/
noncomputable def d_body_Check (a0 : T_api_Layout) (a1 : T_api_Body) : Option Int :=
  (d_walk_Valid a0 a1.Steps).bind fun r1 =>
  ((bif ((((!r1) || (decide (a1.Length < 1))) || (decide (1000000 < a1.Length))) || (decide (a1.Head < 1))) then some true else (
    (d_body_last a1).bind fun r3 =>
    (ixO a0.Elements r3.El).bind fun x4 =>
    some (decide (x4.Length < a1.Head))
  )) : Option Bool).bind fun b2 =>
  bif b2 then (
    some 1
  ) else (
    (d_body_rearEnd a0 a1).bind fun r5 =>
    ((bif decide (r5 < 0) then some true else (
      ((bif decide (1 < ((a1.Steps.length : Nat) : Int)) then (
        (ixO a1.Steps 0).bind fun x8 =>
        (ixO a0.Elements x8.El).bind fun x9 =>
        some (decide (x9.Length ≤ r5))
      ) else some false) : Option Bool).bind fun b7 =>
      some b7
    )) : Option Bool).bind fun b6 =>
    bif b6 then (
      some 10
    ) else (
      some 0
    )
  )
theorem d_body_Check_ok (a0 : T_api_Layout) (a1 : T_api_Body) (r : Int) (h : d_body_Check a0 a1 = some r) : PCall Go.Proofs.Tryz.prog GlS 22 [Enc.pv a0, Enc.pv a1] (Enc.pv r) := by
  unfold d_body_Check at h
  refine pcall_of_pwp Go.Proofs.Tryz.func22 (by rfl) rfl Go.Proofs.Tryz.ntmps22 (by rfl) rfl ?_
  refine pwp_seq (r_reg ?_)
  refine zE ?_
  refine q_next (pwp_seq (pwp_seq ?_))
  refine r_regd (by kernel_rfl) (by kernel_rfl) ?_
  refine zR 3 ?_
  obtain ⟨r1, h1, h⟩ := o_bind h
  refine p_call (d_walk_Valid_ok _ _ r1 h1) (by kernel_rfl) (by kernel_rfl) ?_
  refine zR 2 ?_
  refine e_segb 4 15 ((!r1) || (decide (a1.Length < 1))) (fun x hx => ?_) ?_
  · rcases b_or hx with ⟨hb, hx⟩ | ⟨hb, hx⟩
    · refine zS 11 hb ?_
      subst hx
      exact zF
    refine zS 11 hb ?_
    subst hx
    exact zF
  refine zR 1 ?_
  refine e_segb 4 20 (((!r1) || (decide (a1.Length < 1))) || (decide (1000000 < a1.Length))) (fun x hx => ?_) ?_
  · rcases b_or hx with ⟨hb, hx⟩ | ⟨hb, hx⟩
    · refine zS 16 hb ?_
      subst hx
      exact zF
    refine zS 16 hb ?_
    subst hx
    exact zF
  refine zR 1 ?_
  refine e_segb 4 25 ((((!r1) || (decide (a1.Length < 1))) || (decide (1000000 < a1.Length))) || (decide (a1.Head < 1))) (fun x hx => ?_) ?_
  · rcases b_or hx with ⟨hb, hx⟩ | ⟨hb, hx⟩
    · refine zS 21 hb ?_
      subst hx
      exact zF
    refine zS 21 hb ?_
    subst hx
    exact zF
  obtain ⟨b2, h2, h⟩ := o_bind h
  refine zR 1 ?_
  refine e_seg 12 38 (.bool b2) ?_ ?_
  · rcases o_cond h2 with ⟨hb, h2⟩ | ⟨hb, h2⟩
    · refine zS 26 hb ?_
      cases h2
      exact zF
    refine zS 26 hb ?_
    refine zR 5 ?_
    obtain ⟨r3, h3, h2⟩ := o_bind h2
    refine p_call (d_body_last_ok _ r3 h3) (by kernel_rfl) (by kernel_rfl) ?_
    refine zR 1 ?_
    obtain ⟨x4, h4, h2⟩ := o_bind h2
    refine zI h4 ?_
    cases h2
    exact zF
  refine zN ?_
  refine q_next ?_
  rcases o_cond h with ⟨hb, h⟩ | ⟨hb, h⟩
  · refine zT hb ?_
    refine pwp_seq (r_reg ?_)
    refine zE ?_
    refine q_next (pwp_ret (q_seq_ret ?_))
    cases h
    exact zQ
  refine zU hb ?_
  refine pwp_skip (q_next (pwp_seq (r_reg ?_)))
  refine zR 2 ?_
  obtain ⟨r5, h5, h⟩ := o_bind h
  refine p_call (d_body_rearEnd_ok _ _ r5 h5) (by kernel_rfl) (by kernel_rfl) ?_
  refine zE ?_
  refine q_next (pwp_seq (pwp_seq ?_))
  refine r_regd (by kernel_rfl) (by kernel_rfl) ?_
  obtain ⟨b6, h6, h⟩ := o_bind h
  refine zR 3 ?_
  refine e_seg 19 63 (.bool b6) ?_ ?_
  · rcases o_cond h6 with ⟨hb, h6⟩ | ⟨hb, h6⟩
    · refine zS 44 hb ?_
      cases h6
      exact zF
    refine zS 44 hb ?_
    refine zR 2 ?_
    refine p_len (L := (a1.Steps : (List T_api_Step))) (by kernel_rfl) ?_
    obtain ⟨b7, h7, h6⟩ := o_bind h6
    refine zR 2 ?_
    refine f_seg 13 62 (.bool b7) ?_ ?_
    · rcases o_cond h7 with ⟨hb, h7⟩ | ⟨hb, h7⟩
      · refine zS 49 hb ?_
        refine zR 5 ?_
        obtain ⟨x8, h8, h7⟩ := o_bind h7
        refine zI h8 ?_
        refine zR 2 ?_
        obtain ⟨x9, h9, h7⟩ := o_bind h7
        refine zI h9 ?_
        cases h7
        exact zF
      refine zS 49 hb ?_
      cases h7
      exact zF
    cases h6
    exact zF
  refine zN ?_
  refine q_next ?_
  rcases o_cond h with ⟨hb, h⟩ | ⟨hb, h⟩
  · refine zT hb ?_
    refine pwp_seq (r_reg ?_)
    refine zE ?_
    refine q_next (pwp_ret (q_seq_ret ?_))
    cases h
    exact zQ
  refine zU hb ?_
  refine pwp_skip (q_next (pwp_seq (r_reg ?_)))
  refine zE ?_
  refine q_next (pwp_ret ?_)
  cases h
  exact zQ

/-! claims.length -/
noncomputable def d_claims_length (a0 : T_api_Layout) (a1 : T_api_Step) : Option Int :=
  (d_walk_Length a0 [a1]).bind fun r1 =>
  some r1
theorem d_claims_length_ok (a0 : T_api_Layout) (a1 : T_api_Step) (r : Int) (h : d_claims_length a0 a1 = some r) : PCall Go.Proofs.Tryz.prog GlS 25 [Enc.pv a0, Enc.pv a1] (Enc.pv r) := by
  unfold d_claims_length at h
  refine pcall_of_pwp Go.Proofs.Tryz.func25 (by rfl) rfl Go.Proofs.Tryz.ntmps25 (by rfl) rfl ?_
  refine pwp_seq (r_reg ?_)
  refine zE ?_
  refine q_next (pwp_seq (r_reg ?_))
  refine zR 3 ?_
  obtain ⟨r1, h1, h⟩ := o_bind h
  refine p_call (d_walk_Length_ok _ _ r1 h1) (by kernel_rfl) (by kernel_rfl) ?_
  refine zE ?_
  refine q_next (pwp_ret ?_)
  cases h
  exact zQ

/-! slices.Clone[[]api.Step,api.Step] -/
noncomputable def d_slices_Clone_api_Step (a0 : (List T_api_Step)) : Option (List T_api_Step) :=
  (appO ([] : (List T_api_Step)) a0).bind fun x1 =>
  some x1
theorem d_slices_Clone_api_Step_ok (a0 : (List T_api_Step)) (r : (List T_api_Step)) (h : d_slices_Clone_api_Step a0 = some r) : PCall Go.Proofs.Tryz.prog GlS 26 [Enc.pv a0] (lstOf (.own 7) r) := by
  unfold d_slices_Clone_api_Step at h
  refine pcall_of_pwp Go.Proofs.Tryz.func26 (by rfl) rfl Go.Proofs.Tryz.ntmps26 (by rfl) rfl ?_
  refine pwp_seq (r_reg ?_)
  refine zE ?_
  refine q_next (pwp_seq (pwp_seq (r_reg ?_)))
  refine zE ?_
  refine q_next ?_
  refine pwp_condU (e := ((a0 : (List T_api_Step)).map cellsOf).isEmpty) (by kernel_rfl) (fun hub => ?_) ?_
  · have hN := clone_nil (ub_nil hub) h
    refine pwp_seq (r_reg ?_)
    refine zE ?_
    refine q_next ?_
    refine g_nil 2 7 3 24 (by kernel_rfl) (by kernel_rfl) ?_
    refine pwp_ret (q_seq_ret ?_)
    cases hN
    exact zQ
  refine pwp_skip (q_next (pwp_seq (r_reg ?_)))
  refine zR 2 ?_
  obtain ⟨x1, h1, h⟩ := o_bind h
  refine p_appn (tk := 7) h1 (by kernel_rfl) ?_
  refine zE ?_
  refine q_next (pwp_ret ?_)
  cases h
  exact zQ
theorem d_slices_Clone_api_Step_fz (a0 : (List T_api_Step)) (r : (List T_api_Step)) (h : d_slices_Clone_api_Step a0 = some r) : PCall Go.Proofs.Tryz.prog GlS 26 [Enc.pv a0] (Enc.pv r) :=
  (d_slices_Clone_api_Step_ok a0 r h).freeze (by kernel_rfl) (by kernel_rfl) (by kernel_rfl)

/-! claims.Begin -/
noncomputable def d_claims_Begin (a0 : T_api_Layout) (a1 : T_api_Train) (a2 : T_api_Body) : Option (T_api_Track × Int) :=
  (d_layout_Check a0).bind fun r1 =>
  ((bif (!(decide (r1 = 0))) then some true else (
    (d_train_Check a1).bind fun r3 =>
    some (!(decide (r3 = 0)))
  )) : Option Bool).bind fun b2 =>
  ((bif b2 then some true else (
    (d_body_Check a0 a2).bind fun r5 =>
    some (!(decide (r5 = 0)))
  )) : Option Bool).bind fun b4 =>
  ((bif (b4 || (!(decide (a2.Length = a1.Length)))) then some true else (
    some (decide (((a2.Steps.length : Nat) : Int) = 0))
  )) : Option Bool).bind fun b6 =>
  bif b6 then (
    some ((T_api_Track.mk 0 0 0 0 [] [] [] [] [] 0 0 0 0 0), 1)
  ) else (
    (ixO a2.Steps (w64 (((a2.Steps.length : Nat) : Int) - 1))).bind fun x7 =>
    (d_layout_Signal a0 (T_api_End.mk x7.El x7.Out)).bind fun r8 =>
    bif decide (r8 < 0) then (
      some ((T_api_Track.mk 0 0 0 0 [] [] [] [] [] 0 0 0 0 0), 9)
    ) else (
      (slO a2.Steps none (some (w64 (((a2.Steps.length : Nat) : Int) - 1))) none).bind fun x9 =>
      (d_walk_Length a0 x9).bind fun r10 =>
      (d_claims_length a0 x7).bind fun r11 =>
      (d_slices_Clone_api_Step a2.Steps).bind fun r12 =>
      some ((T_api_Track.mk a1.Id (w64 ((w64 (0 - r10)) - a2.Head)) r8 (w64 (r11 - a2.Head)) r12 [] [] [] [] 0 0 0 0 0), 0)
    )
  )
theorem d_claims_Begin_ok (a0 : T_api_Layout) (a1 : T_api_Train) (a2 : T_api_Body) (r : (T_api_Track × Int)) (h : d_claims_Begin a0 a1 a2 = some r) : PCall Go.Proofs.Tryz.prog GlS 7 [Enc.pv a0, Enc.pv a1, Enc.pv a2] (.tup [Enc.pv r.1, Enc.pv r.2]) := by
  unfold d_claims_Begin at h
  refine pcall_of_pwp Go.Proofs.Tryz.func7 (by rfl) rfl Go.Proofs.Tryz.ntmps7 (by rfl) rfl ?_
  refine pwp_seq (r_reg ?_)
  refine zE ?_
  refine q_next (pwp_seq (pwp_seq (r_reg ?_)))
  refine zR 1 ?_
  obtain ⟨r1, h1, h⟩ := o_bind h
  refine p_call (d_layout_Check_ok _ r1 h1) (by kernel_rfl) (by kernel_rfl) ?_
  obtain ⟨b2, h2, h⟩ := o_bind h
  refine zR 2 ?_
  refine e_seg 4 18 (.bool b2) ?_ ?_
  · rcases o_cond h2 with ⟨hb, h2⟩ | ⟨hb, h2⟩
    · refine zS 14 hb ?_
      cases h2
      exact zF
    refine zS 14 hb ?_
    refine zR 1 ?_
    obtain ⟨r3, h3, h2⟩ := o_bind h2
    refine p_call (d_train_Check_ok _ r3 h3) (by kernel_rfl) (by kernel_rfl) ?_
    cases h2
    exact zF
  obtain ⟨b4, h4, h⟩ := o_bind h
  refine zR 1 ?_
  refine e_seg 5 24 (.bool b4) ?_ ?_
  · rcases o_cond h4 with ⟨hb, h4⟩ | ⟨hb, h4⟩
    · refine zS 19 hb ?_
      cases h4
      exact zF
    refine zS 19 hb ?_
    refine zR 2 ?_
    obtain ⟨r5, h5, h4⟩ := o_bind h4
    refine p_call (d_body_Check_ok _ _ r5 h5) (by kernel_rfl) (by kernel_rfl) ?_
    cases h4
    exact zF
  refine zR 1 ?_
  refine e_segb 6 31 (b4 || (!(decide (a2.Length = a1.Length)))) (fun x hx => ?_) ?_
  · rcases b_or hx with ⟨hb, hx⟩ | ⟨hb, hx⟩
    · refine zS 25 hb ?_
      subst hx
      exact zF
    refine zS 25 hb ?_
    subst hx
    exact zF
  obtain ⟨b6, h6, h⟩ := o_bind h
  refine zR 1 ?_
  refine e_seg 5 37 (.bool b6) ?_ ?_
  · rcases o_cond h6 with ⟨hb, h6⟩ | ⟨hb, h6⟩
    · refine zS 32 hb ?_
      cases h6
      exact zF
    refine zS 32 hb ?_
    refine zR 2 ?_
    refine p_len (L := (a2.Steps : (List T_api_Step))) (by kernel_rfl) ?_
    cases h6
    exact zF
  refine zN ?_
  refine q_next ?_
  rcases o_cond h with ⟨hb, h⟩ | ⟨hb, h⟩
  · refine zT hb ?_
    refine pwp_seq (r_reg ?_)
    refine zE ?_
    refine q_next (pwp_ret (q_seq_ret ?_))
    cases h
    exact zQ
  refine zU hb ?_
  refine pwp_skip (q_next (pwp_seq (r_reg ?_)))
  refine zR 2 ?_
  refine p_len (L := (a2.Steps : (List T_api_Step))) (by kernel_rfl) ?_
  refine zE ?_
  refine q_next (pwp_seq (r_reg ?_))
  refine zR 3 ?_
  obtain ⟨x7, h7, h⟩ := o_bind h
  refine zI h7 ?_
  refine zE ?_
  refine q_next (pwp_seq (r_reg ?_))
  refine zR 6 ?_
  obtain ⟨r8, h8, h⟩ := o_bind h
  refine p_call (d_layout_Signal_ok _ _ r8 h8) (by kernel_rfl) (by kernel_rfl) ?_
  refine zE ?_
  refine q_next (pwp_seq (pwp_seq (r_reg ?_)))
  refine zE ?_
  refine q_next ?_
  rcases o_cond h with ⟨hb, h⟩ | ⟨hb, h⟩
  · refine zT hb ?_
    refine pwp_seq (r_reg ?_)
    refine zE ?_
    refine q_next (pwp_ret (q_seq_ret ?_))
    cases h
    exact zQ
  refine zU hb ?_
  refine pwp_skip (q_next (pwp_seq ?_))
  refine r_regd (by kernel_rfl) (by kernel_rfl) ?_
  refine zR 6 ?_
  obtain ⟨x9, h9, h⟩ := o_bind h
  refine p_sl h9 .frozen (by kernel_rfl) (by kernel_rfl) (by kernel_rfl) ?_
  obtain ⟨r10, h10, h⟩ := o_bind h
  refine p_call (d_walk_Length_ok _ _ r10 h10) (by kernel_rfl) (by kernel_rfl) ?_
  refine zR 7 ?_
  obtain ⟨r11, h11, h⟩ := o_bind h
  refine p_call (d_claims_length_ok _ _ r11 h11) (by kernel_rfl) (by kernel_rfl) ?_
  refine zR 5 ?_
  obtain ⟨r12, h12, h⟩ := o_bind h
  refine p_call (d_slices_Clone_api_Step_fz _ r12 h12) (by kernel_rfl) (by kernel_rfl) ?_
  refine zE ?_
  refine q_next (pwp_ret ?_)
  cases h
  exact zQ

/-! claims.follow$1$1 -/
noncomputable def d_claims_follow_c1_c1 (a0 : T_api_Step) (c0 : T_api_Step) : Option Bool :=
  some (decide (a0.El = c0.El))
theorem d_claims_follow_c1_c1_ok (a0 : T_api_Step) (c0 : T_api_Step) (r : Bool) (h : d_claims_follow_c1_c1 a0 c0 = some r) : PCall Go.Proofs.Tryz.prog GlS 87 [Enc.pv a0, .cptr (cellsOf c0)] (Enc.pv r) := by
  unfold d_claims_follow_c1_c1 at h
  refine pcall_of_pwp Go.Proofs.Tryz.func87 (by rfl) rfl Go.Proofs.Tryz.ntmps87 (by rfl) rfl ?_
  refine pwp_seq (r_reg ?_)
  refine zE ?_
  refine q_next (pwp_seq (r_reg ?_))
  refine zE ?_
  refine q_next (pwp_ret ?_)
  cases h
  exact zQ

/-! slices.IndexFunc[[]api.Step,api.Step] -/
noncomputable def d_slices_IndexFunc_api_Step_0 (a0 : (List T_api_Step)) (a1_0 : T_api_Step) : Int → Option (Int ⊕ (Unit ⊕ Int)) := fun x3 =>
  bif decide (x3 < ((a0.length : Nat) : Int)) then (
    (ixO a0 x3).bind fun x6 =>
    (d_claims_follow_c1_c1 x6 a1_0).bind fun r7 =>
    bif r7 then (
      some (.inr (.inr x3))
    ) else (
      some (.inl (w64 (x3 + 1)))
    )
  ) else (
    some (.inr (.inl ()))
  )

noncomputable def d_slices_IndexFunc_api_Step__claims_follow_c1_c1 (a0 : (List T_api_Step)) (a1_0 : T_api_Step) : Option Int :=
  onInl (α := Unit) (β := Int) (loopO (d_slices_IndexFunc_api_Step_0 a0 a1_0) 0) fun _ =>
  some (-1)
theorem d_slices_IndexFunc_api_Step__claims_follow_c1_c1_ok (a0 : (List T_api_Step)) (a1_0 : T_api_Step) (r : Int) (h : d_slices_IndexFunc_api_Step__claims_follow_c1_c1 a0 a1_0 = some r) : PCall Go.Proofs.Tryz.prog GlS 120 [Enc.pv a0, .fn 87 [.cptr (cellsOf a1_0)]] (Enc.pv r) := by
  unfold d_slices_IndexFunc_api_Step__claims_follow_c1_c1 at h
  refine pcall_of_pwp Go.Proofs.Tryz.func120 (by rfl) rfl Go.Proofs.Tryz.ntmps120 (by rfl) rfl ?_
  refine pwp_seq (r_reg ?_)
  refine zE ?_
  refine q_next (pwp_seq (pwp_seq (r_reg ?_)))
  refine zR 1 ?_
  refine p_len (L := (a0 : (List T_api_Step))) (by kernel_rfl) ?_
  refine zE ?_
  refine q_next (pwp_block ?_)
  obtain ⟨o8, h8, h⟩ := o_inl h
  refine r_loop2 19 0 (fun x3 => ⟨[(0, lstOf .frozen (a0 : (List T_api_Step))), (1, .fn 87 [.cptr (cellsOf a1_0)]), (7, .int .i64 ((a0.length : Nat) : Int)), (8, .int .i64 x3)], [], [], []⟩) (fun (_ : Unit) => ⟨[], [], [], []⟩) h8 (by kernel_rfl) (fun _ => by kernel_rfl) ?_ ?_
  · rintro x3 oh7 h7
    unfold d_slices_IndexFunc_api_Step_0 at h7
    refine pwp_seq (r_reg ?_)
    refine zE ?_
    refine q_next (pwp_seq ?_)
    rcases o_cond h7 with ⟨hb, h7⟩ | ⟨hb, h7⟩
    · refine zT hb ?_
      refine pwp_skip (q_next (pwp_seq (pwp_block (pwp_seq (r_reg ?_)))))
      refine zE ?_
      refine q_next (pwp_seq (r_reg ?_))
      refine zR 3 ?_
      obtain ⟨x6, h9, h7⟩ := o_bind h7
      refine zI h9 ?_
      refine zR 1 ?_
      obtain ⟨r7, h10, h7⟩ := o_bind h7
      refine p_call (d_claims_follow_c1_c1_ok _ _ r7 h10) (by kernel_rfl) (by kernel_rfl) ?_
      refine zN ?_
      refine q_next ?_
      rcases o_cond h7 with ⟨hb, h7⟩ | ⟨hb, h7⟩
      · refine zT hb ?_
        refine pwp_seq (r_reg ?_)
        refine zE ?_
        refine q_next (pwp_ret (q_block_ret (q_seq_ret ?_)))
        cases h7
        refine q_lout_ret fun he => ?_
        subst he
        have h11 := o_outr h
        refine q_block_ret (q_seq_ret ?_)
        cases h11
        exact zQ
      refine zU hb ?_
      refine pwp_skip (q_block (q_next (r_reg ?_)))
      refine zE ?_
      cases h7
      exact zB
    refine zU hb ?_
    refine pwp_exit (q_seq_exit ?_)
    cases h7
    exact zX
  rintro _ s' rfl hs
  have h := o_outl h
  refine q_block_hit ?_
  refine q_next (pwp_wkr hs ?_)
  refine pwp_seq (r_reg ?_)
  refine zE ?_
  refine q_next (pwp_ret ?_)
  cases h
  exact zQ

/-! slices.ContainsFunc[[]api.Step,api.Step] -/
noncomputable def d_slices_ContainsFunc_api_Step__claims_follow_c1_c1 (a0 : (List T_api_Step)) (a1_0 : T_api_Step) : Option Bool :=
  (d_slices_IndexFunc_api_Step__claims_follow_c1_c1 a0 a1_0).bind fun r1 =>
  some (decide (0 ≤ r1))
theorem d_slices_ContainsFunc_api_Step__claims_follow_c1_c1_ok (a0 : (List T_api_Step)) (a1_0 : T_api_Step) (r : Bool) (h : d_slices_ContainsFunc_api_Step__claims_follow_c1_c1 a0 a1_0 = some r) : PCall Go.Proofs.Tryz.prog GlS 86 [Enc.pv a0, .fn 87 [.cptr (cellsOf a1_0)]] (Enc.pv r) := by
  unfold d_slices_ContainsFunc_api_Step__claims_follow_c1_c1 at h
  refine pcall_of_pwp Go.Proofs.Tryz.func86 (by rfl) rfl Go.Proofs.Tryz.ntmps86 (by rfl) rfl ?_
  refine pwp_seq (r_reg ?_)
  refine zE ?_
  refine q_next (pwp_seq (r_reg ?_))
  refine zR 2 ?_
  obtain ⟨r1, h1, h⟩ := o_bind h
  refine p_call (d_slices_IndexFunc_api_Step__claims_follow_c1_c1_ok _ _ r1 h1) (by kernel_rfl) (by kernel_rfl) ?_
  refine zE ?_
  refine q_next (pwp_ret ?_)
  cases h
  exact zQ

/-! claims.follow$1 -/
noncomputable def d_claims_follow_c1 (a0 : T_api_Step) (c0 : T_api_Track) : Option Bool :=
  (d_slices_ContainsFunc_api_Step__claims_follow_c1_c1 c0.Steps a0).bind fun r1 =>
  some r1
theorem d_claims_follow_c1_ok (a0 : T_api_Step) (c0 : T_api_Track) (r : Bool) (h : d_claims_follow_c1 a0 c0 = some r) : PCall Go.Proofs.Tryz.prog GlS 85 [Enc.pv a0, .cptr (cellsOf c0)] (Enc.pv r) := by
  unfold d_claims_follow_c1 at h
  refine pcall_of_pwp Go.Proofs.Tryz.func85 (by rfl) rfl Go.Proofs.Tryz.ntmps85 (by rfl) rfl ?_
  refine pwp_seq (r_reg ?_)
  refine zE ?_
  refine q_next (pwp_seq ?_)
  refine g_frz 2 [] (cs := cellsOf a0) (cs' := cellsOf a0) (by kernel_rfl) (by kernel_rfl) (by kernel_rfl) (by kernel_rfl) ?_
  refine r_reg ?_
  refine zR 3 ?_
  obtain ⟨r1, h1, h⟩ := o_bind h
  refine p_call (d_slices_ContainsFunc_api_Step__claims_follow_c1_c1_ok _ _ r1 h1) (by kernel_rfl) (by kernel_rfl) ?_
  refine zE ?_
  refine q_next (pwp_ret ?_)
  cases h
  exact zQ

end PM
