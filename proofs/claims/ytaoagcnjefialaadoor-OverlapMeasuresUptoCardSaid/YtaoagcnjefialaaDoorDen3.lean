/-
  Plain functions for the program's functions, and the proofs that the program does them. Printed by den.py.
-/
import Derived.Test.YtaoagcnjefialaaDoorDen2
namespace PM
open Go Go.RowKit
attribute [local irreducible] pops pwp

/-! signallinglaw13.alive -/
noncomputable def d_law13_alive_0 : (Int × (List T_api_Element)) → Option ((Int × (List T_api_Element)) ⊕ ((List T_api_Element) ⊕ (List T_api_Element))) := fun (x19, x20) =>
  bif decide (x19 < (([(ByteArray.mk #[97]), (ByteArray.mk #[98]), (ByteArray.mk #[99])].length : Nat) : Int)) then (
    (ixO [(ByteArray.mk #[97]), (ByteArray.mk #[98]), (ByteArray.mk #[99])] x19).bind fun x24 =>
    (appO x20 [(T_api_Element.mk x24 1 20000 0 3000 0 x19)]).bind fun x25 =>
    some (.inl (w64 (x19 + 1), x25))
  ) else (
    some (.inr (.inl x20))
  )

noncomputable def d_law13_alive_2 (x852 : T_api_End) (r922 : (List Int)) : (Int × (List T_api_Step)) → Option ((Int × (List T_api_Step)) ⊕ ((List T_api_Step) ⊕ (List T_api_Step))) := fun (x928, x929) =>
  bif decide (x928 < ((r922.length : Nat) : Int)) then (
    (ixO r922 x928).bind fun x933 =>
    (appO x929 [(T_api_Step.mk x852.El x852.Side x933)]).bind fun x934 =>
    some (.inl (w64 (x928 + 1), x934))
  ) else (
    some (.inr (.inl x929))
  )

noncomputable def d_law13_alive_1 (x13 : (List T_api_Element)) (j26 : Nat) (x27 : T_api_Signal) (r764 : (T_api_Signal × Bool)) : (Bool × T_api_End × (List T_api_Step)) → Option ((Bool × T_api_End × (List T_api_Step)) ⊕ ((List T_api_Step) ⊕ (List T_api_Step))) := fun (x851, x852, x853) =>
  ((bif x851 then (
    (d_walk_Length (T_api_Layout.mk (ByteArray.mk #[108, 105, 110, 101]) [(ByteArray.mk #[120]), (ByteArray.mk #[121]), (ByteArray.mk #[122])] x13 [(T_api_Joint.mk (T_api_End.mk 0 1) (T_api_End.mk 1 0)), (T_api_Joint.mk (T_api_End.mk 1 1) (T_api_End.mk 2 0))] (([(T_api_Signal.mk (ByteArray.mk #[115, 49]) (T_api_End.mk 0 1) 0), (T_api_Signal.mk (ByteArray.mk #[115, 50]) (T_api_End.mk 1 1) 0)] : (List T_api_Signal)).set j26 (T_api_Signal.mk x27.Name x27.At 500)) []) x853).bind fun r898 =>
    some (decide (r898 < r764.1.Overlap))
  ) else some false) : Option Bool).bind fun b897 =>
  ((bif b897 then (
    some (decide (((x853.length : Nat) : Int) < 12))
  ) else some false) : Option Bool).bind fun b899 =>
  bif b899 then (
    (d_overlap_covers x853 x852.El).bind fun r900 =>
    ((bif r900 then some true else (
      (d_layout_Section (T_api_Layout.mk (ByteArray.mk #[108, 105, 110, 101]) [(ByteArray.mk #[120]), (ByteArray.mk #[121]), (ByteArray.mk #[122])] x13 [(T_api_Joint.mk (T_api_End.mk 0 1) (T_api_End.mk 1 0)), (T_api_Joint.mk (T_api_End.mk 1 1) (T_api_End.mk 2 0))] (([(T_api_Signal.mk (ByteArray.mk #[115, 49]) (T_api_End.mk 0 1) 0), (T_api_Signal.mk (ByteArray.mk #[115, 50]) (T_api_End.mk 1 1) 0)] : (List T_api_Signal)).set j26 (T_api_Signal.mk x27.Name x27.At 500)) []) x852.El).bind fun r902 =>
      (d_overlap_obstructed r902 [1]).bind fun r903 =>
      some r903
    )) : Option Bool).bind fun b901 =>
    bif b901 then (
      some (.inr (.inl x853))
    ) else (
      Option.bind (α := (List T_api_Step)) (
        (d_walk_exists (T_api_Layout.mk (ByteArray.mk #[108, 105, 110, 101]) [(ByteArray.mk #[120]), (ByteArray.mk #[121]), (ByteArray.mk #[122])] x13 [(T_api_Joint.mk (T_api_End.mk 0 1) (T_api_End.mk 1 0)), (T_api_Joint.mk (T_api_End.mk 1 1) (T_api_End.mk 2 0))] (([(T_api_Signal.mk (ByteArray.mk #[115, 49]) (T_api_End.mk 0 1) 0), (T_api_Signal.mk (ByteArray.mk #[115, 50]) (T_api_End.mk 1 1) 0)] : (List T_api_Signal)).set j26 (T_api_Signal.mk x27.Name x27.At 500)) []) x852.El).bind fun r920 =>
        bif (!r920) then (
          some ([] : (List T_api_Step))
        ) else (
          (ixO x13 x852.El).bind fun x921 =>
          (d_rail_Legs x921.Kind x852.Side).bind fun r922 =>
          onInl (α := (List T_api_Step)) (β := (List T_api_Step)) (loopO (d_law13_alive_2 x852 r922) (0, ([] : (List T_api_Step)))) fun x932 =>
          some x932
        )
      ) fun x919 =>
      bif decide (((x919.length : Nat) : Int) = 0) then (
        some (.inr (.inl x853))
      ) else (
        (ixO x919 0).bind fun x935 =>
        (appO x853 [x935]).bind fun x936 =>
        (ixO x919 0).bind fun x937 =>
        (d_walk_Next (T_api_Layout.mk (ByteArray.mk #[108, 105, 110, 101]) [(ByteArray.mk #[120]), (ByteArray.mk #[121]), (ByteArray.mk #[122])] x13 [(T_api_Joint.mk (T_api_End.mk 0 1) (T_api_End.mk 1 0)), (T_api_Joint.mk (T_api_End.mk 1 1) (T_api_End.mk 2 0))] (([(T_api_Signal.mk (ByteArray.mk #[115, 49]) (T_api_End.mk 0 1) 0), (T_api_Signal.mk (ByteArray.mk #[115, 50]) (T_api_End.mk 1 1) 0)] : (List T_api_Signal)).set j26 (T_api_Signal.mk x27.Name x27.At 500)) []) x937).bind fun r938 =>
        some (.inl (r938.2, r938.1, x936))
      )
    )
  ) else (
    some (.inr (.inl x853))
  )

noncomputable def d_law13_alive_3 (x13 : (List T_api_Element)) (j26 : Nat) (x27 : T_api_Signal) (x763 : (List T_api_Step)) : (Int × (List T_api_Setting)) → Option ((Int × (List T_api_Setting)) ⊕ ((List T_api_Setting) ⊕ (List T_api_Setting))) := fun (x1019, x1020) =>
  bif decide (x1019 < ((x763.length : Nat) : Int)) then (
    onInl (α := (List T_api_Setting)) (β := ((Int × (List T_api_Setting)) ⊕ ((List T_api_Setting) ⊕ (List T_api_Setting)))) (
      (ixO x763 x1019).bind fun x1039 =>
      (d_walk_possible (T_api_Layout.mk (ByteArray.mk #[108, 105, 110, 101]) [(ByteArray.mk #[120]), (ByteArray.mk #[121]), (ByteArray.mk #[122])] x13 [(T_api_Joint.mk (T_api_End.mk 0 1) (T_api_End.mk 1 0)), (T_api_Joint.mk (T_api_End.mk 1 1) (T_api_End.mk 2 0))] (([(T_api_Signal.mk (ByteArray.mk #[115, 49]) (T_api_End.mk 0 1) 0), (T_api_Signal.mk (ByteArray.mk #[115, 50]) (T_api_End.mk 1 1) 0)] : (List T_api_Signal)).set j26 (T_api_Signal.mk x27.Name x27.At 500)) []) x1039).bind fun r1040 =>
      ((bif r1040.2 then (
        (ixO x13 x1039.El).bind fun x1042 =>
        some (decide (x1042.Kind = 2))
      ) else some false) : Option Bool).bind fun b1041 =>
      bif b1041 then (
        (appO x1020 [(T_api_Setting.mk x1039.El r1040.1)]).bind fun x1043 =>
        some (.inl x1043)
      ) else (
        some (.inl x1020)
      )
    ) fun x1038 =>
    some (.inl (w64 (x1019 + 1), x1038))
  ) else (
    some (.inr (.inl x1020))
  )

noncomputable def d_law13_alive_4 (x13 : (List T_api_Element)) (j26 : Nat) (x27 : T_api_Signal) (x763 : (List T_api_Step)) : (Int × (List (Int × Bool)) × (List Int)) → Option ((Int × (List (Int × Bool)) × (List Int)) ⊕ ((List Int) ⊕ (List Int))) := fun (x1115, x1116, x1117) =>
  bif decide (x1115 < ((x763.length : Nat) : Int)) then (
    onInl (α := ((List Int) × (List (Int × Bool)))) (β := ((Int × (List (Int × Bool)) × (List Int)) ⊕ ((List Int) ⊕ (List Int)))) (
      (ixO x763 x1115).bind fun x1135 =>
      (d_walk_exists (T_api_Layout.mk (ByteArray.mk #[108, 105, 110, 101]) [(ByteArray.mk #[120]), (ByteArray.mk #[121]), (ByteArray.mk #[122])] x13 [(T_api_Joint.mk (T_api_End.mk 0 1) (T_api_End.mk 1 0)), (T_api_Joint.mk (T_api_End.mk 1 1) (T_api_End.mk 2 0))] (([(T_api_Signal.mk (ByteArray.mk #[115, 49]) (T_api_End.mk 0 1) 0), (T_api_Signal.mk (ByteArray.mk #[115, 50]) (T_api_End.mk 1 1) 0)] : (List T_api_Signal)).set j26 (T_api_Signal.mk x27.Name x27.At 500)) []) x1135.El).bind fun r1136 =>
      bif (!r1136) then (
        some (.inl (x1117, x1116))
      ) else (
        (ixO x13 x1135.El).bind fun x1137 =>
        bif (!((mget (x1116 : (List (Int × Bool))) x1137.Section).getD false)) then (
          (appO x1117 [x1137.Section]).bind fun x1138 =>
          some (.inl (x1138, (mset x1137.Section true x1116)))
        ) else (
          some (.inl (x1117, x1116))
        )
      )
    ) fun (x1133, x1134) =>
    some (.inl (w64 (x1115 + 1), x1134, x1133))
  ) else (
    some (.inr (.inl x1117))
  )

noncomputable def d_law13_alive : Option Bool :=
  Option.bind (α := (List T_api_Element)) (
    onInl (α := (List T_api_Element)) (β := (List T_api_Element)) (loopO (d_law13_alive_0) (0, ([] : (List T_api_Element)))) fun x23 =>
    some x23
  ) fun x13 =>
  (xixO 0 (((([(T_api_Signal.mk (ByteArray.mk #[115, 49]) (T_api_End.mk 0 1) 0), (T_api_Signal.mk (ByteArray.mk #[115, 50]) (T_api_End.mk 1 1) 0)] : (List T_api_Signal)) : (List T_api_Signal)).map cellsOf).length) 1).bind fun j26 =>
  (xldO ([(T_api_Signal.mk (ByteArray.mk #[115, 49]) (T_api_End.mk 0 1) 0), (T_api_Signal.mk (ByteArray.mk #[115, 50]) (T_api_End.mk 1 1) 0)] : (List T_api_Signal)) (((([(T_api_Signal.mk (ByteArray.mk #[115, 49]) (T_api_End.mk 0 1) 0), (T_api_Signal.mk (ByteArray.mk #[115, 50]) (T_api_End.mk 1 1) 0)] : (List T_api_Signal)) : (List T_api_Signal)).map cellsOf).length) j26).bind fun x27 =>
  Option.bind (α := ((List T_api_Step) × (List T_api_Setting) × (List Int) × (List T_api_Step) × (List T_api_Setting) × (List Int) × (List T_api_Setting) × (List Int) × (List T_api_End))) (
    Option.bind (α := (List T_api_Step)) (
      (d_overlap_exitSignal (T_api_Layout.mk (ByteArray.mk #[108, 105, 110, 101]) [(ByteArray.mk #[120]), (ByteArray.mk #[121]), (ByteArray.mk #[122])] x13 [(T_api_Joint.mk (T_api_End.mk 0 1) (T_api_End.mk 1 0)), (T_api_Joint.mk (T_api_End.mk 1 1) (T_api_End.mk 2 0))] (([(T_api_Signal.mk (ByteArray.mk #[115, 49]) (T_api_End.mk 0 1) 0), (T_api_Signal.mk (ByteArray.mk #[115, 50]) (T_api_End.mk 1 1) 0)] : (List T_api_Signal)).set j26 (T_api_Signal.mk x27.Name x27.At 500)) []) (T_api_Route.mk ByteArray.empty 0 1 [] [] [1] 0 0 [] [] [] [] [] [])).bind fun r764 =>
      bif (!r764.2) then (
        some ([] : (List T_api_Step))
      ) else (
        (d_layout_Joined (T_api_Layout.mk (ByteArray.mk #[108, 105, 110, 101]) [(ByteArray.mk #[120]), (ByteArray.mk #[121]), (ByteArray.mk #[122])] x13 [(T_api_Joint.mk (T_api_End.mk 0 1) (T_api_End.mk 1 0)), (T_api_Joint.mk (T_api_End.mk 1 1) (T_api_End.mk 2 0))] (([(T_api_Signal.mk (ByteArray.mk #[115, 49]) (T_api_End.mk 0 1) 0), (T_api_Signal.mk (ByteArray.mk #[115, 50]) (T_api_End.mk 1 1) 0)] : (List T_api_Signal)).set j26 (T_api_Signal.mk x27.Name x27.At 500)) []) r764.1.At).bind fun r765 =>
        onInl (α := (List T_api_Step)) (β := (List T_api_Step)) (loopO (d_law13_alive_1 x13 j26 x27 r764) (r765.2, r765.1, ([] : (List T_api_Step)))) fun x896 =>
        some x896
      )
    ) fun x763 =>
    (d_slices_Clone_api_Step ([] : (List T_api_Step))).bind fun r939 =>
    (d_slices_Clone_api_Setting ([] : (List T_api_Setting))).bind fun r940 =>
    (d_slices_Clone_int [1]).bind fun r941 =>
    (d_slices_Clone_api_Setting ([] : (List T_api_Setting))).bind fun r942 =>
    (d_slices_Clone_int ([] : (List Int))).bind fun r943 =>
    (d_slices_Clone_api_End ([] : (List T_api_End))).bind fun r944 =>
    Option.bind (α := (List T_api_Setting)) (
      onInl (α := (List T_api_Setting)) (β := (List T_api_Setting)) (loopO (d_law13_alive_3 x13 j26 x27 x763) (0, ([] : (List T_api_Setting)))) fun x1032 =>
      (d_slices_SortFunc_api_Setting__walk_Settings_1 x1032).bind fun r1044 =>
      (d_slices_Compact_api_Setting r1044).bind fun r1045 =>
      some (r1045.1.take r1045.2)
    ) fun x995 =>
    Option.bind (α := (List Int)) (
      onInl (α := (List Int)) (β := (List Int)) (loopO (d_law13_alive_4 x13 j26 x27 x763) (0, ([] : (List (Int × Bool))), ([] : (List Int)))) fun x1128 =>
      some x1128
    ) fun x1092 =>
    some (r939, r940, r941, x763, x995, x1092, r942, r943, r944)
  ) fun (x579, x580, x581, x582, x583, x584, x585, x586, x587) =>
  (d_overlap_Whole (T_api_Layout.mk (ByteArray.mk #[108, 105, 110, 101]) [(ByteArray.mk #[120]), (ByteArray.mk #[121]), (ByteArray.mk #[122])] x13 [(T_api_Joint.mk (T_api_End.mk 0 1) (T_api_End.mk 1 0)), (T_api_Joint.mk (T_api_End.mk 1 1) (T_api_End.mk 2 0))] (([(T_api_Signal.mk (ByteArray.mk #[115, 49]) (T_api_End.mk 0 1) 0), (T_api_Signal.mk (ByteArray.mk #[115, 50]) (T_api_End.mk 1 1) 0)] : (List T_api_Signal)).set j26 (T_api_Signal.mk x27.Name x27.At 500)) []) (T_api_Route.mk ByteArray.empty 0 1 x579 x580 x581 0 0 x582 x583 x584 x585 x586 x587)).bind fun r1139 =>
  (xixO 0 (((([(T_api_Signal.mk (ByteArray.mk #[115, 49]) (T_api_End.mk 0 1) 0), (T_api_Signal.mk (ByteArray.mk #[115, 50]) (T_api_End.mk 1 1) 0)] : (List T_api_Signal)) : (List T_api_Signal)).map cellsOf).length) 1).bind fun j1140 =>
  (xldO (([(T_api_Signal.mk (ByteArray.mk #[115, 49]) (T_api_End.mk 0 1) 0), (T_api_Signal.mk (ByteArray.mk #[115, 50]) (T_api_End.mk 1 1) 0)] : (List T_api_Signal)).set j26 (T_api_Signal.mk x27.Name x27.At 500)) (((([(T_api_Signal.mk (ByteArray.mk #[115, 49]) (T_api_End.mk 0 1) 0), (T_api_Signal.mk (ByteArray.mk #[115, 50]) (T_api_End.mk 1 1) 0)] : (List T_api_Signal)) : (List T_api_Signal)).map cellsOf).length) j1140).bind fun x1141 =>
  ((bif decide (((x582.length : Nat) : Int) = 1) then (
    (ixO x582 0).bind fun x1143 =>
    some (eq_T_api_Step x1143 (T_api_Step.mk 2 0 1))
  ) else some false) : Option Bool).bind fun b1142 =>
  ((bif b1142 then (
    (d_ref12_SameInts x584 [2]).bind fun r1145 =>
    some r1145
  ) else some false) : Option Bool).bind fun b1144 =>
  ((bif b1144 then (
    (d_overlap_Length (T_api_Layout.mk (ByteArray.mk #[108, 105, 110, 101]) [(ByteArray.mk #[120]), (ByteArray.mk #[121]), (ByteArray.mk #[122])] x13 [(T_api_Joint.mk (T_api_End.mk 0 1) (T_api_End.mk 1 0)), (T_api_Joint.mk (T_api_End.mk 1 1) (T_api_End.mk 2 0))] ((([(T_api_Signal.mk (ByteArray.mk #[115, 49]) (T_api_End.mk 0 1) 0), (T_api_Signal.mk (ByteArray.mk #[115, 50]) (T_api_End.mk 1 1) 0)] : (List T_api_Signal)).set j26 (T_api_Signal.mk x27.Name x27.At 500)).set j1140 (T_api_Signal.mk x1141.Name x1141.At 20001)) []) (T_api_Route.mk ByteArray.empty 0 1 x579 x580 x581 0 0 x582 x583 x584 x585 x586 x587)).bind fun r1147 =>
    some (decide (r1147 = 20000))
  ) else some false) : Option Bool).bind fun b1146 =>
  ((bif (b1146 && r1139) then (
    (d_overlap_Whole (T_api_Layout.mk (ByteArray.mk #[108, 105, 110, 101]) [(ByteArray.mk #[120]), (ByteArray.mk #[121]), (ByteArray.mk #[122])] x13 [(T_api_Joint.mk (T_api_End.mk 0 1) (T_api_End.mk 1 0)), (T_api_Joint.mk (T_api_End.mk 1 1) (T_api_End.mk 2 0))] ((([(T_api_Signal.mk (ByteArray.mk #[115, 49]) (T_api_End.mk 0 1) 0), (T_api_Signal.mk (ByteArray.mk #[115, 50]) (T_api_End.mk 1 1) 0)] : (List T_api_Signal)).set j26 (T_api_Signal.mk x27.Name x27.At 500)).set j1140 (T_api_Signal.mk x1141.Name x1141.At 20001)) []) (T_api_Route.mk ByteArray.empty 0 1 x579 x580 x581 0 0 x582 x583 x584 x585 x586 x587)).bind fun r1149 =>
    some (!r1149)
  ) else some false) : Option Bool).bind fun b1148 =>
  some b1148
set_option maxRecDepth 100000 in
theorem d_law13_alive_ok (r : Bool) (h : d_law13_alive  = some r) : PCall Go.Proofs.Tryd.prog GlS 13 [] (Enc.pv r) := by
  unfold d_law13_alive at h
  refine pcall_of_pwp Go.Proofs.Tryd.func13 (by rfl) rfl Go.Proofs.Tryd.ntmps13 (by rfl) rfl ?_
  refine pwp_seq ?_
  refine r_reg ?_
  refine e_end (by kernel_rfl) ?_
  refine q_next ?_
  refine pwp_seq ?_
  refine r_regi ?_
  refine wl_ren 1 ⟨[], [], [], []⟩ 53 (by kernel_rfl) (by kernel_rfl) (by kernel_rfl) ?_
  obtain ⟨o11, h11, h⟩ := o_bind h
  refine p_inl (f := 41) (asx := []) (by kernel_rfl) Go.Proofs.Tryd.func41 (by rfl) rfl Go.Proofs.Tryd.ntmps41 (by rfl) ?_
  refine r_joinI o11 5300090 (fun x13 => ⟨[(0, .ref 0 0)], [(0, .cells ([.str (ByteArray.mk #[108, 105, 110, 101]), lstOf .full ([(ByteArray.mk #[120]), (ByteArray.mk #[121]), (ByteArray.mk #[122])] : (List ByteArray)), lstOf (.own 200102) (x13 : (List T_api_Element)), lstOf .full ([(T_api_Joint.mk (T_api_End.mk 0 1) (T_api_End.mk 1 0)), (T_api_Joint.mk (T_api_End.mk 1 1) (T_api_End.mk 2 0))] : (List T_api_Joint)), .ex 34 4 40 (((([(T_api_Signal.mk (ByteArray.mk #[115, 49]) (T_api_End.mk 0 1) 0), (T_api_Signal.mk (ByteArray.mk #[115, 50]) (T_api_End.mk 1 1) 0)] : (List T_api_Signal)) : (List T_api_Signal)).map cellsOf).length) 0 (((([(T_api_Signal.mk (ByteArray.mk #[115, 49]) (T_api_End.mk 0 1) 0), (T_api_Signal.mk (ByteArray.mk #[115, 50]) (T_api_End.mk 1 1) 0)] : (List T_api_Signal)) : (List T_api_Signal)).map cellsOf).length), .nil]))], [(200102, (((x13).map cellsOf).length, 7)), (34, (((([(T_api_Signal.mk (ByteArray.mk #[115, 49]) (T_api_End.mk 0 1) 0), (T_api_Signal.mk (ByteArray.mk #[115, 50]) (T_api_End.mk 1 1) 0)] : (List T_api_Signal)) : (List T_api_Signal)).map cellsOf).length, 0))], [(34, (4, (40, (([(T_api_Signal.mk (ByteArray.mk #[115, 49]) (T_api_End.mk 0 1) 0), (T_api_Signal.mk (ByteArray.mk #[115, 50]) (T_api_End.mk 1 1) 0)] : (List T_api_Signal)) : (List T_api_Signal)).map cellsOf)))]⟩) ?_ ?_
  · refine pwp_seq ?_
    refine r_reg ?_
    refine e_end (by kernel_rfl) ?_
    refine q_next ?_
    refine pwp_seq ?_
    refine r_reg ?_
    refine e_end (by kernel_rfl) ?_
    refine q_next ?_
    refine pwp_seq ?_
    refine pwp_seq ?_
    refine r_reg ?_
    refine p_run 1 (by kernel_rfl) ?_
    refine p_len (L := ([(ByteArray.mk #[97]), (ByteArray.mk #[98]), (ByteArray.mk #[99])] : (List ByteArray))) (by kernel_rfl) ?_
    refine e_end (by kernel_rfl) ?_
    refine q_next ?_
    refine pwp_block ?_
    refine pwp_wkr (wkr_nilH 1 2 200102 7 64 (cs := [.str (ByteArray.mk #[108, 105, 110, 101]), lstOf .full ([(ByteArray.mk #[120]), (ByteArray.mk #[121]), (ByteArray.mk #[122])] : (List ByteArray)), .nil, .nil, .nil, .nil]) (by kernel_rfl) (by kernel_rfl) (by kernel_rfl)) ?_
    obtain ⟨o19, h19, h11⟩ := o_inl h11
    refine r_loop2 5300090 0 (fun (x19, x20) => ⟨[(0, .ref 0 0), (1, .ref 1 0), (6, lstOf .full ([(ByteArray.mk #[97]), (ByteArray.mk #[98]), (ByteArray.mk #[99])] : (List ByteArray))), (7, .int .i64 (([(ByteArray.mk #[97]), (ByteArray.mk #[98]), (ByteArray.mk #[99])].length : Nat) : Int)), (8, .int .i64 x19)], [(0, .cells ([.str ByteArray.empty, .nil, .nil, .nil, .nil, .nil])), (1, .cells ([.str (ByteArray.mk #[108, 105, 110, 101]), lstOf .full ([(ByteArray.mk #[120]), (ByteArray.mk #[121]), (ByteArray.mk #[122])] : (List ByteArray)), lstOf (.own 200102) (x20 : (List T_api_Element)), .nil, .nil, .nil]))], [(200102, (((x20).map cellsOf).length, 7))], []⟩) (fun x23 => ⟨[(0, .ref 0 0), (1, .ref 1 0)], [(0, .cells ([.str ByteArray.empty, .nil, .nil, .nil, .nil, .nil])), (1, .cells ([.str (ByteArray.mk #[108, 105, 110, 101]), lstOf .full ([(ByteArray.mk #[120]), (ByteArray.mk #[121]), (ByteArray.mk #[122])] : (List ByteArray)), lstOf (.own 200102) (x23 : (List T_api_Element)), .nil, .nil, .nil]))], [(200102, (((x23).map cellsOf).length, 7))], []⟩) h19 (by kernel_rfl) (fun _ => by kernel_rfl) ?_ ?_
    · rintro ⟨x19, x20⟩ oh18 h18
      unfold d_law13_alive_0 at h18
      refine pwp_seq ?_
      refine r_reg ?_
      refine e_end (by kernel_rfl) ?_
      refine q_next ?_
      refine pwp_seq ?_
      rcases o_cond h18 with ⟨hb, h18⟩ | ⟨hb, h18⟩
      · refine r_cond_t hb (by kernel_rfl) ?_
        refine pwp_skip ?_
        refine q_next ?_
        refine pwp_seq ?_
        refine pwp_block ?_
        refine pwp_seq ?_
        refine r_reg ?_
        refine p_run 1 (by kernel_rfl) ?_
        obtain ⟨x24, h20, h18⟩ := o_bind h18
        refine p_ix h20 (by kernel_rfl) ?_
        refine e_end (by kernel_rfl) ?_
        refine q_next ?_
        refine r_reg ?_
        refine p_run 6 (by kernel_rfl) ?_
        obtain ⟨x25, h21, h18⟩ := o_bind h18
        refine p_app (tk := 200102) h21 (by kernel_rfl) (by kernel_rfl) ?_
        refine e_end (by kernel_rfl) ?_
        refine q_block ?_
        refine q_next ?_
        refine r_reg ?_
        refine e_end (by kernel_rfl) ?_
        cases h18
        exact q_lback (by kernel_rfl)
      · refine r_cond_f hb (by kernel_rfl) ?_
        refine pwp_exit ?_
        refine q_seq_exit ?_
        cases h18
        exact q_lexit (by kernel_rfl) (by kernel_rfl)
    · rintro x23 s' rfl hs
      have h11 := o_outl h11
      refine q_block_hit ?_
      refine q_next (pwp_wkr hs ?_)
      refine pwp_seq ?_
      refine r_reg ?_
      refine e_end (by kernel_rfl) ?_
      refine q_next ?_
      refine pwp_seq ?_
      refine r_reg ?_
      refine p_run 4 (by kernel_rfl) ?_
      refine p_xlit (L := ([(T_api_Signal.mk (ByteArray.mk #[115, 49]) (T_api_End.mk 0 1) 0), (T_api_Signal.mk (ByteArray.mk #[115, 50]) (T_api_End.mk 1 1) 0)] : (List T_api_Signal))) (n := 2) 34 (by kernel_rfl) (by kernel_rfl) ?_
      refine e_end (by kernel_rfl) ?_
      refine q_next ?_
      refine pwp_seq ?_
      refine r_reg ?_
      refine e_end (by kernel_rfl) ?_
      refine q_next ?_
      refine pwp_ret ?_
      cases h11
      exact q_ij (by kernel_rfl) (by kernel_rfl)
  · generalize o11 = x13 at *
    refine q_inl (r := .agg [.str (ByteArray.mk #[108, 105, 110, 101]), lstOf .full ([(ByteArray.mk #[120]), (ByteArray.mk #[121]), (ByteArray.mk #[122])] : (List ByteArray)), lstOf (.own 200102) (x13 : (List T_api_Element)), lstOf .full ([(T_api_Joint.mk (T_api_End.mk 0 1) (T_api_End.mk 1 0)), (T_api_Joint.mk (T_api_End.mk 1 1) (T_api_End.mk 2 0))] : (List T_api_Joint)), .ex 34 4 40 (((([(T_api_Signal.mk (ByteArray.mk #[115, 49]) (T_api_End.mk 0 1) 0), (T_api_Signal.mk (ByteArray.mk #[115, 50]) (T_api_End.mk 1 1) 0)] : (List T_api_Signal)) : (List T_api_Signal)).map cellsOf).length) 0 (((([(T_api_Signal.mk (ByteArray.mk #[115, 49]) (T_api_End.mk 0 1) 0), (T_api_Signal.mk (ByteArray.mk #[115, 50]) (T_api_End.mk 1 1) 0)] : (List T_api_Signal)) : (List T_api_Signal)).map cellsOf).length), .nil]) (by kernel_rfl) ?_
    refine wl_ren 2 ⟨[(4, .agg [.str (ByteArray.mk #[108, 105, 110, 101]), lstOf .full ([(ByteArray.mk #[120]), (ByteArray.mk #[121]), (ByteArray.mk #[122])] : (List ByteArray)), lstOf (.own 2200102) (x13 : (List T_api_Element)), lstOf .full ([(T_api_Joint.mk (T_api_End.mk 0 1) (T_api_End.mk 1 0)), (T_api_Joint.mk (T_api_End.mk 1 1) (T_api_End.mk 2 0))] : (List T_api_Joint)), .ex 2000034 4 40 (((([(T_api_Signal.mk (ByteArray.mk #[115, 49]) (T_api_End.mk 0 1) 0), (T_api_Signal.mk (ByteArray.mk #[115, 50]) (T_api_End.mk 1 1) 0)] : (List T_api_Signal)) : (List T_api_Signal)).map cellsOf).length) 0 (((([(T_api_Signal.mk (ByteArray.mk #[115, 49]) (T_api_End.mk 0 1) 0), (T_api_Signal.mk (ByteArray.mk #[115, 50]) (T_api_End.mk 1 1) 0)] : (List T_api_Signal)) : (List T_api_Signal)).map cellsOf).length), .nil])], [], [(2200102, (((x13).map cellsOf).length, 7)), (2000034, (((([(T_api_Signal.mk (ByteArray.mk #[115, 49]) (T_api_End.mk 0 1) 0), (T_api_Signal.mk (ByteArray.mk #[115, 50]) (T_api_End.mk 1 1) 0)] : (List T_api_Signal)) : (List T_api_Signal)).map cellsOf).length, 0))], [(2000034, (4, (40, (([(T_api_Signal.mk (ByteArray.mk #[115, 49]) (T_api_End.mk 0 1) 0), (T_api_Signal.mk (ByteArray.mk #[115, 50]) (T_api_End.mk 1 1) 0)] : (List T_api_Signal)) : (List T_api_Signal)).map cellsOf)))]⟩ 53 (by kernel_rfl) (by kernel_rfl) (by kernel_rfl) ?_
    refine wl_ren 1 ⟨[(4, .agg [.str (ByteArray.mk #[108, 105, 110, 101]), lstOf .full ([(ByteArray.mk #[120]), (ByteArray.mk #[121]), (ByteArray.mk #[122])] : (List ByteArray)), lstOf (.own 2200102) (x13 : (List T_api_Element)), lstOf .full ([(T_api_Joint.mk (T_api_End.mk 0 1) (T_api_End.mk 1 0)), (T_api_Joint.mk (T_api_End.mk 1 1) (T_api_End.mk 2 0))] : (List T_api_Joint)), .ex 2000034 4 40 (((([(T_api_Signal.mk (ByteArray.mk #[115, 49]) (T_api_End.mk 0 1) 0), (T_api_Signal.mk (ByteArray.mk #[115, 50]) (T_api_End.mk 1 1) 0)] : (List T_api_Signal)) : (List T_api_Signal)).map cellsOf).length) 0 (((([(T_api_Signal.mk (ByteArray.mk #[115, 49]) (T_api_End.mk 0 1) 0), (T_api_Signal.mk (ByteArray.mk #[115, 50]) (T_api_End.mk 1 1) 0)] : (List T_api_Signal)) : (List T_api_Signal)).map cellsOf).length), .nil])], [], [(2200102, (((x13).map cellsOf).length, 7)), (2000034, (((([(T_api_Signal.mk (ByteArray.mk #[115, 49]) (T_api_End.mk 0 1) 0), (T_api_Signal.mk (ByteArray.mk #[115, 50]) (T_api_End.mk 1 1) 0)] : (List T_api_Signal)) : (List T_api_Signal)).map cellsOf).length, 0))], [(2000034, (4, (40, (([(T_api_Signal.mk (ByteArray.mk #[115, 49]) (T_api_End.mk 0 1) 0), (T_api_Signal.mk (ByteArray.mk #[115, 50]) (T_api_End.mk 1 1) 0)] : (List T_api_Signal)) : (List T_api_Signal)).map cellsOf)))]⟩ 53 (by kernel_rfl) (by kernel_rfl) (by kernel_rfl) ?_
    refine wl_run 1 2 ?_
    refine e_end (by kernel_rfl) ?_
    refine wl_end ?_
    refine q_next ?_
    refine pwp_seq ?_
    refine r_reg ?_
    refine p_run 2 (by kernel_rfl) ?_
    obtain ⟨j26, h22, h⟩ := o_bind h
    refine p_xix (tk := 2000034) (k := 4) (N := ((([(T_api_Signal.mk (ByteArray.mk #[115, 49]) (T_api_End.mk 0 1) 0), (T_api_Signal.mk (ByteArray.mk #[115, 50]) (T_api_End.mk 1 1) 0)] : (List T_api_Signal)) : (List T_api_Signal)).map cellsOf).length) h22 (by kernel_rfl) ?_
    refine p_run 1 (by kernel_rfl) ?_
    obtain ⟨x27, h23, h⟩ := o_bind h
    refine p_xst (L := (([(T_api_Signal.mk (ByteArray.mk #[115, 49]) (T_api_End.mk 0 1) 0), (T_api_Signal.mk (ByteArray.mk #[115, 50]) (T_api_End.mk 1 1) 0)] : (List T_api_Signal)) : (List T_api_Signal))) (tk := 2000034) (N := ((([(T_api_Signal.mk (ByteArray.mk #[115, 49]) (T_api_End.mk 0 1) 0), (T_api_Signal.mk (ByteArray.mk #[115, 50]) (T_api_End.mk 1 1) 0)] : (List T_api_Signal)) : (List T_api_Signal)).map cellsOf).length) (j := j26) (y := x27) (y' := (T_api_Signal.mk x27.Name x27.At 500)) h23 3 1 [.int .i64 500] (by kernel_rfl) (by kernel_rfl) ?_
    refine e_nil (by kernel_rfl) ?_
    refine q_next ?_
    refine pwp_seq ?_
    refine pwp_wkr (wkr_lock [2000034] ⟨[(1, .ref 1 0)], [(1, .cells ([.str (ByteArray.mk #[108, 105, 110, 101]), lstOf .full ([(ByteArray.mk #[120]), (ByteArray.mk #[121]), (ByteArray.mk #[122])] : (List ByteArray)), lstOf (.own 2200102) (x13 : (List T_api_Element)), lstOf .full ([(T_api_Joint.mk (T_api_End.mk 0 1) (T_api_End.mk 1 0)), (T_api_Joint.mk (T_api_End.mk 1 1) (T_api_End.mk 2 0))] : (List T_api_Joint)), .ex 502000034 4 40 (((([(T_api_Signal.mk (ByteArray.mk #[115, 49]) (T_api_End.mk 0 1) 0), (T_api_Signal.mk (ByteArray.mk #[115, 50]) (T_api_End.mk 1 1) 0)] : (List T_api_Signal)) : (List T_api_Signal)).map cellsOf).length) 0 (((([(T_api_Signal.mk (ByteArray.mk #[115, 49]) (T_api_End.mk 0 1) 0), (T_api_Signal.mk (ByteArray.mk #[115, 50]) (T_api_End.mk 1 1) 0)] : (List T_api_Signal)) : (List T_api_Signal)).map cellsOf).length), .nil]))], [(2200102, (((x13).map cellsOf).length, 7)), (502000034, (((([(T_api_Signal.mk (ByteArray.mk #[115, 49]) (T_api_End.mk 0 1) 0), (T_api_Signal.mk (ByteArray.mk #[115, 50]) (T_api_End.mk 1 1) 0)] : (List T_api_Signal)) : (List T_api_Signal)).map cellsOf).length, 0))], [(502000034, (4, (40, ((([(T_api_Signal.mk (ByteArray.mk #[115, 49]) (T_api_End.mk 0 1) 0), (T_api_Signal.mk (ByteArray.mk #[115, 50]) (T_api_End.mk 1 1) 0)] : (List T_api_Signal)).set j26 (T_api_Signal.mk x27.Name x27.At 500)) : (List T_api_Signal)).map cellsOf)))]⟩ 53 (by kernel_rfl) (by kernel_rfl) (by kernel_rfl)) ?_
    refine r_regi ?_
    refine wl_run 0 3 ?_
    refine e_end (by kernel_rfl) ?_
    refine wl_ren 3 ⟨[(1, .ref 3001 0), (9, .agg [.str (ByteArray.mk #[108, 105, 110, 101]), lstOf .full ([(ByteArray.mk #[120]), (ByteArray.mk #[121]), (ByteArray.mk #[122])] : (List ByteArray)), lstOf (.own 2200102) (x13 : (List T_api_Element)), lstOf .full ([(T_api_Joint.mk (T_api_End.mk 0 1) (T_api_End.mk 1 0)), (T_api_Joint.mk (T_api_End.mk 1 1) (T_api_End.mk 2 0))] : (List T_api_Joint)), .ex 502000034 4 40 (((([(T_api_Signal.mk (ByteArray.mk #[115, 49]) (T_api_End.mk 0 1) 0), (T_api_Signal.mk (ByteArray.mk #[115, 50]) (T_api_End.mk 1 1) 0)] : (List T_api_Signal)) : (List T_api_Signal)).map cellsOf).length) 0 (((([(T_api_Signal.mk (ByteArray.mk #[115, 49]) (T_api_End.mk 0 1) 0), (T_api_Signal.mk (ByteArray.mk #[115, 50]) (T_api_End.mk 1 1) 0)] : (List T_api_Signal)) : (List T_api_Signal)).map cellsOf).length), .nil]), (11, .agg [.str ByteArray.empty, .int .i64 0, .int .i64 1, .nil, .nil, lstOf .full ([1] : (List Int)), .int .i64 0, .int .i64 0, .nil, .nil, .nil, .nil, .nil, .nil])], [(3001, .cells ([.str (ByteArray.mk #[108, 105, 110, 101]), lstOf .full ([(ByteArray.mk #[120]), (ByteArray.mk #[121]), (ByteArray.mk #[122])] : (List ByteArray)), lstOf (.own 2200102) (x13 : (List T_api_Element)), lstOf .full ([(T_api_Joint.mk (T_api_End.mk 0 1) (T_api_End.mk 1 0)), (T_api_Joint.mk (T_api_End.mk 1 1) (T_api_End.mk 2 0))] : (List T_api_Joint)), .ex 502000034 4 40 (((([(T_api_Signal.mk (ByteArray.mk #[115, 49]) (T_api_End.mk 0 1) 0), (T_api_Signal.mk (ByteArray.mk #[115, 50]) (T_api_End.mk 1 1) 0)] : (List T_api_Signal)) : (List T_api_Signal)).map cellsOf).length) 0 (((([(T_api_Signal.mk (ByteArray.mk #[115, 49]) (T_api_End.mk 0 1) 0), (T_api_Signal.mk (ByteArray.mk #[115, 50]) (T_api_End.mk 1 1) 0)] : (List T_api_Signal)) : (List T_api_Signal)).map cellsOf).length), .nil]))], [(2200102, (((x13).map cellsOf).length, 7)), (502000034, (((([(T_api_Signal.mk (ByteArray.mk #[115, 49]) (T_api_End.mk 0 1) 0), (T_api_Signal.mk (ByteArray.mk #[115, 50]) (T_api_End.mk 1 1) 0)] : (List T_api_Signal)) : (List T_api_Signal)).map cellsOf).length, 0))], [(502000034, (4, (40, ((([(T_api_Signal.mk (ByteArray.mk #[115, 49]) (T_api_End.mk 0 1) 0), (T_api_Signal.mk (ByteArray.mk #[115, 50]) (T_api_End.mk 1 1) 0)] : (List T_api_Signal)).set j26 (T_api_Signal.mk x27.Name x27.At 500)) : (List T_api_Signal)).map cellsOf)))]⟩ 53 (by kernel_rfl) (by kernel_rfl) (by kernel_rfl) ?_
    obtain ⟨o515, h515, h⟩ := o_bind h
    refine p_inl (f := 11) (asx := [.agg [.str (ByteArray.mk #[108, 105, 110, 101]), lstOf .full ([(ByteArray.mk #[120]), (ByteArray.mk #[121]), (ByteArray.mk #[122])] : (List ByteArray)), lstOf (.own 2200102) (x13 : (List T_api_Element)), lstOf .full ([(T_api_Joint.mk (T_api_End.mk 0 1) (T_api_End.mk 1 0)), (T_api_Joint.mk (T_api_End.mk 1 1) (T_api_End.mk 2 0))] : (List T_api_Joint)), .ex 502000034 4 40 (((([(T_api_Signal.mk (ByteArray.mk #[115, 49]) (T_api_End.mk 0 1) 0), (T_api_Signal.mk (ByteArray.mk #[115, 50]) (T_api_End.mk 1 1) 0)] : (List T_api_Signal)) : (List T_api_Signal)).map cellsOf).length) 0 (((([(T_api_Signal.mk (ByteArray.mk #[115, 49]) (T_api_End.mk 0 1) 0), (T_api_Signal.mk (ByteArray.mk #[115, 50]) (T_api_End.mk 1 1) 0)] : (List T_api_Signal)) : (List T_api_Signal)).map cellsOf).length), .nil], .agg [.str ByteArray.empty, .int .i64 0, .int .i64 1, .nil, .nil, lstOf .full ([1] : (List Int)), .int .i64 0, .int .i64 0, .nil, .nil, .nil, .nil, .nil, .nil]]) (by kernel_rfl) Go.Proofs.Tryd.func11 (by rfl) rfl Go.Proofs.Tryd.ntmps11 (by rfl) ?_
    refine r_joinI o515 5300097 (fun (x579, x580, x581, x582, x583, x584, x585, x586, x587) => ⟨[(4, .ref 4 0), (45, .ref 3001 0)], [(4, .cells ([.str ByteArray.empty, .int .i64 0, .int .i64 1, lstOf (.own 11007) (x579 : (List T_api_Step)), lstOf (.own 15007) (x580 : (List T_api_Setting)), lstOf (.own 19007) (x581 : (List Int)), .int .i64 0, .int .i64 0, lstOf (.own 6100007) (x582 : (List T_api_Step)), lstOf .frozen (x583 : (List T_api_Setting)), lstOf (.own 12100005) (x584 : (List Int)), lstOf (.own 23007) (x585 : (List T_api_Setting)), lstOf (.own 27007) (x586 : (List Int)), lstOf (.own 31007) (x587 : (List T_api_End))])), (3001, .cells ([.str (ByteArray.mk #[108, 105, 110, 101]), lstOf .full ([(ByteArray.mk #[120]), (ByteArray.mk #[121]), (ByteArray.mk #[122])] : (List ByteArray)), lstOf (.own 2200102) (x13 : (List T_api_Element)), lstOf .full ([(T_api_Joint.mk (T_api_End.mk 0 1) (T_api_End.mk 1 0)), (T_api_Joint.mk (T_api_End.mk 1 1) (T_api_End.mk 2 0))] : (List T_api_Joint)), .ex 502000034 4 40 (((([(T_api_Signal.mk (ByteArray.mk #[115, 49]) (T_api_End.mk 0 1) 0), (T_api_Signal.mk (ByteArray.mk #[115, 50]) (T_api_End.mk 1 1) 0)] : (List T_api_Signal)) : (List T_api_Signal)).map cellsOf).length) 0 (((([(T_api_Signal.mk (ByteArray.mk #[115, 49]) (T_api_End.mk 0 1) 0), (T_api_Signal.mk (ByteArray.mk #[115, 50]) (T_api_End.mk 1 1) 0)] : (List T_api_Signal)) : (List T_api_Signal)).map cellsOf).length), .nil]))], [(11007, (((x579).map cellsOf).length, 3)), (15007, (((x580).map cellsOf).length, 2)), (19007, (((x581).map cellsOf).length, 1)), (23007, (((x585).map cellsOf).length, 2)), (27007, (((x586).map cellsOf).length, 1)), (31007, (((x587).map cellsOf).length, 2)), (2200102, (((x13).map cellsOf).length, 7)), (6100007, (((x582).map cellsOf).length, 3)), (12100005, (((x584).map cellsOf).length, 1)), (502000034, (((([(T_api_Signal.mk (ByteArray.mk #[115, 49]) (T_api_End.mk 0 1) 0), (T_api_Signal.mk (ByteArray.mk #[115, 50]) (T_api_End.mk 1 1) 0)] : (List T_api_Signal)) : (List T_api_Signal)).map cellsOf).length, 0))], [(502000034, (4, (40, ((([(T_api_Signal.mk (ByteArray.mk #[115, 49]) (T_api_End.mk 0 1) 0), (T_api_Signal.mk (ByteArray.mk #[115, 50]) (T_api_End.mk 1 1) 0)] : (List T_api_Signal)).set j26 (T_api_Signal.mk x27.Name x27.At 500)) : (List T_api_Signal)).map cellsOf)))]⟩) ?_ ?_
    · refine pwp_seq ?_
      refine r_reg ?_
      refine e_end (by kernel_rfl) ?_
      refine q_next ?_
      refine pwp_seq ?_
      refine r_regi ?_
      refine wl_run 0 2 ?_
      refine e_end (by kernel_rfl) ?_
      refine wl_ren 5 ⟨[(2, .ref 5002 0), (3, .ref 5003 0), (4, .ref 5004 0), (6, .agg [.str (ByteArray.mk #[108, 105, 110, 101]), lstOf .full ([(ByteArray.mk #[120]), (ByteArray.mk #[121]), (ByteArray.mk #[122])] : (List ByteArray)), lstOf (.own 2200102) (x13 : (List T_api_Element)), lstOf .full ([(T_api_Joint.mk (T_api_End.mk 0 1) (T_api_End.mk 1 0)), (T_api_Joint.mk (T_api_End.mk 1 1) (T_api_End.mk 2 0))] : (List T_api_Joint)), .ex 502000034 4 40 (((([(T_api_Signal.mk (ByteArray.mk #[115, 49]) (T_api_End.mk 0 1) 0), (T_api_Signal.mk (ByteArray.mk #[115, 50]) (T_api_End.mk 1 1) 0)] : (List T_api_Signal)) : (List T_api_Signal)).map cellsOf).length) 0 (((([(T_api_Signal.mk (ByteArray.mk #[115, 49]) (T_api_End.mk 0 1) 0), (T_api_Signal.mk (ByteArray.mk #[115, 50]) (T_api_End.mk 1 1) 0)] : (List T_api_Signal)) : (List T_api_Signal)).map cellsOf).length), .nil]), (7, .agg [.str ByteArray.empty, .int .i64 0, .int .i64 1, .nil, .nil, lstOf .full ([1] : (List Int)), .int .i64 0, .int .i64 0, .nil, .nil, .nil, .nil, .nil, .nil]), (45, .ref 3001 0)], [(3001, .cells ([.str (ByteArray.mk #[108, 105, 110, 101]), lstOf .full ([(ByteArray.mk #[120]), (ByteArray.mk #[121]), (ByteArray.mk #[122])] : (List ByteArray)), lstOf (.own 2200102) (x13 : (List T_api_Element)), lstOf .full ([(T_api_Joint.mk (T_api_End.mk 0 1) (T_api_End.mk 1 0)), (T_api_Joint.mk (T_api_End.mk 1 1) (T_api_End.mk 2 0))] : (List T_api_Joint)), .ex 502000034 4 40 (((([(T_api_Signal.mk (ByteArray.mk #[115, 49]) (T_api_End.mk 0 1) 0), (T_api_Signal.mk (ByteArray.mk #[115, 50]) (T_api_End.mk 1 1) 0)] : (List T_api_Signal)) : (List T_api_Signal)).map cellsOf).length) 0 (((([(T_api_Signal.mk (ByteArray.mk #[115, 49]) (T_api_End.mk 0 1) 0), (T_api_Signal.mk (ByteArray.mk #[115, 50]) (T_api_End.mk 1 1) 0)] : (List T_api_Signal)) : (List T_api_Signal)).map cellsOf).length), .nil])), (5002, .cells ([.str (ByteArray.mk #[108, 105, 110, 101]), lstOf .full ([(ByteArray.mk #[120]), (ByteArray.mk #[121]), (ByteArray.mk #[122])] : (List ByteArray)), lstOf (.own 2200102) (x13 : (List T_api_Element)), lstOf .full ([(T_api_Joint.mk (T_api_End.mk 0 1) (T_api_End.mk 1 0)), (T_api_Joint.mk (T_api_End.mk 1 1) (T_api_End.mk 2 0))] : (List T_api_Joint)), .ex 502000034 4 40 (((([(T_api_Signal.mk (ByteArray.mk #[115, 49]) (T_api_End.mk 0 1) 0), (T_api_Signal.mk (ByteArray.mk #[115, 50]) (T_api_End.mk 1 1) 0)] : (List T_api_Signal)) : (List T_api_Signal)).map cellsOf).length) 0 (((([(T_api_Signal.mk (ByteArray.mk #[115, 49]) (T_api_End.mk 0 1) 0), (T_api_Signal.mk (ByteArray.mk #[115, 50]) (T_api_End.mk 1 1) 0)] : (List T_api_Signal)) : (List T_api_Signal)).map cellsOf).length), .nil])), (5003, .cells ([.str ByteArray.empty, .int .i64 0, .int .i64 1, .nil, .nil, lstOf .full ([1] : (List Int)), .int .i64 0, .int .i64 0, .nil, .nil, .nil, .nil, .nil, .nil])), (5004, .cells ([.str ByteArray.empty, .int .i64 0, .int .i64 0, .nil, .nil, .nil, .int .i64 0, .int .i64 0, .nil, .nil, .nil, .nil, .nil, .nil]))], [(2200102, (((x13).map cellsOf).length, 7)), (502000034, (((([(T_api_Signal.mk (ByteArray.mk #[115, 49]) (T_api_End.mk 0 1) 0), (T_api_Signal.mk (ByteArray.mk #[115, 50]) (T_api_End.mk 1 1) 0)] : (List T_api_Signal)) : (List T_api_Signal)).map cellsOf).length, 0))], [(502000034, (4, (40, ((([(T_api_Signal.mk (ByteArray.mk #[115, 49]) (T_api_End.mk 0 1) 0), (T_api_Signal.mk (ByteArray.mk #[115, 50]) (T_api_End.mk 1 1) 0)] : (List T_api_Signal)).set j26 (T_api_Signal.mk x27.Name x27.At 500)) : (List T_api_Signal)).map cellsOf)))]⟩ 5300097 (by kernel_rfl) (by kernel_rfl) (by kernel_rfl) ?_
      obtain ⟨o671, h671, h515⟩ := o_bind h515
      refine p_inl (f := 29) (asx := [.agg [.str (ByteArray.mk #[108, 105, 110, 101]), lstOf .full ([(ByteArray.mk #[120]), (ByteArray.mk #[121]), (ByteArray.mk #[122])] : (List ByteArray)), lstOf (.own 2200102) (x13 : (List T_api_Element)), lstOf .full ([(T_api_Joint.mk (T_api_End.mk 0 1) (T_api_End.mk 1 0)), (T_api_Joint.mk (T_api_End.mk 1 1) (T_api_End.mk 2 0))] : (List T_api_Joint)), .ex 502000034 4 40 (((([(T_api_Signal.mk (ByteArray.mk #[115, 49]) (T_api_End.mk 0 1) 0), (T_api_Signal.mk (ByteArray.mk #[115, 50]) (T_api_End.mk 1 1) 0)] : (List T_api_Signal)) : (List T_api_Signal)).map cellsOf).length) 0 (((([(T_api_Signal.mk (ByteArray.mk #[115, 49]) (T_api_End.mk 0 1) 0), (T_api_Signal.mk (ByteArray.mk #[115, 50]) (T_api_End.mk 1 1) 0)] : (List T_api_Signal)) : (List T_api_Signal)).map cellsOf).length), .nil], .agg [.str ByteArray.empty, .int .i64 0, .int .i64 1, .nil, .nil, lstOf .full ([1] : (List Int)), .int .i64 0, .int .i64 0, .nil, .nil, .nil, .nil, .nil, .nil]]) (by kernel_rfl) Go.Proofs.Tryd.func29 (by rfl) rfl Go.Proofs.Tryd.ntmps29 (by rfl) ?_
      refine r_joinI o671 9700170 (fun x763 => ⟨[(4, lstOf (.own 100007) (x763 : (List T_api_Step))), (75, .ref 5002 0), (76, .ref 5003 0), (77, .ref 5004 0), (118, .ref 3001 0)], [(3001, .cells ([.str (ByteArray.mk #[108, 105, 110, 101]), lstOf .full ([(ByteArray.mk #[120]), (ByteArray.mk #[121]), (ByteArray.mk #[122])] : (List ByteArray)), lstOf (.own 2200102) (x13 : (List T_api_Element)), lstOf .full ([(T_api_Joint.mk (T_api_End.mk 0 1) (T_api_End.mk 1 0)), (T_api_Joint.mk (T_api_End.mk 1 1) (T_api_End.mk 2 0))] : (List T_api_Joint)), .ex 502000034 4 40 (((([(T_api_Signal.mk (ByteArray.mk #[115, 49]) (T_api_End.mk 0 1) 0), (T_api_Signal.mk (ByteArray.mk #[115, 50]) (T_api_End.mk 1 1) 0)] : (List T_api_Signal)) : (List T_api_Signal)).map cellsOf).length) 0 (((([(T_api_Signal.mk (ByteArray.mk #[115, 49]) (T_api_End.mk 0 1) 0), (T_api_Signal.mk (ByteArray.mk #[115, 50]) (T_api_End.mk 1 1) 0)] : (List T_api_Signal)) : (List T_api_Signal)).map cellsOf).length), .nil])), (5002, .cells ([.str (ByteArray.mk #[108, 105, 110, 101]), lstOf .full ([(ByteArray.mk #[120]), (ByteArray.mk #[121]), (ByteArray.mk #[122])] : (List ByteArray)), lstOf (.own 2200102) (x13 : (List T_api_Element)), lstOf .full ([(T_api_Joint.mk (T_api_End.mk 0 1) (T_api_End.mk 1 0)), (T_api_Joint.mk (T_api_End.mk 1 1) (T_api_End.mk 2 0))] : (List T_api_Joint)), .ex 502000034 4 40 (((([(T_api_Signal.mk (ByteArray.mk #[115, 49]) (T_api_End.mk 0 1) 0), (T_api_Signal.mk (ByteArray.mk #[115, 50]) (T_api_End.mk 1 1) 0)] : (List T_api_Signal)) : (List T_api_Signal)).map cellsOf).length) 0 (((([(T_api_Signal.mk (ByteArray.mk #[115, 49]) (T_api_End.mk 0 1) 0), (T_api_Signal.mk (ByteArray.mk #[115, 50]) (T_api_End.mk 1 1) 0)] : (List T_api_Signal)) : (List T_api_Signal)).map cellsOf).length), .nil])), (5003, .cells ([.str ByteArray.empty, .int .i64 0, .int .i64 1, .nil, .nil, lstOf .full ([1] : (List Int)), .int .i64 0, .int .i64 0, .nil, .nil, .nil, .nil, .nil, .nil])), (5004, .cells ([.str ByteArray.empty, .int .i64 0, .int .i64 0, .nil, .nil, .nil, .int .i64 0, .int .i64 0, .nil, .nil, .nil, .nil, .nil, .nil]))], [(100007, (((x763).map cellsOf).length, 3)), (2200102, (((x13).map cellsOf).length, 7)), (502000034, (((([(T_api_Signal.mk (ByteArray.mk #[115, 49]) (T_api_End.mk 0 1) 0), (T_api_Signal.mk (ByteArray.mk #[115, 50]) (T_api_End.mk 1 1) 0)] : (List T_api_Signal)) : (List T_api_Signal)).map cellsOf).length, 0))], [(502000034, (4, (40, ((([(T_api_Signal.mk (ByteArray.mk #[115, 49]) (T_api_End.mk 0 1) 0), (T_api_Signal.mk (ByteArray.mk #[115, 50]) (T_api_End.mk 1 1) 0)] : (List T_api_Signal)).set j26 (T_api_Signal.mk x27.Name x27.At 500)) : (List T_api_Signal)).map cellsOf)))]⟩) ?_ ?_
      · refine pwp_seq ?_
        refine r_reg ?_
        refine e_end (by kernel_rfl) ?_
        refine q_next ?_
        refine pwp_seq ?_
        refine r_reg ?_
        refine p_run 2 (by kernel_rfl) ?_
        obtain ⟨r764, h672, h671⟩ := o_bind h671
        refine p_callB [502000034] (d_overlap_exitSignal_ok _ _ r764 h672) (by kernel_rfl) (by kernel_rfl) (by kernel_rfl) ?_
        refine e_end (by kernel_rfl) ?_
        refine q_next ?_
        refine pwp_seq ?_
        refine pwp_seq ?_
        refine r_reg ?_
        refine e_end (by kernel_rfl) ?_
        refine q_next ?_
        rcases o_cond h671 with ⟨hb, h671⟩ | ⟨hb, h671⟩
        · refine r_cond_t hb (by kernel_rfl) ?_
          refine pwp_seq ?_
          refine r_reg ?_
          refine e_end (by kernel_rfl) ?_
          refine q_next ?_
          refine pwp_ret ?_
          refine q_seq_ret ?_
          cases h671
          exact q_ij_w (wkr_nil 4 100007 3 24 (by kernel_rfl) (by kernel_rfl)) (by kernel_rfl) (by kernel_rfl)
        · refine r_cond_f hb (by kernel_rfl) ?_
          refine pwp_skip ?_
          refine q_next ?_
          refine pwp_seq ?_
          refine r_reg ?_
          refine e_end (by kernel_rfl) ?_
          refine q_next ?_
          refine pwp_seq ?_
          refine r_reg ?_
          refine p_run 3 (by kernel_rfl) ?_
          obtain ⟨r765, h673, h671⟩ := o_bind h671
          refine p_callB [502000034] (d_layout_Joined_ok _ _ r765 h673) (by kernel_rfl) (by kernel_rfl) (by kernel_rfl) ?_
          refine e_end (by kernel_rfl) ?_
          refine q_next ?_
          refine pwp_seq ?_
          refine pwp_block ?_
          refine g_nil 7 100007 3 24 (by kernel_rfl) (by kernel_rfl) ?_
          obtain ⟨o788, h788, h671⟩ := o_inl h671
          refine r_loop2 9700170 0 (fun (x851, x852, x853) => ⟨[(2, .ref 2 0), (3, .ref 3 0), (5, .ref 5 0), (6, .bool x851), (7, lstOf (.own 100007) (x853 : (List T_api_Step))), (8, .ref 8 0), (75, .ref 5002 0), (76, .ref 5003 0), (77, .ref 5004 0), (118, .ref 3001 0)], [(2, .cells ([.str (ByteArray.mk #[108, 105, 110, 101]), lstOf .full ([(ByteArray.mk #[120]), (ByteArray.mk #[121]), (ByteArray.mk #[122])] : (List ByteArray)), lstOf (.own 2200102) (x13 : (List T_api_Element)), lstOf .full ([(T_api_Joint.mk (T_api_End.mk 0 1) (T_api_End.mk 1 0)), (T_api_Joint.mk (T_api_End.mk 1 1) (T_api_End.mk 2 0))] : (List T_api_Joint)), .ex 502000034 4 40 (((([(T_api_Signal.mk (ByteArray.mk #[115, 49]) (T_api_End.mk 0 1) 0), (T_api_Signal.mk (ByteArray.mk #[115, 50]) (T_api_End.mk 1 1) 0)] : (List T_api_Signal)) : (List T_api_Signal)).map cellsOf).length) 0 (((([(T_api_Signal.mk (ByteArray.mk #[115, 49]) (T_api_End.mk 0 1) 0), (T_api_Signal.mk (ByteArray.mk #[115, 50]) (T_api_End.mk 1 1) 0)] : (List T_api_Signal)) : (List T_api_Signal)).map cellsOf).length), .nil])), (3, .cells ([.str ByteArray.empty, .int .i64 0, .int .i64 1, .nil, .nil, lstOf .full ([1] : (List Int)), .int .i64 0, .int .i64 0, .nil, .nil, .nil, .nil, .nil, .nil])), (5, .cells (cellsOf r764.1)), (8, .cells (cellsOf x852)), (3001, .cells ([.str (ByteArray.mk #[108, 105, 110, 101]), lstOf .full ([(ByteArray.mk #[120]), (ByteArray.mk #[121]), (ByteArray.mk #[122])] : (List ByteArray)), lstOf (.own 2200102) (x13 : (List T_api_Element)), lstOf .full ([(T_api_Joint.mk (T_api_End.mk 0 1) (T_api_End.mk 1 0)), (T_api_Joint.mk (T_api_End.mk 1 1) (T_api_End.mk 2 0))] : (List T_api_Joint)), .ex 502000034 4 40 (((([(T_api_Signal.mk (ByteArray.mk #[115, 49]) (T_api_End.mk 0 1) 0), (T_api_Signal.mk (ByteArray.mk #[115, 50]) (T_api_End.mk 1 1) 0)] : (List T_api_Signal)) : (List T_api_Signal)).map cellsOf).length) 0 (((([(T_api_Signal.mk (ByteArray.mk #[115, 49]) (T_api_End.mk 0 1) 0), (T_api_Signal.mk (ByteArray.mk #[115, 50]) (T_api_End.mk 1 1) 0)] : (List T_api_Signal)) : (List T_api_Signal)).map cellsOf).length), .nil])), (5002, .cells ([.str (ByteArray.mk #[108, 105, 110, 101]), lstOf .full ([(ByteArray.mk #[120]), (ByteArray.mk #[121]), (ByteArray.mk #[122])] : (List ByteArray)), lstOf (.own 2200102) (x13 : (List T_api_Element)), lstOf .full ([(T_api_Joint.mk (T_api_End.mk 0 1) (T_api_End.mk 1 0)), (T_api_Joint.mk (T_api_End.mk 1 1) (T_api_End.mk 2 0))] : (List T_api_Joint)), .ex 502000034 4 40 (((([(T_api_Signal.mk (ByteArray.mk #[115, 49]) (T_api_End.mk 0 1) 0), (T_api_Signal.mk (ByteArray.mk #[115, 50]) (T_api_End.mk 1 1) 0)] : (List T_api_Signal)) : (List T_api_Signal)).map cellsOf).length) 0 (((([(T_api_Signal.mk (ByteArray.mk #[115, 49]) (T_api_End.mk 0 1) 0), (T_api_Signal.mk (ByteArray.mk #[115, 50]) (T_api_End.mk 1 1) 0)] : (List T_api_Signal)) : (List T_api_Signal)).map cellsOf).length), .nil])), (5003, .cells ([.str ByteArray.empty, .int .i64 0, .int .i64 1, .nil, .nil, lstOf .full ([1] : (List Int)), .int .i64 0, .int .i64 0, .nil, .nil, .nil, .nil, .nil, .nil])), (5004, .cells ([.str ByteArray.empty, .int .i64 0, .int .i64 0, .nil, .nil, .nil, .int .i64 0, .int .i64 0, .nil, .nil, .nil, .nil, .nil, .nil]))], [(100007, (((x853).map cellsOf).length, 3)), (2200102, (((x13).map cellsOf).length, 7)), (502000034, (((([(T_api_Signal.mk (ByteArray.mk #[115, 49]) (T_api_End.mk 0 1) 0), (T_api_Signal.mk (ByteArray.mk #[115, 50]) (T_api_End.mk 1 1) 0)] : (List T_api_Signal)) : (List T_api_Signal)).map cellsOf).length, 0))], [(502000034, (4, (40, ((([(T_api_Signal.mk (ByteArray.mk #[115, 49]) (T_api_End.mk 0 1) 0), (T_api_Signal.mk (ByteArray.mk #[115, 50]) (T_api_End.mk 1 1) 0)] : (List T_api_Signal)).set j26 (T_api_Signal.mk x27.Name x27.At 500)) : (List T_api_Signal)).map cellsOf)))]⟩) (fun x896 => ⟨[(7, lstOf (.own 100007) (x896 : (List T_api_Step))), (75, .ref 5002 0), (76, .ref 5003 0), (77, .ref 5004 0), (118, .ref 3001 0)], [(3001, .cells ([.str (ByteArray.mk #[108, 105, 110, 101]), lstOf .full ([(ByteArray.mk #[120]), (ByteArray.mk #[121]), (ByteArray.mk #[122])] : (List ByteArray)), lstOf (.own 2200102) (x13 : (List T_api_Element)), lstOf .full ([(T_api_Joint.mk (T_api_End.mk 0 1) (T_api_End.mk 1 0)), (T_api_Joint.mk (T_api_End.mk 1 1) (T_api_End.mk 2 0))] : (List T_api_Joint)), .ex 502000034 4 40 (((([(T_api_Signal.mk (ByteArray.mk #[115, 49]) (T_api_End.mk 0 1) 0), (T_api_Signal.mk (ByteArray.mk #[115, 50]) (T_api_End.mk 1 1) 0)] : (List T_api_Signal)) : (List T_api_Signal)).map cellsOf).length) 0 (((([(T_api_Signal.mk (ByteArray.mk #[115, 49]) (T_api_End.mk 0 1) 0), (T_api_Signal.mk (ByteArray.mk #[115, 50]) (T_api_End.mk 1 1) 0)] : (List T_api_Signal)) : (List T_api_Signal)).map cellsOf).length), .nil])), (5002, .cells ([.str (ByteArray.mk #[108, 105, 110, 101]), lstOf .full ([(ByteArray.mk #[120]), (ByteArray.mk #[121]), (ByteArray.mk #[122])] : (List ByteArray)), lstOf (.own 2200102) (x13 : (List T_api_Element)), lstOf .full ([(T_api_Joint.mk (T_api_End.mk 0 1) (T_api_End.mk 1 0)), (T_api_Joint.mk (T_api_End.mk 1 1) (T_api_End.mk 2 0))] : (List T_api_Joint)), .ex 502000034 4 40 (((([(T_api_Signal.mk (ByteArray.mk #[115, 49]) (T_api_End.mk 0 1) 0), (T_api_Signal.mk (ByteArray.mk #[115, 50]) (T_api_End.mk 1 1) 0)] : (List T_api_Signal)) : (List T_api_Signal)).map cellsOf).length) 0 (((([(T_api_Signal.mk (ByteArray.mk #[115, 49]) (T_api_End.mk 0 1) 0), (T_api_Signal.mk (ByteArray.mk #[115, 50]) (T_api_End.mk 1 1) 0)] : (List T_api_Signal)) : (List T_api_Signal)).map cellsOf).length), .nil])), (5003, .cells ([.str ByteArray.empty, .int .i64 0, .int .i64 1, .nil, .nil, lstOf .full ([1] : (List Int)), .int .i64 0, .int .i64 0, .nil, .nil, .nil, .nil, .nil, .nil])), (5004, .cells ([.str ByteArray.empty, .int .i64 0, .int .i64 0, .nil, .nil, .nil, .int .i64 0, .int .i64 0, .nil, .nil, .nil, .nil, .nil, .nil]))], [(100007, (((x896).map cellsOf).length, 3)), (2200102, (((x13).map cellsOf).length, 7)), (502000034, (((([(T_api_Signal.mk (ByteArray.mk #[115, 49]) (T_api_End.mk 0 1) 0), (T_api_Signal.mk (ByteArray.mk #[115, 50]) (T_api_End.mk 1 1) 0)] : (List T_api_Signal)) : (List T_api_Signal)).map cellsOf).length, 0))], [(502000034, (4, (40, ((([(T_api_Signal.mk (ByteArray.mk #[115, 49]) (T_api_End.mk 0 1) 0), (T_api_Signal.mk (ByteArray.mk #[115, 50]) (T_api_End.mk 1 1) 0)] : (List T_api_Signal)).set j26 (T_api_Signal.mk x27.Name x27.At 500)) : (List T_api_Signal)).map cellsOf)))]⟩) h788 (by kernel_rfl) (fun _ => by kernel_rfl) ?_ ?_
          · rintro ⟨x851, x852, x853⟩ oh787 h787
            unfold d_law13_alive_1 at h787
            refine pwp_seq ?_
            refine pwp_seq ?_
            refine r_regd (by kernel_rfl) (by kernel_rfl) ?_
            obtain ⟨b897, h789, h787⟩ := o_bind h787
            refine p_run 2 (by kernel_rfl) ?_
            refine e_seg 7 33 (.bool b897) ?_ ?_
            · rcases o_cond h789 with ⟨hb, h789⟩ | ⟨hb, h789⟩
              · refine p_settle 26 hb (by kernel_rfl) (by kernel_rfl) ?_
                refine p_run 2 (by kernel_rfl) ?_
                obtain ⟨r898, h790, h789⟩ := o_bind h789
                refine p_callL [502000034] (d_walk_Length_ok _ _ r898 h790) (by kernel_rfl) (by kernel_rfl) (by kernel_rfl) ?_
                cases h789
                exact f_end (by kernel_rfl) (by kernel_rfl)
              · refine p_settle 26 hb (by kernel_rfl) (by kernel_rfl) ?_
                cases h789
                exact f_end (by kernel_rfl) (by kernel_rfl)
            · obtain ⟨b899, h791, h787⟩ := o_bind h787
              refine p_run 1 (by kernel_rfl) ?_
              refine e_seg 4 38 (.bool b899) ?_ ?_
              · rcases o_cond h791 with ⟨hb, h791⟩ | ⟨hb, h791⟩
                · refine p_settle 34 hb (by kernel_rfl) (by kernel_rfl) ?_
                  refine p_run 1 (by kernel_rfl) ?_
                  refine p_len (L := (x853 : (List T_api_Step))) (by kernel_rfl) ?_
                  cases h791
                  exact f_end (by kernel_rfl) (by kernel_rfl)
                · refine p_settle 34 hb (by kernel_rfl) (by kernel_rfl) ?_
                  cases h791
                  exact f_end (by kernel_rfl) (by kernel_rfl)
              · refine e_nil (by kernel_rfl) ?_
                refine q_next ?_
                rcases o_cond h787 with ⟨hb, h787⟩ | ⟨hb, h787⟩
                · refine r_cond_t hb (by kernel_rfl) ?_
                  refine pwp_skip ?_
                  refine q_next ?_
                  refine pwp_block ?_
                  refine pwp_seq ?_
                  refine pwp_seq ?_
                  refine r_regd (by kernel_rfl) (by kernel_rfl) ?_
                  refine p_run 3 (by kernel_rfl) ?_
                  obtain ⟨r900, h792, h787⟩ := o_bind h787
                  refine p_call (d_overlap_covers_ok _ _ r900 h792) (by kernel_rfl) (by kernel_rfl) ?_
                  obtain ⟨b901, h793, h787⟩ := o_bind h787
                  refine p_run 1 (by kernel_rfl) ?_
                  refine e_seg 8 51 (.bool b901) ?_ ?_
                  · rcases o_cond h793 with ⟨hb, h793⟩ | ⟨hb, h793⟩
                    · refine p_settle 43 hb (by kernel_rfl) (by kernel_rfl) ?_
                      cases h793
                      exact f_end (by kernel_rfl) (by kernel_rfl)
                    · refine p_settle 43 hb (by kernel_rfl) (by kernel_rfl) ?_
                      refine p_run 3 (by kernel_rfl) ?_
                      obtain ⟨r902, h794, h793⟩ := o_bind h793
                      refine p_callL [502000034] (d_layout_Section_ok _ _ r902 h794) (by kernel_rfl) (by kernel_rfl) (by kernel_rfl) ?_
                      refine p_run 2 (by kernel_rfl) ?_
                      obtain ⟨r903, h795, h793⟩ := o_bind h793
                      refine p_call (d_overlap_obstructed_ok _ _ r903 h795) (by kernel_rfl) (by kernel_rfl) ?_
                      cases h793
                      exact f_end (by kernel_rfl) (by kernel_rfl)
                  · refine e_nil (by kernel_rfl) ?_
                    refine q_next ?_
                    rcases o_cond h787 with ⟨hb, h787⟩ | ⟨hb, h787⟩
                    · refine r_cond_t hb (by kernel_rfl) ?_
                      refine pwp_exit ?_
                      refine q_seq_exit ?_
                      refine q_block_miss rfl ?_
                      cases h787
                      exact q_lexit (by kernel_rfl) (by kernel_rfl)
                    · refine r_cond_f hb (by kernel_rfl) ?_
                      refine pwp_skip ?_
                      refine q_next ?_
                      refine pwp_seq ?_
                      refine r_regi ?_
                      refine wl_run 0 2 ?_
                      refine e_end (by kernel_rfl) ?_
                      refine wl_ren 7 ⟨[(2, .ref 7002 0), (3, .ref 7003 0), (5, .ref 7005 0), (7, lstOf (.own 7100007) (x853 : (List T_api_Step))), (8, .ref 7008 0), (52, .agg [.str (ByteArray.mk #[108, 105, 110, 101]), lstOf .full ([(ByteArray.mk #[120]), (ByteArray.mk #[121]), (ByteArray.mk #[122])] : (List ByteArray)), lstOf (.own 2200102) (x13 : (List T_api_Element)), lstOf .full ([(T_api_Joint.mk (T_api_End.mk 0 1) (T_api_End.mk 1 0)), (T_api_Joint.mk (T_api_End.mk 1 1) (T_api_End.mk 2 0))] : (List T_api_Joint)), .ex 502000034 4 40 (((([(T_api_Signal.mk (ByteArray.mk #[115, 49]) (T_api_End.mk 0 1) 0), (T_api_Signal.mk (ByteArray.mk #[115, 50]) (T_api_End.mk 1 1) 0)] : (List T_api_Signal)) : (List T_api_Signal)).map cellsOf).length) 0 (((([(T_api_Signal.mk (ByteArray.mk #[115, 49]) (T_api_End.mk 0 1) 0), (T_api_Signal.mk (ByteArray.mk #[115, 50]) (T_api_End.mk 1 1) 0)] : (List T_api_Signal)) : (List T_api_Signal)).map cellsOf).length), .nil]), (53, Enc.pv x852), (75, .ref 5002 0), (76, .ref 5003 0), (77, .ref 5004 0), (118, .ref 3001 0)], [(3001, .cells ([.str (ByteArray.mk #[108, 105, 110, 101]), lstOf .full ([(ByteArray.mk #[120]), (ByteArray.mk #[121]), (ByteArray.mk #[122])] : (List ByteArray)), lstOf (.own 2200102) (x13 : (List T_api_Element)), lstOf .full ([(T_api_Joint.mk (T_api_End.mk 0 1) (T_api_End.mk 1 0)), (T_api_Joint.mk (T_api_End.mk 1 1) (T_api_End.mk 2 0))] : (List T_api_Joint)), .ex 502000034 4 40 (((([(T_api_Signal.mk (ByteArray.mk #[115, 49]) (T_api_End.mk 0 1) 0), (T_api_Signal.mk (ByteArray.mk #[115, 50]) (T_api_End.mk 1 1) 0)] : (List T_api_Signal)) : (List T_api_Signal)).map cellsOf).length) 0 (((([(T_api_Signal.mk (ByteArray.mk #[115, 49]) (T_api_End.mk 0 1) 0), (T_api_Signal.mk (ByteArray.mk #[115, 50]) (T_api_End.mk 1 1) 0)] : (List T_api_Signal)) : (List T_api_Signal)).map cellsOf).length), .nil])), (5002, .cells ([.str (ByteArray.mk #[108, 105, 110, 101]), lstOf .full ([(ByteArray.mk #[120]), (ByteArray.mk #[121]), (ByteArray.mk #[122])] : (List ByteArray)), lstOf (.own 2200102) (x13 : (List T_api_Element)), lstOf .full ([(T_api_Joint.mk (T_api_End.mk 0 1) (T_api_End.mk 1 0)), (T_api_Joint.mk (T_api_End.mk 1 1) (T_api_End.mk 2 0))] : (List T_api_Joint)), .ex 502000034 4 40 (((([(T_api_Signal.mk (ByteArray.mk #[115, 49]) (T_api_End.mk 0 1) 0), (T_api_Signal.mk (ByteArray.mk #[115, 50]) (T_api_End.mk 1 1) 0)] : (List T_api_Signal)) : (List T_api_Signal)).map cellsOf).length) 0 (((([(T_api_Signal.mk (ByteArray.mk #[115, 49]) (T_api_End.mk 0 1) 0), (T_api_Signal.mk (ByteArray.mk #[115, 50]) (T_api_End.mk 1 1) 0)] : (List T_api_Signal)) : (List T_api_Signal)).map cellsOf).length), .nil])), (5003, .cells ([.str ByteArray.empty, .int .i64 0, .int .i64 1, .nil, .nil, lstOf .full ([1] : (List Int)), .int .i64 0, .int .i64 0, .nil, .nil, .nil, .nil, .nil, .nil])), (5004, .cells ([.str ByteArray.empty, .int .i64 0, .int .i64 0, .nil, .nil, .nil, .int .i64 0, .int .i64 0, .nil, .nil, .nil, .nil, .nil, .nil])), (7002, .cells ([.str (ByteArray.mk #[108, 105, 110, 101]), lstOf .full ([(ByteArray.mk #[120]), (ByteArray.mk #[121]), (ByteArray.mk #[122])] : (List ByteArray)), lstOf (.own 2200102) (x13 : (List T_api_Element)), lstOf .full ([(T_api_Joint.mk (T_api_End.mk 0 1) (T_api_End.mk 1 0)), (T_api_Joint.mk (T_api_End.mk 1 1) (T_api_End.mk 2 0))] : (List T_api_Joint)), .ex 502000034 4 40 (((([(T_api_Signal.mk (ByteArray.mk #[115, 49]) (T_api_End.mk 0 1) 0), (T_api_Signal.mk (ByteArray.mk #[115, 50]) (T_api_End.mk 1 1) 0)] : (List T_api_Signal)) : (List T_api_Signal)).map cellsOf).length) 0 (((([(T_api_Signal.mk (ByteArray.mk #[115, 49]) (T_api_End.mk 0 1) 0), (T_api_Signal.mk (ByteArray.mk #[115, 50]) (T_api_End.mk 1 1) 0)] : (List T_api_Signal)) : (List T_api_Signal)).map cellsOf).length), .nil])), (7003, .cells ([.str ByteArray.empty, .int .i64 0, .int .i64 1, .nil, .nil, lstOf .full ([1] : (List Int)), .int .i64 0, .int .i64 0, .nil, .nil, .nil, .nil, .nil, .nil])), (7005, .cells (cellsOf r764.1)), (7008, .cells (cellsOf x852))], [(2200102, (((x13).map cellsOf).length, 7)), (7100007, (((x853).map cellsOf).length, 3)), (502000034, (((([(T_api_Signal.mk (ByteArray.mk #[115, 49]) (T_api_End.mk 0 1) 0), (T_api_Signal.mk (ByteArray.mk #[115, 50]) (T_api_End.mk 1 1) 0)] : (List T_api_Signal)) : (List T_api_Signal)).map cellsOf).length, 0))], [(502000034, (4, (40, ((([(T_api_Signal.mk (ByteArray.mk #[115, 49]) (T_api_End.mk 0 1) 0), (T_api_Signal.mk (ByteArray.mk #[115, 50]) (T_api_End.mk 1 1) 0)] : (List T_api_Signal)).set j26 (T_api_Signal.mk x27.Name x27.At 500)) : (List T_api_Signal)).map cellsOf)))]⟩ 9700170 (by kernel_rfl) (by kernel_rfl) (by kernel_rfl) ?_
                      obtain ⟨o809, h809, h787⟩ := o_bind h787
                      refine p_inl (f := 59) (asx := [.agg [.str (ByteArray.mk #[108, 105, 110, 101]), lstOf .full ([(ByteArray.mk #[120]), (ByteArray.mk #[121]), (ByteArray.mk #[122])] : (List ByteArray)), lstOf (.own 2200102) (x13 : (List T_api_Element)), lstOf .full ([(T_api_Joint.mk (T_api_End.mk 0 1) (T_api_End.mk 1 0)), (T_api_Joint.mk (T_api_End.mk 1 1) (T_api_End.mk 2 0))] : (List T_api_Joint)), .ex 502000034 4 40 (((([(T_api_Signal.mk (ByteArray.mk #[115, 49]) (T_api_End.mk 0 1) 0), (T_api_Signal.mk (ByteArray.mk #[115, 50]) (T_api_End.mk 1 1) 0)] : (List T_api_Signal)) : (List T_api_Signal)).map cellsOf).length) 0 (((([(T_api_Signal.mk (ByteArray.mk #[115, 49]) (T_api_End.mk 0 1) 0), (T_api_Signal.mk (ByteArray.mk #[115, 50]) (T_api_End.mk 1 1) 0)] : (List T_api_Signal)) : (List T_api_Signal)).map cellsOf).length), .nil], Enc.pv x852]) (by kernel_rfl) Go.Proofs.Tryd.func59 (by rfl) rfl Go.Proofs.Tryd.ntmps59 (by rfl) ?_
                      refine r_joinI o809 17000209 (fun x919 => ⟨[(4, lstOf (.own 100005) (x919 : (List T_api_Step))), (41, .ref 7002 0), (42, .ref 7003 0), (44, .ref 7005 0), (46, lstOf (.own 7100007) (x853 : (List T_api_Step))), (47, .ref 7008 0), (114, .ref 5002 0), (115, .ref 5003 0), (116, .ref 5004 0), (157, .ref 3001 0)], [(3001, .cells ([.str (ByteArray.mk #[108, 105, 110, 101]), lstOf .full ([(ByteArray.mk #[120]), (ByteArray.mk #[121]), (ByteArray.mk #[122])] : (List ByteArray)), lstOf (.own 2200102) (x13 : (List T_api_Element)), lstOf .full ([(T_api_Joint.mk (T_api_End.mk 0 1) (T_api_End.mk 1 0)), (T_api_Joint.mk (T_api_End.mk 1 1) (T_api_End.mk 2 0))] : (List T_api_Joint)), .ex 502000034 4 40 (((([(T_api_Signal.mk (ByteArray.mk #[115, 49]) (T_api_End.mk 0 1) 0), (T_api_Signal.mk (ByteArray.mk #[115, 50]) (T_api_End.mk 1 1) 0)] : (List T_api_Signal)) : (List T_api_Signal)).map cellsOf).length) 0 (((([(T_api_Signal.mk (ByteArray.mk #[115, 49]) (T_api_End.mk 0 1) 0), (T_api_Signal.mk (ByteArray.mk #[115, 50]) (T_api_End.mk 1 1) 0)] : (List T_api_Signal)) : (List T_api_Signal)).map cellsOf).length), .nil])), (5002, .cells ([.str (ByteArray.mk #[108, 105, 110, 101]), lstOf .full ([(ByteArray.mk #[120]), (ByteArray.mk #[121]), (ByteArray.mk #[122])] : (List ByteArray)), lstOf (.own 2200102) (x13 : (List T_api_Element)), lstOf .full ([(T_api_Joint.mk (T_api_End.mk 0 1) (T_api_End.mk 1 0)), (T_api_Joint.mk (T_api_End.mk 1 1) (T_api_End.mk 2 0))] : (List T_api_Joint)), .ex 502000034 4 40 (((([(T_api_Signal.mk (ByteArray.mk #[115, 49]) (T_api_End.mk 0 1) 0), (T_api_Signal.mk (ByteArray.mk #[115, 50]) (T_api_End.mk 1 1) 0)] : (List T_api_Signal)) : (List T_api_Signal)).map cellsOf).length) 0 (((([(T_api_Signal.mk (ByteArray.mk #[115, 49]) (T_api_End.mk 0 1) 0), (T_api_Signal.mk (ByteArray.mk #[115, 50]) (T_api_End.mk 1 1) 0)] : (List T_api_Signal)) : (List T_api_Signal)).map cellsOf).length), .nil])), (5003, .cells ([.str ByteArray.empty, .int .i64 0, .int .i64 1, .nil, .nil, lstOf .full ([1] : (List Int)), .int .i64 0, .int .i64 0, .nil, .nil, .nil, .nil, .nil, .nil])), (5004, .cells ([.str ByteArray.empty, .int .i64 0, .int .i64 0, .nil, .nil, .nil, .int .i64 0, .int .i64 0, .nil, .nil, .nil, .nil, .nil, .nil])), (7002, .cells ([.str (ByteArray.mk #[108, 105, 110, 101]), lstOf .full ([(ByteArray.mk #[120]), (ByteArray.mk #[121]), (ByteArray.mk #[122])] : (List ByteArray)), lstOf (.own 2200102) (x13 : (List T_api_Element)), lstOf .full ([(T_api_Joint.mk (T_api_End.mk 0 1) (T_api_End.mk 1 0)), (T_api_Joint.mk (T_api_End.mk 1 1) (T_api_End.mk 2 0))] : (List T_api_Joint)), .ex 502000034 4 40 (((([(T_api_Signal.mk (ByteArray.mk #[115, 49]) (T_api_End.mk 0 1) 0), (T_api_Signal.mk (ByteArray.mk #[115, 50]) (T_api_End.mk 1 1) 0)] : (List T_api_Signal)) : (List T_api_Signal)).map cellsOf).length) 0 (((([(T_api_Signal.mk (ByteArray.mk #[115, 49]) (T_api_End.mk 0 1) 0), (T_api_Signal.mk (ByteArray.mk #[115, 50]) (T_api_End.mk 1 1) 0)] : (List T_api_Signal)) : (List T_api_Signal)).map cellsOf).length), .nil])), (7003, .cells ([.str ByteArray.empty, .int .i64 0, .int .i64 1, .nil, .nil, lstOf .full ([1] : (List Int)), .int .i64 0, .int .i64 0, .nil, .nil, .nil, .nil, .nil, .nil])), (7005, .cells (cellsOf r764.1)), (7008, .cells (cellsOf x852))], [(100005, (((x919).map cellsOf).length, 3)), (2200102, (((x13).map cellsOf).length, 7)), (7100007, (((x853).map cellsOf).length, 3)), (502000034, (((([(T_api_Signal.mk (ByteArray.mk #[115, 49]) (T_api_End.mk 0 1) 0), (T_api_Signal.mk (ByteArray.mk #[115, 50]) (T_api_End.mk 1 1) 0)] : (List T_api_Signal)) : (List T_api_Signal)).map cellsOf).length, 0))], [(502000034, (4, (40, ((([(T_api_Signal.mk (ByteArray.mk #[115, 49]) (T_api_End.mk 0 1) 0), (T_api_Signal.mk (ByteArray.mk #[115, 50]) (T_api_End.mk 1 1) 0)] : (List T_api_Signal)).set j26 (T_api_Signal.mk x27.Name x27.At 500)) : (List T_api_Signal)).map cellsOf)))]⟩) ?_ ?_
                      · refine pwp_seq ?_
                        refine r_reg ?_
                        refine e_end (by kernel_rfl) ?_
                        refine q_next ?_
                        refine pwp_seq ?_
                        refine pwp_seq ?_
                        refine r_reg ?_
                        refine p_run 3 (by kernel_rfl) ?_
                        obtain ⟨r920, h810, h809⟩ := o_bind h809
                        refine p_callB [502000034] (d_walk_exists_ok _ _ r920 h810) (by kernel_rfl) (by kernel_rfl) (by kernel_rfl) ?_
                        refine e_end (by kernel_rfl) ?_
                        refine q_next ?_
                        rcases o_cond h809 with ⟨hb, h809⟩ | ⟨hb, h809⟩
                        · refine r_cond_t hb (by kernel_rfl) ?_
                          refine pwp_seq ?_
                          refine r_reg ?_
                          refine e_end (by kernel_rfl) ?_
                          refine q_next ?_
                          refine pwp_ret ?_
                          refine q_seq_ret ?_
                          cases h809
                          exact q_ij_w (wkr_nil 4 100005 3 24 (by kernel_rfl) (by kernel_rfl)) (by kernel_rfl) (by kernel_rfl)
                        · refine r_cond_f hb (by kernel_rfl) ?_
                          refine pwp_skip ?_
                          refine q_next ?_
                          refine pwp_seq ?_
                          refine r_reg ?_
                          refine e_end (by kernel_rfl) ?_
                          refine q_next ?_
                          refine pwp_seq ?_
                          refine pwp_seq ?_
                          refine r_regd (by kernel_rfl) (by kernel_rfl) ?_
                          refine p_run 4 (by kernel_rfl) ?_
                          obtain ⟨x921, h811, h809⟩ := o_bind h809
                          refine p_ix h811 (by kernel_rfl) ?_
                          refine p_run 4 (by kernel_rfl) ?_
                          obtain ⟨r922, h812, h809⟩ := o_bind h809
                          refine p_call (d_rail_Legs_fz _ _ r922 h812) (by kernel_rfl) (by kernel_rfl) ?_
                          refine p_len (L := (r922 : (List Int))) (by kernel_rfl) ?_
                          refine e_end (by kernel_rfl) ?_
                          refine q_next ?_
                          refine pwp_block ?_
                          refine g_nil 5 100005 3 24 (by kernel_rfl) (by kernel_rfl) ?_
                          obtain ⟨o820, h820, h809⟩ := o_inl h809
                          refine r_loop2 17000209 0 (fun (x928, x929) => ⟨[(3, .ref 3 0), (5, lstOf (.own 100005) (x929 : (List T_api_Step))), (22, lstOf .frozen (r922 : (List Int))), (23, .int .i64 ((r922.length : Nat) : Int)), (24, .int .i64 x928), (41, .ref 7002 0), (42, .ref 7003 0), (44, .ref 7005 0), (46, lstOf (.own 7100007) (x853 : (List T_api_Step))), (47, .ref 7008 0), (114, .ref 5002 0), (115, .ref 5003 0), (116, .ref 5004 0), (157, .ref 3001 0)], [(3, .cells (cellsOf x852)), (3001, .cells ([.str (ByteArray.mk #[108, 105, 110, 101]), lstOf .full ([(ByteArray.mk #[120]), (ByteArray.mk #[121]), (ByteArray.mk #[122])] : (List ByteArray)), lstOf (.own 2200102) (x13 : (List T_api_Element)), lstOf .full ([(T_api_Joint.mk (T_api_End.mk 0 1) (T_api_End.mk 1 0)), (T_api_Joint.mk (T_api_End.mk 1 1) (T_api_End.mk 2 0))] : (List T_api_Joint)), .ex 502000034 4 40 (((([(T_api_Signal.mk (ByteArray.mk #[115, 49]) (T_api_End.mk 0 1) 0), (T_api_Signal.mk (ByteArray.mk #[115, 50]) (T_api_End.mk 1 1) 0)] : (List T_api_Signal)) : (List T_api_Signal)).map cellsOf).length) 0 (((([(T_api_Signal.mk (ByteArray.mk #[115, 49]) (T_api_End.mk 0 1) 0), (T_api_Signal.mk (ByteArray.mk #[115, 50]) (T_api_End.mk 1 1) 0)] : (List T_api_Signal)) : (List T_api_Signal)).map cellsOf).length), .nil])), (5002, .cells ([.str (ByteArray.mk #[108, 105, 110, 101]), lstOf .full ([(ByteArray.mk #[120]), (ByteArray.mk #[121]), (ByteArray.mk #[122])] : (List ByteArray)), lstOf (.own 2200102) (x13 : (List T_api_Element)), lstOf .full ([(T_api_Joint.mk (T_api_End.mk 0 1) (T_api_End.mk 1 0)), (T_api_Joint.mk (T_api_End.mk 1 1) (T_api_End.mk 2 0))] : (List T_api_Joint)), .ex 502000034 4 40 (((([(T_api_Signal.mk (ByteArray.mk #[115, 49]) (T_api_End.mk 0 1) 0), (T_api_Signal.mk (ByteArray.mk #[115, 50]) (T_api_End.mk 1 1) 0)] : (List T_api_Signal)) : (List T_api_Signal)).map cellsOf).length) 0 (((([(T_api_Signal.mk (ByteArray.mk #[115, 49]) (T_api_End.mk 0 1) 0), (T_api_Signal.mk (ByteArray.mk #[115, 50]) (T_api_End.mk 1 1) 0)] : (List T_api_Signal)) : (List T_api_Signal)).map cellsOf).length), .nil])), (5003, .cells ([.str ByteArray.empty, .int .i64 0, .int .i64 1, .nil, .nil, lstOf .full ([1] : (List Int)), .int .i64 0, .int .i64 0, .nil, .nil, .nil, .nil, .nil, .nil])), (5004, .cells ([.str ByteArray.empty, .int .i64 0, .int .i64 0, .nil, .nil, .nil, .int .i64 0, .int .i64 0, .nil, .nil, .nil, .nil, .nil, .nil])), (7002, .cells ([.str (ByteArray.mk #[108, 105, 110, 101]), lstOf .full ([(ByteArray.mk #[120]), (ByteArray.mk #[121]), (ByteArray.mk #[122])] : (List ByteArray)), lstOf (.own 2200102) (x13 : (List T_api_Element)), lstOf .full ([(T_api_Joint.mk (T_api_End.mk 0 1) (T_api_End.mk 1 0)), (T_api_Joint.mk (T_api_End.mk 1 1) (T_api_End.mk 2 0))] : (List T_api_Joint)), .ex 502000034 4 40 (((([(T_api_Signal.mk (ByteArray.mk #[115, 49]) (T_api_End.mk 0 1) 0), (T_api_Signal.mk (ByteArray.mk #[115, 50]) (T_api_End.mk 1 1) 0)] : (List T_api_Signal)) : (List T_api_Signal)).map cellsOf).length) 0 (((([(T_api_Signal.mk (ByteArray.mk #[115, 49]) (T_api_End.mk 0 1) 0), (T_api_Signal.mk (ByteArray.mk #[115, 50]) (T_api_End.mk 1 1) 0)] : (List T_api_Signal)) : (List T_api_Signal)).map cellsOf).length), .nil])), (7003, .cells ([.str ByteArray.empty, .int .i64 0, .int .i64 1, .nil, .nil, lstOf .full ([1] : (List Int)), .int .i64 0, .int .i64 0, .nil, .nil, .nil, .nil, .nil, .nil])), (7005, .cells (cellsOf r764.1)), (7008, .cells (cellsOf x852))], [(100005, (((x929).map cellsOf).length, 3)), (2200102, (((x13).map cellsOf).length, 7)), (7100007, (((x853).map cellsOf).length, 3)), (502000034, (((([(T_api_Signal.mk (ByteArray.mk #[115, 49]) (T_api_End.mk 0 1) 0), (T_api_Signal.mk (ByteArray.mk #[115, 50]) (T_api_End.mk 1 1) 0)] : (List T_api_Signal)) : (List T_api_Signal)).map cellsOf).length, 0))], [(502000034, (4, (40, ((([(T_api_Signal.mk (ByteArray.mk #[115, 49]) (T_api_End.mk 0 1) 0), (T_api_Signal.mk (ByteArray.mk #[115, 50]) (T_api_End.mk 1 1) 0)] : (List T_api_Signal)).set j26 (T_api_Signal.mk x27.Name x27.At 500)) : (List T_api_Signal)).map cellsOf)))]⟩) (fun x932 => ⟨[(5, lstOf (.own 100005) (x932 : (List T_api_Step))), (41, .ref 7002 0), (42, .ref 7003 0), (44, .ref 7005 0), (46, lstOf (.own 7100007) (x853 : (List T_api_Step))), (47, .ref 7008 0), (114, .ref 5002 0), (115, .ref 5003 0), (116, .ref 5004 0), (157, .ref 3001 0)], [(3001, .cells ([.str (ByteArray.mk #[108, 105, 110, 101]), lstOf .full ([(ByteArray.mk #[120]), (ByteArray.mk #[121]), (ByteArray.mk #[122])] : (List ByteArray)), lstOf (.own 2200102) (x13 : (List T_api_Element)), lstOf .full ([(T_api_Joint.mk (T_api_End.mk 0 1) (T_api_End.mk 1 0)), (T_api_Joint.mk (T_api_End.mk 1 1) (T_api_End.mk 2 0))] : (List T_api_Joint)), .ex 502000034 4 40 (((([(T_api_Signal.mk (ByteArray.mk #[115, 49]) (T_api_End.mk 0 1) 0), (T_api_Signal.mk (ByteArray.mk #[115, 50]) (T_api_End.mk 1 1) 0)] : (List T_api_Signal)) : (List T_api_Signal)).map cellsOf).length) 0 (((([(T_api_Signal.mk (ByteArray.mk #[115, 49]) (T_api_End.mk 0 1) 0), (T_api_Signal.mk (ByteArray.mk #[115, 50]) (T_api_End.mk 1 1) 0)] : (List T_api_Signal)) : (List T_api_Signal)).map cellsOf).length), .nil])), (5002, .cells ([.str (ByteArray.mk #[108, 105, 110, 101]), lstOf .full ([(ByteArray.mk #[120]), (ByteArray.mk #[121]), (ByteArray.mk #[122])] : (List ByteArray)), lstOf (.own 2200102) (x13 : (List T_api_Element)), lstOf .full ([(T_api_Joint.mk (T_api_End.mk 0 1) (T_api_End.mk 1 0)), (T_api_Joint.mk (T_api_End.mk 1 1) (T_api_End.mk 2 0))] : (List T_api_Joint)), .ex 502000034 4 40 (((([(T_api_Signal.mk (ByteArray.mk #[115, 49]) (T_api_End.mk 0 1) 0), (T_api_Signal.mk (ByteArray.mk #[115, 50]) (T_api_End.mk 1 1) 0)] : (List T_api_Signal)) : (List T_api_Signal)).map cellsOf).length) 0 (((([(T_api_Signal.mk (ByteArray.mk #[115, 49]) (T_api_End.mk 0 1) 0), (T_api_Signal.mk (ByteArray.mk #[115, 50]) (T_api_End.mk 1 1) 0)] : (List T_api_Signal)) : (List T_api_Signal)).map cellsOf).length), .nil])), (5003, .cells ([.str ByteArray.empty, .int .i64 0, .int .i64 1, .nil, .nil, lstOf .full ([1] : (List Int)), .int .i64 0, .int .i64 0, .nil, .nil, .nil, .nil, .nil, .nil])), (5004, .cells ([.str ByteArray.empty, .int .i64 0, .int .i64 0, .nil, .nil, .nil, .int .i64 0, .int .i64 0, .nil, .nil, .nil, .nil, .nil, .nil])), (7002, .cells ([.str (ByteArray.mk #[108, 105, 110, 101]), lstOf .full ([(ByteArray.mk #[120]), (ByteArray.mk #[121]), (ByteArray.mk #[122])] : (List ByteArray)), lstOf (.own 2200102) (x13 : (List T_api_Element)), lstOf .full ([(T_api_Joint.mk (T_api_End.mk 0 1) (T_api_End.mk 1 0)), (T_api_Joint.mk (T_api_End.mk 1 1) (T_api_End.mk 2 0))] : (List T_api_Joint)), .ex 502000034 4 40 (((([(T_api_Signal.mk (ByteArray.mk #[115, 49]) (T_api_End.mk 0 1) 0), (T_api_Signal.mk (ByteArray.mk #[115, 50]) (T_api_End.mk 1 1) 0)] : (List T_api_Signal)) : (List T_api_Signal)).map cellsOf).length) 0 (((([(T_api_Signal.mk (ByteArray.mk #[115, 49]) (T_api_End.mk 0 1) 0), (T_api_Signal.mk (ByteArray.mk #[115, 50]) (T_api_End.mk 1 1) 0)] : (List T_api_Signal)) : (List T_api_Signal)).map cellsOf).length), .nil])), (7003, .cells ([.str ByteArray.empty, .int .i64 0, .int .i64 1, .nil, .nil, lstOf .full ([1] : (List Int)), .int .i64 0, .int .i64 0, .nil, .nil, .nil, .nil, .nil, .nil])), (7005, .cells (cellsOf r764.1)), (7008, .cells (cellsOf x852))], [(100005, (((x932).map cellsOf).length, 3)), (2200102, (((x13).map cellsOf).length, 7)), (7100007, (((x853).map cellsOf).length, 3)), (502000034, (((([(T_api_Signal.mk (ByteArray.mk #[115, 49]) (T_api_End.mk 0 1) 0), (T_api_Signal.mk (ByteArray.mk #[115, 50]) (T_api_End.mk 1 1) 0)] : (List T_api_Signal)) : (List T_api_Signal)).map cellsOf).length, 0))], [(502000034, (4, (40, ((([(T_api_Signal.mk (ByteArray.mk #[115, 49]) (T_api_End.mk 0 1) 0), (T_api_Signal.mk (ByteArray.mk #[115, 50]) (T_api_End.mk 1 1) 0)] : (List T_api_Signal)).set j26 (T_api_Signal.mk x27.Name x27.At 500)) : (List T_api_Signal)).map cellsOf)))]⟩) h820 (by kernel_rfl) (fun _ => by kernel_rfl) ?_ ?_
                          · rintro ⟨x928, x929⟩ oh819 h819
                            unfold d_law13_alive_2 at h819
                            refine pwp_seq ?_
                            refine r_reg ?_
                            refine e_end (by kernel_rfl) ?_
                            refine q_next ?_
                            refine pwp_seq ?_
                            rcases o_cond h819 with ⟨hb, h819⟩ | ⟨hb, h819⟩
                            · refine r_cond_t hb (by kernel_rfl) ?_
                              refine pwp_skip ?_
                              refine q_next ?_
                              refine pwp_seq ?_
                              refine pwp_block ?_
                              refine pwp_seq ?_
                              refine r_reg ?_
                              obtain ⟨x933, h821, h819⟩ := o_bind h819
                              refine p_ix h821 (by kernel_rfl) ?_
                              refine e_end (by kernel_rfl) ?_
                              refine q_next ?_
                              refine r_reg ?_
                              refine p_run 8 (by kernel_rfl) ?_
                              obtain ⟨x934, h822, h819⟩ := o_bind h819
                              refine p_app (tk := 100005) h822 (by kernel_rfl) (by kernel_rfl) ?_
                              refine e_end (by kernel_rfl) ?_
                              refine q_block ?_
                              refine q_next ?_
                              refine r_reg ?_
                              refine e_end (by kernel_rfl) ?_
                              cases h819
                              exact q_lback (by kernel_rfl)
                            · refine r_cond_f hb (by kernel_rfl) ?_
                              refine pwp_exit ?_
                              refine q_seq_exit ?_
                              cases h819
                              exact q_lexit (by kernel_rfl) (by kernel_rfl)
                          · rintro x932 s' rfl hs
                            have h809 := o_outl h809
                            refine q_block_hit ?_
                            refine q_next (pwp_wkr hs ?_)
                            refine pwp_seq ?_
                            refine r_reg ?_
                            refine e_end (by kernel_rfl) ?_
                            refine q_next ?_
                            refine pwp_ret ?_
                            cases h809
                            exact q_ij (by kernel_rfl) (by kernel_rfl)
                      · generalize o809 = x919 at *
                        refine q_inl (r := lstOf (.own 100005) (x919 : (List T_api_Step))) (by kernel_rfl) ?_
                        refine wl_ren 8 ⟨[(2, .ref 7002 0), (3, .ref 7003 0), (5, .ref 7005 0), (7, lstOf (.own 7100007) (x853 : (List T_api_Step))), (8, .ref 7008 0), (54, lstOf (.own 8100005) (x919 : (List T_api_Step))), (75, .ref 5002 0), (76, .ref 5003 0), (77, .ref 5004 0), (118, .ref 3001 0)], [(3001, .cells ([.str (ByteArray.mk #[108, 105, 110, 101]), lstOf .full ([(ByteArray.mk #[120]), (ByteArray.mk #[121]), (ByteArray.mk #[122])] : (List ByteArray)), lstOf (.own 2200102) (x13 : (List T_api_Element)), lstOf .full ([(T_api_Joint.mk (T_api_End.mk 0 1) (T_api_End.mk 1 0)), (T_api_Joint.mk (T_api_End.mk 1 1) (T_api_End.mk 2 0))] : (List T_api_Joint)), .ex 502000034 4 40 (((([(T_api_Signal.mk (ByteArray.mk #[115, 49]) (T_api_End.mk 0 1) 0), (T_api_Signal.mk (ByteArray.mk #[115, 50]) (T_api_End.mk 1 1) 0)] : (List T_api_Signal)) : (List T_api_Signal)).map cellsOf).length) 0 (((([(T_api_Signal.mk (ByteArray.mk #[115, 49]) (T_api_End.mk 0 1) 0), (T_api_Signal.mk (ByteArray.mk #[115, 50]) (T_api_End.mk 1 1) 0)] : (List T_api_Signal)) : (List T_api_Signal)).map cellsOf).length), .nil])), (5002, .cells ([.str (ByteArray.mk #[108, 105, 110, 101]), lstOf .full ([(ByteArray.mk #[120]), (ByteArray.mk #[121]), (ByteArray.mk #[122])] : (List ByteArray)), lstOf (.own 2200102) (x13 : (List T_api_Element)), lstOf .full ([(T_api_Joint.mk (T_api_End.mk 0 1) (T_api_End.mk 1 0)), (T_api_Joint.mk (T_api_End.mk 1 1) (T_api_End.mk 2 0))] : (List T_api_Joint)), .ex 502000034 4 40 (((([(T_api_Signal.mk (ByteArray.mk #[115, 49]) (T_api_End.mk 0 1) 0), (T_api_Signal.mk (ByteArray.mk #[115, 50]) (T_api_End.mk 1 1) 0)] : (List T_api_Signal)) : (List T_api_Signal)).map cellsOf).length) 0 (((([(T_api_Signal.mk (ByteArray.mk #[115, 49]) (T_api_End.mk 0 1) 0), (T_api_Signal.mk (ByteArray.mk #[115, 50]) (T_api_End.mk 1 1) 0)] : (List T_api_Signal)) : (List T_api_Signal)).map cellsOf).length), .nil])), (5003, .cells ([.str ByteArray.empty, .int .i64 0, .int .i64 1, .nil, .nil, lstOf .full ([1] : (List Int)), .int .i64 0, .int .i64 0, .nil, .nil, .nil, .nil, .nil, .nil])), (5004, .cells ([.str ByteArray.empty, .int .i64 0, .int .i64 0, .nil, .nil, .nil, .int .i64 0, .int .i64 0, .nil, .nil, .nil, .nil, .nil, .nil])), (7002, .cells ([.str (ByteArray.mk #[108, 105, 110, 101]), lstOf .full ([(ByteArray.mk #[120]), (ByteArray.mk #[121]), (ByteArray.mk #[122])] : (List ByteArray)), lstOf (.own 2200102) (x13 : (List T_api_Element)), lstOf .full ([(T_api_Joint.mk (T_api_End.mk 0 1) (T_api_End.mk 1 0)), (T_api_Joint.mk (T_api_End.mk 1 1) (T_api_End.mk 2 0))] : (List T_api_Joint)), .ex 502000034 4 40 (((([(T_api_Signal.mk (ByteArray.mk #[115, 49]) (T_api_End.mk 0 1) 0), (T_api_Signal.mk (ByteArray.mk #[115, 50]) (T_api_End.mk 1 1) 0)] : (List T_api_Signal)) : (List T_api_Signal)).map cellsOf).length) 0 (((([(T_api_Signal.mk (ByteArray.mk #[115, 49]) (T_api_End.mk 0 1) 0), (T_api_Signal.mk (ByteArray.mk #[115, 50]) (T_api_End.mk 1 1) 0)] : (List T_api_Signal)) : (List T_api_Signal)).map cellsOf).length), .nil])), (7003, .cells ([.str ByteArray.empty, .int .i64 0, .int .i64 1, .nil, .nil, lstOf .full ([1] : (List Int)), .int .i64 0, .int .i64 0, .nil, .nil, .nil, .nil, .nil, .nil])), (7005, .cells (cellsOf r764.1)), (7008, .cells (cellsOf x852))], [(2200102, (((x13).map cellsOf).length, 7)), (7100007, (((x853).map cellsOf).length, 3)), (8100005, (((x919).map cellsOf).length, 3)), (502000034, (((([(T_api_Signal.mk (ByteArray.mk #[115, 49]) (T_api_End.mk 0 1) 0), (T_api_Signal.mk (ByteArray.mk #[115, 50]) (T_api_End.mk 1 1) 0)] : (List T_api_Signal)) : (List T_api_Signal)).map cellsOf).length, 0))], [(502000034, (4, (40, ((([(T_api_Signal.mk (ByteArray.mk #[115, 49]) (T_api_End.mk 0 1) 0), (T_api_Signal.mk (ByteArray.mk #[115, 50]) (T_api_End.mk 1 1) 0)] : (List T_api_Signal)).set j26 (T_api_Signal.mk x27.Name x27.At 500)) : (List T_api_Signal)).map cellsOf)))]⟩ 9700170 (by kernel_rfl) (by kernel_rfl) (by kernel_rfl) ?_
                        refine wl_ren 7 ⟨[(2, .ref 2 0), (3, .ref 3 0), (5, .ref 5 0), (7, lstOf (.own 100007) (x853 : (List T_api_Step))), (8, .ref 8 0), (54, lstOf (.own 8100005) (x919 : (List T_api_Step))), (75, .ref 5002 0), (76, .ref 5003 0), (77, .ref 5004 0), (118, .ref 3001 0)], [(2, .cells ([.str (ByteArray.mk #[108, 105, 110, 101]), lstOf .full ([(ByteArray.mk #[120]), (ByteArray.mk #[121]), (ByteArray.mk #[122])] : (List ByteArray)), lstOf (.own 2200102) (x13 : (List T_api_Element)), lstOf .full ([(T_api_Joint.mk (T_api_End.mk 0 1) (T_api_End.mk 1 0)), (T_api_Joint.mk (T_api_End.mk 1 1) (T_api_End.mk 2 0))] : (List T_api_Joint)), .ex 502000034 4 40 (((([(T_api_Signal.mk (ByteArray.mk #[115, 49]) (T_api_End.mk 0 1) 0), (T_api_Signal.mk (ByteArray.mk #[115, 50]) (T_api_End.mk 1 1) 0)] : (List T_api_Signal)) : (List T_api_Signal)).map cellsOf).length) 0 (((([(T_api_Signal.mk (ByteArray.mk #[115, 49]) (T_api_End.mk 0 1) 0), (T_api_Signal.mk (ByteArray.mk #[115, 50]) (T_api_End.mk 1 1) 0)] : (List T_api_Signal)) : (List T_api_Signal)).map cellsOf).length), .nil])), (3, .cells ([.str ByteArray.empty, .int .i64 0, .int .i64 1, .nil, .nil, lstOf .full ([1] : (List Int)), .int .i64 0, .int .i64 0, .nil, .nil, .nil, .nil, .nil, .nil])), (5, .cells (cellsOf r764.1)), (8, .cells (cellsOf x852)), (3001, .cells ([.str (ByteArray.mk #[108, 105, 110, 101]), lstOf .full ([(ByteArray.mk #[120]), (ByteArray.mk #[121]), (ByteArray.mk #[122])] : (List ByteArray)), lstOf (.own 2200102) (x13 : (List T_api_Element)), lstOf .full ([(T_api_Joint.mk (T_api_End.mk 0 1) (T_api_End.mk 1 0)), (T_api_Joint.mk (T_api_End.mk 1 1) (T_api_End.mk 2 0))] : (List T_api_Joint)), .ex 502000034 4 40 (((([(T_api_Signal.mk (ByteArray.mk #[115, 49]) (T_api_End.mk 0 1) 0), (T_api_Signal.mk (ByteArray.mk #[115, 50]) (T_api_End.mk 1 1) 0)] : (List T_api_Signal)) : (List T_api_Signal)).map cellsOf).length) 0 (((([(T_api_Signal.mk (ByteArray.mk #[115, 49]) (T_api_End.mk 0 1) 0), (T_api_Signal.mk (ByteArray.mk #[115, 50]) (T_api_End.mk 1 1) 0)] : (List T_api_Signal)) : (List T_api_Signal)).map cellsOf).length), .nil])), (5002, .cells ([.str (ByteArray.mk #[108, 105, 110, 101]), lstOf .full ([(ByteArray.mk #[120]), (ByteArray.mk #[121]), (ByteArray.mk #[122])] : (List ByteArray)), lstOf (.own 2200102) (x13 : (List T_api_Element)), lstOf .full ([(T_api_Joint.mk (T_api_End.mk 0 1) (T_api_End.mk 1 0)), (T_api_Joint.mk (T_api_End.mk 1 1) (T_api_End.mk 2 0))] : (List T_api_Joint)), .ex 502000034 4 40 (((([(T_api_Signal.mk (ByteArray.mk #[115, 49]) (T_api_End.mk 0 1) 0), (T_api_Signal.mk (ByteArray.mk #[115, 50]) (T_api_End.mk 1 1) 0)] : (List T_api_Signal)) : (List T_api_Signal)).map cellsOf).length) 0 (((([(T_api_Signal.mk (ByteArray.mk #[115, 49]) (T_api_End.mk 0 1) 0), (T_api_Signal.mk (ByteArray.mk #[115, 50]) (T_api_End.mk 1 1) 0)] : (List T_api_Signal)) : (List T_api_Signal)).map cellsOf).length), .nil])), (5003, .cells ([.str ByteArray.empty, .int .i64 0, .int .i64 1, .nil, .nil, lstOf .full ([1] : (List Int)), .int .i64 0, .int .i64 0, .nil, .nil, .nil, .nil, .nil, .nil])), (5004, .cells ([.str ByteArray.empty, .int .i64 0, .int .i64 0, .nil, .nil, .nil, .int .i64 0, .int .i64 0, .nil, .nil, .nil, .nil, .nil, .nil]))], [(100007, (((x853).map cellsOf).length, 3)), (2200102, (((x13).map cellsOf).length, 7)), (8100005, (((x919).map cellsOf).length, 3)), (502000034, (((([(T_api_Signal.mk (ByteArray.mk #[115, 49]) (T_api_End.mk 0 1) 0), (T_api_Signal.mk (ByteArray.mk #[115, 50]) (T_api_End.mk 1 1) 0)] : (List T_api_Signal)) : (List T_api_Signal)).map cellsOf).length, 0))], [(502000034, (4, (40, ((([(T_api_Signal.mk (ByteArray.mk #[115, 49]) (T_api_End.mk 0 1) 0), (T_api_Signal.mk (ByteArray.mk #[115, 50]) (T_api_End.mk 1 1) 0)] : (List T_api_Signal)).set j26 (T_api_Signal.mk x27.Name x27.At 500)) : (List T_api_Signal)).map cellsOf)))]⟩ 9700170 (by kernel_rfl) (by kernel_rfl) (by kernel_rfl) ?_
                        refine wl_run 3 1 ?_
                        refine e_end (by kernel_rfl) ?_
                        refine wl_end ?_
                        refine q_next ?_
                        refine pwp_seq ?_
                        refine pwp_seq ?_
                        refine r_reg ?_
                        refine p_run 1 (by kernel_rfl) ?_
                        refine p_len (L := (x919 : (List T_api_Step))) (by kernel_rfl) ?_
                        refine e_end (by kernel_rfl) ?_
                        refine q_next ?_
                        rcases o_cond h787 with ⟨hb, h787⟩ | ⟨hb, h787⟩
                        · refine r_cond_t hb (by kernel_rfl) ?_
                          refine pwp_exit ?_
                          refine q_seq_exit ?_
                          refine q_block_miss rfl ?_
                          cases h787
                          exact q_lexit (by kernel_rfl) (by kernel_rfl)
                        · refine r_cond_f hb (by kernel_rfl) ?_
                          refine pwp_skip ?_
                          refine q_next ?_
                          refine pwp_seq ?_
                          refine r_reg ?_
                          refine p_run 2 (by kernel_rfl) ?_
                          obtain ⟨x935, h823, h787⟩ := o_bind h787
                          refine p_ix h823 (by kernel_rfl) ?_
                          refine p_run 2 (by kernel_rfl) ?_
                          obtain ⟨x936, h824, h787⟩ := o_bind h787
                          refine p_app (tk := 100007) h824 (by kernel_rfl) (by kernel_rfl) ?_
                          refine e_end (by kernel_rfl) ?_
                          refine q_next ?_
                          refine r_regd (by kernel_rfl) (by kernel_rfl) ?_
                          refine p_run 2 (by kernel_rfl) ?_
                          obtain ⟨x937, h825, h787⟩ := o_bind h787
                          refine p_ix h825 (by kernel_rfl) ?_
                          refine p_run 1 (by kernel_rfl) ?_
                          obtain ⟨r938, h826, h787⟩ := o_bind h787
                          refine p_callL [502000034] (d_walk_Next_ok _ _ r938 h826) (by kernel_rfl) (by kernel_rfl) (by kernel_rfl) ?_
                          refine e_end (by kernel_rfl) ?_
                          refine q_block ?_
                          cases h787
                          exact q_lback (by kernel_rfl)
                · refine r_cond_f hb (by kernel_rfl) ?_
                  refine pwp_exit ?_
                  refine q_seq_exit ?_
                  cases h787
                  exact q_lexit (by kernel_rfl) (by kernel_rfl)
          · rintro x896 s' rfl hs
            have h671 := o_outl h671
            refine q_block_hit ?_
            refine q_next (pwp_wkr hs ?_)
            refine pwp_seq ?_
            refine r_reg ?_
            refine e_end (by kernel_rfl) ?_
            refine q_next ?_
            refine pwp_ret ?_
            cases h671
            exact q_ij (by kernel_rfl) (by kernel_rfl)
      · generalize o671 = x763 at *
        refine q_inl (r := lstOf (.own 100007) (x763 : (List T_api_Step))) (by kernel_rfl) ?_
        refine wl_ren 6 ⟨[(2, .ref 5002 0), (3, .ref 5003 0), (4, .ref 5004 0), (8, lstOf (.own 6100007) (x763 : (List T_api_Step))), (45, .ref 3001 0)], [(3001, .cells ([.str (ByteArray.mk #[108, 105, 110, 101]), lstOf .full ([(ByteArray.mk #[120]), (ByteArray.mk #[121]), (ByteArray.mk #[122])] : (List ByteArray)), lstOf (.own 2200102) (x13 : (List T_api_Element)), lstOf .full ([(T_api_Joint.mk (T_api_End.mk 0 1) (T_api_End.mk 1 0)), (T_api_Joint.mk (T_api_End.mk 1 1) (T_api_End.mk 2 0))] : (List T_api_Joint)), .ex 502000034 4 40 (((([(T_api_Signal.mk (ByteArray.mk #[115, 49]) (T_api_End.mk 0 1) 0), (T_api_Signal.mk (ByteArray.mk #[115, 50]) (T_api_End.mk 1 1) 0)] : (List T_api_Signal)) : (List T_api_Signal)).map cellsOf).length) 0 (((([(T_api_Signal.mk (ByteArray.mk #[115, 49]) (T_api_End.mk 0 1) 0), (T_api_Signal.mk (ByteArray.mk #[115, 50]) (T_api_End.mk 1 1) 0)] : (List T_api_Signal)) : (List T_api_Signal)).map cellsOf).length), .nil])), (5002, .cells ([.str (ByteArray.mk #[108, 105, 110, 101]), lstOf .full ([(ByteArray.mk #[120]), (ByteArray.mk #[121]), (ByteArray.mk #[122])] : (List ByteArray)), lstOf (.own 2200102) (x13 : (List T_api_Element)), lstOf .full ([(T_api_Joint.mk (T_api_End.mk 0 1) (T_api_End.mk 1 0)), (T_api_Joint.mk (T_api_End.mk 1 1) (T_api_End.mk 2 0))] : (List T_api_Joint)), .ex 502000034 4 40 (((([(T_api_Signal.mk (ByteArray.mk #[115, 49]) (T_api_End.mk 0 1) 0), (T_api_Signal.mk (ByteArray.mk #[115, 50]) (T_api_End.mk 1 1) 0)] : (List T_api_Signal)) : (List T_api_Signal)).map cellsOf).length) 0 (((([(T_api_Signal.mk (ByteArray.mk #[115, 49]) (T_api_End.mk 0 1) 0), (T_api_Signal.mk (ByteArray.mk #[115, 50]) (T_api_End.mk 1 1) 0)] : (List T_api_Signal)) : (List T_api_Signal)).map cellsOf).length), .nil])), (5003, .cells ([.str ByteArray.empty, .int .i64 0, .int .i64 1, .nil, .nil, lstOf .full ([1] : (List Int)), .int .i64 0, .int .i64 0, .nil, .nil, .nil, .nil, .nil, .nil])), (5004, .cells ([.str ByteArray.empty, .int .i64 0, .int .i64 0, .nil, .nil, .nil, .int .i64 0, .int .i64 0, .nil, .nil, .nil, .nil, .nil, .nil]))], [(2200102, (((x13).map cellsOf).length, 7)), (6100007, (((x763).map cellsOf).length, 3)), (502000034, (((([(T_api_Signal.mk (ByteArray.mk #[115, 49]) (T_api_End.mk 0 1) 0), (T_api_Signal.mk (ByteArray.mk #[115, 50]) (T_api_End.mk 1 1) 0)] : (List T_api_Signal)) : (List T_api_Signal)).map cellsOf).length, 0))], [(502000034, (4, (40, ((([(T_api_Signal.mk (ByteArray.mk #[115, 49]) (T_api_End.mk 0 1) 0), (T_api_Signal.mk (ByteArray.mk #[115, 50]) (T_api_End.mk 1 1) 0)] : (List T_api_Signal)).set j26 (T_api_Signal.mk x27.Name x27.At 500)) : (List T_api_Signal)).map cellsOf)))]⟩ 5300097 (by kernel_rfl) (by kernel_rfl) (by kernel_rfl) ?_
        refine wl_ren 5 ⟨[(2, .ref 2 0), (3, .ref 3 0), (4, .ref 4 0), (8, lstOf (.own 6100007) (x763 : (List T_api_Step))), (45, .ref 3001 0)], [(2, .cells ([.str (ByteArray.mk #[108, 105, 110, 101]), lstOf .full ([(ByteArray.mk #[120]), (ByteArray.mk #[121]), (ByteArray.mk #[122])] : (List ByteArray)), lstOf (.own 2200102) (x13 : (List T_api_Element)), lstOf .full ([(T_api_Joint.mk (T_api_End.mk 0 1) (T_api_End.mk 1 0)), (T_api_Joint.mk (T_api_End.mk 1 1) (T_api_End.mk 2 0))] : (List T_api_Joint)), .ex 502000034 4 40 (((([(T_api_Signal.mk (ByteArray.mk #[115, 49]) (T_api_End.mk 0 1) 0), (T_api_Signal.mk (ByteArray.mk #[115, 50]) (T_api_End.mk 1 1) 0)] : (List T_api_Signal)) : (List T_api_Signal)).map cellsOf).length) 0 (((([(T_api_Signal.mk (ByteArray.mk #[115, 49]) (T_api_End.mk 0 1) 0), (T_api_Signal.mk (ByteArray.mk #[115, 50]) (T_api_End.mk 1 1) 0)] : (List T_api_Signal)) : (List T_api_Signal)).map cellsOf).length), .nil])), (3, .cells ([.str ByteArray.empty, .int .i64 0, .int .i64 1, .nil, .nil, lstOf .full ([1] : (List Int)), .int .i64 0, .int .i64 0, .nil, .nil, .nil, .nil, .nil, .nil])), (4, .cells ([.str ByteArray.empty, .int .i64 0, .int .i64 0, .nil, .nil, .nil, .int .i64 0, .int .i64 0, .nil, .nil, .nil, .nil, .nil, .nil])), (3001, .cells ([.str (ByteArray.mk #[108, 105, 110, 101]), lstOf .full ([(ByteArray.mk #[120]), (ByteArray.mk #[121]), (ByteArray.mk #[122])] : (List ByteArray)), lstOf (.own 2200102) (x13 : (List T_api_Element)), lstOf .full ([(T_api_Joint.mk (T_api_End.mk 0 1) (T_api_End.mk 1 0)), (T_api_Joint.mk (T_api_End.mk 1 1) (T_api_End.mk 2 0))] : (List T_api_Joint)), .ex 502000034 4 40 (((([(T_api_Signal.mk (ByteArray.mk #[115, 49]) (T_api_End.mk 0 1) 0), (T_api_Signal.mk (ByteArray.mk #[115, 50]) (T_api_End.mk 1 1) 0)] : (List T_api_Signal)) : (List T_api_Signal)).map cellsOf).length) 0 (((([(T_api_Signal.mk (ByteArray.mk #[115, 49]) (T_api_End.mk 0 1) 0), (T_api_Signal.mk (ByteArray.mk #[115, 50]) (T_api_End.mk 1 1) 0)] : (List T_api_Signal)) : (List T_api_Signal)).map cellsOf).length), .nil]))], [(2200102, (((x13).map cellsOf).length, 7)), (6100007, (((x763).map cellsOf).length, 3)), (502000034, (((([(T_api_Signal.mk (ByteArray.mk #[115, 49]) (T_api_End.mk 0 1) 0), (T_api_Signal.mk (ByteArray.mk #[115, 50]) (T_api_End.mk 1 1) 0)] : (List T_api_Signal)) : (List T_api_Signal)).map cellsOf).length, 0))], [(502000034, (4, (40, ((([(T_api_Signal.mk (ByteArray.mk #[115, 49]) (T_api_End.mk 0 1) 0), (T_api_Signal.mk (ByteArray.mk #[115, 50]) (T_api_End.mk 1 1) 0)] : (List T_api_Signal)).set j26 (T_api_Signal.mk x27.Name x27.At 500)) : (List T_api_Signal)).map cellsOf)))]⟩ 5300097 (by kernel_rfl) (by kernel_rfl) (by kernel_rfl) ?_
        refine wl_run 3 1 ?_
        refine e_end (by kernel_rfl) ?_
        refine wl_end ?_
        refine q_next ?_
        refine pwp_seq ?_
        refine r_reg ?_
        refine p_run 2 (by kernel_rfl) ?_
        obtain ⟨r939, h827, h515⟩ := o_bind h515
        refine p_call (d_slices_Clone_api_Step_ok _ r939 h827) (by kernel_rfl) (by kernel_rfl) ?_
        refine e_end (by kernel_rfl) ?_
        refine q_next ?_
        refine pwp_seq ?_
        refine r_reg ?_
        refine p_run 2 (by kernel_rfl) ?_
        obtain ⟨r940, h828, h515⟩ := o_bind h515
        refine p_call (d_slices_Clone_api_Setting_ok _ r940 h828) (by kernel_rfl) (by kernel_rfl) ?_
        refine e_end (by kernel_rfl) ?_
        refine q_next ?_
        refine pwp_seq ?_
        refine r_reg ?_
        refine p_run 2 (by kernel_rfl) ?_
        obtain ⟨r941, h829, h515⟩ := o_bind h515
        refine p_call (d_slices_Clone_int_ok _ r941 h829) (by kernel_rfl) (by kernel_rfl) ?_
        refine e_end (by kernel_rfl) ?_
        refine q_next ?_
        refine pwp_seq ?_
        refine r_reg ?_
        refine p_run 2 (by kernel_rfl) ?_
        obtain ⟨r942, h830, h515⟩ := o_bind h515
        refine p_call (d_slices_Clone_api_Setting_ok _ r942 h830) (by kernel_rfl) (by kernel_rfl) ?_
        refine e_end (by kernel_rfl) ?_
        refine q_next ?_
        refine pwp_seq ?_
        refine r_reg ?_
        refine p_run 2 (by kernel_rfl) ?_
        obtain ⟨r943, h831, h515⟩ := o_bind h515
        refine p_call (d_slices_Clone_int_ok _ r943 h831) (by kernel_rfl) (by kernel_rfl) ?_
        refine e_end (by kernel_rfl) ?_
        refine q_next ?_
        refine pwp_seq ?_
        refine r_reg ?_
        refine p_run 2 (by kernel_rfl) ?_
        obtain ⟨r944, h832, h515⟩ := o_bind h515
        refine p_call (d_slices_Clone_api_End_ok _ r944 h832) (by kernel_rfl) (by kernel_rfl) ?_
        refine e_end (by kernel_rfl) ?_
        refine q_next ?_
        refine pwp_seq ?_
        refine r_reg ?_
        refine e_end (by kernel_rfl) ?_
        refine q_next ?_
        refine pwp_seq ?_
        refine r_regi ?_
        refine wl_run 0 2 ?_
        refine e_end (by kernel_rfl) ?_
        refine wl_ren 9 ⟨[(2, .ref 9002 0), (3, .ref 9003 0), (4, .ref 9004 0), (5, lstOf (.own 6100007) (x763 : (List T_api_Step))), (35, .agg [.str (ByteArray.mk #[108, 105, 110, 101]), lstOf .full ([(ByteArray.mk #[120]), (ByteArray.mk #[121]), (ByteArray.mk #[122])] : (List ByteArray)), lstOf (.own 2200102) (x13 : (List T_api_Element)), lstOf .full ([(T_api_Joint.mk (T_api_End.mk 0 1) (T_api_End.mk 1 0)), (T_api_Joint.mk (T_api_End.mk 1 1) (T_api_End.mk 2 0))] : (List T_api_Joint)), .ex 502000034 4 40 (((([(T_api_Signal.mk (ByteArray.mk #[115, 49]) (T_api_End.mk 0 1) 0), (T_api_Signal.mk (ByteArray.mk #[115, 50]) (T_api_End.mk 1 1) 0)] : (List T_api_Signal)) : (List T_api_Signal)).map cellsOf).length) 0 (((([(T_api_Signal.mk (ByteArray.mk #[115, 49]) (T_api_End.mk 0 1) 0), (T_api_Signal.mk (ByteArray.mk #[115, 50]) (T_api_End.mk 1 1) 0)] : (List T_api_Signal)) : (List T_api_Signal)).map cellsOf).length), .nil]), (36, lstOf (.own 6100007) (x763 : (List T_api_Step))), (45, .ref 3001 0)], [(3001, .cells ([.str (ByteArray.mk #[108, 105, 110, 101]), lstOf .full ([(ByteArray.mk #[120]), (ByteArray.mk #[121]), (ByteArray.mk #[122])] : (List ByteArray)), lstOf (.own 2200102) (x13 : (List T_api_Element)), lstOf .full ([(T_api_Joint.mk (T_api_End.mk 0 1) (T_api_End.mk 1 0)), (T_api_Joint.mk (T_api_End.mk 1 1) (T_api_End.mk 2 0))] : (List T_api_Joint)), .ex 502000034 4 40 (((([(T_api_Signal.mk (ByteArray.mk #[115, 49]) (T_api_End.mk 0 1) 0), (T_api_Signal.mk (ByteArray.mk #[115, 50]) (T_api_End.mk 1 1) 0)] : (List T_api_Signal)) : (List T_api_Signal)).map cellsOf).length) 0 (((([(T_api_Signal.mk (ByteArray.mk #[115, 49]) (T_api_End.mk 0 1) 0), (T_api_Signal.mk (ByteArray.mk #[115, 50]) (T_api_End.mk 1 1) 0)] : (List T_api_Signal)) : (List T_api_Signal)).map cellsOf).length), .nil])), (9002, .cells ([.str (ByteArray.mk #[108, 105, 110, 101]), lstOf .full ([(ByteArray.mk #[120]), (ByteArray.mk #[121]), (ByteArray.mk #[122])] : (List ByteArray)), lstOf (.own 2200102) (x13 : (List T_api_Element)), lstOf .full ([(T_api_Joint.mk (T_api_End.mk 0 1) (T_api_End.mk 1 0)), (T_api_Joint.mk (T_api_End.mk 1 1) (T_api_End.mk 2 0))] : (List T_api_Joint)), .ex 502000034 4 40 (((([(T_api_Signal.mk (ByteArray.mk #[115, 49]) (T_api_End.mk 0 1) 0), (T_api_Signal.mk (ByteArray.mk #[115, 50]) (T_api_End.mk 1 1) 0)] : (List T_api_Signal)) : (List T_api_Signal)).map cellsOf).length) 0 (((([(T_api_Signal.mk (ByteArray.mk #[115, 49]) (T_api_End.mk 0 1) 0), (T_api_Signal.mk (ByteArray.mk #[115, 50]) (T_api_End.mk 1 1) 0)] : (List T_api_Signal)) : (List T_api_Signal)).map cellsOf).length), .nil])), (9003, .cells ([.str ByteArray.empty, .int .i64 0, .int .i64 1, lstOf (.own 9011007) (r939 : (List T_api_Step)), lstOf (.own 9015007) (r940 : (List T_api_Setting)), lstOf (.own 9019007) (r941 : (List Int)), .int .i64 0, .int .i64 0, lstOf (.own 6100007) (x763 : (List T_api_Step)), .nil, .nil, lstOf (.own 9023007) (r942 : (List T_api_Setting)), lstOf (.own 9027007) (r943 : (List Int)), lstOf (.own 9031007) (r944 : (List T_api_End))])), (9004, .cells ([.str ByteArray.empty, .int .i64 0, .int .i64 0, .nil, .nil, .nil, .int .i64 0, .int .i64 0, .nil, .nil, .nil, .nil, .nil, .nil]))], [(2200102, (((x13).map cellsOf).length, 7)), (6100007, (((x763).map cellsOf).length, 3)), (9011007, (((r939).map cellsOf).length, 3)), (9015007, (((r940).map cellsOf).length, 2)), (9019007, (((r941).map cellsOf).length, 1)), (9023007, (((r942).map cellsOf).length, 2)), (9027007, (((r943).map cellsOf).length, 1)), (9031007, (((r944).map cellsOf).length, 2)), (502000034, (((([(T_api_Signal.mk (ByteArray.mk #[115, 49]) (T_api_End.mk 0 1) 0), (T_api_Signal.mk (ByteArray.mk #[115, 50]) (T_api_End.mk 1 1) 0)] : (List T_api_Signal)) : (List T_api_Signal)).map cellsOf).length, 0))], [(502000034, (4, (40, ((([(T_api_Signal.mk (ByteArray.mk #[115, 49]) (T_api_End.mk 0 1) 0), (T_api_Signal.mk (ByteArray.mk #[115, 50]) (T_api_End.mk 1 1) 0)] : (List T_api_Signal)).set j26 (T_api_Signal.mk x27.Name x27.At 500)) : (List T_api_Signal)).map cellsOf)))]⟩ 5300097 (by kernel_rfl) (by kernel_rfl) (by kernel_rfl) ?_
        obtain ⟨o881, h881, h515⟩ := o_bind h515
        refine p_inl (f := 34) (asx := [.agg [.str (ByteArray.mk #[108, 105, 110, 101]), lstOf .full ([(ByteArray.mk #[120]), (ByteArray.mk #[121]), (ByteArray.mk #[122])] : (List ByteArray)), lstOf (.own 2200102) (x13 : (List T_api_Element)), lstOf .full ([(T_api_Joint.mk (T_api_End.mk 0 1) (T_api_End.mk 1 0)), (T_api_Joint.mk (T_api_End.mk 1 1) (T_api_End.mk 2 0))] : (List T_api_Joint)), .ex 502000034 4 40 (((([(T_api_Signal.mk (ByteArray.mk #[115, 49]) (T_api_End.mk 0 1) 0), (T_api_Signal.mk (ByteArray.mk #[115, 50]) (T_api_End.mk 1 1) 0)] : (List T_api_Signal)) : (List T_api_Signal)).map cellsOf).length) 0 (((([(T_api_Signal.mk (ByteArray.mk #[115, 49]) (T_api_End.mk 0 1) 0), (T_api_Signal.mk (ByteArray.mk #[115, 50]) (T_api_End.mk 1 1) 0)] : (List T_api_Signal)) : (List T_api_Signal)).map cellsOf).length), .nil], lstOf (.own 6100007) (x763 : (List T_api_Step))]) (by kernel_rfl) Go.Proofs.Tryd.func34 (by rfl) rfl Go.Proofs.Tryd.ntmps34 (by rfl) ?_
        refine r_joinI o881 9700142 (fun x995 => ⟨[(4, lstOf .frozen (x995 : (List T_api_Setting))), (47, .ref 9002 0), (48, .ref 9003 0), (49, .ref 9004 0), (50, lstOf (.own 6100007) (x763 : (List T_api_Step))), (90, .ref 3001 0)], [(3001, .cells ([.str (ByteArray.mk #[108, 105, 110, 101]), lstOf .full ([(ByteArray.mk #[120]), (ByteArray.mk #[121]), (ByteArray.mk #[122])] : (List ByteArray)), lstOf (.own 2200102) (x13 : (List T_api_Element)), lstOf .full ([(T_api_Joint.mk (T_api_End.mk 0 1) (T_api_End.mk 1 0)), (T_api_Joint.mk (T_api_End.mk 1 1) (T_api_End.mk 2 0))] : (List T_api_Joint)), .ex 502000034 4 40 (((([(T_api_Signal.mk (ByteArray.mk #[115, 49]) (T_api_End.mk 0 1) 0), (T_api_Signal.mk (ByteArray.mk #[115, 50]) (T_api_End.mk 1 1) 0)] : (List T_api_Signal)) : (List T_api_Signal)).map cellsOf).length) 0 (((([(T_api_Signal.mk (ByteArray.mk #[115, 49]) (T_api_End.mk 0 1) 0), (T_api_Signal.mk (ByteArray.mk #[115, 50]) (T_api_End.mk 1 1) 0)] : (List T_api_Signal)) : (List T_api_Signal)).map cellsOf).length), .nil])), (9002, .cells ([.str (ByteArray.mk #[108, 105, 110, 101]), lstOf .full ([(ByteArray.mk #[120]), (ByteArray.mk #[121]), (ByteArray.mk #[122])] : (List ByteArray)), lstOf (.own 2200102) (x13 : (List T_api_Element)), lstOf .full ([(T_api_Joint.mk (T_api_End.mk 0 1) (T_api_End.mk 1 0)), (T_api_Joint.mk (T_api_End.mk 1 1) (T_api_End.mk 2 0))] : (List T_api_Joint)), .ex 502000034 4 40 (((([(T_api_Signal.mk (ByteArray.mk #[115, 49]) (T_api_End.mk 0 1) 0), (T_api_Signal.mk (ByteArray.mk #[115, 50]) (T_api_End.mk 1 1) 0)] : (List T_api_Signal)) : (List T_api_Signal)).map cellsOf).length) 0 (((([(T_api_Signal.mk (ByteArray.mk #[115, 49]) (T_api_End.mk 0 1) 0), (T_api_Signal.mk (ByteArray.mk #[115, 50]) (T_api_End.mk 1 1) 0)] : (List T_api_Signal)) : (List T_api_Signal)).map cellsOf).length), .nil])), (9003, .cells ([.str ByteArray.empty, .int .i64 0, .int .i64 1, lstOf (.own 9011007) (r939 : (List T_api_Step)), lstOf (.own 9015007) (r940 : (List T_api_Setting)), lstOf (.own 9019007) (r941 : (List Int)), .int .i64 0, .int .i64 0, lstOf (.own 6100007) (x763 : (List T_api_Step)), .nil, .nil, lstOf (.own 9023007) (r942 : (List T_api_Setting)), lstOf (.own 9027007) (r943 : (List Int)), lstOf (.own 9031007) (r944 : (List T_api_End))])), (9004, .cells ([.str ByteArray.empty, .int .i64 0, .int .i64 0, .nil, .nil, .nil, .int .i64 0, .int .i64 0, .nil, .nil, .nil, .nil, .nil, .nil]))], [(2200102, (((x13).map cellsOf).length, 7)), (6100007, (((x763).map cellsOf).length, 3)), (9011007, (((r939).map cellsOf).length, 3)), (9015007, (((r940).map cellsOf).length, 2)), (9019007, (((r941).map cellsOf).length, 1)), (9023007, (((r942).map cellsOf).length, 2)), (9027007, (((r943).map cellsOf).length, 1)), (9031007, (((r944).map cellsOf).length, 2)), (502000034, (((([(T_api_Signal.mk (ByteArray.mk #[115, 49]) (T_api_End.mk 0 1) 0), (T_api_Signal.mk (ByteArray.mk #[115, 50]) (T_api_End.mk 1 1) 0)] : (List T_api_Signal)) : (List T_api_Signal)).map cellsOf).length, 0))], [(502000034, (4, (40, ((([(T_api_Signal.mk (ByteArray.mk #[115, 49]) (T_api_End.mk 0 1) 0), (T_api_Signal.mk (ByteArray.mk #[115, 50]) (T_api_End.mk 1 1) 0)] : (List T_api_Signal)).set j26 (T_api_Signal.mk x27.Name x27.At 500)) : (List T_api_Signal)).map cellsOf)))]⟩) ?_ ?_
        · refine pwp_seq ?_
          refine r_reg ?_
          refine e_end (by kernel_rfl) ?_
          refine q_next ?_
          refine pwp_seq ?_
          refine r_reg ?_
          refine e_end (by kernel_rfl) ?_
          refine q_next ?_
          refine pwp_seq ?_
          refine pwp_seq ?_
          refine r_reg ?_
          refine p_run 1 (by kernel_rfl) ?_
          refine p_len (L := (x763 : (List T_api_Step))) (by kernel_rfl) ?_
          refine e_end (by kernel_rfl) ?_
          refine q_next ?_
          refine pwp_block ?_
          refine pwp_wkr (wkr_nilX 5 100005 2 16 (by kernel_rfl) (by kernel_rfl)) ?_
          obtain ⟨o916, h916, h881⟩ := o_inl h881
          refine r_loop2 9700142 0 (fun (x1019, x1020) => ⟨[(2, .ref 2 0), (5, .ex 100005 2 16 (((x1020 : (List T_api_Setting)).map cellsOf).length) 0 (((x1020 : (List T_api_Setting)).map cellsOf).length)), (10, lstOf (.own 6100007) (x763 : (List T_api_Step))), (11, .int .i64 ((x763.length : Nat) : Int)), (12, .int .i64 x1019), (47, .ref 9002 0), (48, .ref 9003 0), (49, .ref 9004 0), (50, lstOf (.own 6100007) (x763 : (List T_api_Step))), (90, .ref 3001 0)], [(2, .cells ([.str (ByteArray.mk #[108, 105, 110, 101]), lstOf .full ([(ByteArray.mk #[120]), (ByteArray.mk #[121]), (ByteArray.mk #[122])] : (List ByteArray)), lstOf (.own 2200102) (x13 : (List T_api_Element)), lstOf .full ([(T_api_Joint.mk (T_api_End.mk 0 1) (T_api_End.mk 1 0)), (T_api_Joint.mk (T_api_End.mk 1 1) (T_api_End.mk 2 0))] : (List T_api_Joint)), .ex 502000034 4 40 (((([(T_api_Signal.mk (ByteArray.mk #[115, 49]) (T_api_End.mk 0 1) 0), (T_api_Signal.mk (ByteArray.mk #[115, 50]) (T_api_End.mk 1 1) 0)] : (List T_api_Signal)) : (List T_api_Signal)).map cellsOf).length) 0 (((([(T_api_Signal.mk (ByteArray.mk #[115, 49]) (T_api_End.mk 0 1) 0), (T_api_Signal.mk (ByteArray.mk #[115, 50]) (T_api_End.mk 1 1) 0)] : (List T_api_Signal)) : (List T_api_Signal)).map cellsOf).length), .nil])), (3001, .cells ([.str (ByteArray.mk #[108, 105, 110, 101]), lstOf .full ([(ByteArray.mk #[120]), (ByteArray.mk #[121]), (ByteArray.mk #[122])] : (List ByteArray)), lstOf (.own 2200102) (x13 : (List T_api_Element)), lstOf .full ([(T_api_Joint.mk (T_api_End.mk 0 1) (T_api_End.mk 1 0)), (T_api_Joint.mk (T_api_End.mk 1 1) (T_api_End.mk 2 0))] : (List T_api_Joint)), .ex 502000034 4 40 (((([(T_api_Signal.mk (ByteArray.mk #[115, 49]) (T_api_End.mk 0 1) 0), (T_api_Signal.mk (ByteArray.mk #[115, 50]) (T_api_End.mk 1 1) 0)] : (List T_api_Signal)) : (List T_api_Signal)).map cellsOf).length) 0 (((([(T_api_Signal.mk (ByteArray.mk #[115, 49]) (T_api_End.mk 0 1) 0), (T_api_Signal.mk (ByteArray.mk #[115, 50]) (T_api_End.mk 1 1) 0)] : (List T_api_Signal)) : (List T_api_Signal)).map cellsOf).length), .nil])), (9002, .cells ([.str (ByteArray.mk #[108, 105, 110, 101]), lstOf .full ([(ByteArray.mk #[120]), (ByteArray.mk #[121]), (ByteArray.mk #[122])] : (List ByteArray)), lstOf (.own 2200102) (x13 : (List T_api_Element)), lstOf .full ([(T_api_Joint.mk (T_api_End.mk 0 1) (T_api_End.mk 1 0)), (T_api_Joint.mk (T_api_End.mk 1 1) (T_api_End.mk 2 0))] : (List T_api_Joint)), .ex 502000034 4 40 (((([(T_api_Signal.mk (ByteArray.mk #[115, 49]) (T_api_End.mk 0 1) 0), (T_api_Signal.mk (ByteArray.mk #[115, 50]) (T_api_End.mk 1 1) 0)] : (List T_api_Signal)) : (List T_api_Signal)).map cellsOf).length) 0 (((([(T_api_Signal.mk (ByteArray.mk #[115, 49]) (T_api_End.mk 0 1) 0), (T_api_Signal.mk (ByteArray.mk #[115, 50]) (T_api_End.mk 1 1) 0)] : (List T_api_Signal)) : (List T_api_Signal)).map cellsOf).length), .nil])), (9003, .cells ([.str ByteArray.empty, .int .i64 0, .int .i64 1, lstOf (.own 9011007) (r939 : (List T_api_Step)), lstOf (.own 9015007) (r940 : (List T_api_Setting)), lstOf (.own 9019007) (r941 : (List Int)), .int .i64 0, .int .i64 0, lstOf (.own 6100007) (x763 : (List T_api_Step)), .nil, .nil, lstOf (.own 9023007) (r942 : (List T_api_Setting)), lstOf (.own 9027007) (r943 : (List Int)), lstOf (.own 9031007) (r944 : (List T_api_End))])), (9004, .cells ([.str ByteArray.empty, .int .i64 0, .int .i64 0, .nil, .nil, .nil, .int .i64 0, .int .i64 0, .nil, .nil, .nil, .nil, .nil, .nil]))], [(2200102, (((x13).map cellsOf).length, 7)), (6100007, (((x763).map cellsOf).length, 3)), (9011007, (((r939).map cellsOf).length, 3)), (9015007, (((r940).map cellsOf).length, 2)), (9019007, (((r941).map cellsOf).length, 1)), (9023007, (((r942).map cellsOf).length, 2)), (9027007, (((r943).map cellsOf).length, 1)), (9031007, (((r944).map cellsOf).length, 2)), (100005, (((x1020 : (List T_api_Setting)).map cellsOf).length, 0)), (502000034, (((([(T_api_Signal.mk (ByteArray.mk #[115, 49]) (T_api_End.mk 0 1) 0), (T_api_Signal.mk (ByteArray.mk #[115, 50]) (T_api_End.mk 1 1) 0)] : (List T_api_Signal)) : (List T_api_Signal)).map cellsOf).length, 0))], [(100005, (2, (16, (x1020 : (List T_api_Setting)).map cellsOf))), (502000034, (4, (40, ((([(T_api_Signal.mk (ByteArray.mk #[115, 49]) (T_api_End.mk 0 1) 0), (T_api_Signal.mk (ByteArray.mk #[115, 50]) (T_api_End.mk 1 1) 0)] : (List T_api_Signal)).set j26 (T_api_Signal.mk x27.Name x27.At 500)) : (List T_api_Signal)).map cellsOf)))]⟩) (fun x1032 => ⟨[(5, .ex 100005 2 16 (((x1032 : (List T_api_Setting)).map cellsOf).length) 0 (((x1032 : (List T_api_Setting)).map cellsOf).length)), (47, .ref 9002 0), (48, .ref 9003 0), (49, .ref 9004 0), (50, lstOf (.own 6100007) (x763 : (List T_api_Step))), (90, .ref 3001 0)], [(3001, .cells ([.str (ByteArray.mk #[108, 105, 110, 101]), lstOf .full ([(ByteArray.mk #[120]), (ByteArray.mk #[121]), (ByteArray.mk #[122])] : (List ByteArray)), lstOf (.own 2200102) (x13 : (List T_api_Element)), lstOf .full ([(T_api_Joint.mk (T_api_End.mk 0 1) (T_api_End.mk 1 0)), (T_api_Joint.mk (T_api_End.mk 1 1) (T_api_End.mk 2 0))] : (List T_api_Joint)), .ex 502000034 4 40 (((([(T_api_Signal.mk (ByteArray.mk #[115, 49]) (T_api_End.mk 0 1) 0), (T_api_Signal.mk (ByteArray.mk #[115, 50]) (T_api_End.mk 1 1) 0)] : (List T_api_Signal)) : (List T_api_Signal)).map cellsOf).length) 0 (((([(T_api_Signal.mk (ByteArray.mk #[115, 49]) (T_api_End.mk 0 1) 0), (T_api_Signal.mk (ByteArray.mk #[115, 50]) (T_api_End.mk 1 1) 0)] : (List T_api_Signal)) : (List T_api_Signal)).map cellsOf).length), .nil])), (9002, .cells ([.str (ByteArray.mk #[108, 105, 110, 101]), lstOf .full ([(ByteArray.mk #[120]), (ByteArray.mk #[121]), (ByteArray.mk #[122])] : (List ByteArray)), lstOf (.own 2200102) (x13 : (List T_api_Element)), lstOf .full ([(T_api_Joint.mk (T_api_End.mk 0 1) (T_api_End.mk 1 0)), (T_api_Joint.mk (T_api_End.mk 1 1) (T_api_End.mk 2 0))] : (List T_api_Joint)), .ex 502000034 4 40 (((([(T_api_Signal.mk (ByteArray.mk #[115, 49]) (T_api_End.mk 0 1) 0), (T_api_Signal.mk (ByteArray.mk #[115, 50]) (T_api_End.mk 1 1) 0)] : (List T_api_Signal)) : (List T_api_Signal)).map cellsOf).length) 0 (((([(T_api_Signal.mk (ByteArray.mk #[115, 49]) (T_api_End.mk 0 1) 0), (T_api_Signal.mk (ByteArray.mk #[115, 50]) (T_api_End.mk 1 1) 0)] : (List T_api_Signal)) : (List T_api_Signal)).map cellsOf).length), .nil])), (9003, .cells ([.str ByteArray.empty, .int .i64 0, .int .i64 1, lstOf (.own 9011007) (r939 : (List T_api_Step)), lstOf (.own 9015007) (r940 : (List T_api_Setting)), lstOf (.own 9019007) (r941 : (List Int)), .int .i64 0, .int .i64 0, lstOf (.own 6100007) (x763 : (List T_api_Step)), .nil, .nil, lstOf (.own 9023007) (r942 : (List T_api_Setting)), lstOf (.own 9027007) (r943 : (List Int)), lstOf (.own 9031007) (r944 : (List T_api_End))])), (9004, .cells ([.str ByteArray.empty, .int .i64 0, .int .i64 0, .nil, .nil, .nil, .int .i64 0, .int .i64 0, .nil, .nil, .nil, .nil, .nil, .nil]))], [(2200102, (((x13).map cellsOf).length, 7)), (6100007, (((x763).map cellsOf).length, 3)), (9011007, (((r939).map cellsOf).length, 3)), (9015007, (((r940).map cellsOf).length, 2)), (9019007, (((r941).map cellsOf).length, 1)), (9023007, (((r942).map cellsOf).length, 2)), (9027007, (((r943).map cellsOf).length, 1)), (9031007, (((r944).map cellsOf).length, 2)), (100005, (((x1032 : (List T_api_Setting)).map cellsOf).length, 0)), (502000034, (((([(T_api_Signal.mk (ByteArray.mk #[115, 49]) (T_api_End.mk 0 1) 0), (T_api_Signal.mk (ByteArray.mk #[115, 50]) (T_api_End.mk 1 1) 0)] : (List T_api_Signal)) : (List T_api_Signal)).map cellsOf).length, 0))], [(100005, (2, (16, (x1032 : (List T_api_Setting)).map cellsOf))), (502000034, (4, (40, ((([(T_api_Signal.mk (ByteArray.mk #[115, 49]) (T_api_End.mk 0 1) 0), (T_api_Signal.mk (ByteArray.mk #[115, 50]) (T_api_End.mk 1 1) 0)] : (List T_api_Signal)).set j26 (T_api_Signal.mk x27.Name x27.At 500)) : (List T_api_Signal)).map cellsOf)))]⟩) h916 (by kernel_rfl) (fun _ => by kernel_rfl) ?_ ?_
          · rintro ⟨x1019, x1020⟩ oh915 h915
            unfold d_law13_alive_3 at h915
            refine pwp_seq ?_
            refine r_reg ?_
            refine e_end (by kernel_rfl) ?_
            refine q_next ?_
            refine pwp_seq ?_
            rcases o_cond h915 with ⟨hb, h915⟩ | ⟨hb, h915⟩
            · refine r_cond_t hb (by kernel_rfl) ?_
              refine pwp_skip ?_
              refine q_next ?_
              obtain ⟨o922, h922, h915⟩ := o_inl h915
              refine r_join (o := o922) 9700142 (fun x1038 => ⟨[(2, .ref 2 0), (5, .ex 100005 2 16 (((x1038 : (List T_api_Setting)).map cellsOf).length) 0 (((x1038 : (List T_api_Setting)).map cellsOf).length)), (10, lstOf (.own 6100007) (x763 : (List T_api_Step))), (11, .int .i64 ((x763.length : Nat) : Int)), (12, .int .i64 x1019), (47, .ref 9002 0), (48, .ref 9003 0), (49, .ref 9004 0), (50, lstOf (.own 6100007) (x763 : (List T_api_Step))), (90, .ref 3001 0)], [(2, .cells ([.str (ByteArray.mk #[108, 105, 110, 101]), lstOf .full ([(ByteArray.mk #[120]), (ByteArray.mk #[121]), (ByteArray.mk #[122])] : (List ByteArray)), lstOf (.own 2200102) (x13 : (List T_api_Element)), lstOf .full ([(T_api_Joint.mk (T_api_End.mk 0 1) (T_api_End.mk 1 0)), (T_api_Joint.mk (T_api_End.mk 1 1) (T_api_End.mk 2 0))] : (List T_api_Joint)), .ex 502000034 4 40 (((([(T_api_Signal.mk (ByteArray.mk #[115, 49]) (T_api_End.mk 0 1) 0), (T_api_Signal.mk (ByteArray.mk #[115, 50]) (T_api_End.mk 1 1) 0)] : (List T_api_Signal)) : (List T_api_Signal)).map cellsOf).length) 0 (((([(T_api_Signal.mk (ByteArray.mk #[115, 49]) (T_api_End.mk 0 1) 0), (T_api_Signal.mk (ByteArray.mk #[115, 50]) (T_api_End.mk 1 1) 0)] : (List T_api_Signal)) : (List T_api_Signal)).map cellsOf).length), .nil])), (3001, .cells ([.str (ByteArray.mk #[108, 105, 110, 101]), lstOf .full ([(ByteArray.mk #[120]), (ByteArray.mk #[121]), (ByteArray.mk #[122])] : (List ByteArray)), lstOf (.own 2200102) (x13 : (List T_api_Element)), lstOf .full ([(T_api_Joint.mk (T_api_End.mk 0 1) (T_api_End.mk 1 0)), (T_api_Joint.mk (T_api_End.mk 1 1) (T_api_End.mk 2 0))] : (List T_api_Joint)), .ex 502000034 4 40 (((([(T_api_Signal.mk (ByteArray.mk #[115, 49]) (T_api_End.mk 0 1) 0), (T_api_Signal.mk (ByteArray.mk #[115, 50]) (T_api_End.mk 1 1) 0)] : (List T_api_Signal)) : (List T_api_Signal)).map cellsOf).length) 0 (((([(T_api_Signal.mk (ByteArray.mk #[115, 49]) (T_api_End.mk 0 1) 0), (T_api_Signal.mk (ByteArray.mk #[115, 50]) (T_api_End.mk 1 1) 0)] : (List T_api_Signal)) : (List T_api_Signal)).map cellsOf).length), .nil])), (9002, .cells ([.str (ByteArray.mk #[108, 105, 110, 101]), lstOf .full ([(ByteArray.mk #[120]), (ByteArray.mk #[121]), (ByteArray.mk #[122])] : (List ByteArray)), lstOf (.own 2200102) (x13 : (List T_api_Element)), lstOf .full ([(T_api_Joint.mk (T_api_End.mk 0 1) (T_api_End.mk 1 0)), (T_api_Joint.mk (T_api_End.mk 1 1) (T_api_End.mk 2 0))] : (List T_api_Joint)), .ex 502000034 4 40 (((([(T_api_Signal.mk (ByteArray.mk #[115, 49]) (T_api_End.mk 0 1) 0), (T_api_Signal.mk (ByteArray.mk #[115, 50]) (T_api_End.mk 1 1) 0)] : (List T_api_Signal)) : (List T_api_Signal)).map cellsOf).length) 0 (((([(T_api_Signal.mk (ByteArray.mk #[115, 49]) (T_api_End.mk 0 1) 0), (T_api_Signal.mk (ByteArray.mk #[115, 50]) (T_api_End.mk 1 1) 0)] : (List T_api_Signal)) : (List T_api_Signal)).map cellsOf).length), .nil])), (9003, .cells ([.str ByteArray.empty, .int .i64 0, .int .i64 1, lstOf (.own 9011007) (r939 : (List T_api_Step)), lstOf (.own 9015007) (r940 : (List T_api_Setting)), lstOf (.own 9019007) (r941 : (List Int)), .int .i64 0, .int .i64 0, lstOf (.own 6100007) (x763 : (List T_api_Step)), .nil, .nil, lstOf (.own 9023007) (r942 : (List T_api_Setting)), lstOf (.own 9027007) (r943 : (List Int)), lstOf (.own 9031007) (r944 : (List T_api_End))])), (9004, .cells ([.str ByteArray.empty, .int .i64 0, .int .i64 0, .nil, .nil, .nil, .int .i64 0, .int .i64 0, .nil, .nil, .nil, .nil, .nil, .nil]))], [(2200102, (((x13).map cellsOf).length, 7)), (6100007, (((x763).map cellsOf).length, 3)), (9011007, (((r939).map cellsOf).length, 3)), (9015007, (((r940).map cellsOf).length, 2)), (9019007, (((r941).map cellsOf).length, 1)), (9023007, (((r942).map cellsOf).length, 2)), (9027007, (((r943).map cellsOf).length, 1)), (9031007, (((r944).map cellsOf).length, 2)), (100005, (((x1038 : (List T_api_Setting)).map cellsOf).length, 0)), (502000034, (((([(T_api_Signal.mk (ByteArray.mk #[115, 49]) (T_api_End.mk 0 1) 0), (T_api_Signal.mk (ByteArray.mk #[115, 50]) (T_api_End.mk 1 1) 0)] : (List T_api_Signal)) : (List T_api_Signal)).map cellsOf).length, 0))], [(100005, (2, (16, (x1038 : (List T_api_Setting)).map cellsOf))), (502000034, (4, (40, ((([(T_api_Signal.mk (ByteArray.mk #[115, 49]) (T_api_End.mk 0 1) 0), (T_api_Signal.mk (ByteArray.mk #[115, 50]) (T_api_End.mk 1 1) 0)] : (List T_api_Signal)).set j26 (T_api_Signal.mk x27.Name x27.At 500)) : (List T_api_Signal)).map cellsOf)))]⟩) ?_ ?_
              · refine pwp_block ?_
                refine pwp_seq ?_
                refine r_reg ?_
                obtain ⟨x1039, h923, h922⟩ := o_bind h922
                refine p_ix h923 (by kernel_rfl) ?_
                refine e_end (by kernel_rfl) ?_
                refine q_next ?_
                refine pwp_seq ?_
                refine r_reg ?_
                refine p_run 2 (by kernel_rfl) ?_
                obtain ⟨r1040, h924, h922⟩ := o_bind h922
                refine p_callB [502000034] (d_walk_possible_ok _ _ r1040 h924) (by kernel_rfl) (by kernel_rfl) (by kernel_rfl) ?_
                refine e_end (by kernel_rfl) ?_
                refine q_next ?_
                refine pwp_seq ?_
                refine r_reg ?_
                obtain ⟨b1041, h925, h922⟩ := o_bind h922
                refine p_run 2 (by kernel_rfl) ?_
                refine e_seg 9 32 (.bool b1041) ?_ ?_
                · rcases o_cond h925 with ⟨hb, h925⟩ | ⟨hb, h925⟩
                  · refine p_settle 23 hb (by kernel_rfl) (by kernel_rfl) ?_
                    refine p_run 4 (by kernel_rfl) ?_
                    obtain ⟨x1042, h926, h925⟩ := o_bind h925
                    refine p_ix h926 (by kernel_rfl) ?_
                    cases h925
                    exact f_end (by kernel_rfl) (by kernel_rfl)
                  · refine p_settle 23 hb (by kernel_rfl) (by kernel_rfl) ?_
                    cases h925
                    exact f_end (by kernel_rfl) (by kernel_rfl)
                · refine e_nil (by kernel_rfl) ?_
                  refine q_next ?_
                  rcases o_cond h922 with ⟨hb, h922⟩ | ⟨hb, h922⟩
                  · refine r_cond_t hb (by kernel_rfl) ?_
                    refine r_reg ?_
                    refine p_run 6 (by kernel_rfl) ?_
                    obtain ⟨x1043, h927, h922⟩ := o_bind h922
                    refine p_xapp (tk := 100005) (N := ((x1020 : (List T_api_Setting)).map cellsOf).length) h927 (by kernel_rfl) (by kernel_rfl) (by kernel_rfl) ?_
                    refine e_end (by kernel_rfl) ?_
                    refine q_block ?_
                    cases h922
                    exact q_join (by kernel_rfl) (by kernel_rfl)
                  · refine r_cond_f hb (by kernel_rfl) ?_
                    refine pwp_skip ?_
                    refine q_block ?_
                    cases h922
                    exact q_join (by kernel_rfl) (by kernel_rfl)
              · rintro x1038 rfl
                have h915 := o_outl h915
                refine r_reg ?_
                refine e_end (by kernel_rfl) ?_
                cases h915
                exact q_lback (by kernel_rfl)
            · refine r_cond_f hb (by kernel_rfl) ?_
              refine pwp_exit ?_
              refine q_seq_exit ?_
              cases h915
              exact q_lexit (by kernel_rfl) (by kernel_rfl)
          · rintro x1032 s' rfl hs
            have h881 := o_outl h881
            refine q_block_hit ?_
            refine q_next (pwp_wkr hs ?_)
            refine pwp_seq ?_
            refine r_reg ?_
            refine p_run 1 (by kernel_rfl) ?_
            obtain ⟨r1044, h928, h881⟩ := o_bind h881
            refine p_xcall (t := 100005) (L := (x1032 : (List T_api_Setting))) (L' := (r1044 : (List T_api_Setting))) (N := ((x1032 : (List T_api_Setting)).map cellsOf).length) (by kernel_rfl) (by kernel_rfl) (by kernel_rfl) (d_slices_SortFunc_api_Setting__walk_Settings_1_xc _ r1044 h928) ?_
            refine e_nil (by kernel_rfl) ?_
            refine q_next ?_
            refine pwp_seq ?_
            refine r_reg ?_
            refine p_run 1 (by kernel_rfl) ?_
            obtain ⟨r1045, h929, h881⟩ := o_bind h881
            refine p_xcallS (t := 100005) (L := (r1044 : (List T_api_Setting))) (L' := (r1045.1 : (List T_api_Setting))) (m := r1045.2) (N := ((x1032 : (List T_api_Setting)).map cellsOf).length) (by kernel_rfl) (by kernel_rfl) (by kernel_rfl) (d_slices_Compact_api_Setting_xc _ r1045 h929) ?_
            refine e_end (by kernel_rfl) ?_
            refine q_next ?_
            refine pwp_ret ?_
            cases h881
            exact q_ij (by kernel_rfl) (by kernel_rfl)
        · generalize o881 = x995 at *
          refine q_inl (r := lstOf .frozen (x995 : (List T_api_Setting))) (by kernel_rfl) ?_
          refine wl_ren 10 ⟨[(2, .ref 9002 0), (3, .ref 9003 0), (4, .ref 9004 0), (5, lstOf (.own 6100007) (x763 : (List T_api_Step))), (37, lstOf .frozen (x995 : (List T_api_Setting))), (45, .ref 3001 0)], [(3001, .cells ([.str (ByteArray.mk #[108, 105, 110, 101]), lstOf .full ([(ByteArray.mk #[120]), (ByteArray.mk #[121]), (ByteArray.mk #[122])] : (List ByteArray)), lstOf (.own 2200102) (x13 : (List T_api_Element)), lstOf .full ([(T_api_Joint.mk (T_api_End.mk 0 1) (T_api_End.mk 1 0)), (T_api_Joint.mk (T_api_End.mk 1 1) (T_api_End.mk 2 0))] : (List T_api_Joint)), .ex 502000034 4 40 (((([(T_api_Signal.mk (ByteArray.mk #[115, 49]) (T_api_End.mk 0 1) 0), (T_api_Signal.mk (ByteArray.mk #[115, 50]) (T_api_End.mk 1 1) 0)] : (List T_api_Signal)) : (List T_api_Signal)).map cellsOf).length) 0 (((([(T_api_Signal.mk (ByteArray.mk #[115, 49]) (T_api_End.mk 0 1) 0), (T_api_Signal.mk (ByteArray.mk #[115, 50]) (T_api_End.mk 1 1) 0)] : (List T_api_Signal)) : (List T_api_Signal)).map cellsOf).length), .nil])), (9002, .cells ([.str (ByteArray.mk #[108, 105, 110, 101]), lstOf .full ([(ByteArray.mk #[120]), (ByteArray.mk #[121]), (ByteArray.mk #[122])] : (List ByteArray)), lstOf (.own 2200102) (x13 : (List T_api_Element)), lstOf .full ([(T_api_Joint.mk (T_api_End.mk 0 1) (T_api_End.mk 1 0)), (T_api_Joint.mk (T_api_End.mk 1 1) (T_api_End.mk 2 0))] : (List T_api_Joint)), .ex 502000034 4 40 (((([(T_api_Signal.mk (ByteArray.mk #[115, 49]) (T_api_End.mk 0 1) 0), (T_api_Signal.mk (ByteArray.mk #[115, 50]) (T_api_End.mk 1 1) 0)] : (List T_api_Signal)) : (List T_api_Signal)).map cellsOf).length) 0 (((([(T_api_Signal.mk (ByteArray.mk #[115, 49]) (T_api_End.mk 0 1) 0), (T_api_Signal.mk (ByteArray.mk #[115, 50]) (T_api_End.mk 1 1) 0)] : (List T_api_Signal)) : (List T_api_Signal)).map cellsOf).length), .nil])), (9003, .cells ([.str ByteArray.empty, .int .i64 0, .int .i64 1, lstOf (.own 9011007) (r939 : (List T_api_Step)), lstOf (.own 9015007) (r940 : (List T_api_Setting)), lstOf (.own 9019007) (r941 : (List Int)), .int .i64 0, .int .i64 0, lstOf (.own 6100007) (x763 : (List T_api_Step)), .nil, .nil, lstOf (.own 9023007) (r942 : (List T_api_Setting)), lstOf (.own 9027007) (r943 : (List Int)), lstOf (.own 9031007) (r944 : (List T_api_End))])), (9004, .cells ([.str ByteArray.empty, .int .i64 0, .int .i64 0, .nil, .nil, .nil, .int .i64 0, .int .i64 0, .nil, .nil, .nil, .nil, .nil, .nil]))], [(2200102, (((x13).map cellsOf).length, 7)), (6100007, (((x763).map cellsOf).length, 3)), (9011007, (((r939).map cellsOf).length, 3)), (9015007, (((r940).map cellsOf).length, 2)), (9019007, (((r941).map cellsOf).length, 1)), (9023007, (((r942).map cellsOf).length, 2)), (9027007, (((r943).map cellsOf).length, 1)), (9031007, (((r944).map cellsOf).length, 2)), (502000034, (((([(T_api_Signal.mk (ByteArray.mk #[115, 49]) (T_api_End.mk 0 1) 0), (T_api_Signal.mk (ByteArray.mk #[115, 50]) (T_api_End.mk 1 1) 0)] : (List T_api_Signal)) : (List T_api_Signal)).map cellsOf).length, 0))], [(502000034, (4, (40, ((([(T_api_Signal.mk (ByteArray.mk #[115, 49]) (T_api_End.mk 0 1) 0), (T_api_Signal.mk (ByteArray.mk #[115, 50]) (T_api_End.mk 1 1) 0)] : (List T_api_Signal)).set j26 (T_api_Signal.mk x27.Name x27.At 500)) : (List T_api_Signal)).map cellsOf)))]⟩ 5300097 (by kernel_rfl) (by kernel_rfl) (by kernel_rfl) ?_
          refine wl_ren 9 ⟨[(2, .ref 2 0), (3, .ref 3 0), (4, .ref 4 0), (5, lstOf (.own 6100007) (x763 : (List T_api_Step))), (37, lstOf .frozen (x995 : (List T_api_Setting))), (45, .ref 3001 0)], [(2, .cells ([.str (ByteArray.mk #[108, 105, 110, 101]), lstOf .full ([(ByteArray.mk #[120]), (ByteArray.mk #[121]), (ByteArray.mk #[122])] : (List ByteArray)), lstOf (.own 2200102) (x13 : (List T_api_Element)), lstOf .full ([(T_api_Joint.mk (T_api_End.mk 0 1) (T_api_End.mk 1 0)), (T_api_Joint.mk (T_api_End.mk 1 1) (T_api_End.mk 2 0))] : (List T_api_Joint)), .ex 502000034 4 40 (((([(T_api_Signal.mk (ByteArray.mk #[115, 49]) (T_api_End.mk 0 1) 0), (T_api_Signal.mk (ByteArray.mk #[115, 50]) (T_api_End.mk 1 1) 0)] : (List T_api_Signal)) : (List T_api_Signal)).map cellsOf).length) 0 (((([(T_api_Signal.mk (ByteArray.mk #[115, 49]) (T_api_End.mk 0 1) 0), (T_api_Signal.mk (ByteArray.mk #[115, 50]) (T_api_End.mk 1 1) 0)] : (List T_api_Signal)) : (List T_api_Signal)).map cellsOf).length), .nil])), (3, .cells ([.str ByteArray.empty, .int .i64 0, .int .i64 1, lstOf (.own 11007) (r939 : (List T_api_Step)), lstOf (.own 15007) (r940 : (List T_api_Setting)), lstOf (.own 19007) (r941 : (List Int)), .int .i64 0, .int .i64 0, lstOf (.own 6100007) (x763 : (List T_api_Step)), .nil, .nil, lstOf (.own 23007) (r942 : (List T_api_Setting)), lstOf (.own 27007) (r943 : (List Int)), lstOf (.own 31007) (r944 : (List T_api_End))])), (4, .cells ([.str ByteArray.empty, .int .i64 0, .int .i64 0, .nil, .nil, .nil, .int .i64 0, .int .i64 0, .nil, .nil, .nil, .nil, .nil, .nil])), (3001, .cells ([.str (ByteArray.mk #[108, 105, 110, 101]), lstOf .full ([(ByteArray.mk #[120]), (ByteArray.mk #[121]), (ByteArray.mk #[122])] : (List ByteArray)), lstOf (.own 2200102) (x13 : (List T_api_Element)), lstOf .full ([(T_api_Joint.mk (T_api_End.mk 0 1) (T_api_End.mk 1 0)), (T_api_Joint.mk (T_api_End.mk 1 1) (T_api_End.mk 2 0))] : (List T_api_Joint)), .ex 502000034 4 40 (((([(T_api_Signal.mk (ByteArray.mk #[115, 49]) (T_api_End.mk 0 1) 0), (T_api_Signal.mk (ByteArray.mk #[115, 50]) (T_api_End.mk 1 1) 0)] : (List T_api_Signal)) : (List T_api_Signal)).map cellsOf).length) 0 (((([(T_api_Signal.mk (ByteArray.mk #[115, 49]) (T_api_End.mk 0 1) 0), (T_api_Signal.mk (ByteArray.mk #[115, 50]) (T_api_End.mk 1 1) 0)] : (List T_api_Signal)) : (List T_api_Signal)).map cellsOf).length), .nil]))], [(11007, (((r939).map cellsOf).length, 3)), (15007, (((r940).map cellsOf).length, 2)), (19007, (((r941).map cellsOf).length, 1)), (23007, (((r942).map cellsOf).length, 2)), (27007, (((r943).map cellsOf).length, 1)), (31007, (((r944).map cellsOf).length, 2)), (2200102, (((x13).map cellsOf).length, 7)), (6100007, (((x763).map cellsOf).length, 3)), (502000034, (((([(T_api_Signal.mk (ByteArray.mk #[115, 49]) (T_api_End.mk 0 1) 0), (T_api_Signal.mk (ByteArray.mk #[115, 50]) (T_api_End.mk 1 1) 0)] : (List T_api_Signal)) : (List T_api_Signal)).map cellsOf).length, 0))], [(502000034, (4, (40, ((([(T_api_Signal.mk (ByteArray.mk #[115, 49]) (T_api_End.mk 0 1) 0), (T_api_Signal.mk (ByteArray.mk #[115, 50]) (T_api_End.mk 1 1) 0)] : (List T_api_Signal)).set j26 (T_api_Signal.mk x27.Name x27.At 500)) : (List T_api_Signal)).map cellsOf)))]⟩ 5300097 (by kernel_rfl) (by kernel_rfl) (by kernel_rfl) ?_
          refine wl_run 3 2 ?_
          refine e_end (by kernel_rfl) ?_
          refine wl_end ?_
          refine q_next ?_
          refine pwp_seq ?_
          refine r_regi ?_
          refine wl_run 0 2 ?_
          refine e_end (by kernel_rfl) ?_
          refine wl_ren 11 ⟨[(3, .ref 11003 0), (4, .ref 11004 0), (39, .agg [.str (ByteArray.mk #[108, 105, 110, 101]), lstOf .full ([(ByteArray.mk #[120]), (ByteArray.mk #[121]), (ByteArray.mk #[122])] : (List ByteArray)), lstOf (.own 2200102) (x13 : (List T_api_Element)), lstOf .full ([(T_api_Joint.mk (T_api_End.mk 0 1) (T_api_End.mk 1 0)), (T_api_Joint.mk (T_api_End.mk 1 1) (T_api_End.mk 2 0))] : (List T_api_Joint)), .ex 502000034 4 40 (((([(T_api_Signal.mk (ByteArray.mk #[115, 49]) (T_api_End.mk 0 1) 0), (T_api_Signal.mk (ByteArray.mk #[115, 50]) (T_api_End.mk 1 1) 0)] : (List T_api_Signal)) : (List T_api_Signal)).map cellsOf).length) 0 (((([(T_api_Signal.mk (ByteArray.mk #[115, 49]) (T_api_End.mk 0 1) 0), (T_api_Signal.mk (ByteArray.mk #[115, 50]) (T_api_End.mk 1 1) 0)] : (List T_api_Signal)) : (List T_api_Signal)).map cellsOf).length), .nil]), (40, lstOf (.own 6100007) (x763 : (List T_api_Step))), (45, .ref 3001 0)], [(3001, .cells ([.str (ByteArray.mk #[108, 105, 110, 101]), lstOf .full ([(ByteArray.mk #[120]), (ByteArray.mk #[121]), (ByteArray.mk #[122])] : (List ByteArray)), lstOf (.own 2200102) (x13 : (List T_api_Element)), lstOf .full ([(T_api_Joint.mk (T_api_End.mk 0 1) (T_api_End.mk 1 0)), (T_api_Joint.mk (T_api_End.mk 1 1) (T_api_End.mk 2 0))] : (List T_api_Joint)), .ex 502000034 4 40 (((([(T_api_Signal.mk (ByteArray.mk #[115, 49]) (T_api_End.mk 0 1) 0), (T_api_Signal.mk (ByteArray.mk #[115, 50]) (T_api_End.mk 1 1) 0)] : (List T_api_Signal)) : (List T_api_Signal)).map cellsOf).length) 0 (((([(T_api_Signal.mk (ByteArray.mk #[115, 49]) (T_api_End.mk 0 1) 0), (T_api_Signal.mk (ByteArray.mk #[115, 50]) (T_api_End.mk 1 1) 0)] : (List T_api_Signal)) : (List T_api_Signal)).map cellsOf).length), .nil])), (11003, .cells ([.str ByteArray.empty, .int .i64 0, .int .i64 1, lstOf (.own 11011007) (r939 : (List T_api_Step)), lstOf (.own 11015007) (r940 : (List T_api_Setting)), lstOf (.own 11019007) (r941 : (List Int)), .int .i64 0, .int .i64 0, lstOf (.own 6100007) (x763 : (List T_api_Step)), lstOf .frozen (x995 : (List T_api_Setting)), .nil, lstOf (.own 11023007) (r942 : (List T_api_Setting)), lstOf (.own 11027007) (r943 : (List Int)), lstOf (.own 11031007) (r944 : (List T_api_End))])), (11004, .cells ([.str ByteArray.empty, .int .i64 0, .int .i64 0, .nil, .nil, .nil, .int .i64 0, .int .i64 0, .nil, .nil, .nil, .nil, .nil, .nil]))], [(2200102, (((x13).map cellsOf).length, 7)), (6100007, (((x763).map cellsOf).length, 3)), (11011007, (((r939).map cellsOf).length, 3)), (11015007, (((r940).map cellsOf).length, 2)), (11019007, (((r941).map cellsOf).length, 1)), (11023007, (((r942).map cellsOf).length, 2)), (11027007, (((r943).map cellsOf).length, 1)), (11031007, (((r944).map cellsOf).length, 2)), (502000034, (((([(T_api_Signal.mk (ByteArray.mk #[115, 49]) (T_api_End.mk 0 1) 0), (T_api_Signal.mk (ByteArray.mk #[115, 50]) (T_api_End.mk 1 1) 0)] : (List T_api_Signal)) : (List T_api_Signal)).map cellsOf).length, 0))], [(502000034, (4, (40, ((([(T_api_Signal.mk (ByteArray.mk #[115, 49]) (T_api_End.mk 0 1) 0), (T_api_Signal.mk (ByteArray.mk #[115, 50]) (T_api_End.mk 1 1) 0)] : (List T_api_Signal)).set j26 (T_api_Signal.mk x27.Name x27.At 500)) : (List T_api_Signal)).map cellsOf)))]⟩ 5300097 (by kernel_rfl) (by kernel_rfl) (by kernel_rfl) ?_
          obtain ⟨o968, h968, h515⟩ := o_bind h515
          refine p_inl (f := 35) (asx := [.agg [.str (ByteArray.mk #[108, 105, 110, 101]), lstOf .full ([(ByteArray.mk #[120]), (ByteArray.mk #[121]), (ByteArray.mk #[122])] : (List ByteArray)), lstOf (.own 2200102) (x13 : (List T_api_Element)), lstOf .full ([(T_api_Joint.mk (T_api_End.mk 0 1) (T_api_End.mk 1 0)), (T_api_Joint.mk (T_api_End.mk 1 1) (T_api_End.mk 2 0))] : (List T_api_Joint)), .ex 502000034 4 40 (((([(T_api_Signal.mk (ByteArray.mk #[115, 49]) (T_api_End.mk 0 1) 0), (T_api_Signal.mk (ByteArray.mk #[115, 50]) (T_api_End.mk 1 1) 0)] : (List T_api_Signal)) : (List T_api_Signal)).map cellsOf).length) 0 (((([(T_api_Signal.mk (ByteArray.mk #[115, 49]) (T_api_End.mk 0 1) 0), (T_api_Signal.mk (ByteArray.mk #[115, 50]) (T_api_End.mk 1 1) 0)] : (List T_api_Signal)) : (List T_api_Signal)).map cellsOf).length), .nil], lstOf (.own 6100007) (x763 : (List T_api_Step))]) (by kernel_rfl) Go.Proofs.Tryd.func35 (by rfl) rfl Go.Proofs.Tryd.ntmps35 (by rfl) ?_
          refine r_joinI o968 9700138 (fun x1092 => ⟨[(4, lstOf (.own 100005) (x1092 : (List Int))), (44, .ref 11003 0), (45, .ref 11004 0), (86, .ref 3001 0)], [(3001, .cells ([.str (ByteArray.mk #[108, 105, 110, 101]), lstOf .full ([(ByteArray.mk #[120]), (ByteArray.mk #[121]), (ByteArray.mk #[122])] : (List ByteArray)), lstOf (.own 2200102) (x13 : (List T_api_Element)), lstOf .full ([(T_api_Joint.mk (T_api_End.mk 0 1) (T_api_End.mk 1 0)), (T_api_Joint.mk (T_api_End.mk 1 1) (T_api_End.mk 2 0))] : (List T_api_Joint)), .ex 502000034 4 40 (((([(T_api_Signal.mk (ByteArray.mk #[115, 49]) (T_api_End.mk 0 1) 0), (T_api_Signal.mk (ByteArray.mk #[115, 50]) (T_api_End.mk 1 1) 0)] : (List T_api_Signal)) : (List T_api_Signal)).map cellsOf).length) 0 (((([(T_api_Signal.mk (ByteArray.mk #[115, 49]) (T_api_End.mk 0 1) 0), (T_api_Signal.mk (ByteArray.mk #[115, 50]) (T_api_End.mk 1 1) 0)] : (List T_api_Signal)) : (List T_api_Signal)).map cellsOf).length), .nil])), (11003, .cells ([.str ByteArray.empty, .int .i64 0, .int .i64 1, lstOf (.own 11011007) (r939 : (List T_api_Step)), lstOf (.own 11015007) (r940 : (List T_api_Setting)), lstOf (.own 11019007) (r941 : (List Int)), .int .i64 0, .int .i64 0, lstOf (.own 6100007) (x763 : (List T_api_Step)), lstOf .frozen (x995 : (List T_api_Setting)), .nil, lstOf (.own 11023007) (r942 : (List T_api_Setting)), lstOf (.own 11027007) (r943 : (List Int)), lstOf (.own 11031007) (r944 : (List T_api_End))])), (11004, .cells ([.str ByteArray.empty, .int .i64 0, .int .i64 0, .nil, .nil, .nil, .int .i64 0, .int .i64 0, .nil, .nil, .nil, .nil, .nil, .nil]))], [(100005, (((x1092).map cellsOf).length, 1)), (2200102, (((x13).map cellsOf).length, 7)), (6100007, (((x763).map cellsOf).length, 3)), (11011007, (((r939).map cellsOf).length, 3)), (11015007, (((r940).map cellsOf).length, 2)), (11019007, (((r941).map cellsOf).length, 1)), (11023007, (((r942).map cellsOf).length, 2)), (11027007, (((r943).map cellsOf).length, 1)), (11031007, (((r944).map cellsOf).length, 2)), (502000034, (((([(T_api_Signal.mk (ByteArray.mk #[115, 49]) (T_api_End.mk 0 1) 0), (T_api_Signal.mk (ByteArray.mk #[115, 50]) (T_api_End.mk 1 1) 0)] : (List T_api_Signal)) : (List T_api_Signal)).map cellsOf).length, 0))], [(502000034, (4, (40, ((([(T_api_Signal.mk (ByteArray.mk #[115, 49]) (T_api_End.mk 0 1) 0), (T_api_Signal.mk (ByteArray.mk #[115, 50]) (T_api_End.mk 1 1) 0)] : (List T_api_Signal)).set j26 (T_api_Signal.mk x27.Name x27.At 500)) : (List T_api_Signal)).map cellsOf)))]⟩) ?_ ?_
          · refine pwp_seq ?_
            refine r_reg ?_
            refine e_end (by kernel_rfl) ?_
            refine q_next ?_
            refine pwp_seq ?_
            refine r_reg ?_
            refine e_end (by kernel_rfl) ?_
            refine q_next ?_
            refine pwp_seq ?_
            refine r_reg ?_
            refine e_end (by kernel_rfl) ?_
            refine q_next ?_
            refine pwp_seq ?_
            refine pwp_seq ?_
            refine r_reg ?_
            refine p_run 1 (by kernel_rfl) ?_
            refine p_len (L := (x763 : (List T_api_Step))) (by kernel_rfl) ?_
            refine e_end (by kernel_rfl) ?_
            refine q_next ?_
            refine pwp_block ?_
            refine g_nil 5 100005 1 8 (by kernel_rfl) (by kernel_rfl) ?_
            obtain ⟨o997, h997, h968⟩ := o_inl h968
            refine r_loop2 9700138 0 (fun (x1115, x1116, x1117) => ⟨[(2, .ref 2 0), (5, lstOf (.own 100005) (x1117 : (List Int))), (6, .mp 10), (11, lstOf (.own 6100007) (x763 : (List T_api_Step))), (12, .int .i64 ((x763.length : Nat) : Int)), (13, .int .i64 x1115), (44, .ref 11003 0), (45, .ref 11004 0), (86, .ref 3001 0)], [(2, .cells ([.str (ByteArray.mk #[108, 105, 110, 101]), lstOf .full ([(ByteArray.mk #[120]), (ByteArray.mk #[121]), (ByteArray.mk #[122])] : (List ByteArray)), lstOf (.own 2200102) (x13 : (List T_api_Element)), lstOf .full ([(T_api_Joint.mk (T_api_End.mk 0 1) (T_api_End.mk 1 0)), (T_api_Joint.mk (T_api_End.mk 1 1) (T_api_End.mk 2 0))] : (List T_api_Joint)), .ex 502000034 4 40 (((([(T_api_Signal.mk (ByteArray.mk #[115, 49]) (T_api_End.mk 0 1) 0), (T_api_Signal.mk (ByteArray.mk #[115, 50]) (T_api_End.mk 1 1) 0)] : (List T_api_Signal)) : (List T_api_Signal)).map cellsOf).length) 0 (((([(T_api_Signal.mk (ByteArray.mk #[115, 49]) (T_api_End.mk 0 1) 0), (T_api_Signal.mk (ByteArray.mk #[115, 50]) (T_api_End.mk 1 1) 0)] : (List T_api_Signal)) : (List T_api_Signal)).map cellsOf).length), .nil])), (10, .map (mpOf (x1116 : (List (Int × Bool))))), (3001, .cells ([.str (ByteArray.mk #[108, 105, 110, 101]), lstOf .full ([(ByteArray.mk #[120]), (ByteArray.mk #[121]), (ByteArray.mk #[122])] : (List ByteArray)), lstOf (.own 2200102) (x13 : (List T_api_Element)), lstOf .full ([(T_api_Joint.mk (T_api_End.mk 0 1) (T_api_End.mk 1 0)), (T_api_Joint.mk (T_api_End.mk 1 1) (T_api_End.mk 2 0))] : (List T_api_Joint)), .ex 502000034 4 40 (((([(T_api_Signal.mk (ByteArray.mk #[115, 49]) (T_api_End.mk 0 1) 0), (T_api_Signal.mk (ByteArray.mk #[115, 50]) (T_api_End.mk 1 1) 0)] : (List T_api_Signal)) : (List T_api_Signal)).map cellsOf).length) 0 (((([(T_api_Signal.mk (ByteArray.mk #[115, 49]) (T_api_End.mk 0 1) 0), (T_api_Signal.mk (ByteArray.mk #[115, 50]) (T_api_End.mk 1 1) 0)] : (List T_api_Signal)) : (List T_api_Signal)).map cellsOf).length), .nil])), (11003, .cells ([.str ByteArray.empty, .int .i64 0, .int .i64 1, lstOf (.own 11011007) (r939 : (List T_api_Step)), lstOf (.own 11015007) (r940 : (List T_api_Setting)), lstOf (.own 11019007) (r941 : (List Int)), .int .i64 0, .int .i64 0, lstOf (.own 6100007) (x763 : (List T_api_Step)), lstOf .frozen (x995 : (List T_api_Setting)), .nil, lstOf (.own 11023007) (r942 : (List T_api_Setting)), lstOf (.own 11027007) (r943 : (List Int)), lstOf (.own 11031007) (r944 : (List T_api_End))])), (11004, .cells ([.str ByteArray.empty, .int .i64 0, .int .i64 0, .nil, .nil, .nil, .int .i64 0, .int .i64 0, .nil, .nil, .nil, .nil, .nil, .nil]))], [(100005, (((x1117).map cellsOf).length, 1)), (2200102, (((x13).map cellsOf).length, 7)), (6100007, (((x763).map cellsOf).length, 3)), (11011007, (((r939).map cellsOf).length, 3)), (11015007, (((r940).map cellsOf).length, 2)), (11019007, (((r941).map cellsOf).length, 1)), (11023007, (((r942).map cellsOf).length, 2)), (11027007, (((r943).map cellsOf).length, 1)), (11031007, (((r944).map cellsOf).length, 2)), (502000034, (((([(T_api_Signal.mk (ByteArray.mk #[115, 49]) (T_api_End.mk 0 1) 0), (T_api_Signal.mk (ByteArray.mk #[115, 50]) (T_api_End.mk 1 1) 0)] : (List T_api_Signal)) : (List T_api_Signal)).map cellsOf).length, 0))], [(502000034, (4, (40, ((([(T_api_Signal.mk (ByteArray.mk #[115, 49]) (T_api_End.mk 0 1) 0), (T_api_Signal.mk (ByteArray.mk #[115, 50]) (T_api_End.mk 1 1) 0)] : (List T_api_Signal)).set j26 (T_api_Signal.mk x27.Name x27.At 500)) : (List T_api_Signal)).map cellsOf)))]⟩) (fun x1128 => ⟨[(5, lstOf (.own 100005) (x1128 : (List Int))), (44, .ref 11003 0), (45, .ref 11004 0), (86, .ref 3001 0)], [(3001, .cells ([.str (ByteArray.mk #[108, 105, 110, 101]), lstOf .full ([(ByteArray.mk #[120]), (ByteArray.mk #[121]), (ByteArray.mk #[122])] : (List ByteArray)), lstOf (.own 2200102) (x13 : (List T_api_Element)), lstOf .full ([(T_api_Joint.mk (T_api_End.mk 0 1) (T_api_End.mk 1 0)), (T_api_Joint.mk (T_api_End.mk 1 1) (T_api_End.mk 2 0))] : (List T_api_Joint)), .ex 502000034 4 40 (((([(T_api_Signal.mk (ByteArray.mk #[115, 49]) (T_api_End.mk 0 1) 0), (T_api_Signal.mk (ByteArray.mk #[115, 50]) (T_api_End.mk 1 1) 0)] : (List T_api_Signal)) : (List T_api_Signal)).map cellsOf).length) 0 (((([(T_api_Signal.mk (ByteArray.mk #[115, 49]) (T_api_End.mk 0 1) 0), (T_api_Signal.mk (ByteArray.mk #[115, 50]) (T_api_End.mk 1 1) 0)] : (List T_api_Signal)) : (List T_api_Signal)).map cellsOf).length), .nil])), (11003, .cells ([.str ByteArray.empty, .int .i64 0, .int .i64 1, lstOf (.own 11011007) (r939 : (List T_api_Step)), lstOf (.own 11015007) (r940 : (List T_api_Setting)), lstOf (.own 11019007) (r941 : (List Int)), .int .i64 0, .int .i64 0, lstOf (.own 6100007) (x763 : (List T_api_Step)), lstOf .frozen (x995 : (List T_api_Setting)), .nil, lstOf (.own 11023007) (r942 : (List T_api_Setting)), lstOf (.own 11027007) (r943 : (List Int)), lstOf (.own 11031007) (r944 : (List T_api_End))])), (11004, .cells ([.str ByteArray.empty, .int .i64 0, .int .i64 0, .nil, .nil, .nil, .int .i64 0, .int .i64 0, .nil, .nil, .nil, .nil, .nil, .nil]))], [(100005, (((x1128).map cellsOf).length, 1)), (2200102, (((x13).map cellsOf).length, 7)), (6100007, (((x763).map cellsOf).length, 3)), (11011007, (((r939).map cellsOf).length, 3)), (11015007, (((r940).map cellsOf).length, 2)), (11019007, (((r941).map cellsOf).length, 1)), (11023007, (((r942).map cellsOf).length, 2)), (11027007, (((r943).map cellsOf).length, 1)), (11031007, (((r944).map cellsOf).length, 2)), (502000034, (((([(T_api_Signal.mk (ByteArray.mk #[115, 49]) (T_api_End.mk 0 1) 0), (T_api_Signal.mk (ByteArray.mk #[115, 50]) (T_api_End.mk 1 1) 0)] : (List T_api_Signal)) : (List T_api_Signal)).map cellsOf).length, 0))], [(502000034, (4, (40, ((([(T_api_Signal.mk (ByteArray.mk #[115, 49]) (T_api_End.mk 0 1) 0), (T_api_Signal.mk (ByteArray.mk #[115, 50]) (T_api_End.mk 1 1) 0)] : (List T_api_Signal)).set j26 (T_api_Signal.mk x27.Name x27.At 500)) : (List T_api_Signal)).map cellsOf)))]⟩) h997 (by kernel_rfl) (fun _ => by kernel_rfl) ?_ ?_
            · rintro ⟨x1115, x1116, x1117⟩ oh996 h996
              unfold d_law13_alive_4 at h996
              refine pwp_seq ?_
              refine r_reg ?_
              refine e_end (by kernel_rfl) ?_
              refine q_next ?_
              refine pwp_seq ?_
              rcases o_cond h996 with ⟨hb, h996⟩ | ⟨hb, h996⟩
              · refine r_cond_t hb (by kernel_rfl) ?_
                refine pwp_skip ?_
                refine q_next ?_
                obtain ⟨o1002, h1002, h996⟩ := o_inl h996
                refine r_join (o := o1002) 9700138 (fun (x1133, x1134) => ⟨[(2, .ref 2 0), (5, lstOf (.own 100005) (x1133 : (List Int))), (6, .mp 10), (11, lstOf (.own 6100007) (x763 : (List T_api_Step))), (12, .int .i64 ((x763.length : Nat) : Int)), (13, .int .i64 x1115), (44, .ref 11003 0), (45, .ref 11004 0), (86, .ref 3001 0)], [(2, .cells ([.str (ByteArray.mk #[108, 105, 110, 101]), lstOf .full ([(ByteArray.mk #[120]), (ByteArray.mk #[121]), (ByteArray.mk #[122])] : (List ByteArray)), lstOf (.own 2200102) (x13 : (List T_api_Element)), lstOf .full ([(T_api_Joint.mk (T_api_End.mk 0 1) (T_api_End.mk 1 0)), (T_api_Joint.mk (T_api_End.mk 1 1) (T_api_End.mk 2 0))] : (List T_api_Joint)), .ex 502000034 4 40 (((([(T_api_Signal.mk (ByteArray.mk #[115, 49]) (T_api_End.mk 0 1) 0), (T_api_Signal.mk (ByteArray.mk #[115, 50]) (T_api_End.mk 1 1) 0)] : (List T_api_Signal)) : (List T_api_Signal)).map cellsOf).length) 0 (((([(T_api_Signal.mk (ByteArray.mk #[115, 49]) (T_api_End.mk 0 1) 0), (T_api_Signal.mk (ByteArray.mk #[115, 50]) (T_api_End.mk 1 1) 0)] : (List T_api_Signal)) : (List T_api_Signal)).map cellsOf).length), .nil])), (10, .map (mpOf (x1134 : (List (Int × Bool))))), (3001, .cells ([.str (ByteArray.mk #[108, 105, 110, 101]), lstOf .full ([(ByteArray.mk #[120]), (ByteArray.mk #[121]), (ByteArray.mk #[122])] : (List ByteArray)), lstOf (.own 2200102) (x13 : (List T_api_Element)), lstOf .full ([(T_api_Joint.mk (T_api_End.mk 0 1) (T_api_End.mk 1 0)), (T_api_Joint.mk (T_api_End.mk 1 1) (T_api_End.mk 2 0))] : (List T_api_Joint)), .ex 502000034 4 40 (((([(T_api_Signal.mk (ByteArray.mk #[115, 49]) (T_api_End.mk 0 1) 0), (T_api_Signal.mk (ByteArray.mk #[115, 50]) (T_api_End.mk 1 1) 0)] : (List T_api_Signal)) : (List T_api_Signal)).map cellsOf).length) 0 (((([(T_api_Signal.mk (ByteArray.mk #[115, 49]) (T_api_End.mk 0 1) 0), (T_api_Signal.mk (ByteArray.mk #[115, 50]) (T_api_End.mk 1 1) 0)] : (List T_api_Signal)) : (List T_api_Signal)).map cellsOf).length), .nil])), (11003, .cells ([.str ByteArray.empty, .int .i64 0, .int .i64 1, lstOf (.own 11011007) (r939 : (List T_api_Step)), lstOf (.own 11015007) (r940 : (List T_api_Setting)), lstOf (.own 11019007) (r941 : (List Int)), .int .i64 0, .int .i64 0, lstOf (.own 6100007) (x763 : (List T_api_Step)), lstOf .frozen (x995 : (List T_api_Setting)), .nil, lstOf (.own 11023007) (r942 : (List T_api_Setting)), lstOf (.own 11027007) (r943 : (List Int)), lstOf (.own 11031007) (r944 : (List T_api_End))])), (11004, .cells ([.str ByteArray.empty, .int .i64 0, .int .i64 0, .nil, .nil, .nil, .int .i64 0, .int .i64 0, .nil, .nil, .nil, .nil, .nil, .nil]))], [(100005, (((x1133).map cellsOf).length, 1)), (2200102, (((x13).map cellsOf).length, 7)), (6100007, (((x763).map cellsOf).length, 3)), (11011007, (((r939).map cellsOf).length, 3)), (11015007, (((r940).map cellsOf).length, 2)), (11019007, (((r941).map cellsOf).length, 1)), (11023007, (((r942).map cellsOf).length, 2)), (11027007, (((r943).map cellsOf).length, 1)), (11031007, (((r944).map cellsOf).length, 2)), (502000034, (((([(T_api_Signal.mk (ByteArray.mk #[115, 49]) (T_api_End.mk 0 1) 0), (T_api_Signal.mk (ByteArray.mk #[115, 50]) (T_api_End.mk 1 1) 0)] : (List T_api_Signal)) : (List T_api_Signal)).map cellsOf).length, 0))], [(502000034, (4, (40, ((([(T_api_Signal.mk (ByteArray.mk #[115, 49]) (T_api_End.mk 0 1) 0), (T_api_Signal.mk (ByteArray.mk #[115, 50]) (T_api_End.mk 1 1) 0)] : (List T_api_Signal)).set j26 (T_api_Signal.mk x27.Name x27.At 500)) : (List T_api_Signal)).map cellsOf)))]⟩) ?_ ?_
                · refine pwp_block ?_
                  refine pwp_seq ?_
                  refine r_reg ?_
                  obtain ⟨x1135, h1003, h1002⟩ := o_bind h1002
                  refine p_ix h1003 (by kernel_rfl) ?_
                  refine e_end (by kernel_rfl) ?_
                  refine q_next ?_
                  refine pwp_seq ?_
                  refine pwp_seq ?_
                  refine r_reg ?_
                  refine p_run 3 (by kernel_rfl) ?_
                  obtain ⟨r1136, h1004, h1002⟩ := o_bind h1002
                  refine p_callB [502000034] (d_walk_exists_ok _ _ r1136 h1004) (by kernel_rfl) (by kernel_rfl) (by kernel_rfl) ?_
                  refine e_end (by kernel_rfl) ?_
                  refine q_next ?_
                  rcases o_cond h1002 with ⟨hb, h1002⟩ | ⟨hb, h1002⟩
                  · refine r_cond_t hb (by kernel_rfl) ?_
                    refine pwp_exit ?_
                    refine q_seq_exit ?_
                    refine q_block_hit ?_
                    cases h1002
                    exact q_join (by kernel_rfl) (by kernel_rfl)
                  · refine r_cond_f hb (by kernel_rfl) ?_
                    refine pwp_skip ?_
                    refine q_next ?_
                    refine pwp_seq ?_
                    refine r_reg ?_
                    refine p_run 4 (by kernel_rfl) ?_
                    obtain ⟨x1137, h1005, h1002⟩ := o_bind h1002
                    refine p_ix h1005 (by kernel_rfl) ?_
                    refine e_end (by kernel_rfl) ?_
                    refine q_next ?_
                    refine pwp_seq ?_
                    refine r_reg ?_
                    refine p_run 2 (by kernel_rfl) ?_
                    refine p_lookup (m := (x1116 : (List (Int × Bool)))) (k := x1137.Section) false 10 (by kernel_rfl) (by kernel_rfl) ?_
                    refine e_end (by kernel_rfl) ?_
                    refine q_next ?_
                    rcases o_cond h1002 with ⟨hb, h1002⟩ | ⟨hb, h1002⟩
                    · refine r_cond_t hb (by kernel_rfl) ?_
                      refine pwp_seq ?_
                      refine r_reg ?_
                      refine p_run 2 (by kernel_rfl) ?_
                      refine p_mset (m := (x1116 : (List (Int × Bool)))) (k := x1137.Section) (v := true) 10 (by kernel_rfl) (by kernel_rfl) (by kernel_rfl) ?_
                      refine e_nil (by kernel_rfl) ?_
                      refine q_next ?_
                      refine r_reg ?_
                      refine p_run 3 (by kernel_rfl) ?_
                      obtain ⟨x1138, h1006, h1002⟩ := o_bind h1002
                      refine p_app (tk := 100005) h1006 (by kernel_rfl) (by kernel_rfl) ?_
                      refine e_end (by kernel_rfl) ?_
                      refine q_block ?_
                      cases h1002
                      exact q_join (by kernel_rfl) (by kernel_rfl)
                    · refine r_cond_f hb (by kernel_rfl) ?_
                      refine pwp_skip ?_
                      refine q_block ?_
                      cases h1002
                      exact q_join (by kernel_rfl) (by kernel_rfl)
                · rintro ⟨x1133, x1134⟩ rfl
                  have h996 := o_outl h996
                  refine r_reg ?_
                  refine e_end (by kernel_rfl) ?_
                  cases h996
                  exact q_lback (by kernel_rfl)
              · refine r_cond_f hb (by kernel_rfl) ?_
                refine pwp_exit ?_
                refine q_seq_exit ?_
                cases h996
                exact q_lexit (by kernel_rfl) (by kernel_rfl)
            · rintro x1128 s' rfl hs
              have h968 := o_outl h968
              refine q_block_hit ?_
              refine q_next (pwp_wkr hs ?_)
              refine pwp_seq ?_
              refine r_reg ?_
              refine e_end (by kernel_rfl) ?_
              refine q_next ?_
              refine pwp_ret ?_
              cases h968
              exact q_ij (by kernel_rfl) (by kernel_rfl)
          · generalize o968 = x1092 at *
            refine q_inl (r := lstOf (.own 100005) (x1092 : (List Int))) (by kernel_rfl) ?_
            refine wl_ren 12 ⟨[(3, .ref 11003 0), (4, .ref 11004 0), (41, lstOf (.own 12100005) (x1092 : (List Int))), (45, .ref 3001 0)], [(3001, .cells ([.str (ByteArray.mk #[108, 105, 110, 101]), lstOf .full ([(ByteArray.mk #[120]), (ByteArray.mk #[121]), (ByteArray.mk #[122])] : (List ByteArray)), lstOf (.own 2200102) (x13 : (List T_api_Element)), lstOf .full ([(T_api_Joint.mk (T_api_End.mk 0 1) (T_api_End.mk 1 0)), (T_api_Joint.mk (T_api_End.mk 1 1) (T_api_End.mk 2 0))] : (List T_api_Joint)), .ex 502000034 4 40 (((([(T_api_Signal.mk (ByteArray.mk #[115, 49]) (T_api_End.mk 0 1) 0), (T_api_Signal.mk (ByteArray.mk #[115, 50]) (T_api_End.mk 1 1) 0)] : (List T_api_Signal)) : (List T_api_Signal)).map cellsOf).length) 0 (((([(T_api_Signal.mk (ByteArray.mk #[115, 49]) (T_api_End.mk 0 1) 0), (T_api_Signal.mk (ByteArray.mk #[115, 50]) (T_api_End.mk 1 1) 0)] : (List T_api_Signal)) : (List T_api_Signal)).map cellsOf).length), .nil])), (11003, .cells ([.str ByteArray.empty, .int .i64 0, .int .i64 1, lstOf (.own 11011007) (r939 : (List T_api_Step)), lstOf (.own 11015007) (r940 : (List T_api_Setting)), lstOf (.own 11019007) (r941 : (List Int)), .int .i64 0, .int .i64 0, lstOf (.own 6100007) (x763 : (List T_api_Step)), lstOf .frozen (x995 : (List T_api_Setting)), .nil, lstOf (.own 11023007) (r942 : (List T_api_Setting)), lstOf (.own 11027007) (r943 : (List Int)), lstOf (.own 11031007) (r944 : (List T_api_End))])), (11004, .cells ([.str ByteArray.empty, .int .i64 0, .int .i64 0, .nil, .nil, .nil, .int .i64 0, .int .i64 0, .nil, .nil, .nil, .nil, .nil, .nil]))], [(2200102, (((x13).map cellsOf).length, 7)), (6100007, (((x763).map cellsOf).length, 3)), (11011007, (((r939).map cellsOf).length, 3)), (11015007, (((r940).map cellsOf).length, 2)), (11019007, (((r941).map cellsOf).length, 1)), (11023007, (((r942).map cellsOf).length, 2)), (11027007, (((r943).map cellsOf).length, 1)), (11031007, (((r944).map cellsOf).length, 2)), (12100005, (((x1092).map cellsOf).length, 1)), (502000034, (((([(T_api_Signal.mk (ByteArray.mk #[115, 49]) (T_api_End.mk 0 1) 0), (T_api_Signal.mk (ByteArray.mk #[115, 50]) (T_api_End.mk 1 1) 0)] : (List T_api_Signal)) : (List T_api_Signal)).map cellsOf).length, 0))], [(502000034, (4, (40, ((([(T_api_Signal.mk (ByteArray.mk #[115, 49]) (T_api_End.mk 0 1) 0), (T_api_Signal.mk (ByteArray.mk #[115, 50]) (T_api_End.mk 1 1) 0)] : (List T_api_Signal)).set j26 (T_api_Signal.mk x27.Name x27.At 500)) : (List T_api_Signal)).map cellsOf)))]⟩ 5300097 (by kernel_rfl) (by kernel_rfl) (by kernel_rfl) ?_
            refine wl_ren 11 ⟨[(3, .ref 3 0), (4, .ref 4 0), (41, lstOf (.own 12100005) (x1092 : (List Int))), (45, .ref 3001 0)], [(3, .cells ([.str ByteArray.empty, .int .i64 0, .int .i64 1, lstOf (.own 11007) (r939 : (List T_api_Step)), lstOf (.own 15007) (r940 : (List T_api_Setting)), lstOf (.own 19007) (r941 : (List Int)), .int .i64 0, .int .i64 0, lstOf (.own 6100007) (x763 : (List T_api_Step)), lstOf .frozen (x995 : (List T_api_Setting)), .nil, lstOf (.own 23007) (r942 : (List T_api_Setting)), lstOf (.own 27007) (r943 : (List Int)), lstOf (.own 31007) (r944 : (List T_api_End))])), (4, .cells ([.str ByteArray.empty, .int .i64 0, .int .i64 0, .nil, .nil, .nil, .int .i64 0, .int .i64 0, .nil, .nil, .nil, .nil, .nil, .nil])), (3001, .cells ([.str (ByteArray.mk #[108, 105, 110, 101]), lstOf .full ([(ByteArray.mk #[120]), (ByteArray.mk #[121]), (ByteArray.mk #[122])] : (List ByteArray)), lstOf (.own 2200102) (x13 : (List T_api_Element)), lstOf .full ([(T_api_Joint.mk (T_api_End.mk 0 1) (T_api_End.mk 1 0)), (T_api_Joint.mk (T_api_End.mk 1 1) (T_api_End.mk 2 0))] : (List T_api_Joint)), .ex 502000034 4 40 (((([(T_api_Signal.mk (ByteArray.mk #[115, 49]) (T_api_End.mk 0 1) 0), (T_api_Signal.mk (ByteArray.mk #[115, 50]) (T_api_End.mk 1 1) 0)] : (List T_api_Signal)) : (List T_api_Signal)).map cellsOf).length) 0 (((([(T_api_Signal.mk (ByteArray.mk #[115, 49]) (T_api_End.mk 0 1) 0), (T_api_Signal.mk (ByteArray.mk #[115, 50]) (T_api_End.mk 1 1) 0)] : (List T_api_Signal)) : (List T_api_Signal)).map cellsOf).length), .nil]))], [(11007, (((r939).map cellsOf).length, 3)), (15007, (((r940).map cellsOf).length, 2)), (19007, (((r941).map cellsOf).length, 1)), (23007, (((r942).map cellsOf).length, 2)), (27007, (((r943).map cellsOf).length, 1)), (31007, (((r944).map cellsOf).length, 2)), (2200102, (((x13).map cellsOf).length, 7)), (6100007, (((x763).map cellsOf).length, 3)), (12100005, (((x1092).map cellsOf).length, 1)), (502000034, (((([(T_api_Signal.mk (ByteArray.mk #[115, 49]) (T_api_End.mk 0 1) 0), (T_api_Signal.mk (ByteArray.mk #[115, 50]) (T_api_End.mk 1 1) 0)] : (List T_api_Signal)) : (List T_api_Signal)).map cellsOf).length, 0))], [(502000034, (4, (40, ((([(T_api_Signal.mk (ByteArray.mk #[115, 49]) (T_api_End.mk 0 1) 0), (T_api_Signal.mk (ByteArray.mk #[115, 50]) (T_api_End.mk 1 1) 0)] : (List T_api_Signal)).set j26 (T_api_Signal.mk x27.Name x27.At 500)) : (List T_api_Signal)).map cellsOf)))]⟩ 5300097 (by kernel_rfl) (by kernel_rfl) (by kernel_rfl) ?_
            refine wl_run 3 2 ?_
            refine e_end (by kernel_rfl) ?_
            refine wl_end ?_
            refine q_next ?_
            refine pwp_seq ?_
            refine r_reg ?_
            refine e_end (by kernel_rfl) ?_
            refine q_next ?_
            refine pwp_ret ?_
            cases h515
            exact q_ij (by kernel_rfl) (by kernel_rfl)
    · obtain ⟨x579, x580, x581, x582, x583, x584, x585, x586, x587⟩ := o515
      refine q_inl (r := .agg [.str ByteArray.empty, .int .i64 0, .int .i64 1, lstOf (.own 11007) (x579 : (List T_api_Step)), lstOf (.own 15007) (x580 : (List T_api_Setting)), lstOf (.own 19007) (x581 : (List Int)), .int .i64 0, .int .i64 0, lstOf (.own 6100007) (x582 : (List T_api_Step)), lstOf .frozen (x583 : (List T_api_Setting)), lstOf (.own 12100005) (x584 : (List Int)), lstOf (.own 23007) (x585 : (List T_api_Setting)), lstOf (.own 27007) (x586 : (List Int)), lstOf (.own 31007) (x587 : (List T_api_End))]) (by kernel_rfl) ?_
      refine wl_ren 4 ⟨[(1, .ref 3001 0), (12, .agg [.str ByteArray.empty, .int .i64 0, .int .i64 1, lstOf (.own 4011007) (x579 : (List T_api_Step)), lstOf (.own 4015007) (x580 : (List T_api_Setting)), lstOf (.own 4019007) (x581 : (List Int)), .int .i64 0, .int .i64 0, lstOf (.own 6100007) (x582 : (List T_api_Step)), lstOf .frozen (x583 : (List T_api_Setting)), lstOf (.own 12100005) (x584 : (List Int)), lstOf (.own 4023007) (x585 : (List T_api_Setting)), lstOf (.own 4027007) (x586 : (List Int)), lstOf (.own 4031007) (x587 : (List T_api_End))])], [(3001, .cells ([.str (ByteArray.mk #[108, 105, 110, 101]), lstOf .full ([(ByteArray.mk #[120]), (ByteArray.mk #[121]), (ByteArray.mk #[122])] : (List ByteArray)), lstOf (.own 2200102) (x13 : (List T_api_Element)), lstOf .full ([(T_api_Joint.mk (T_api_End.mk 0 1) (T_api_End.mk 1 0)), (T_api_Joint.mk (T_api_End.mk 1 1) (T_api_End.mk 2 0))] : (List T_api_Joint)), .ex 502000034 4 40 (((([(T_api_Signal.mk (ByteArray.mk #[115, 49]) (T_api_End.mk 0 1) 0), (T_api_Signal.mk (ByteArray.mk #[115, 50]) (T_api_End.mk 1 1) 0)] : (List T_api_Signal)) : (List T_api_Signal)).map cellsOf).length) 0 (((([(T_api_Signal.mk (ByteArray.mk #[115, 49]) (T_api_End.mk 0 1) 0), (T_api_Signal.mk (ByteArray.mk #[115, 50]) (T_api_End.mk 1 1) 0)] : (List T_api_Signal)) : (List T_api_Signal)).map cellsOf).length), .nil]))], [(2200102, (((x13).map cellsOf).length, 7)), (4011007, (((x579).map cellsOf).length, 3)), (4015007, (((x580).map cellsOf).length, 2)), (4019007, (((x581).map cellsOf).length, 1)), (4023007, (((x585).map cellsOf).length, 2)), (4027007, (((x586).map cellsOf).length, 1)), (4031007, (((x587).map cellsOf).length, 2)), (6100007, (((x582).map cellsOf).length, 3)), (12100005, (((x584).map cellsOf).length, 1)), (502000034, (((([(T_api_Signal.mk (ByteArray.mk #[115, 49]) (T_api_End.mk 0 1) 0), (T_api_Signal.mk (ByteArray.mk #[115, 50]) (T_api_End.mk 1 1) 0)] : (List T_api_Signal)) : (List T_api_Signal)).map cellsOf).length, 0))], [(502000034, (4, (40, ((([(T_api_Signal.mk (ByteArray.mk #[115, 49]) (T_api_End.mk 0 1) 0), (T_api_Signal.mk (ByteArray.mk #[115, 50]) (T_api_End.mk 1 1) 0)] : (List T_api_Signal)).set j26 (T_api_Signal.mk x27.Name x27.At 500)) : (List T_api_Signal)).map cellsOf)))]⟩ 53 (by kernel_rfl) (by kernel_rfl) (by kernel_rfl) ?_
      refine wl_ren 3 ⟨[(1, .ref 1 0), (12, .agg [.str ByteArray.empty, .int .i64 0, .int .i64 1, lstOf (.own 4011007) (x579 : (List T_api_Step)), lstOf (.own 4015007) (x580 : (List T_api_Setting)), lstOf (.own 4019007) (x581 : (List Int)), .int .i64 0, .int .i64 0, lstOf (.own 6100007) (x582 : (List T_api_Step)), lstOf .frozen (x583 : (List T_api_Setting)), lstOf (.own 12100005) (x584 : (List Int)), lstOf (.own 4023007) (x585 : (List T_api_Setting)), lstOf (.own 4027007) (x586 : (List Int)), lstOf (.own 4031007) (x587 : (List T_api_End))])], [(1, .cells ([.str (ByteArray.mk #[108, 105, 110, 101]), lstOf .full ([(ByteArray.mk #[120]), (ByteArray.mk #[121]), (ByteArray.mk #[122])] : (List ByteArray)), lstOf (.own 2200102) (x13 : (List T_api_Element)), lstOf .full ([(T_api_Joint.mk (T_api_End.mk 0 1) (T_api_End.mk 1 0)), (T_api_Joint.mk (T_api_End.mk 1 1) (T_api_End.mk 2 0))] : (List T_api_Joint)), .ex 502000034 4 40 (((([(T_api_Signal.mk (ByteArray.mk #[115, 49]) (T_api_End.mk 0 1) 0), (T_api_Signal.mk (ByteArray.mk #[115, 50]) (T_api_End.mk 1 1) 0)] : (List T_api_Signal)) : (List T_api_Signal)).map cellsOf).length) 0 (((([(T_api_Signal.mk (ByteArray.mk #[115, 49]) (T_api_End.mk 0 1) 0), (T_api_Signal.mk (ByteArray.mk #[115, 50]) (T_api_End.mk 1 1) 0)] : (List T_api_Signal)) : (List T_api_Signal)).map cellsOf).length), .nil]))], [(2200102, (((x13).map cellsOf).length, 7)), (4011007, (((x579).map cellsOf).length, 3)), (4015007, (((x580).map cellsOf).length, 2)), (4019007, (((x581).map cellsOf).length, 1)), (4023007, (((x585).map cellsOf).length, 2)), (4027007, (((x586).map cellsOf).length, 1)), (4031007, (((x587).map cellsOf).length, 2)), (6100007, (((x582).map cellsOf).length, 3)), (12100005, (((x584).map cellsOf).length, 1)), (502000034, (((([(T_api_Signal.mk (ByteArray.mk #[115, 49]) (T_api_End.mk 0 1) 0), (T_api_Signal.mk (ByteArray.mk #[115, 50]) (T_api_End.mk 1 1) 0)] : (List T_api_Signal)) : (List T_api_Signal)).map cellsOf).length, 0))], [(502000034, (4, (40, ((([(T_api_Signal.mk (ByteArray.mk #[115, 49]) (T_api_End.mk 0 1) 0), (T_api_Signal.mk (ByteArray.mk #[115, 50]) (T_api_End.mk 1 1) 0)] : (List T_api_Signal)).set j26 (T_api_Signal.mk x27.Name x27.At 500)) : (List T_api_Signal)).map cellsOf)))]⟩ 53 (by kernel_rfl) (by kernel_rfl) (by kernel_rfl) ?_
      refine wl_run 4 2 ?_
      refine e_end (by kernel_rfl) ?_
      refine wl_end ?_
      refine q_next ?_
      refine pwp_seq ?_
      refine r_reg ?_
      refine p_run 2 (by kernel_rfl) ?_
      obtain ⟨r1139, h1007, h⟩ := o_bind h
      refine p_callB [502000034] (d_overlap_Whole_ok _ _ r1139 h1007) (by kernel_rfl) (by kernel_rfl) (by kernel_rfl) ?_
      refine e_end (by kernel_rfl) ?_
      refine q_next ?_
      refine pwp_seq ?_
      refine pwp_wkr (wkr_lock [2000034] ⟨[(1, .ref 1 0), (2, .ref 2 0), (3, .bool r1139)], [(1, .cells ([.str (ByteArray.mk #[108, 105, 110, 101]), lstOf .full ([(ByteArray.mk #[120]), (ByteArray.mk #[121]), (ByteArray.mk #[122])] : (List ByteArray)), lstOf (.own 2200102) (x13 : (List T_api_Element)), lstOf .full ([(T_api_Joint.mk (T_api_End.mk 0 1) (T_api_End.mk 1 0)), (T_api_Joint.mk (T_api_End.mk 1 1) (T_api_End.mk 2 0))] : (List T_api_Joint)), .ex 2000034 4 40 (((([(T_api_Signal.mk (ByteArray.mk #[115, 49]) (T_api_End.mk 0 1) 0), (T_api_Signal.mk (ByteArray.mk #[115, 50]) (T_api_End.mk 1 1) 0)] : (List T_api_Signal)) : (List T_api_Signal)).map cellsOf).length) 0 (((([(T_api_Signal.mk (ByteArray.mk #[115, 49]) (T_api_End.mk 0 1) 0), (T_api_Signal.mk (ByteArray.mk #[115, 50]) (T_api_End.mk 1 1) 0)] : (List T_api_Signal)) : (List T_api_Signal)).map cellsOf).length), .nil])), (2, .cells ([.str ByteArray.empty, .int .i64 0, .int .i64 1, lstOf (.own 4011007) (x579 : (List T_api_Step)), lstOf (.own 4015007) (x580 : (List T_api_Setting)), lstOf (.own 4019007) (x581 : (List Int)), .int .i64 0, .int .i64 0, lstOf (.own 6100007) (x582 : (List T_api_Step)), lstOf .frozen (x583 : (List T_api_Setting)), lstOf (.own 12100005) (x584 : (List Int)), lstOf (.own 4023007) (x585 : (List T_api_Setting)), lstOf (.own 4027007) (x586 : (List Int)), lstOf (.own 4031007) (x587 : (List T_api_End))]))], [(2200102, (((x13).map cellsOf).length, 7)), (4011007, (((x579).map cellsOf).length, 3)), (4015007, (((x580).map cellsOf).length, 2)), (4019007, (((x581).map cellsOf).length, 1)), (4023007, (((x585).map cellsOf).length, 2)), (4027007, (((x586).map cellsOf).length, 1)), (4031007, (((x587).map cellsOf).length, 2)), (6100007, (((x582).map cellsOf).length, 3)), (12100005, (((x584).map cellsOf).length, 1)), (2000034, (((([(T_api_Signal.mk (ByteArray.mk #[115, 49]) (T_api_End.mk 0 1) 0), (T_api_Signal.mk (ByteArray.mk #[115, 50]) (T_api_End.mk 1 1) 0)] : (List T_api_Signal)) : (List T_api_Signal)).map cellsOf).length, 0))], [(2000034, (4, (40, ((([(T_api_Signal.mk (ByteArray.mk #[115, 49]) (T_api_End.mk 0 1) 0), (T_api_Signal.mk (ByteArray.mk #[115, 50]) (T_api_End.mk 1 1) 0)] : (List T_api_Signal)).set j26 (T_api_Signal.mk x27.Name x27.At 500)) : (List T_api_Signal)).map cellsOf)))]⟩ 53 (by kernel_rfl) (by kernel_rfl) (by kernel_rfl)) ?_
      refine r_reg ?_
      refine p_run 2 (by kernel_rfl) ?_
      obtain ⟨j1140, h1008, h⟩ := o_bind h
      refine p_xix (tk := 2000034) (k := 4) (N := ((([(T_api_Signal.mk (ByteArray.mk #[115, 49]) (T_api_End.mk 0 1) 0), (T_api_Signal.mk (ByteArray.mk #[115, 50]) (T_api_End.mk 1 1) 0)] : (List T_api_Signal)) : (List T_api_Signal)).map cellsOf).length) h1008 (by kernel_rfl) ?_
      refine p_run 1 (by kernel_rfl) ?_
      obtain ⟨x1141, h1009, h⟩ := o_bind h
      refine p_xst (L := ((([(T_api_Signal.mk (ByteArray.mk #[115, 49]) (T_api_End.mk 0 1) 0), (T_api_Signal.mk (ByteArray.mk #[115, 50]) (T_api_End.mk 1 1) 0)] : (List T_api_Signal)).set j26 (T_api_Signal.mk x27.Name x27.At 500)) : (List T_api_Signal))) (tk := 2000034) (N := ((([(T_api_Signal.mk (ByteArray.mk #[115, 49]) (T_api_End.mk 0 1) 0), (T_api_Signal.mk (ByteArray.mk #[115, 50]) (T_api_End.mk 1 1) 0)] : (List T_api_Signal)) : (List T_api_Signal)).map cellsOf).length) (j := j1140) (y := x1141) (y' := (T_api_Signal.mk x1141.Name x1141.At 20001)) h1009 3 1 [.int .i64 20001] (by kernel_rfl) (by kernel_rfl) ?_
      refine e_nil (by kernel_rfl) ?_
      refine q_next ?_
      refine pwp_seq ?_
      refine r_reg ?_
      refine p_run 2 (by kernel_rfl) ?_
      refine p_len (L := (x582 : (List T_api_Step))) (by kernel_rfl) ?_
      obtain ⟨b1142, h1010, h⟩ := o_bind h
      refine p_run 2 (by kernel_rfl) ?_
      refine e_seg 7 31 (.bool b1142) ?_ ?_
      · rcases o_cond h1010 with ⟨hb, h1010⟩ | ⟨hb, h1010⟩
        · refine p_settle 24 hb (by kernel_rfl) (by kernel_rfl) ?_
          refine p_run 2 (by kernel_rfl) ?_
          obtain ⟨x1143, h1011, h1010⟩ := o_bind h1010
          refine p_ix h1011 (by kernel_rfl) ?_
          cases h1010
          exact f_end (by kernel_rfl) (by kernel_rfl)
        · refine p_settle 24 hb (by kernel_rfl) (by kernel_rfl) ?_
          cases h1010
          exact f_end (by kernel_rfl) (by kernel_rfl)
      · obtain ⟨b1144, h1012, h⟩ := o_bind h
        refine p_run 1 (by kernel_rfl) ?_
        refine e_seg 5 37 (.bool b1144) ?_ ?_
        · rcases o_cond h1012 with ⟨hb, h1012⟩ | ⟨hb, h1012⟩
          · refine p_settle 32 hb (by kernel_rfl) (by kernel_rfl) ?_
            refine p_run 3 (by kernel_rfl) ?_
            obtain ⟨r1145, h1013, h1012⟩ := o_bind h1012
            refine p_call (d_ref12_SameInts_ok _ _ r1145 h1013) (by kernel_rfl) (by kernel_rfl) ?_
            cases h1012
            exact f_end (by kernel_rfl) (by kernel_rfl)
          · refine p_settle 32 hb (by kernel_rfl) (by kernel_rfl) ?_
            cases h1012
            exact f_end (by kernel_rfl) (by kernel_rfl)
        · obtain ⟨b1146, h1014, h⟩ := o_bind h
          refine p_run 1 (by kernel_rfl) ?_
          refine e_seg 5 43 (.bool b1146) ?_ ?_
          · rcases o_cond h1014 with ⟨hb, h1014⟩ | ⟨hb, h1014⟩
            · refine p_settle 38 hb (by kernel_rfl) (by kernel_rfl) ?_
              refine p_run 2 (by kernel_rfl) ?_
              obtain ⟨r1147, h1015, h1014⟩ := o_bind h1014
              refine p_callB [2000034] (d_overlap_Length_ok _ _ r1147 h1015) (by kernel_rfl) (by kernel_rfl) (by kernel_rfl) ?_
              cases h1014
              exact f_end (by kernel_rfl) (by kernel_rfl)
            · refine p_settle 38 hb (by kernel_rfl) (by kernel_rfl) ?_
              cases h1014
              exact f_end (by kernel_rfl) (by kernel_rfl)
          · refine p_run 1 (by kernel_rfl) ?_
            refine e_segb 2 46 (b1146 && r1139) (fun x hx => ?_) ?_
            · rcases b_and hx with ⟨hb, hx⟩ | ⟨hb, hx⟩
              · refine p_settle 44 hb (by kernel_rfl) (by kernel_rfl) ?_
                subst hx
                exact f_end (by kernel_rfl) (by kernel_rfl)
              · refine p_settle 44 hb (by kernel_rfl) (by kernel_rfl) ?_
                subst hx
                exact f_end (by kernel_rfl) (by kernel_rfl)
            · obtain ⟨b1148, h1016, h⟩ := o_bind h
              refine p_run 1 (by kernel_rfl) ?_
              refine e_seg 5 52 (.bool b1148) ?_ ?_
              · rcases o_cond h1016 with ⟨hb, h1016⟩ | ⟨hb, h1016⟩
                · refine p_settle 47 hb (by kernel_rfl) (by kernel_rfl) ?_
                  refine p_run 2 (by kernel_rfl) ?_
                  obtain ⟨r1149, h1017, h1016⟩ := o_bind h1016
                  refine p_callB [2000034] (d_overlap_Whole_ok _ _ r1149 h1017) (by kernel_rfl) (by kernel_rfl) (by kernel_rfl) ?_
                  cases h1016
                  exact f_end (by kernel_rfl) (by kernel_rfl)
                · refine p_settle 47 hb (by kernel_rfl) (by kernel_rfl) ?_
                  cases h1016
                  exact f_end (by kernel_rfl) (by kernel_rfl)
              · refine e_end (by kernel_rfl) ?_
                refine q_next ?_
                refine pwp_ret ?_
                cases h
                exact q_ret (by kernel_rfl) (by kernel_rfl) (by kernel_rfl)

end PM
