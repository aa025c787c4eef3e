/-
  Plain functions for the program's functions, and the proofs that the program does them. Printed by den.py.
-/
import Derived.Test.YtmbcgmlgbcookaaDoorPmSi
import Derived.Test.YtmbcgmlgbcookaaDoorPmU
import Derived.Lib.ItoaLen
import Derived.Lib.Slices
import Derived.Lib.Hide
import Derived.Laws.IdiomStrings
import Derived.OwnWalk
import Derived.WalkKit
import Derived.BigCall
import Derived.LoopTactic
import Derived.Deep.QuietTactic
import Derived.BigQuiet
import Derived.Test.YtmbcgmlgbcookaaDoorPmK
import Derived.Test.YtmbcgmlgbcookaaDoorPmQt
import Derived.Test.YtmbcgmlgbcookaaDoorPmO
import Derived.Test.YtmbcgmlgbcookaaDoorPmR
import Derived.Test.YtmbcgmlgbcookaaDoorPlA
import Derived.Test.YtmbcgmlgbcookaaDoorProg
import Derived.Test.YtmbcgmlgbcookaaDoorLay
import Derived.Test.YtmbcgmlgbcookaaDoorChecked
namespace PM
open Go Go.RowKit
attribute [local irreducible] pops pwp

def R_api_Expr : Type := List PV
instance : Enc R_api_Expr := ⟨3, 40, fun x => .agg x⟩
instance : Inhabited R_api_Expr := ⟨([] : List PV)⟩
structure T_api_Expr where
  Op : Int
  Var : Int
  Args : (List R_api_Expr)
instance : Enc T_api_Expr := ⟨3, 40, fun x => .agg [.int .i64 x.Op, .int .i64 x.Var, lstOf .frozen x.Args]⟩
instance : Inhabited T_api_Expr := ⟨⟨0, 0, []⟩⟩
def enc_T_api_Expr (x : T_api_Expr) : R_api_Expr := cellsOf x
def dec_T_api_Expr (r : R_api_Expr) : Option T_api_Expr := match (show List PV from r) with
  | [.int .i64 Op0, .int .i64 Var0, .lst .frozen 3 40 Args0] => some ⟨Op0, Var0, (show (List R_api_Expr) from Args0)⟩
  | _ => none
theorem raw_T_api_Expr (l : List R_api_Expr) : l.map cellsOf = (show List (List PV) from l) := List.map_id _
theorem dec_T_api_Expr_eq {r : R_api_Expr} {x : T_api_Expr} (h : dec_T_api_Expr r = some x) : r = enc_T_api_Expr x := by
  unfold dec_T_api_Expr at h
  split at h
  · rename_i he
    cases h
    refine Eq.trans he ?_
    show _ = [PV.int .i64 _, PV.int .i64 _, lstOf .frozen (α := R_api_Expr) _]
    unfold lstOf
    rw [raw_T_api_Expr]; rfl
  · cases h
theorem dec_enc_T_api_Expr (x : T_api_Expr) : dec_T_api_Expr (enc_T_api_Expr x) = some x := by
  show dec_T_api_Expr [.int .i64 x.Op, .int .i64 x.Var, lstOf .frozen x.Args] = some x
  unfold lstOf
  rw [raw_T_api_Expr]; rfl

def tab_strconv_uint64pow10 : List U64 := [⟨1⟩, ⟨10⟩, ⟨100⟩, ⟨1000⟩, ⟨10000⟩, ⟨100000⟩, ⟨1000000⟩, ⟨10000000⟩, ⟨100000000⟩, ⟨1000000000⟩, ⟨10000000000⟩, ⟨100000000000⟩, ⟨1000000000000⟩, ⟨10000000000000⟩, ⟨100000000000000⟩, ⟨1000000000000000⟩, ⟨10000000000000000⟩, ⟨100000000000000000⟩, ⟨1000000000000000000⟩, ⟨10000000000000000000⟩]
def GlS : Nat → Option (List PV)
  | 0 => some (tab_strconv_uint64pow10.flatMap cellsOf)
  | _ => none

/-! signallinglaw18.few -/
noncomputable def d_law18_few_0 (rc_d_law18_few : T_api_Expr → Int → Option Int) (a0 : T_api_Expr) (a1 : Int) : (Int × Int) → Option ((Int × Int) ⊕ (Int ⊕ Int)) := fun (x4, x5) =>
  bif decide (x5 < ((a0.Args.length : Nat) : Int)) then (
    (ixO a0.Args x5).bind fun x10 =>
    (dec_T_api_Expr x10).bind fun x11 =>
    bif ((decide (a1 ≤ 1)) || (decide (300 < x4))) then (
      some (.inr (.inr 301))
    ) else (
      (rc_d_law18_few x11 (w64 (a1 - 1))).bind fun r12 =>
      some (.inl (w64 (x4 + r12), w64 (x5 + 1)))
    )
  ) else (
    some (.inr (.inl x4))
  )

noncomputable def d_law18_few_F (rc_d_law18_few : T_api_Expr → Int → Option Int) (a0 : T_api_Expr) (a1 : Int) : Option Int :=
  onInl (α := Int) (β := Int) (loopO (d_law18_few_0 rc_d_law18_few a0 a1) (1, 0)) fun x9 =>
  some x9
theorem d_law18_few_F_ok (rc_d_law18_few : T_api_Expr → Int → Option Int) (hrc_d_law18_few : ∀ (a0 : T_api_Expr) (a1 : Int) (r : Int), rc_d_law18_few a0 a1 = some r → PCall Go.Proofs.Tryd.prog GlS 27 [Enc.pv a0, Enc.pv a1] (Enc.pv r)) (a0 : T_api_Expr) (a1 : Int) (r : Int) (h : d_law18_few_F rc_d_law18_few a0 a1 = some r) : PCall Go.Proofs.Tryd.prog GlS 27 [Enc.pv a0, Enc.pv a1] (Enc.pv r) := by
  unfold d_law18_few_F at h
  refine pcall_of_pwp Go.Proofs.Tryd.func27 (by rfl) rfl Go.Proofs.Tryd.ntmps27 (by rfl) rfl ?_
  refine pwp_seq (r_reg ?_)
  refine e_end (by kernel_rfl) ?_
  refine q_next (pwp_seq (r_reg ?_))
  refine e_end (by kernel_rfl) ?_
  refine q_next (pwp_seq (pwp_seq (r_reg ?_)))
  refine p_run 2 (by kernel_rfl) ?_
  refine p_len (L := (a0.Args : (List R_api_Expr))) (by kernel_rfl) ?_
  refine e_end (by kernel_rfl) ?_
  refine q_next (pwp_block ?_)
  obtain ⟨o10, h10, h⟩ := o_inl h
  refine r_loop2 29 0 (fun (x4, x5) => ⟨[(1, .int .i64 a1), (5, .int .i64 x4), (9, lstOf .frozen (a0.Args : (List R_api_Expr))), (10, .int .i64 ((a0.Args.length : Nat) : Int)), (11, .int .i64 x5)], [], [], []⟩) (fun x9 => ⟨[(5, .int .i64 x9)], [], [], []⟩) h10 (by kernel_rfl) (fun _ => by kernel_rfl) ?_ ?_
  · rintro ⟨x4, x5⟩ oh9 h9
    unfold d_law18_few_0 at h9
    refine pwp_seq (r_reg ?_)
    refine e_end (by kernel_rfl) ?_
    refine q_next (pwp_seq ?_)
    rcases o_cond h9 with ⟨hb, h9⟩ | ⟨hb, h9⟩
    · refine r_cond_t hb (by kernel_rfl) ?_
      refine pwp_skip (q_next (pwp_seq (pwp_block (pwp_seq (r_reg ?_)))))
      obtain ⟨x10, h11, h9⟩ := o_bind h9
      obtain ⟨x11, h12, h9⟩ := o_bind h9
      rw [dec_T_api_Expr_eq h12] at h11
      refine p_ix h11 (by kernel_rfl) ?_
      refine e_end (by kernel_rfl) ?_
      refine q_next (pwp_seq (pwp_seq (r_reg ?_)))
      refine p_run 3 (by kernel_rfl) ?_
      refine e_segb 3 20 ((decide (a1 ≤ 1)) || (decide (300 < x4))) (fun x hx => ?_) ?_
      · rcases b_or hx with ⟨hb, hx⟩ | ⟨hb, hx⟩
        · refine p_settle 17 hb (by kernel_rfl) (by kernel_rfl) ?_
          subst hx
          exact f_end (by kernel_rfl) (by kernel_rfl)
        refine p_settle 17 hb (by kernel_rfl) (by kernel_rfl) ?_
        subst hx
        exact f_end (by kernel_rfl) (by kernel_rfl)
      refine e_nil (by kernel_rfl) ?_
      refine q_next ?_
      rcases o_cond h9 with ⟨hb, h9⟩ | ⟨hb, h9⟩
      · refine r_cond_t hb (by kernel_rfl) ?_
        refine pwp_seq (r_reg ?_)
        refine e_end (by kernel_rfl) ?_
        refine q_next (pwp_ret (q_seq_ret (q_block_ret (q_seq_ret ?_))))
        cases h9
        refine q_lout_ret fun he => ?_
        subst he
        have h13 := o_outr h
        refine q_block_ret (q_seq_ret ?_)
        cases h13
        exact q_ret (by kernel_rfl) (by kernel_rfl) (by kernel_rfl)
      refine r_cond_f hb (by kernel_rfl) ?_
      refine pwp_skip (q_next (r_reg ?_))
      refine p_run 4 (by kernel_rfl) ?_
      obtain ⟨r12, h14, h9⟩ := o_bind h9
      refine p_call (hrc_d_law18_few _ _ r12 h14) (by kernel_rfl) (by kernel_rfl) ?_
      refine e_end (by kernel_rfl) ?_
      refine q_block (q_next (r_reg ?_))
      refine e_end (by kernel_rfl) ?_
      cases h9
      exact q_lback (by kernel_rfl)
    refine r_cond_f hb (by kernel_rfl) ?_
    refine pwp_exit (q_seq_exit ?_)
    cases h9
    exact q_lexit (by kernel_rfl) (by kernel_rfl)
  rintro x9 s' rfl hs
  have h := o_outl h
  refine q_block_hit ?_
  refine q_next (pwp_wkr hs ?_)
  refine pwp_seq (r_reg ?_)
  refine e_end (by kernel_rfl) ?_
  refine q_next (pwp_ret ?_)
  cases h
  exact q_ret (by kernel_rfl) (by kernel_rfl) (by kernel_rfl)
noncomputable def d_law18_few_N (n : Nat) : T_api_Expr → Int → Option Int := Nat.rec (fun _ _ => none) (fun _ ih => d_law18_few_F ih) n
theorem d_law18_few_N_ok : ∀ (n : Nat) (a0 : T_api_Expr) (a1 : Int) (r : Int), d_law18_few_N n a0 a1 = some r → PCall Go.Proofs.Tryd.prog GlS 27 [Enc.pv a0, Enc.pv a1] (Enc.pv r)
  | 0, _, _, _, h => by cases h
  | n + 1, a0, a1, r, h => d_law18_few_F_ok (d_law18_few_N n) (d_law18_few_N_ok n) a0 a1 r h
noncomputable def d_law18_few (a0 : T_api_Expr) (a1 : Int) : Option Int := d_law18_few_F (d_law18_few_N recFuel) a0 a1
theorem d_law18_few_ok (a0 : T_api_Expr) (a1 : Int) (r : Int) (h : d_law18_few a0 a1 = some r) : PCall Go.Proofs.Tryd.prog GlS 27 [Enc.pv a0, Enc.pv a1] (Enc.pv r) := d_law18_few_F_ok (d_law18_few_N recFuel) (d_law18_few_N_ok recFuel) a0 a1 r h

/-! signallinglaw18.modest -/
noncomputable def d_law18_modest (a0 : T_api_Expr) : Option Bool :=
  (d_law18_few a0 30).bind fun r1 =>
  some (decide (r1 ≤ 300))
theorem d_law18_modest_ok (a0 : T_api_Expr) (r : Bool) (h : d_law18_modest a0 = some r) : PCall Go.Proofs.Tryd.prog GlS 9 [Enc.pv a0] (Enc.pv r) := by
  unfold d_law18_modest at h
  refine pcall_of_pwp Go.Proofs.Tryd.func9 (by rfl) rfl Go.Proofs.Tryd.ntmps9 (by rfl) rfl ?_
  refine pwp_seq (r_reg ?_)
  refine e_end (by kernel_rfl) ?_
  refine q_next (pwp_seq (r_reg ?_))
  refine p_run 1 (by kernel_rfl) ?_
  obtain ⟨r1, h1, h⟩ := o_bind h
  refine p_call (d_law18_few_ok _ _ r1 h1) (by kernel_rfl) (by kernel_rfl) ?_
  refine e_end (by kernel_rfl) ?_
  refine q_next (pwp_ret ?_)
  cases h
  exact q_ret (by kernel_rfl) (by kernel_rfl) (by kernel_rfl)

/-! signallinglaw18.x -/
noncomputable def d_law18_x (a0 : Int) : Option T_api_Expr :=
  some (T_api_Expr.mk 3 a0 [])
theorem d_law18_x_ok (a0 : Int) (r : T_api_Expr) (h : d_law18_x a0 = some r) : PCall Go.Proofs.Tryd.prog GlS 29 [Enc.pv a0] (Enc.pv r) := by
  unfold d_law18_x at h
  refine pcall_of_pwp Go.Proofs.Tryd.func29 (by rfl) rfl Go.Proofs.Tryd.ntmps29 (by rfl) rfl ?_
  refine pwp_seq (r_reg ?_)
  refine e_end (by kernel_rfl) ?_
  refine q_next (pwp_seq (r_reg ?_))
  refine e_end (by kernel_rfl) ?_
  refine q_next (pwp_ret ?_)
  cases h
  exact q_ret (by kernel_rfl) (by kernel_rfl) (by kernel_rfl)

/-! signallinglaw18.node -/
noncomputable def d_law18_node (a0 : Int) (a1 : (List R_api_Expr)) : Option T_api_Expr :=
  some (T_api_Expr.mk a0 0 a1)
theorem d_law18_node_ok (a0 : Int) (a1 : (List R_api_Expr)) (r : T_api_Expr) (h : d_law18_node a0 a1 = some r) : PCall Go.Proofs.Tryd.prog GlS 28 [Enc.pv a0, Enc.pv a1] (Enc.pv r) := by
  unfold d_law18_node at h
  refine pcall_of_pwp Go.Proofs.Tryd.func28 (by rfl) rfl Go.Proofs.Tryd.ntmps28 (by rfl) rfl ?_
  refine pwp_seq (r_reg ?_)
  refine e_end (by kernel_rfl) ?_
  refine q_next (pwp_seq (r_reg ?_))
  refine e_end (by kernel_rfl) ?_
  refine q_next (pwp_ret ?_)
  cases h
  exact q_ret (by kernel_rfl) (by kernel_rfl) (by kernel_rfl)

/-! expr.valid -/
noncomputable def d_expr_valid_0 (rc_d_expr_valid : T_api_Expr → Int → Int → Int → Option (Int × Bool)) (a0 : T_api_Expr) (a1 : Int) (a2 : Int) : (Int × Int) → Option ((Int × Int) ⊕ (Int ⊕ (Int × Bool))) := fun (x12, x13) =>
  bif decide (x12 < ((a0.Args.length : Nat) : Int)) then (
    (ixO a0.Args x12).bind fun x18 =>
    (dec_T_api_Expr x18).bind fun x19 =>
    (rc_d_expr_valid x19 a1 (w64 (a2 + 1)) x13).bind fun r20 =>
    bif (!r20.2) then (
      some (.inr (.inr (r20.1, false)))
    ) else (
      some (.inl (w64 (x12 + 1), r20.1))
    )
  ) else (
    some (.inr (.inl x13))
  )

noncomputable def d_expr_valid_F (rc_d_expr_valid : T_api_Expr → Int → Int → Int → Option (Int × Bool)) (a0 : T_api_Expr) (a1 : Int) (a2 : Int) (a3 : Int) : Option (Int × Bool) :=
  bif ((decide (12 < a2)) || (decide (a3 = 0))) then (
    some (a3, false)
  ) else (
    onInl (α := Unit) (β := (Int × Bool)) (
      onInl (α := Bool) (β := (Unit ⊕ (Int × Bool))) (
        bif decide (a0.Op = 1) then (
          some (.inl (decide (a0.Op = 1)))
        ) else (
          some (.inl (decide (a0.Op = 2)))
        )
      ) fun x5 =>
      bif x5 then (
        ((bif decide (a0.Var = 0) then (
          some (decide (((a0.Args.length : Nat) : Int) = 0))
        ) else some false) : Option Bool).bind fun b6 =>
        some (.inr (w64 (a3 - 1), b6))
      ) else (
        bif decide (a0.Op = 3) then (
          ((bif ((decide (0 ≤ a0.Var)) && (decide (a0.Var < a1))) then (
            some (decide (((a0.Args.length : Nat) : Int) = 0))
          ) else some false) : Option Bool).bind fun b7 =>
          some (.inr (w64 (a3 - 1), b7))
        ) else (
          bif decide (a0.Op = 4) then (
            bif (!(decide (((a0.Args.length : Nat) : Int) = 1))) then (
              some (.inr (w64 (a3 - 1), false))
            ) else (
              some (.inl ())
            )
          ) else (
            onInl (α := Bool) (β := (Unit ⊕ (Int × Bool))) (
              bif decide (a0.Op = 5) then (
                some (.inl (decide (a0.Op = 5)))
              ) else (
                some (.inl (decide (a0.Op = 6)))
              )
            ) fun x8 =>
            bif x8 then (
              some (.inl ())
            ) else (
              some (.inr (w64 (a3 - 1), false))
            )
          )
        )
      )
    ) fun _ =>
    bif (!(decide (a0.Var = 0))) then (
      some (w64 (a3 - 1), false)
    ) else (
      onInl (α := Int) (β := (Int × Bool)) (loopO (d_expr_valid_0 rc_d_expr_valid a0 a1 a2) (0, w64 (a3 - 1))) fun x17 =>
      some (x17, true)
    )
  )
theorem d_expr_valid_F_oc (rc_d_expr_valid : T_api_Expr → Int → Int → Int → Option (Int × Bool)) (hrc_d_expr_valid : ∀ (a0 : T_api_Expr) (a1 : Int) (a2 : Int) (a3 : Int) (r : (Int × Bool)), rc_d_expr_valid a0 a1 a2 a3 = some r → OCall Go.Proofs.Tryd.prog GlS 37 (some (.cells [.int .i64 a3])) [] [.cptr (cellsOf a0), Enc.pv a1, Enc.pv a2, .ref 1000000 0] (Enc.pv r.2) (some (.cells [.int .i64 r.1])) []) (a0 : T_api_Expr) (a1 : Int) (a2 : Int) (a3 : Int) (r : (Int × Bool)) (h : d_expr_valid_F rc_d_expr_valid a0 a1 a2 a3 = some r) : OCall Go.Proofs.Tryd.prog GlS 37 (some (.cells [.int .i64 a3])) [] [.cptr (cellsOf a0), Enc.pv a1, Enc.pv a2, .ref 1000000 0] (Enc.pv r.2) (some (.cells [.int .i64 r.1])) [] := by
  unfold d_expr_valid_F at h
  refine ocall_of_pwp Go.Proofs.Tryd.func37 (by rfl) rfl Go.Proofs.Tryd.ntmps37 (by rfl) rfl rfl (of_decide_eq_true rfl) (by kernel_rfl) ?_
  refine pwp_seq (r_reg ?_)
  refine e_end (by kernel_rfl) ?_
  refine q_next (pwp_seq (pwp_seq (r_reg ?_)))
  refine p_run 3 (by kernel_rfl) ?_
  refine e_segb 5 17 ((decide (12 < a2)) || (decide (a3 = 0))) (fun x hx => ?_) ?_
  · rcases b_or hx with ⟨hb, hx⟩ | ⟨hb, hx⟩
    · refine p_settle 12 hb (by kernel_rfl) (by kernel_rfl) ?_
      subst hx
      exact f_end (by kernel_rfl) (by kernel_rfl)
    refine p_settle 12 hb (by kernel_rfl) (by kernel_rfl) ?_
    subst hx
    exact f_end (by kernel_rfl) (by kernel_rfl)
  refine e_nil (by kernel_rfl) ?_
  refine q_next ?_
  rcases o_cond h with ⟨hb, h⟩ | ⟨hb, h⟩
  · refine r_cond_t hb (by kernel_rfl) ?_
    refine pwp_seq (r_reg ?_)
    refine e_end (by kernel_rfl) ?_
    refine q_next (pwp_ret (q_seq_ret ?_))
    cases h
    exact q_oret (by kernel_rfl) (by kernel_rfl) (by kernel_rfl)
  refine r_cond_f hb (by kernel_rfl) ?_
  refine pwp_skip (q_next (pwp_seq (r_reg ?_)))
  refine e_end (by kernel_rfl) ?_
  refine q_next ?_
  obtain ⟨o9, h9, h⟩ := o_inl h
  refine r_join (o := o9) 103 (fun (_ : Unit) => ⟨[(0, .cptr (cellsOf a0)), (1, .int .i64 a1), (2, .int .i64 a2), (3, .ref 1000000 0)], [(1000000, .cells ([.int .i64 (w64 (a3 - 1))]))], [], []⟩) ?_ ?_
  · refine pwp_seq (r_reg ?_)
    refine e_end (by kernel_rfl) ?_
    refine q_next (pwp_block ?_)
    obtain ⟨o10, h10, h9⟩ := o_inl h9
    refine r_join (o := o10) 103 (fun x5 => ⟨[(0, .cptr (cellsOf a0)), (1, .int .i64 a1), (2, .int .i64 a2), (3, .ref 1000000 0), (26, .int .i64 a0.Op), (27, .bool x5)], [(1000000, .cells ([.int .i64 (w64 (a3 - 1))]))], [], []⟩) ?_ ?_
    · refine pwp_seq (r_reg ?_)
      refine e_end (by kernel_rfl) ?_
      refine q_next ?_
      rcases o_cond h10 with ⟨hb, h10⟩ | ⟨hb, h10⟩
      · refine r_cond_t hb (by kernel_rfl) ?_
        refine pwp_skip ?_
        cases h10
        exact q_join (by kernel_rfl) (by kernel_rfl)
      refine r_cond_f hb (by kernel_rfl) ?_
      refine r_reg ?_
      refine e_end (by kernel_rfl) ?_
      cases h10
      exact q_join (by kernel_rfl) (by kernel_rfl)
    rintro x5 rfl
    have h9 := o_outl h9
    rcases o_cond h9 with ⟨hb, h9⟩ | ⟨hb, h9⟩
    · refine r_cond_t hb (by kernel_rfl) ?_
      refine pwp_seq (r_reg ?_)
      obtain ⟨b6, h11, h9⟩ := o_bind h9
      refine p_run 6 (by kernel_rfl) ?_
      refine e_seg 7 42 (.bool b6) ?_ ?_
      · rcases o_cond h11 with ⟨hb, h11⟩ | ⟨hb, h11⟩
        · refine p_settle 35 hb (by kernel_rfl) (by kernel_rfl) ?_
          refine p_run 4 (by kernel_rfl) ?_
          refine p_len (L := (a0.Args : (List R_api_Expr))) (by kernel_rfl) ?_
          cases h11
          exact f_end (by kernel_rfl) (by kernel_rfl)
        refine p_settle 35 hb (by kernel_rfl) (by kernel_rfl) ?_
        cases h11
        exact f_end (by kernel_rfl) (by kernel_rfl)
      refine e_end (by kernel_rfl) ?_
      refine q_next (pwp_ret (q_block_ret ?_))
      cases h9
      refine q_jout_ret ?_
      have h12 := o_outr h
      cases h12
      exact q_oret (by kernel_rfl) (by kernel_rfl) (by kernel_rfl)
    refine r_cond_f hb (by kernel_rfl) ?_
    refine pwp_seq (r_reg ?_)
    refine e_end (by kernel_rfl) ?_
    refine q_next ?_
    rcases o_cond h9 with ⟨hb, h9⟩ | ⟨hb, h9⟩
    · refine r_cond_t hb (by kernel_rfl) ?_
      refine pwp_seq (r_reg ?_)
      refine p_run 6 (by kernel_rfl) ?_
      refine e_segb 7 57 ((decide (0 ≤ a0.Var)) && (decide (a0.Var < a1))) (fun x hx => ?_) ?_
      · rcases b_and hx with ⟨hb, hx⟩ | ⟨hb, hx⟩
        · refine p_settle 50 hb (by kernel_rfl) (by kernel_rfl) ?_
          subst hx
          exact f_end (by kernel_rfl) (by kernel_rfl)
        refine p_settle 50 hb (by kernel_rfl) (by kernel_rfl) ?_
        subst hx
        exact f_end (by kernel_rfl) (by kernel_rfl)
      obtain ⟨b7, h13, h9⟩ := o_bind h9
      refine p_run 1 (by kernel_rfl) ?_
      refine e_seg 7 65 (.bool b7) ?_ ?_
      · rcases o_cond h13 with ⟨hb, h13⟩ | ⟨hb, h13⟩
        · refine p_settle 58 hb (by kernel_rfl) (by kernel_rfl) ?_
          refine p_run 4 (by kernel_rfl) ?_
          refine p_len (L := (a0.Args : (List R_api_Expr))) (by kernel_rfl) ?_
          cases h13
          exact f_end (by kernel_rfl) (by kernel_rfl)
        refine p_settle 58 hb (by kernel_rfl) (by kernel_rfl) ?_
        cases h13
        exact f_end (by kernel_rfl) (by kernel_rfl)
      refine e_end (by kernel_rfl) ?_
      refine q_next (pwp_ret (q_block_ret ?_))
      cases h9
      refine q_jout_ret ?_
      have h14 := o_outr h
      cases h14
      exact q_oret (by kernel_rfl) (by kernel_rfl) (by kernel_rfl)
    refine r_cond_f hb (by kernel_rfl) ?_
    refine pwp_seq (r_reg ?_)
    refine e_end (by kernel_rfl) ?_
    refine q_next ?_
    rcases o_cond h9 with ⟨hb, h9⟩ | ⟨hb, h9⟩
    · refine r_cond_t hb (by kernel_rfl) ?_
      refine pwp_seq (r_reg ?_)
      refine p_run 4 (by kernel_rfl) ?_
      refine p_len (L := (a0.Args : (List R_api_Expr))) (by kernel_rfl) ?_
      refine e_end (by kernel_rfl) ?_
      refine q_next ?_
      rcases o_cond h9 with ⟨hb, h9⟩ | ⟨hb, h9⟩
      · refine r_cond_t hb (by kernel_rfl) ?_
        refine pwp_seq (r_reg ?_)
        refine e_end (by kernel_rfl) ?_
        refine q_next (pwp_ret (q_block_ret ?_))
        cases h9
        refine q_jout_ret ?_
        have h15 := o_outr h
        cases h15
        exact q_oret (by kernel_rfl) (by kernel_rfl) (by kernel_rfl)
      refine r_cond_f hb (by kernel_rfl) ?_
      refine pwp_skip (q_block ?_)
      cases h9
      exact q_join (by kernel_rfl) (by kernel_rfl)
    refine r_cond_f hb (by kernel_rfl) ?_
    obtain ⟨o16, h16, h9⟩ := o_inl h9
    refine r_join (o := o16) 103 (fun x8 => ⟨[(0, .cptr (cellsOf a0)), (1, .int .i64 a1), (2, .int .i64 a2), (3, .ref 1000000 0), (74, .bool x8)], [(1000000, .cells ([.int .i64 (w64 (a3 - 1))]))], [], []⟩) ?_ ?_
    · refine pwp_seq (r_reg ?_)
      refine e_end (by kernel_rfl) ?_
      refine q_next ?_
      rcases o_cond h16 with ⟨hb, h16⟩ | ⟨hb, h16⟩
      · refine r_cond_t hb (by kernel_rfl) ?_
        refine pwp_skip ?_
        cases h16
        exact q_join (by kernel_rfl) (by kernel_rfl)
      refine r_cond_f hb (by kernel_rfl) ?_
      refine r_reg ?_
      refine e_end (by kernel_rfl) ?_
      cases h16
      exact q_join (by kernel_rfl) (by kernel_rfl)
    rintro x8 rfl
    have h9 := o_outl h9
    rcases o_cond h9 with ⟨hb, h9⟩ | ⟨hb, h9⟩
    · refine r_cond_t hb (by kernel_rfl) ?_
      refine pwp_skip (q_block ?_)
      cases h9
      exact q_join (by kernel_rfl) (by kernel_rfl)
    refine r_cond_f hb (by kernel_rfl) ?_
    refine pwp_seq (r_reg ?_)
    refine e_end (by kernel_rfl) ?_
    refine q_next (pwp_ret (q_block_ret ?_))
    cases h9
    refine q_jout_ret ?_
    have h17 := o_outr h
    cases h17
    exact q_oret (by kernel_rfl) (by kernel_rfl) (by kernel_rfl)
  rintro _ rfl
  have h := o_outl h
  refine pwp_seq (pwp_seq (r_reg ?_))
  refine e_end (by kernel_rfl) ?_
  refine q_next ?_
  rcases o_cond h with ⟨hb, h⟩ | ⟨hb, h⟩
  · refine r_cond_t hb (by kernel_rfl) ?_
    refine pwp_seq (r_reg ?_)
    refine e_end (by kernel_rfl) ?_
    refine q_next (pwp_ret (q_seq_ret ?_))
    cases h
    exact q_oret (by kernel_rfl) (by kernel_rfl) (by kernel_rfl)
  refine r_cond_f hb (by kernel_rfl) ?_
  refine pwp_skip (q_next (pwp_seq (pwp_seq (r_reg ?_))))
  refine p_run 4 (by kernel_rfl) ?_
  refine p_len (L := (a0.Args : (List R_api_Expr))) (by kernel_rfl) ?_
  refine e_end (by kernel_rfl) ?_
  refine q_next (pwp_block ?_)
  obtain ⟨o27, h27, h⟩ := o_inl h
  refine r_loop2 103 1 (fun (x12, x13) => ⟨[(0, .cptr (cellsOf a0)), (1, .int .i64 a1), (2, .int .i64 a2), (3, .ref 1000000 0), (86, .int .i64 ((a0.Args.length : Nat) : Int)), (87, .int .i64 x12)], [(1000000, .cells ([.int .i64 x13]))], [], []⟩) (fun x17 => ⟨[], [(1000000, .cells ([.int .i64 x17]))], [], []⟩) h27 (by kernel_rfl) (fun _ => by kernel_rfl) ?_ ?_
  · rintro ⟨x12, x13⟩ oh26 h26
    unfold d_expr_valid_0 at h26
    refine pwp_seq (r_reg ?_)
    refine e_end (by kernel_rfl) ?_
    refine q_next (pwp_seq ?_)
    rcases o_cond h26 with ⟨hb, h26⟩ | ⟨hb, h26⟩
    · refine r_cond_t hb (by kernel_rfl) ?_
      refine pwp_skip (q_next (pwp_seq (pwp_block (pwp_seq (r_reg ?_)))))
      refine e_end (by kernel_rfl) ?_
      refine q_next (pwp_seq (r_reg ?_))
      refine p_run 5 (by kernel_rfl) ?_
      obtain ⟨x18, h28, h26⟩ := o_bind h26
      obtain ⟨x19, h29, h26⟩ := o_bind h26
      rw [dec_T_api_Expr_eq h29] at h28
      refine p_ix h28 (by kernel_rfl) ?_
      refine p_run 4 (by kernel_rfl) ?_
      obtain ⟨r20, h30, h26⟩ := o_bind h26
      refine p_ocall (some 1000000) [] [] none (hrc_d_expr_valid _ _ _ _ r20 h30) (by kernel_rfl) (by kernel_rfl) (by kernel_rfl) (by kernel_rfl) (by kernel_rfl) ?_
      refine e_end (by kernel_rfl) ?_
      refine q_next ?_
      rcases o_cond h26 with ⟨hb, h26⟩ | ⟨hb, h26⟩
      · refine r_cond_t hb (by kernel_rfl) ?_
        refine pwp_seq (r_reg ?_)
        refine e_end (by kernel_rfl) ?_
        refine q_next (pwp_ret (q_block_ret (q_seq_ret ?_)))
        cases h26
        refine q_lout_ret fun he => ?_
        subst he
        have h31 := o_outr h
        refine q_block_ret (q_seq_ret ?_)
        cases h31
        exact q_oret (by kernel_rfl) (by kernel_rfl) (by kernel_rfl)
      refine r_cond_f hb (by kernel_rfl) ?_
      refine pwp_skip (q_block (q_next (r_reg ?_)))
      refine e_end (by kernel_rfl) ?_
      cases h26
      exact q_lback (by kernel_rfl)
    refine r_cond_f hb (by kernel_rfl) ?_
    refine pwp_exit (q_seq_exit ?_)
    cases h26
    exact q_lexit (by kernel_rfl) (by kernel_rfl)
  rintro x17 s' rfl hs
  have h := o_outl h
  refine q_block_hit ?_
  refine q_next (pwp_wkr hs ?_)
  refine pwp_seq (r_reg ?_)
  refine e_end (by kernel_rfl) ?_
  refine q_next (pwp_ret ?_)
  cases h
  exact q_oret (by kernel_rfl) (by kernel_rfl) (by kernel_rfl)
noncomputable def d_expr_valid_N (n : Nat) : T_api_Expr → Int → Int → Int → Option (Int × Bool) := Nat.rec (fun _ _ _ _ => none) (fun _ ih => d_expr_valid_F ih) n
theorem d_expr_valid_N_oc : ∀ (n : Nat) (a0 : T_api_Expr) (a1 : Int) (a2 : Int) (a3 : Int) (r : (Int × Bool)), d_expr_valid_N n a0 a1 a2 a3 = some r → OCall Go.Proofs.Tryd.prog GlS 37 (some (.cells [.int .i64 a3])) [] [.cptr (cellsOf a0), Enc.pv a1, Enc.pv a2, .ref 1000000 0] (Enc.pv r.2) (some (.cells [.int .i64 r.1])) []
  | 0, _, _, _, _, _, h => by cases h
  | n + 1, a0, a1, a2, a3, r, h => d_expr_valid_F_oc (d_expr_valid_N n) (d_expr_valid_N_oc n) a0 a1 a2 a3 r h
noncomputable def d_expr_valid (a0 : T_api_Expr) (a1 : Int) (a2 : Int) (a3 : Int) : Option (Int × Bool) := d_expr_valid_F (d_expr_valid_N recFuel) a0 a1 a2 a3
theorem d_expr_valid_oc (a0 : T_api_Expr) (a1 : Int) (a2 : Int) (a3 : Int) (r : (Int × Bool)) (h : d_expr_valid a0 a1 a2 a3 = some r) : OCall Go.Proofs.Tryd.prog GlS 37 (some (.cells [.int .i64 a3])) [] [.cptr (cellsOf a0), Enc.pv a1, Enc.pv a2, .ref 1000000 0] (Enc.pv r.2) (some (.cells [.int .i64 r.1])) [] := d_expr_valid_F_oc (d_expr_valid_N recFuel) (d_expr_valid_N_oc recFuel) a0 a1 a2 a3 r h

/-! expr.Valid -/
noncomputable def d_expr_Valid (a0 : T_api_Expr) (a1 : Int) : Option Bool :=
  (d_expr_valid a0 a1 1 20000).bind fun r1 =>
  some r1.2
theorem d_expr_Valid_ok (a0 : T_api_Expr) (a1 : Int) (r : Bool) (h : d_expr_Valid a0 a1 = some r) : PCall Go.Proofs.Tryd.prog GlS 21 [Enc.pv a0, Enc.pv a1] (Enc.pv r) := by
  unfold d_expr_Valid at h
  refine pcall_of_pwp Go.Proofs.Tryd.func21 (by rfl) rfl Go.Proofs.Tryd.ntmps21 (by rfl) rfl ?_
  refine pwp_seq (r_reg ?_)
  refine e_end (by kernel_rfl) ?_
  refine q_next (pwp_seq (r_reg ?_))
  refine e_end (by kernel_rfl) ?_
  refine q_next (pwp_seq ?_)
  refine g_frz 2 [5] (cs := cellsOf a0) (cs' := cellsOf a0) (by kernel_rfl) (by kernel_rfl) (by kernel_rfl) (by kernel_rfl) ?_
  refine r_reg ?_
  refine p_run 1 (by kernel_rfl) ?_
  obtain ⟨r1, h1, h⟩ := o_bind h
  refine p_ocall (some 5) [] [] none (d_expr_valid_oc _ _ _ _ r1 h1) (by kernel_rfl) (by kernel_rfl) (by kernel_rfl) (by kernel_rfl) (by kernel_rfl) ?_
  refine e_end (by kernel_rfl) ?_
  refine q_next (pwp_ret ?_)
  cases h
  exact q_ret (by kernel_rfl) (by kernel_rfl) (by kernel_rfl)

/-! expr.clone -/
noncomputable def d_expr_clone_0 (rc_d_expr_clone : T_api_Expr → Option T_api_Expr) (a0 : T_api_Expr) : (Int × (List R_api_Expr)) → Option ((Int × (List R_api_Expr)) ⊕ ((List R_api_Expr) ⊕ T_api_Expr)) := fun (x10, x11) =>
  bif decide (x10 < ((a0.Args.length : Nat) : Int)) then (
    (ixO a0.Args x10).bind fun x17 =>
    (dec_T_api_Expr x17).bind fun x18 =>
    (rc_d_expr_clone x18).bind fun r19 =>
    (appO x11 [(enc_T_api_Expr r19)]).bind fun x20 =>
    some (.inl (w64 (x10 + 1), x20))
  ) else (
    some (.inr (.inl x11))
  )

noncomputable def d_expr_clone_F (rc_d_expr_clone : T_api_Expr → Option T_api_Expr) (a0 : T_api_Expr) : Option T_api_Expr :=
  onInl (α := (List R_api_Expr)) (β := T_api_Expr) (loopO (d_expr_clone_0 rc_d_expr_clone a0) (0, ([] : (List R_api_Expr)))) fun x16 =>
  some (T_api_Expr.mk a0.Op a0.Var x16)
theorem d_expr_clone_F_ok (rc_d_expr_clone : T_api_Expr → Option T_api_Expr) (hrc_d_expr_clone : ∀ (a0 : T_api_Expr) (r : T_api_Expr), rc_d_expr_clone a0 = some r → PCall Go.Proofs.Tryd.prog GlS 34 [Enc.pv a0] (Enc.pv r)) (a0 : T_api_Expr) (r : T_api_Expr) (h : d_expr_clone_F rc_d_expr_clone a0 = some r) : PCall Go.Proofs.Tryd.prog GlS 34 [Enc.pv a0] (Enc.pv r) := by
  unfold d_expr_clone_F at h
  refine pcall_of_pwp Go.Proofs.Tryd.func34 (by rfl) rfl Go.Proofs.Tryd.ntmps34 (by rfl) rfl ?_
  refine pwp_seq (r_reg ?_)
  refine e_end (by kernel_rfl) ?_
  refine q_next (pwp_seq (r_reg ?_))
  refine e_end (by kernel_rfl) ?_
  refine q_next (pwp_seq (pwp_seq (r_reg ?_)))
  refine p_run 2 (by kernel_rfl) ?_
  refine p_len (L := (a0.Args : (List R_api_Expr))) (by kernel_rfl) ?_
  refine e_end (by kernel_rfl) ?_
  refine q_next (pwp_block ?_)
  refine pwp_wkr (wkr_nilH 3 2 200302 3 40 (cs := [.int .i64 a0.Op, .int .i64 a0.Var, .nil]) (by kernel_rfl) (by kernel_rfl) (by kernel_rfl)) ?_
  obtain ⟨o14, h14, h⟩ := o_inl h
  refine r_loop2 27 0 (fun (x10, x11) => ⟨[(2, .ref 2 0), (3, .ref 3 0), (12, lstOf .frozen (a0.Args : (List R_api_Expr))), (13, .int .i64 ((a0.Args.length : Nat) : Int)), (14, .int .i64 x10)], [(2, .cells ([.int .i64 0, .int .i64 0, .nil])), (3, .cells ([.int .i64 a0.Op, .int .i64 a0.Var, lstOf (.own 200302) (x11 : (List R_api_Expr))]))], [(200302, (((x11).map cellsOf).length, 3))], []⟩) (fun x16 => ⟨[(2, .ref 2 0), (3, .ref 3 0)], [(2, .cells ([.int .i64 0, .int .i64 0, .nil])), (3, .cells ([.int .i64 a0.Op, .int .i64 a0.Var, lstOf (.own 200302) (x16 : (List R_api_Expr))]))], [(200302, (((x16).map cellsOf).length, 3))], []⟩) h14 (by kernel_rfl) (fun _ => by kernel_rfl) ?_ ?_
  · rintro ⟨x10, x11⟩ oh13 h13
    unfold d_expr_clone_0 at h13
    refine pwp_seq (r_reg ?_)
    refine e_end (by kernel_rfl) ?_
    refine q_next (pwp_seq ?_)
    rcases o_cond h13 with ⟨hb, h13⟩ | ⟨hb, h13⟩
    · refine r_cond_t hb (by kernel_rfl) ?_
      refine pwp_skip (q_next (pwp_seq (pwp_block (pwp_seq (r_reg ?_)))))
      obtain ⟨x17, h15, h13⟩ := o_bind h13
      obtain ⟨x18, h16, h13⟩ := o_bind h13
      rw [dec_T_api_Expr_eq h16] at h15
      refine p_ix h15 (by kernel_rfl) ?_
      refine e_end (by kernel_rfl) ?_
      refine q_next ?_
      refine r_regd (by kernel_rfl) (by kernel_rfl) ?_
      refine p_run 3 (by kernel_rfl) ?_
      obtain ⟨r19, h17, h13⟩ := o_bind h13
      refine p_call (hrc_d_expr_clone _ r19 h17) (by kernel_rfl) (by kernel_rfl) ?_
      refine p_run 1 (by kernel_rfl) ?_
      obtain ⟨x20, h18, h13⟩ := o_bind h13
      refine p_app (tk := 200302) h18 (by kernel_rfl) (by kernel_rfl) ?_
      refine e_end (by kernel_rfl) ?_
      refine q_block (q_next (r_reg ?_))
      refine e_end (by kernel_rfl) ?_
      cases h13
      exact q_lback (by kernel_rfl)
    refine r_cond_f hb (by kernel_rfl) ?_
    refine pwp_exit (q_seq_exit ?_)
    cases h13
    exact q_lexit (by kernel_rfl) (by kernel_rfl)
  rintro x16 s' rfl hs
  have h := o_outl h
  refine q_block_hit ?_
  refine q_next (pwp_wkr hs ?_)
  refine pwp_seq (r_reg ?_)
  refine e_end (by kernel_rfl) ?_
  refine q_next (pwp_ret ?_)
  cases h
  exact q_ret (by kernel_rfl) (by kernel_rfl) (by kernel_rfl)
noncomputable def d_expr_clone_N (n : Nat) : T_api_Expr → Option T_api_Expr := Nat.rec (fun _ => none) (fun _ ih => d_expr_clone_F ih) n
theorem d_expr_clone_N_ok : ∀ (n : Nat) (a0 : T_api_Expr) (r : T_api_Expr), d_expr_clone_N n a0 = some r → PCall Go.Proofs.Tryd.prog GlS 34 [Enc.pv a0] (Enc.pv r)
  | 0, _, _, h => by cases h
  | n + 1, a0, r, h => d_expr_clone_F_ok (d_expr_clone_N n) (d_expr_clone_N_ok n) a0 r h
noncomputable def d_expr_clone (a0 : T_api_Expr) : Option T_api_Expr := d_expr_clone_F (d_expr_clone_N recFuel) a0
theorem d_expr_clone_ok (a0 : T_api_Expr) (r : T_api_Expr) (h : d_expr_clone a0 = some r) : PCall Go.Proofs.Tryd.prog GlS 34 [Enc.pv a0] (Enc.pv r) := d_expr_clone_F_ok (d_expr_clone_N recFuel) (d_expr_clone_N_ok recFuel) a0 r h

/-! expr.negate -/
noncomputable def d_expr_negate (a0 : T_api_Expr) : Option T_api_Expr :=
  bif decide (a0.Op = 1) then (
    some (T_api_Expr.mk 2 0 [])
  ) else (
    bif decide (a0.Op = 2) then (
      some (T_api_Expr.mk 1 0 [])
    ) else (
      bif decide (a0.Op = 4) then (
        (ixO a0.Args 0).bind fun x1 =>
        (dec_T_api_Expr x1).bind fun x2 =>
        some x2
      ) else (
        some (T_api_Expr.mk 4 0 [(enc_T_api_Expr a0)])
      )
    )
  )
theorem d_expr_negate_ok (a0 : T_api_Expr) (r : T_api_Expr) (h : d_expr_negate a0 = some r) : PCall Go.Proofs.Tryd.prog GlS 44 [Enc.pv a0] (Enc.pv r) := by
  unfold d_expr_negate at h
  refine pcall_of_pwp Go.Proofs.Tryd.func44 (by rfl) rfl Go.Proofs.Tryd.ntmps44 (by rfl) rfl ?_
  refine pwp_seq (r_reg ?_)
  refine e_end (by kernel_rfl) ?_
  refine q_next (pwp_seq (pwp_seq (r_reg ?_)))
  refine e_end (by kernel_rfl) ?_
  refine q_next (pwp_block (pwp_seq (r_reg ?_)))
  refine e_end (by kernel_rfl) ?_
  refine q_next ?_
  rcases o_cond h with ⟨hb, h⟩ | ⟨hb, h⟩
  · refine r_cond_t hb (by kernel_rfl) ?_
    refine pwp_seq (r_reg ?_)
    refine e_end (by kernel_rfl) ?_
    refine q_next (pwp_ret (q_block_ret (q_seq_ret ?_)))
    cases h
    exact q_ret (by kernel_rfl) (by kernel_rfl) (by kernel_rfl)
  refine r_cond_f hb (by kernel_rfl) ?_
  refine pwp_seq (r_reg ?_)
  refine e_end (by kernel_rfl) ?_
  refine q_next ?_
  rcases o_cond h with ⟨hb, h⟩ | ⟨hb, h⟩
  · refine r_cond_t hb (by kernel_rfl) ?_
    refine pwp_seq (r_reg ?_)
    refine e_end (by kernel_rfl) ?_
    refine q_next (pwp_ret (q_block_ret (q_seq_ret ?_)))
    cases h
    exact q_ret (by kernel_rfl) (by kernel_rfl) (by kernel_rfl)
  refine r_cond_f hb (by kernel_rfl) ?_
  refine pwp_seq (r_reg ?_)
  refine e_end (by kernel_rfl) ?_
  refine q_next ?_
  rcases o_cond h with ⟨hb, h⟩ | ⟨hb, h⟩
  · refine r_cond_t hb (by kernel_rfl) ?_
    refine pwp_seq (r_reg ?_)
    refine p_run 2 (by kernel_rfl) ?_
    obtain ⟨x1, h1, h⟩ := o_bind h
    obtain ⟨x2, h2, h⟩ := o_bind h
    rw [dec_T_api_Expr_eq h2] at h1
    refine p_ix h1 (by kernel_rfl) ?_
    refine e_end (by kernel_rfl) ?_
    refine q_next (pwp_ret (q_block_ret (q_seq_ret ?_)))
    cases h
    exact q_ret (by kernel_rfl) (by kernel_rfl) (by kernel_rfl)
  refine r_cond_f hb (by kernel_rfl) ?_
  refine pwp_skip (q_block (q_next (pwp_seq (r_reg ?_))))
  refine e_end (by kernel_rfl) ?_
  refine q_next (pwp_ret ?_)
  cases h
  exact q_ret (by kernel_rfl) (by kernel_rfl) (by kernel_rfl)

/-! expr.key (the numbers of functions and types are those of seat rE) -/
section
open Go.Proofs Go.Shelf
def keyL (f : R_api_Expr → Option (List UInt8)) : List R_api_Expr → Option (List UInt8)
  | [] => some []
  | a :: l => (f a).bind fun k => (keyL f l).map fun r => k ++ r
def keyH (x : T_api_Expr) : List UInt8 := Lib.itoa x.Op ++ 32 :: (Lib.itoa x.Var ++ 32 :: (Lib.itoa (x.Args.length : Int) ++ [32]))
noncomputable def keyN (n : Nat) : R_api_Expr → Option (List UInt8) := Nat.rec (fun _ => none) (fun _ ih r => (dec_T_api_Expr r).bind fun x => if (-9223372036854775808 ≤ x.Op ∧ x.Op ≤ 9223372036854775807) ∧ -9223372036854775808 ≤ x.Var ∧ x.Var ≤ 9223372036854775807 then (keyL ih x.Args).map fun l => keyH x ++ l else none) n
theorem keyN_succ (n : Nat) (r : R_api_Expr) : keyN (n + 1) r = (dec_T_api_Expr r).bind fun x => if (-9223372036854775808 ≤ x.Op ∧ x.Op ≤ 9223372036854775807) ∧ -9223372036854775808 ≤ x.Var ∧ x.Var ≤ 9223372036854775807 then (keyL (keyN n) x.Args).map fun l => keyH x ++ l else none := rfl
noncomputable def d_expr_key (a0 : T_api_Expr) : Option ByteArray := (keyN 100000 (enc_T_api_Expr a0)).bind fun bs => if bs.length ≤ 1000000000 then some ⟨bs.toArray⟩ else none
theorem ixArr (a b c : Value) (w : World) : (Instr.index 93 (.agg #[a, b, c]) (.int .i64 0)).run Tryd.prog w = .ok a w ∧ (Instr.index 93 (.agg #[a, b, c]) (.int .i64 1)).run Tryd.prog w = .ok b w ∧ (Instr.index 93 (.agg #[a, b, c]) (.int .i64 2)).run Tryd.prog w = .ok c w := by
  refine ⟨?_, ?_, ?_⟩ <;> simp [Instr.index, asIntOf, part, run_underlying Tryd.underlying93, Tryd.sizeOf3, Tryd.isAgg3]
def keyP (x : T_api_Expr) : Nat → List UInt8
  | 0 => []
  | 1 => Lib.itoa x.Op ++ [32]
  | 2 => Lib.itoa x.Op ++ 32 :: (Lib.itoa x.Var ++ [32])
  | _ => keyH x
theorem keyP_le (x : T_api_Expr) (ls : List UInt8) (j : Nat) : (keyP x j).length ≤ (keyH x ++ ls).length ∧ (Lib.itoa x.Op).length + (Lib.itoa x.Var).length + (Lib.itoa (x.Args.length : Int)).length + 3 ≤ (keyH x ++ ls).length := by
  unfold keyP keyH
  constructor
  · split <;> simp <;> omega
  · simp; omega
theorem own_next {w : World} {B k : Nat} {v : Value} {xs : List Value} (p q : List UInt8) (h : w.ownsRow B 5 1 v (k + p.length + q.length + 1) (xs ++ (Lib.byteCells p ++ (Lib.byteCells q ++ [Value.int .u8 32])))) : w.ownsRow B 5 1 v (k + (p ++ (q ++ [32])).length) (xs ++ Lib.byteCells (p ++ (q ++ [32]))) := by
  have e1 : Lib.byteCells (p ++ (q ++ [32])) = Lib.byteCells p ++ (Lib.byteCells q ++ [Value.int .u8 32]) := by simp [Lib.byteCells]
  have e2 : k + (p ++ (q ++ [32])).length = k + p.length + q.length + 1 := by simp; omega
  rw [e1, e2]; exact h
abbrev BelowS (B : Nat) : Cells := fun b _ => b < B
theorem relCells_below {B : Nat} {w w' : World} (h : Below B w w') {cs : List PV} {b o : Nat} (hc : RelCells (BelowS B) w cs b o) : RelCells (BelowS B) w' cs b o :=
  hc.mono (fun _ _ e => e) (fun b o hb => h.cell (p := ⟨b, o, none⟩) hb) (fun b hb => h.block b (hb 0)) cs b o
theorem keyInfo : (Tryd.prog.info? 5).map (fun i => (i.zero, i.size, i.bytes)) = some (some (.int .u8 0), 1, 1) := by kernel_rfl
theorem appendInt_laid (B n : Nat) (i : Int) (h0 : -9223372036854775808 ≤ i) (h1 : i ≤ 9223372036854775807) (sv : Value) (xs : List Value) (w : World) (hown : w.ownsRow B 5 1 sv n xs) (hBw : B ≤ w.heap.size) (hlim : n + 21 ≤ 140737488355328)
    (htab : Lib.TabBelow Tryd.prog B w "internal/strconv.uint64pow10" .u64 Lib.pow10Tab) : Calls Tryd.prog 70 #[sv, .int .i64 i, .int .i64 10] w fun e w' => ∃ v', e = .returned v' ∧ w'.ownsRow B 5 1 v' (n + (Lib.itoa i).length) (xs ++ Lib.byteCells (Lib.itoa i)) ∧ Below B w w' ∧ Lib.OthersKept 5 none w w' :=
  Any.strconv_AppendInt_10 Tryd.appendint B n i h0 h1 sv xs w hown hBw hlim htab
set_option maxHeartbeats 4000000 in
set_option maxRecDepth 100000 in
theorem appendKey_one (n : Nat) (ih : ∀ (r : R_api_Expr) (bs : List UInt8), keyN n r = some bs → ∀ (B blk off k : Nat) (sv : Value) (xs : List Value) (w : World), RelCells (BelowS B) w r blk off → w.ownsRow B 5 1 sv k xs → B ≤ w.heap.size → k + bs.length + 21 ≤ 140737488355328 →
      Lib.TabBelow Tryd.prog B w "internal/strconv.uint64pow10" .u64 Lib.pow10Tab → Calls Tryd.prog 68 #[sv, .pointer (some ⟨blk, off, none⟩)] w fun e w' => ∃ v', e = .returned v' ∧ w'.ownsRow B 5 1 v' (k + bs.length) (xs ++ Lib.byteCells bs) ∧ Below B w w')
    (x : T_api_Expr) (ls : List UInt8) (hr : (-9223372036854775808 ≤ x.Op ∧ x.Op ≤ 9223372036854775807) ∧ -9223372036854775808 ≤ x.Var ∧ x.Var ≤ 9223372036854775807) (hl : keyL (keyN n) x.Args = some ls)
    (B blk off k : Nat) (sv : Value) (xs : List Value) (w : World) (av : Value) (hw : w.ownsRow B 5 1 sv k xs) (hB : B ≤ w.heap.size) (hlim : k + (keyH x ++ ls).length + 21 ≤ 140737488355328)
    (hT : Lib.TabBelow Tryd.prog B w "internal/strconv.uint64pow10" .u64 Lib.pow10Tab) (hblk : blk < B) (hla : (x.Args.length : Int) ≤ 9223372036854775807)
    (c0 : w.cell? ⟨blk, off, none⟩ = some (.int .i64 x.Op)) (c1 : w.cell? ⟨blk, off + 1, none⟩ = some (.int .i64 x.Var)) (c2 : w.cell? ⟨blk, off + 2, none⟩ = some av) (base : Option Addr) (cap : Nat) (hav : av = .slice base x.Args.length cap)
    (hels : ∀ (j : Nat) (r : R_api_Expr), x.Args[j]? = some r → ∃ B2 off2, base = some ⟨B2, off2, none⟩ ∧ RelCells (BelowS B) w r B2 (off2 + j * 3)) :
    Calls Tryd.prog 68 #[sv, .pointer (some ⟨blk, off, none⟩)] w fun e w' => ∃ v', e = .returned v' ∧ w'.ownsRow B 5 1 v' (k + (keyH x ++ ls).length) (xs ++ Lib.byteCells (keyH x ++ ls)) ∧ Below B w w' := by
  obtain ⟨i0, hi, hz0, hz1, hz2⟩ := info_parts keyInfo
  subst hav
  have mixed : Tryd.prog.follows .mixedOrders = true := by kernel_rfl
  go_enter Tryd.func68, Tryd.ntmps68
  go_wp2
  go_quiet (fail)
  go_wp2
  go_loopw [0, 22] (fun v i wr => ∃ j : Nat, j ≤ 3 ∧ i = .int .i64 j ∧ wr.ownsRow B 5 1 v (k + (keyP x j).length) (xs ++ Lib.byteCells (keyP x j)) ∧ Below B w wr) (fun _ i _ => 3 - (RowKit.intOf i).toNat)
  case atStart =>
    refine ⟨0, by omega, rfl, ?_, ⟨rfl, rfl, rfl, Nat.le_refl _, fun _ _ => rfl⟩⟩
    have h9 : (w.drewN nq).ownsRow B 5 1 sv k xs := hw
    simpa [keyP, Lib.byteCells] using h9
  case round =>
    obtain ⟨j, hj, rfl, hown, hbel⟩ := hrel
    have hTr := hT.on hbel
    have hBr : B ≤ wr.heap.size := Nat.le_trans hB hbel.size
    have lo := Lib.itoa_length_le x.Op hr.1.1 hr.1.2
    have lv := Lib.itoa_length_le x.Var hr.2.1 hr.2.2
    have hx0 := fun wq => (ixArr (.int .i64 x.Op) (.int .i64 x.Var) (.int .i64 x.Args.length) wq).1
    have hx1 := fun wq => (ixArr (.int .i64 x.Op) (.int .i64 x.Var) (.int .i64 x.Args.length) wq).2.1
    have hx2 := fun wq => (ixArr (.int .i64 x.Op) (.int .i64 x.Var) (.int .i64 x.Args.length) wq).2.2
    have hcase : j = 0 ∨ j = 1 ∨ j = 2 ∨ j = 3 := by omega
    rcases hcase with rfl | rfl | rfl | rfl
    · have hA : k + (keyP x 0).length + (Lib.itoa x.Op).length + 1 + 21 ≤ 140737488355328 := by
        have h9 := (keyP_le x ls 0).2
        simp only [keyP, keyH, List.length_nil, List.length_append, List.length_cons] at *
        omega
      go_wp2_with (go_at_call 70; refine (appendInt_laid B _ x.Op hr.1.1 hr.1.2 _ _ _ hown hBr (by omega) hTr).mono ?_; rintro e w1 ⟨v1, rfl, hown1, hnx1, -⟩; refine Hid.out ?_)
      refine Lib.hid ?_
      have hbel1 := hbel.trans hnx1
      have hB1 : B ≤ w1.heap.size := Nat.le_trans hB hbel1.size
      go_wp2_with (at_builtin; refine wpList_append_own _ rfl _ _ 88 rfl B 5 i0 (.int .u8 0) 1 1 Tryd.underlying88 hi hz0 hz1 hz2 rfl (by decide) _ _ _ rfl (hown1.alloc _) ⟨w1.heap.size, 0, none⟩ 1 1 [Value.int .u8 32] rfl rfl (by intro j u' hj; match j, hj with | 0, hj => simp at hj; subst hj; simp [Addr.add]) (by intro u' hu'; simp at hu'; subst hu'; rfl) (by unfold maxLen; omega) (by omega) (by simp; omega) ?_)
      intro v2 w2 hown2 hgrow _
      have hnx2 : Below B w w2 := (hbel1.alloc hB1 _).grown hgrow (by simp; omega) (fun k hk => (hown1.lt k hk).1)
      have hown3 := own_next (keyP x 0) (Lib.itoa x.Op) hown2
      rw [show keyP x 0 ++ (Lib.itoa x.Op ++ [32]) = keyP x 1 by simp [keyP]] at hown3
      go_wp2
      go_roundw
      case rel => exact ⟨1, by omega, by first | rfl | go_num, hown3, hnx2⟩
      case measure => simp [RowKit.intOf]
    · have hA : k + (keyP x 1).length + (Lib.itoa x.Var).length + 1 + 21 ≤ 140737488355328 := by
        have h9 := (keyP_le x ls 0).2
        simp only [keyP, keyH, List.length_nil, List.length_append, List.length_cons] at *
        omega
      go_wp2_with (go_at_call 70; refine (appendInt_laid B _ x.Var hr.2.1 hr.2.2 _ _ _ hown hBr (by omega) hTr).mono ?_; rintro e w1 ⟨v1, rfl, hown1, hnx1, -⟩; refine Hid.out ?_)
      refine Lib.hid ?_
      have hbel1 := hbel.trans hnx1
      have hB1 : B ≤ w1.heap.size := Nat.le_trans hB hbel1.size
      go_wp2_with (at_builtin; refine wpList_append_own _ rfl _ _ 88 rfl B 5 i0 (.int .u8 0) 1 1 Tryd.underlying88 hi hz0 hz1 hz2 rfl (by decide) _ _ _ rfl (hown1.alloc _) ⟨w1.heap.size, 0, none⟩ 1 1 [Value.int .u8 32] rfl rfl (by intro j u' hj; match j, hj with | 0, hj => simp at hj; subst hj; simp [Addr.add]) (by intro u' hu'; simp at hu'; subst hu'; rfl) (by unfold maxLen; omega) (by omega) (by simp; omega) ?_)
      intro v2 w2 hown2 hgrow _
      have hnx2 : Below B w w2 := (hbel1.alloc hB1 _).grown hgrow (by simp; omega) (fun k hk => (hown1.lt k hk).1)
      have hown3 := own_next (keyP x 1) (Lib.itoa x.Var) hown2
      rw [show keyP x 1 ++ (Lib.itoa x.Var ++ [32]) = keyP x 2 by simp [keyP]] at hown3
      go_wp2
      go_roundw
      case rel => exact ⟨2, by omega, by first | rfl | go_num, hown3, hnx2⟩
      case measure => simp [RowKit.intOf]
    · have hA : k + (keyP x 2).length + (Lib.itoa (x.Args.length : Int)).length + 1 + 21 ≤ 140737488355328 := by
        have h9 := (keyP_le x ls 0).2
        simp only [keyP, keyH, List.length_nil, List.length_append, List.length_cons] at *
        omega
      go_wp2_with (go_at_call 70; refine (appendInt_laid B _ (x.Args.length : Int) (by omega) hla _ _ _ hown hBr (by omega) hTr).mono ?_; rintro e w1 ⟨v1, rfl, hown1, hnx1, -⟩; refine Hid.out ?_)
      refine Lib.hid ?_
      have hbel1 := hbel.trans hnx1
      have hB1 : B ≤ w1.heap.size := Nat.le_trans hB hbel1.size
      go_wp2_with (at_builtin; refine wpList_append_own _ rfl _ _ 88 rfl B 5 i0 (.int .u8 0) 1 1 Tryd.underlying88 hi hz0 hz1 hz2 rfl (by decide) _ _ _ rfl (hown1.alloc _) ⟨w1.heap.size, 0, none⟩ 1 1 [Value.int .u8 32] rfl rfl (by intro j u' hj; match j, hj with | 0, hj => simp at hj; subst hj; simp [Addr.add]) (by intro u' hu'; simp at hu'; subst hu'; rfl) (by unfold maxLen; omega) (by omega) (by simp; omega) ?_)
      intro v2 w2 hown2 hgrow _
      have hnx2 : Below B w w2 := (hbel1.alloc hB1 _).grown hgrow (by simp; omega) (fun k hk => (hown1.lt k hk).1)
      have hown3 := own_next (keyP x 2) (Lib.itoa (x.Args.length : Int)) hown2
      rw [show keyP x 2 ++ (Lib.itoa (x.Args.length : Int) ++ [32]) = keyP x 3 by simp [keyP, keyH]] at hown3
      go_wp2
      go_roundw
      case rel => exact ⟨3, by omega, by first | rfl | go_num, hown3, hnx2⟩
      case measure => simp [RowKit.intOf]
    · have c2r := (hbel.cell (p := ⟨blk, off + 2, none⟩) hblk).trans c2
      clear hx0 hx1 hx2 lo lv
      go_wp2
      go_loopw [0, 37] (fun v i wq => ∃ (j : Nat) (lj rj : List UInt8), j ≤ x.Args.length ∧ i = .int .i64 j ∧ keyL (keyN n) (x.Args.drop j) = some rj ∧ lj ++ rj = ls ∧ wq.ownsRow B 5 1 v (k + (keyH x ++ lj).length) (xs ++ Lib.byteCells (keyH x ++ lj)) ∧ Below B w wq) (fun _ i _ => x.Args.length - (RowKit.intOf i).toNat)
      case atStart => exact ⟨0, [], ls, by omega, rfl, hl, rfl, by simpa [keyP] using hown, hbel⟩
      case round =>
        obtain ⟨j, lj, rj, hj, rfl, hkl, hlj, hown2, hbel2⟩ := hrel
        have c2s := (hbel2.cell (p := ⟨blk, off + 2, none⟩) hblk).trans c2
        by_cases hjl : j < x.Args.length
        · rw [List.drop_eq_getElem_cons hjl] at hkl
          obtain ⟨kj, hk1, hkl⟩ := Option.bind_eq_some_iff.1 hkl
          obtain ⟨rj', hk2, hkl⟩ := Option.map_eq_some_iff.1 hkl
          obtain ⟨B2, off2, hbase, hcells⟩ := hels j _ (List.getElem?_eq_getElem hjl)
          subst hbase
          go_wp2_with (go_at_call 68; refine (ih _ kj hk1 B B2 (off2 + j * 3) _ _ _ _ (relCells_below hbel2 hcells) hown2 (Nat.le_trans hB hbel2.size) (by rw [← hlj, ← hkl] at hlim; simp only [List.length_append] at *; omega) (hT.on hbel2)).mono ?_; rintro e w3 ⟨v3, rfl, hown3, hbel3⟩; refine Hid.out ?_)
          refine Lib.hid ?_
          have hown4 : w3.ownsRow B 5 1 v3 (k + (keyH x ++ (lj ++ kj)).length) (xs ++ Lib.byteCells (keyH x ++ (lj ++ kj))) := by
            have e1 : k + (keyH x ++ (lj ++ kj)).length = k + (keyH x ++ lj).length + kj.length := by simp only [List.length_append]; omega
            have e2 : xs ++ Lib.byteCells (keyH x ++ (lj ++ kj)) = xs ++ Lib.byteCells (keyH x ++ lj) ++ Lib.byteCells kj := by simp [Lib.byteCells]
            rw [e1, e2]
            simpa using hown3
          have hbel4 := hbel2.trans hbel3
          have hlj4 : lj ++ kj ++ rj' = ls := by rw [List.append_assoc, hkl, hlj]
          clear hown3 hown2 hown hlim hbel
          go_wp2
          go_roundw
          case rel =>
            refine ⟨v3, _, .int .i64 ((j : Int) + 1), _, _, _, _, _, _, _, _, _, _, _, ⟨j + 1, lj ++ kj, rj', by omega, ?_, hk2, hlj4, hown4, hbel4⟩, rfl⟩
            simp
          case measure => simp [RowKit.intOf]; omega
        · have hjn : j = x.Args.length := by omega
          rw [hjn, List.drop_length] at hkl
          have hrj : rj = [] := (Option.some.inj hkl).symm
          rw [hrj, List.append_nil] at hlj
          rw [hlj] at hown2
          clear hown hlim hbel
          go_wp2
          go_ret
          exact ⟨_, rfl, hown2, hbel2⟩
theorem appendKey_calls : ∀ (n : Nat) (r : R_api_Expr) (bs : List UInt8), keyN n r = some bs → ∀ (B blk off k : Nat) (sv : Value) (xs : List Value) (w : World), RelCells (BelowS B) w r blk off → w.ownsRow B 5 1 sv k xs → B ≤ w.heap.size → k + bs.length + 21 ≤ 140737488355328 →
      Lib.TabBelow Tryd.prog B w "internal/strconv.uint64pow10" .u64 Lib.pow10Tab → Calls Tryd.prog 68 #[sv, .pointer (some ⟨blk, off, none⟩)] w fun e w' => ∃ v', e = .returned v' ∧ w'.ownsRow B 5 1 v' (k + bs.length) (xs ++ Lib.byteCells bs) ∧ Below B w w'
  | 0, _, _, h => by cases h
  | n + 1, r, bs, h => by
    intro B blk off k sv xs w hc hw hB hlim hT
    rw [keyN_succ] at h
    obtain ⟨x, hx, h⟩ := Option.bind_eq_some_iff.1 h
    split at h
    · rename_i hr
      obtain ⟨ls, hl, rfl⟩ := Option.map_eq_some_iff.1 h
      have hrx := dec_T_api_Expr_eq hx
      subst hrx
      have hc' := (relCells_iff _ _ _).1 hc
      obtain ⟨_, hb0, v0, h0, r0⟩ := hc' 0 (.int .i64 x.Op) rfl
      obtain ⟨_, _, v1, h1, r1⟩ := hc' 1 (.int .i64 x.Var) rfl
      obtain ⟨_, _, v2, h2, r2⟩ := hc' 2 (lstOf .frozen x.Args) rfl
      simp only [RelD] at r0 r1
      subst r0
      subst r1
      have r2' := r2
      unfold lstOf at r2 r2'
      obtain ⟨base, cap, hv, _, _, hnil, _⟩ := lst_values r2
      simp only [RelD] at r2'
      obtain ⟨_, hle, _, hor⟩ := r2'
      rw [List.length_map] at hv hle
      refine appendKey_one n (appendKey_calls n) x ls hr hl B blk off k sv xs w v2 hw hB hlim hT hb0 (by omega) (by simpa using h0) (by simpa using h1) (by simpa using h2) base cap hv ?_
      intro j r hj
      rcases hor with ⟨_, e⟩ | ⟨B2, off2, cap2, e, _, _, hels⟩
      · have h9 : x.Args = [] := List.map_eq_nil_iff.1 e
        rw [h9] at hj; cases hj
      · rw [hv] at e
        simp only [Value.slice.injEq] at e
        refine ⟨B2, off2, e.1, ?_⟩
        have := (relEls_iff _ _ _ _).1 hels j (cellsOf r) (by rw [List.getElem?_map, hj]; rfl)
        exact this.2
    · cases h
set_option maxRecDepth 100000 in
theorem key_calls (a0 : T_api_Expr) (bs : List UInt8) (h : keyN 100000 (enc_T_api_Expr a0) = some bs) (hlim : bs.length ≤ 1000000000) (arr : Array Value) (w : World) (hc : RelCells (BelowS (w.heap.size + 1)) (w.alloc (.cells (Value.agg arr).cells 24)) (enc_T_api_Expr a0) w.heap.size 0)
    (hpos : 0 < bs.length) (hT : Lib.TabIs Tryd.prog w "internal/strconv.uint64pow10" .u64 Lib.pow10Tab) : Calls Tryd.prog 59 #[.agg arr] w fun e w' => e = .returned (.string ⟨bs.toArray⟩) ∧ Below w.heap.size w w' := by
  have hT1 := (Lib.tabBelow_of_tabIs hT)
  have hbel0 : Below w.heap.size w (w.alloc (.cells (Value.agg arr).cells 24)) := (Below.refl _ w).alloc (Nat.le_refl _) _
  have hT2 : Lib.TabBelow Tryd.prog (w.heap.size + 1) (w.alloc (.cells (Value.agg arr).cells 24)) "internal/strconv.uint64pow10" .u64 Lib.pow10Tab := fun w' hb => hT1 w' (hbel0.trans (hb.mono (Nat.le_succ _)))
  have hc68 := appendKey_calls 100000 (enc_T_api_Expr a0) bs h (w.heap.size + 1) w.heap.size 0 0 (.slice none 0 0) [] (w.alloc (.cells (Value.agg arr).cells 24)) hc (World.ownsRow_nil _ _ _ _) (by simp) (by omega) hT2
  go_enter Tryd.func59, Tryd.ntmps59
  go_wp2_with (go_at_call 68; refine hc68.mono ?_; rintro e w1 ⟨v1, rfl, hown1, hbel1⟩; refine Hid.out ?_)
  refine Lib.hid ?_
  rw [Nat.zero_add, List.nil_append] at hown1
  rcases hown1.2 with ⟨-, h0⟩ | ⟨g, cap, cur, rfl, -, -, -, -, -, -⟩
  · omega
  · have hcv := run_convert_bytes_back (P := Tryd.prog) w1 88 9 5 ⟨g, 0, none⟩ cap bs Tryd.underlying88 Tryd.underlying5 Tryd.underlying9 (fun j hj => hown1.cells (g := g) rfl j _ (by simp [Lib.byteCells, hj]))
    clear hc hc68 hT2 hT1 hT
    go_wp2
    go_ret
    exact ⟨rfl, hbel0.trans (hbel1.mono (Nat.le_succ _))⟩
theorem keyN_pos {n : Nat} {r : R_api_Expr} {bs : List UInt8} (h : keyN n r = some bs) : 0 < bs.length := by
  cases n with
  | zero => cases h
  | succ n =>
    rw [keyN_succ] at h
    obtain ⟨x, _, h⟩ := Option.bind_eq_some_iff.1 h
    split at h
    · obtain ⟨l, _, rfl⟩ := Option.map_eq_some_iff.1 h
      unfold keyH
      simp only [List.length_append, List.length_cons]
      omega
    · cases h
theorem d_expr_key_ok (a0 : T_api_Expr) (r : ByteArray) (h : d_expr_key a0 = some r) : PCall Go.Proofs.Tryd.prog GlS 59 [Enc.pv a0] (Enc.pv r) := by
  unfold d_expr_key at h
  obtain ⟨bs, hb, h⟩ := Option.bind_eq_some_iff.1 h
  split at h
  · rename_i hle
    cases h
    refine ⟨⟨_, Tryd.func59, rfl, rfl⟩, fun S w vs hS hglob hargs => ?_⟩
    obtain ⟨v, vs', e, h2, h3⟩ := hargs.cons_left
    have h3 := h3.nil_left
    subst h3
    have h2' := h2
    change RelD S w (.agg [.int .i64 a0.Op, .int .i64 a0.Var, lstOf .frozen a0.Args]) v at h2
    simp only [RelD] at h2
    obtain ⟨arr, rfl, _⟩ := h2
    have e : vs = #[.agg arr] := by apply Array.ext'; rw [e]
    subst e
    have hbel0 : Below w.heap.size w (w.alloc (.cells (Value.agg arr).cells 24)) := (Below.refl _ w).alloc (Nat.le_refl _) _
    have hbox := Rel.boxed (g := gN S w) (p := Enc.pv a0) (v := .agg arr) (Rel.ofData h2' rfl) rfl
    have hcell : RelCells (BelowS (w.heap.size + 1)) (w.alloc (.cells (Value.agg arr).cells 24)) (enc_T_api_Expr a0) w.heap.size 0 := (relCells_iff _ _ _).2 fun i c hi => by
      obtain ⟨u, hu, hr⟩ := hbox.right (i := i) (x := c) hi
      have hcu : (w.alloc (.cells (Value.agg arr).cells 24)).cell? ⟨w.heap.size, 0 + i, none⟩ = some u := rangeAt_alloc w _ 24 i u hu
      have hd : c.one = true ∧ RelD S w c u := by
        match i, hi with
        | 0, hi => cases hi; exact ⟨rfl, hr.1⟩
        | 1, hi => cases hi; exact ⟨rfl, hr.1⟩
        | 2, hi => cases hi; exact ⟨rfl, hr.1⟩
        | i + 3, hi => cases hi
      exact ⟨hd.1, Nat.lt_succ_self _, u, hcu, hd.2.mono (fun B o hB => Nat.lt_succ_of_lt (hS B o hB)) (fun B o hB => hbel0.cell (p := ⟨B, o, none⟩) (hS B o hB)) (fun B hB => hbel0.block B (hS B 0 (hB 0)))⟩
    have ht : Lib.TabIs Tryd.prog w "internal/strconv.uint64pow10" .u64 Lib.pow10Tab := tabIs_of_rel (g := 0) (k := .u64) (z := 1) (zs := Lib.pow10Tab.tail) (by kernel_rfl) (hglob 0 _ (by kernel_rfl))
    refine (key_calls a0 bs hb hle arr w hcell (keyN_pos hb) ht).mono ?_
    rintro e w' ⟨rfl, hbel⟩
    exact ⟨_, _, rfl, rfl, after_str _ ⟨hbel, trivial⟩⟩
  · cases h
end

/-! expr.combine -/
noncomputable def d_expr_combine_0 (rc_d_expr_simplify : T_api_Expr → Option T_api_Expr) (a0 : (List R_api_Expr)) (a1 : Int) : (Int × (List R_api_Expr)) → Option ((Int × (List R_api_Expr)) ⊕ ((List R_api_Expr) ⊕ T_api_Expr)) := fun (x24, x25) =>
  bif decide (x24 < ((a0.length : Nat) : Int)) then (
    onInl (α := (List R_api_Expr)) (β := ((Int × (List R_api_Expr)) ⊕ ((List R_api_Expr) ⊕ T_api_Expr))) (
      (ixO a0 x24).bind fun x44 =>
      (dec_T_api_Expr x44).bind fun x45 =>
      (rc_d_expr_simplify x45).bind fun r46 =>
      bif decide (r46.Op = a1) then (
        (appO x25 r46.Args).bind fun x47 =>
        some (.inl x47)
      ) else (
        (appO x25 [(enc_T_api_Expr r46)]).bind fun x48 =>
        some (.inl x48)
      )
    ) fun x43 =>
    some (.inl (w64 (x24 + 1), x43))
  ) else (
    some (.inr (.inl x25))
  )

noncomputable def d_expr_combine_1 (a2 : Int) (a3 : Int) (x37 : (List R_api_Expr)) : (Int × (List (ByteArray × Bool)) × (List R_api_Expr)) → Option ((Int × (List (ByteArray × Bool)) × (List R_api_Expr)) ⊕ (((List R_api_Expr) × (List (ByteArray × Bool))) ⊕ T_api_Expr)) := fun (x75, x76, x77) =>
  bif decide (x75 < ((x37.length : Nat) : Int)) then (
    onInl (α := ((List R_api_Expr) × (List (ByteArray × Bool)))) (β := ((Int × (List (ByteArray × Bool)) × (List R_api_Expr)) ⊕ (((List R_api_Expr) × (List (ByteArray × Bool))) ⊕ T_api_Expr))) (
      (ixO x37 x75).bind fun x99 =>
      (dec_T_api_Expr x99).bind fun x100 =>
      bif decide (x100.Op = a3) then (
        some (.inr (.inr (.inr (T_api_Expr.mk a3 0 []))))
      ) else (
        (d_expr_key x100).bind fun r101 =>
        ((bif (!(decide (x100.Op = a2))) then (
          some (!((mget (x76 : (List (ByteArray × Bool))) r101).getD false))
        ) else some false) : Option Bool).bind fun b102 =>
        bif b102 then (
          (appO x77 [(enc_T_api_Expr x100)]).bind fun x103 =>
          some (.inl (x103, (mset r101 true x76)))
        ) else (
          some (.inl (x77, x76))
        )
      )
    ) fun (x97, x98) =>
    some (.inl (w64 (x75 + 1), x98, x97))
  ) else (
    some (.inr (.inl (x77, x76)))
  )

noncomputable def d_expr_combine_2 (a3 : Int) (x90 : (List R_api_Expr)) (x91 : (List (ByteArray × Bool))) : Int → Option (Int ⊕ (Unit ⊕ T_api_Expr)) := fun x110 =>
  bif decide (x110 < ((x90.length : Nat) : Int)) then (
    (ixO x90 x110).bind fun x117 =>
    (dec_T_api_Expr x117).bind fun x118 =>
    ((bif decide (x118.Op = 4) then (
      (ixO x118.Args 0).bind fun x120 =>
      (dec_T_api_Expr x120).bind fun x121 =>
      (d_expr_key x121).bind fun r122 =>
      some ((mget (x91 : (List (ByteArray × Bool))) r122).getD false)
    ) else some false) : Option Bool).bind fun b119 =>
    bif b119 then (
      some (.inr (.inr (T_api_Expr.mk a3 0 [])))
    ) else (
      some (.inl (w64 (x110 + 1)))
    )
  ) else (
    some (.inr (.inl ()))
  )

noncomputable def d_expr_combine (rc_d_expr_simplify : T_api_Expr → Option T_api_Expr) (a0 : (List R_api_Expr)) (a1 : Int) (a2 : Int) (a3 : Int) : Option T_api_Expr :=
  onInl (α := (List R_api_Expr)) (β := T_api_Expr) (loopO (d_expr_combine_0 rc_d_expr_simplify a0 a1) (0, ([] : (List R_api_Expr)))) fun x37 =>
  onInl (α := ((List R_api_Expr) × (List (ByteArray × Bool)))) (β := T_api_Expr) (loopO (d_expr_combine_1 a2 a3 x37) (0, ([] : (List (ByteArray × Bool))), ([] : (List R_api_Expr)))) fun (x90, x91) =>
  onInl (α := Unit) (β := T_api_Expr) (loopO (d_expr_combine_2 a3 x90 x91) 0) fun _ =>
  bif decide (((x90.length : Nat) : Int) = 0) then (
    some (T_api_Expr.mk a2 0 [])
  ) else (
    bif decide (((x90.length : Nat) : Int) = 1) then (
      (ixO x90 0).bind fun x123 =>
      (dec_T_api_Expr x123).bind fun x124 =>
      some x124
    ) else (
      some (T_api_Expr.mk a1 0 x90)
    )
  )
theorem d_expr_combine_ok (rc_d_expr_simplify : T_api_Expr → Option T_api_Expr) (hrc_d_expr_simplify : ∀ (a0 : T_api_Expr) (r : T_api_Expr), rc_d_expr_simplify a0 = some r → PCall Go.Proofs.Tryd.prog GlS 35 [Enc.pv a0] (Enc.pv r)) (a0 : (List R_api_Expr)) (a1 : Int) (a2 : Int) (a3 : Int) (r : T_api_Expr) (h : d_expr_combine rc_d_expr_simplify a0 a1 a2 a3 = some r) : PCall Go.Proofs.Tryd.prog GlS 45 [Enc.pv a0, Enc.pv a1, Enc.pv a2, Enc.pv a3] (Enc.pv r) := by
  unfold d_expr_combine at h
  refine pcall_of_pwp Go.Proofs.Tryd.func45 (by rfl) rfl Go.Proofs.Tryd.ntmps45 (by rfl) rfl ?_
  refine pwp_seq (r_reg ?_)
  refine e_end (by kernel_rfl) ?_
  refine q_next (pwp_seq (r_reg ?_))
  refine e_end (by kernel_rfl) ?_
  refine q_next (pwp_seq (pwp_seq (r_reg ?_)))
  refine p_run 1 (by kernel_rfl) ?_
  refine p_len (L := (a0 : (List R_api_Expr))) (by kernel_rfl) ?_
  refine e_end (by kernel_rfl) ?_
  refine q_next (pwp_block ?_)
  refine g_nil 9 100009 3 40 (by kernel_rfl) (by kernel_rfl) ?_
  obtain ⟨o35, h35, h⟩ := o_inl h
  refine r_loop2 108 0 (fun (x24, x25) => ⟨[(1, .int .i64 a1), (2, .int .i64 a2), (3, .int .i64 a3), (8, .ref 8 0), (9, lstOf (.own 100009) (x25 : (List R_api_Expr))), (20, lstOf .frozen (a0 : (List R_api_Expr))), (21, .int .i64 ((a0.length : Nat) : Int)), (22, .int .i64 x24)], [(8, .cells ([.int .i64 0, .int .i64 0, .nil]))], [(100009, (((x25).map cellsOf).length, 3))], []⟩) (fun x37 => ⟨[(1, .int .i64 a1), (2, .int .i64 a2), (3, .int .i64 a3), (8, .ref 8 0), (9, lstOf (.own 100009) (x37 : (List R_api_Expr)))], [(8, .cells ([.int .i64 0, .int .i64 0, .nil]))], [(100009, (((x37).map cellsOf).length, 3))], []⟩) h35 (by kernel_rfl) (fun _ => by kernel_rfl) ?_ ?_
  · rintro ⟨x24, x25⟩ oh34 h34
    unfold d_expr_combine_0 at h34
    refine pwp_seq (r_reg ?_)
    refine e_end (by kernel_rfl) ?_
    refine q_next (pwp_seq ?_)
    rcases o_cond h34 with ⟨hb, h34⟩ | ⟨hb, h34⟩
    · refine r_cond_t hb (by kernel_rfl) ?_
      refine pwp_skip (q_next ?_)
      obtain ⟨o41, h41, h34⟩ := o_inl h34
      refine r_join (o := o41) 108 (fun x43 => ⟨[(1, .int .i64 a1), (2, .int .i64 a2), (3, .int .i64 a3), (8, .ref 8 0), (9, lstOf (.own 100009) (x43 : (List R_api_Expr))), (20, lstOf .frozen (a0 : (List R_api_Expr))), (21, .int .i64 ((a0.length : Nat) : Int)), (22, .int .i64 x24)], [(8, .cells ([.int .i64 0, .int .i64 0, .nil]))], [(100009, (((x43).map cellsOf).length, 3))], []⟩) ?_ ?_
      · refine pwp_block (pwp_seq (r_reg ?_))
        obtain ⟨x44, h42, h41⟩ := o_bind h41
        obtain ⟨x45, h43, h41⟩ := o_bind h41
        rw [dec_T_api_Expr_eq h43] at h42
        refine p_ix h42 (by kernel_rfl) ?_
        refine e_end (by kernel_rfl) ?_
        refine q_next (pwp_seq (r_reg ?_))
        refine p_run 1 (by kernel_rfl) ?_
        obtain ⟨r46, h44, h41⟩ := o_bind h41
        refine p_call (hrc_d_expr_simplify _ r46 h44) (by kernel_rfl) (by kernel_rfl) ?_
        refine e_end (by kernel_rfl) ?_
        refine q_next (pwp_seq (r_reg ?_))
        refine e_end (by kernel_rfl) ?_
        refine q_next ?_
        rcases o_cond h41 with ⟨hb, h41⟩ | ⟨hb, h41⟩
        · refine r_cond_t hb (by kernel_rfl) ?_
          refine r_reg ?_
          refine p_run 3 (by kernel_rfl) ?_
          obtain ⟨x47, h45, h41⟩ := o_bind h41
          refine p_app (tk := 100009) h45 (by kernel_rfl) (by kernel_rfl) ?_
          refine e_end (by kernel_rfl) ?_
          refine q_block ?_
          cases h41
          exact q_join (by kernel_rfl) (by kernel_rfl)
        refine r_cond_f hb (by kernel_rfl) ?_
        refine r_reg ?_
        refine p_run 3 (by kernel_rfl) ?_
        obtain ⟨x48, h46, h41⟩ := o_bind h41
        refine p_app (tk := 100009) h46 (by kernel_rfl) (by kernel_rfl) ?_
        refine e_end (by kernel_rfl) ?_
        refine q_block ?_
        cases h41
        exact q_join (by kernel_rfl) (by kernel_rfl)
      rintro x43 rfl
      have h34 := o_outl h34
      refine r_reg ?_
      refine e_end (by kernel_rfl) ?_
      cases h34
      exact q_lback (by kernel_rfl)
    refine r_cond_f hb (by kernel_rfl) ?_
    refine pwp_exit (q_seq_exit ?_)
    cases h34
    exact q_lexit (by kernel_rfl) (by kernel_rfl)
  rintro x37 s' rfl hs
  have h := o_outl h
  refine q_block_hit ?_
  refine q_next (pwp_wkr hs ?_)
  refine pwp_seq (r_reg ?_)
  refine e_end (by kernel_rfl) ?_
  refine q_next (pwp_seq (r_reg ?_))
  refine e_end (by kernel_rfl) ?_
  refine q_next (pwp_seq (pwp_seq (r_reg ?_)))
  refine p_run 1 (by kernel_rfl) ?_
  refine p_len (L := (x37 : (List R_api_Expr))) (by kernel_rfl) ?_
  refine e_end (by kernel_rfl) ?_
  refine q_next (pwp_block ?_)
  refine g_nil 14 100014 3 40 (by kernel_rfl) (by kernel_rfl) ?_
  obtain ⟨o93, h93, h⟩ := o_inl h
  refine r_loop2 108 2 (fun (x75, x76, x77) => ⟨[(1, .int .i64 a1), (2, .int .i64 a2), (3, .int .i64 a3), (8, .ref 8 0), (13, .mp 41), (14, lstOf (.own 100014) (x77 : (List R_api_Expr))), (42, lstOf (.own 100009) (x37 : (List R_api_Expr))), (43, .int .i64 ((x37.length : Nat) : Int)), (44, .int .i64 x75)], [(8, .cells ([.int .i64 0, .int .i64 0, .nil])), (41, .map (mpOf (x76 : (List (ByteArray × Bool)))))], [(100009, (((x37).map cellsOf).length, 3)), (100014, (((x77).map cellsOf).length, 3))], []⟩) (fun (x90, x91) => ⟨[(1, .int .i64 a1), (2, .int .i64 a2), (3, .int .i64 a3), (8, .ref 8 0), (13, .mp 41), (14, lstOf (.own 100014) (x90 : (List R_api_Expr)))], [(8, .cells ([.int .i64 0, .int .i64 0, .nil])), (41, .map (mpOf (x91 : (List (ByteArray × Bool)))))], [(100014, (((x90).map cellsOf).length, 3))], []⟩) h93 (by kernel_rfl) (fun _ => by kernel_rfl) ?_ ?_
  · rintro ⟨x75, x76, x77⟩ oh92 h92
    unfold d_expr_combine_1 at h92
    refine pwp_seq (r_reg ?_)
    refine e_end (by kernel_rfl) ?_
    refine q_next (pwp_seq ?_)
    rcases o_cond h92 with ⟨hb, h92⟩ | ⟨hb, h92⟩
    · refine r_cond_t hb (by kernel_rfl) ?_
      refine pwp_skip (q_next ?_)
      obtain ⟨o101, h101, h92⟩ := o_inl h92
      refine r_join (o := o101) 108 (fun (x97, x98) => ⟨[(1, .int .i64 a1), (2, .int .i64 a2), (3, .int .i64 a3), (8, .ref 8 0), (13, .mp 41), (14, lstOf (.own 100014) (x97 : (List R_api_Expr))), (42, lstOf (.own 100009) (x37 : (List R_api_Expr))), (43, .int .i64 ((x37.length : Nat) : Int)), (44, .int .i64 x75)], [(8, .cells ([.int .i64 0, .int .i64 0, .nil])), (41, .map (mpOf (x98 : (List (ByteArray × Bool)))))], [(100009, (((x37).map cellsOf).length, 3)), (100014, (((x97).map cellsOf).length, 3))], []⟩) ?_ ?_
      · refine pwp_block (pwp_seq (r_reg ?_))
        obtain ⟨x99, h102, h101⟩ := o_bind h101
        obtain ⟨x100, h103, h101⟩ := o_bind h101
        rw [dec_T_api_Expr_eq h103] at h102
        refine p_ix h102 (by kernel_rfl) ?_
        refine e_end (by kernel_rfl) ?_
        refine q_next (pwp_seq (pwp_seq (r_reg ?_)))
        refine e_end (by kernel_rfl) ?_
        refine q_next ?_
        rcases o_cond h101 with ⟨hb, h101⟩ | ⟨hb, h101⟩
        · refine r_cond_t hb (by kernel_rfl) ?_
          refine pwp_seq (r_reg ?_)
          refine e_end (by kernel_rfl) ?_
          refine q_next (pwp_ret (q_seq_ret (q_block_ret ?_)))
          cases h101
          refine q_jout_ret ?_
          have h104 := o_outr h92
          cases h104
          refine q_lout_ret fun he => ?_
          subst he
          have h105 := o_outr h
          refine q_block_ret (q_seq_ret ?_)
          cases h105
          exact q_ret (by kernel_rfl) (by kernel_rfl) (by kernel_rfl)
        refine r_cond_f hb (by kernel_rfl) ?_
        refine pwp_skip (q_next (pwp_seq (r_reg ?_)))
        refine p_run 1 (by kernel_rfl) ?_
        obtain ⟨r101, h106, h101⟩ := o_bind h101
        refine p_call (d_expr_key_ok _ r101 h106) (by kernel_rfl) (by kernel_rfl) ?_
        refine e_end (by kernel_rfl) ?_
        refine q_next (pwp_seq (r_reg ?_))
        obtain ⟨b102, h107, h101⟩ := o_bind h101
        refine p_run 5 (by kernel_rfl) ?_
        refine e_seg 5 65 (.bool b102) ?_ ?_
        · rcases o_cond h107 with ⟨hb, h107⟩ | ⟨hb, h107⟩
          · refine p_settle 60 hb (by kernel_rfl) (by kernel_rfl) ?_
            refine p_run 2 (by kernel_rfl) ?_
            refine p_lookup (m := (x76 : (List (ByteArray × Bool)))) (k := r101) false 41 (by kernel_rfl) (by kernel_rfl) ?_
            cases h107
            exact f_end (by kernel_rfl) (by kernel_rfl)
          refine p_settle 60 hb (by kernel_rfl) (by kernel_rfl) ?_
          cases h107
          exact f_end (by kernel_rfl) (by kernel_rfl)
        refine e_nil (by kernel_rfl) ?_
        refine q_next ?_
        rcases o_cond h101 with ⟨hb, h101⟩ | ⟨hb, h101⟩
        · refine r_cond_t hb (by kernel_rfl) ?_
          refine pwp_seq (r_reg ?_)
          refine p_run 2 (by kernel_rfl) ?_
          refine p_mset (m := (x76 : (List (ByteArray × Bool)))) (k := r101) (v := true) 41 (by kernel_rfl) (by kernel_rfl) (by kernel_rfl) ?_
          refine e_nil (by kernel_rfl) ?_
          refine q_next (r_reg ?_)
          refine p_run 3 (by kernel_rfl) ?_
          obtain ⟨x103, h108, h101⟩ := o_bind h101
          refine p_app (tk := 100014) h108 (by kernel_rfl) (by kernel_rfl) ?_
          refine e_end (by kernel_rfl) ?_
          refine q_block ?_
          cases h101
          exact q_join (by kernel_rfl) (by kernel_rfl)
        refine r_cond_f hb (by kernel_rfl) ?_
        refine pwp_skip (q_block ?_)
        cases h101
        exact q_join (by kernel_rfl) (by kernel_rfl)
      rintro ⟨x97, x98⟩ rfl
      have h92 := o_outl h92
      refine r_reg ?_
      refine e_end (by kernel_rfl) ?_
      cases h92
      exact q_lback (by kernel_rfl)
    refine r_cond_f hb (by kernel_rfl) ?_
    refine pwp_exit (q_seq_exit ?_)
    cases h92
    exact q_lexit (by kernel_rfl) (by kernel_rfl)
  rintro ⟨x90, x91⟩ s' rfl hs
  have h := o_outl h
  refine q_block_hit ?_
  refine q_next (pwp_wkr hs ?_)
  refine pwp_seq (pwp_seq (r_reg ?_))
  refine p_run 1 (by kernel_rfl) ?_
  refine p_len (L := (x90 : (List R_api_Expr))) (by kernel_rfl) ?_
  refine e_end (by kernel_rfl) ?_
  refine q_next (pwp_block ?_)
  obtain ⟨o124, h124, h⟩ := o_inl h
  refine r_loop2 108 4 (fun x110 => ⟨[(1, .int .i64 a1), (2, .int .i64 a2), (3, .int .i64 a3), (8, .ref 8 0), (13, .mp 41), (14, lstOf (.own 100014) (x90 : (List R_api_Expr))), (73, lstOf (.own 100014) (x90 : (List R_api_Expr))), (74, .int .i64 ((x90.length : Nat) : Int)), (75, .int .i64 x110)], [(8, .cells ([.int .i64 0, .int .i64 0, .nil])), (41, .map (mpOf (x91 : (List (ByteArray × Bool)))))], [(100014, (((x90).map cellsOf).length, 3))], []⟩) (fun (_ : Unit) => ⟨[(1, .int .i64 a1), (2, .int .i64 a2), (8, .ref 8 0), (14, lstOf (.own 100014) (x90 : (List R_api_Expr)))], [(8, .cells ([.int .i64 0, .int .i64 0, .nil]))], [(100014, (((x90).map cellsOf).length, 3))], []⟩) h124 (by kernel_rfl) (fun _ => by kernel_rfl) ?_ ?_
  · rintro x110 oh123 h123
    unfold d_expr_combine_2 at h123
    refine pwp_seq (r_reg ?_)
    refine e_end (by kernel_rfl) ?_
    refine q_next (pwp_seq ?_)
    rcases o_cond h123 with ⟨hb, h123⟩ | ⟨hb, h123⟩
    · refine r_cond_t hb (by kernel_rfl) ?_
      refine pwp_skip (q_next (pwp_seq (pwp_block (pwp_seq (r_reg ?_)))))
      obtain ⟨x117, h125, h123⟩ := o_bind h123
      obtain ⟨x118, h126, h123⟩ := o_bind h123
      rw [dec_T_api_Expr_eq h126] at h125
      refine p_ix h125 (by kernel_rfl) ?_
      refine e_end (by kernel_rfl) ?_
      refine q_next (pwp_seq (r_reg ?_))
      obtain ⟨b119, h127, h123⟩ := o_bind h123
      refine p_run 4 (by kernel_rfl) ?_
      refine e_seg 8 90 (.bool b119) ?_ ?_
      · rcases o_cond h127 with ⟨hb, h127⟩ | ⟨hb, h127⟩
        · refine p_settle 82 hb (by kernel_rfl) (by kernel_rfl) ?_
          refine p_run 3 (by kernel_rfl) ?_
          obtain ⟨x120, h128, h127⟩ := o_bind h127
          obtain ⟨x121, h129, h127⟩ := o_bind h127
          rw [dec_T_api_Expr_eq h129] at h128
          refine p_ix h128 (by kernel_rfl) ?_
          refine p_run 1 (by kernel_rfl) ?_
          obtain ⟨r122, h130, h127⟩ := o_bind h127
          refine p_call (d_expr_key_ok _ r122 h130) (by kernel_rfl) (by kernel_rfl) ?_
          refine p_lookup (m := (x91 : (List (ByteArray × Bool)))) (k := r122) false 41 (by kernel_rfl) (by kernel_rfl) ?_
          cases h127
          exact f_end (by kernel_rfl) (by kernel_rfl)
        refine p_settle 82 hb (by kernel_rfl) (by kernel_rfl) ?_
        cases h127
        exact f_end (by kernel_rfl) (by kernel_rfl)
      refine e_nil (by kernel_rfl) ?_
      refine q_next ?_
      rcases o_cond h123 with ⟨hb, h123⟩ | ⟨hb, h123⟩
      · refine r_cond_t hb (by kernel_rfl) ?_
        refine pwp_seq (r_reg ?_)
        refine e_end (by kernel_rfl) ?_
        refine q_next (pwp_ret (q_block_ret (q_seq_ret ?_)))
        cases h123
        refine q_lout_ret fun he => ?_
        subst he
        have h131 := o_outr h
        refine q_block_ret (q_seq_ret ?_)
        cases h131
        exact q_ret (by kernel_rfl) (by kernel_rfl) (by kernel_rfl)
      refine r_cond_f hb (by kernel_rfl) ?_
      refine pwp_skip (q_block (q_next (r_reg ?_)))
      refine e_end (by kernel_rfl) ?_
      cases h123
      exact q_lback (by kernel_rfl)
    refine r_cond_f hb (by kernel_rfl) ?_
    refine pwp_exit (q_seq_exit ?_)
    cases h123
    exact q_lexit (by kernel_rfl) (by kernel_rfl)
  rintro _ s' rfl hs
  have h := o_outl h
  refine q_block_hit ?_
  refine q_next (pwp_wkr hs ?_)
  refine pwp_seq (pwp_seq (r_reg ?_))
  refine p_run 1 (by kernel_rfl) ?_
  refine p_len (L := (x90 : (List R_api_Expr))) (by kernel_rfl) ?_
  refine e_nil (by kernel_rfl) ?_
  refine q_next (pwp_block (pwp_seq (r_reg ?_)))
  refine e_end (by kernel_rfl) ?_
  refine q_next ?_
  rcases o_cond h with ⟨hb, h⟩ | ⟨hb, h⟩
  · refine r_cond_t hb (by kernel_rfl) ?_
    refine pwp_seq (r_reg ?_)
    refine e_end (by kernel_rfl) ?_
    refine q_next (pwp_ret (q_block_ret (q_seq_ret ?_)))
    cases h
    exact q_ret (by kernel_rfl) (by kernel_rfl) (by kernel_rfl)
  refine r_cond_f hb (by kernel_rfl) ?_
  refine pwp_seq (r_reg ?_)
  refine e_end (by kernel_rfl) ?_
  refine q_next ?_
  rcases o_cond h with ⟨hb, h⟩ | ⟨hb, h⟩
  · refine r_cond_t hb (by kernel_rfl) ?_
    refine pwp_seq (r_reg ?_)
    refine p_run 1 (by kernel_rfl) ?_
    obtain ⟨x123, h132, h⟩ := o_bind h
    obtain ⟨x124, h133, h⟩ := o_bind h
    rw [dec_T_api_Expr_eq h133] at h132
    refine p_ix h132 (by kernel_rfl) ?_
    refine e_end (by kernel_rfl) ?_
    refine q_next (pwp_ret (q_block_ret (q_seq_ret ?_)))
    cases h
    exact q_ret (by kernel_rfl) (by kernel_rfl) (by kernel_rfl)
  refine r_cond_f hb (by kernel_rfl) ?_
  refine pwp_skip (q_block (q_next (pwp_seq (r_reg ?_))))
  refine e_end (by kernel_rfl) ?_
  refine q_next (pwp_ret ?_)
  cases h
  exact q_ret (by kernel_rfl) (by kernel_rfl) (by kernel_rfl)

/-! expr.simplify -/
noncomputable def d_expr_simplify_F (rc_d_expr_simplify : T_api_Expr → Option T_api_Expr) (a0 : T_api_Expr) : Option T_api_Expr :=
  bif decide (a0.Op = 4) then (
    (ixO a0.Args 0).bind fun x1 =>
    (dec_T_api_Expr x1).bind fun x2 =>
    (rc_d_expr_simplify x2).bind fun r3 =>
    (d_expr_negate r3).bind fun r4 =>
    some r4
  ) else (
    bif decide (a0.Op = 5) then (
      (d_expr_combine rc_d_expr_simplify a0.Args 5 2 1).bind fun r5 =>
      some r5
    ) else (
      bif decide (a0.Op = 6) then (
        (d_expr_combine rc_d_expr_simplify a0.Args 6 1 2).bind fun r6 =>
        some r6
      ) else (
        some (T_api_Expr.mk a0.Op a0.Var [])
      )
    )
  )
theorem d_expr_simplify_F_ok (rc_d_expr_simplify : T_api_Expr → Option T_api_Expr) (hrc_d_expr_simplify : ∀ (a0 : T_api_Expr) (r : T_api_Expr), rc_d_expr_simplify a0 = some r → PCall Go.Proofs.Tryd.prog GlS 35 [Enc.pv a0] (Enc.pv r)) (a0 : T_api_Expr) (r : T_api_Expr) (h : d_expr_simplify_F rc_d_expr_simplify a0 = some r) : PCall Go.Proofs.Tryd.prog GlS 35 [Enc.pv a0] (Enc.pv r) := by
  unfold d_expr_simplify_F at h
  refine pcall_of_pwp Go.Proofs.Tryd.func35 (by rfl) rfl Go.Proofs.Tryd.ntmps35 (by rfl) rfl ?_
  refine pwp_seq (r_reg ?_)
  refine e_end (by kernel_rfl) ?_
  refine q_next (pwp_seq (pwp_seq (r_reg ?_)))
  refine e_end (by kernel_rfl) ?_
  refine q_next (pwp_block (pwp_seq (r_reg ?_)))
  refine e_end (by kernel_rfl) ?_
  refine q_next ?_
  rcases o_cond h with ⟨hb, h⟩ | ⟨hb, h⟩
  · refine r_cond_t hb (by kernel_rfl) ?_
    refine pwp_seq (r_reg ?_)
    refine p_run 2 (by kernel_rfl) ?_
    obtain ⟨x1, h1, h⟩ := o_bind h
    obtain ⟨x2, h2, h⟩ := o_bind h
    rw [dec_T_api_Expr_eq h2] at h1
    refine p_ix h1 (by kernel_rfl) ?_
    refine p_run 1 (by kernel_rfl) ?_
    obtain ⟨r3, h3, h⟩ := o_bind h
    refine p_call (hrc_d_expr_simplify _ r3 h3) (by kernel_rfl) (by kernel_rfl) ?_
    obtain ⟨r4, h4, h⟩ := o_bind h
    refine p_call (d_expr_negate_ok _ r4 h4) (by kernel_rfl) (by kernel_rfl) ?_
    refine e_end (by kernel_rfl) ?_
    refine q_next (pwp_ret (q_block_ret (q_seq_ret ?_)))
    cases h
    exact q_ret (by kernel_rfl) (by kernel_rfl) (by kernel_rfl)
  refine r_cond_f hb (by kernel_rfl) ?_
  refine pwp_seq (r_reg ?_)
  refine e_end (by kernel_rfl) ?_
  refine q_next ?_
  rcases o_cond h with ⟨hb, h⟩ | ⟨hb, h⟩
  · refine r_cond_t hb (by kernel_rfl) ?_
    refine pwp_seq (r_reg ?_)
    refine p_run 2 (by kernel_rfl) ?_
    obtain ⟨r5, h5, h⟩ := o_bind h
    refine p_call (d_expr_combine_ok rc_d_expr_simplify hrc_d_expr_simplify _ _ _ _ r5 h5) (by kernel_rfl) (by kernel_rfl) ?_
    refine e_end (by kernel_rfl) ?_
    refine q_next (pwp_ret (q_block_ret (q_seq_ret ?_)))
    cases h
    exact q_ret (by kernel_rfl) (by kernel_rfl) (by kernel_rfl)
  refine r_cond_f hb (by kernel_rfl) ?_
  refine pwp_seq (r_reg ?_)
  refine e_end (by kernel_rfl) ?_
  refine q_next ?_
  rcases o_cond h with ⟨hb, h⟩ | ⟨hb, h⟩
  · refine r_cond_t hb (by kernel_rfl) ?_
    refine pwp_seq (r_reg ?_)
    refine p_run 2 (by kernel_rfl) ?_
    obtain ⟨r6, h6, h⟩ := o_bind h
    refine p_call (d_expr_combine_ok rc_d_expr_simplify hrc_d_expr_simplify _ _ _ _ r6 h6) (by kernel_rfl) (by kernel_rfl) ?_
    refine e_end (by kernel_rfl) ?_
    refine q_next (pwp_ret (q_block_ret (q_seq_ret ?_)))
    cases h
    exact q_ret (by kernel_rfl) (by kernel_rfl) (by kernel_rfl)
  refine r_cond_f hb (by kernel_rfl) ?_
  refine pwp_skip (q_block (q_next (pwp_seq (r_reg ?_))))
  refine e_end (by kernel_rfl) ?_
  refine q_next (pwp_ret ?_)
  cases h
  exact q_ret (by kernel_rfl) (by kernel_rfl) (by kernel_rfl)
noncomputable def d_expr_simplify_N (n : Nat) : T_api_Expr → Option T_api_Expr := Nat.rec (fun _ => none) (fun _ ih => d_expr_simplify_F ih) n
theorem d_expr_simplify_N_ok : ∀ (n : Nat) (a0 : T_api_Expr) (r : T_api_Expr), d_expr_simplify_N n a0 = some r → PCall Go.Proofs.Tryd.prog GlS 35 [Enc.pv a0] (Enc.pv r)
  | 0, _, _, h => by cases h
  | n + 1, a0, r, h => d_expr_simplify_F_ok (d_expr_simplify_N n) (d_expr_simplify_N_ok n) a0 r h
noncomputable def d_expr_simplify (a0 : T_api_Expr) : Option T_api_Expr := d_expr_simplify_F (d_expr_simplify_N recFuel) a0
theorem d_expr_simplify_ok (a0 : T_api_Expr) (r : T_api_Expr) (h : d_expr_simplify a0 = some r) : PCall Go.Proofs.Tryd.prog GlS 35 [Enc.pv a0] (Enc.pv r) := d_expr_simplify_F_ok (d_expr_simplify_N recFuel) (d_expr_simplify_N_ok recFuel) a0 r h

/-! expr.Simplify -/
noncomputable def d_expr_Simplify (a0 : T_api_Expr) : Option T_api_Expr :=
  (d_expr_Valid a0 1073741824).bind fun r1 =>
  bif (!r1) then (
    (d_expr_clone a0).bind fun r2 =>
    some r2
  ) else (
    (d_expr_simplify a0).bind fun r3 =>
    some r3
  )
theorem d_expr_Simplify_ok (a0 : T_api_Expr) (r : T_api_Expr) (h : d_expr_Simplify a0 = some r) : PCall Go.Proofs.Tryd.prog GlS 17 [Enc.pv a0] (Enc.pv r) := by
  unfold d_expr_Simplify at h
  refine pcall_of_pwp Go.Proofs.Tryd.func17 (by rfl) rfl Go.Proofs.Tryd.ntmps17 (by rfl) rfl ?_
  refine pwp_seq (r_reg ?_)
  refine e_end (by kernel_rfl) ?_
  refine q_next (pwp_seq (pwp_seq (r_reg ?_)))
  refine p_run 1 (by kernel_rfl) ?_
  obtain ⟨r1, h1, h⟩ := o_bind h
  refine p_call (d_expr_Valid_ok _ _ r1 h1) (by kernel_rfl) (by kernel_rfl) ?_
  refine e_end (by kernel_rfl) ?_
  refine q_next ?_
  rcases o_cond h with ⟨hb, h⟩ | ⟨hb, h⟩
  · refine r_cond_t hb (by kernel_rfl) ?_
    refine pwp_seq (r_reg ?_)
    refine p_run 1 (by kernel_rfl) ?_
    obtain ⟨r2, h2, h⟩ := o_bind h
    refine p_call (d_expr_clone_ok _ r2 h2) (by kernel_rfl) (by kernel_rfl) ?_
    refine e_end (by kernel_rfl) ?_
    refine q_next (pwp_ret (q_seq_ret ?_))
    cases h
    exact q_ret (by kernel_rfl) (by kernel_rfl) (by kernel_rfl)
  refine r_cond_f hb (by kernel_rfl) ?_
  refine pwp_skip (q_next (pwp_seq (r_reg ?_)))
  refine p_run 1 (by kernel_rfl) ?_
  obtain ⟨r3, h3, h⟩ := o_bind h
  refine p_call (d_expr_simplify_ok _ r3 h3) (by kernel_rfl) (by kernel_rfl) ?_
  refine e_end (by kernel_rfl) ?_
  refine q_next (pwp_ret ?_)
  cases h
  exact q_ret (by kernel_rfl) (by kernel_rfl) (by kernel_rfl)

/-! expr.collect -/
noncomputable def d_expr_collect_0 (rc_d_expr_collect : T_api_Expr → (List (Int × Bool)) → Option (List (Int × Bool))) (a0 : T_api_Expr) : (Int × (List (Int × Bool))) → Option ((Int × (List (Int × Bool))) ⊕ ((List (Int × Bool)) ⊕ (List (Int × Bool)))) := fun (x5, x6) =>
  bif decide (x5 < ((a0.Args.length : Nat) : Int)) then (
    (ixO a0.Args x5).bind fun x11 =>
    (dec_T_api_Expr x11).bind fun x12 =>
    (rc_d_expr_collect x12 x6).bind fun r13 =>
    some (.inl (w64 (x5 + 1), r13))
  ) else (
    some (.inr (.inl x6))
  )

noncomputable def d_expr_collect_F (rc_d_expr_collect : T_api_Expr → (List (Int × Bool)) → Option (List (Int × Bool))) (a0 : T_api_Expr) (a1 : (List (Int × Bool))) : Option (List (Int × Bool)) :=
  onInl (α := (List (Int × Bool))) (β := (List (Int × Bool))) (
    bif decide (a0.Op = 3) then (
      some (.inl (mset a0.Var true a1))
    ) else (
      some (.inl a1)
    )
  ) fun x1 =>
  onInl (α := (List (Int × Bool))) (β := (List (Int × Bool))) (loopO (d_expr_collect_0 rc_d_expr_collect a0) (0, x1)) fun x10 =>
  some x10
theorem d_expr_collect_F_oc (rc_d_expr_collect : T_api_Expr → (List (Int × Bool)) → Option (List (Int × Bool))) (hrc_d_expr_collect : ∀ (a0 : T_api_Expr) (a1 : (List (Int × Bool))) (r : (List (Int × Bool))), rc_d_expr_collect a0 a1 = some r → OCall Go.Proofs.Tryd.prog GlS 31 (some (.map (mpOf (a1 : (List (Int × Bool)))))) [] [.cptr (cellsOf a0), .mp 1000000] (.tup []) (some (.map (mpOf (r : (List (Int × Bool)))))) []) (a0 : T_api_Expr) (a1 : (List (Int × Bool))) (r : (List (Int × Bool))) (h : d_expr_collect_F rc_d_expr_collect a0 a1 = some r) : OCall Go.Proofs.Tryd.prog GlS 31 (some (.map (mpOf (a1 : (List (Int × Bool)))))) [] [.cptr (cellsOf a0), .mp 1000000] (.tup []) (some (.map (mpOf (r : (List (Int × Bool)))))) [] := by
  unfold d_expr_collect_F at h
  refine ocall_of_pwp Go.Proofs.Tryd.func31 (by rfl) rfl Go.Proofs.Tryd.ntmps31 (by rfl) rfl rfl (of_decide_eq_true rfl) (by kernel_rfl) ?_
  obtain ⟨o1, h1, h⟩ := o_inl h
  refine r_join (o := o1) 32 (fun x1 => ⟨[(0, .cptr (cellsOf a0)), (1, .mp 1000000)], [(1000000, .map (mpOf (x1 : (List (Int × Bool)))))], [], []⟩) ?_ ?_
  · refine pwp_seq (r_reg ?_)
    refine e_end (by kernel_rfl) ?_
    refine q_next ?_
    rcases o_cond h1 with ⟨hb, h1⟩ | ⟨hb, h1⟩
    · refine r_cond_t hb (by kernel_rfl) ?_
      refine r_reg ?_
      refine p_run 5 (by kernel_rfl) ?_
      refine p_mset (m := (a1 : (List (Int × Bool)))) (k := a0.Var) (v := true) 1000000 (by kernel_rfl) (by kernel_rfl) (by kernel_rfl) ?_
      refine e_nil (by kernel_rfl) ?_
      cases h1
      exact q_join (by kernel_rfl) (by kernel_rfl)
    refine r_cond_f hb (by kernel_rfl) ?_
    refine pwp_skip ?_
    cases h1
    exact q_join (by kernel_rfl) (by kernel_rfl)
  rintro x1 rfl
  have h := o_outl h
  refine pwp_seq (r_reg ?_)
  refine p_run 4 (by kernel_rfl) ?_
  refine p_len (L := (a0.Args : (List R_api_Expr))) (by kernel_rfl) ?_
  refine e_end (by kernel_rfl) ?_
  refine q_next (pwp_block ?_)
  obtain ⟨o9, h9, h⟩ := o_inl h
  refine r_loop2 32 0 (fun (x5, x6) => ⟨[(0, .cptr (cellsOf a0)), (1, .mp 1000000), (19, .int .i64 ((a0.Args.length : Nat) : Int)), (20, .int .i64 x5)], [(1000000, .map (mpOf (x6 : (List (Int × Bool)))))], [], []⟩) (fun x10 => ⟨[], [(1000000, .map (mpOf (x10 : (List (Int × Bool)))))], [], []⟩) h9 (by kernel_rfl) (fun _ => by kernel_rfl) ?_ ?_
  · rintro ⟨x5, x6⟩ oh8 h8
    unfold d_expr_collect_0 at h8
    refine pwp_seq (r_reg ?_)
    refine e_end (by kernel_rfl) ?_
    refine q_next (pwp_seq ?_)
    rcases o_cond h8 with ⟨hb, h8⟩ | ⟨hb, h8⟩
    · refine r_cond_t hb (by kernel_rfl) ?_
      refine pwp_skip (q_next (pwp_seq (pwp_block (pwp_seq (r_reg ?_)))))
      refine e_end (by kernel_rfl) ?_
      refine q_next (r_reg ?_)
      refine p_run 5 (by kernel_rfl) ?_
      obtain ⟨x11, h10, h8⟩ := o_bind h8
      obtain ⟨x12, h11, h8⟩ := o_bind h8
      rw [dec_T_api_Expr_eq h11] at h10
      refine p_ix h10 (by kernel_rfl) ?_
      refine p_run 1 (by kernel_rfl) ?_
      obtain ⟨r13, h12, h8⟩ := o_bind h8
      refine p_ocall (some 1000000) [] [] none (hrc_d_expr_collect _ _ r13 h12) (by kernel_rfl) (by kernel_rfl) (by kernel_rfl) (by kernel_rfl) (by kernel_rfl) ?_
      refine e_nil (by kernel_rfl) ?_
      refine q_block (q_next (r_reg ?_))
      refine e_end (by kernel_rfl) ?_
      cases h8
      exact q_lback (by kernel_rfl)
    refine r_cond_f hb (by kernel_rfl) ?_
    refine pwp_exit (q_seq_exit ?_)
    cases h8
    exact q_lexit (by kernel_rfl) (by kernel_rfl)
  rintro x10 s' rfl hs
  have h := o_outl h
  refine q_block_hit ?_
  cases h
  exact q_oret_w hs (by kernel_rfl) (by kernel_rfl) (by kernel_rfl)
noncomputable def d_expr_collect_N (n : Nat) : T_api_Expr → (List (Int × Bool)) → Option (List (Int × Bool)) := Nat.rec (fun _ _ => none) (fun _ ih => d_expr_collect_F ih) n
theorem d_expr_collect_N_oc : ∀ (n : Nat) (a0 : T_api_Expr) (a1 : (List (Int × Bool))) (r : (List (Int × Bool))), d_expr_collect_N n a0 a1 = some r → OCall Go.Proofs.Tryd.prog GlS 31 (some (.map (mpOf (a1 : (List (Int × Bool)))))) [] [.cptr (cellsOf a0), .mp 1000000] (.tup []) (some (.map (mpOf (r : (List (Int × Bool)))))) []
  | 0, _, _, _, h => by cases h
  | n + 1, a0, a1, r, h => d_expr_collect_F_oc (d_expr_collect_N n) (d_expr_collect_N_oc n) a0 a1 r h
noncomputable def d_expr_collect (a0 : T_api_Expr) (a1 : (List (Int × Bool))) : Option (List (Int × Bool)) := d_expr_collect_F (d_expr_collect_N recFuel) a0 a1
theorem d_expr_collect_oc (a0 : T_api_Expr) (a1 : (List (Int × Bool))) (r : (List (Int × Bool))) (h : d_expr_collect a0 a1 = some r) : OCall Go.Proofs.Tryd.prog GlS 31 (some (.map (mpOf (a1 : (List (Int × Bool)))))) [] [.cptr (cellsOf a0), .mp 1000000] (.tup []) (some (.map (mpOf (r : (List (Int × Bool)))))) [] := d_expr_collect_F_oc (d_expr_collect_N recFuel) (d_expr_collect_N_oc recFuel) a0 a1 r h

/-! slices.Sort[[]int,int] (the shelf's contract) -/
noncomputable def d_slices_Sort_int (a0 : (List Int)) : Option (List Int) := some (a0.mergeSort fun x y => decide (x ≤ y))
theorem d_slices_Sort_int_xc (a0 : (List Int)) (r : (List Int)) (h : d_slices_Sort_int a0 = some r) : XCall Go.Proofs.Tryd.prog GlS 32 1 8 (a0.map cellsOf) [] none (r.map cellsOf) := by
  cases h
  exact xcall_sortI Go.Proofs.Tryd.sort32 ⟨_, Go.Proofs.Tryd.func32, rfl, rfl⟩ a0

/-! expr.Vars -/
def insI (x : Int) : List Int → List Int
  | [] => [x]
  | y :: l => if x ≤ y then x :: y :: l else y :: insI x l
def sortI (l : List Int) : List Int := l.foldr insI []
noncomputable def d_expr_Vars (a0 : T_api_Expr) : Option (List Int) := (d_expr_collect a0 []).bind fun m => if m.length ≤ 1000000 then some (sortI (m.map (·.1))) else none
theorem insI_perm (x : Int) : ∀ l : List Int, (insI x l).Perm (x :: l)
  | [] => .refl _
  | y :: l => by
    unfold insI
    split
    · exact .refl _
    · exact ((insI_perm x l).cons y).trans (.swap x y l)
theorem insI_sorted (x : Int) : ∀ {l : List Int}, l.Pairwise (fun a b => a ≤ b) → (insI x l).Pairwise (fun a b => a ≤ b)
  | [], _ => by simp [insI]
  | y :: l, h => by
    unfold insI
    rw [List.pairwise_cons] at h
    split
    · rename_i hxy
      refine List.pairwise_cons.2 ⟨fun z hz => ?_, List.pairwise_cons.2 h⟩
      rcases List.mem_cons.1 hz with rfl | hz
      · exact hxy
      · have := h.1 z hz; omega
    · rename_i hxy
      refine List.pairwise_cons.2 ⟨fun z hz => ?_, insI_sorted x h.2⟩
      rcases List.mem_cons.1 ((insI_perm x l).mem_iff.1 hz) with rfl | hz
      · omega
      · exact h.1 z hz
theorem sortI_perm : ∀ l : List Int, (sortI l).Perm l
  | [] => .refl _
  | x :: l => (insI_perm x _).trans ((sortI_perm l).cons x)
theorem sortI_sorted : ∀ l : List Int, (sortI l).Pairwise (fun a b => a ≤ b)
  | [] => .nil
  | x :: l => insI_sorted x (sortI_sorted l)
theorem perm_erase {α : Type} (ks : List α) : ∀ (left : List Nat) (i : Nat) (x : α), i ∈ left → ks[i]? = some x → (left.filterMap fun j => ks[j]?).Perm (x :: (left.erase i).filterMap fun j => ks[j]?)
  | [], _, _, h, _ => by cases h
  | j :: left, i, x, h, hx => by
    rw [List.erase_cons]
    by_cases e : j = i
    · subst e
      rw [if_pos (by simp), List.filterMap_cons, hx]
    · rw [if_neg (by simpa using e), List.filterMap_cons, List.filterMap_cons]
      have ih := perm_erase ks left i x ((List.mem_cons.1 h).resolve_left fun q => e q.symm) hx
      cases hj : ks[j]? with
      | none => simpa [hj] using ih
      | some y => simpa [hj] using (ih.cons y).trans (.swap x y _)
theorem filterMap_range {α : Type} (ks : List α) : (List.range ks.length).filterMap (fun j => ks[j]?) = ks := by
  induction ks with
  | nil => rfl
  | cons x ks ih =>
    rw [List.length_cons, List.range_succ_eq_map, List.filterMap_cons]
    simp only [List.getElem?_cons_zero, List.filterMap_map]
    congr 1
theorem sort_perm {l l' : List Int} (h : l.Perm l') : l.mergeSort (fun x y => decide (x ≤ y)) = sortI l' := by
  have tr : ∀ a b c : Int, decide (a ≤ b) = true → decide (b ≤ c) = true → decide (a ≤ c) = true := fun a b c h1 h2 => by simp at *; omega
  have tt : ∀ a b : Int, (decide (a ≤ b) || decide (b ≤ a)) = true := fun a b => by simp; omega
  refine List.Perm.eq_of_pairwise (le := fun x y => x ≤ y) (fun a b _ _ h1 h2 => by omega) ((List.pairwise_mergeSort tr tt l).imp fun h => by simpa using h) (sortI_sorted l') ?_
  exact (List.mergeSort_perm l _).trans (h.trans (sortI_perm l').symm)
theorem d_expr_Vars_ok (a0 : T_api_Expr) (r : (List Int)) (h : d_expr_Vars a0 = some r) : PCall Go.Proofs.Tryd.prog GlS 14 [Enc.pv a0] (Enc.pv r) := by
  unfold d_expr_Vars at h
  refine pcall_of_pwp Go.Proofs.Tryd.func14 (by rfl) rfl Go.Proofs.Tryd.ntmps14 (by rfl) rfl ?_
  refine pwp_seq (r_reg ?_)
  refine e_end (by kernel_rfl) ?_
  refine q_next (pwp_seq (r_reg ?_))
  refine e_end (by kernel_rfl) ?_
  refine q_next (pwp_seq ?_)
  refine g_frz 1 [6] (cs := cellsOf a0) (cs' := cellsOf a0) (by kernel_rfl) (by kernel_rfl) (by kernel_rfl) (by kernel_rfl) ?_
  refine r_reg ?_
  refine p_run 1 (by kernel_rfl) ?_
  obtain ⟨m, h1, h⟩ := o_bind h
  obtain ⟨hm, h⟩ : m.length ≤ 1000000 ∧ some (sortI (m.map (·.1))) = some r := by
    split at h
    · rename_i hm; exact ⟨hm, h⟩
    · cases h
  cases h
  refine p_ocall (some 6) [] [] none (d_expr_collect_oc _ _ m h1) (by kernel_rfl) (by kernel_rfl) (by kernel_rfl) (by kernel_rfl) (by kernel_rfl) ?_
  refine e_end (by kernel_rfl) ?_
  refine q_next (pwp_seq (r_reg ?_))
  refine e_end (by kernel_rfl) ?_
  refine q_next (pwp_seq ?_)
  refine g_shm 6 [] (m : (List (Int × Bool))) (by kernel_rfl) (by kernel_rfl) (by kernel_rfl) ?_
  refine pwp_seq (r_reg ?_)
  refine p_run 1 (by kernel_rfl) ?_
  refine p_mrange (ks := m.map fun e => Enc.pv e.1) (vs := m.map fun e => Enc.pv e.2) (l := 10) (by kernel_rfl) ?_
  refine e_nil (by kernel_rfl) ?_
  refine q_next ?_
  refine pwp_wkr (wkr_nilX 4 100004 1 8 (by kernel_rfl) (by kernel_rfl)) ?_
  refine pwp_block ?_
  refine r_loopN (σ := List Nat × List Int × Option Nat) (fun v => ⟨[(4, .ex 100004 1 8 ((v.2.1 : List Int).map cellsOf).length 0 ((v.2.1 : List Int).map cellsOf).length), (10, .ref 10 0)], [(10, .miter (m.map fun e => Enc.pv e.1) (m.map fun e => Enc.pv e.2) v.1 v.2.2)], [(100004, (((v.2.1 : List Int).map cellsOf).length, 0))], [(100004, (1, 8, (v.2.1 : List Int).map cellsOf))]⟩)
    (fun v => (v.2.1 ++ v.1.filterMap fun j => (m.map (·.1))[j]?).Perm (m.map (·.1)) ∧ ∀ i ∈ v.1, i < m.length) (fun v => v.1.length) 22 (List.range (m.map fun e => Enc.pv e.1).length, [], none) ?_ (by kernel_rfl) (fun _ => by kernel_rfl) ?_
  · refine ⟨?_, fun i hi => ?_⟩
    · show ([] ++ (List.range (m.map fun e : Int × Bool => (Enc.pv e.1 : PV)).length).filterMap fun j => (m.map fun e : Int × Bool => e.1)[j]?).Perm (m.map fun e : Int × Bool => e.1)
      rw [List.nil_append, show (m.map fun e : Int × Bool => (Enc.pv e.1 : PV)).length = (m.map fun e : Int × Bool => e.1).length by simp, filterMap_range]
    · have : i < (m.map fun e : Int × Bool => (Enc.pv e.1 : PV)).length := List.mem_range.1 hi
      simpa using this
  · rintro ⟨left, acc, cur⟩ ⟨hG, hlt⟩
    replace hG : (acc ++ left.filterMap fun j => (m.map fun e : Int × Bool => e.1)[j]?).Perm (m.map fun e : Int × Bool => e.1) := hG
    replace hlt : ∀ i ∈ left, i < m.length := hlt
    refine pwp_seq (r_reg ?_)
    refine p_mnext (ks := m.map fun e => Enc.pv e.1) (vs := m.map fun e => Enc.pv e.2) (left := left) (cur := cur) 10 (by kernel_rfl) (by kernel_rfl) ?_ ?_
    · intro e
      subst e
      refine e_end (by kernel_rfl) ?_
      refine q_next (pwp_seq (r_cond_f rfl (by kernel_rfl) ?_))
      refine pwp_exit (q_seq_exit ?_)
      refine q_nexit (q_block_hit ?_)
      rw [List.filterMap_nil, List.append_nil] at hG
      rw [← sort_perm hG]
      refine q_next (pwp_seq (r_reg ?_))
      refine p_run 1 (by kernel_rfl) ?_
      refine p_xcall (t := 100004) (L := (acc : List Int)) (L' := (acc.mergeSort fun x y => decide (x ≤ y) : List Int)) (N := ((acc : List Int).map cellsOf).length) (by kernel_rfl) (by kernel_rfl) (by kernel_rfl) (d_slices_Sort_int_xc acc _ rfl) ?_
      refine e_nil (by kernel_rfl) ?_
      refine q_next (pwp_seq ?_)
      refine pwp_wkr (wkr_share (xss := (acc.mergeSort fun x y => decide (x ≤ y) : List Int).map cellsOf) 100004 1 8 ((acc : List Int).map cellsOf).length [4] [] (by kernel_rfl) (by kernel_rfl) (by kernel_rfl) (by kernel_rfl)) ?_
      refine r_reg ?_
      refine e_end (by kernel_rfl) ?_
      refine q_next (pwp_ret ?_)
      exact q_ret (by kernel_rfl) (by kernel_rfl) (by kernel_rfl)
    · intro i hi
      refine e_end (by kernel_rfl) ?_
      refine q_next (pwp_seq (r_cond_t rfl (by kernel_rfl) ?_))
      refine pwp_skip (q_next (pwp_block (pwp_seq (r_reg ?_))))
      have hil : i < m.length := hlt i hi
      refine p_mentry (ks := m.map fun e => Enc.pv e.1) (vs := m.map fun e => Enc.pv e.2) (left := left.erase i) (i := i) (p := .int .i64 (m[i]).1) 10 (by kernel_rfl) (by rw [List.getElem?_map, List.getElem?_eq_getElem hil]; rfl) rfl (by kernel_rfl) ?_
      refine e_end (by kernel_rfl) ?_
      refine q_next (r_reg ?_)
      refine p_run 3 (by kernel_rfl) ?_
      have hap : appO acc [(m[i]).1] = some (acc ++ [(m[i]).1]) := by
        have h9 := hG.length_eq
        rw [List.length_append, List.length_map] at h9
        unfold appO
        rw [if_pos]
        show (acc.length + 1) * 8 ≤ sizeMax ∧ acc.length + 1 ≤ sizeMax
        unfold sizeMax
        omega
      refine p_xapp (tk := 100004) (N := ((acc : List Int).map cellsOf).length) hap (by kernel_rfl) (by kernel_rfl) (by kernel_rfl) ?_
      refine e_end (by kernel_rfl) ?_
      refine q_block ?_
      refine q_nback (left.erase i, acc ++ [(m[i]).1], some i) ?_ ?_ (by kernel_rfl)
      · refine ⟨?_, fun j hj => hlt j (List.mem_of_mem_erase hj)⟩
        have h9 := perm_erase (m.map fun e : Int × Bool => e.1) left i (m[i]).1 hi (by rw [List.getElem?_map, List.getElem?_eq_getElem hil]; rfl)
        show (acc ++ [(m[i]).1] ++ (left.erase i).filterMap fun j => (m.map fun e : Int × Bool => e.1)[j]?).Perm (m.map fun e : Int × Bool => e.1)
        rw [List.append_assoc]
        exact ((h9.symm.append_left acc)).trans hG
      · show (left.erase i).length < left.length
        rw [List.length_erase_of_mem hi]
        have := List.length_pos_of_mem hi
        omega

/-! expr.Size -/
noncomputable def d_expr_Size_0 (rc_d_expr_Size : T_api_Expr → Option Int) (a0 : T_api_Expr) : (Int × Int) → Option ((Int × Int) ⊕ (Int ⊕ Int)) := fun (x4, x5) =>
  bif decide (x5 < ((a0.Args.length : Nat) : Int)) then (
    (ixO a0.Args x5).bind fun x10 =>
    (dec_T_api_Expr x10).bind fun x11 =>
    (rc_d_expr_Size x11).bind fun r12 =>
    some (.inl (w64 (x4 + r12), w64 (x5 + 1)))
  ) else (
    some (.inr (.inl x4))
  )

noncomputable def d_expr_Size_F (rc_d_expr_Size : T_api_Expr → Option Int) (a0 : T_api_Expr) : Option Int :=
  onInl (α := Int) (β := Int) (loopO (d_expr_Size_0 rc_d_expr_Size a0) (1, 0)) fun x9 =>
  some x9
theorem d_expr_Size_F_ok (rc_d_expr_Size : T_api_Expr → Option Int) (hrc_d_expr_Size : ∀ (a0 : T_api_Expr) (r : Int), rc_d_expr_Size a0 = some r → PCall Go.Proofs.Tryd.prog GlS 22 [Enc.pv a0] (Enc.pv r)) (a0 : T_api_Expr) (r : Int) (h : d_expr_Size_F rc_d_expr_Size a0 = some r) : PCall Go.Proofs.Tryd.prog GlS 22 [Enc.pv a0] (Enc.pv r) := by
  unfold d_expr_Size_F at h
  refine pcall_of_pwp Go.Proofs.Tryd.func22 (by rfl) rfl Go.Proofs.Tryd.ntmps22 (by rfl) rfl ?_
  refine pwp_seq (r_reg ?_)
  refine e_end (by kernel_rfl) ?_
  refine q_next (pwp_seq (r_reg ?_))
  refine e_end (by kernel_rfl) ?_
  refine q_next (pwp_seq (pwp_seq (r_reg ?_)))
  refine p_run 2 (by kernel_rfl) ?_
  refine p_len (L := (a0.Args : (List R_api_Expr))) (by kernel_rfl) ?_
  refine e_end (by kernel_rfl) ?_
  refine q_next (pwp_block ?_)
  obtain ⟨o8, h8, h⟩ := o_inl h
  refine r_loop2 19 0 (fun (x4, x5) => ⟨[(3, .int .i64 x4), (7, lstOf .frozen (a0.Args : (List R_api_Expr))), (8, .int .i64 ((a0.Args.length : Nat) : Int)), (9, .int .i64 x5)], [], [], []⟩) (fun x9 => ⟨[(3, .int .i64 x9)], [], [], []⟩) h8 (by kernel_rfl) (fun _ => by kernel_rfl) ?_ ?_
  · rintro ⟨x4, x5⟩ oh7 h7
    unfold d_expr_Size_0 at h7
    refine pwp_seq (r_reg ?_)
    refine e_end (by kernel_rfl) ?_
    refine q_next (pwp_seq ?_)
    rcases o_cond h7 with ⟨hb, h7⟩ | ⟨hb, h7⟩
    · refine r_cond_t hb (by kernel_rfl) ?_
      refine pwp_skip (q_next (pwp_seq (pwp_block (pwp_seq (r_reg ?_)))))
      obtain ⟨x10, h9, h7⟩ := o_bind h7
      obtain ⟨x11, h10, h7⟩ := o_bind h7
      rw [dec_T_api_Expr_eq h10] at h9
      refine p_ix h9 (by kernel_rfl) ?_
      refine e_end (by kernel_rfl) ?_
      refine q_next (r_reg ?_)
      refine p_run 2 (by kernel_rfl) ?_
      obtain ⟨r12, h11, h7⟩ := o_bind h7
      refine p_call (hrc_d_expr_Size _ r12 h11) (by kernel_rfl) (by kernel_rfl) ?_
      refine e_end (by kernel_rfl) ?_
      refine q_block (q_next (r_reg ?_))
      refine e_end (by kernel_rfl) ?_
      cases h7
      exact q_lback (by kernel_rfl)
    refine r_cond_f hb (by kernel_rfl) ?_
    refine pwp_exit (q_seq_exit ?_)
    cases h7
    exact q_lexit (by kernel_rfl) (by kernel_rfl)
  rintro x9 s' rfl hs
  have h := o_outl h
  refine q_block_hit ?_
  refine q_next (pwp_wkr hs ?_)
  refine pwp_seq (r_reg ?_)
  refine e_end (by kernel_rfl) ?_
  refine q_next (pwp_ret ?_)
  cases h
  exact q_ret (by kernel_rfl) (by kernel_rfl) (by kernel_rfl)
noncomputable def d_expr_Size_N (n : Nat) : T_api_Expr → Option Int := Nat.rec (fun _ => none) (fun _ ih => d_expr_Size_F ih) n
theorem d_expr_Size_N_ok : ∀ (n : Nat) (a0 : T_api_Expr) (r : Int), d_expr_Size_N n a0 = some r → PCall Go.Proofs.Tryd.prog GlS 22 [Enc.pv a0] (Enc.pv r)
  | 0, _, _, h => by cases h
  | n + 1, a0, r, h => d_expr_Size_F_ok (d_expr_Size_N n) (d_expr_Size_N_ok n) a0 r h
noncomputable def d_expr_Size (a0 : T_api_Expr) : Option Int := d_expr_Size_F (d_expr_Size_N recFuel) a0
theorem d_expr_Size_ok (a0 : T_api_Expr) (r : Int) (h : d_expr_Size a0 = some r) : PCall Go.Proofs.Tryd.prog GlS 22 [Enc.pv a0] (Enc.pv r) := d_expr_Size_F_ok (d_expr_Size_N recFuel) (d_expr_Size_N_ok recFuel) a0 r h

/-! expr.nodeOf -/
noncomputable def d_expr_nodeOf (a0 : T_api_Expr) : Option (Nat × T_api_Expr) :=
  onInl (α := Unit) (β := (Nat × T_api_Expr)) (
    bif decide (a0.Op = 3) then (
      some (.inr (56, a0))
    ) else (
      bif decide (a0.Op = 4) then (
        bif decide (0 < ((a0.Args.length : Nat) : Int)) then (
          some (.inr (57, a0))
        ) else (
          some (.inl ())
        )
      ) else (
        bif decide (a0.Op = 5) then (
          some (.inr (58, a0))
        ) else (
          bif decide (a0.Op = 6) then (
            some (.inr (59, a0))
          ) else (
            some (.inl ())
          )
        )
      )
    )
  ) fun _ =>
  some (65, a0)
theorem d_expr_nodeOf_ok (a0 : T_api_Expr) (r : (Nat × T_api_Expr)) (h : d_expr_nodeOf a0 = some r) : PCall Go.Proofs.Tryd.prog GlS 41 [.cptr (cellsOf a0)] (.ifp r.1 [.cptr (cellsOf r.2)]) := by
  unfold d_expr_nodeOf at h
  refine pcall_of_pwp Go.Proofs.Tryd.func41 (by rfl) rfl Go.Proofs.Tryd.ntmps41 (by rfl) rfl ?_
  refine pwp_seq (r_reg ?_)
  refine e_end (by kernel_rfl) ?_
  refine q_next ?_
  obtain ⟨o5, h5, h⟩ := o_inl h
  refine r_join (o := o5) 36 (fun (_ : Unit) => ⟨[(0, .cptr (cellsOf a0))], [], [], []⟩) ?_ ?_
  · refine pwp_seq (r_reg ?_)
    refine e_end (by kernel_rfl) ?_
    refine q_next (pwp_block (pwp_seq (r_reg ?_)))
    refine e_end (by kernel_rfl) ?_
    refine q_next ?_
    rcases o_cond h5 with ⟨hb, h5⟩ | ⟨hb, h5⟩
    · refine r_cond_t hb (by kernel_rfl) ?_
      refine pwp_seq (r_reg ?_)
      refine p_run 2 (by kernel_rfl) ?_
      refine p_mki (t := 56) (cs := [.cptr (cellsOf a0)]) (by kernel_rfl) ?_
      refine e_end (by kernel_rfl) ?_
      refine q_next (pwp_ret (q_block_ret ?_))
      cases h5
      refine q_jout_ret ?_
      have h6 := o_outr h
      cases h6
      exact q_ret (by kernel_rfl) (by kernel_rfl) (by kernel_rfl)
    refine r_cond_f hb (by kernel_rfl) ?_
    refine pwp_seq (r_reg ?_)
    refine e_end (by kernel_rfl) ?_
    refine q_next ?_
    rcases o_cond h5 with ⟨hb, h5⟩ | ⟨hb, h5⟩
    · refine r_cond_t hb (by kernel_rfl) ?_
      refine pwp_seq (r_reg ?_)
      refine p_run 4 (by kernel_rfl) ?_
      refine p_len (L := (a0.Args : (List R_api_Expr))) (by kernel_rfl) ?_
      refine e_end (by kernel_rfl) ?_
      refine q_next ?_
      rcases o_cond h5 with ⟨hb, h5⟩ | ⟨hb, h5⟩
      · refine r_cond_t hb (by kernel_rfl) ?_
        refine pwp_seq (r_reg ?_)
        refine p_run 2 (by kernel_rfl) ?_
        refine p_mki (t := 57) (cs := [.cptr (cellsOf a0)]) (by kernel_rfl) ?_
        refine e_end (by kernel_rfl) ?_
        refine q_next (pwp_ret (q_block_ret ?_))
        cases h5
        refine q_jout_ret ?_
        have h7 := o_outr h
        cases h7
        exact q_ret (by kernel_rfl) (by kernel_rfl) (by kernel_rfl)
      refine r_cond_f hb (by kernel_rfl) ?_
      refine pwp_skip (q_block ?_)
      cases h5
      exact q_join (by kernel_rfl) (by kernel_rfl)
    refine r_cond_f hb (by kernel_rfl) ?_
    refine pwp_seq (r_reg ?_)
    refine e_end (by kernel_rfl) ?_
    refine q_next ?_
    rcases o_cond h5 with ⟨hb, h5⟩ | ⟨hb, h5⟩
    · refine r_cond_t hb (by kernel_rfl) ?_
      refine pwp_seq (r_reg ?_)
      refine p_run 2 (by kernel_rfl) ?_
      refine p_mki (t := 58) (cs := [.cptr (cellsOf a0)]) (by kernel_rfl) ?_
      refine e_end (by kernel_rfl) ?_
      refine q_next (pwp_ret (q_block_ret ?_))
      cases h5
      refine q_jout_ret ?_
      have h8 := o_outr h
      cases h8
      exact q_ret (by kernel_rfl) (by kernel_rfl) (by kernel_rfl)
    refine r_cond_f hb (by kernel_rfl) ?_
    refine pwp_seq (r_reg ?_)
    refine e_end (by kernel_rfl) ?_
    refine q_next ?_
    rcases o_cond h5 with ⟨hb, h5⟩ | ⟨hb, h5⟩
    · refine r_cond_t hb (by kernel_rfl) ?_
      refine pwp_seq (r_reg ?_)
      refine p_run 2 (by kernel_rfl) ?_
      refine p_mki (t := 59) (cs := [.cptr (cellsOf a0)]) (by kernel_rfl) ?_
      refine e_end (by kernel_rfl) ?_
      refine q_next (pwp_ret (q_block_ret ?_))
      cases h5
      refine q_jout_ret ?_
      have h9 := o_outr h
      cases h9
      exact q_ret (by kernel_rfl) (by kernel_rfl) (by kernel_rfl)
    refine r_cond_f hb (by kernel_rfl) ?_
    refine pwp_skip (q_block ?_)
    cases h5
    exact q_join (by kernel_rfl) (by kernel_rfl)
  rintro _ rfl
  have h := o_outl h
  refine pwp_seq (r_reg ?_)
  refine p_run 2 (by kernel_rfl) ?_
  refine p_mki (t := 65) (cs := [.cptr (cellsOf a0)]) (by kernel_rfl) ?_
  refine e_end (by kernel_rfl) ?_
  refine q_next (pwp_ret ?_)
  cases h
  exact q_ret (by kernel_rfl) (by kernel_rfl) (by kernel_rfl)

/-! expr.eval -/
noncomputable def d_expr_eval_0 (rc_d_expr_eval : T_api_Expr → (List Bool) → Option Bool) (a1 : (List Bool)) (r1 : (Nat × T_api_Expr)) : Int → Option (Int ⊕ (Unit ⊕ Bool)) := fun x11 =>
  bif decide (x11 < ((r1.2.Args.length : Nat) : Int)) then (
    (ixO r1.2.Args x11).bind fun x15 =>
    (dec_T_api_Expr x15).bind fun x16 =>
    (rc_d_expr_eval x16 a1).bind fun r17 =>
    bif (!r17) then (
      some (.inr (.inr false))
    ) else (
      some (.inl (w64 (x11 + 1)))
    )
  ) else (
    some (.inr (.inl ()))
  )

noncomputable def d_expr_eval_1 (rc_d_expr_eval : T_api_Expr → (List Bool) → Option Bool) (a1 : (List Bool)) (r1 : (Nat × T_api_Expr)) : Int → Option (Int ⊕ (Unit ⊕ Bool)) := fun x21 =>
  bif decide (x21 < ((r1.2.Args.length : Nat) : Int)) then (
    (ixO r1.2.Args x21).bind fun x25 =>
    (dec_T_api_Expr x25).bind fun x26 =>
    (rc_d_expr_eval x26 a1).bind fun r27 =>
    bif r27 then (
      some (.inr (.inr true))
    ) else (
      some (.inl (w64 (x21 + 1)))
    )
  ) else (
    some (.inr (.inl ()))
  )

noncomputable def d_expr_eval_F (rc_d_expr_eval : T_api_Expr → (List Bool) → Option Bool) (a0 : T_api_Expr) (a1 : (List Bool)) : Option Bool :=
  (d_expr_nodeOf a0).bind fun r1 =>
  bif decide (r1.1 = 56) then (
    ((bif decide (0 ≤ r1.2.Var) then (
      some (decide (r1.2.Var < ((a1.length : Nat) : Int)))
    ) else some false) : Option Bool).bind fun b2 =>
    ((bif b2 then (
      (ixO a1 r1.2.Var).bind fun x4 =>
      some x4
    ) else some false) : Option Bool).bind fun b3 =>
    some b3
  ) else (
    bif decide (r1.1 = 57) then (
      (ixO r1.2.Args 0).bind fun x5 =>
      (dec_T_api_Expr x5).bind fun x6 =>
      (rc_d_expr_eval x6 a1).bind fun r7 =>
      some (!r7)
    ) else (
      bif decide (r1.1 = 58) then (
        onInl (α := Unit) (β := Bool) (loopO (d_expr_eval_0 rc_d_expr_eval a1 r1) 0) fun _ =>
        some true
      ) else (
        bif decide (r1.1 = 59) then (
          onInl (α := Unit) (β := Bool) (loopO (d_expr_eval_1 rc_d_expr_eval a1 r1) 0) fun _ =>
          some false
        ) else (
          some (decide (a0.Op = 2))
        )
      )
    )
  )
theorem d_expr_eval_F_ok (rc_d_expr_eval : T_api_Expr → (List Bool) → Option Bool) (hrc_d_expr_eval : ∀ (a0 : T_api_Expr) (a1 : (List Bool)) (r : Bool), rc_d_expr_eval a0 a1 = some r → PCall Go.Proofs.Tryd.prog GlS 30 [.cptr (cellsOf a0), Enc.pv a1] (Enc.pv r)) (a0 : T_api_Expr) (a1 : (List Bool)) (r : Bool) (h : d_expr_eval_F rc_d_expr_eval a0 a1 = some r) : PCall Go.Proofs.Tryd.prog GlS 30 [.cptr (cellsOf a0), Enc.pv a1] (Enc.pv r) := by
  unfold d_expr_eval_F at h
  refine pcall_of_pwp Go.Proofs.Tryd.func30 (by rfl) rfl Go.Proofs.Tryd.ntmps30 (by rfl) rfl ?_
  refine pwp_seq (r_reg ?_)
  refine e_end (by kernel_rfl) ?_
  refine q_next (pwp_seq (pwp_seq (r_reg ?_)))
  refine p_run 1 (by kernel_rfl) ?_
  obtain ⟨r1, h1, h⟩ := o_bind h
  refine p_call (d_expr_nodeOf_ok _ r1 h1) (by kernel_rfl) (by kernel_rfl) ?_
  refine e_nil (by kernel_rfl) ?_
  refine q_next (pwp_block (pwp_seq (r_reg ?_)))
  rcases o_cond h with ⟨hb, h⟩ | ⟨hb, h⟩
  · refine p_tas_t (t := 56) (t' := r1.1) (cs := [.cptr (cellsOf r1.2)]) (by kernel_rfl) hb ?_
    refine e_end (by kernel_rfl) ?_
    refine q_next ?_
    refine r_cond_t (b := true) rfl (by kernel_rfl) ?_
    refine pwp_seq (r_reg ?_)
    refine e_end (by kernel_rfl) ?_
    refine q_next (pwp_seq (r_reg ?_))
    obtain ⟨b2, h2, h⟩ := o_bind h
    refine p_run 7 (by kernel_rfl) ?_
    refine e_seg 9 31 (.bool b2) ?_ ?_
    · rcases o_cond h2 with ⟨hb, h2⟩ | ⟨hb, h2⟩
      · refine p_settle 22 hb (by kernel_rfl) (by kernel_rfl) ?_
        refine p_run 6 (by kernel_rfl) ?_
        refine p_len (L := (a1 : (List Bool))) (by kernel_rfl) ?_
        cases h2
        exact f_end (by kernel_rfl) (by kernel_rfl)
      refine p_settle 22 hb (by kernel_rfl) (by kernel_rfl) ?_
      cases h2
      exact f_end (by kernel_rfl) (by kernel_rfl)
    obtain ⟨b3, h3, h⟩ := o_bind h
    refine p_run 1 (by kernel_rfl) ?_
    refine e_seg 9 41 (.bool b3) ?_ ?_
    · rcases o_cond h3 with ⟨hb, h3⟩ | ⟨hb, h3⟩
      · refine p_settle 32 hb (by kernel_rfl) (by kernel_rfl) ?_
        refine p_run 6 (by kernel_rfl) ?_
        obtain ⟨x4, h4, h3⟩ := o_bind h3
        refine p_ix h4 (by kernel_rfl) ?_
        cases h3
        exact f_end (by kernel_rfl) (by kernel_rfl)
      refine p_settle 32 hb (by kernel_rfl) (by kernel_rfl) ?_
      cases h3
      exact f_end (by kernel_rfl) (by kernel_rfl)
    refine e_end (by kernel_rfl) ?_
    refine q_next (pwp_ret (q_block_ret (q_seq_ret ?_)))
    cases h
    exact q_ret (by kernel_rfl) (by kernel_rfl) (by kernel_rfl)
  refine p_tas_f (t := 56) (t' := r1.1) (cs := [.cptr (cellsOf r1.2)]) (by kernel_rfl) hb ?_
  refine e_end (by kernel_rfl) ?_
  refine q_next ?_
  refine r_cond_f (b := false) rfl (by kernel_rfl) ?_
  refine pwp_seq (r_reg ?_)
  rcases o_cond h with ⟨hb, h⟩ | ⟨hb, h⟩
  · refine p_tas_t (t := 57) (t' := r1.1) (cs := [.cptr (cellsOf r1.2)]) (by kernel_rfl) hb ?_
    refine e_end (by kernel_rfl) ?_
    refine q_next ?_
    refine r_cond_t (b := true) rfl (by kernel_rfl) ?_
    refine pwp_seq (r_reg ?_)
    refine e_end (by kernel_rfl) ?_
    refine q_next (pwp_seq (r_reg ?_))
    refine p_run 5 (by kernel_rfl) ?_
    obtain ⟨x5, h5, h⟩ := o_bind h
    obtain ⟨x6, h6, h⟩ := o_bind h
    rw [dec_T_api_Expr_eq h6] at h5
    refine p_ix h5 (by kernel_rfl) ?_
    refine p_run 1 (by kernel_rfl) ?_
    obtain ⟨r7, h7, h⟩ := o_bind h
    refine p_call (hrc_d_expr_eval _ _ r7 h7) (by kernel_rfl) (by kernel_rfl) ?_
    refine e_end (by kernel_rfl) ?_
    refine q_next (pwp_ret (q_block_ret (q_seq_ret ?_)))
    cases h
    exact q_ret (by kernel_rfl) (by kernel_rfl) (by kernel_rfl)
  refine p_tas_f (t := 57) (t' := r1.1) (cs := [.cptr (cellsOf r1.2)]) (by kernel_rfl) hb ?_
  refine e_end (by kernel_rfl) ?_
  refine q_next ?_
  refine r_cond_f (b := false) rfl (by kernel_rfl) ?_
  refine pwp_seq (r_reg ?_)
  rcases o_cond h with ⟨hb, h⟩ | ⟨hb, h⟩
  · refine p_tas_t (t := 58) (t' := r1.1) (cs := [.cptr (cellsOf r1.2)]) (by kernel_rfl) hb ?_
    refine e_end (by kernel_rfl) ?_
    refine q_next ?_
    refine r_cond_t (b := true) rfl (by kernel_rfl) ?_
    refine pwp_seq (r_reg ?_)
    refine e_end (by kernel_rfl) ?_
    refine q_next (pwp_seq (pwp_seq (r_reg ?_)))
    refine p_run 5 (by kernel_rfl) ?_
    refine p_len (L := (r1.2.Args : (List R_api_Expr))) (by kernel_rfl) ?_
    refine e_end (by kernel_rfl) ?_
    refine q_next (pwp_block ?_)
    obtain ⟨o17, h17, h⟩ := o_inl h
    refine r_loop2 104 1 (fun x11 => ⟨[(1, lstOf .frozen (a1 : (List Bool))), (7, .ref 7 0), (62, .int .i64 ((r1.2.Args.length : Nat) : Int)), (63, .int .i64 x11)], [(7, .cells ([.cptr (cellsOf r1.2)]))], [], []⟩) (fun (_ : Unit) => ⟨[], [], [], []⟩) h17 (by kernel_rfl) (fun _ => by kernel_rfl) ?_ ?_
    · rintro x11 oh16 h16
      unfold d_expr_eval_0 at h16
      refine pwp_seq (r_reg ?_)
      refine e_end (by kernel_rfl) ?_
      refine q_next (pwp_seq ?_)
      rcases o_cond h16 with ⟨hb, h16⟩ | ⟨hb, h16⟩
      · refine r_cond_t hb (by kernel_rfl) ?_
        refine pwp_skip (q_next (pwp_seq (pwp_block (pwp_seq (r_reg ?_)))))
        refine e_end (by kernel_rfl) ?_
        refine q_next (pwp_seq (r_reg ?_))
        refine p_run 6 (by kernel_rfl) ?_
        obtain ⟨x15, h18, h16⟩ := o_bind h16
        obtain ⟨x16, h19, h16⟩ := o_bind h16
        rw [dec_T_api_Expr_eq h19] at h18
        refine p_ix h18 (by kernel_rfl) ?_
        refine p_run 1 (by kernel_rfl) ?_
        obtain ⟨r17, h20, h16⟩ := o_bind h16
        refine p_call (hrc_d_expr_eval _ _ r17 h20) (by kernel_rfl) (by kernel_rfl) ?_
        refine e_end (by kernel_rfl) ?_
        refine q_next ?_
        rcases o_cond h16 with ⟨hb, h16⟩ | ⟨hb, h16⟩
        · refine r_cond_t hb (by kernel_rfl) ?_
          refine pwp_seq (r_reg ?_)
          refine e_end (by kernel_rfl) ?_
          refine q_next (pwp_ret (q_block_ret (q_seq_ret ?_)))
          cases h16
          refine q_lout_ret fun he => ?_
          subst he
          have h21 := o_outr h
          refine q_block_ret (q_seq_ret (q_block_ret (q_seq_ret ?_)))
          cases h21
          exact q_ret (by kernel_rfl) (by kernel_rfl) (by kernel_rfl)
        refine r_cond_f hb (by kernel_rfl) ?_
        refine pwp_skip (q_block (q_next (r_reg ?_)))
        refine e_end (by kernel_rfl) ?_
        cases h16
        exact q_lback (by kernel_rfl)
      refine r_cond_f hb (by kernel_rfl) ?_
      refine pwp_exit (q_seq_exit ?_)
      cases h16
      exact q_lexit (by kernel_rfl) (by kernel_rfl)
    rintro _ s' rfl hs
    have h := o_outl h
    refine q_block_hit ?_
    refine q_next (pwp_wkr hs ?_)
    refine pwp_seq (r_reg ?_)
    refine e_end (by kernel_rfl) ?_
    refine q_next (pwp_ret (q_block_ret (q_seq_ret ?_)))
    cases h
    exact q_ret (by kernel_rfl) (by kernel_rfl) (by kernel_rfl)
  refine p_tas_f (t := 58) (t' := r1.1) (cs := [.cptr (cellsOf r1.2)]) (by kernel_rfl) hb ?_
  refine e_end (by kernel_rfl) ?_
  refine q_next ?_
  refine r_cond_f (b := false) rfl (by kernel_rfl) ?_
  refine pwp_seq (r_reg ?_)
  rcases o_cond h with ⟨hb, h⟩ | ⟨hb, h⟩
  · refine p_tas_t (t := 59) (t' := r1.1) (cs := [.cptr (cellsOf r1.2)]) (by kernel_rfl) hb ?_
    refine e_end (by kernel_rfl) ?_
    refine q_next ?_
    refine r_cond_t (b := true) rfl (by kernel_rfl) ?_
    refine pwp_seq (r_reg ?_)
    refine e_end (by kernel_rfl) ?_
    refine q_next (pwp_seq (pwp_seq (r_reg ?_)))
    refine p_run 5 (by kernel_rfl) ?_
    refine p_len (L := (r1.2.Args : (List R_api_Expr))) (by kernel_rfl) ?_
    refine e_end (by kernel_rfl) ?_
    refine q_next (pwp_block ?_)
    obtain ⟨o31, h31, h⟩ := o_inl h
    refine r_loop2 104 3 (fun x21 => ⟨[(1, lstOf .frozen (a1 : (List Bool))), (9, .ref 9 0), (85, .int .i64 ((r1.2.Args.length : Nat) : Int)), (86, .int .i64 x21)], [(9, .cells ([.cptr (cellsOf r1.2)]))], [], []⟩) (fun (_ : Unit) => ⟨[], [], [], []⟩) h31 (by kernel_rfl) (fun _ => by kernel_rfl) ?_ ?_
    · rintro x21 oh30 h30
      unfold d_expr_eval_1 at h30
      refine pwp_seq (r_reg ?_)
      refine e_end (by kernel_rfl) ?_
      refine q_next (pwp_seq ?_)
      rcases o_cond h30 with ⟨hb, h30⟩ | ⟨hb, h30⟩
      · refine r_cond_t hb (by kernel_rfl) ?_
        refine pwp_skip (q_next (pwp_seq (pwp_block (pwp_seq (r_reg ?_)))))
        refine e_end (by kernel_rfl) ?_
        refine q_next (pwp_seq (r_reg ?_))
        refine p_run 6 (by kernel_rfl) ?_
        obtain ⟨x25, h32, h30⟩ := o_bind h30
        obtain ⟨x26, h33, h30⟩ := o_bind h30
        rw [dec_T_api_Expr_eq h33] at h32
        refine p_ix h32 (by kernel_rfl) ?_
        refine p_run 1 (by kernel_rfl) ?_
        obtain ⟨r27, h34, h30⟩ := o_bind h30
        refine p_call (hrc_d_expr_eval _ _ r27 h34) (by kernel_rfl) (by kernel_rfl) ?_
        refine e_nil (by kernel_rfl) ?_
        refine q_next ?_
        rcases o_cond h30 with ⟨hb, h30⟩ | ⟨hb, h30⟩
        · refine r_cond_t hb (by kernel_rfl) ?_
          refine pwp_seq (r_reg ?_)
          refine e_end (by kernel_rfl) ?_
          refine q_next (pwp_ret (q_block_ret (q_seq_ret ?_)))
          cases h30
          refine q_lout_ret fun he => ?_
          subst he
          have h35 := o_outr h
          refine q_block_ret (q_seq_ret (q_block_ret (q_seq_ret ?_)))
          cases h35
          exact q_ret (by kernel_rfl) (by kernel_rfl) (by kernel_rfl)
        refine r_cond_f hb (by kernel_rfl) ?_
        refine pwp_skip (q_block (q_next (r_reg ?_)))
        refine e_end (by kernel_rfl) ?_
        cases h30
        exact q_lback (by kernel_rfl)
      refine r_cond_f hb (by kernel_rfl) ?_
      refine pwp_exit (q_seq_exit ?_)
      cases h30
      exact q_lexit (by kernel_rfl) (by kernel_rfl)
    rintro _ s' rfl hs
    have h := o_outl h
    refine q_block_hit ?_
    refine q_next (pwp_wkr hs ?_)
    refine pwp_seq (r_reg ?_)
    refine e_end (by kernel_rfl) ?_
    refine q_next (pwp_ret (q_block_ret (q_seq_ret ?_)))
    cases h
    exact q_ret (by kernel_rfl) (by kernel_rfl) (by kernel_rfl)
  refine p_tas_f (t := 59) (t' := r1.1) (cs := [.cptr (cellsOf r1.2)]) (by kernel_rfl) hb ?_
  refine e_end (by kernel_rfl) ?_
  refine q_next ?_
  refine r_cond_f (b := false) rfl (by kernel_rfl) ?_
  refine pwp_skip (q_block (q_next (pwp_seq (r_reg ?_))))
  refine e_end (by kernel_rfl) ?_
  refine q_next (pwp_ret ?_)
  cases h
  exact q_ret (by kernel_rfl) (by kernel_rfl) (by kernel_rfl)
noncomputable def d_expr_eval_N (n : Nat) : T_api_Expr → (List Bool) → Option Bool := Nat.rec (fun _ _ => none) (fun _ ih => d_expr_eval_F ih) n
theorem d_expr_eval_N_ok : ∀ (n : Nat) (a0 : T_api_Expr) (a1 : (List Bool)) (r : Bool), d_expr_eval_N n a0 a1 = some r → PCall Go.Proofs.Tryd.prog GlS 30 [.cptr (cellsOf a0), Enc.pv a1] (Enc.pv r)
  | 0, _, _, _, h => by cases h
  | n + 1, a0, a1, r, h => d_expr_eval_F_ok (d_expr_eval_N n) (d_expr_eval_N_ok n) a0 a1 r h
noncomputable def d_expr_eval (a0 : T_api_Expr) (a1 : (List Bool)) : Option Bool := d_expr_eval_F (d_expr_eval_N recFuel) a0 a1
theorem d_expr_eval_ok (a0 : T_api_Expr) (a1 : (List Bool)) (r : Bool) (h : d_expr_eval a0 a1 = some r) : PCall Go.Proofs.Tryd.prog GlS 30 [.cptr (cellsOf a0), Enc.pv a1] (Enc.pv r) := d_expr_eval_F_ok (d_expr_eval_N recFuel) (d_expr_eval_N_ok recFuel) a0 a1 r h

/-! expr.Eval -/
noncomputable def d_expr_Eval (a0 : T_api_Expr) (a1 : (List Bool)) : Option Bool :=
  (d_expr_eval a0 a1).bind fun r1 =>
  some r1
theorem d_expr_Eval_ok (a0 : T_api_Expr) (a1 : (List Bool)) (r : Bool) (h : d_expr_Eval a0 a1 = some r) : PCall Go.Proofs.Tryd.prog GlS 11 [Enc.pv a0, Enc.pv a1] (Enc.pv r) := by
  unfold d_expr_Eval at h
  refine pcall_of_pwp Go.Proofs.Tryd.func11 (by rfl) rfl Go.Proofs.Tryd.ntmps11 (by rfl) rfl ?_
  refine pwp_seq (r_reg ?_)
  refine e_end (by kernel_rfl) ?_
  refine q_next (pwp_seq (r_reg ?_))
  refine p_run 1 (by kernel_rfl) ?_
  obtain ⟨r1, h1, h⟩ := o_bind h
  refine p_callR [] (d_expr_eval_ok _ _ r1 h1) (by kernel_rfl) (by kernel_rfl) (by kernel_rfl) ?_
  refine e_end (by kernel_rfl) ?_
  refine q_next (pwp_ret ?_)
  cases h
  exact q_ret (by kernel_rfl) (by kernel_rfl) (by kernel_rfl)

/-! signallingref18.Same -/
noncomputable def d_ref18_Same_0 (rc_d_ref18_Same : T_api_Expr → T_api_Expr → Option Bool) (a0 : T_api_Expr) (a1 : T_api_Expr) : Int → Option (Int ⊕ (Unit ⊕ Bool)) := fun x7 =>
  bif decide (x7 < ((a0.Args.length : Nat) : Int)) then (
    (ixO a0.Args x7).bind fun x13 =>
    (dec_T_api_Expr x13).bind fun x14 =>
    (ixO a1.Args x7).bind fun x15 =>
    (dec_T_api_Expr x15).bind fun x16 =>
    (rc_d_ref18_Same x14 x16).bind fun r17 =>
    bif (!r17) then (
      some (.inr (.inr false))
    ) else (
      some (.inl (w64 (x7 + 1)))
    )
  ) else (
    some (.inr (.inl ()))
  )

noncomputable def d_ref18_Same_F (rc_d_ref18_Same : T_api_Expr → T_api_Expr → Option Bool) (a0 : T_api_Expr) (a1 : T_api_Expr) : Option Bool :=
  ((bif ((!(decide (a0.Op = a1.Op))) || (!(decide (a0.Var = a1.Var)))) then some true else (
    some (!(decide (((a0.Args.length : Nat) : Int) = ((a1.Args.length : Nat) : Int))))
  )) : Option Bool).bind fun b1 =>
  bif b1 then (
    some false
  ) else (
    onInl (α := Unit) (β := Bool) (loopO (d_ref18_Same_0 rc_d_ref18_Same a0 a1) 0) fun _ =>
    some true
  )
theorem d_ref18_Same_F_ok (rc_d_ref18_Same : T_api_Expr → T_api_Expr → Option Bool) (hrc_d_ref18_Same : ∀ (a0 : T_api_Expr) (a1 : T_api_Expr) (r : Bool), rc_d_ref18_Same a0 a1 = some r → PCall Go.Proofs.Tryd.prog GlS 16 [Enc.pv a0, Enc.pv a1] (Enc.pv r)) (a0 : T_api_Expr) (a1 : T_api_Expr) (r : Bool) (h : d_ref18_Same_F rc_d_ref18_Same a0 a1 = some r) : PCall Go.Proofs.Tryd.prog GlS 16 [Enc.pv a0, Enc.pv a1] (Enc.pv r) := by
  unfold d_ref18_Same_F at h
  refine pcall_of_pwp Go.Proofs.Tryd.func16 (by rfl) rfl Go.Proofs.Tryd.ntmps16 (by rfl) rfl ?_
  refine pwp_seq (r_reg ?_)
  refine e_end (by kernel_rfl) ?_
  refine q_next (pwp_seq (pwp_seq (r_reg ?_)))
  refine p_run 6 (by kernel_rfl) ?_
  refine e_segb 6 17 ((!(decide (a0.Op = a1.Op))) || (!(decide (a0.Var = a1.Var)))) (fun x hx => ?_) ?_
  · rcases b_or hx with ⟨hb, hx⟩ | ⟨hb, hx⟩
    · refine p_settle 11 hb (by kernel_rfl) (by kernel_rfl) ?_
      subst hx
      exact f_end (by kernel_rfl) (by kernel_rfl)
    refine p_settle 11 hb (by kernel_rfl) (by kernel_rfl) ?_
    subst hx
    exact f_end (by kernel_rfl) (by kernel_rfl)
  obtain ⟨b1, h1, h⟩ := o_bind h
  refine p_run 1 (by kernel_rfl) ?_
  refine e_seg 8 26 (.bool b1) ?_ ?_
  · rcases o_cond h1 with ⟨hb, h1⟩ | ⟨hb, h1⟩
    · refine p_settle 18 hb (by kernel_rfl) (by kernel_rfl) ?_
      cases h1
      exact f_end (by kernel_rfl) (by kernel_rfl)
    refine p_settle 18 hb (by kernel_rfl) (by kernel_rfl) ?_
    refine p_run 2 (by kernel_rfl) ?_
    refine p_len (L := (a0.Args : (List R_api_Expr))) (by kernel_rfl) ?_
    refine p_run 2 (by kernel_rfl) ?_
    refine p_len (L := (a1.Args : (List R_api_Expr))) (by kernel_rfl) ?_
    cases h1
    exact f_end (by kernel_rfl) (by kernel_rfl)
  refine e_nil (by kernel_rfl) ?_
  refine q_next ?_
  rcases o_cond h with ⟨hb, h⟩ | ⟨hb, h⟩
  · refine r_cond_t hb (by kernel_rfl) ?_
    refine pwp_seq (r_reg ?_)
    refine e_end (by kernel_rfl) ?_
    refine q_next (pwp_ret (q_seq_ret ?_))
    cases h
    exact q_ret (by kernel_rfl) (by kernel_rfl) (by kernel_rfl)
  refine r_cond_f hb (by kernel_rfl) ?_
  refine pwp_skip (q_next (pwp_seq (pwp_seq (r_reg ?_))))
  refine e_end (by kernel_rfl) ?_
  refine q_next (pwp_block ?_)
  obtain ⟨o15, h15, h⟩ := o_inl h
  refine r_loop2 46 0 (fun x7 => ⟨[(2, .ref 2 0), (3, .ref 3 0), (5, .int .i64 x7)], [(2, .cells (cellsOf a0)), (3, .cells (cellsOf a1))], [], []⟩) (fun (_ : Unit) => ⟨[], [], [], []⟩) h15 (by kernel_rfl) (fun _ => by kernel_rfl) ?_ ?_
  · rintro x7 oh14 h14
    unfold d_ref18_Same_0 at h14
    refine pwp_seq (pwp_seq (r_reg ?_))
    refine p_run 3 (by kernel_rfl) ?_
    refine p_len (L := (a0.Args : (List R_api_Expr))) (by kernel_rfl) ?_
    refine e_end (by kernel_rfl) ?_
    refine q_next ?_
    rcases o_cond h14 with ⟨hb, h14⟩ | ⟨hb, h14⟩
    · refine r_cond_t hb (by kernel_rfl) ?_
      refine pwp_skip (q_next (pwp_seq (pwp_block (pwp_seq ?_))))
      refine r_regd (by kernel_rfl) (by kernel_rfl) ?_
      refine p_run 3 (by kernel_rfl) ?_
      obtain ⟨x13, h16, h14⟩ := o_bind h14
      obtain ⟨x14, h17, h14⟩ := o_bind h14
      rw [dec_T_api_Expr_eq h17] at h16
      refine p_ix h16 (by kernel_rfl) ?_
      refine p_run 4 (by kernel_rfl) ?_
      obtain ⟨x15, h18, h14⟩ := o_bind h14
      obtain ⟨x16, h19, h14⟩ := o_bind h14
      rw [dec_T_api_Expr_eq h19] at h18
      refine p_ix h18 (by kernel_rfl) ?_
      refine p_run 1 (by kernel_rfl) ?_
      obtain ⟨r17, h20, h14⟩ := o_bind h14
      refine p_call (hrc_d_ref18_Same _ _ r17 h20) (by kernel_rfl) (by kernel_rfl) ?_
      refine e_end (by kernel_rfl) ?_
      refine q_next ?_
      rcases o_cond h14 with ⟨hb, h14⟩ | ⟨hb, h14⟩
      · refine r_cond_t hb (by kernel_rfl) ?_
        refine pwp_seq (r_reg ?_)
        refine e_end (by kernel_rfl) ?_
        refine q_next (pwp_ret (q_block_ret (q_seq_ret ?_)))
        cases h14
        refine q_lout_ret fun he => ?_
        subst he
        have h21 := o_outr h
        refine q_block_ret (q_seq_ret ?_)
        cases h21
        exact q_ret (by kernel_rfl) (by kernel_rfl) (by kernel_rfl)
      refine r_cond_f hb (by kernel_rfl) ?_
      refine pwp_skip (q_block (q_next (r_reg ?_)))
      refine e_end (by kernel_rfl) ?_
      cases h14
      exact q_lback (by kernel_rfl)
    refine r_cond_f hb (by kernel_rfl) ?_
    refine pwp_exit (q_seq_exit ?_)
    cases h14
    exact q_lexit (by kernel_rfl) (by kernel_rfl)
  rintro _ s' rfl hs
  have h := o_outl h
  refine q_block_hit ?_
  refine q_next (pwp_wkr hs ?_)
  refine pwp_seq (r_reg ?_)
  refine e_end (by kernel_rfl) ?_
  refine q_next (pwp_ret ?_)
  cases h
  exact q_ret (by kernel_rfl) (by kernel_rfl) (by kernel_rfl)
noncomputable def d_ref18_Same_N (n : Nat) : T_api_Expr → T_api_Expr → Option Bool := Nat.rec (fun _ _ => none) (fun _ ih => d_ref18_Same_F ih) n
theorem d_ref18_Same_N_ok : ∀ (n : Nat) (a0 : T_api_Expr) (a1 : T_api_Expr) (r : Bool), d_ref18_Same_N n a0 a1 = some r → PCall Go.Proofs.Tryd.prog GlS 16 [Enc.pv a0, Enc.pv a1] (Enc.pv r)
  | 0, _, _, _, h => by cases h
  | n + 1, a0, a1, r, h => d_ref18_Same_F_ok (d_ref18_Same_N n) (d_ref18_Same_N_ok n) a0 a1 r h
noncomputable def d_ref18_Same (a0 : T_api_Expr) (a1 : T_api_Expr) : Option Bool := d_ref18_Same_F (d_ref18_Same_N recFuel) a0 a1
theorem d_ref18_Same_ok (a0 : T_api_Expr) (a1 : T_api_Expr) (r : Bool) (h : d_ref18_Same a0 a1 = some r) : PCall Go.Proofs.Tryd.prog GlS 16 [Enc.pv a0, Enc.pv a1] (Enc.pv r) := d_ref18_Same_F_ok (d_ref18_Same_N recFuel) (d_ref18_Same_N_ok recFuel) a0 a1 r h

/-! expr.Replace -/
noncomputable def d_expr_Replace_0 (rc_d_expr_Replace : T_api_Expr → Int → T_api_Expr → Option T_api_Expr) (a0 : T_api_Expr) (a1 : Int) (a2 : T_api_Expr) : (Int × (List R_api_Expr)) → Option ((Int × (List R_api_Expr)) ⊕ ((List R_api_Expr) ⊕ T_api_Expr)) := fun (x11, x12) =>
  bif decide (x11 < ((a0.Args.length : Nat) : Int)) then (
    (ixO a0.Args x11).bind fun x18 =>
    (dec_T_api_Expr x18).bind fun x19 =>
    (rc_d_expr_Replace x19 a1 a2).bind fun r20 =>
    (appO x12 [(enc_T_api_Expr r20)]).bind fun x21 =>
    some (.inl (w64 (x11 + 1), x21))
  ) else (
    some (.inr (.inl x12))
  )

noncomputable def d_expr_Replace_F (rc_d_expr_Replace : T_api_Expr → Int → T_api_Expr → Option T_api_Expr) (a0 : T_api_Expr) (a1 : Int) (a2 : T_api_Expr) : Option T_api_Expr :=
  bif ((decide (a0.Op = 3)) && (decide (a0.Var = a1))) then (
    (d_expr_clone a2).bind fun r1 =>
    some r1
  ) else (
    onInl (α := (List R_api_Expr)) (β := T_api_Expr) (loopO (d_expr_Replace_0 rc_d_expr_Replace a0 a1 a2) (0, ([] : (List R_api_Expr)))) fun x17 =>
    some (T_api_Expr.mk a0.Op a0.Var x17)
  )
theorem d_expr_Replace_F_ok (rc_d_expr_Replace : T_api_Expr → Int → T_api_Expr → Option T_api_Expr) (hrc_d_expr_Replace : ∀ (a0 : T_api_Expr) (a1 : Int) (a2 : T_api_Expr) (r : T_api_Expr), rc_d_expr_Replace a0 a1 a2 = some r → PCall Go.Proofs.Tryd.prog GlS 19 [Enc.pv a0, Enc.pv a1, Enc.pv a2] (Enc.pv r)) (a0 : T_api_Expr) (a1 : Int) (a2 : T_api_Expr) (r : T_api_Expr) (h : d_expr_Replace_F rc_d_expr_Replace a0 a1 a2 = some r) : PCall Go.Proofs.Tryd.prog GlS 19 [Enc.pv a0, Enc.pv a1, Enc.pv a2] (Enc.pv r) := by
  unfold d_expr_Replace_F at h
  refine pcall_of_pwp Go.Proofs.Tryd.func19 (by rfl) rfl Go.Proofs.Tryd.ntmps19 (by rfl) rfl ?_
  refine pwp_seq (r_reg ?_)
  refine e_end (by kernel_rfl) ?_
  refine q_next (pwp_seq (pwp_seq (r_reg ?_)))
  refine p_run 4 (by kernel_rfl) ?_
  refine e_segb 5 18 ((decide (a0.Op = 3)) && (decide (a0.Var = a1))) (fun x hx => ?_) ?_
  · rcases b_and hx with ⟨hb, hx⟩ | ⟨hb, hx⟩
    · refine p_settle 13 hb (by kernel_rfl) (by kernel_rfl) ?_
      subst hx
      exact f_end (by kernel_rfl) (by kernel_rfl)
    refine p_settle 13 hb (by kernel_rfl) (by kernel_rfl) ?_
    subst hx
    exact f_end (by kernel_rfl) (by kernel_rfl)
  refine e_nil (by kernel_rfl) ?_
  refine q_next ?_
  rcases o_cond h with ⟨hb, h⟩ | ⟨hb, h⟩
  · refine r_cond_t hb (by kernel_rfl) ?_
    refine pwp_seq (r_reg ?_)
    refine p_run 1 (by kernel_rfl) ?_
    obtain ⟨r1, h1, h⟩ := o_bind h
    refine p_call (d_expr_clone_ok _ r1 h1) (by kernel_rfl) (by kernel_rfl) ?_
    refine e_end (by kernel_rfl) ?_
    refine q_next (pwp_ret (q_seq_ret ?_))
    cases h
    exact q_ret (by kernel_rfl) (by kernel_rfl) (by kernel_rfl)
  refine r_cond_f hb (by kernel_rfl) ?_
  refine pwp_skip (q_next (pwp_seq (r_reg ?_)))
  refine e_end (by kernel_rfl) ?_
  refine q_next (pwp_seq (pwp_seq (r_reg ?_)))
  refine p_run 2 (by kernel_rfl) ?_
  refine p_len (L := (a0.Args : (List R_api_Expr))) (by kernel_rfl) ?_
  refine e_end (by kernel_rfl) ?_
  refine q_next (pwp_block ?_)
  refine pwp_wkr (wkr_nilH 7 2 200702 3 40 (cs := [.int .i64 a0.Op, .int .i64 a0.Var, .nil]) (by kernel_rfl) (by kernel_rfl) (by kernel_rfl)) ?_
  obtain ⟨o15, h15, h⟩ := o_inl h
  refine r_loop2 44 0 (fun (x11, x12) => ⟨[(1, .int .i64 a1), (5, .ref 5 0), (6, .ref 6 0), (7, .ref 7 0), (27, lstOf .frozen (a0.Args : (List R_api_Expr))), (28, .int .i64 ((a0.Args.length : Nat) : Int)), (29, .int .i64 x11)], [(5, .cells (cellsOf a2)), (6, .cells ([.int .i64 0, .int .i64 0, .nil])), (7, .cells ([.int .i64 a0.Op, .int .i64 a0.Var, lstOf (.own 200702) (x12 : (List R_api_Expr))]))], [(200702, (((x12).map cellsOf).length, 3))], []⟩) (fun x17 => ⟨[(6, .ref 6 0), (7, .ref 7 0)], [(6, .cells ([.int .i64 0, .int .i64 0, .nil])), (7, .cells ([.int .i64 a0.Op, .int .i64 a0.Var, lstOf (.own 200702) (x17 : (List R_api_Expr))]))], [(200702, (((x17).map cellsOf).length, 3))], []⟩) h15 (by kernel_rfl) (fun _ => by kernel_rfl) ?_ ?_
  · rintro ⟨x11, x12⟩ oh14 h14
    unfold d_expr_Replace_0 at h14
    refine pwp_seq (r_reg ?_)
    refine e_end (by kernel_rfl) ?_
    refine q_next (pwp_seq ?_)
    rcases o_cond h14 with ⟨hb, h14⟩ | ⟨hb, h14⟩
    · refine r_cond_t hb (by kernel_rfl) ?_
      refine pwp_skip (q_next (pwp_seq (pwp_block (pwp_seq (r_reg ?_)))))
      obtain ⟨x18, h16, h14⟩ := o_bind h14
      obtain ⟨x19, h17, h14⟩ := o_bind h14
      rw [dec_T_api_Expr_eq h17] at h16
      refine p_ix h16 (by kernel_rfl) ?_
      refine e_end (by kernel_rfl) ?_
      refine q_next ?_
      refine r_regd (by kernel_rfl) (by kernel_rfl) ?_
      refine p_run 5 (by kernel_rfl) ?_
      obtain ⟨r20, h18, h14⟩ := o_bind h14
      refine p_call (hrc_d_expr_Replace _ _ _ r20 h18) (by kernel_rfl) (by kernel_rfl) ?_
      refine p_run 1 (by kernel_rfl) ?_
      obtain ⟨x21, h19, h14⟩ := o_bind h14
      refine p_app (tk := 200702) h19 (by kernel_rfl) (by kernel_rfl) ?_
      refine e_end (by kernel_rfl) ?_
      refine q_block (q_next (r_reg ?_))
      refine e_end (by kernel_rfl) ?_
      cases h14
      exact q_lback (by kernel_rfl)
    refine r_cond_f hb (by kernel_rfl) ?_
    refine pwp_exit (q_seq_exit ?_)
    cases h14
    exact q_lexit (by kernel_rfl) (by kernel_rfl)
  rintro x17 s' rfl hs
  have h := o_outl h
  refine q_block_hit ?_
  refine q_next (pwp_wkr hs ?_)
  refine pwp_seq (r_reg ?_)
  refine e_end (by kernel_rfl) ?_
  refine q_next (pwp_ret ?_)
  cases h
  exact q_ret (by kernel_rfl) (by kernel_rfl) (by kernel_rfl)
noncomputable def d_expr_Replace_N (n : Nat) : T_api_Expr → Int → T_api_Expr → Option T_api_Expr := Nat.rec (fun _ _ _ => none) (fun _ ih => d_expr_Replace_F ih) n
theorem d_expr_Replace_N_ok : ∀ (n : Nat) (a0 : T_api_Expr) (a1 : Int) (a2 : T_api_Expr) (r : T_api_Expr), d_expr_Replace_N n a0 a1 a2 = some r → PCall Go.Proofs.Tryd.prog GlS 19 [Enc.pv a0, Enc.pv a1, Enc.pv a2] (Enc.pv r)
  | 0, _, _, _, _, h => by cases h
  | n + 1, a0, a1, a2, r, h => d_expr_Replace_F_ok (d_expr_Replace_N n) (d_expr_Replace_N_ok n) a0 a1 a2 r h
noncomputable def d_expr_Replace (a0 : T_api_Expr) (a1 : Int) (a2 : T_api_Expr) : Option T_api_Expr := d_expr_Replace_F (d_expr_Replace_N recFuel) a0 a1 a2
theorem d_expr_Replace_ok (a0 : T_api_Expr) (a1 : Int) (a2 : T_api_Expr) (r : T_api_Expr) (h : d_expr_Replace a0 a1 a2 = some r) : PCall Go.Proofs.Tryd.prog GlS 19 [Enc.pv a0, Enc.pv a1, Enc.pv a2] (Enc.pv r) := d_expr_Replace_F_ok (d_expr_Replace_N recFuel) (d_expr_Replace_N_ok recFuel) a0 a1 a2 r h

end PM
