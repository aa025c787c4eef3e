/-
  PLAIN, BODY D: what the functions of chapter 11 come to: checks, rears, steps over elements, steps that are left, steps that are entered.
-/
import Derived.Test.YtoknlpdkocemfaaGreatDoorBodyC
namespace PM
open Go Go.RowKit

theorem ixO_last {α : Type} {L : List α} (hn : L ≠ []) (h : L.length ≤ 1048576) : ixO L (w64 (((L.length : Nat) : Int) - 1)) = some (L.getLast hn) := by
  have := List.length_pos_iff.2 hn
  have e : w64 (((L.length : Nat) : Int) - 1) = ((L.length - 1 : Nat) : Int) := by rw [w64_of (by omega) (by omega)]; omega
  rw [e, List.getLast_eq_getElem]
  exact ixO_nat (List.getElem?_eq_getElem (by omega))
theorem len_at {l : T_api_Layout} {s : T_api_Step} (h : hasEl l s.El = true) : ∃ x, ixO l.Elements s.El = some x ∧ x.Length = lenOf l s ∧ x.Kind = kindOf l s.El := by
  obtain ⟨x, h1, h2⟩ := hasEl_get h
  exact ⟨x, h1, by simp [lenOf, h, h2], by simp [kindOf, h2]⟩
theorem long_eq {l : T_api_Layout} {s : T_api_Step} (h : hasEl l s.El = true) : d_ref11_long l s = some (lenOf l s) := by
  obtain ⟨x, h1, h2, -⟩ := len_at h
  simp [d_ref11_long, h1, h2]
theorem lastLen_eq {l : T_api_Layout} {way : List T_api_Step} (hn : way ≠ []) : lastLen l way = lenOf l (way.getLast hn) := by
  simp [lastLen, List.getLast?_eq_some_getLast hn]
structure Bd (b : T_api_Body) : Prop where
  head : 0 ≤ b.Head ∧ b.Head ≤ 1000000
  len : 1 ≤ b.Length ∧ b.Length ≤ 1000000
theorem str_bd {l : T_api_Layout} (hl : OkL l) {way : List T_api_Step} (hv : ValidP l way) {h : Int} (hh : 0 ≤ h ∧ h ≤ 1000000) : 0 ≤ strS l way h ∧ strS l way h ≤ 65000000 := by
  have h1 := hl.sum (way := way.dropLast) fun s hs => hv.has ((List.dropLast_sublist way).subset hs)
  have h2 := hv.2.1
  simp only [List.length_dropLast] at h1
  unfold strS; omega
theorem rearEnd_eq {l : T_api_Layout} (hl : OkL l) {b : T_api_Body} (hv : ValidP l b.Steps) (hb : Bd b) : d_body_rearEnd l b = some (strS l b.Steps b.Head - b.Length) := by
  have hn := hv.ne
  have h0 := hv.1
  have h64 := hv.2.1
  have h1 := hb.head
  have h2 := hb.len
  have h3 := str_bd hl hv h1
  have e : w64 (((b.Steps.length : Nat) : Int) - 1) = ((b.Steps.length - 1 : Nat) : Int) := by rw [w64_of (by omega) (by omega)]; omega
  unfold d_body_rearEnd
  rw [e, slO_hi (by omega), Option.bind_some, ← List.dropLast_eq_take, walk_Length_eq _ _ (by simp; omega), Option.bind_some, w64_w64]
  unfold strS at h3 ⊢
  rw [w64_of (n := sumL l b.Steps.dropLast + b.Head) (by omega) (by omega), w64_of (by omega) (by omega)]
theorem Stretch_eq {l : T_api_Layout} (hl : OkL l) {b : T_api_Body} (hv : ValidP l b.Steps) (hb : 0 ≤ b.Head ∧ b.Head ≤ 1000000) : d_ref11_Stretch l b = some (strS l b.Steps b.Head) := by
  have h0 := hv.1
  have h64 := hv.2.1
  have : Is (loopO (d_ref11_Stretch_0 l b) (b.Head, 0)) fun o => o = .inl (strS l b.Steps b.Head) := by
    refine Is.loop (mk := fun (i : Nat) (n : Int) => (n, (i : Int))) (b.Steps.length - 1) (fun i n => n = b.Head + sumL l (b.Steps.take i)) b.Head (by simp [sumL]) ?_ ?_
    · rintro i n hi rfl
      unfold d_ref11_Stretch_0
      simp only
      rw [w64n (by omega)]
      refine Is.cond (fun _ => ?_) (fun hb => by simp at hb; omega)
      have hi' : i < b.Steps.length := by omega
      refine Is.bind (Is.ixn hi') fun s hs => ?_
      have hm := hv.has (List.mem_of_getElem? hs)
      rw [long_eq hm, Option.bind_some]
      have e : sumL l (b.Steps.take (i + 1)) = sumL l (b.Steps.take i) + lenOf l s := by
        rw [List.take_add_one, hs, Option.toList_some, sumL_append]; simp [sumL]
      have h1 := hl.sum (way := b.Steps.take i) fun s hs => hv.has (List.mem_of_mem_take hs)
      have h2 := hl.lens hm
      simp only [List.length_take] at h1
      refine Is.val ⟨_, rfl, ?_⟩
      rw [e, w64_of (by omega) (by omega)]; omega
    · rintro n rfl
      unfold d_ref11_Stretch_0
      simp only
      rw [w64n (by omega)]
      refine Is.cond (fun hb => by simp at hb; omega) (fun _ => Is.val ?_)
      rw [strS, List.dropLast_eq_take, Int.add_comm]
  obtain ⟨o, h1, rfl⟩ := this
  simp [d_ref11_Stretch, h1, onInl, onOut]
theorem ixO_zero {α : Type} {s : α} {r : List α} : ixO (s :: r) 0 = some s := ixO_nat (i := 0) rfl
open Classical in
noncomputable def chkB (l : T_api_Layout) (b : T_api_Body) : Int :=
  if ¬ (ValidP l b.Steps ∧ (1 ≤ b.Length ∧ b.Length ≤ 1000000) ∧ 1 ≤ b.Head ∧ b.Head ≤ lastLen l b.Steps) then 1 else
  if strS l b.Steps b.Head < b.Length ∨ (1 < b.Steps.length ∧ b.Length ≤ strS l b.Steps b.Head - firstLen l b.Steps) then 10 else 0
theorem chkB_ok (l : T_api_Layout) (b : T_api_Body) : chkB l b = 0 ↔ OkB l b := by
  unfold chkB
  constructor
  · intro h
    split at h
    · cases h
    next h1 =>
      split at h
      · cases h
      next h2 =>
        obtain ⟨h3, h4, h5⟩ := Classical.not_not.1 h1
        exact ⟨h3, h4, h5, by omega, fun h6 => by omega⟩
  · rintro ⟨h1, h2, h3, h4, h5⟩
    rw [if_neg (by simp [h1, h2, h3]), if_neg (by omega)]
theorem body_Check_eq {l : T_api_Layout} (hs : Sm l) (hl : OkL l) (b : T_api_Body) (hb : b.Steps.length ≤ 1000) : d_body_Check l b = some (chkB l b) := by
  suffices Is (d_body_Check l b) fun r => r = chkB l b by obtain ⟨r, h1, rfl⟩ := this; exact h1
  unfold d_body_Check
  refine Is.bind (walk_Valid_is l b.Steps hs.jo (by omega)) fun v hv => ?_
  refine Is.bind (φ := fun c => c = true ↔ ¬ (ValidP l b.Steps ∧ (1 ≤ b.Length ∧ b.Length ≤ 1000000) ∧ 1 ≤ b.Head ∧ b.Head ≤ lastLen l b.Steps)) ?_ fun c hc => ?_
  · refine Is.cond (fun h => Is.val ?_) (fun h => ?_)
    · simp only [Bool.or_eq_true, Bool.not_eq_true', decide_eq_true_eq] at h
      refine ⟨fun _ hn => ?_, fun _ => rfl⟩
      have := hv.2 hn.1
      rcases h with ((h | h) | h) | h
      · rw [this] at h; cases h
      all_goals omega
    · simp only [Bool.or_eq_false_iff, Bool.not_eq_false', decide_eq_false_iff_not] at h
      have hv' := hv.1 h.1.1.1
      have hh := hv'.has (List.getLast_mem hv'.ne)
      obtain ⟨x, h1, h2, -⟩ := len_at hh
      simp only [d_body_last, ixO_last hv'.ne (by omega : b.Steps.length ≤ 1048576), Option.bind_some, h1, h2]
      refine Is.val ?_
      rw [decide_eq_true_iff, lastLen_eq hv'.ne]
      constructor
      · intro h3 h4; omega
      · intro h3
        apply Classical.byContradiction
        intro h4
        exact h3 ⟨hv', by omega, by omega, by omega⟩
  · unfold chkB
    refine Is.cond (fun h => Is.val ?_) (fun h => ?_)
    · rw [if_pos (hc.1 h)]
    · have hg := (false_iff_of hc).1 h
      rw [if_neg hg]
      obtain ⟨g1, g2, g3⟩ := Classical.not_not.1 hg
      have g4 := hl.last g1
      rw [rearEnd_eq hl g1 ⟨⟨by omega, by omega⟩, g2⟩, Option.bind_some]
      refine Is.bind (φ := fun c => c = true ↔ (strS l b.Steps b.Head < b.Length ∨ (1 < b.Steps.length ∧ b.Length ≤ strS l b.Steps b.Head - firstLen l b.Steps))) ?_ fun c hc => ?_
      · refine Is.or (by rw [decide_eq_true_iff]; omega) (fun h5 => ?_)
        match hst : b.Steps, g1 with
        | [], g1 => exact absurd rfl g1.ne
        | s :: r, g1 =>
          obtain ⟨x, h1, h2, -⟩ := len_at (g1.has (s := s) (by simp))
          simp only [ixO_zero, Option.bind_some, h1, h2, cond_some, Bool.cond_false_right]
          refine Is.val ?_
          simp only [Bool.and_eq_true, decide_eq_true_eq, firstLen]
          omega
      · refine Is.cond (fun h => Is.val ?_) (fun h => Is.val ?_)
        · rw [if_pos (hc.1 h)]
        · rw [if_neg ((false_iff_of hc).1 h)]
theorem ref11_Check_eq {l : T_api_Layout} (hs : Sm l) (hl : OkL l) (b : T_api_Body) (hb : b.Steps.length ≤ 1000) : d_ref11_Check l b = some (chkB l b) := by
  suffices Is (d_ref11_Check l b) fun r => r = chkB l b by obtain ⟨r, h1, rfl⟩ := this; exact h1
  unfold d_ref11_Check
  refine Is.bind (ref09_Valid_is l b.Steps hs.jo (by omega)) fun v hv => ?_
  refine Is.bind (φ := fun c => c = true ↔ ¬ (ValidP l b.Steps ∧ (1 ≤ b.Length ∧ b.Length ≤ 1000000) ∧ 1 ≤ b.Head ∧ b.Head ≤ lastLen l b.Steps)) ?_ fun c hc => ?_
  · refine Is.cond (fun h => Is.val ?_) (fun h => ?_)
    · simp only [Bool.or_eq_true, Bool.not_eq_true', decide_eq_true_eq] at h
      refine ⟨fun _ hn => ?_, fun _ => rfl⟩
      have := hv.2 hn.1
      rcases h with ((h | h) | h) | h
      · rw [this] at h; cases h
      all_goals omega
    · simp only [Bool.or_eq_false_iff, Bool.not_eq_false', decide_eq_false_iff_not] at h
      have hv' := hv.1 h.1.1.1
      have hh := hv'.has (List.getLast_mem hv'.ne)
      simp only [ixO_last hv'.ne (by omega : b.Steps.length ≤ 1048576), Option.bind_some, long_eq hh]
      refine Is.val ?_
      rw [decide_eq_true_iff, lastLen_eq hv'.ne]
      constructor
      · intro h3 h4; omega
      · intro h3
        apply Classical.byContradiction
        intro h4
        exact h3 ⟨hv', by omega, by omega, by omega⟩
  · unfold chkB
    refine Is.cond (fun h => Is.val ?_) (fun h => ?_)
    · rw [if_pos (hc.1 h)]
    · have hg := (false_iff_of hc).1 h
      rw [if_neg hg]
      obtain ⟨g1, g2, g3⟩ := Classical.not_not.1 hg
      have g4 := hl.last g1
      have g5 : 0 ≤ b.Head ∧ b.Head ≤ 1000000 := ⟨by omega, by omega⟩
      have g6 := str_bd hl g1 g5
      rw [Stretch_eq hl g1 g5, Option.bind_some]
      refine Is.bind (φ := fun c => c = true ↔ (strS l b.Steps b.Head < b.Length ∨ (1 < b.Steps.length ∧ b.Length ≤ strS l b.Steps b.Head - firstLen l b.Steps))) ?_ fun c hc => ?_
      · refine Is.or (by rw [decide_eq_true_iff]) (fun h5 => ?_)
        match hst : b.Steps, g1, g6 with
        | [], g1, _ => exact absurd rfl g1.ne
        | s :: r, g1, g6 =>
          have hh := g1.has (s := s) (by simp)
          have g7 := hl.lens hh
          simp only [ixO_zero, Option.bind_some, long_eq hh, cond_some, Bool.cond_false_right]
          rw [w64_of (by omega) (by omega)]
          refine Is.val ?_
          simp only [Bool.and_eq_true, decide_eq_true_eq, firstLen]
          omega
      · refine Is.cond (fun h => Is.val ?_) (fun h => Is.val ?_)
        · rw [if_pos (hc.1 h)]
        · rw [if_neg ((false_iff_of hc).1 h)]
end PM
