/-
  PLAIN, BODY D: what the functions of chapter 11 come to: checks, rears, steps over elements, steps that are left, steps that are entered.
-/
import Derived.Test.YtfndelfalfplaaaDoorBodyC
namespace PM
open Go Go.RowKit

theorem few11_is {l : T_api_Layout} (h : Sm l) (pos : List Int) (b : T_api_Body) : Is (d_law11_few l pos b) fun r => r = true → OkL l ∧ pos.length ≤ 60 ∧ b.Steps.length ≤ 80 := by
  unfold d_law11_few
  simp only [cond_some, Option.bind_some, Bool.cond_false_right, ref07_Check_eq h]
  refine Is.val fun hb => ?_
  simp only [Bool.and_eq_true, decide_eq_true_eq] at hb
  obtain ⟨⟨⟨-, h1⟩, h2⟩, h3⟩ := hb
  exact ⟨(chk_ok l).1 h3, by omega, by omega⟩
theorem ixO_last {α : Type} {L : List α} (hn : L ≠ []) (h : L.length ≤ 1048576) : ixO L (w64 (((L.length : Nat) : Int) - 1)) = some (L.getLast hn) := by
  have := List.length_pos_iff.2 hn
  have e : w64 (((L.length : Nat) : Int) - 1) = ((L.length - 1 : Nat) : Int) := by rw [w64_of (by omega) (by omega)]; omega
  rw [e, List.getLast_eq_getElem]
  exact ixO_nat (List.getElem?_eq_getElem (by omega))
theorem len_at {l : T_api_Layout} {s : T_api_Step} (h : hasEl l s.El = true) : ∃ x, ixO l.Elements s.El = some x ∧ x.Length = lenOf l s ∧ x.Kind = kindOf l s.El := by
  obtain ⟨x, h1, h2⟩ := hasEl_get h
  exact ⟨x, h1, by simp [lenOf, h, h2], by simp [kindOf, h2]⟩
theorem long_eq {l : T_api_Layout} {s : T_api_Step} (h : hasEl l s.El = true) : d_ref11_long l s = some (lenOf l s) := by
  obtain ⟨x, h1, h2, -⟩ := len_at h
  simp [d_ref11_long, h1, h2]
theorem lastLen_eq {l : T_api_Layout} {way : List T_api_Step} (hn : way ≠ []) : lastLen l way = lenOf l (way.getLast hn) := by
  simp [lastLen, List.getLast?_eq_some_getLast hn]
/-- What bounds the numbers. -/
structure Bd (b : T_api_Body) : Prop where
  head : 0 ≤ b.Head ∧ b.Head ≤ 1000000
  len : 1 ≤ b.Length ∧ b.Length ≤ 1000000
theorem str_bd {l : T_api_Layout} (hl : OkL l) {way : List T_api_Step} (hv : ValidP l way) {h : Int} (hh : 0 ≤ h ∧ h ≤ 1000000) : 0 ≤ strS l way h ∧ strS l way h ≤ 65000000 := by
  have h1 := hl.sum (way := way.dropLast) fun s hs => hv.has ((List.dropLast_sublist way).subset hs)
  have h2 := hv.2.1
  simp only [List.length_dropLast] at h1
  unfold strS; omega
theorem rearEnd_eq {l : T_api_Layout} (hl : OkL l) {b : T_api_Body} (hv : ValidP l b.Steps) (hb : Bd b) : d_body_rearEnd l b = some (strS l b.Steps b.Head - b.Length) := by
  have hn := hv.ne
  have h0 := hv.1
  have h64 := hv.2.1
  have h1 := hb.head
  have h2 := hb.len
  have h3 := str_bd hl hv h1
  have e : w64 (((b.Steps.length : Nat) : Int) - 1) = ((b.Steps.length - 1 : Nat) : Int) := by rw [w64_of (by omega) (by omega)]; omega
  unfold d_body_rearEnd
  rw [e, slO_hi (by omega), Option.bind_some, ← List.dropLast_eq_take, walk_Length_eq _ _ (by simp; omega), Option.bind_some, w64_w64]
  unfold strS at h3 ⊢
  rw [w64_of (n := sumL l b.Steps.dropLast + b.Head) (by omega) (by omega), w64_of (by omega) (by omega)]
theorem Stretch_eq {l : T_api_Layout} (hl : OkL l) {b : T_api_Body} (hv : ValidP l b.Steps) (hb : 0 ≤ b.Head ∧ b.Head ≤ 1000000) : d_ref11_Stretch l b = some (strS l b.Steps b.Head) := by
  have h0 := hv.1
  have h64 := hv.2.1
  have : Is (loopO (d_ref11_Stretch_0 l b) (b.Head, 0)) fun o => o = .inl (strS l b.Steps b.Head) := by
    refine Is.loop (mk := fun (i : Nat) (n : Int) => (n, (i : Int))) (b.Steps.length - 1) (fun i n => n = b.Head + sumL l (b.Steps.take i)) b.Head (by simp [sumL]) ?_ ?_
    · rintro i n hi rfl
      unfold d_ref11_Stretch_0
      simp only
      rw [w64n (by omega)]
      refine Is.cond (fun _ => ?_) (fun hb => by simp at hb; omega)
      have hi' : i < b.Steps.length := by omega
      refine Is.bind (Is.ixn hi') fun s hs => ?_
      have hm := hv.has (List.mem_of_getElem? hs)
      rw [long_eq hm, Option.bind_some]
      have e : sumL l (b.Steps.take (i + 1)) = sumL l (b.Steps.take i) + lenOf l s := by
        rw [List.take_add_one, hs, Option.toList_some, sumL_append]; simp [sumL]
      have h1 := hl.sum (way := b.Steps.take i) fun s hs => hv.has (List.mem_of_mem_take hs)
      have h2 := hl.lens hm
      simp only [List.length_take] at h1
      refine Is.val ⟨_, rfl, ?_⟩
      rw [e, w64_of (by omega) (by omega)]; omega
    · rintro n rfl
      unfold d_ref11_Stretch_0
      simp only
      rw [w64n (by omega)]
      refine Is.cond (fun hb => by simp at hb; omega) (fun _ => Is.val ?_)
      rw [strS, List.dropLast_eq_take, Int.add_comm]
  obtain ⟨o, h1, rfl⟩ := this
  simp [d_ref11_Stretch, h1, onInl, onOut]
/-! ### Checks -/
theorem ixO_zero {α : Type} {s : α} {r : List α} : ixO (s :: r) 0 = some s := ixO_nat (i := 0) rfl
open Classical in
noncomputable def chkB (l : T_api_Layout) (b : T_api_Body) : Int :=
  if ¬ (ValidP l b.Steps ∧ (1 ≤ b.Length ∧ b.Length ≤ 1000000) ∧ 1 ≤ b.Head ∧ b.Head ≤ lastLen l b.Steps) then 1 else
  if strS l b.Steps b.Head < b.Length ∨ (1 < b.Steps.length ∧ b.Length ≤ strS l b.Steps b.Head - firstLen l b.Steps) then 10 else 0
theorem chkB_ok (l : T_api_Layout) (b : T_api_Body) : chkB l b = 0 ↔ OkB l b := by
  unfold chkB
  constructor
  · intro h
    split at h
    · cases h
    next h1 =>
      split at h
      · cases h
      next h2 =>
        obtain ⟨h3, h4, h5⟩ := Classical.not_not.1 h1
        exact ⟨h3, h4, h5, by omega, fun h6 => by omega⟩
  · rintro ⟨h1, h2, h3, h4, h5⟩
    rw [if_neg (by simp [h1, h2, h3]), if_neg (by omega)]
theorem body_Check_eq {l : T_api_Layout} (hs : Sm l) (hl : OkL l) (b : T_api_Body) (hb : b.Steps.length ≤ 1000) : d_body_Check l b = some (chkB l b) := by
  suffices Is (d_body_Check l b) fun r => r = chkB l b by obtain ⟨r, h1, rfl⟩ := this; exact h1
  unfold d_body_Check
  refine Is.bind (walk_Valid_is l b.Steps hs.jo (by omega)) fun v hv => ?_
  refine Is.bind (φ := fun c => c = true ↔ ¬ (ValidP l b.Steps ∧ (1 ≤ b.Length ∧ b.Length ≤ 1000000) ∧ 1 ≤ b.Head ∧ b.Head ≤ lastLen l b.Steps)) ?_ fun c hc => ?_
  · refine Is.cond (fun h => Is.val ?_) (fun h => ?_)
    · simp only [Bool.or_eq_true, Bool.not_eq_true', decide_eq_true_eq] at h
      refine ⟨fun _ hn => ?_, fun _ => rfl⟩
      have := hv.2 hn.1
      rcases h with ((h | h) | h) | h
      · rw [this] at h; cases h
      all_goals omega
    · simp only [Bool.or_eq_false_iff, Bool.not_eq_false', decide_eq_false_iff_not] at h
      have hv' := hv.1 h.1.1.1
      have hh := hv'.has (List.getLast_mem hv'.ne)
      obtain ⟨x, h1, h2, -⟩ := len_at hh
      simp only [d_body_last, ixO_last hv'.ne (by omega : b.Steps.length ≤ 1048576), Option.bind_some, h1, h2]
      refine Is.val ?_
      rw [decide_eq_true_iff, lastLen_eq hv'.ne]
      constructor
      · intro h3 h4; omega
      · intro h3
        apply Classical.byContradiction
        intro h4
        exact h3 ⟨hv', by omega, by omega, by omega⟩
  · unfold chkB
    refine Is.cond (fun h => Is.val ?_) (fun h => ?_)
    · rw [if_pos (hc.1 h)]
    · have hg := (false_iff_of hc).1 h
      rw [if_neg hg]
      obtain ⟨g1, g2, g3⟩ := Classical.not_not.1 hg
      have g4 := hl.last g1
      rw [rearEnd_eq hl g1 ⟨⟨by omega, by omega⟩, g2⟩, Option.bind_some]
      refine Is.bind (φ := fun c => c = true ↔ (strS l b.Steps b.Head < b.Length ∨ (1 < b.Steps.length ∧ b.Length ≤ strS l b.Steps b.Head - firstLen l b.Steps))) ?_ fun c hc => ?_
      · refine Is.or (by rw [decide_eq_true_iff]; omega) (fun h5 => ?_)
        match hst : b.Steps, g1 with
        | [], g1 => exact absurd rfl g1.ne
        | s :: r, g1 =>
          obtain ⟨x, h1, h2, -⟩ := len_at (g1.has (s := s) (by simp))
          simp only [ixO_zero, Option.bind_some, h1, h2, cond_some, Bool.cond_false_right]
          refine Is.val ?_
          simp only [Bool.and_eq_true, decide_eq_true_eq, firstLen]
          omega
      · refine Is.cond (fun h => Is.val ?_) (fun h => Is.val ?_)
        · rw [if_pos (hc.1 h)]
        · rw [if_neg ((false_iff_of hc).1 h)]
theorem ref11_Check_eq {l : T_api_Layout} (hs : Sm l) (hl : OkL l) (b : T_api_Body) (hb : b.Steps.length ≤ 1000) : d_ref11_Check l b = some (chkB l b) := by
  suffices Is (d_ref11_Check l b) fun r => r = chkB l b by obtain ⟨r, h1, rfl⟩ := this; exact h1
  unfold d_ref11_Check
  refine Is.bind (ref09_Valid_is l b.Steps hs.jo (by omega)) fun v hv => ?_
  refine Is.bind (φ := fun c => c = true ↔ ¬ (ValidP l b.Steps ∧ (1 ≤ b.Length ∧ b.Length ≤ 1000000) ∧ 1 ≤ b.Head ∧ b.Head ≤ lastLen l b.Steps)) ?_ fun c hc => ?_
  · refine Is.cond (fun h => Is.val ?_) (fun h => ?_)
    · simp only [Bool.or_eq_true, Bool.not_eq_true', decide_eq_true_eq] at h
      refine ⟨fun _ hn => ?_, fun _ => rfl⟩
      have := hv.2 hn.1
      rcases h with ((h | h) | h) | h
      · rw [this] at h; cases h
      all_goals omega
    · simp only [Bool.or_eq_false_iff, Bool.not_eq_false', decide_eq_false_iff_not] at h
      have hv' := hv.1 h.1.1.1
      have hh := hv'.has (List.getLast_mem hv'.ne)
      simp only [ixO_last hv'.ne (by omega : b.Steps.length ≤ 1048576), Option.bind_some, long_eq hh]
      refine Is.val ?_
      rw [decide_eq_true_iff, lastLen_eq hv'.ne]
      constructor
      · intro h3 h4; omega
      · intro h3
        apply Classical.byContradiction
        intro h4
        exact h3 ⟨hv', by omega, by omega, by omega⟩
  · unfold chkB
    refine Is.cond (fun h => Is.val ?_) (fun h => ?_)
    · rw [if_pos (hc.1 h)]
    · have hg := (false_iff_of hc).1 h
      rw [if_neg hg]
      obtain ⟨g1, g2, g3⟩ := Classical.not_not.1 hg
      have g4 := hl.last g1
      have g5 : 0 ≤ b.Head ∧ b.Head ≤ 1000000 := ⟨by omega, by omega⟩
      have g6 := str_bd hl g1 g5
      rw [Stretch_eq hl g1 g5, Option.bind_some]
      refine Is.bind (φ := fun c => c = true ↔ (strS l b.Steps b.Head < b.Length ∨ (1 < b.Steps.length ∧ b.Length ≤ strS l b.Steps b.Head - firstLen l b.Steps))) ?_ fun c hc => ?_
      · refine Is.or (by rw [decide_eq_true_iff]) (fun h5 => ?_)
        match hst : b.Steps, g1, g6 with
        | [], g1, _ => exact absurd rfl g1.ne
        | s :: r, g1, g6 =>
          have hh := g1.has (s := s) (by simp)
          have g7 := hl.lens hh
          simp only [ixO_zero, Option.bind_some, long_eq hh, cond_some, Bool.cond_false_right]
          rw [w64_of (by omega) (by omega)]
          refine Is.val ?_
          simp only [Bool.and_eq_true, decide_eq_true_eq, firstLen]
          omega
      · refine Is.cond (fun h => Is.val ?_) (fun h => Is.val ?_)
        · rw [if_pos (hc.1 h)]
        · rw [if_neg ((false_iff_of hc).1 h)]
/-! ### Steps over elements -/
def covB (way : List T_api_Step) (e : Int) : T_api_Step × Bool := match way.find? (fun s => decide (s.El = e)) with | some s => (s, true) | none => (⟨0, 0, 0⟩, false)
theorem body_Covers_eq (b : T_api_Body) (e : Int) (hb : b.Steps.length ≤ 1000) : d_body_Covers b e = some (covB b.Steps e) := by
  unfold d_body_Covers covB
  rw [loop_find (fun s => decide (s.El = e)) (fun s => .inr (s, true)) (.inl ()) b.Steps (by omega)]
  · cases b.Steps.find? (fun s => decide (s.El = e)) <;> rfl
  · intro i x h
    have hi := lt_of_get h
    simp only [d_body_Covers_0, ixO_nat h, show decide ((i : Int) < ((b.Steps.length : Nat) : Int)) = true by simp; omega, cond_true, Option.bind_some]
  · simp [d_body_Covers_0]
theorem ref11_Covers_eq (b : T_api_Body) (e : Int) (hb : b.Steps.length ≤ 1000) : d_ref11_Covers b e = some (covB b.Steps e) := by
  unfold d_ref11_Covers covB
  rw [loop_find (fun s => decide (s.El = e)) (fun s => .inr (s, true)) (.inl ()) b.Steps (by omega)]
  · cases b.Steps.find? (fun s => decide (s.El = e)) <;> rfl
  · intro i x h
    have hi := lt_of_get h
    simp only [d_ref11_Covers_0, ixO_nat h, show decide ((i : Int) < ((b.Steps.length : Nat) : Int)) = true by simp; omega, cond_true, Option.bind_some]
  · simp [d_ref11_Covers_0]
theorem covB_2 (way : List T_api_Step) (e : Int) : (covB way e).2 = decide (∃ t ∈ way, t.El = e) := by
  unfold covB
  cases h : way.find? (fun s => decide (s.El = e)) with
  | none =>
    rw [List.find?_eq_none] at h
    symm; simp only [decide_eq_false_iff_not]
    rintro ⟨t, ht, e'⟩
    exact h t ht (by simpa using e')
  | some s =>
    have h1 := List.mem_of_find?_eq_some h
    have h2 := List.find?_some h
    symm; simp only [decide_eq_true_eq] at h2 ⊢
    exact ⟨s, h1, h2⟩
theorem covB_in {l : T_api_Layout} {way : List T_api_Step} (hv : ValidP l way) {s : T_api_Step} (hs : s ∈ way) : covB way s.El = (s, true) := by
  unfold covB
  cases h : way.find? (fun t => decide (t.El = s.El)) with
  | none => rw [List.find?_eq_none] at h; exact absurd (by simp) (h s hs)
  | some t =>
    have h1 := List.mem_of_find?_eq_some h
    have h2 := List.find?_some h
    simp only [decide_eq_true_eq] at h2
    obtain ⟨i, e1⟩ := List.mem_iff_getElem?.1 hs
    obtain ⟨j, e2⟩ := List.mem_iff_getElem?.1 h1
    have := hv.apart e2 e1 h2
    subst this
    rw [e1] at e2; cases e2; rfl
/-! ### Entering -/
theorem ref06_Out_eq (k a p : Int) : d_ref06_Out k a p = some (outS k a p) := by
  unfold d_ref06_Out
  rw [loop_find (fun o => (needS k a o).2 && ((decide ((needS k a o).1 = 0)) || (decide ((needS k a o).1 = p)))) (fun o => .inr (o, true)) (.inl ()) ([0, 1, 2, 3] : List Int) (by decide)]
  · unfold outS needS
    rcases kinds k with rfl | rfl | rfl | ⟨h1, h2, h3, h4, h5, h6⟩
    · rcases sides4 a with rfl | rfl | rfl | rfl | ⟨g0, g1, g2, g3, g4, g5, g6, g7⟩ <;> simp [tab_rail_passages, onInl, onOut, *]
    · rcases sides4 a with rfl | rfl | rfl | rfl | ⟨g0, g1, g2, g3, g4, g5, g6, g7⟩ <;> rcases (show p = 1 ∨ p = 2 ∨ (¬ 1 = p ∧ ¬ 2 = p ∧ ¬ p = 1 ∧ ¬ p = 2) by omega) with rfl | rfl | ⟨e1, e2, e3, e4⟩ <;> simp [tab_rail_passages, onInl, onOut, *]
    · rcases sides4 a with rfl | rfl | rfl | rfl | ⟨g0, g1, g2, g3, g4, g5, g6, g7⟩ <;> simp [tab_rail_passages, onInl, onOut, *]
    · simp [tab_rail_passages, onInl, onOut, *]
  · intro i x h
    have hi : i < 4 := lt_of_get h
    have hx : x = (i : Int) := by
      rcases (show i = 0 ∨ i = 1 ∨ i = 2 ∨ i = 3 by omega) with rfl | rfl | rfl | rfl <;> simp at h <;> simp [h]
    subst hx
    simp only [d_ref06_Out_0, d_ref06_Need_eq, Option.bind_some, show decide ((i : Int) < 4) = true by simp; omega, cond_true]
  · simp [d_ref06_Out_0]
theorem joined_has {l : T_api_Layout} (hl : OkL l) {e : T_api_End} (h : (joinS l e).2 = true) : hasEl l (joinS l e).1.El = true :=
  exS_has (joinS_ok (l := l) ⟨fun j hj => ⟨(hl.joint j hj).1, (hl.joint j hj).2.1⟩, hl.ends⟩ (e := e) (f := (joinS l e).1) (by rw [← h]))
theorem rail_Out_outS (k a p : Int) : d_rail_Out k a p = some (outS k a p) := rail_Out_eq k a p
def entR (l : T_api_Layout) (pos : List Int) (way : List T_api_Step) : T_api_Step × Bool := match entS l pos way with | some s => (s, true) | none => (⟨0, 0, 0⟩, false)
theorem pos_eq {l : T_api_Layout} {pos : List Int} (hp : pos.length ≤ 1000) {i : Int} (h : hasEl l i = true) : (bif decide (i < ((pos.length : Nat) : Int)) then (ixO pos i) else some 0) = some (posAt pos i) := by
  simp only [hasEl, Bool.and_eq_true, decide_eq_true_eq] at h
  obtain ⟨n, rfl⟩ : ∃ n : Nat, i = (n : Int) := ⟨i.toNat, by omega⟩
  by_cases hn : n < pos.length
  · rw [show decide ((n : Int) < ((pos.length : Nat) : Int)) = true by simp; omega, cond_true, ixO_nat (List.getElem?_eq_getElem hn)]
    simp [posAt, List.getElem?_eq_getElem hn]
  · rw [show decide ((n : Int) < ((pos.length : Nat) : Int)) = false by simp; omega, cond_false]
    simp [posAt, List.getElem?_eq_none (Nat.le_of_not_lt hn)]
theorem body_ahead_eq {l : T_api_Layout} (hs : Sm l) (hl : OkL l) {pos : List Int} (hp : pos.length ≤ 1000) {b : T_api_Body} (hv : ValidP l b.Steps) : d_body_ahead l pos b = some (entR l pos b.Steps) := by
  have hn := hv.ne
  have h64 := hv.2.1
  unfold d_body_ahead entR entS
  rw [List.getLast?_eq_some_getLast hn]
  simp only [d_body_last, ixO_last hn (by omega : b.Steps.length ≤ 1048576), Option.bind_some, walk_Next_eq hs.jo]
  generalize hj : joinS l ⟨(b.Steps.getLast hn).El, (b.Steps.getLast hn).Out⟩ = j
  cases h2 : j.2 with
  | false => simp
  | true =>
    have hh : hasEl l j.1.El = true := by rw [← hj]; exact joined_has hl (by rw [hj]; exact h2)
    obtain ⟨x, g1, g2⟩ := hasEl_get hh
    have hr := hl.elem.1 x (List.mem_of_getElem? g2)
    have hk : kindOf l j.1.El = x.Kind := by simp [kindOf, g2]
    have hsec : secE l j.1.El = x.Section := by simp [secE, hh, g2]
    have r1 : decide (x.Section < 0) = false := by have := hr.2.2.2.2.1; simp; omega
    have r2 : decide (x.Length < 1) = false := by have := hr.2.1; simp; omega
    simp only [Bool.not_true, cond_false, layout_Section_eq, hsec, Option.bind_some, r1, g1, r2, body_Covers_eq b j.1.El (by omega), covB_2, Bool.true_and]
    cases hc : decide (∃ t ∈ b.Steps, t.El = j.1.El) with
    | true => simp
    | false =>
      have e := pos_eq hp hh
      simp only [cond_false, Bool.not_false, Bool.true_and, hk]
      have e2 : (bif decide (j.1.El < ((pos.length : Nat) : Int)) then ((ixO pos j.1.El).bind fun x10 => some (.inl x10 : Int ⊕ (T_api_Step × Bool))) else some (.inl 0)) = some (.inl (posAt pos j.1.El)) := by
        cases hd : decide (j.1.El < ((pos.length : Nat) : Int)) with
        | true => rw [hd] at e; simp only [cond_true] at e ⊢; rw [e]; rfl
        | false => rw [hd] at e; simp only [cond_false] at e ⊢; rw [← Option.some.inj e]
      rw [e2]
      simp only [onInl, onOut, Option.bind_some, rail_Out_outS]
      cases ho : (outS x.Kind j.1.Side (posAt pos j.1.El)).2 <;> simp
theorem ref11_entered_eq {l : T_api_Layout} (hs : Sm l) (hl : OkL l) {pos : List Int} (hp : pos.length ≤ 1000) {b : T_api_Body} (hv : ValidP l b.Steps) : Is (d_ref11_entered l pos b) fun r => (r.2 = true ∧ entS l pos b.Steps = some r.1) ∨ (r.2 = false ∧ entS l pos b.Steps = none) := by
  have hn := hv.ne
  have h64 := hv.2.1
  unfold d_ref11_entered entS
  rw [List.getLast?_eq_some_getLast hn]
  simp only [ixO_last hn (by omega : b.Steps.length ≤ 1048576), Option.bind_some, ref09_Next_eq hs.jo]
  generalize hj : joinS l ⟨(b.Steps.getLast hn).El, (b.Steps.getLast hn).Out⟩ = j
  cases h2 : j.2 with
  | false => exact Is.val (.inr ⟨rfl, by simp⟩)
  | true =>
    have hh : hasEl l j.1.El = true := by rw [← hj]; exact joined_has hl (by rw [hj]; exact h2)
    obtain ⟨x, g1, g2⟩ := hasEl_get hh
    have hk : kindOf l j.1.El = x.Kind := by simp [kindOf, g2]
    have e : d_ref11_position pos j.1.El = some (posAt pos j.1.El) := by
      unfold d_ref11_position
      rw [← pos_eq hp hh]
      cases decide (j.1.El < ((pos.length : Nat) : Int)) with
      | true => simp only [cond_true]; cases ixO pos j.1.El <;> rfl
      | false => rfl
    simp only [Bool.not_true, cond_false, g1, Option.bind_some, ref11_Covers_eq b j.1.El (by omega), covB_2, e, ref06_Out_eq, hk, Bool.true_and]
    refine Is.val ?_
    cases hc : decide (∃ t ∈ b.Steps, t.El = j.1.El) <;> cases ho : (outS x.Kind j.1.Side (posAt pos j.1.El)).2 <;> simp
end PM
