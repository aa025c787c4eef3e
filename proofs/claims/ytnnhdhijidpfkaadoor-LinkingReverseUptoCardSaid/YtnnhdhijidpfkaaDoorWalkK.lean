/-
  PLAIN, WALK K: the laws of chapter 9 about measures, reverses and settings.
-/
import Derived.Test.YtnnhdhijidpfkaaDoorWalkJ
import Derived.Test.YtnnhdhijidpfkaaDoorWalkE
namespace PM
open Go Go.RowKit

theorem endsOf_mem {L : List T_api_Joint} {j : T_api_Joint} (h : j ∈ L) : j.A ∈ endsOf L ∧ j.B ∈ endsOf L := by
  simp only [endsOf, List.mem_flatMap]
  exact ⟨⟨j, h, by simp⟩, ⟨j, h, by simp⟩⟩
theorem endsOf_one : ∀ {L : List T_api_Joint}, (endsOf L).Nodup → ∀ {j k : T_api_Joint} {x : T_api_End}, j ∈ L → k ∈ L → (j.A = x ∨ j.B = x) → (k.A = x ∨ k.B = x) → j = k
  | [], _, _, _, _, hj, _, _, _ => by cases hj
  | a :: L, hn, j, k, x, hj, hk, ej, ek => by
    have hn' : (a.A :: a.B :: endsOf L).Nodup := hn
    rw [List.nodup_cons, List.nodup_cons] at hn'
    obtain ⟨h1, h2, h3⟩ := hn'
    have out : ∀ {m : T_api_Joint}, m ∈ L → (m.A = x ∨ m.B = x) → ¬ (a.A = x ∨ a.B = x) := by
      intro m hm em ea
      have hx : x ∈ endsOf L := by
        rcases em with e | e
        · exact e ▸ (endsOf_mem hm).1
        · exact e ▸ (endsOf_mem hm).2
      rcases ea with e | e
      · exact h1 (by rw [e]; exact List.mem_cons_of_mem _ hx)
      · exact h2 (by rw [e]; exact hx)
    rcases List.mem_cons.1 hj with e1 | hj' <;> rcases List.mem_cons.1 hk with e2 | hk'
    · rw [e1, e2]
    · exact absurd (e1 ▸ ej) (out hk' ek)
    · exact absurd (e2 ▸ ek) (out hj' ej)
    · exact endsOf_one h3 hj' hk' ej ek
theorem endsOf_ne : ∀ {L : List T_api_Joint}, (endsOf L).Nodup → ∀ {j : T_api_Joint}, j ∈ L → j.A ≠ j.B
  | [], _, _, hj => by cases hj
  | a :: L, hn, j, hj => by
    have hn' : (a.A :: a.B :: endsOf L).Nodup := hn
    rw [List.nodup_cons, List.nodup_cons] at hn'
    rcases List.mem_cons.1 hj with e | hj'
    · subst e; exact fun e => hn'.1 (by rw [e]; exact List.mem_cons_self)
    · exact endsOf_ne hn'.2.2 hj'
theorem joinS_symm {l : T_api_Layout} (hJ : JoinsOk l) {e f : T_api_End} (h : joinS l e = (f, true)) : joinS l f = (e, true) := by
  obtain ⟨j, hj, hc⟩ : ∃ j, j ∈ l.Joints ∧ ((j.A = e ∧ j.B = f) ∨ (j.B = e ∧ j.A = f)) := by
    unfold joinS at h
    cases hf : l.Joints.find? fun j => eq_T_api_End j.A e || eq_T_api_End j.B e with
    | none => rw [hf] at h; simp at h
    | some j =>
      rw [hf] at h
      simp only at h
      have hp := List.find?_some hf
      have hm := List.mem_of_find?_eq_some hf
      refine ⟨j, hm, ?_⟩
      cases hA : eq_T_api_End j.A e with
      | true =>
        rw [hA] at h; simp at h
        exact .inl ⟨(eqEnd_iff _ _).1 hA, h⟩
      | false =>
        rw [hA] at h hp; simp at h hp
        exact .inr ⟨(eqEnd_iff _ _).1 hp, h⟩
  have hfj : j.A = f ∨ j.B = f := by
    rcases hc with ⟨_, e⟩ | ⟨_, e⟩
    · exact .inr e
    · exact .inl e
  unfold joinS
  cases hf : l.Joints.find? fun j => eq_T_api_End j.A f || eq_T_api_End j.B f with
  | none =>
    have := List.find?_eq_none.1 hf j hj
    simp only [Bool.or_eq_true, eqEnd_iff] at this
    exact absurd hfj this
  | some k =>
    have hp := List.find?_some hf
    have hm := List.mem_of_find?_eq_some hf
    simp only [Bool.or_eq_true, eqEnd_iff] at hp
    have : k = j := endsOf_one hJ.2 hm hj hp hfj
    subst this
    have hne := endsOf_ne hJ.2 hm
    simp only
    rcases hc with ⟨e1, e2⟩ | ⟨e1, e2⟩
    · have : eq_T_api_End k.A f = false := by
        cases hq : eq_T_api_End k.A f with
        | false => rfl
        | true => exact absurd ((eqEnd_iff _ _).1 hq) (e2 ▸ hne)
      rw [this, e1]; rfl
    · rw [(eqEnd_iff k.A f).2 e2, e1]; rfl
def flipS (s : T_api_Step) : T_api_Step := ⟨s.El, s.Out, s.In⟩
theorem flip_flip (s : T_api_Step) : flipS (flipS s) = s := rfl
theorem revS_eq (way : List T_api_Step) : revS way = way.reverse.map flipS := rfl
theorem revS_revS (way : List T_api_Step) : revS (revS way) = way := by
  rw [revS_eq, revS_eq, ← List.map_reverse, List.reverse_reverse, List.map_map]
  have : (flipS ∘ flipS) = id := funext flip_flip
  rw [this, List.map_id]
theorem revS_len (way : List T_api_Step) : (revS way).length = way.length := by simp [revS]
theorem revS_get (way : List T_api_Step) {i : Nat} (hi : i < way.length) : (revS way)[i]? = (way[way.length - 1 - i]?).map flipS := by
  rw [revS_eq, List.getElem?_map, List.getElem?_reverse hi]
theorem needS_symm (k a b : Int) : needS k a b = needS k b a := by
  unfold needS
  rcases kinds k with rfl | rfl | rfl | ⟨h1, h2, h3, h4, h5, h6⟩
  · simp [tab_rail_passages]
    rcases sides4 a with rfl | rfl | rfl | rfl | ⟨g0, g1, g2, g3, g4, g5, g6, g7⟩ <;> rcases sides4 b with rfl | rfl | rfl | rfl | ⟨e0, e1, e2, e3, e4, e5, e6, e7⟩ <;> simp [*]
  · simp [tab_rail_passages]
    rcases sides4 a with rfl | rfl | rfl | rfl | ⟨g0, g1, g2, g3, g4, g5, g6, g7⟩ <;> rcases sides4 b with rfl | rfl | rfl | rfl | ⟨e0, e1, e2, e3, e4, e5, e6, e7⟩ <;> simp [*]
  · simp [tab_rail_passages]
    rcases sides4 a with rfl | rfl | rfl | rfl | ⟨g0, g1, g2, g3, g4, g5, g6, g7⟩ <;> rcases sides4 b with rfl | rfl | rfl | rfl | ⟨e0, e1, e2, e3, e4, e5, e6, e7⟩ <;> simp [*]
  · simp [tab_rail_passages, *]
theorem posS_flip (l : T_api_Layout) (s : T_api_Step) : posS l (flipS s) = posS l s := by
  unfold posS flipS
  simp only
  cases hasEl l s.El with
  | false => rfl
  | true =>
    cases l.Elements[s.El.toNat]? with
    | none => rfl
    | some x => exact needS_symm _ _ _
theorem ValidP.apart {l : T_api_Layout} {way : List T_api_Step} (h : ValidP l way) {i k : Nat} {s t : T_api_Step} (hs : way[i]? = some s) (ht : way[k]? = some t) (e : s.El = t.El) : i = k := by
  have key : ∀ {i k : Nat} {s t : T_api_Step}, way[i]? = some s → way[k]? = some t → s.El = t.El → ¬ i < k := by
    intro i k s t hs ht e hik
    obtain ⟨t', h1, _, h3, _⟩ := h.2.2 k (lt_of_get ht)
    rw [ht] at h1; cases h1
    exact h3 i s hik hs e
  have h1 := key hs ht e
  have h2 := key ht hs e.symm
  omega
theorem ValidP.rev {l : T_api_Layout} (hJ : JoinsOk l) {way : List T_api_Step} (h : ValidP l way) : ValidP l (revS way) := by
  refine ⟨by rw [revS_len]; exact h.1, by rw [revS_len]; exact h.2.1, fun i hi => ?_⟩
  rw [revS_len] at hi
  obtain ⟨s, hs⟩ : ∃ s, way[way.length - 1 - i]? = some s := ⟨_, List.getElem?_eq_getElem (by omega)⟩
  obtain ⟨s', h1, h2, h3, h4⟩ := h.2.2 (way.length - 1 - i) (by omega)
  rw [hs] at h1; cases h1
  refine ⟨flipS s, by rw [revS_get way hi, hs]; rfl, by rw [posS_flip]; exact h2, fun k t hk ht e => ?_, fun p hp hpt => ?_⟩
  · rw [revS_get way (by omega)] at ht
    cases hq : way[way.length - 1 - k]? with
    | none => rw [hq] at ht; cases ht
    | some u =>
      rw [hq] at ht; cases ht
      have := h.apart hq hs e
      omega
  · rw [revS_get way (by omega)] at hpt
    cases hq : way[way.length - 1 - (i - 1)]? with
    | none => rw [hq] at hpt; cases hpt
    | some u =>
      rw [hq] at hpt; cases hpt
      obtain ⟨u', g1, _, _, g4⟩ := h.2.2 (way.length - 1 - (i - 1)) (by omega)
      rw [hq] at g1; cases g1
      have := g4 s (by omega) (by rw [show way.length - 1 - (i - 1) - 1 = way.length - 1 - i by omega]; exact hs)
      exact joinS_symm hJ this
theorem sumL_rev (l : T_api_Layout) : ∀ way : List T_api_Step, sumL l (revS way) = sumL l way
  | [] => rfl
  | s :: r => by
    have : revS (s :: r) = revS r ++ [flipS s] := by simp [revS_eq]
    rw [this, sumL_append, sumL_rev l r]
    have : lenOf l (flipS s) = lenOf l s := rfl
    simp only [sumL, this]; omega
theorem sub_len {α : Type} [DecidableEq α] : ∀ {a b : List α}, a.Nodup → (∀ x ∈ a, x ∈ b) → a.length ≤ b.length
  | [], _, _, _ => Nat.zero_le _
  | x :: r, b, ha, h => by
    rw [List.nodup_cons] at ha
    have hx := h x List.mem_cons_self
    have := sub_len (b := b.erase x) ha.2 fun y hy => (List.mem_erase_of_ne (fun e : y = x => ha.1 (e ▸ hy))).2 (h y (List.mem_cons_of_mem _ hy))
    rw [List.length_erase_of_mem hx] at this
    have hp := List.length_pos_of_mem hx
    simp only [List.length_cons]; omega
theorem same_len {α : Type} [DecidableEq α] {a b : List α} (ha : a.Nodup) (hb : b.Nodup) (h : ∀ x, x ∈ a ↔ x ∈ b) : a.length = b.length := by
  have h1 := sub_len ha fun x hx => (h x).1 hx
  have h2 := sub_len hb fun x hx => (h x).2 hx
  omega
end PM
