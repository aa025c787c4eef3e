/-
  THE PLAIN LAWS OF CHAPTER 9: WalkSteps, WalkParts, WalkGoesOn.
-/
import Derived.Test.YtoadiglkifiofaaDoorWalkE
namespace PM
open Go Go.RowKit

theorem legsS_need (k i o : Int) (h : o ∈ legsS k i) : (needS k i o).2 = true := by
  rcases kinds k with rfl | rfl | rfl | ⟨h1, h2, h3, h4, h5, h6⟩ <;> rcases sides4 i with rfl | rfl | rfl | rfl | ⟨g0, g1, g2, g3, g4, g5, g6, g7⟩ <;> simp [legsS, *] at h <;>
    first | (subst h; simp [needS, tab_rail_passages]) | (rcases h with rfl | rfl <;> simp [needS, tab_rail_passages])
theorem legsS_some (k i : Int) (h0 : 0 ≤ i) (h1 : i < sidesS k) : legsS k i ≠ [] := by
  unfold sidesS at h1
  split at h1
  · rename_i e; subst e
    have : i = 0 ∨ i = 1 := by omega
    rcases this with rfl | rfl <;> simp [legsS]
  · split at h1
    · rename_i e; subst e
      have : i = 0 ∨ i = 1 ∨ i = 2 := by omega
      rcases this with rfl | rfl | rfl <;> simp [legsS]
    · split at h1
      · rename_i e; subst e
        have : i = 0 ∨ i = 1 ∨ i = 2 ∨ i = 3 := by omega
        rcases this with rfl | rfl | rfl | rfl <;> simp [legsS]
      · omega
theorem branS_pos {l : T_api_Layout} {a : T_api_End} {s : T_api_Step} (h : s ∈ branS l a) : s.El = a.El ∧ s.In = a.Side ∧ (posS l s).2 = true := by
  unfold branS at h
  cases hc : hasEl l a.El with
  | false => rw [hc] at h; simp at h
  | true =>
    rw [hc] at h
    simp only [cond_true] at h
    split at h
    · rename_i x hx
      obtain ⟨o, ho, rfl⟩ := List.mem_map.1 h
      refine ⟨rfl, rfl, ?_⟩
      simp [posS, hc, hx, legsS_need _ _ _ ho]
    · cases h
theorem branS_some {l : T_api_Layout} {a : T_api_End} (h : exS l a = true) : branS l a ≠ [] := by
  have hc := exS_has h
  unfold exS at h
  simp only [Bool.and_eq_true] at h
  obtain ⟨⟨_, h0⟩, h1⟩ := h
  have h0 : 0 ≤ a.Side := of_decide_eq_true h0
  split at h1
  · rename_i x hx
    have h1 : a.Side < sidesS x.Kind := of_decide_eq_true h1
    unfold branS
    rw [hc]
    simp only [cond_true, hx]
    intro e
    exact legsS_some x.Kind a.Side h0 h1 (by simpa using e)
  · cases h1
end PM
