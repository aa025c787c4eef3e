/-
  PLAIN, BODY C: what movements keep.
-/
import Derived.Test.YtoknlpdkocemfaaGreatDoorBodyB
import Derived.Test.YtoknlpdkocemfaaGreatDoorWalkG
namespace PM
open Go Go.RowKit

theorem ValidP.has {l : T_api_Layout} {way : List T_api_Step} (h : ValidP l way) {s : T_api_Step} (hs : s ∈ way) : hasEl l s.El = true := by
  obtain ⟨i, hi, e⟩ := List.mem_iff_getElem.1 hs
  obtain ⟨t, h1, h2, -⟩ := h.2.2 i hi
  rw [List.getElem?_eq_getElem hi, e] at h1
  cases h1
  exact pos_has h2
theorem ValidP.ne {l : T_api_Layout} {way : List T_api_Step} (h : ValidP l way) : way ≠ [] := by
  rintro rfl; have := h.1; simp at this
theorem OkL.lens {l : T_api_Layout} (hl : OkL l) {s : T_api_Step} (h : hasEl l s.El = true) : 500 ≤ lenOf l s ∧ lenOf l s ≤ 1000000 := by
  obtain ⟨x, h1, h2⟩ := hasEl_get h
  have := hl.elem.1 x (List.mem_of_getElem? h2)
  simp only [lenOf, h, h2, cond_true, Option.map_some, Option.getD_some]
  exact this.2.1
theorem OkL.sum {l : T_api_Layout} (hl : OkL l) : ∀ {way : List T_api_Step}, (∀ s ∈ way, hasEl l s.El = true) → 0 ≤ sumL l way ∧ sumL l way ≤ 1000000 * way.length
  | [], _ => by simp [sumL]
  | s :: r, h => by
    have h1 := hl.lens (h s (by simp))
    have h2 := hl.sum (way := r) fun t ht => h t (by simp [ht])
    simp only [sumL, List.length_cons]; omega
theorem OkL.last {l : T_api_Layout} (hl : OkL l) {way : List T_api_Step} (h : ValidP l way) : 500 ≤ lastLen l way ∧ lastLen l way ≤ 1000000 := by
  have := List.getLast?_eq_some_getLast h.ne
  simp only [lastLen, this]
  exact hl.lens (h.has (List.getLast_mem h.ne))
end PM
