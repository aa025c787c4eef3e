/-
  THE PLAIN LAWS OF CHAPTER 9: WalkSteps, WalkParts, WalkGoesOn.
-/
import Derived.Test.YtfndelfalfplaaaDoorWalkE
namespace PM
open Go Go.RowKit

theorem eqEnd_self (e : T_api_End) : eq_T_api_End e e = true := (eqEnd_iff e e).2 rfl
theorem w64_three (a b c : Int) : w64 (w64 (w64 a + w64 b) + w64 c) = w64 (a + b + c) := by
  show IntKind.i64.wrap (IntKind.i64.wrap (IntKind.i64.wrap a + IntKind.i64.wrap b) + IntKind.i64.wrap c) = IntKind.i64.wrap (a + b + c)
  simp only [IntKind.wrap_i64]; omega
theorem valid_part {l : T_api_Layout} {way : List T_api_Step} (h : ValidP l way) {f t : Nat} (h1 : f < t) (h2 : t ≤ way.length) : ValidP l ((way.take t).drop f) := by
  have hlen : ((way.take t).drop f).length = t - f := by rw [List.length_drop, List.length_take, Nat.min_eq_left h2]
  have hget : ∀ i, i < t - f → ((way.take t).drop f)[i]? = way[f + i]? := fun i hi => by rw [List.getElem?_drop, List.getElem?_take, if_pos (by omega)]
  refine ⟨by omega, by have := h.2.1; omega, fun i hi => ?_⟩
  rw [hlen] at hi
  obtain ⟨s, g1, g2, g3, g4⟩ := h.2.2 (f + i) (by omega)
  refine ⟨s, by rw [hget i hi]; exact g1, g2, fun k u hk hu => ?_, fun p hp hu => ?_⟩
  · rw [hget k (by omega)] at hu
    exact g3 (f + k) u (by omega) hu
  · rw [hget (i - 1) (by omega)] at hu
    exact g4 p (by omega) (by rwa [show f + i - 1 = f + (i - 1) by omega])
theorem legsS_need (k i o : Int) (h : o ∈ legsS k i) : (needS k i o).2 = true := by
  rcases kinds k with rfl | rfl | rfl | ⟨h1, h2, h3, h4, h5, h6⟩ <;> rcases sides4 i with rfl | rfl | rfl | rfl | ⟨g0, g1, g2, g3, g4, g5, g6, g7⟩ <;> simp [legsS, *] at h <;>
    first | (subst h; simp [needS, tab_rail_passages]) | (rcases h with rfl | rfl <;> simp [needS, tab_rail_passages])
theorem legsS_some (k i : Int) (h0 : 0 ≤ i) (h1 : i < sidesS k) : legsS k i ≠ [] := by
  unfold sidesS at h1
  split at h1
  · rename_i e; subst e
    have : i = 0 ∨ i = 1 := by omega
    rcases this with rfl | rfl <;> simp [legsS]
  · split at h1
    · rename_i e; subst e
      have : i = 0 ∨ i = 1 ∨ i = 2 := by omega
      rcases this with rfl | rfl | rfl <;> simp [legsS]
    · split at h1
      · rename_i e; subst e
        have : i = 0 ∨ i = 1 ∨ i = 2 ∨ i = 3 := by omega
        rcases this with rfl | rfl | rfl | rfl <;> simp [legsS]
      · omega
theorem branS_pos {l : T_api_Layout} {a : T_api_End} {s : T_api_Step} (h : s ∈ branS l a) : s.El = a.El ∧ s.In = a.Side ∧ (posS l s).2 = true := by
  unfold branS at h
  cases hc : hasEl l a.El with
  | false => rw [hc] at h; simp at h
  | true =>
    rw [hc] at h
    simp only [cond_true] at h
    split at h
    · rename_i x hx
      obtain ⟨o, ho, rfl⟩ := List.mem_map.1 h
      refine ⟨rfl, rfl, ?_⟩
      simp [posS, hc, hx, legsS_need _ _ _ ho]
    · cases h
theorem branS_some {l : T_api_Layout} {a : T_api_End} (h : exS l a = true) : branS l a ≠ [] := by
  have hc := exS_has h
  unfold exS at h
  simp only [Bool.and_eq_true] at h
  obtain ⟨⟨_, h0⟩, h1⟩ := h
  have h0 : 0 ≤ a.Side := of_decide_eq_true h0
  split at h1
  · rename_i x hx
    have h1 : a.Side < sidesS x.Kind := of_decide_eq_true h1
    unfold branS
    rw [hc]
    simp only [cond_true, hx]
    intro e
    exact legsS_some x.Kind a.Side h0 h1 (by simpa using e)
  · cases h1
/-- A way and one step more. -/
theorem valid_more {l : T_api_Layout} {way : List T_api_Step} (h : ValidP l way) (h64 : way.length < 64) {p s : T_api_Step} (hp : way[way.length - 1]? = some p) {a : T_api_End} (ha : joinS l ⟨p.El, p.Out⟩ = (a, true)) (hs : s ∈ branS l a) :
    ValidP l (way ++ [s]) ↔ ∀ t ∈ way, t.El ≠ a.El := by
  obtain ⟨b1, b2, b3⟩ := branS_pos hs
  have hlen := h.1
  constructor
  · rintro ⟨_, _, h3⟩ t ht
    obtain ⟨u, g1, _, g3, _⟩ := h3 way.length (by simp)
    have : u = s := by simpa using g1.symm
    subst this
    obtain ⟨k, hk⟩ := List.getElem?_of_mem ht
    have hkl := (List.getElem?_eq_some_iff.1 hk).1
    have := g3 k t hkl (by rw [List.getElem?_append_left hkl]; exact hk)
    rwa [b1] at this
  · intro hn
    refine ⟨by simp, by simp; omega, fun i hi => ?_⟩
    by_cases e : i < way.length
    · obtain ⟨u, g1, g2, g3, g4⟩ := h.2.2 i e
      refine ⟨u, by rw [List.getElem?_append_left e]; exact g1, g2, fun k t hk ht => g3 k t hk (by rwa [List.getElem?_append_left (by omega)] at ht), fun q hq hu => g4 q hq (by rwa [List.getElem?_append_left (by omega)] at hu)⟩
    · have : i = way.length := by simp at hi; omega
      subst this
      refine ⟨s, by simp, b3, fun k t hk ht => ?_, fun q hq hu => ?_⟩
      · rw [List.getElem?_append_left hk] at ht
        rw [b1]; exact hn t (List.mem_of_getElem? ht)
      · rw [List.getElem?_append_left (by omega), hp] at hu
        cases hu
        rw [ha]
        cases a
        simp only at b1 b2
        rw [b1, b2]
end PM
