/-
  PLAIN, WALK K: the laws of chapter 9 about measures, reverses and settings.
-/
import Derived.Test.YtpiejhjhalnaaaaDoorWalkJ
import Derived.Test.YtpiejhjhalnaaaaDoorWalkE
namespace PM
open Go Go.RowKit

/-! ### Joints are symmetric -/
theorem endsOf_mem {L : List T_api_Joint} {j : T_api_Joint} (h : j ∈ L) : j.A ∈ endsOf L ∧ j.B ∈ endsOf L := by
  simp only [endsOf, List.mem_flatMap]
  exact ⟨⟨j, h, by simp⟩, ⟨j, h, by simp⟩⟩
theorem endsOf_one : ∀ {L : List T_api_Joint}, (endsOf L).Nodup → ∀ {j k : T_api_Joint} {x : T_api_End}, j ∈ L → k ∈ L → (j.A = x ∨ j.B = x) → (k.A = x ∨ k.B = x) → j = k
  | [], _, _, _, _, hj, _, _, _ => by cases hj
  | a :: L, hn, j, k, x, hj, hk, ej, ek => by
    have hn' : (a.A :: a.B :: endsOf L).Nodup := hn
    rw [List.nodup_cons, List.nodup_cons] at hn'
    obtain ⟨h1, h2, h3⟩ := hn'
    have out : ∀ {m : T_api_Joint}, m ∈ L → (m.A = x ∨ m.B = x) → ¬ (a.A = x ∨ a.B = x) := by
      intro m hm em ea
      have hx : x ∈ endsOf L := by
        rcases em with e | e
        · exact e ▸ (endsOf_mem hm).1
        · exact e ▸ (endsOf_mem hm).2
      rcases ea with e | e
      · exact h1 (by rw [e]; exact List.mem_cons_of_mem _ hx)
      · exact h2 (by rw [e]; exact hx)
    rcases List.mem_cons.1 hj with e1 | hj' <;> rcases List.mem_cons.1 hk with e2 | hk'
    · rw [e1, e2]
    · exact absurd (e1 ▸ ej) (out hk' ek)
    · exact absurd (e2 ▸ ek) (out hj' ej)
    · exact endsOf_one h3 hj' hk' ej ek
theorem endsOf_ne : ∀ {L : List T_api_Joint}, (endsOf L).Nodup → ∀ {j : T_api_Joint}, j ∈ L → j.A ≠ j.B
  | [], _, _, hj => by cases hj
  | a :: L, hn, j, hj => by
    have hn' : (a.A :: a.B :: endsOf L).Nodup := hn
    rw [List.nodup_cons, List.nodup_cons] at hn'
    rcases List.mem_cons.1 hj with e | hj'
    · subst e; exact fun e => hn'.1 (by rw [e]; exact List.mem_cons_self)
    · exact endsOf_ne hn'.2.2 hj'
theorem joinS_symm {l : T_api_Layout} (hJ : JoinsOk l) {e f : T_api_End} (h : joinS l e = (f, true)) : joinS l f = (e, true) := by
  obtain ⟨j, hj, hc⟩ : ∃ j, j ∈ l.Joints ∧ ((j.A = e ∧ j.B = f) ∨ (j.B = e ∧ j.A = f)) := by
    unfold joinS at h
    cases hf : l.Joints.find? fun j => eq_T_api_End j.A e || eq_T_api_End j.B e with
    | none => rw [hf] at h; simp at h
    | some j =>
      rw [hf] at h
      simp only at h
      have hp := List.find?_some hf
      have hm := List.mem_of_find?_eq_some hf
      refine ⟨j, hm, ?_⟩
      cases hA : eq_T_api_End j.A e with
      | true =>
        rw [hA] at h; simp at h
        exact .inl ⟨(eqEnd_iff _ _).1 hA, h⟩
      | false =>
        rw [hA] at h hp; simp at h hp
        exact .inr ⟨(eqEnd_iff _ _).1 hp, h⟩
  have hfj : j.A = f ∨ j.B = f := by
    rcases hc with ⟨_, e⟩ | ⟨_, e⟩
    · exact .inr e
    · exact .inl e
  unfold joinS
  cases hf : l.Joints.find? fun j => eq_T_api_End j.A f || eq_T_api_End j.B f with
  | none =>
    have := List.find?_eq_none.1 hf j hj
    simp only [Bool.or_eq_true, eqEnd_iff] at this
    exact absurd hfj this
  | some k =>
    have hp := List.find?_some hf
    have hm := List.mem_of_find?_eq_some hf
    simp only [Bool.or_eq_true, eqEnd_iff] at hp
    have : k = j := endsOf_one hJ.2 hm hj hp hfj
    subst this
    have hne := endsOf_ne hJ.2 hm
    simp only
    rcases hc with ⟨e1, e2⟩ | ⟨e1, e2⟩
    · have : eq_T_api_End k.A f = false := by
        cases hq : eq_T_api_End k.A f with
        | false => rfl
        | true => exact absurd ((eqEnd_iff _ _).1 hq) (e2 ▸ hne)
      rw [this, e1]; rfl
    · rw [(eqEnd_iff k.A f).2 e2, e1]; rfl
/-! ### The reverse of a way -/
theorem rawS_mem (l : T_api_Layout) (way : List T_api_Step) (x : T_api_Setting) : x ∈ rawS l way ↔ ∃ s ∈ way, setOf l s = some x := by
  rw [rawS, List.mem_filterMap]
/-! ### The laws -/
end PM
