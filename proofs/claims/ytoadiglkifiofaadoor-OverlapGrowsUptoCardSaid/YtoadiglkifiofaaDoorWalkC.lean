/-
  PLAIN, WALK C: lengths and ways.
-/
import Derived.Test.YtoadiglkifiofaaDoorWalkB
namespace PM
open Go Go.RowKit

def lenOf (l : T_api_Layout) (s : T_api_Step) : Int := bif hasEl l s.El then ((l.Elements[s.El.toNat]?).map (·.Length)).getD 0 else 0
def sumL (l : T_api_Layout) : List T_api_Step → Int
  | [] => 0
  | s :: r => lenOf l s + sumL l r
theorem sumL_append (l : T_api_Layout) : ∀ a b : List T_api_Step, sumL l (a ++ b) = sumL l a + sumL l b
  | [], b => by simp [sumL]
  | s :: r, b => by simp only [List.cons_append, sumL, sumL_append l r b]; omega
theorem walk_Length_eq (l : T_api_Layout) (way : List T_api_Step) (h : way.length ≤ 1048576) : d_walk_Length l way = some (w64 (sumL l way)) := by
  unfold d_walk_Length
  have : Is (loopO (d_walk_Length_0 l way) (0, 0)) fun o => o = .inl (w64 (sumL l way)) := by
    refine Is.loop (mk := fun (i : Nat) (x : Int) => (x, (i : Int))) way.length (fun i x => x = w64 (sumL l (way.take i))) 0 rfl ?_ ?_
    · rintro i x hi rfl
      unfold d_walk_Length_0
      refine Is.cond (fun _ => ?_) (fun hb => by simp at hb; omega)
      refine Is.onInl (θ := fun o => o = .inl (w64 (sumL l (way.take (i + 1))))) ?_ ?_ ?_
      · refine Is.bind (Is.ixn hi) fun s hs => ?_
        have e : sumL l (way.take (i + 1)) = sumL l (way.take i) + lenOf l s := by
          rw [List.take_add_one, hs, Option.toList_some, sumL_append]; simp [sumL]
        rw [walk_exists_eq]
        refine Is.bind (Is.eq rfl) fun b hb => ?_
        refine Is.cond (fun hb' => ?_) (fun hb' => ?_)
        · subst hb
          obtain ⟨x, h1, h2⟩ := hasEl_get hb'
          refine Is.bind (Is.eq h1) fun y hy => ?_
          subst hy
          refine Is.val ?_
          rw [e, w64_w64]
          simp [lenOf, hb', h2]
        · subst hb
          refine Is.val ?_
          rw [e]
          simp [lenOf, hb']
      · rintro v hv
        cases hv
        exact Is.val ⟨_, by rw [w64n (by omega)], rfl⟩
      · intro b hb; cases hb
    · rintro x rfl
      unfold d_walk_Length_0
      refine Is.cond (fun hb => by simp at hb) (fun _ => Is.val ?_)
      rw [List.take_length]
  obtain ⟨o, h1, rfl⟩ := this
  simp [h1, onInl, onOut]
def goodAt (l : T_api_Layout) (way : List T_api_Step) (i : Nat) : Prop :=
  ∃ s, way[i]? = some s ∧ (posS l s).2 = true ∧ (∀ k t, k < i → way[k]? = some t → t.El ≠ s.El) ∧ (∀ p, 0 < i → way[i - 1]? = some p → joinS l ⟨p.El, p.Out⟩ = (⟨s.El, s.In⟩, true))
def ValidP (l : T_api_Layout) (way : List T_api_Step) : Prop := 1 ≤ way.length ∧ way.length ≤ 64 ∧ ∀ i, i < way.length → goodAt l way i
end PM
