/-
  PLAIN, WALK H: reverses, sections, lists without repetitions, settings.
-/
import Derived.Test.YtnnhdhijidpfkaaDoorWalkD
namespace PM
open Go Go.RowKit
section
variable {α : Type} [DecidableEq α]
end
def revS (way : List T_api_Step) : List T_api_Step := way.reverse.map fun s => ⟨s.El, s.Out, s.In⟩
theorem rev_take {α : Type} {L : List α} {i : Nat} {x : α} (h : L[i]? = some x) : (L.drop i).reverse = (L.drop (i + 1)).reverse ++ [x] := by
  have hi := lt_of_get h
  rw [List.drop_eq_getElem_cons hi]
  have : L[i] = x := by rw [List.getElem?_eq_getElem hi] at h; exact Option.some.inj h
  rw [List.reverse_cons, this]
theorem Is.down {σ ρ S : Type} {step : S → Option (S ⊕ ρ)} (mk : Int → σ → S) (n : Nat) (I : Nat → σ → Prop) {θ : ρ → Prop} (s0 : σ) (h0 : I n s0) (hs : ∀ i s, i < n → I (i + 1) s → Is (step (mk (i : Int) s)) fun o => match o with | .inl t => ∃ s', t = mk ((i : Int) - 1) s' ∧ I i s' | .inr r => θ r) (he : ∀ s, I 0 s → Is (step (mk (-1) s)) fun o => match o with | .inl _ => False | .inr r => θ r) : Is (loopO step (mk ((n : Int) - 1) s0)) θ := by
  have key : ∀ n s, (∀ i s, i < n → I (i + 1) s → Is (step (mk (i : Int) s)) fun o => match o with | .inl t => ∃ s', t = mk ((i : Int) - 1) s' ∧ I i s' | .inr r => θ r) → I n s → Is (loopO step (mk ((n : Int) - 1) s)) θ := by
    intro n
    induction n with
    | zero =>
      intro s _ hI
      obtain ⟨o, e, h⟩ := he s hI
      cases o with
      | inl t => exact h.elim
      | inr r => exact ⟨r, loop_done (by simpa using e), h⟩
    | succ n ih =>
      intro s hs hI
      obtain ⟨o, e, h⟩ := hs n s (by omega) hI
      have e' : step (mk (((n + 1 : Nat) : Int) - 1) s) = some o := by rw [← e]; congr 2; omega
      cases o with
      | inr r => exact ⟨r, loop_done e', h⟩
      | inl t =>
        obtain ⟨s', rfl, h'⟩ := h
        rw [loop_more e']
        exact ih s' (fun i s hi => hs i s (by omega)) h'
  exact key n s0 hs h0
theorem rev_app (way : List T_api_Step) (h : way.length ≤ 1048576) {i : Nat} {x : T_api_Step} (hx : way[i]? = some x) : Is (appO (revS (way.drop (i + 1))) [(⟨x.El, x.Out, x.In⟩ : T_api_Step)]) fun M => M = revS (way.drop i) := by
  have hl : (revS (way.drop (i + 1))).length ≤ 1048576 := by simp [revS]; omega
  refine (Is.app (by simp [Enc.b, sizeMax]; omega)).mono fun M e => ?_
  rw [e]; simp only [revS]; rw [rev_take hx]; simp
theorem ref09_Reverse_eq (way : List T_api_Step) (h : way.length ≤ 1048576) : d_ref09_Reverse way = some (revS way) := by
  unfold d_ref09_Reverse
  have hw : w64 (((way.length : Nat) : Int) - 1) = (way.length : Int) - 1 := w64_of (by omega) (by omega)
  rw [hw]
  have hloop := Is.down (step := d_ref09_Reverse_0 way) (mk := fun i s => (i, s)) way.length (fun i s => s = revS (way.drop i)) (θ := fun o => o = .inl (revS way)) ([] : List T_api_Step) (by simp [revS])
    (fun i s hi hI => by
      subst hI
      unfold d_ref09_Reverse_0
      have h0 : decide (0 ≤ (i : Int)) = true := decide_eq_true (by omega)
      simp only [h0, cond_true]
      refine Is.bind (Is.ixn hi) fun x hx => ?_
      refine Is.bind (Is.ixn hi) fun y hy => ?_
      refine Is.bind (Is.ixn hi) fun z hz => ?_
      rw [hx] at hy hz; cases hy; cases hz
      refine Is.bind (rev_app way h hx) fun M hM => ?_
      subst hM
      exact Is.val ⟨_, by rw [w64_of (by omega) (by omega)], rfl⟩)
    (fun s hI => by
      subst hI
      unfold d_ref09_Reverse_0
      exact Is.val (by simp))
  obtain ⟨o, e, rfl⟩ := hloop
  rw [e]; rfl
end PM
