/-
  PLAIN, WALK C: lengths and ways.
-/
import Derived.Test.YtoknlpdkocemfaaGreatDoorWalkB
namespace PM
open Go Go.RowKit

def lenOf (l : T_api_Layout) (s : T_api_Step) : Int := bif hasEl l s.El then ((l.Elements[s.El.toNat]?).map (·.Length)).getD 0 else 0
def sumL (l : T_api_Layout) : List T_api_Step → Int
  | [] => 0
  | s :: r => lenOf l s + sumL l r
theorem sumL_append (l : T_api_Layout) : ∀ a b : List T_api_Step, sumL l (a ++ b) = sumL l a + sumL l b
  | [], b => by simp [sumL]
  | s :: r, b => by simp only [List.cons_append, sumL, sumL_append l r b]; omega
theorem walk_Length_eq (l : T_api_Layout) (way : List T_api_Step) (h : way.length ≤ 1048576) : d_walk_Length l way = some (w64 (sumL l way)) := by
  unfold d_walk_Length
  have : Is (loopO (d_walk_Length_0 l way) (0, 0)) fun o => o = .inl (w64 (sumL l way)) := by
    refine Is.loop (mk := fun (i : Nat) (x : Int) => (x, (i : Int))) way.length (fun i x => x = w64 (sumL l (way.take i))) 0 rfl ?_ ?_
    · rintro i x hi rfl
      unfold d_walk_Length_0
      refine Is.cond (fun _ => ?_) (fun hb => by simp at hb; omega)
      refine Is.onInl (θ := fun o => o = .inl (w64 (sumL l (way.take (i + 1))))) ?_ ?_ ?_
      · refine Is.bind (Is.ixn hi) fun s hs => ?_
        have e : sumL l (way.take (i + 1)) = sumL l (way.take i) + lenOf l s := by
          rw [List.take_add_one, hs, Option.toList_some, sumL_append]; simp [sumL]
        rw [walk_exists_eq]
        refine Is.bind (Is.eq rfl) fun b hb => ?_
        refine Is.cond (fun hb' => ?_) (fun hb' => ?_)
        · subst hb
          obtain ⟨x, h1, h2⟩ := hasEl_get hb'
          refine Is.bind (Is.eq h1) fun y hy => ?_
          subst hy
          refine Is.val ?_
          rw [e, w64_w64]
          simp [lenOf, hb', h2]
        · subst hb
          refine Is.val ?_
          rw [e]
          simp [lenOf, hb']
      · rintro v hv
        cases hv
        exact Is.val ⟨_, by rw [w64n (by omega)], rfl⟩
      · intro b hb; cases hb
    · rintro x rfl
      unfold d_walk_Length_0
      refine Is.cond (fun hb => by simp at hb) (fun _ => Is.val ?_)
      rw [List.take_length]
  obtain ⟨o, h1, rfl⟩ := this
  simp [h1, onInl, onOut]
def goodAt (l : T_api_Layout) (way : List T_api_Step) (i : Nat) : Prop :=
  ∃ s, way[i]? = some s ∧ (posS l s).2 = true ∧ (∀ k t, k < i → way[k]? = some t → t.El ≠ s.El) ∧ (∀ p, 0 < i → way[i - 1]? = some p → joinS l ⟨p.El, p.Out⟩ = (⟨s.El, s.In⟩, true))
def ValidP (l : T_api_Layout) (way : List T_api_Step) : Prop := 1 ≤ way.length ∧ way.length ≤ 64 ∧ ∀ i, i < way.length → goodAt l way i
theorem Valid_in (s : T_api_Step) (L : List T_api_Step) (h : L.length ≤ 1048576) : Is (loopO (d_walk_Valid_1 s L) 0) fun o => match o with
    | .inl _ => ∀ t ∈ L, t.El ≠ s.El
    | .inr x => x = .inr (.inr (.inr false)) ∧ ∃ t ∈ L, t.El = s.El := by
  refine Is.loop (mk := fun (i : Nat) (_ : Unit) => (i : Int)) L.length (fun i _ => ∀ k t, k < i → L[k]? = some t → t.El ≠ s.El) () (fun k t hk => by omega) ?_ ?_
  · rintro i m hi hI
    unfold d_walk_Valid_1
    refine Is.cond (fun _ => ?_) (fun hb => by simp at hb; omega)
    refine Is.bind (Is.ixn hi) fun t ht => ?_
    refine Is.cond (fun hb => ?_) (fun hb => ?_)
    · exact Is.val ⟨rfl, t, List.mem_of_getElem? ht, by simpa using hb⟩
    · refine Is.val ⟨(), by rw [w64n (by omega)], fun k u hk hu => ?_⟩
      by_cases e : k = i
      · subst e; rw [ht] at hu; cases hu; simpa using hb
      · exact hI k u (by omega) hu
  · rintro m hI
    unfold d_walk_Valid_1
    refine Is.cond (fun hb => by simp at hb) (fun _ => Is.val ?_)
    intro t ht
    obtain ⟨k, hk⟩ := List.getElem?_of_mem ht
    exact hI k t (List.getElem?_eq_some_iff.1 hk).1 hk
theorem walk_Valid_is (l : T_api_Layout) (way : List T_api_Step) (hl : l.Joints.length ≤ 1048576) (h : way.length ≤ 1048576) : Is (d_walk_Valid l way) fun b => b = true ↔ ValidP l way := by
  unfold d_walk_Valid
  refine Is.bind (φ := fun b => b = true ↔ (way.length = 0 ∨ 64 < way.length)) ?_ fun b hb => ?_
  · refine Is.cond (fun hb => Is.val ?_) (fun hb => Is.val ?_)
    · have : ((way.length : Nat) : Int) = 0 := of_decide_eq_true hb
      simp only [true_iff]; omega
    · have : ¬ ((way.length : Nat) : Int) = 0 := of_decide_eq_false hb
      rw [decide_eq_true_iff]; omega
  refine Is.cond (fun hb' => Is.val ?_) (fun hb' => ?_)
  · have := hb.1 hb'
    simp only [Bool.false_eq_true, ValidP, false_iff]
    omega
  · have hlen : ¬ (way.length = 0 ∨ 64 < way.length) := fun e => by rw [hb.2 e] at hb'; cases hb'
    simp only [d_walk_passage]
    refine Is.bind (Is.eq rfl) fun r hr => ?_
    rw [show r = l from hr]
    refine Is.onInl (θ := fun o => match o with | .inl _ => ∀ i, i < way.length → goodAt l way i | .inr b => b = false ∧ ∃ i, i < way.length ∧ ¬ goodAt l way i) ?_ ?_ ?_
    · refine Is.loop (mk := fun (i : Nat) (_ : Unit) => (i : Int)) way.length (fun i _ => ∀ j, j < i → goodAt l way j) () (fun j hj => by omega) ?_ ?_
      · rintro i m hi hI
        unfold d_walk_Valid_0
        refine Is.cond (fun _ => ?_) (fun hb => by simp at hb; omega)
        refine Is.onInl (θ := fun o => match o with | .inl _ => goodAt l way i | .inr x => x = .inr (.inr false) ∧ ¬ goodAt l way i) ?_ ?_ ?_
        · refine Is.bind (Is.ixn hi) fun s hs => ?_
          rw [walk_possible_eq]
          refine Is.bind (Is.eq rfl) fun r hr => ?_
          subst hr
          have bad : ∀ {q : Prop}, (goodAt l way i → q) → ¬ q → ¬ goodAt l way i := fun h1 h2 h3 => h2 (h1 h3)
          refine Is.cond (fun hb => Is.val ⟨rfl, ?_⟩) (fun hb => ?_)
          · rintro ⟨s', h1, h2, _⟩
            rw [hs] at h1; cases h1
            rw [h2] at hb; cases hb
          · have hpos : (posS l s).2 = true := by simpa using hb
            rw [slO_hi (Nat.le_of_lt hi)]
            refine Is.bind (Is.eq rfl) fun L hL => ?_
            subst hL
            refine Is.onInl (Valid_in s (way.take i) (by simp; omega)) ?_ ?_
            · rintro v hv
              have hd : ∀ k t, k < i → way[k]? = some t → t.El ≠ s.El := fun k t hk ht => hv t (List.mem_of_getElem? (i := k) (by rw [List.getElem?_take, if_pos hk]; exact ht))
              refine Is.cond (fun h0 => Is.val ?_) (fun h0 => ?_)
              · have : i = 0 := by have : (i : Int) = 0 := by simpa using h0
                                   omega
                exact ⟨s, hs, hpos, hd, fun p hp => by omega⟩
              · have hi0 : i ≠ 0 := by
                  have : ¬ (i : Int) = 0 := by simpa using h0
                  omega
                have e : w64 ((i : Int) - 1) = ((i - 1 : Nat) : Int) := by rw [w64_of (by omega) (by omega)]; omega
                rw [e]
                refine Is.bind (Is.ixn (by omega)) fun p hp => ?_
                rw [walk_passage_1_eq hl]
                refine Is.bind (Is.eq rfl) fun r hr => ?_
                subst hr
                refine Is.cond (fun hb => Is.val ⟨rfl, ?_⟩) (fun hb => Is.val ⟨s, hs, hpos, hd, fun p' _ hp' => ?_⟩)
                · rintro ⟨s', h1, _, _, h4⟩
                  rw [hs] at h1; cases h1
                  rw [h4 p (by omega) hp] at hb
                  simp at hb
                · rw [hp] at hp'; cases hp'
                  simp at hb
                  obtain ⟨⟨h5, h6⟩, h7⟩ := hb
                  cases hq : joinS l ⟨p.El, p.Out⟩ with
                  | mk e z =>
                    cases e
                    rw [hq] at h5 h6 h7
                    simp_all
            · rintro x ⟨rfl, t, ht, he⟩
              refine ⟨rfl, ?_⟩
              rintro ⟨s', h1, _, h3, _⟩
              rw [hs] at h1; cases h1
              obtain ⟨k, hk⟩ := List.getElem?_of_mem ht
              rw [List.getElem?_take] at hk
              split at hk
              · rename_i hki; exact h3 k t hki hk he
              · cases hk
        · rintro v hv
          refine Is.val ⟨(), by rw [w64n (by omega)], fun j hj => ?_⟩
          by_cases e : j = i
          · subst e; exact hv
          · exact hI j (by omega)
        · rintro x ⟨rfl, hv⟩
          exact ⟨rfl, i, hi, hv⟩
      · rintro m hI
        unfold d_walk_Valid_0
        refine Is.cond (fun hb => by simp at hb) (fun _ => Is.val ?_)
        exact hI
    · rintro v hv
      refine Is.val ?_
      simp only [true_iff, ValidP]
      exact ⟨by omega, by omega, hv⟩
    · rintro b ⟨rfl, i, hi, hn⟩
      simp only [Bool.false_eq_true, false_iff, ValidP]
      exact fun e => hn (e.2.2 i hi)
end PM
