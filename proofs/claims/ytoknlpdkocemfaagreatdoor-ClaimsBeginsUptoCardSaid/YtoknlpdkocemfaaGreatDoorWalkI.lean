/-
  PLAIN, WALK I: the reference's ways, lengths and sections; both sections.
-/
import Derived.Test.YtoknlpdkocemfaaGreatDoorWalkH
namespace PM
open Go Go.RowKit

theorem ref09_need_eq (l : T_api_Layout) (s : T_api_Step) : d_ref09_need l s = some (posS l s) := by
  unfold d_ref09_need posS
  rw [ref09_exists_eq]
  simp only [Option.bind_some]
  cases h : hasEl l s.El with
  | false => rfl
  | true =>
    obtain ⟨x, h1, h2⟩ := hasEl_get h
    simp [h1, h2, d_ref06_Need_eq]
theorem ref09_Valid_in (way : List T_api_Step) (h : way.length ≤ 1048576) {i : Nat} {s : T_api_Step} (hs : way[i]? = some s) : Is (loopO (d_ref09_Valid_1 way i) 0) fun o => match o with
    | .inl _ => ∀ k t, k < i → way[k]? = some t → t.El ≠ s.El
    | .inr x => x = .inr (.inr false) ∧ ∃ k t, k < i ∧ way[k]? = some t ∧ t.El = s.El := by
  have hi := lt_of_get hs
  refine Is.loop (mk := fun (i : Nat) (_ : Unit) => (i : Int)) i (fun j _ => ∀ k t, k < j → way[k]? = some t → t.El ≠ s.El) () (fun k t hk => by omega) ?_ ?_
  · rintro j m hj hI
    unfold d_ref09_Valid_1
    refine Is.cond (fun _ => ?_) (fun hb => by simp at hb; omega)
    refine Is.bind (Is.ixn (Nat.lt_trans hj hi)) fun t ht => Is.bind (Is.ixn hi) fun u hu => ?_
    rw [hs] at hu; cases hu
    refine Is.cond (fun hb => ?_) (fun hb => ?_)
    · exact Is.val ⟨rfl, j, t, hj, ht, by simpa using hb⟩
    · refine Is.val ⟨(), by rw [w64n (by omega)], fun k u hk hu => ?_⟩
      by_cases e : k = j
      · subst e; rw [ht] at hu; cases hu; simpa using hb
      · exact hI k u (by omega) hu
  · rintro m hI
    unfold d_ref09_Valid_1
    exact Is.cond (fun hb => by simp at hb) (fun _ => Is.val hI)
theorem ref09_Valid_is (l : T_api_Layout) (way : List T_api_Step) (hl : l.Joints.length ≤ 1048576) (h : way.length ≤ 1048576) : Is (d_ref09_Valid l way) fun b => b = true ↔ ValidP l way := by
  unfold d_ref09_Valid
  refine Is.bind (φ := fun b => b = true ↔ (way.length = 0 ∨ 64 < way.length)) ?_ fun b hb => ?_
  · refine Is.cond (fun hb => Is.val ?_) (fun hb => Is.val ?_)
    · have : ((way.length : Nat) : Int) = 0 := of_decide_eq_true hb
      simp only [true_iff]; omega
    · have : ¬ ((way.length : Nat) : Int) = 0 := of_decide_eq_false hb
      rw [decide_eq_true_iff]; omega
  refine Is.cond (fun hb' => Is.val ?_) (fun hb' => ?_)
  · have := hb.1 hb'
    simp only [Bool.false_eq_true, ValidP, false_iff]
    omega
  · have hlen : ¬ (way.length = 0 ∨ 64 < way.length) := fun e => by rw [hb.2 e] at hb'; cases hb'
    refine Is.onInl (θ := fun o => match o with | .inl _ => ∀ i, i < way.length → goodAt l way i | .inr b => b = false ∧ ∃ i, i < way.length ∧ ¬ goodAt l way i) ?_ ?_ ?_
    · refine Is.loop (mk := fun (i : Nat) (_ : Unit) => (i : Int)) way.length (fun i _ => ∀ j, j < i → goodAt l way j) () (fun j hj => by omega) ?_ ?_
      · rintro i m hi hI
        unfold d_ref09_Valid_0
        refine Is.cond (fun _ => ?_) (fun hb => by simp at hb; omega)
        refine Is.bind (Is.ixn hi) fun s hs => ?_
        rw [ref09_need_eq]
        refine Is.bind (Is.eq rfl) fun r hr => ?_
        subst hr
        refine Is.cond (fun hb => Is.val ⟨rfl, i, hi, ?_⟩) (fun hb => ?_)
        · rintro ⟨s', h1, h2, _⟩
          rw [hs] at h1; cases h1
          rw [h2] at hb; cases hb
        have hpos : (posS l s).2 = true := by simpa using hb
        refine Is.onInl (θ := fun o => match o with | .inl _ => (∀ p, 0 < i → way[i - 1]? = some p → joinS l ⟨p.El, p.Out⟩ = (⟨s.El, s.In⟩, true)) | .inr x => x = .inr (.inr false) ∧ ¬ goodAt l way i) ?_ ?_ ?_
        · refine Is.cond (fun h0 => ?_) (fun h0 => Is.val fun p hp => ?_)
          · have hi0 : 0 < i := by have : (0 : Int) < i := of_decide_eq_true h0
                                   omega
            have e : w64 ((i : Int) - 1) = ((i - 1 : Nat) : Int) := by rw [w64_of (by omega) (by omega)]; omega
            rw [e]
            refine Is.bind (Is.ixn (by omega)) fun p hp => ?_
            rw [ref09_Next_eq hl]
            refine Is.bind (Is.eq rfl) fun r hr => ?_
            subst hr
            refine Is.bind (φ := fun b => b = true ↔ ((joinS l ⟨p.El, p.Out⟩).2 = false ∨ (joinS l ⟨p.El, p.Out⟩).1.El ≠ s.El)) ?_ fun b1 hb1 => ?_
            · refine Is.cond (fun hc => Is.val ?_) (fun hc => ?_)
              · simp at hc; simp [hc]
              · simp at hc
                refine Is.bind (Is.ixn hi) fun u hu => Is.val ?_
                rw [hs] at hu; cases hu
                simp [hc]
            refine Is.bind (φ := fun b => b = true ↔ ((joinS l ⟨p.El, p.Out⟩).2 = false ∨ (joinS l ⟨p.El, p.Out⟩).1.El ≠ s.El ∨ (joinS l ⟨p.El, p.Out⟩).1.Side ≠ s.In)) ?_ fun b2 hb2 => ?_
            · refine Is.cond (fun hc => Is.val ?_) (fun hc => ?_)
              · rcases hb1.1 hc with e | e <;> simp [e]
              · have hc' : ¬ ((joinS l ⟨p.El, p.Out⟩).2 = false ∨ (joinS l ⟨p.El, p.Out⟩).1.El ≠ s.El) := fun e => by rw [hb1.2 e] at hc; cases hc
                refine Is.bind (Is.ixn hi) fun u hu => Is.val ?_
                rw [hs] at hu; cases hu
                have h1 : ¬ (joinS l ⟨p.El, p.Out⟩).2 = false := fun e => hc' (.inl e)
                have h2 : ¬ (joinS l ⟨p.El, p.Out⟩).1.El ≠ s.El := fun e => hc' (.inr e)
                constructor
                · intro e
                  exact .inr (.inr (by simpa using e))
                · rintro (e | e | e)
                  · exact absurd e h1
                  · exact absurd e h2
                  · simpa using e
            refine Is.cond (fun hc => Is.val ⟨rfl, ?_⟩) (fun hc => Is.val fun p' _ hp' => ?_)
            · rintro ⟨s', h1, _, _, h4⟩
              rw [hs] at h1; cases h1
              have := h4 p hi0 hp
              rcases hb2.1 hc with e | e | e
              · rw [this] at e; cases e
              · rw [this] at e; exact e rfl
              · rw [this] at e; exact e rfl
            · rw [hp] at hp'; cases hp'
              have hc' : ¬ ((joinS l ⟨p.El, p.Out⟩).2 = false ∨ (joinS l ⟨p.El, p.Out⟩).1.El ≠ s.El ∨ (joinS l ⟨p.El, p.Out⟩).1.Side ≠ s.In) := fun e => by rw [hb2.2 e] at hc; cases hc
              cases hq : joinS l ⟨p.El, p.Out⟩ with
              | mk e z =>
                cases e
                rw [hq] at hc'
                simp_all
          · have : ¬ (0 : Int) < i := of_decide_eq_false h0
            omega
        · intro v hv
          refine Is.onInl (ref09_Valid_in way h hs) ?_ ?_
          · intro w hw
            refine Is.val ⟨(), by rw [w64n (by omega)], fun j hj => ?_⟩
            by_cases e : j = i
            · subst e; exact ⟨s, hs, hpos, hw, hv⟩
            · exact hI j (by omega)
          · rintro x ⟨rfl, k, t, hk, ht, he⟩
            refine ⟨rfl, i, hi, ?_⟩
            rintro ⟨s', h1, _, h3, _⟩
            rw [hs] at h1; cases h1
            exact h3 k t hk ht he
        · rintro x ⟨rfl, hn⟩
          exact ⟨rfl, i, hi, hn⟩
      · rintro m hI
        unfold d_ref09_Valid_0
        exact Is.cond (fun hb => by simp at hb) (fun _ => Is.val hI)
    · rintro v hv
      refine Is.val ?_
      simp only [true_iff, ValidP]
      exact ⟨by omega, by omega, hv⟩
    · rintro b ⟨rfl, i, hi, hn⟩
      simp only [Bool.false_eq_true, false_iff, ValidP]
      exact fun e => hn (e.2.2 i hi)
theorem ref09_Length_eq (l : T_api_Layout) (way : List T_api_Step) (h : way.length ≤ 1048576) : d_ref09_Length l way = some (w64 (sumL l way)) := by
  unfold d_ref09_Length
  have : Is (loopO (d_ref09_Length_0 l way) (0, 0)) fun o => o = .inl (w64 (sumL l way)) := by
    refine Is.loop (mk := fun (i : Nat) (x : Int) => (x, (i : Int))) way.length (fun i x => x = w64 (sumL l (way.take i))) 0 rfl ?_ ?_
    · rintro i x hi rfl
      unfold d_ref09_Length_0
      refine Is.cond (fun _ => ?_) (fun hb => by simp at hb; omega)
      refine Is.onInl (θ := fun o => o = .inl (w64 (sumL l (way.take (i + 1))))) ?_ ?_ ?_
      · refine Is.bind (Is.ixn hi) fun s hs => ?_
        have e : sumL l (way.take (i + 1)) = sumL l (way.take i) + lenOf l s := by
          rw [take_snoc hs, sumL_append]; simp [sumL]
        rw [ref09_exists_eq]
        refine Is.bind (Is.eq rfl) fun b hb => ?_
        refine Is.cond (fun hb' => ?_) (fun hb' => ?_)
        · subst hb
          refine Is.bind (Is.ixn hi) fun s' hs' => ?_
          rw [hs] at hs'; cases hs'
          obtain ⟨x, h1, h2⟩ := hasEl_get hb'
          refine Is.bind (Is.eq h1) fun y hy => ?_
          subst hy
          refine Is.val ?_
          rw [e, w64_w64]
          simp [lenOf, hb', h2]
        · subst hb
          refine Is.val ?_
          rw [e]
          simp [lenOf, hb']
      · rintro v hv
        cases hv
        exact Is.val ⟨_, by rw [w64n (by omega)], rfl⟩
      · intro b hb; cases hb
    · rintro x rfl
      unfold d_ref09_Length_0
      refine Is.cond (fun hb => by simp at hb) (fun _ => Is.val ?_)
      rw [List.take_length]
  obtain ⟨o, h1, rfl⟩ := this
  simp [h1, onInl, onOut]
end PM
