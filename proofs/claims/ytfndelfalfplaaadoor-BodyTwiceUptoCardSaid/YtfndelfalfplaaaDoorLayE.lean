/-
  PLAIN, LAYOUT E: what a valid layout is; the statements LayoutChecks and LayoutJoins.
-/
import Derived.Test.YtfndelfalfplaaaDoorLayD
namespace PM
open Go Go.RowKit

structure OkL (l : T_api_Layout) : Prop where
  counts : CountsP l
  names : NamesP l
  dist : DistP l
  elem : ElemP l
  joint : JointP l
  ends : (endsOf l.Joints).Nodup
  sig : SigP l
  sigd : (l.Signals.map (·.At)).Nodup
  safe : SafeP l
  bal : BalP l
  bald : (l.Balises.map (·.Id)).Nodup
theorem chk_ok (l : T_api_Layout) : chk l = 0 ↔ OkL l := by
  constructor
  · intro h
    unfold chk at h
    by_cases h1 : CountsP l
    · by_cases h2 : NamesP l
      · by_cases h3 : DistP l
        · by_cases h4 : ElemP l
          · by_cases h5 : JointP l
            · by_cases h6 : (endsOf l.Joints).Nodup
              · by_cases h7 : SigP l
                · by_cases h8 : (l.Signals.map (·.At)).Nodup
                  · by_cases h9 : SafeP l
                    · by_cases h10 : BalP l
                      · by_cases h11 : (l.Balises.map (·.Id)).Nodup
                        · exact ⟨h1, h2, h3, h4, h5, h6, h7, h8, h9, h10, h11⟩
                        · simp [h1, h2, h3, h4, h5, h6, h7, h8, h9, h10, h11] at h
                      · simp [h1, h2, h3, h4, h5, h6, h7, h8, h9, h10] at h
                    · simp [h1, h2, h3, h4, h5, h6, h7, h8, h9] at h
                  · simp [h1, h2, h3, h4, h5, h6, h7, h8] at h
                · simp [h1, h2, h3, h4, h5, h6, h7] at h
              · simp [h1, h2, h3, h4, h5, h6] at h
            · simp [h1, h2, h3, h4, h5] at h
          · simp [h1, h2, h3, h4] at h
        · simp [h1, h2, h3] at h
      · simp [h1, h2] at h
    · simp [h1] at h
  · rintro ⟨h1, h2, h3, h4, h5, h6, h7, h8, h9, h10, h11⟩
    simp [chk, h1, h2, h3, h4, h5, h6, h7, h8, h9, h10, h11]
theorem ref07_Check_eq {l : T_api_Layout} (h : Sm l) : d_ref07_Check l = some (chk l) := by
  obtain ⟨r, h1, rfl⟩ := ref07_Check_val h; exact h1
/-- A loop over the numbers below n. -/
theorem Is.cnt {A β : Type} {step : Int → Option (Int ⊕ (A ⊕ β))} {K : A → Option β} {ψ : β → Prop} (n : Nat) (P : Nat → Prop) (v : A) (hn : n < 9223372036854775807)
    (hs : ∀ (i : Nat), i < n → (∀ j, j < i → P j) → Is (step (i : Int)) fun o => match o with | .inl t => t = w64 ((i : Int) + 1) ∧ P i | .inr (.inl _) => False | .inr (.inr b) => ψ b)
    (he : step (n : Int) = some (.inr (.inl v)))
    (hk : (∀ i, i < n → P i) → Is (K v) ψ) : Is (PM.onInl (loopO step 0) K) ψ := by
  refine Is.all (L := List.range n) (fun i _ => P i) v (by simpa using hn) (fun i x hx hi hp => ?_) (by simpa using he) (fun h => hk fun i hi => h i i (by rw [List.getElem?_range hi]))
  have hi : i < n := by simpa using hi
  refine (hs i hi fun j hj => hp j j hj (by rw [List.getElem?_range (by omega)])).mono fun o ho => ?_
  rcases o with t | t | b
  · exact ho
  · exact ho
  · exact ho
theorem Is.ub {α : Type} {x y : Option α} {φ : α → Prop} {i n : Int} (h : i < n) (hx : Is x φ) : Is (bif decide (i < n) then x else y) φ := by
  rw [decide_eq_true h]; exact hx
/-! ### Joined ends -/
theorem jf_cons (j : T_api_Joint) (L : List T_api_Joint) (e : T_api_End) : jf (j :: L) e = if e = j.A then some j.B else if e = j.B then some j.A else jf L e := by
  unfold jf
  by_cases h1 : e = j.A
  · subst h1; simp [endSelf]
  · by_cases h2 : e = j.B
    · subst h2; simp [endSelf, eqEnd_ne (Ne.symm h1), h1]
    · simp [eqEnd_ne (Ne.symm h1), eqEnd_ne (Ne.symm h2), h1, h2]
theorem jf_sym : ∀ {L : List T_api_Joint}, (endsOf L).Nodup → ∀ {e f : T_api_End}, jf L e = some f → jf L f = some e ∧ f ≠ e
  | [], _, e, f, h => by simp [jf] at h
  | j :: L, hn, e, f, h => by
    have hs : endsOf (j :: L) = j.A :: j.B :: endsOf L := by simp [endsOf]
    rw [hs, List.nodup_cons, List.nodup_cons] at hn
    obtain ⟨h1, h2, h3⟩ := hn
    have hab : j.A ≠ j.B := fun q => h1 (by rw [q]; simp)
    rw [jf_cons] at h
    by_cases g1 : e = j.A
    · rw [if_pos g1] at h
      have : j.B = f := by simpa using h
      subst this; subst g1
      rw [jf_cons, if_neg (Ne.symm hab), if_pos rfl]
      exact ⟨rfl, Ne.symm hab⟩
    · rw [if_neg g1] at h
      by_cases g2 : e = j.B
      · rw [if_pos g2] at h
        have : j.A = f := by simpa using h
        subst this; subst g2
        rw [jf_cons, if_pos rfl]
        exact ⟨rfl, hab⟩
      · rw [if_neg g2] at h
        obtain ⟨h4, h5⟩ := jf_sym h3 h
        have hm : f ∈ endsOf L := jf_isSome.1 (by rw [h4]; rfl)
        rw [jf_cons, if_neg (fun q => h1 (by rw [← q]; exact List.mem_cons_of_mem _ hm)), if_neg (fun q => h2 (by rw [← q]; exact hm))]
        exact ⟨h4, h5⟩
theorem joinS_sym {l : T_api_Layout} (hn : (endsOf l.Joints).Nodup) {e : T_api_End} (h : (joinS l e).2 = true) : joinS l (joinS l e).1 = (e, true) ∧ (joinS l e).1 ≠ e := by
  rw [jf_join l e] at h ⊢
  cases hj : jf l.Joints e with
  | none => rw [hj] at h; cases h
  | some f =>
    obtain ⟨h1, h2⟩ := jf_sym hn hj
    simp only
    rw [jf_join l f, h1]
    exact ⟨rfl, h2⟩
theorem sigF_nonneg {L : List T_api_Signal} {e : T_api_End} (h : 0 ≤ sigF L e) : ∃ s ∈ L, s.At = e := by
  refine Classical.byContradiction fun hn => ?_
  have := sigF_none (L := L) (e := e) fun s hs q => hn ⟨s, hs, q⟩
  omega
end PM
