/-
  PLAIN, LAYOUT C: elements, joints, signals, balises: the program's check returns the first error.
-/
import Derived.Test.YtcobolgkboknbaaDoorLayB
namespace PM
open Go Go.RowKit

instance (priority := 1) endDec : DecidableEq T_api_End := fun x y => decidable_of_iff _ (eqEnd_iff x y)

def memS (s : Int) (L : List T_api_Element) : Nat → List Int
  | 0 => []
  | n + 1 => memS s L n ++ (match L[n]? with | some x => if x.Section = s then [(n : Int)] else [] | none => [])
theorem memS_len (s : Int) (L : List T_api_Element) : ∀ n, (memS s L n).length ≤ n
  | 0 => Nat.le_refl _
  | n + 1 => by
    have ih := memS_len s L n
    simp only [memS, List.length_append]
    split
    · split <;> simp <;> omega
    · simp; omega
theorem memS_mem {s : Int} {L : List T_api_Element} {k : Int} : ∀ {n}, k ∈ memS s L n ↔ ∃ i x, i < n ∧ L[i]? = some x ∧ x.Section = s ∧ k = (i : Nat)
  | 0 => by simp [memS]
  | n + 1 => by
    simp only [memS, List.mem_append, memS_mem (n := n)]
    constructor
    · rintro (⟨i, x, h1, h2⟩ | h)
      · exact ⟨i, x, by omega, h2⟩
      · split at h
        · rename_i x hx
          split at h
          · rename_i hs
            exact ⟨n, x, by omega, hx, hs, by simpa using h⟩
          · cases h
        · cases h
    · rintro ⟨i, x, h1, h2, h3, h4⟩
      by_cases e : i = n
      · subst e
        right
        rw [h2]
        simp [h3, h4]
      · exact .inl ⟨i, x, by omega, h2, h3, h4⟩
theorem memS_nil {s : Int} {L : List T_api_Element} : (memS s L L.length).length = 0 ↔ ¬ ∃ x ∈ L, x.Section = s := by
  rw [List.length_eq_zero_iff, List.eq_nil_iff_forall_not_mem]
  constructor
  · rintro h ⟨x, hx, e⟩
    obtain ⟨i, hi⟩ := List.getElem?_of_mem hx
    exact h i (memS_mem.2 ⟨i, x, lt_of_get hi, hi, e, rfl⟩)
  · rintro h k hk
    obtain ⟨i, x, _, h2, h3, _⟩ := memS_mem.1 hk
    exact h ⟨x, List.mem_of_getElem? h2, h3⟩
def membersS (l : T_api_Layout) (s : Int) : List Int := if 0 ≤ s ∧ s < (l.Sections.length : Nat) then memS s l.Elements l.Elements.length else []
theorem ref07_Members_eq {l : T_api_Layout} (h : l.Elements.length ≤ 1048576) (s : Int) : d_ref07_Members l s = some (membersS l s) := by
  suffices hs : Is (d_ref07_Members l s) fun r => r = membersS l s by
    obtain ⟨r, h1, h2⟩ := hs; rw [h1, h2]
  unfold d_ref07_Members
  refine Is.fold (L := l.Elements) (mk := fun i m => (i, m)) (fun i m => m = if 0 ≤ s ∧ s < (l.Sections.length : Nat) then memS s l.Elements i else []) [] (by omega) (by simp [memS]) (fun i x m hx hi hI => ?_) (fun m hI => ?_)
  · unfold d_ref07_Members_0
    refine Is.inb hi ?_
    refine Is.onInl (θ := fun o => o = .inl (if 0 ≤ s ∧ s < (l.Sections.length : Nat) then memS s l.Elements (i + 1) else [])) (Is.at hx ?_) (fun v hv => ?_) (fun b hb => by cases hb)
    · simp only [cond_some, Option.bind_some, Bool.cond_false_right]
      refine Is.ite (p := x.Section = s ∧ 0 ≤ s ∧ s < (l.Sections.length : Nat)) (by simp; omega) (fun hc => ?_) (fun hc => Is.val ?_)
      · rw [if_pos hc.2] at hI ⊢
        have := memS_len s l.Elements i
        refine Is.bind (Is.app (by subst hI; simp only [List.length_cons, List.length_nil, sizeMax, Enc.b]; omega)) fun M hM => Is.val ?_
        rw [hM, hI]; simp [memS, hx, hc.1]
      · subst hI
        by_cases hr : 0 ≤ s ∧ s < (l.Sections.length : Nat)
        · have : ¬ x.Section = s := fun e => hc ⟨e, hr⟩
          rw [if_pos hr, if_pos hr]; simp [memS, hx, this]
        · rw [if_neg hr, if_neg hr]
    · cases hv; exact Is.val ⟨_, rfl, rfl⟩
  · unfold d_ref07_Members_0
    exact Is.oub (Is.val (Is.val hI))
theorem members_used {l : T_api_Layout} {s : Nat} (h : s < l.Sections.length) : (((membersS l (s : Int)).length : Nat) : Int) = 0 ↔ ¬ ∃ x ∈ l.Elements, x.Section = (s : Nat) := by
  rw [membersS, if_pos (by omega)]
  rw [← memS_nil]; omega
end PM
