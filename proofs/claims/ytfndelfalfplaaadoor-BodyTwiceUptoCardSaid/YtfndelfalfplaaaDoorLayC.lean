/-
  PLAIN, LAYOUT C: elements, joints, signals, balises: the program's check returns the first error.
-/
import Derived.Test.YtfndelfalfplaaaDoorLayB
namespace PM
open Go Go.RowKit

instance (priority := 1) endDec : DecidableEq T_api_End := fun x y => decidable_of_iff _ (eqEnd_iff x y)

theorem right_within (l : T_api_Layout) (x : T_api_Element) (h : l.Sections.length ≤ 1048576) :
    (RightP l x ↔ ((((1 ≤ x.Kind ∧ x.Kind ≤ 3) ∧ (500 ≤ x.Length ∧ x.Length ≤ 1000000)) ∧ (-50 ≤ x.Grade ∧ x.Grade ≤ 50)) ∧ (100 ≤ x.Speed ∧ x.Speed ≤ 10000)) ∧ (0 ≤ x.Section ∧ x.Section ≤ w64 (((l.Sections.length : Nat) : Int) - 1)) ∧
      ¬ ((x.Kind = 2 ∧ ¬ (100 ≤ x.Slow ∧ x.Slow ≤ x.Speed)) ∨ (x.Kind ≠ 2 ∧ x.Slow ≠ 0))) := by
  rw [w64_of (by omega) (by omega)]
  unfold RightP
  by_cases h2 : x.Kind = 2 <;> simp [h2] <;> omega
/-- The indexes of the elements of a section. -/
def memS (s : Int) (L : List T_api_Element) : Nat → List Int
  | 0 => []
  | n + 1 => memS s L n ++ (match L[n]? with | some x => if x.Section = s then [(n : Int)] else [] | none => [])
theorem memS_len (s : Int) (L : List T_api_Element) : ∀ n, (memS s L n).length ≤ n
  | 0 => Nat.le_refl _
  | n + 1 => by
    have ih := memS_len s L n
    simp only [memS, List.length_append]
    split
    · split <;> simp <;> omega
    · simp; omega
theorem memS_mem {s : Int} {L : List T_api_Element} {k : Int} : ∀ {n}, k ∈ memS s L n ↔ ∃ i x, i < n ∧ L[i]? = some x ∧ x.Section = s ∧ k = (i : Nat)
  | 0 => by simp [memS]
  | n + 1 => by
    simp only [memS, List.mem_append, memS_mem (n := n)]
    constructor
    · rintro (⟨i, x, h1, h2⟩ | h)
      · exact ⟨i, x, by omega, h2⟩
      · split at h
        · rename_i x hx
          split at h
          · rename_i hs
            exact ⟨n, x, by omega, hx, hs, by simpa using h⟩
          · cases h
        · cases h
    · rintro ⟨i, x, h1, h2, h3, h4⟩
      by_cases e : i = n
      · subst e
        right
        rw [h2]
        simp [h3, h4]
      · exact .inl ⟨i, x, by omega, h2, h3, h4⟩
theorem memS_nil {s : Int} {L : List T_api_Element} : (memS s L L.length).length = 0 ↔ ¬ ∃ x ∈ L, x.Section = s := by
  rw [List.length_eq_zero_iff, List.eq_nil_iff_forall_not_mem]
  constructor
  · rintro h ⟨x, hx, e⟩
    obtain ⟨i, hi⟩ := List.getElem?_of_mem hx
    exact h i (memS_mem.2 ⟨i, x, lt_of_get hi, hi, e, rfl⟩)
  · rintro h k hk
    obtain ⟨i, x, _, h2, h3, _⟩ := memS_mem.1 hk
    exact h ⟨x, List.mem_of_getElem? h2, h3⟩
def membersS (l : T_api_Layout) (s : Int) : List Int := if 0 ≤ s ∧ s < (l.Sections.length : Nat) then memS s l.Elements l.Elements.length else []
theorem ref07_Members_eq {l : T_api_Layout} (h : l.Elements.length ≤ 1048576) (s : Int) : d_ref07_Members l s = some (membersS l s) := by
  suffices hs : Is (d_ref07_Members l s) fun r => r = membersS l s by
    obtain ⟨r, h1, h2⟩ := hs; rw [h1, h2]
  unfold d_ref07_Members
  refine Is.fold (L := l.Elements) (mk := fun i m => (i, m)) (fun i m => m = if 0 ≤ s ∧ s < (l.Sections.length : Nat) then memS s l.Elements i else []) [] (by omega) (by simp [memS]) (fun i x m hx hi hI => ?_) (fun m hI => ?_)
  · unfold d_ref07_Members_0
    refine Is.inb hi ?_
    refine Is.onInl (θ := fun o => o = .inl (if 0 ≤ s ∧ s < (l.Sections.length : Nat) then memS s l.Elements (i + 1) else [])) (Is.at hx ?_) (fun v hv => ?_) (fun b hb => by cases hb)
    · simp only [cond_some, Option.bind_some, Bool.cond_false_right]
      refine Is.ite (p := x.Section = s ∧ 0 ≤ s ∧ s < (l.Sections.length : Nat)) (by simp; omega) (fun hc => ?_) (fun hc => Is.val ?_)
      · rw [if_pos hc.2] at hI ⊢
        have := memS_len s l.Elements i
        refine Is.bind (Is.app (by subst hI; simp only [List.length_cons, List.length_nil, sizeMax, Enc.b]; omega)) fun M hM => Is.val ?_
        rw [hM, hI]; simp [memS, hx, hc.1]
      · subst hI
        by_cases hr : 0 ≤ s ∧ s < (l.Sections.length : Nat)
        · have : ¬ x.Section = s := fun e => hc ⟨e, hr⟩
          rw [if_pos hr, if_pos hr]; simp [memS, hx, this]
        · rw [if_neg hr, if_neg hr]
    · cases hv; exact Is.val ⟨_, rfl, rfl⟩
  · unfold d_ref07_Members_0
    exact Is.oub (Is.val (Is.val hI))
theorem members_used {l : T_api_Layout} {s : Nat} (h : s < l.Sections.length) : (((membersS l (s : Int)).length : Nat) : Int) = 0 ↔ ¬ ∃ x ∈ l.Elements, x.Section = (s : Nat) := by
  rw [membersS, if_pos (by omega)]
  rw [← memS_nil]; omega
/-! ### Ends -/
theorem sidesS_le (a : Int) : 0 ≤ sidesS a ∧ sidesS a ≤ 4 := by
  unfold sidesS; (repeat' split) <;> omega
def jf (L : List T_api_Joint) (e : T_api_End) : Option T_api_End := (L.find? fun j => eq_T_api_End j.A e || eq_T_api_End j.B e).map fun j => bif eq_T_api_End j.A e then j.B else j.A
theorem jf_join (l : T_api_Layout) (e : T_api_End) : joinS l e = match jf l.Joints e with | some f => (f, true) | none => (⟨0, 0⟩, false) := by
  unfold joinS jf
  cases l.Joints.find? fun j => eq_T_api_End j.A e || eq_T_api_End j.B e <;> rfl
theorem jf_snoc (L : List T_api_Joint) (j : T_api_Joint) (e : T_api_End) : jf (L ++ [j]) e = (jf L e).or (jf [j] e) := by
  unfold jf
  rw [List.find?_append]
  cases L.find? fun j => eq_T_api_End j.A e || eq_T_api_End j.B e <;> simp
theorem jf_isSome {L : List T_api_Joint} {e : T_api_End} : (jf L e).isSome = true ↔ e ∈ endsOf L := by
  unfold jf
  rw [Option.isSome_map, List.find?_isSome]
  simp only [Bool.or_eq_true, eqEnd_iff, endsOf, List.mem_flatMap, List.mem_cons, List.not_mem_nil, or_false]
  exact ⟨fun ⟨x, h1, h2⟩ => ⟨x, h1, h2.imp Eq.symm Eq.symm⟩, fun ⟨x, h1, h2⟩ => ⟨x, h1, h2.imp Eq.symm Eq.symm⟩⟩
theorem endSelf (e : T_api_End) : eq_T_api_End e e = true := (eqEnd_iff e e).2 rfl
theorem eqEnd_ne {e f : T_api_End} (h : e ≠ f) : eq_T_api_End e f = false := by
  cases q : eq_T_api_End e f
  · rfl
  · exact absurd ((eqEnd_iff e f).1 q) h
theorem jf_one (j : T_api_Joint) (h : j.A ≠ j.B) (e : T_api_End) : jf [j] e = if e = j.B then some j.A else if e = j.A then some j.B else none := by
  by_cases h1 : e = j.B
  · subst h1
    simp [jf, endSelf, eqEnd_ne h]
  · rw [if_neg h1]
    by_cases h2 : e = j.A
    · subst h2
      simp [jf, endSelf]
    · simp [jf, eqEnd_ne (Ne.symm h1), eqEnd_ne (Ne.symm h2), h2]
/-! ### Signals -/
def sigF (L : List T_api_Signal) (e : T_api_End) : Int := match L.findIdx? fun s => eq_T_api_End s.At e with | some i => (i : Nat) | none => -1
theorem sigF_some {L : List T_api_Signal} {e : T_api_End} {i : Nat} {x : T_api_Signal} (hx : L[i]? = some x) (hi : x.At = e) (hp : ∀ j y, j < i → L[j]? = some y → y.At ≠ e) : sigF L e = (i : Nat) := by
  have : L.findIdx? (fun s => eq_T_api_End s.At e) = some i := by
    obtain ⟨h1, h2⟩ := List.getElem?_eq_some_iff.1 hx
    rw [List.findIdx?_eq_some_iff_getElem]
    refine ⟨h1, by rw [h2, hi]; exact endSelf e, fun j hj => ?_⟩
    rw [eqEnd_ne (hp j L[j] hj (List.getElem?_eq_getElem (by omega)))]; simp
  rw [sigF, this]
theorem sigF_none {L : List T_api_Signal} {e : T_api_End} (h : ∀ s ∈ L, s.At ≠ e) : sigF L e = -1 := by
  have : L.findIdx? (fun s => eq_T_api_End s.At e) = none := by
    rw [List.findIdx?_eq_none_iff]
    exact fun s hs => eqEnd_ne (h s hs)
  rw [sigF, this]
theorem sigF_nodup {L : List T_api_Signal} : (∀ (i : Nat) x, L[i]? = some x → sigF L x.At = (i : Nat)) ↔ (L.map (·.At)).Nodup := by
  constructor
  · intro h
    rw [List.Nodup, List.pairwise_map, List.pairwise_iff_getElem]
    intro i j hi hj hij e
    have h1 := h i L[i] (List.getElem?_eq_getElem hi)
    have h2 := h j L[j] (List.getElem?_eq_getElem hj)
    rw [e] at h1; omega
  · intro h i x hx
    refine sigF_some hx rfl fun j y hj hy e => ?_
    rw [List.Nodup, List.pairwise_map, List.pairwise_iff_getElem] at h
    obtain ⟨h1, h2⟩ := List.getElem?_eq_some_iff.1 hx
    obtain ⟨h3, h4⟩ := List.getElem?_eq_some_iff.1 hy
    exact h j i h3 h1 hj (by rw [h2, h4]; exact e)
theorem layout_Section_eq (l : T_api_Layout) (i : Int) : d_layout_Section l i = some (secE l i) := by
  unfold d_layout_Section secE
  simp only [cond_some, Option.bind_some, Bool.cond_true_left]
  have e : (decide (i < 0) || decide (((l.Elements.length : Nat) : Int) ≤ i)) = !hasEl l i := by
    unfold hasEl; rw [Bool.eq_iff_iff]; simp
  rw [e]
  cases h : hasEl l i with
  | false => rfl
  | true =>
    obtain ⟨x, h2, h3⟩ := hasEl_get h
    simp [h2, h3]
/-! ### Balises -/
theorem hasEl_iff {l : T_api_Layout} {i : Int} (h : l.Elements.length ≤ 1048576) : (0 ≤ i ∧ i ≤ w64 (((l.Elements.length : Nat) : Int) - 1)) ↔ hasEl l i = true := by
  rw [w64_of (by omega) (by omega)]; simp [hasEl]; omega
end PM
