/-
  PLAIN, WALK H: reverses, sections, lists without repetitions, settings.
-/
import Derived.Test.YtoadiglkifiofaaDoorWalkD
namespace PM
open Go Go.RowKit
theorem snoc_ind {α : Type} {p : List α → Prop} (h0 : p []) (h1 : ∀ l x, p l → p (l ++ [x])) (l : List α) : p l := by
  have key : ∀ m : List α, p m.reverse := by
    intro m
    induction m with
    | nil => exact h0
    | cons x m ih => rw [List.reverse_cons]; exact h1 _ _ ih
  have := key l.reverse
  rwa [List.reverse_reverse] at this
section
variable {α : Type} [DecidableEq α]
def ddStep (acc : List α) (x : α) : List α := if acc.getLast? = some x then acc else acc ++ [x]
def ddS (l : List α) : List α := l.foldl ddStep []
theorem ddS_snoc (l : List α) (x : α) : ddS (l ++ [x]) = ddStep (ddS l) x := by simp [ddS, List.foldl_append]
theorem ddS_last (l : List α) : (ddS l).getLast? = l.getLast? := by
  induction l using snoc_ind with
  | h0 => rfl
  | h1 l x ih =>
    rw [ddS_snoc, ddStep]
    split
    · rename_i h; rw [h]; simp
    · simp
theorem ddS_len (l : List α) : (ddS l).length ≤ l.length := by
  induction l using snoc_ind with
  | h0 => simp [ddS]
  | h1 l x ih =>
    rw [ddS_snoc, ddStep]
    split
    · simp; omega
    · simp; omega
theorem ddS_mem (l : List α) (x : α) : x ∈ ddS l ↔ x ∈ l := by
  induction l using snoc_ind with
  | h0 => simp [ddS]
  | h1 l y ih =>
    rw [ddS_snoc, ddStep]
    split
    · rename_i h
      rw [ih, List.mem_append, List.mem_singleton]
      constructor
      · exact .inl
      · rintro (h1 | rfl)
        · exact h1
        · rw [ddS_last] at h
          exact List.mem_of_getLast? h
    · simp [ih]
theorem ddS_strict {lt : α → α → Bool} (tr : ∀ x y z, lt x y = true → lt y z = true → lt x z = true) (tot : ∀ x y, lt y x = false → x = y ∨ lt x y = true) (l : List α) (h : l.Pairwise fun x y => lt y x = false) : (ddS l).Pairwise fun x y => lt x y = true := by
  induction l using snoc_ind with
  | h0 => simp [ddS]
  | h1 l y ih =>
    rw [List.pairwise_append] at h
    obtain ⟨h1, _, h2⟩ := h
    have ih' := ih h1
    rw [ddS_snoc, ddStep]
    split
    · exact ih'
    · rename_i hne
      rw [List.pairwise_append]
      refine ⟨ih', by simp, fun x hx z hz => ?_⟩
      simp only [List.mem_singleton] at hz
      subst hz
      -- the last element of what is kept
      obtain ⟨m, hm⟩ : ∃ m, (ddS l).getLast? = some m := by
        cases hd : ddS l with
        | nil => rw [hd] at hx; cases hx
        | cons a r => exact ⟨_, List.getLast?_eq_some_getLast (List.cons_ne_nil _ _)⟩
      have hml : m ∈ l := by rw [ddS_last] at hm; exact List.mem_of_getLast? hm
      have hmz : lt m z = true := by
        rcases tot m z (h2 m hml z (by simp)) with e | e
        · subst e; exact absurd hm hne
        · exact e
      by_cases hxm : x = m
      · subst hxm; exact hmz
      · have hsplit : ∃ a, ddS l = a ++ [m] := by
          refine ⟨(ddS l).dropLast, ?_⟩
          have hne' : ddS l ≠ [] := fun e => by rw [e] at hx; cases hx
          have := List.dropLast_concat_getLast hne'
          rw [List.getLast?_eq_some_getLast hne'] at hm
          cases hm
          exact this.symm
        obtain ⟨a, ha⟩ := hsplit
        rw [ha] at hx ih'
        rw [List.pairwise_append] at ih'
        rcases List.mem_append.1 hx with hx | hx
        · exact tr x m z (ih'.2.2 x hx m (by simp)) hmz
        · exact absurd (by simpa using hx) hxm
theorem strict_unique {lt : α → α → Bool} (ir : ∀ x, lt x x = false) (tr : ∀ x y z, lt x y = true → lt y z = true → lt x z = true) : ∀ (a b : List α), a.Pairwise (fun x y => lt x y = true) → b.Pairwise (fun x y => lt x y = true) → (∀ x, x ∈ a ↔ x ∈ b) → a = b
  | [], [], _, _, _ => rfl
  | [], y :: b, _, _, h => absurd ((h y).2 (by simp)) (by simp)
  | x :: a, [], _, _, h => absurd ((h x).1 (by simp)) (by simp)
  | x :: a, y :: b, ha, hb, h => by
    rw [List.pairwise_cons] at ha hb
    have hxy : x = y := by
      have h1 := (h x).1 (by simp)
      have h2 := (h y).2 (by simp)
      rcases List.mem_cons.1 h1 with e | h1
      · exact e
      · rcases List.mem_cons.1 h2 with e | h2
        · exact e.symm
        · have := tr _ _ _ (hb.1 x h1) (ha.1 y h2)
          rw [ir] at this; cases this
    subst hxy
    have hnx : ∀ {l : List α}, (∀ z ∈ l, lt x z = true) → x ∉ l := fun hl hm => by
      have := hl x hm
      rw [ir] at this; cases this
    rw [strict_unique ir tr a b ha.2 hb.2 fun z => ?_]
    by_cases hz : z = x
    · subst hz; exact ⟨fun q => absurd q (hnx ha.1), fun q => absurd q (hnx hb.1)⟩
    · have := h z
      simpa [hz] using this
end
end PM
