/-
  PLAIN, A: reading plain functions printed from the program: loops over lists, sums that do not overflow.
-/
import Derived.Test.YtaoagcnjefialaaDoorPmO
import Derived.IntWalk
namespace PM
open Go Go.RowKit

theorem w64_of {n : Int} (h1 : -9223372036854775808 ≤ n) (h2 : n ≤ 9223372036854775807) : w64 n = n := IntWalk.i64_in n ⟨h1, h2⟩
section
variable {α β σ ρ S : Type}
theorem ixO_nat {L : List α} {i : Nat} {x : α} (h : L[i]? = some x) : ixO L (i : Int) = some x := by
  unfold ixO
  rw [if_pos (by omega)]
  simpa using h
theorem lt_of_get {L : List α} {i : Nat} {x : α} (h : L[i]? = some x) : i < L.length := (List.getElem?_eq_some_iff.1 h).1
theorem loop_more {step : S → Option (S ⊕ ρ)} {s s' : S} (h : step s = some (.inl s')) : loopO step s = loopO step s' := by rw [loopO_eq, h]; rfl
theorem loop_done {step : S → Option (S ⊕ ρ)} {s : S} {r : ρ} (h : step s = some (.inr r)) : loopO step s = some r := by rw [loopO_eq, h]; rfl
theorem loop_none {step : S → Option (S ⊕ ρ)} {s : S} (h : step s = none) : loopO step s = none := by rw [loopO_eq, h]; rfl
/-- A loop over the elements of a list: g tells what one element does (a new state, or an early end), fin what is left at the end. -/
def forL (g : Nat → α → σ → Option (σ ⊕ ρ)) (fin : σ → ρ) : List α → Nat → σ → Option ρ
  | [], _, s => some (fin s)
  | x :: xs, i, s => match g i x s with
    | some (.inl s') => forL g fin xs (i + 1) s'
    | some (.inr r) => some r
    | none => none
theorem loop_forFrom {step : S → Option (S ⊕ ρ)} (mk : Nat → σ → S) (g : Nat → α → σ → Option (σ ⊕ ρ)) (fin : σ → ρ) (L : List α)
    (hs : ∀ i x s, L[i]? = some x → step (mk i s) = match g i x s with | some (.inl s') => some (.inl (mk (i + 1) s')) | some (.inr r) => some (.inr r) | none => none)
    (he : ∀ s, step (mk L.length s) = some (.inr (fin s))) : ∀ (n i : Nat) (s : σ), i + n = L.length → loopO step (mk i s) = forL g fin (L.drop i) i s := by
  intro n
  induction n with
  | zero =>
    intro i s h
    have : i = L.length := by omega
    subst this
    rw [loop_done (he s), List.drop_length]; rfl
  | succ n ih =>
    intro i s h
    have hi : i < L.length := by omega
    have hd : L.drop i = L[i] :: L.drop (i + 1) := List.drop_eq_getElem_cons hi
    have h1 := hs i L[i] s (List.getElem?_eq_getElem hi)
    rw [hd, forL]
    cases hg : g i L[i] s with
    | none => rw [hg] at h1; rw [loop_none h1]
    | some o =>
      rw [hg] at h1
      cases o with
      | inl s' => rw [loop_more h1]; exact ih (i + 1) s' (by omega)
      | inr r => rw [loop_done h1]
theorem loop_for {step : S → Option (S ⊕ ρ)} (mk : Nat → σ → S) (g : Nat → α → σ → Option (σ ⊕ ρ)) (fin : σ → ρ) (L : List α) (s : σ)
    (hs : ∀ i x s, L[i]? = some x → step (mk i s) = match g i x s with | some (.inl s') => some (.inl (mk (i + 1) s')) | some (.inr r) => some (.inr r) | none => none)
    (he : ∀ s, step (mk L.length s) = some (.inr (fin s))) : loopO step (mk 0 s) = forL g fin L 0 s := by
  have := loop_forFrom mk g fin L hs he L.length 0 s (by omega)
  simpa using this
/-- A loop, n rounds of it laid out. -/
noncomputable def unroll (step : S → Option (S ⊕ ρ)) : Nat → S → Option ρ
  | 0, s => loopO step s
  | n + 1, s => (step s).bind fun o => match o with | .inl s' => unroll step n s' | .inr r => some r
theorem loopO_unroll (n : Nat) (step : S → Option (S ⊕ ρ)) (s : S) : loopO step s = unroll step n s := by
  induction n generalizing s with
  | zero => rfl
  | succ n ih =>
    rw [loopO_eq, unroll]
    cases step s with
    | none => rfl
    | some o => cases o with
      | inl s' => exact ih s'
      | inr r => rfl
/-- A search: the first element of which p holds ends it. -/
theorem forL_find (p : α → Bool) (r : α → ρ) (d : ρ) : ∀ (L : List α) (i : Nat), forL (fun _ x (_ : Unit) => bif p x then some (.inr (r x)) else some (.inl ())) (fun _ => d) L i () = some (match L.find? p with | some x => r x | none => d)
  | [], _ => rfl
  | x :: xs, i => by
    rw [forL, List.find?_cons]
    cases h : p x
    · exact forL_find p r d xs (i + 1)
    · rfl
theorem loop_find {step : Int → Option (Int ⊕ ρ)} (p : α → Bool) (r : α → ρ) (d : ρ) (L : List α) (hL : L.length < 9223372036854775807)
    (hs : ∀ (i : Nat) x, L[i]? = some x → step (i : Int) = bif p x then some (.inr (r x)) else some (.inl (w64 ((i : Int) + 1)))) (he : step (L.length : Int) = some (.inr d)) :
    loopO step 0 = some (match L.find? p with | some x => r x | none => d) := by
  have := loop_for (step := step) (fun i (_ : Unit) => (i : Int)) (fun _ x (_ : Unit) => bif p x then some (.inr (r x)) else some (.inl ())) (fun _ => d) L () (fun i x s h => ?_) (fun _ => he)
  · rw [← forL_find p r d L 0, ← this]; rfl
  · rw [hs i x h, w64_of (by omega) (by have := lt_of_get h; omega)]
    cases p x <;> rfl
theorem cond_bind {b : Bool} {x y : Option α} {f : α → Option β} : (bif b then x else y).bind f = bif b then x.bind f else y.bind f := by cases b <;> rfl
end
end PM
