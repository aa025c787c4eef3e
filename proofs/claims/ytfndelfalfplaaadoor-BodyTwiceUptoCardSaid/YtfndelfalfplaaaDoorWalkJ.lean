/-
  PLAIN, WALK J: settings.
-/
import Derived.Test.YtfndelfalfplaaaDoorWalkI
namespace PM
open Go Go.RowKit

theorem xixO_nat (o : Nat) {n i : Nat} (h : i < n) : xixO o n (i : Int) = some (o + i) := by
  unfold xixO
  rw [if_pos (by omega)]; rfl
theorem xldO_eq {α : Type} {L : List α} {n j : Nat} (h : L.length = n) : xldO L n j = L[j]? := by
  unfold xldO
  rw [if_pos h]
/-! ### Compact -/
theorem ddS_same {α : Type} [DecidableEq α] {L : List α} {j : Nat} {x : α} (h0 : 0 < j) (hx : L[j]? = some x) (hp : L[j - 1]? = some x) : ddS (L.take (j + 1)) = ddS (L.take j) := by
  rw [take_snoc hx, ddS_snoc, ddStep, ddS_last]
  have : (L.take j).getLast? = some x := by
    have e : L.take j = L.take (j - 1) ++ [x] := by
      have := take_snoc hp
      rwa [show j - 1 + 1 = j by omega] at this
    rw [e]; simp
  rw [this, if_pos rfl]
theorem ddS_other {α : Type} [DecidableEq α] {L : List α} {j : Nat} {x y : α} (h0 : 0 < j) (hx : L[j]? = some x) (hp : L[j - 1]? = some y) (hn : x ≠ y) : ddS (L.take (j + 1)) = ddS (L.take j) ++ [x] := by
  rw [take_snoc hx, ddS_snoc, ddStep, ddS_last]
  have : (L.take j).getLast? = some y := by
    have e : L.take j = L.take (j - 1) ++ [y] := by
      have := take_snoc hp
      rwa [show j - 1 + 1 = j by omega] at this
    rw [e]; simp
  rw [this, if_neg (fun e => hn (by cases e; rfl))]
/-! ### Both lists of settings -/
theorem kind_pos {l : T_api_Layout} {s : T_api_Step} {x : T_api_Element} (hx : l.Elements[s.El.toNat]? = some x) (h : (posS l s).2 = true) : (x.Kind = 2 ↔ (posS l s).1 ≠ 0) := by
  unfold posS at h ⊢
  cases hE : hasEl l s.El with
  | false => rw [hE] at h; cases h
  | true =>
    rw [hE, hx] at h
    rw [hx]
    simp only [cond_true] at h ⊢
    unfold needS at h ⊢
    cases hf : tab_rail_passages.find? (fun y => decide (y.kind_ = x.Kind) && decide (y.in_ = s.In) && decide (y.out_ = s.Out)) with
    | none => rw [hf] at h; cases h
    | some y =>
      have h1 := List.find?_some hf
      simp only [Bool.and_eq_true, decide_eq_true_eq] at h1
      have h2 : ∀ z ∈ tab_rail_passages, (z.kind_ = 2 ↔ z.need_ ≠ 0) := by decide
      have := h2 y (List.mem_of_find?_eq_some hf)
      rw [h1.1.1] at this
      exact this
theorem pos_has {l : T_api_Layout} {s : T_api_Step} (h : (posS l s).2 = true) : hasEl l s.El = true := by
  cases hE : hasEl l s.El with
  | true => rfl
  | false => unfold posS at h; rw [hE] at h; cases h
end PM
