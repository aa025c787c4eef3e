/-
  PLAIN, LINKING A: linked balises: Valid, Overdue, equal lists.
-/
import Derived.Test.YtombbpdpmagngaaDoorDen
namespace PM
open Go Go.RowKit

/-! ### Loops -/
theorem LoopN.congr {σ ρ : Type} {f g : σ → Option (σ ⊕ ρ)} {I : σ → Prop} (h : ∀ s, I s → f s = g s ∧ ∀ t, f s = some (.inl t) → I t) {n : Nat} {s : σ} {r : ρ} (hl : LoopN f n s r) (hI : I s) : LoopN g n s r := by
  induction hl with
  | done e => exact .done ((h _ hI).1 ▸ e)
  | more e _ ih => exact .more ((h _ hI).1 ▸ e) (ih ((h _ hI).2 _ e))
theorem loopO_congr {σ ρ : Type} {f g : σ → Option (σ ⊕ ρ)} {I : σ → Prop} (h : ∀ s, I s → f s = g s ∧ ∀ t, f s = some (.inl t) → I t) {s : σ} (hI : I s) : loopO f s = loopO g s := by
  apply Option.ext
  intro r
  rw [loopO_some, loopO_some]
  refine ⟨fun ⟨n, hn⟩ => ⟨n, hn.congr h hI⟩, fun ⟨n, hn⟩ => ⟨n, hn.congr (f := g) (g := f) (fun s hs => ⟨(h s hs).1.symm, fun t ht => (h s hs).2 t ((h s hs).1.trans ht)⟩) hI⟩⟩
theorem Is.wf {S ρ : Type} {step : S → Option (S ⊕ ρ)} (I : S → Prop) (μ : S → Nat) {θ : ρ → Prop} (hs : ∀ s, I s → Is (step s) fun o => match o with | .inl t => I t ∧ μ t < μ s | .inr r => θ r) :
    ∀ (n : Nat) (s : S), μ s ≤ n → I s → Is (loopO step s) θ := by
  intro n
  induction n with
  | zero =>
    intro s hn hI
    obtain ⟨o, h1, h2⟩ := hs s hI
    cases o with
    | inl t => exact absurd h2.2 (by omega)
    | inr r => exact ⟨r, loop_done h1, h2⟩
  | succ n ih =>
    intro s hn hI
    obtain ⟨o, h1, h2⟩ := hs s hI
    cases o with
    | inl t =>
      obtain ⟨r, h3, h4⟩ := ih t (by omega) h2.1
      exact ⟨r, by rw [loop_more h1]; exact h3, h4⟩
    | inr r => exact ⟨r, loop_done h1, h2⟩
theorem prev_is {α : Type} {L : List α} {i : Nat} (hi : i < L.length) (hL : L.length ≤ 1048576) {f : α → Bool} {q : α → Prop} (hf : ∀ y, f y = true ↔ ¬ q y) :
    Is (bif decide (0 < (i : Int)) then (ixO L (w64 ((i : Int) - 1))).bind fun y => some (f y) else some false) fun b => b = true ↔ ¬ ∀ y, 0 < i → L[i - 1]? = some y → q y := by
  by_cases h0 : 0 < i
  · have hg : L[i - 1]? = some L[i - 1] := List.getElem?_eq_getElem (by omega)
    rw [decide_eq_true (by omega), cond_true, w64_of (by omega) (by omega), show (i : Int) - 1 = ((i - 1 : Nat) : Int) by omega, ixO_nat hg]
    simp only [Option.bind_some]
    refine Is.val ?_
    rw [hf]
    exact ⟨fun h q => h (q _ h0 hg), fun h q => h fun y _ hy => by rw [hg] at hy; cases hy; exact q⟩
  · rw [decide_eq_false (by omega), cond_false]
    exact Is.val (iff_of_false Bool.false_ne_true fun h => h fun y h1 => absurd h1 h0)
theorem cond_some' {α : Type} {b : Bool} {x y : α} : (bif b then some x else some y) = some (bif b then x else y) := by cases b <;> rfl

theorem bindId {x : Option Bool} : (x.bind fun r => some r) = x := by cases x <;> rfl
theorem eqLoop {α : Type} {eqf : α → α → Bool} (heq : ∀ x y, eqf x y = true ↔ x = y) {L M : List α} (h : L.length ≤ 1048576) {step : Int → Option (Int ⊕ (Unit ⊕ Bool))}
    (hs : ∀ x3, step x3 = bif decide (x3 < ((L.length : Nat) : Int)) then ((ixO L x3).bind fun x6 => (ixO M x3).bind fun x7 => bif (!(eqf x6 x7)) then some (.inr (.inr false)) else some (.inl (w64 (x3 + 1)))) else some (.inr (.inl ()))) :
    Is (bif (!(decide (((L.length : Nat) : Int) = ((M.length : Nat) : Int)))) then some false else onInl (α := Unit) (β := Bool) (loopO step 0) fun _ => some true) fun b => b = true ↔ L = M := by
  refine Is.ifn (p := L.length = M.length) (by rw [decide_eq_true_iff]; omega) (fun hl => Is.val (iff_of_false Bool.false_ne_true fun e => hl (congrArg _ e))) (fun hl => ?_)
  refine Is.all (L := L) (fun i x => M[i]? = some x) () (by omega) (fun i x hx hi _ => ?_) (by rw [hs]; simp) (fun hn => Is.val (iff_of_true rfl ?_))
  · rw [hs]
    have hg : M[i]? = some M[i] := List.getElem?_eq_getElem (by omega)
    refine Is.inb hi (Is.at hx (Is.at hg ?_))
    refine Is.ifn (heq _ _) (fun hb => Is.val (iff_of_false Bool.false_ne_true fun e => ?_)) (fun hb => Is.val ⟨rfl, by rw [hg, hb]⟩)
    subst e; rw [hg] at hx; cases hx; exact hb rfl
  · apply List.ext_getElem?
    intro i
    cases hx : L[i]? with
    | some x => exact (hn i x hx).symm
    | none => exact (List.getElem?_eq_none (by have := List.getElem?_eq_none_iff.1 hx; omega)).symm
/-! ### Linked balises -/
/-! ### The laws of Valid and Overdue -/
theorem clamp_nat (a : Int) (n : Nat) : ∃ i : Nat, i ≤ n ∧ max 0 (min a (n : Int)) = (i : Int) := ⟨(max 0 (min a (n : Int))).toNat, by omega, by omega⟩
end PM
