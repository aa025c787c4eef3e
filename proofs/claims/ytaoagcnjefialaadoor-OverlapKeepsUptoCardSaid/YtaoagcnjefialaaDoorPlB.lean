/-
  PLAIN, B: a plain function comes to a value, and the value is such: rules along its text.
-/
import Derived.Test.YtaoagcnjefialaaDoorPlA
import Derived.Test.YtaoagcnjefialaaDoorPmO
namespace PM
open Go Go.RowKit

section
variable {α β σ ρ S : Type}
def Is (x : Option α) (φ : α → Prop) : Prop := ∃ a, x = some a ∧ φ a
theorem Is.val {a : α} {φ : α → Prop} (h : φ a) : Is (some a) φ := ⟨a, rfl, h⟩
theorem Is.mono {x : Option α} {φ ψ : α → Prop} (h : Is x φ) (hm : ∀ a, φ a → ψ a) : Is x ψ := let ⟨a, h1, h2⟩ := h; ⟨a, h1, hm a h2⟩
theorem Is.bind {x : Option α} {f : α → Option β} {φ : α → Prop} {ψ : β → Prop} (h : Is x φ) (hf : ∀ a, φ a → Is (f a) ψ) : Is (x.bind f) ψ := by
  obtain ⟨a, rfl, h2⟩ := h
  exact hf a h2
theorem Is.cond {b : Bool} {x y : Option α} {φ : α → Prop} (h1 : b = true → Is x φ) (h2 : b = false → Is y φ) : Is (bif b then x else y) φ := by
  cases b
  · exact h2 rfl
  · exact h1 rfl
theorem Is.onInl {D : Option (α ⊕ β)} {f : α → Option β} {θ : α ⊕ β → Prop} {ψ : β → Prop} (h : Is D θ) (h1 : ∀ v, θ (.inl v) → Is (f v) ψ) (h2 : ∀ b, θ (.inr b) → ψ b) : Is (onInl D f) ψ := by
  obtain ⟨o, rfl, ho⟩ := h
  cases o with
  | inl v => exact h1 v ho
  | inr b => exact ⟨b, rfl, h2 b ho⟩
theorem Is.eq {x : Option α} {a : α} (h : x = some a) : Is x (fun y => y = a) := ⟨a, h, rfl⟩
theorem Is.get {x : Option α} {φ : α → Prop} {a : α} (h : Is x φ) (e : x = some a) : φ a := by
  obtain ⟨b, rfl, h2⟩ := h
  cases e; exact h2
/-- A loop over a list: I holds ahead of each element; θ of its end. -/
theorem Is.loop {step : S → Option (S ⊕ ρ)} (mk : Nat → σ → S) (n : Nat) (I : Nat → σ → Prop) {θ : ρ → Prop} (s0 : σ) (h0 : I 0 s0)
    (hs : ∀ i s, i < n → I i s → Is (step (mk i s)) fun o => match o with | .inl t => ∃ s', t = mk (i + 1) s' ∧ I (i + 1) s' | .inr r => θ r)
    (he : ∀ s, I n s → Is (step (mk n s)) fun o => match o with | .inl _ => False | .inr r => θ r) : Is (loopO step (mk 0 s0)) θ := by
  suffices ∀ m i s, i + m = n → I i s → Is (loopO step (mk i s)) θ from this n 0 s0 (by omega) h0
  intro m
  induction m with
  | zero =>
    intro i s h hI
    have : i = n := by omega
    subst this
    obtain ⟨o, h1, h2⟩ := he s hI
    cases o with
    | inl _ => exact h2.elim
    | inr r => exact ⟨r, loop_done h1, h2⟩
  | succ m ih =>
    intro i s h hI
    obtain ⟨o, h1, h2⟩ := hs i s (by omega) hI
    cases o with
    | inl t =>
      obtain ⟨s', rfl, hI'⟩ := h2
      obtain ⟨r, h3, h4⟩ := ih (i + 1) s' (by omega) hI'
      exact ⟨r, by rw [loop_more h1]; exact h3, h4⟩
    | inr r => exact ⟨r, loop_done h1, h2⟩
theorem Is.ix {L : List α} {i : Int} (h0 : 0 ≤ i) (h1 : i < (L.length : Nat)) : Is (ixO L i) fun x => L[i.toNat]? = some x := by
  have h2 : i.toNat < L.length := by omega
  refine ⟨L[i.toNat], ?_, List.getElem?_eq_getElem h2⟩
  unfold ixO
  rw [if_pos h0, List.getElem?_eq_getElem h2]
theorem Is.ixn {L : List α} {i : Nat} (h1 : i < L.length) : Is (ixO L (i : Int)) fun x => L[i]? = some x := ⟨L[i], ixO_nat (List.getElem?_eq_getElem h1), List.getElem?_eq_getElem h1⟩
theorem Is.app [Enc α] {L ys : List α} (h : (L.length + ys.length) * Enc.b α ≤ sizeMax ∧ L.length + ys.length ≤ sizeMax) : Is (appO L ys) fun M => M = L ++ ys := ⟨L ++ ys, by unfold appO; rw [if_pos h], rfl⟩
theorem Is.six {b : ByteArray} {i : Nat} (h : i < b.size) : Is (sixO b (i : Int)) fun x => x = ((b[i]'h).toNat : Int) := by
  refine ⟨_, ?_, rfl⟩
  unfold sixO
  rw [if_pos (by omega)]
  simp only [Int.toNat_natCast]
  rw [getElem?_pos b i h]; rfl
theorem Is.mk [Enc α] {c : Int} (h : 0 ≤ c ∧ c.toNat * Enc.b α ≤ sizeMax ∧ c.toNat ≤ sizeMax) : Is (mkO α c) fun M => M = [] := ⟨[], by unfold mkO; rw [if_pos h], rfl⟩
theorem slO_eq {L : List α} {l h : Nat} (h1 : l ≤ h) (h2 : h ≤ L.length) : slO L (some (l : Int)) (some (h : Int)) none = some ((L.take h).drop l) := by
  unfold slO bndI
  simp only
  rw [if_pos (by omega), if_pos (by omega)]
  simp only [Int.toNat_natCast]
  rw [if_pos ⟨h1, h2, Nat.le_refl _⟩]
theorem slO_lo {L : List α} {l : Nat} (h1 : l ≤ L.length) : slO L (some (l : Int)) none none = some (L.drop l) := by
  unfold slO bndI
  simp only
  rw [if_pos (by omega)]
  simp only [Int.toNat_natCast]
  rw [if_pos ⟨h1, Nat.le_refl _, Nat.le_refl _⟩, List.take_length]
theorem slO_hi {L : List α} {h : Nat} (h1 : h ≤ L.length) : slO L none (some (h : Int)) none = some (L.take h) := by
  unfold slO bndI
  simp only
  rw [if_pos (by omega)]
  simp only [Int.toNat_natCast]
  rw [if_pos ⟨Nat.zero_le _, h1, Nat.le_refl _⟩, List.drop_zero]
theorem w64n {n : Nat} (h : n < 9223372036854775807) : w64 ((n : Int) + 1) = ((n + 1 : Nat) : Int) := by rw [w64_of (by omega) (by omega)]; omega
theorem w64_w64 (a b : Int) : w64 (w64 a + b) = w64 (a + b) := by
  show IntKind.i64.wrap (IntKind.i64.wrap a + b) = IntKind.i64.wrap (a + b)
  simp only [IntKind.wrap_i64]; omega
end
end PM
