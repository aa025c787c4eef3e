/-
  PLAIN, C: loops over lists, tests and their meaning: shorter rules.
-/
import Derived.Test.YtaoagcnjefialaaDoorPlB
namespace PM
open Go Go.RowKit

section
variable {α β σ ρ S A : Type}
theorem Is.inb {x y : Option α} {φ : α → Prop} {i n : Nat} (h : i < n) (hx : Is x φ) : Is (bif decide ((i : Int) < ((n : Nat) : Int)) then x else y) φ := by
  rw [decide_eq_true (by omega)]; exact hx
theorem Is.oub {x y : Option α} {φ : α → Prop} {n : Nat} (hy : Is y φ) : Is (bif decide (((n : Nat) : Int) < ((n : Nat) : Int)) then x else y) φ := by
  rw [decide_eq_false (by omega)]; exact hy
theorem Is.at {L : List α} {i : Nat} {x : α} {f : α → Option β} {φ : β → Prop} (h : L[i]? = some x) (hf : Is (f x) φ) : Is ((ixO L (i : Int)).bind f) φ := by
  rw [ixO_nat h]; exact hf
theorem Is.to {x : Option α} {a : α} {f : α → Option β} {φ : β → Prop} (h : x = some a) (hf : Is (f a) φ) : Is (x.bind f) φ := by rw [h]; exact hf
theorem Is.ite {x y : Option α} {φ : α → Prop} {b : Bool} {p : Prop} (hb : b = true ↔ p) (h1 : p → Is x φ) (h2 : ¬ p → Is y φ) : Is (bif b then x else y) φ := by
  cases b
  · exact h2 fun h => Bool.false_ne_true (hb.2 h)
  · exact h1 (hb.1 rfl)
theorem Is.ifn {x y : Option α} {φ : α → Prop} {b : Bool} {p : Prop} (hb : b = true ↔ p) (h1 : ¬ p → Is x φ) (h2 : p → Is y φ) : Is (bif !b then x else y) φ := by
  cases b
  · exact h1 fun h => Bool.false_ne_true (hb.2 h)
  · exact h2 (hb.1 rfl)
theorem Is.or {b : Bool} {y : Option Bool} {p q : Prop} (hb : b = true ↔ p) (hy : ¬ p → Is y fun c => c = true ↔ q) : Is (bif b then some true else y) fun c => c = true ↔ p ∨ q :=
  Is.ite hb (fun h => Is.val ⟨fun _ => .inl h, fun _ => rfl⟩) (fun h => (hy h).mono fun _ hc => hc.trans ⟨.inr, fun o => o.resolve_left h⟩)
theorem Is.and {b : Bool} {y : Option Bool} {p q : Prop} (hb : b = true ↔ p) (hy : p → Is y fun c => c = true ↔ q) : Is (bif b then y else some false) fun c => c = true ↔ p ∧ q :=
  Is.ite hb (fun h => (hy h).mono fun _ hc => hc.trans ⟨fun x => ⟨h, x⟩, fun x => x.2⟩) (fun h => Is.val ⟨fun e => absurd e Bool.false_ne_true, fun e => absurd e.1 h⟩)
theorem Is.iff {x : Option Bool} {p q : Prop} (h : Is x fun b => b = true ↔ p) (e : p ↔ q) : Is x fun b => b = true ↔ q := h.mono fun _ hb => hb.trans e
theorem Is.not {x : Option Bool} {p : Prop} (h : Is x fun b => b = true ↔ p) : Is (x.bind fun b => some (!b)) fun b => b = true ↔ ¬ p :=
  h.bind fun a ha => Is.val (by rw [← ha]; cases a <;> simp)
theorem Is.dec {p q : Prop} [Decidable p] (h : p ↔ q) : Is (some (decide p)) fun b => b = true ↔ q := Is.val (by rw [decide_eq_true_iff]; exact h)
theorem not_iff_of {b : Bool} {p : Prop} (h : b = true ↔ p) : (!b) = true ↔ ¬ p := by rw [← h]; cases b <;> simp
theorem or_iff_of {a b : Bool} {p q : Prop} (h : a = true ↔ p) (g : b = true ↔ q) : (a || b) = true ↔ p ∨ q := by rw [← h, ← g]; cases a <;> cases b <;> simp
theorem and_iff_of {a b : Bool} {p q : Prop} (h : a = true ↔ p) (g : b = true ↔ q) : (a && b) = true ↔ p ∧ q := by rw [← h, ← g]; cases a <;> cases b <;> simp
theorem false_iff_of {b : Bool} {p : Prop} (h : b = true ↔ p) : b = false ↔ ¬ p := by rw [← h]; cases b <;> simp
theorem dec_iff {p : Prop} [Decidable p] : decide p = true ↔ p := decide_eq_true_iff
/-- A loop over a list that ends early unless P holds of each element. -/
theorem Is.all {L : List α} {step : Int → Option (Int ⊕ (A ⊕ β))} {K : A → Option β} {ψ : β → Prop} (P : Nat → α → Prop) (v : A) (hL : L.length < 9223372036854775807)
    (hs : ∀ (i : Nat) x, L[i]? = some x → i < L.length → (∀ j y, j < i → L[j]? = some y → P j y) →
      Is (step (i : Int)) fun o => match o with | .inl t => t = w64 ((i : Int) + 1) ∧ P i x | .inr (.inl _) => False | .inr (.inr b) => ψ b)
    (he : step (L.length : Int) = some (.inr (.inl v)))
    (hk : (∀ i x, L[i]? = some x → P i x) → Is (K v) ψ) : Is (PM.onInl (loopO step 0) K) ψ := by
  refine Is.onInl (θ := fun o => match o with | .inl w => w = v ∧ ∀ i x, L[i]? = some x → P i x | .inr b => ψ b) ?_ ?_ ?_
  · refine Is.loop (mk := fun (i : Nat) (_ : Unit) => (i : Int)) L.length (fun i _ => ∀ j y, j < i → L[j]? = some y → P j y) () (fun j y hj => by omega) ?_ ?_
    · intro i _ hi hI
      obtain ⟨o, h1, h2⟩ := hs i L[i] (List.getElem?_eq_getElem hi) hi hI
      refine ⟨o, h1, ?_⟩
      match o, h2 with
      | .inl t, h2 =>
        refine ⟨(), by rw [h2.1, w64n (by omega)], fun j y hj hy => ?_⟩
        by_cases e : j = i
        · subst e; rw [List.getElem?_eq_getElem hi] at hy; cases hy; exact h2.2
        · exact hI j y (by omega) hy
      | .inr (.inr b), h2 => exact h2
    · intro _ hI
      refine ⟨_, he, rfl, fun i x hx => hI i x (lt_of_get hx) hx⟩
  · intro w hw
    rw [hw.1]; exact hk hw.2
  · intro b hb; exact hb
/-- A loop over a list with further variables; I holds ahead of each element. -/
theorem Is.fold {L : List α} {step : S → Option (S ⊕ (A ⊕ β))} {K : A → Option β} {ψ : β → Prop} (mk : Int → σ → S) (I : Nat → σ → Prop) (s0 : σ) (hL : L.length < 9223372036854775807) (h0 : I 0 s0)
    (hs : ∀ (i : Nat) x s, L[i]? = some x → i < L.length → I i s →
      Is (step (mk (i : Int) s)) fun o => match o with | .inl t => ∃ s', t = mk (w64 ((i : Int) + 1)) s' ∧ I (i + 1) s' | .inr (.inl _) => False | .inr (.inr b) => ψ b)
    (he : ∀ s, I L.length s → Is (step (mk (L.length : Int) s)) fun o => match o with | .inr (.inl v) => Is (K v) ψ | _ => False) : Is (PM.onInl (loopO step (mk 0 s0)) K) ψ := by
  refine Is.onInl (θ := fun o => match o with | .inl w => Is (K w) ψ | .inr b => ψ b) ?_ (fun w hw => hw) (fun b hb => hb)
  refine Is.loop (mk := fun (i : Nat) (s : σ) => mk (i : Int) s) L.length I s0 h0 ?_ ?_
  · intro i s hi hI
    obtain ⟨o, h1, h2⟩ := hs i L[i] s (List.getElem?_eq_getElem hi) hi hI
    refine ⟨o, h1, ?_⟩
    match o, h2 with
    | .inl t, h2 =>
      obtain ⟨s', e, h3⟩ := h2
      exact ⟨s', by rw [e, w64n (by omega)], h3⟩
    | .inr (.inr b), h2 => exact h2
  · intro s hI
    obtain ⟨o, h1, h2⟩ := he s hI
    refine ⟨o, h1, ?_⟩
    match o, h2 with
    | .inr (.inl v), h2 => exact h2
theorem take_get {L : List α} {i : Nat} {x : α} (h : L[i]? = some x) : L.take (i + 1) = L.take i ++ [x] := by rw [List.take_add_one, h]; rfl
theorem mem_iff_get {L : List α} {p : α → Prop} : (∀ (i : Nat) x, L[i]? = some x → p x) ↔ ∀ x ∈ L, p x :=
  ⟨fun h x hx => let ⟨i, hi⟩ := List.getElem?_of_mem hx; h i x hi, fun h _ x hx => h x (List.mem_of_getElem? hx)⟩
theorem take_mem {L : List α} {i : Nat} {p : α → Prop} : (∀ x ∈ L.take i, p x) ↔ ∀ j x, j < i → L[j]? = some x → p x := by
  refine ⟨fun h j x hj hx => h x (List.mem_of_getElem? (i := j) (by rw [List.getElem?_take, if_pos hj]; exact hx)), fun h x hx => ?_⟩
  obtain ⟨j, hj⟩ := List.getElem?_of_mem hx
  rw [List.getElem?_take] at hj
  split at hj
  · exact h j x ‹_› hj
  · cases hj
theorem nodup_snoc' {l : List α} {x : α} : (l ++ [x]).Nodup ↔ l.Nodup ∧ x ∉ l := by
  rw [List.nodup_append]
  simp
  exact fun _ => ⟨fun h hx => h x hx rfl, fun h y hy e => h (e ▸ hy)⟩

/-! ### Maps -/
theorem mget_nil {κ ν : Type} [Key κ] [Enc ν] (k : κ) : mget ([] : List (κ × ν)) k = none := rfl
theorem mgetS {κ ν : Type} [Key κ] [Enc ν] (a : κ) (v : ν) (k : κ) : ∀ m : List (κ × ν), mget (mset a v m) k = if k = a then some v else mget m k
  | [] => by
    unfold mset mget
    by_cases h : k = a <;> simp [h]
  | e :: es => by
    have ih := mgetS a v k es
    unfold mset
    by_cases h : a = e.1
    · subst h
      rw [if_pos rfl]
      unfold mget
      by_cases h2 : k = e.1 <;> simp [h2, List.find?_cons]
    · rw [if_neg h]
      unfold mget at ih ⊢
      simp only [List.find?_cons]
      by_cases h2 : k = e.1
      · have : ¬ k = a := fun e2 => h (e2.symm.trans h2)
        simp [h2]
        intro e3; exact absurd e3.symm h
      · simp only [h2, decide_false]
        exact ih
theorem seen_nil {κ : Type} [Key κ] (k : κ) : (mget ([] : List (κ × Bool)) k).getD false = true ↔ k ∈ ([] : List κ) := by simp [mget_nil]
theorem seen_snoc {κ : Type} [Key κ] {m : List (κ × Bool)} {ks : List κ} (h : ∀ k, (mget m k).getD false = true ↔ k ∈ ks) (a : κ) : ∀ k, (mget (mset a true m) k).getD false = true ↔ k ∈ ks ++ [a] := by
  intro k
  rw [mgetS]
  by_cases e : k = a
  · simp [e]
  · rw [if_neg e, h k]; simp [e]
end
end PM
