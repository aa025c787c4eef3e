/-
  THE PURE MACHINE, Qi: labels and tokens get other names.
-/
import Derived.Test.YtaoagcnjefialaaDoorPmQh
namespace PM
open Go Go.RowKit

def ren0 (ρ : Nat → Nat) : PV → PV
  | .ref l o => .ref (ρ l) o
  | p => p
def ren1 (ρ τ : Nat → Nat) : PV → PV
  | .lst (.own t) k b xss => .lst (.own (τ t)) k b xss
  | .ref l o => .ref (ρ l) o
  | .mp l => .mp (ρ l)
  | .sl l o n k b => .sl (ρ l) o n k b
  | .fn f caps => .fn f (caps.map (ren0 ρ))
  | .ex t k b N o n => .ex (τ t) k b N o n
  | .eref t k N j o => .eref (τ t) k N j o
  | p => p
def renA (ρ τ : Nat → Nat) : PV → PV
  | .agg cs => .agg (cs.map (ren1 ρ τ))
  | p => ren1 ρ τ p
def renV (ρ τ : Nat → Nat) : PV → PV
  | .tup vs => .tup (vs.map (renA ρ τ))
  | p => renA ρ τ p
def renO (ρ τ : Nat → Nat) : PObj → PObj
  | .cells cs => .cells (cs.map (ren1 ρ τ))
  | .map es => .map es
  | .iter b p => .iter b p
def renS (ρ τ : Nat → Nat) (s : PSt) : PSt := ⟨s.tm.map (renV ρ τ), fun l => (s.H (ρ l)).map (renO ρ τ), fun t => s.T (τ t), fun t => s.X (τ t), s.m⟩
def renG (ρ τ : Nat → Nat) (g : GG) : GG := ⟨g.S, g.w, fun l => g.φ (ρ l), fun t => g.hd (τ t), fun l => (g.H (ρ l)).map (renO ρ τ), fun t => g.T (τ t)⟩
section
variable {ρ τ : Nat → Nat} {g : GG} {p : PV} {v : Value}
theorem rel0_ren (hρ : ∀ l, ρ (ρ l) = l) (h : Rel0 g p v) : Rel0 (renG ρ τ g) (ren0 ρ p) v := by
  cases p
  case ref l o =>
    simp only [Rel0, ren0, renG, hρ, Option.isSome_map] at h ⊢
    exact h
  all_goals exact h
theorem rel1_ren (hρ : ∀ l, ρ (ρ l) = l) (hτ : ∀ l, τ (τ l) = l) (h : Rel1 g p v) : Rel1 (renG ρ τ g) (ren1 ρ τ p) v := by
  cases p
  case lst o k b xss =>
    cases o
    case own t =>
      simp only [Rel1, ren1, renG, hτ] at h ⊢
      exact h
    all_goals exact h
  case ref l o =>
    simp only [Rel1, ren1, renG, hρ, Option.isSome_map] at h ⊢
    exact h
  case mp l =>
    simp only [Rel1, ren1, renG, hρ, Option.isSome_map] at h ⊢
    exact h
  case sl l o n k b =>
    simp only [Rel1, ren1, renG, hρ] at h ⊢
    obtain ⟨h1, cs, h2, h3⟩ := h
    exact ⟨h1, cs.map (ren1 ρ τ), by rw [h2]; rfl, by simpa using h3⟩
  case fn f caps =>
    simp only [Rel1, ren1] at h ⊢
    obtain ⟨arr, h1, h2⟩ := h
    refine ⟨arr, h1, by simpa using h2.1, fun i p v hp hv => ?_⟩
    rw [List.getElem?_map] at hp
    obtain ⟨q, hq, rfl⟩ := Option.map_eq_some_iff.1 hp
    exact rel0_ren hρ (h2.2 i q v hq hv)
  case ex t k b N o n =>
    simp only [Rel1, ren1, renG, hτ] at h ⊢
    exact h
  case eref t k N j o =>
    simp only [Rel1, ren1, renG, hτ] at h ⊢
    exact h
  all_goals exact h
theorem oneCell_ren (hρ : ∀ l, ρ (ρ l) = l) (hτ : ∀ l, τ (τ l) = l) (h : RelC g p v) : RelC (renG ρ τ g) (ren1 ρ τ p) v := ⟨rel1_ren hρ hτ h.1, h.2⟩
theorem relA_ren (hρ : ∀ l, ρ (ρ l) = l) (hτ : ∀ l, τ (τ l) = l) (h : RelA g p v) : RelA (renG ρ τ g) (renA ρ τ p) v := by
  cases p
  case agg cs =>
    simp only [RelA, renA] at h ⊢
    obtain ⟨arr, h1, h2⟩ := h
    refine ⟨arr, h1, by simpa using h2.1, fun i p v hp hv => ?_⟩
    rw [List.getElem?_map] at hp
    obtain ⟨q, hq, rfl⟩ := Option.map_eq_some_iff.1 hp
    exact oneCell_ren hρ hτ (h2.2 i q v hq hv)
  case lst o k b xss =>
    simp only [RelA] at h
    exact (rel1_ren hρ hτ h).relA'
  all_goals
    simp only [RelA, renA] at h ⊢
    exact rel1_ren hρ hτ h
theorem rel_ren (hρ : ∀ l, ρ (ρ l) = l) (hτ : ∀ l, τ (τ l) = l) (h : Rel g p v) : Rel (renG ρ τ g) (renV ρ τ p) v := by
  cases p
  case tup cs =>
    simp only [Rel, renV] at h ⊢
    obtain ⟨arr, h1, h2⟩ := h
    refine ⟨arr, h1, by simpa using h2.1, fun i p v hp hv => ?_⟩
    rw [List.getElem?_map] at hp
    obtain ⟨q, hq, rfl⟩ := Option.map_eq_some_iff.1 hp
    exact relA_ren hρ hτ (h2.2 i q v hq hv)
  case lst o k b xss =>
    simp only [Rel] at h
    exact (relA_ren hρ hτ h).rel
  all_goals
    simp only [Rel, renV] at h ⊢
    exact relA_ren hρ hτ h
theorem objOK_ren (hρ : ∀ l, ρ (ρ l) = l) (hτ : ∀ l, τ (τ l) = l) {B : Nat} {ob : PObj} (h : ObjOK g B ob) : ObjOK (renG ρ τ g) B (renO ρ τ ob) := by
  cases ob with
  | cells cs =>
    obtain ⟨vs, h1, h2, h3⟩ := h
    refine ⟨vs, ⟨by simpa using h1.1, fun i p v hp hv => ?_⟩, h2, h3⟩
    rw [List.getElem?_map] at hp
    obtain ⟨q, hq, rfl⟩ := Option.map_eq_some_iff.1 hp
    exact oneCell_ren hρ hτ (h1.2 i q v hq hv)
  | map es => exact h
  | iter b p => exact h
end
section
variable {Gl : Nat → Option (List PV)} {S0 : Bs} {w0 : World} {s : PSt} {a : Act} {g : GG} {ρ τ : Nat → Nat}
theorem InvG.ren (h : InvG Gl S0 w0 s a g) (hρ : ∀ l, ρ (ρ l) = l) (hτ : ∀ l, τ (τ l) = l) (fρ : ∀ l, 1000000 ≤ l → ρ l = l) (fτ : ∀ t, 1000000000 ≤ t → τ t = t) : InvG Gl S0 w0 (renS ρ τ s) a (renG ρ τ g) := by
  have iρ : ∀ {l l'}, ρ l = ρ l' → l = l' := fun {l l'} e => by rw [← hρ l, ← hρ l', e]
  have iτ : ∀ {l l'}, τ l = τ l' → l = l' := fun {l l'} e => by rw [← hτ l, ← hτ l', e]
  have hs : ∀ {l}, ((renG ρ τ g).H l).isSome = true → (g.H (ρ l)).isSome = true := fun {l} e => by simpa [renG] using e
  refine { hH := by simp only [renG, renS, h.hH], hT := by simp only [renG, renS, h.hT], defers := h.defers, len := ⟨by simpa [renS] using h.len.1, h.len.2⟩, tm := fun i p v hp hv => ?_, sub := h.sub, new := h.new, lt := h.lt, below := h.below, objs := fun l ob hob => ?_, inj := fun l l' h1 h2 e => iρ (h.inj _ _ (hs h1) (hs h2) e), owns := fun t n k ht => h.owns (τ t) n k ht, ownsEx := fun t t' B h1 h2 => iτ (h.ownsEx (τ t) (τ t') B h1 h2), ownsObj := fun t B l h1 h2 => h.ownsObj (τ t) B (ρ l) h1 (hs h2), glob := h.glob, exs := fun t k b xss hx => ?_, exsEx := fun t t' B h1 h2 => iτ (h.exsEx (τ t) (τ t') B h1 h2), fix := fun l B hF => ?_, fixT := fun t v n hF => ?_ }
  · simp only [renS, List.getElem?_map] at hp
    obtain ⟨q, hq, rfl⟩ := Option.map_eq_some_iff.1 hp
    exact rel_ren hρ hτ (h.tm i q v hq hv)
  · simp only [renG] at hob
    obtain ⟨ob0, h1, rfl⟩ := Option.map_eq_some_iff.1 hob
    obtain ⟨o1, o2, o3, o4⟩ := h.objs (ρ l) ob0 h1
    exact ⟨o1, o2, o3, objOK_ren hρ hτ o4⟩
  · obtain ⟨q1, q2, q3, q4, q5, q6⟩ := h.exs (τ t) k b xss hx
    refine ⟨q1, q2, q3, q4, q5, q6.imp id ?_⟩
    rintro ⟨B, cap, e, hc, f1, f2, f3, f4, f5, f6, f7, f8⟩
    exact ⟨B, cap, e, hc, f1, f2, f3, f4, f5, f6, fun l hl => f7 (ρ l) (hs hl), fun t' ht' => iτ (f8 (τ t') ht')⟩
  · obtain ⟨k1, k2⟩ := h.fix l B hF
    refine ⟨k1, fun e => ?_⟩
    have e' := hs e
    rw [fρ l k1] at e'
    show g.φ (ρ l) = B
    rw [fρ l k1]; exact k2 e'
  · obtain ⟨k1, k2⟩ := h.fixT t v n hF
    refine ⟨k1, fun n0 e => ?_⟩
    have e' : g.T (τ t) = some (n0, 0) := e
    show n ≤ n0 ∧ (n0 = n → g.hd (τ t) = v)
    rw [fτ t k1] at e' ⊢
    exact k2 n0 e'
/-- The first K names and those from c * K on change places. -/
def swp (K c i : Nat) : Nat := match decide (i < K) with
  | true => i + c * K
  | false => match decide (c * K ≤ i), decide (i < c * K + K) with
    | true, true => i - c * K
    | _, _ => i
theorem swp_swp {K c : Nat} (hc : 1 ≤ c) (i : Nat) : swp K c (swp K c i) = i := by
  have hck : K ≤ c * K := Nat.le_mul_of_pos_left K hc
  unfold swp
  by_cases h1 : i < K
  · simp only [h1, decide_true]
    rw [decide_eq_false (by omega), decide_eq_true (show c * K ≤ i + c * K by omega), decide_eq_true (show i + c * K < c * K + K by omega)]
    simp
  · simp only [h1, decide_false]
    by_cases h2 : c * K ≤ i
    · by_cases h3 : i < c * K + K
      · simp only [h2, h3, decide_true]
        rw [decide_eq_true (show i - c * K < K by omega)]
        simp only; omega
      · simp [h2, h3, h1]
    · simp [h2, h1]
theorem swp_fix {K c b : Nat} (h : c * K + K ≤ b) (hc : 1 ≤ c) (i : Nat) (hi : b ≤ i) : swp K c i = i := by
  unfold swp
  rw [decide_eq_false (by omega), decide_eq_false (show ¬ i < c * K + K by omega)]
  cases decide (c * K ≤ i) <;> rfl
/-- The labels below 1000 and the tokens below 1000000 get other names. -/
theorem wkr_ren (c : Nat) (hc : (decide (1 ≤ c) && decide (c ≤ 999)) = true) : Wkr s (renS (swp 1000 c) (swp 1000000 c) s) := fun Gl S0 w0 a w hi => by
  simp only [Bool.and_eq_true, decide_eq_true_eq] at hc
  obtain ⟨g, rfl, hg⟩ := hi
  exact ⟨renG (swp 1000 c) (swp 1000000 c) g, rfl, hg.ren (swp_swp hc.1) (swp_swp hc.1) (swp_fix (K := 1000) (b := 1000000) (by omega) hc.1) (swp_fix (K := 1000000) (b := 1000000000) (by omega) hc.1)⟩
theorem wl_wkr {P : Program} {ops : Array Oper} {L : List Oper} {Q : PSt → Prop} {s' : PSt} (hw : Wkr s s') (h : wl P Gl ops L s' Q) : wl P Gl ops L s Q := fun S0 w0 a w Q' hQ hi => h S0 w0 a w Q' hQ (hw Gl S0 w0 a w hi)
/-- Other names; only what J says is kept. -/
theorem wl_ren {P : Program} {ops : Array Oper} {L : List Oper} {Q : PSt → Prop} (c : Nat) (J : JS) (n : Nat) (hc : (decide (1 ≤ c) && decide (c ≤ 999)) = true) (hok : J.ok = true) (h : J.seen (renS (swp 1000 c) (swp 1000000 c) s) = J.told n) (h2 : wl P Gl ops L (J.st n) Q) : wl P Gl ops L s Q :=
  wl_wkr ((wkr_ren c hc).trans (.of hok h)) h2
/-- Only what J says is kept. -/
theorem wl_weak {P : Program} {ops : Array Oper} {L : List Oper} {Q : PSt → Prop} (J : JS) (n : Nat) (hok : J.ok = true) (h : J.seen s = J.told n) (h2 : wl P Gl ops L (J.st n) Q) : wl P Gl ops L s Q := wl_wkr (.of hok h) h2
end
end PM
