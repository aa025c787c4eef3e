/-
  THE PURE MACHINE, Qt: a region that draws its order, all orders walked.
-/
import Derived.Test.YtpiejhjhalnaaaaDoorPmQh
namespace PM
open Go Go.RowKit

section
variable {P : Program} {Gl : Nat → Option (List PV)} {s : PSt} {ops : Array Oper} {Q : PSt → Prop} {n : Nat} {listed : Array Bool}
def pEach (f : Nat → Prop) : List Nat → Prop
  | [] => True
  | i :: r => f i ∧ pEach f r
theorem pEach_mem {f : Nat → Prop} : ∀ {l : List Nat}, pEach f l → ∀ i ∈ l, f i
  | [], _, i, h => by cases h
  | j :: r, h, i, hi => by
    rcases List.mem_cons.1 hi with rfl | hi
    · exact h.1
    · exact pEach_mem h.2 i hi
theorem pAny_node (is : List Nat) (h : (Region.ready .any ops listed, is.isEmpty) = (is, false))
    (hk : pEach (fun i => ∃ o, ops[i]? = some o ∧ pops P Gl true [(o, gdOf ops o)] s (pAny P Gl .any ops Q n (listed.setIfInBounds i true))) is) : pAny P Gl .any ops Q (n + 1) listed s := by
  simp only [Prod.mk.injEq] at h
  obtain ⟨h1, h2⟩ := h
  refine ⟨fun e => ?_, fun i hi => ?_⟩
  · rw [h1] at e; subst e; cases h2
  · rw [h1] at hi
    obtain ⟨o, ho, hp⟩ := pEach_mem hk i hi
    refine ⟨o, ho, ?_⟩
    simp only [pops] at hp
    exact gdStep_mono (fun q => Or.resolve_right q fun e => (by cases e.1)) hp
theorem pAny_leaf (h : (Region.ready .any ops listed).isEmpty = true) (hq : Q s) : pAny P Gl .any ops Q 0 listed s := ⟨by simpa using h, hq⟩
theorem p_nil {d : Bool} (h : Q s) : pops P Gl d [] s Q := h
theorem r_any {Q : Exit → PSt → Prop} {id : Nat} (n : Nat) (J : JS) (hm : P.follows .mixedOrders = true) (h : pAny P Gl .any ops (fun s' => Wkr s' (J.st n)) ops.size (Array.replicate ops.size false) s) (hk : Q .normal (J.st n)) : pwp P Gl (.region id ops true) Q s := fun S0 w0 a w hi => by
  obtain ⟨g, rfl, hg⟩ := hi
  refine wp_region_any hm ?_
  exact pAny_sound (S0 := S0) (w0 := w0) (P := P) (Gl := Gl) (Q' := fun e a' w' => ∃ s', Q e s' ∧ Inv Gl S0 w0 s' a' w') (fun s' a' w' q i => ⟨_, hk, q Gl S0 w0 a' w' i⟩) ops.size (Array.replicate ops.size false) s a _ ⟨_, rfl, hg.drew.1⟩ h
end
end PM
