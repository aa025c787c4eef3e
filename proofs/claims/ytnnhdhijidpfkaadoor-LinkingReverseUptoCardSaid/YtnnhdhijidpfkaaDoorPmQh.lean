import Derived.Test.YtnnhdhijidpfkaaDoorPmQ
import Derived.Defers
import Derived.Recover
/-
  THE PURE MACHINE, Qh: a call whose body is walked in place: the caller's slots are laid aside.
-/
namespace PM
open Go Go.RowKit

section
variable {P : Program} {Gl : Nat → Option (List PV)} {s : PSt} {ops : Array Oper} {Q : PSt → Prop}
end
end PM
/-
  THE PURE MACHINE, Qi: labels and tokens get other names.
-/
namespace PM
open Go Go.RowKit

def ren0 (ρ : Nat → Nat) : PV → PV
  | .ref l o => .ref (ρ l) o
  | p => p
def ren1 (ρ τ : Nat → Nat) : PV → PV
  | .lst (.own t) k b xss => .lst (.own (τ t)) k b xss
  | .ref l o => .ref (ρ l) o
  | .mp l => .mp (ρ l)
  | .sl l o n k b => .sl (ρ l) o n k b
  | .fn f caps => .fn f (caps.map (ren0 ρ))
  | .ex t k b N o n => .ex (τ t) k b N o n
  | .eref t k N j o => .eref (τ t) k N j o
  | p => p
def renA (ρ τ : Nat → Nat) : PV → PV
  | .agg cs => .agg (cs.map (ren1 ρ τ))
  | p => ren1 ρ τ p
def renV (ρ τ : Nat → Nat) : PV → PV
  | .tup vs => .tup (vs.map (renA ρ τ))
  | p => renA ρ τ p
def renO (ρ τ : Nat → Nat) : PObj → PObj
  | .cells cs => .cells (cs.map (ren1 ρ τ))
  | .map es => .map es
  | .iter b p => .iter b p
  | .mapo es k b tk => .mapo es k b fun i => τ (tk i)
def renS (ρ τ : Nat → Nat) (s : PSt) : PSt := ⟨s.tm.map (renV ρ τ), fun l => (s.H (ρ l)).map (renO ρ τ), fun t => s.T (τ t), fun t => s.X (τ t), s.m⟩
def renG (ρ τ : Nat → Nat) (g : GG) : GG := ⟨g.S, g.w, fun l => g.φ (ρ l), fun t => g.hd (τ t), fun l => (g.H (ρ l)).map (renO ρ τ), fun t => g.T (τ t)⟩
section
variable {ρ τ : Nat → Nat} {g : GG} {p : PV} {v : Value}
theorem rel0_ren (hρ : ∀ l, ρ (ρ l) = l) (h : Rel0 g p v) : Rel0 (renG ρ τ g) (ren0 ρ p) v := by
  cases p
  case ref l o =>
    simp only [Rel0, ren0, renG, hρ, Option.isSome_map] at h ⊢
    exact h
  all_goals exact h
theorem rel1_ren (hρ : ∀ l, ρ (ρ l) = l) (hτ : ∀ l, τ (τ l) = l) (h : Rel1 g p v) : Rel1 (renG ρ τ g) (ren1 ρ τ p) v := by
  cases p
  case lst o k b xss =>
    cases o
    case own t =>
      simp only [Rel1, ren1, renG, hτ] at h ⊢
      exact h
    all_goals exact h
  case ref l o =>
    simp only [Rel1, ren1, renG, hρ, Option.isSome_map] at h ⊢
    exact h
  case mp l =>
    simp only [Rel1, ren1, renG, hρ, Option.isSome_map] at h ⊢
    exact h
  case sl l o n k b =>
    simp only [Rel1, ren1, renG, hρ] at h ⊢
    obtain ⟨h1, cs, h2, h3⟩ := h
    exact ⟨h1, cs.map (ren1 ρ τ), by rw [h2]; rfl, by simpa using h3⟩
  case fn f caps =>
    simp only [Rel1, ren1] at h ⊢
    obtain ⟨arr, h1, h2⟩ := h
    refine ⟨arr, h1, by simpa using h2.1, fun i p v hp hv => ?_⟩
    rw [List.getElem?_map] at hp
    obtain ⟨q, hq, rfl⟩ := Option.map_eq_some_iff.1 hp
    exact rel0_ren hρ (h2.2 i q v hq hv)
  case ex t k b N o n =>
    simp only [Rel1, ren1, renG, hτ] at h ⊢
    exact h
  case eref t k N j o =>
    simp only [Rel1, ren1, renG, hτ] at h ⊢
    exact h
  all_goals exact h
theorem oneCell_ren (hρ : ∀ l, ρ (ρ l) = l) (hτ : ∀ l, τ (τ l) = l) (h : RelC g p v) : RelC (renG ρ τ g) (ren1 ρ τ p) v := ⟨rel1_ren hρ hτ h.1, h.2⟩
theorem relA_ren (hρ : ∀ l, ρ (ρ l) = l) (hτ : ∀ l, τ (τ l) = l) (h : RelA g p v) : RelA (renG ρ τ g) (renA ρ τ p) v := by
  cases p
  case agg cs =>
    simp only [RelA, renA] at h ⊢
    obtain ⟨arr, h1, h2⟩ := h
    refine ⟨arr, h1, by simpa using h2.1, fun i p v hp hv => ?_⟩
    rw [List.getElem?_map] at hp
    obtain ⟨q, hq, rfl⟩ := Option.map_eq_some_iff.1 hp
    exact oneCell_ren hρ hτ (h2.2 i q v hq hv)
  case lst o k b xss =>
    simp only [RelA] at h
    exact (rel1_ren hρ hτ h).relA'
  all_goals
    simp only [RelA, renA] at h ⊢
    exact rel1_ren hρ hτ h
theorem rel_ren (hρ : ∀ l, ρ (ρ l) = l) (hτ : ∀ l, τ (τ l) = l) (h : Rel g p v) : Rel (renG ρ τ g) (renV ρ τ p) v := by
  cases p
  case tup cs =>
    simp only [Rel, renV] at h ⊢
    obtain ⟨arr, h1, h2⟩ := h
    refine ⟨arr, h1, by simpa using h2.1, fun i p v hp hv => ?_⟩
    rw [List.getElem?_map] at hp
    obtain ⟨q, hq, rfl⟩ := Option.map_eq_some_iff.1 hp
    exact relA_ren hρ hτ (h2.2 i q v hq hv)
  case lst o k b xss =>
    simp only [Rel] at h
    exact (relA_ren hρ hτ h).rel
  all_goals
    simp only [Rel, renV] at h ⊢
    exact relA_ren hρ hτ h
theorem objOK_ren (hρ : ∀ l, ρ (ρ l) = l) (hτ : ∀ l, τ (τ l) = l) {B : Nat} {ob : PObj} (h : ObjOK g B ob) : ObjOK (renG ρ τ g) B (renO ρ τ ob) := by
  cases ob with
  | cells cs =>
    obtain ⟨vs, h1, h2, h3⟩ := h
    refine ⟨vs, ⟨by simpa using h1.1, fun i p v hp hv => ?_⟩, h2, h3⟩
    rw [List.getElem?_map] at hp
    obtain ⟨q, hq, rfl⟩ := Option.map_eq_some_iff.1 hp
    exact oneCell_ren hρ hτ (h1.2 i q v hq hv)
  | map es => exact h
  | iter b p => exact h
  | mapo es k b tk =>
    obtain ⟨h0, arr, clock, h1, h2, h3⟩ := h
    exact ⟨h0, arr, clock, h1, h2, fun i e m he hm => ⟨(h3 i e m he hm).1, rel1_ren hρ hτ (h3 i e m he hm).2⟩⟩
end
section
variable {Gl : Nat → Option (List PV)} {S0 : Bs} {w0 : World} {s : PSt} {a : Act} {g : GG} {ρ τ : Nat → Nat}
theorem InvG.ren (h : InvG Gl S0 w0 s a g) (hρ : ∀ l, ρ (ρ l) = l) (hτ : ∀ l, τ (τ l) = l) (fρ : ∀ l, 1000000 ≤ l → ρ l = l) (fτ : ∀ t, 1000000000 ≤ t → τ t = t) : InvG Gl S0 w0 (renS ρ τ s) a (renG ρ τ g) := by
  have iρ : ∀ {l l'}, ρ l = ρ l' → l = l' := fun {l l'} e => by rw [← hρ l, ← hρ l', e]
  have iτ : ∀ {l l'}, τ l = τ l' → l = l' := fun {l l'} e => by rw [← hτ l, ← hτ l', e]
  have hs : ∀ {l}, ((renG ρ τ g).H l).isSome = true → (g.H (ρ l)).isSome = true := fun {l} e => by simpa [renG] using e
  refine { hH := by simp only [renG, renS, h.hH], hT := by simp only [renG, renS, h.hT], defers := h.defers, len := ⟨by simpa [renS] using h.len.1, h.len.2⟩, tm := fun i p v hp hv => ?_, sub := h.sub, new := h.new, lt := h.lt, below := h.below, objs := fun l ob hob => ?_, inj := fun l l' h1 h2 e => iρ (h.inj _ _ (hs h1) (hs h2) e), owns := fun t n k ht => h.owns (τ t) n k ht, ownsEx := fun t t' B h1 h2 => iτ (h.ownsEx (τ t) (τ t') B h1 h2), ownsObj := fun t B l h1 h2 => h.ownsObj (τ t) B (ρ l) h1 (hs h2), glob := h.glob, exs := fun t k b xss hx => ?_, exsEx := fun t t' B h1 h2 => iτ (h.exsEx (τ t) (τ t') B h1 h2), fix := fun l B hF => ?_, fixT := fun t v n hF => ?_ }
  · simp only [renS, List.getElem?_map] at hp
    obtain ⟨q, hq, rfl⟩ := Option.map_eq_some_iff.1 hp
    exact rel_ren hρ hτ (h.tm i q v hq hv)
  · simp only [renG] at hob
    obtain ⟨ob0, h1, rfl⟩ := Option.map_eq_some_iff.1 hob
    obtain ⟨o1, o2, o3, o4⟩ := h.objs (ρ l) ob0 h1
    exact ⟨o1, o2, o3, objOK_ren hρ hτ o4⟩
  · obtain ⟨q1, q2, q3, q4, q5, q6⟩ := h.exs (τ t) k b xss hx
    refine ⟨q1, q2, q3, q4, q5, q6.imp id ?_⟩
    rintro ⟨B, cap, e, hc, f1, f2, f3, f4, f5, f6, f7, f8⟩
    exact ⟨B, cap, e, hc, f1, f2, f3, f4, f5, f6, fun l hl => f7 (ρ l) (hs hl), fun t' ht' => iτ (f8 (τ t') ht')⟩
  · obtain ⟨k1, k2⟩ := h.fix l B hF
    refine ⟨k1, fun e => ?_⟩
    have e' := hs e
    rw [fρ l k1] at e'
    show g.φ (ρ l) = B
    rw [fρ l k1]; exact k2 e'
  · obtain ⟨k1, k2⟩ := h.fixT t v n hF
    refine ⟨k1, fun n0 e => ?_⟩
    have e' : g.T (τ t) = some (n0, 0) := e
    show n ≤ n0 ∧ (n0 = n → g.hd (τ t) = v) ∧ ∀ B, HB (g.hd (τ t)) B → HB v B ∨ w0.heap.size ≤ B
    rw [fτ t k1] at e' ⊢
    exact k2 n0 e'
end
end PM
/-
  THE PURE MACHINE, Qj: calls that only read lists that nobody else holds, and return numbers: the lists stay as they are.
-/
namespace PM
open Go Go.RowKit

section
variable {P : Program} {Gl : Nat → Option (List PV)} {S0 : Bs} {w0 : World} {s : PSt} {a : Act} {g : GG}
end
end PM
/-
  THE PURE MACHINE, Qk: a list that is written out, and that nobody else holds.
-/
namespace PM
open Go Go.RowKit

section
variable {α : Type} [Enc α] {P : Program} {Gl : Nat → Option (List PV)} {s : PSt} {Q : PSt → Prop} {Ls : List (Oper × Gd)}
end
end PM
/-
  THE PURE MACHINE, Ql: the end of a list that may grow: a slice that takes over the room (a new token), and tokens that change names.
-/
namespace PM
open Go Go.RowKit

section
variable {P : Program} {Gl : Nat → Option (List PV)} {S0 : Bs} {w0 : World} {s : PSt} {a : Act} {g : GG}
theorem Room.none {n k : Nat} (hk : k ≠ 0) : ¬ Room n k n := by
  rintro (h | ⟨h, _⟩)
  · exact Nat.lt_irrefl _ h
  · exact hk h
end

section
variable {α : Type} [Enc α] {P : Program} {Gl : Nat → Option (List PV)} {s : PSt} {Ls : List (Oper × Gd)} {Q : PSt → Prop}
end
def swpT (t d i : Nat) : Nat := if i = t then d else if i = d then t else i
theorem swpT_swpT (t d i : Nat) : swpT t d (swpT t d i) = i := by
  unfold swpT
  by_cases h1 : i = t
  · subst h1
    by_cases h2 : d = i
    · simp [h2]
    · simp [h2]
  · by_cases h2 : i = d
    · subst h2; simp [h1]
    · simp [h1, h2]
end PM
/-
  THE PURE MACHINE, Qm: a body that defers one call of a closure, which is walked in place at each return.
-/
namespace PM
open Go Go.RowKit

def recFuel : Nat := 4194304
section
variable {P : Program} {Gl : Nat → Option (List PV)} {s : PSt}
variable {Q QD : Exit → PSt → Prop} {x y : Code}
end
end PM
/-
  THE PURE MACHINE, Qn: functions that may panic (PCallP), regions that end so.
-/
namespace PM
open Go Go.RowKit

def PanOK (ch : List PanicEntry) : Prop := ∃ t v, ch = [{ v := .iface t v, recovered := false }]
def PCallP (P : Program) (Gl : Nat → Option (List PV)) (f : FuncId) (args : List PV) (o : Option PV) : Prop :=
  FnOK P f ∧ ∀ (S : Cells) (w : World) (vs : Array Value), (∀ B o, S B o → B < w.heap.size) → (∀ i cs, Gl i = some cs → RelTab S w cs i) → All2 (RelD S w) args vs.toList →
    Calls P f vs w fun e w' => (∃ r v g', o = some r ∧ e = .returned v ∧ g'.w = w' ∧ After S w r v g') ∨ (∃ ch g', o = none ∧ e = .panicked ch ∧ PanOK ch ∧ g'.w = w' ∧ After S w (.tup []) (.tuple #[]) g')
section
variable {P : Program} {Gl : Nat → Option (List PV)} {s : PSt}
variable {ops : Array Oper} {Q : Exit → PSt → Prop}
end
end PM
/-
  THE PURE MACHINE, Qo: a deferred closure that recovers.
-/
namespace PM
open Go Go.RowKit

section
variable {P : Program} {Gl : Nat → Option (List PV)} {s : PSt}
structure RecOps (P : Program) (o0 o1 : Oper) (d0 d1 : Nat) : Prop where
  g0 : o0.guard = none
  g1 : o1.guard = none
  e0 : o0.dst = some d0
  e1 : o1.dst = some d1
  r0 : ∀ (a : Act) (w : World), (execOp a.eval o0).run P w = .ok .recover w
  r1 : ∀ (a : Act) (w : World) (t : TypeId) (v : Value), a.eval (.tmp d0) = .iface t v → (execOp a.eval o1).run P w = .ok (.value (.bool true)) w
  r2 : ∀ (a : Act) (w : World), a.eval (.tmp d0) = .nilIface → (execOp a.eval o1).run P w = .ok (.value (.bool false)) w
end
end PM
