/-
  THE PURE MACHINE, Sg: slices.Grow at nil: an empty list with room that nobody else knows.
-/
import Derived.Test.YtpiejhjhalnaaaaDoorPmQh
import Derived.WalkSmall
import Derived.WalkKit
import Derived.Room.AppendUpon
namespace PM
open Go Go.RowKit

section
variable {P : Program} {Gl : Nat → Option (List PV)}
theorem pcall_grow {f : FuncId} {k b : Nat} {e : TypeId} (hF : FnOK P f) (hk : k ≠ 0)
    (hc : ∀ (m : Nat) (w : World), 0 < m → m ≤ 1048576 → Calls P f #[.slice none 0 0, .int .i64 m] w fun e' w' => ∃ C arr, e' = .returned (.slice (some ⟨w.heap.size, 0, none⟩) 0 C) ∧ w' = (w.alloc (.cells arr e)).drew ∧ arr.size = C * k)
    (h0 : ∀ (w : World), Calls P f #[.slice none 0 0, .int .i64 0] w fun e' w' => e' = .returned (.slice none 0 0) ∧ w' = w) (n : Int) (hn : 0 ≤ n ∧ n ≤ 1048576) : PCall P Gl f [.nil, .int .i64 n] (.lst (.own 0) k b []) := by
  refine ⟨hF, fun S w vs hS _ hargs => ?_⟩
  obtain ⟨m, rfl⟩ : ∃ m : Nat, n = (m : Int) := ⟨n.toNat, by omega⟩
  have hvs : vs = #[.slice none 0 0, .int .i64 m] := by
    obtain ⟨v, vs1, e1, r1, h1⟩ := hargs.cons_left
    obtain ⟨u, vs2, e2, r2, h2⟩ := h1.cons_left
    have e3 := h2.nil_left
    simp only [RelD] at r1 r2
    apply Array.ext'
    rw [e1, e2, e3, r1, r2]
  subst hvs
  have hrel : ∀ (g : GG) (v : Value), g.T = tokT (.lst (.own 0) k b []) → g.hd 0 = v → (v = .slice none 0 0 ∨ ∃ B C, v = .slice (some ⟨B, 0, none⟩) 0 C) → Rel g (.lst (.own 0) k b []) v := by
    intro g v hT hh hv
    simp only [Rel, RelA, Rel1, RelD]
    refine ⟨⟨by simp, by simp, .inl trivial, ?_⟩, 0, by rw [hT]; rfl, by simp, fun _ => hh.symm⟩
    rcases hv with rfl | ⟨B, C, rfl⟩
    · exact .inl (by simp)
    · exact .inr ⟨B, 0, C, rfl, Nat.zero_le _, (fun h => by cases h), trivial⟩
  have hT0 : ∀ t n k', tokT (.lst (.own 0) k b []) t = some (n, k') ↔ (t, (n, k')) ∈ toksV (.lst (.own 0) k b []) := by
    intro t n k'
    simp only [tokT, toksV, toksA, toks1, List.length_nil, List.lookup, List.mem_singleton, Prod.mk.injEq]
    by_cases ht : t = 0
    · subst ht; simp only [beq_self_eq_true, Option.some.injEq, Prod.mk.injEq, true_and]; constructor <;> rintro ⟨rfl, rfl⟩ <;> exact ⟨rfl, rfl⟩
    · have : (t == 0) = false := by simpa using ht
      rw [this]; simp [ht]
  have hT1 : ∀ t n k', tokT (.lst (.own 0) k b []) t = some (n, k') → t = 0 ∧ n = 0 ∧ k' = k := by
    intro t n k' h
    have := (hT0 t n k').1 h
    simp only [toksV, toksA, toks1, List.length_nil, List.mem_singleton, Prod.mk.injEq] at this
    exact ⟨this.1, this.2.1, this.2.2⟩
  by_cases hm : m = 0
  · subst hm
    refine (h0 w).mono fun e' w' ⟨h1, h2⟩ => ?_
    subst h2
    refine ⟨_, ⟨S, w', fun _ => 0, fun _ => .slice none 0 0, fun _ => none, tokT (.lst (.own 0) k b [])⟩, h1, rfl, BelowD.refl _ _, fun _ _ h => h, fun _ _ h => .inl h, fun _ => rfl, hT0, hrel _ _ rfl rfl (.inl rfl), fun t n k' h => ?_, fun t t' B hs hs' => ?_⟩
    · obtain ⟨rfl, rfl, rfl⟩ := hT1 t n k' h
      exact .inl ⟨rfl, rfl⟩
    · obtain ⟨_, _, _, _, e1, e2, _⟩ := hs
      cases e2
  · refine (hc m w (by omega) (by omega)).mono fun e' w' ⟨C, arr, h1, h2, h3⟩ => ?_
    subst h2
    refine ⟨_, ⟨S, (w.alloc (.cells arr e)).drew, fun _ => 0, fun _ => .slice (some ⟨w.heap.size, 0, none⟩) 0 C, fun _ => none, tokT (.lst (.own 0) k b [])⟩, h1, rfl, (below_alloc w (.cells arr e)).drew, fun _ _ h => h, fun _ _ h => .inl h, fun _ => rfl, hT0, hrel _ _ rfl rfl (.inr ⟨_, _, rfl⟩), fun t n k' h => ?_, fun t t' B hs hs' => ?_⟩
    · obtain ⟨rfl, rfl, rfl⟩ := hT1 t n k' h
      refine .inr ⟨w.heap.size, 0, C, rfl, Nat.zero_le _, fun _ => ⟨fun _ => Nat.le_refl _, by simp, fun j hj => ?_, fun _ o ho => ?_⟩⟩
      · have := there_alloc w arr e j (by rw [h3]; exact hj)
        simpa using this
      · have := hS _ _ ho; omega
    · obtain ⟨_, _, _, _, e1, _⟩ := hs
      obtain ⟨_, _, _, _, e2, _⟩ := hs'
      exact (hT1 _ _ _ e1).1.trans (hT1 _ _ _ e2).1.symm
end
end PM
