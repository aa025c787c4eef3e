/-
  PLAIN, WALK K: the laws of chapter 9 about measures, reverses and settings.
-/
import Derived.Test.YtcobolgkboknbaaDoorWalkJ
import Derived.Test.YtcobolgkboknbaaDoorWalkE
namespace PM
open Go Go.RowKit

theorem ValidP.apart {l : T_api_Layout} {way : List T_api_Step} (h : ValidP l way) {i k : Nat} {s t : T_api_Step} (hs : way[i]? = some s) (ht : way[k]? = some t) (e : s.El = t.El) : i = k := by
  have key : ∀ {i k : Nat} {s t : T_api_Step}, way[i]? = some s → way[k]? = some t → s.El = t.El → ¬ i < k := by
    intro i k s t hs ht e hik
    obtain ⟨t', h1, _, h3, _⟩ := h.2.2 k (lt_of_get ht)
    rw [ht] at h1; cases h1
    exact h3 i s hik hs e
  have h1 := key hs ht e
  have h2 := key ht hs e.symm
  omega
theorem sub_len {α : Type} [DecidableEq α] : ∀ {a b : List α}, a.Nodup → (∀ x ∈ a, x ∈ b) → a.length ≤ b.length
  | [], _, _, _ => Nat.zero_le _
  | x :: r, b, ha, h => by
    rw [List.nodup_cons] at ha
    have hx := h x List.mem_cons_self
    have := sub_len (b := b.erase x) ha.2 fun y hy => (List.mem_erase_of_ne (fun e : y = x => ha.1 (e ▸ hy))).2 (h y (List.mem_cons_of_mem _ hy))
    rw [List.length_erase_of_mem hx] at this
    have hp := List.length_pos_of_mem hx
    simp only [List.length_cons]; omega
end PM
