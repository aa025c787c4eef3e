/-
  PLAIN, LAYOUT A: names, parts, ends: what the program's and the reference's tests come to.
-/
import Derived.Test.YtfndelfalfplaaaDoorWalkD
namespace PM
open Go Go.RowKit

/-! ### Names -/
def okB (i : Nat) (c : Nat) : Prop := (97 ≤ c ∧ c ≤ 122) ∨ (((48 ≤ c ∧ c ≤ 57) ∨ c = 95) ∧ i ≠ 0)
def NameP (s : ByteArray) : Prop := 1 ≤ s.size ∧ s.size ≤ 12 ∧ ∀ i (h : i < s.size), okB i (s[i]'h).toNat
theorem get!_eq {s : ByteArray} {i : Nat} (h : i < s.size) : s.get! i = s[i]'h := by
  cases s with
  | mk bs => exact getElem!_pos bs i h
theorem decode_low {s : ByteArray} {i : Nat} (h : i < s.size) (hc : (s[i]'h).toNat < 128) : Utf8.decode s i = ((s[i]'h).toNat, 1) := by
  unfold Utf8.decode
  simp only [Nat.add_zero, get!_eq h]
  rw [if_pos hc]
theorem decode_high {s : ByteArray} {i : Nat} (h : i < s.size) (hc : 128 ≤ (s[i]'h).toNat) : 128 ≤ (Utf8.decode s i).1 := by
  unfold Utf8.decode
  simp only [Nat.add_zero, get!_eq h]
  rw [if_neg (by omega)]
  repeat' split
  all_goals first | assumption | (rename_i h1; simp only [Bool.and_eq_true, decide_eq_true_eq, ge_iff_le] at h1; have := h1.1; omega) | (simp [Utf8.runeError])
end PM
