/-
  PLAIN, LAYOUT A: names, parts, ends: what the program's and the reference's tests come to.
-/
import Derived.Test.YtoknlpdkocemfaaGreatDoorWalkD
namespace PM
open Go Go.RowKit

def okB (i : Nat) (c : Nat) : Prop := (97 ≤ c ∧ c ≤ 122) ∨ (((48 ≤ c ∧ c ≤ 57) ∨ c = 95) ∧ i ≠ 0)
def NameP (s : ByteArray) : Prop := 1 ≤ s.size ∧ s.size ≤ 12 ∧ ∀ i (h : i < s.size), okB i (s[i]'h).toNat
end PM
