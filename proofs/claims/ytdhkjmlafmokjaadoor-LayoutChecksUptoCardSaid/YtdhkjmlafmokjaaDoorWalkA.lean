/-
  PLAIN, WALK A: what the plain functions of the chapters 6, 7 and 9 come to.
-/
import Derived.Test.YtdhkjmlafmokjaaDoorPlB
import Derived.Test.YtdhkjmlafmokjaaDoorDen
namespace PM
open Go Go.RowKit

def legsS (a0 a1 : Int) : List Int :=
  if a0 = 1 ∧ a1 = 0 then [1] else if a0 = 1 ∧ a1 = 1 then [0] else
  if a0 = 2 ∧ a1 = 0 then [1, 2] else if a0 = 2 ∧ a1 = 1 then [0] else if a0 = 2 ∧ a1 = 2 then [0] else
  if a0 = 3 ∧ a1 = 0 then [1] else if a0 = 3 ∧ a1 = 1 then [0] else if a0 = 3 ∧ a1 = 2 then [3] else if a0 = 3 ∧ a1 = 3 then [2] else []
def sidesS (a0 : Int) : Int := if a0 = 1 then 2 else if a0 = 2 then 3 else if a0 = 3 then 4 else 0

theorem kinds (a : Int) : a = 1 ∨ a = 2 ∨ a = 3 ∨ (¬ a = 1 ∧ ¬ a = 2 ∧ ¬ a = 3 ∧ ¬ 1 = a ∧ ¬ 2 = a ∧ ¬ 3 = a) := by omega
theorem sides4 (a : Int) : a = 0 ∨ a = 1 ∨ a = 2 ∨ a = 3 ∨ (¬ a = 0 ∧ ¬ a = 1 ∧ ¬ a = 2 ∧ ¬ a = 3 ∧ ¬ 0 = a ∧ ¬ 1 = a ∧ ¬ 2 = a ∧ ¬ 3 = a) := by omega
set_option maxRecDepth 10000
theorem sides5 (a : Int) : a = 0 ∨ a = 1 ∨ a = 2 ∨ a = 3 ∨ (a < 0 ∧ ¬ a = 0 ∧ ¬ a = 1 ∧ ¬ a = 2 ∧ ¬ a = 3) ∨ (¬ a < 0 ∧ ¬ a = 0 ∧ ¬ a = 1 ∧ ¬ a = 2 ∧ ¬ a = 3 ∧ 2 ≤ a ∧ 3 ≤ a ∧ 4 ≤ a) := by omega
def legG (a0 a1 : Int) (_ : Nat) (x : T_rail_passage) (l : List Int) : Option (List Int ⊕ (List Int ⊕ List Int)) :=
  bif (decide (x.kind_ = a0) && decide (x.in_ = a1)) then (appO l [x.out_]).map .inl else some (.inl l)
end PM
