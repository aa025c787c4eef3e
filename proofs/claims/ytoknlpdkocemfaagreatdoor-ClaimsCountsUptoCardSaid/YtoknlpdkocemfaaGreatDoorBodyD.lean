/-
  PLAIN, BODY D: what the functions of chapter 11 come to: checks, rears, steps over elements, steps that are left, steps that are entered.
-/
import Derived.Test.YtoknlpdkocemfaaGreatDoorBodyC
namespace PM
open Go Go.RowKit

structure Bd (b : T_api_Body) : Prop where
  head : 0 ≤ b.Head ∧ b.Head ≤ 1000000
  len : 1 ≤ b.Length ∧ b.Length ≤ 1000000
end PM
