/-
  THE PURE MACHINE, Qt: a region that draws its order, all orders walked.
-/
import Derived.Test.YtoadiglkifiofaaDoorPmQh
namespace PM
open Go Go.RowKit

section
variable {P : Program} {Gl : Nat → Option (List PV)} {s : PSt} {ops : Array Oper} {Q : PSt → Prop} {n : Nat} {listed : Array Bool}
end
end PM
