-- The words of the print that this claim needs (wip/trim.py).
import Derived.Test.YticjlkommabcjaaWInv
import Derived.Test.YticjlkommabcjaaWFootNe
namespace Go.Proofs.YticjlkommabcjaaW.PrintWords
open Go.RowKit
end Go.Proofs.YticjlkommabcjaaW.PrintWords
namespace Go.Proofs.YticjlkommabcjaaW.PrintLast
section
variable {ops : Array Oper} {a : Act} {o og : Oper} {g : Nat} {t : Tmp} {u : Bool}
end
end Go.Proofs.YticjlkommabcjaaW.PrintLast
