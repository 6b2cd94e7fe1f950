/- The words that the printed texts use. -/
import Derived.Test.YtnhnlfkbngnkpaaWInv
import Derived.Test.YtnhnlfkbngnkpaaWFootNe
namespace Go.Proofs.YtnhnlfkbngnkpaaW.PrintWords
open Go.RowKit
end Go.Proofs.YtnhnlfkbngnkpaaW.PrintWords
namespace Go.Proofs.YtnhnlfkbngnkpaaW.PrintLast
section
variable {ops : Array Oper} {a : Act} {o og : Oper} {g : Nat} {t : Tmp} {u : Bool}
end
end Go.Proofs.YtnhnlfkbngnkpaaW.PrintLast
