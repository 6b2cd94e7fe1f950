/- The words that the printed texts use. -/
import Derived.Test.YtafohchkacclpaaWInv
import Derived.Test.YtafohchkacclpaaWFootNe
namespace Go.Proofs.YtafohchkacclpaaW.PrintWords
open Go.RowKit
end Go.Proofs.YtafohchkacclpaaW.PrintWords
namespace Go.Proofs.YtafohchkacclpaaW.PrintLast
section
variable {ops : Array Oper} {a : Act} {o og : Oper} {g : Nat} {t : Tmp} {u : Bool}
end
end Go.Proofs.YtafohchkacclpaaW.PrintLast
