/- The words that the printed texts use. -/
import Derived.Test.YtafohchkacclpaaWWords
namespace Go.Proofs.YtafohchkacclpaaW.PrintWords
open Go.RowKit
section
variable {P : Program} {ops : Array Oper} {rest : List Oper} {o : Oper} {a : Act} {Q : Exit → Act → World → Prop} {W : World}
end
end Go.Proofs.YtafohchkacclpaaW.PrintWords
