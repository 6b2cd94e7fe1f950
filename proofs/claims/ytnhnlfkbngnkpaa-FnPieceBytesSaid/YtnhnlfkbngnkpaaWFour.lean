/- The words that the printed texts use. -/
import Derived.Test.YtnhnlfkbngnkpaaWTab
namespace Go.Proofs.YtnhnlfkbngnkpaaW.PrintLast
section
variable {P : Program} {ops : Array Oper} {Q : Exit → Act → World → Prop} {md : Region.Mode} {S : World → Prop} {ds : List Nat} {T : Bool × List (List Nat × List Nat)}
end
end Go.Proofs.YtnhnlfkbngnkpaaW.PrintLast
