/- The names that the plain texts on ops use. -/
import Derived.Test.YtnhnlfkbngnkpaaE0
import Derived.Test.YtnhnlfkbngnkpaaTools
set_option linter.unusedVariables false
set_option linter.unusedSimpArgs false
namespace Go.Proofs.Ytnhnlfkbngnkpaa.Ops
open Go.RowKit Go.Proofs.YtnhnlfkbngnkpaaW.PrintWords Go.Proofs.YtnhnlfkbngnkpaaW.PrintLast Go.Proofs.YtnhnlfkbngnkpaaW.PrintMore Go.Proofs.Ytnhnlfkbngnkpaa.Tools Go.Proofs.Ytnhnlfkbngnkpaa.E

abbrev OpS := S43
abbrev z := z43
theorem rd_op (l : List OpS) (i : Nat) : qc l (i : Int) = l.getD i z := rfl
noncomputable instance : DecidableEq OpS := fun _ _ => Classical.propDecidable _
end Go.Proofs.Ytnhnlfkbngnkpaa.Ops
