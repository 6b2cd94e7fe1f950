-- Made by a program of this session out of the translation; no hand has turned it.
import Derived.Test.YtnhnlfkbngnkpaaA0
import Derived.Test.YtnhnlfkbngnkpaaA1
import Derived.Test.YtnhnlfkbngnkpaaA2
import Derived.Test.YtnhnlfkbngnkpaaA3
import Derived.Test.YtnhnlfkbngnkpaaA4
import Derived.Test.YtnhnlfkbngnkpaaA5
import Derived.Test.YtnhnlfkbngnkpaaA6
namespace Go.Proofs.Ytnhnlfkbngnkpaa.A
open Go.RowKit Go.Proofs.YtnhnlfkbngnkpaaW.PrintWords Go.Proofs.YtnhnlfkbngnkpaaW.PrintLast Go.Proofs.YtnhnlfkbngnkpaaW.PrintMore
attribute [local go_sem] max2_int min2_int max_two min_two max_three min_three max_four min_four   -- for this text's walks alone
set_option linter.unusedVariables false
set_option linter.unusedSimpArgs false

end Go.Proofs.Ytnhnlfkbngnkpaa.A
