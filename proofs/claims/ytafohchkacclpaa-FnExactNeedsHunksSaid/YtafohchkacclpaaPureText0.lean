/- Lists of texts: what all the plain laws on them share. -/
import Derived.Test.YtafohchkacclpaaTools
import Derived.Test.YtafohchkacclpaaC0
set_option linter.unusedVariables false
set_option linter.unusedSimpArgs false
namespace Go.Proofs.Ytafohchkacclpaa.Text
open Go.RowKit Go.Proofs.YtafohchkacclpaaW.PrintWords Go.Proofs.YtafohchkacclpaaW.PrintLast Go.Proofs.YtafohchkacclpaaW.PrintMore Go.Proofs.Ytafohchkacclpaa.Tools Go.Proofs.Ytafohchkacclpaa.C

abbrev T := List ByteArray
abbrev em : ByteArray := ByteArray.empty
theorem rd_t (l : T) (i : Nat) : rdOf ByteArray.empty l (i : Int) = l.getD i em := rfl
theorem up1 {i n : Nat} (h : i < n) (hn : n ≤ 1000000000000000) : wrap64 ((i : Int) + 1) = ((i + 1 : Nat) : Int) := by rw [w64 (by omega) (by omega)]; simp
/-- What a guard lets in. -/
def Sm (l : T) : Prop := l.length ≤ 1048576 ∧ ∀ x ∈ l, x.size ≤ 1048576
end Go.Proofs.Ytafohchkacclpaa.Text
