/- Laws beside the printer's words: a string turned into bytes as an event of a walk. -/
import Derived.Test.YtafohchkacclpaaWMore
import Derived.Lib.ConvBytes
import Derived.Lib.AtoiErrMem
set_option linter.unusedVariables false
set_option linter.unusedSimpArgs false
namespace Go.Proofs.Ytafohchkacclpaa.Extra
open Go Go.RowKit Go.Proofs.YtafohchkacclpaaW.PrintWords
theorem below_bytes {w W : World} (h : Below w.heap.size w W) (e : TypeId) (s : ByteArray) : Below w.heap.size w (Lib.bytesWorld W e s) := below_step h (Lib.bytesWorld_below W e s)
theorem bne_nil (l : List UInt8) : (l != []) = !l.isEmpty := by cases l <;> rfl
theorem set_drewN (w : World) (n : Nat) (a : Addr) (v : Value) : (w.drewN n).setCell a v = (w.setCell a v).drewN n := rfl
/-- Truth values told by runs: so many true ones, so many false ones, and so on. -/
def runs : Bool → List Nat → List Bool
  | _, [] => []
  | x, n :: l => List.replicate n x ++ runs (!x) l
def b (l : List Nat) : Array Bool := ⟨runs true l⟩
end Go.Proofs.Ytafohchkacclpaa.Extra
