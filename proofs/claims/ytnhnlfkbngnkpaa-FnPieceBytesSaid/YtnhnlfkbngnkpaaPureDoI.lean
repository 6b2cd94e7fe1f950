/- What the functions on ops bring, by the program. -/
import Derived.Test.YtnhnlfkbngnkpaaE2
import Derived.Test.YtnhnlfkbngnkpaaPureOps2
set_option linter.unusedVariables false
set_option linter.unusedSimpArgs false
namespace Go.Proofs.Ytnhnlfkbngnkpaa.Ops
open Go.RowKit Go.Proofs.YtnhnlfkbngnkpaaW.PrintWords Go.Proofs.YtnhnlfkbngnkpaaW.PrintLast Go.Proofs.YtnhnlfkbngnkpaaW.PrintMore Go.Proofs.Ytnhnlfkbngnkpaa.Tools Go.Proofs.Ytnhnlfkbngnkpaa.E

theorem flat_size (old : ByteArray) : ∀ (l : List OpS) (out : ByteArray), allOk old l → ((flat old out l).size : Int) = out.size + sum l
 | [], out, _ => by rw [sum_nil]; unfold flat; omega
 | o :: l, out, h => by
  rw [qCb] at h
  unfold flat
  rw [flat_size old l _ h.2, ByteArray.size_append, sum_cons]
  have := bring_size h.1
  omega
theorem implDoOps (old : ByteArray) (ho : old.size ≤ 1048576) (l : List OpS) (hl : l.length ≤ 1048576) : Ev (fun k => qrb.f k old l) (if Good old l then (flat old ⟨#[]⟩ l, true) else (⟨#[]⟩, false)) := by
 unfold qrb.f
 exact evB (done old ho l hl) (Ev.now _)
end Go.Proofs.Ytnhnlfkbngnkpaa.Ops
