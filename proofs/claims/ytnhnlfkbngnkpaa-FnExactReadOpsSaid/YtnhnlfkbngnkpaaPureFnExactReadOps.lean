/- The plain law of ReadOps: program and reference answer alike, and what is answered is new each time. -/
import Derived.Test.YtnhnlfkbngnkpaaB14
import Derived.Test.YtnhnlfkbngnkpaaPureRead
import Derived.Test.YtnhnlfkbngnkpaaPureMarkOps
namespace Go.Proofs.Ytnhnlfkbngnkpaa.Pure
open Go.RowKit Go.Proofs.YtnhnlfkbngnkpaaW.PrintWords Go.Proofs.Ytnhnlfkbngnkpaa.Tools Go.Proofs.Ytnhnlfkbngnkpaa.Ops Go.Proofs.Ytnhnlfkbngnkpaa.B

theorem FnExactReadOps : laws_FnExactReadOps.Pure := by
  intro a0 a1 _ _
  refine Ev.rounds ?_
  unfold laws_FnExactReadOps.f
  by_cases h0 : (a0.size : Int) > 1048576
  · exact evPos h0 (Ev.now _)
  by_cases h1 : (a1.size : Int) > 1048576
  · exact evNeg h0 (evPos h1 (Ev.now _))
  have hlen := readOps_len a0 a1 (by omega)
  have hi := implReadOps a0 a1 (by omega) (by omega)
  refine evNeg h0 (evNeg h1 (evB (specReadOps a0 a1 (by omega) (by omega)) (evB hi (evB (eqOpS _ _ (by omega)) (evPos (by simp) (evPos rfl ?_))))))
  refine evStep (fun k => by rw [laws_FnExactReadOps.j0]) ?_
  refine evNeg (by simp) (evB (markOpS _ (by omega)) (evB (heldOpS _ (by omega)) (evNeg (by omega) (evPos rfl (evB hi (evB (eqOpS _ _ (by omega)) (evPos (by simp) (evPos rfl ?_))))))))
  refine evStep (fun k => by rw [laws_FnExactReadOps.j1]) ?_
  exact evNeg (by simp) (evB (heldOpS _ (by omega)) (evNeg (by omega) (evPos rfl (Ev.now _))))
end Go.Proofs.Ytnhnlfkbngnkpaa.Pure
