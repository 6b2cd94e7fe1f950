/- The plain law of GoodOps: program and reference answer alike. -/
import Derived.Test.YtnhnlfkbngnkpaaPureOps3
namespace Go.Proofs.Ytnhnlfkbngnkpaa.Pure
open Go.RowKit Go.Proofs.YtnhnlfkbngnkpaaW.PrintWords Go.Proofs.Ytnhnlfkbngnkpaa.Tools Go.Proofs.Ytnhnlfkbngnkpaa.Ops Go.Proofs.Ytnhnlfkbngnkpaa.A

theorem FnExactGoodOps : laws_FnExactGoodOps.Pure := by
  intro a0 l1 h0 h1
  refine Ev.rounds ?_
  unfold laws_FnExactGoodOps.f
  refine guarded a0 l1 ⟨h1.1, fun x hx => (h1.2 x hx).2.2.2⟩ fun ho hl _ r _ => ?_
  have ht := toOpS l1 (by omega)
  have hlm : (l1.map conv).length ≤ 1048576 := by simpa using hl
  refine evB ht (evB (specGoodOps a0 ho _ hlm) (evB ht (evB (implGoodOps a0 ho _ hlm) (evNeg (by simp) (evB ht (evB (eqOpS _ _ (by omega)) (evPos (by simp) (Ev.now _))))))))
end Go.Proofs.Ytnhnlfkbngnkpaa.Pure
