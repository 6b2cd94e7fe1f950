/- The plain law of OpsBytes: program and reference answer alike. -/
import Derived.Test.YtnhnlfkbngnkpaaPureOps3
namespace Go.Proofs.Ytnhnlfkbngnkpaa.Pure
open Go.RowKit Go.Proofs.YtnhnlfkbngnkpaaW.PrintWords Go.Proofs.Ytnhnlfkbngnkpaa.Tools Go.Proofs.Ytnhnlfkbngnkpaa.Ops Go.Proofs.Ytnhnlfkbngnkpaa.A

theorem FnExactOpsBytes : laws_FnExactOpsBytes.Pure := by
  intro a0 l1 h0 h1
  refine Ev.rounds ?_
  unfold laws_FnExactOpsBytes.f
  refine guarded a0 l1 ⟨h1.1, fun x hx => (h1.2 x hx).2.2.2⟩ fun ho hl _ r _ => ?_
  have ht := toOpS l1 (by omega)
  have hlm : (l1.map conv).length ≤ 1048576 := by simpa using hl
  refine evB ht (evB (specOpsBytes a0 ho _ hlm) (evB ht (evB (implOpsBytes a0 ho _ hlm) (evPos rfl ?_))))
  refine evStep (fun k => by rw [laws_FnExactOpsBytes.j0]) ?_
  exact evNeg (by simp) (evB ht (evB (eqOpS _ _ (by omega)) (evPos (by simp) (Ev.now _))))
end Go.Proofs.Ytnhnlfkbngnkpaa.Pure
