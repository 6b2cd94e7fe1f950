/- The plain law of CopiedIn: program and reference answer alike. -/
import Derived.Test.YtnhnlfkbngnkpaaB4
import Derived.Test.YtnhnlfkbngnkpaaPureCopied
namespace Go.Proofs.Ytnhnlfkbngnkpaa.Pure
open Go.RowKit Go.Proofs.YtnhnlfkbngnkpaaW.PrintWords Go.Proofs.Ytnhnlfkbngnkpaa.Tools Go.Proofs.Ytnhnlfkbngnkpaa.Ops Go.Proofs.Ytnhnlfkbngnkpaa.B

theorem FnExactCopiedIn : laws_FnExactCopiedIn.Pure := by
  intro l1 h1
  refine Ev.rounds ?_
  unfold laws_FnExactCopiedIn.f
  obtain ⟨r, hr, hp⟩ := szOpS l1 h1.1 (fun x hx => (h1.2 x hx).2.2.2)
  refine evB hr ?_
  by_cases hn : r < 0
  · exact evPos hn (Ev.now _)
  obtain ⟨hl, hx⟩ := hp (by omega)
  refine evNeg hn ?_
  have ht := toOpS l1 (by omega)
  have hlm : (l1.map conv).length ≤ 1048576 := by simpa using hl
  have hxm : ∀ o ∈ l1.map conv, o.f3.size ≤ 1048576 := by
    intro o ho
    obtain ⟨y, hy, rfl⟩ := List.mem_map.1 ho
    exact hx y hy
  refine evB ht (evB (specCopiedIn _ hlm hxm) (evB ht (evB (implCopiedIn _ hlm hxm) (evPos rfl (evPos rfl ?_)))))
  refine evStep (fun k => by rw [laws_FnExactCopiedIn.j0]) ?_
  exact evNeg (by simp) (evB ht (evB (eqOpS _ _ (by omega)) (evPos (by simp) (Ev.now _))))
end Go.Proofs.Ytnhnlfkbngnkpaa.Pure
