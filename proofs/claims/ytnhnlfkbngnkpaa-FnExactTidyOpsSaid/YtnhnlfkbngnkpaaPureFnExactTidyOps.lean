/- The plain law of TidyOps: program and reference answer alike, and what is answered is new each time. -/
import Derived.Test.YtnhnlfkbngnkpaaC7
import Derived.Test.YtnhnlfkbngnkpaaPureTidy
import Derived.Test.YtnhnlfkbngnkpaaPureMarkOps
namespace Go.Proofs.Ytnhnlfkbngnkpaa.Pure
open Go.RowKit Go.Proofs.YtnhnlfkbngnkpaaW.PrintWords Go.Proofs.Ytnhnlfkbngnkpaa.Tools Go.Proofs.Ytnhnlfkbngnkpaa.Ops Go.Proofs.Ytnhnlfkbngnkpaa.C

theorem FnExactTidyOps : laws_FnExactTidyOps.Pure := by
  intro a0 l1 _ hh
  refine Ev.rounds ?_
  unfold laws_FnExactTidyOps.f
  by_cases h0 : (a0.size : Int) > 1048576
  · exact evPos h0 (Ev.now _)
  obtain ⟨r, hr, hp⟩ := szOpS l1 hh.1 (fun x hx => (hh.2 x hx).2.2.2)
  refine evNeg h0 (evB hr ?_)
  by_cases hn : r < 0
  · exact evPos hn (Ev.now _)
  obtain ⟨hl, hz⟩ := hp (by omega)
  have ht := toOpS l1 (by omega)
  have hlm : (l1.map conv).length ≤ 1048576 := by simpa using hl
  have hlen := tidyOps_len a0 (l1.map conv)
  have hs := specTidyOps a0 (by omega) _ hlm
  have hi := implTidyOps a0 (by omega) _ hlm
  refine evNeg hn (evB ht (evB hs (evB ht (evB hi (evB (eqOpS _ _ (by omega)) (evPos (by simp) ?_))))))
  refine evStep (fun k => by rw [laws_FnExactTidyOps.j0]) ?_
  refine evNeg (by simp) (evB ht (evB (eqOpS _ _ (by omega)) (evPos (by simp) (evB (markOpS _ (by omega)) (evNeg (by omega) (evB (eqOpS _ _ (by omega)) (evPos (by simp) ?_)))))))
  refine evStep (fun k => by rw [laws_FnExactTidyOps.j1]) ?_
  refine evNeg (by simp) (evB (markOpS _ (by omega)) (evB (heldOpS _ (by omega)) (evNeg (by omega) (evPos rfl (evB ht (evB hi (evB (eqOpS _ _ (by omega)) (evPos (by simp) ?_))))))))
  refine evStep (fun k => by rw [laws_FnExactTidyOps.j2]) ?_
  exact evNeg (by simp) (evB (heldOpS _ (by omega)) (evNeg (by omega) (evPos rfl (Ev.now _))))
end Go.Proofs.Ytnhnlfkbngnkpaa.Pure
