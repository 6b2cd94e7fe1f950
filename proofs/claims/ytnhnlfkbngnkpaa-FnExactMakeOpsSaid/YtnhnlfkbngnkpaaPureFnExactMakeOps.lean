/- The plain law of MakeOps: program and reference answer alike, and what is answered is new each time. -/
import Derived.Test.YtnhnlfkbngnkpaaB8
import Derived.Test.YtnhnlfkbngnkpaaPureMake
import Derived.Test.YtnhnlfkbngnkpaaPureMarkOps
namespace Go.Proofs.Ytnhnlfkbngnkpaa.Pure
open Go.RowKit Go.Proofs.YtnhnlfkbngnkpaaW.PrintWords Go.Proofs.Ytnhnlfkbngnkpaa.Tools Go.Proofs.Ytnhnlfkbngnkpaa.Ops Go.Proofs.Ytnhnlfkbngnkpaa.B

theorem makeOps_len (old s : ByteArray) (least : Int) : (makeOps old s least).1.length ≤ 300 := by
  have key : ∀ d (s : ByteArray) (out : List OpS), 1 ≤ least → s.size ≤ d → Mk out s.size → (makeM old least d s out).length ≤ 300 := by
    intro d
    induction d with
    | zero => intro s out _ hs hm; unfold makeM; have := hm.1; omega
    | succ d ih =>
      intro s out hle hs hm
      unfold makeM
      split
      · have := hm.1; omega
      · rename_i h0
        obtain ⟨hL, hL2⟩ := longest_le old s
        split
        · rename_i hge
          have hz : (s.extract (longest old s).2 s.size).size = s.size - (longest old s).2 := size_ext _ _ _ (by omega)
          exact ih _ _ hle (by rw [hz]; omega) (by rw [hz]; exact hm.copy (by omega) _ _)
        · have hz1 : (s.extract 0 1).size = 1 := size_ext _ _ _ (by omega)
          have hz : (s.extract 1 s.size).size = s.size - 1 := size_ext _ _ _ (by omega)
          exact ih _ _ hle (by rw [hz]; omega) (by rw [hz]; exact Mk.add (by rw [Nat.sub_add_cancel (by omega)]; exact hm) hz1)
  unfold makeOps
  split
  · rename_i h
    exact key _ _ _ h.2.2.1 (by omega) (Mk_nil (by omega))
  · simp
theorem FnExactMakeOps : laws_FnExactMakeOps.Pure := by
  intro a0 a1 a2 _ _ _
  refine Ev.rounds ?_
  unfold laws_FnExactMakeOps.f
  by_cases h0 : (a0.size : Int) > 1048576
  · exact evPos h0 (Ev.now _)
  by_cases h1 : (a1.size : Int) > 1048576
  · exact evNeg h0 (evPos h1 (Ev.now _))
  have hlen := makeOps_len a0 a1 a2
  refine evNeg h0 (evNeg h1 (evB (specMakeOps a0 a1 a2) (evB (implMakeOps a0 a1 a2) (evB (eqOpS _ _ (by omega)) (evPos (by simp) ?_)))))
  refine evStep (fun k => by rw [laws_FnExactMakeOps.j0]) ?_
  refine evNeg (by simp) (evB (markOpS _ (by omega)) (evB (heldOpS _ (by omega)) (evNeg (by omega) (evPos rfl (evB (implMakeOps a0 a1 a2) (evB (eqOpS _ _ (by omega)) (evPos (by simp) ?_)))))))
  refine evStep (fun k => by rw [laws_FnExactMakeOps.j1]) ?_
  exact evNeg (by simp) (evB (heldOpS _ (by omega)) (evNeg (by omega) (evPos rfl (Ev.now _))))
end Go.Proofs.Ytnhnlfkbngnkpaa.Pure
