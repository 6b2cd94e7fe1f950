/- The plain law of FitsAt: program and reference answer alike. -/
import Derived.Test.YtafohchkacclpaaA10
import Derived.Test.YtafohchkacclpaaA11
import Derived.Test.YtafohchkacclpaaA8
import Derived.Test.YtafohchkacclpaaPureGroup
set_option linter.unusedVariables false
set_option linter.unusedSimpArgs false
namespace Go.Proofs.Ytafohchkacclpaa.Pure
open Go.RowKit Go.Proofs.YtafohchkacclpaaW.PrintWords Go.Proofs.Ytafohchkacclpaa.Tools Go.Proofs.Ytafohchkacclpaa.Text Go.Proofs.Ytafohchkacclpaa.A

def fitsAt (l : T) (a b : Int) (rs : List Rw) (at_ : Int) : Bool × Bool := if (goodB l && groupB a b rs) = true then (fitsB l (side 3 rs) at_, true) else (false, false)
theorem sFitsAt (l : T) (hl : Sm l) (a b : Int) (rs : List Rw) (hr : SmR rs) (at_ : Int) : Ev (fun k => spec_FitsAt.f k l a b rs at_) (fitsAt l a b rs at_) := by
  unfold spec_FitsAt.f fitsAt
  have h3 := side_len 3 rs
  have hR := hr.1
  refine evB (sGood l hl) ?_
  by_cases g : goodB l = true
  · rw [g, Bool.true_and]
    refine evPos rfl (evB (sGroup a b rs hr) (evStep (fun k => by rw [spec_FitsAt.j0]) ?_))
    by_cases q : groupB a b rs = true
    · rw [q]
      exact evNeg (by simp) (evB (sOld a b rs hR) (evB (sFits l _ at_ hl.1 (by omega)) (Ev.now _)))
    · rw [Bool.not_eq_true] at q
      rw [q]
      exact evPos rfl (Ev.now _)
  · rw [Bool.not_eq_true] at g
    rw [g, Bool.false_and]
    refine evNeg (by simp) (evStep (fun k => by rw [spec_FitsAt.j0]) ?_)
    exact evPos rfl (Ev.now _)
theorem iFitsAt (l : T) (hl : Sm l) (a b : Int) (rs : List Rw) (hr : SmR rs) (at_ : Int) : Ev (fun k => impl_FitsAt.f k l a b rs at_) (fitsAt l a b rs at_) := by
  unfold impl_FitsAt.f fitsAt
  have h3 := side_len 3 rs
  have hR := hr.1
  refine evB (iGood l hl) ?_
  by_cases g : goodB l = true
  · rw [g, Bool.true_and]
    refine evPos rfl (evB (iGroup a b rs hr) (evStep (fun k => by rw [impl_FitsAt.j0]) ?_))
    by_cases q : groupB a b rs = true
    · rw [q]
      exact evNeg (by simp) (evB (iOld a b rs hR) (evB (iFits l _ at_ hl.1 (by omega)) (Ev.now _)))
    · rw [Bool.not_eq_true] at q
      rw [q]
      exact evPos rfl (Ev.now _)
  · rw [Bool.not_eq_true] at g
    rw [g, Bool.false_and]
    refine evNeg (by simp) (evStep (fun k => by rw [impl_FitsAt.j0]) ?_)
    exact evPos rfl (Ev.now _)
theorem bne_self {α : Type} [BEq α] [LawfulBEq α] (x : α) : (x != x) = false := by simp
theorem FnExactFitsAt : laws_FnExactFitsAt.Pure := by
  intro l0 a1 a2 h0 h1 h2
  refine Ev.rounds ?_
  unfold laws_FnExactFitsAt.f
  obtain ⟨r, hr, hr2, hp⟩ := sz l0 1048576 (by omega) (by omega) h0.1 h0.2
  refine evB hr ?_
  by_cases hn : r < 0
  · exact evPos hn (Ev.now _)
  obtain ⟨q, hq, hq2, hp1⟩ := szG a1.f2 a1.f0 a1.f1 r (by omega) (by omega) h1.2.2.1 (fun x hx => (h1.2.2.2 x hx).2)
  refine evNeg hn (evB hq ?_)
  by_cases hn1 : q < 0
  · exact evPos hn1 (Ev.now _)
  have s0 := hp (by omega)
  have s1 := hp1 (by omega)
  have L0 := s0.1
  have L1 : a1.f2.length ≤ 1048576 := by have := s1.1; rw [List.length_map] at this; exact this
  have t0 := toT l0 L0
  have t1 := toG a1.f0 a1.f1 a1.f2 L1
  refine evNeg hn1 (evB t0 (evB t1 (evB (sFitsAt l0 s0 _ _ _ s1 a2) (evB t0 (evB t1 (evB (iFitsAt l0 s0 _ _ _ s1 a2) (evNeg (by simp) ?_)))))))
  rw [bne_self]
  refine evStep (fun k => by rw [laws_FnExactFitsAt.j0]) ?_
  exact evNeg (by simp) (evB t0 (evB (eqT_self l0 L0) (evPos rfl (evB t1 (evB (eqG _ _ _ s1.1) (evPos rfl (Ev.now _)))))))
end Go.Proofs.Ytafohchkacclpaa.Pure
