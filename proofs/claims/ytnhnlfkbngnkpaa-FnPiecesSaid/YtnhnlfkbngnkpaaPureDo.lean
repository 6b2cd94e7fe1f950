/- What the functions on ops bring, by both. -/
import Derived.Test.YtnhnlfkbngnkpaaD5
import Derived.Test.YtnhnlfkbngnkpaaPureOps2
set_option linter.unusedVariables false
set_option linter.unusedSimpArgs false
namespace Go.Proofs.Ytnhnlfkbngnkpaa.Ops
open Go.RowKit Go.Proofs.YtnhnlfkbngnkpaaW.PrintWords Go.Proofs.YtnhnlfkbngnkpaaW.PrintLast Go.Proofs.YtnhnlfkbngnkpaaW.PrintMore Go.Proofs.Ytnhnlfkbngnkpaa.Tools Go.Proofs.Ytnhnlfkbngnkpaa.D

theorem flat_size (old : ByteArray) : ∀ (l : List OpS) (out : ByteArray), allOk old l → ((flat old out l).size : Int) = out.size + sum l
 | [], out, _ => by rw [sum_nil]; unfold flat; omega
 | o :: l, out, h => by
  rw [allOk_cons] at h
  unfold flat
  rw [flat_size old l _ h.2, ByteArray.size_append, sum_cons]
  have := bring_size h.1
  omega
theorem do_l0 (old : ByteArray) (ho : old.size ≤ 1048576) (l : List OpS) (hl : l.length ≤ 1048576) (hok : allOk old l) : ∀ i (out : ByteArray), i ≤ l.length → (out.size ≤ i * 2000000) →
  Ev (fun k => spec_l14Do.l0 k old out l (l.length : Int) (i : Int)) (flat old out (l.drop i)) := by
 refine evUp (R := fun out i => flat old out (l.drop i)) (g := fun out i k => spec_l14Do.l0 k old out l (l.length : Int) (i : Int)) (fun i out => out.size ≤ i * 2000000) ?_ ?_
 ·intro out h
  refine evStep (fun k => by rw [spec_l14Do.l0]) ?_
  exact evNeg (by omega) (evEq (Ev.now _) (by simp [flat]))
 ·intro i out hi hout k
  have hi1 : wrap64 ((i : Int) + 1) = ((i + 1 : Nat) : Int) := by rw [w64 (by omega) (by omega)]; simp
  have h := hok _ (getD_mem hi z)
  rw [drop_at hi z]
  generalize ho' : l.getD i z = o at h ⊢
  have hrd : rd_T43 l (i : Int) = o := ho'
  have hs := bring_size h
  have hm := many_pos h
  unfold flat
  refine evStep (fun k => by rw [spec_l14Do.l0]) ?_
  refine evPos (by omega) (evPos (by omega) (evPos (by omega) ?_))
  simp only [hrd, hi1]
  by_cases h0 : o.f0 = 1
  ·have hh : 1 ≤ o.f2 ∧ 0 ≤ o.f1 ∧ o.f1 + o.f2 ≤ (old.size : Int) := by unfold ok at h; omega
   have hbr : old.extract o.f1.toNat (o.f1 + o.f2).toNat = bring old o := by unfold bring; rw [if_pos h0]
   rw [w64 (x := o.f1 + o.f2) (by omega) (by omega), hbr]
   refine evPos h0 (evPos (by omega) (evPos (by omega) (evPos (by omega) (evPos (by omega) ?_))))
   exact k _ (by rw [ByteArray.size_append]; omega)
  ·have hbr : o.f3 = bring old o := by unfold bring; rw [if_neg h0]
   rw [hbr]
   refine evNeg h0 (evPos (by omega) ?_)
   exact k _ (by rw [ByteArray.size_append]; omega)
theorem l14Do (old : ByteArray) (ho : old.size ≤ 1048576) (l : List OpS) (hl : l.length ≤ 1048576) (hok : allOk old l) : Ev (fun k => spec_l14Do.f k old l) (flat old ⟨#[]⟩ l) := by
 unfold spec_l14Do.f
 exact evEq (do_l0 old ho l hl hok 0 ⟨#[]⟩ (by omega) (by decide)) (by simp)
theorem specDoOps (old : ByteArray) (ho : old.size ≤ 1048576) (l : List OpS) (hl : l.length ≤ 1048576) : Ev (fun k => spec_DoOps.f k old l) (if Good old l then (flat old ⟨#[]⟩ l, true) else (⟨#[]⟩, false)) := by
 unfold spec_DoOps.f
 refine evB (l14Good old ho l hl) ?_
 by_cases h : Good old l
 ·rw [if_pos h]
  exact evPos (decide_eq_true h) (evB (l14Do old ho l hl h.1) (Ev.now _))
 ·rw [if_neg h]
  exact evNeg (by simpa using h) (Ev.now _)
theorem implDoOps (old : ByteArray) (ho : old.size ≤ 1048576) (l : List OpS) (hl : l.length ≤ 1048576) : Ev (fun k => impl_DoOps.f k old l) (if Good old l then (flat old ⟨#[]⟩ l, true) else (⟨#[]⟩, false)) := by
 unfold impl_DoOps.f
 exact evB (done old ho l hl) (Ev.now _)
end Go.Proofs.Ytnhnlfkbngnkpaa.Ops
