/- What the functions on ops come to, part 3: what they bring, and their bytes, by both. -/
import Derived.Test.YtnhnlfkbngnkpaaPureDoI
import Derived.Test.YtnhnlfkbngnkpaaE3
import Derived.Test.YtnhnlfkbngnkpaaE4
set_option linter.unusedVariables false
set_option linter.unusedSimpArgs false
namespace Go.Proofs.Ytnhnlfkbngnkpaa.Ops
open Go.RowKit Go.Proofs.YtnhnlfkbngnkpaaW.PrintWords Go.Proofs.YtnhnlfkbngnkpaaW.PrintLast Go.Proofs.YtnhnlfkbngnkpaaW.PrintMore Go.Proofs.Ytnhnlfkbngnkpaa.Tools Go.Proofs.Ytnhnlfkbngnkpaa.E

/-! ### bytes -/
def two (n : Int) : ByteArray := strOfNums [(n / 256) % 256, n % 256]
def enc (o : OpS) : ByteArray := if o.f0 = 1 then two o.f1 ++ two o.f2 else two (o.f3.size : Int) ++ o.f3
def bytesM : ByteArray → List OpS → ByteArray
 | out, [] => out
 | out, o :: l => bytesM (out ++ strOfNums [o.f0 % 256] ++ enc o) l
theorem qmc (l : List Int) : (strOfNums l).size = l.length := by
 simp [strOfNums, ByteArray.size]
theorem qnc (n : Int) : (two n).size = 2 := by unfold two; rw [qmc]; rfl
theorem spec_two (n : Int) (h0 : 0 ≤ n) (h1 : n ≤ 1000000000) : qNb.f n = some (two n) := by
 unfold qNb.f two
 rw [Int.tdiv_eq_ediv_of_nonneg h0, Int.tmod_eq_emod_of_nonneg h0, w64 (by omega) (by omega), Int.emod_emod_of_dvd _ (by decide)]
theorem impl_two (n : Int) : qPb.f n = some (two n) := rfl
theorem good_at {old : ByteArray} {l : List OpS} (h : Good old l) {i : Nat} (hi : i < l.length) : ok old (l.getD i z) ∧ (l.getD i z).f3.size ≤ 300 ∧ old.size ≤ 300 := by
 have := h.1 _ (qoc hi z)
 refine ⟨this, ?_, h.2.1⟩
 unfold ok at this
 omega
theorem enc_size (old : ByteArray) (o : OpS) (h : ok old o) : (enc o).size ≤ 304 := by
 unfold enc
 split
 ·rw [ByteArray.size_append, qnc, qnc]; omega
 ·rw [ByteArray.size_append, qnc]; unfold ok at h; omega
theorem specOpsBytes_l0 (old : ByteArray) (l : List OpS) (h : Good old l) : ∀ i (out : ByteArray), i ≤ l.length → (out.size ≤ i * 1000 + 2) →
  Ev (fun k => qW.l0 k out l (l.length : Int) (i : Int)) (bytesM out (l.drop i), true) := by
 refine evUp (R := fun out i => (bytesM out (l.drop i), true)) (g := fun out i k => qW.l0 k out l (l.length : Int) (i : Int)) (fun i out => out.size ≤ i * 1000 + 2) ?_ ?_
 ·intro out h
  refine qV (fun k => by rw [qW.l0]) ?_
  exact qP (by omega) (evEq (Ev.now _) (by simp [bytesM]))
 ·intro i out hi hout k
  have hl := h.2.2.1
  have hi1 : wrap64 ((i : Int) + 1) = ((i + 1 : Nat) : Int) := by rw [w64 (by omega) (by omega)]; simp
  obtain ⟨hok, hs, hold⟩ := good_at h hi
  rw [qpc hi z]
  generalize ho' : l.getD i z = o at hok hs ⊢
  have hrd : qc l (i : Int) = o := ho'
  refine qV (fun k => by rw [qW.l0]) ?_
  have hes := enc_size old o hok
  refine qA (by omega) (qA (by omega) (qA (by omega) ?_))
  simp only [hrd, hi1]
  refine evSome (qA (by rw [qmc]; simp; omega) ?_)
  unfold bytesM
  by_cases h0 : o.f0 = 1
  ·have hh : 0 ≤ o.f1 ∧ o.f1 ≤ 1000000000 ∧ 0 ≤ o.f2 ∧ o.f2 ≤ 1000000000 := by unfold ok at hok; omega
   have he : two o.f1 ++ two o.f2 = enc o := by unfold enc; rw [if_pos h0]
   refine qA h0 (evBS (spec_two _ hh.1 hh.2.1) (evBS (spec_two _ hh.2.2.1 hh.2.2.2) (qA (by rw [qnc, qnc]; omega) ?_)))
   rw [he]
   refine qA (by rw [ByteArray.size_append, qmc]; simp; omega) (k _ ?_)
   rw [ByteArray.size_append, ByteArray.size_append, qmc]; simp; omega
  ·have he : two (o.f3.size : Int) ++ o.f3 = enc o := by unfold enc; rw [if_neg h0]
   refine qP h0 (evBS (spec_two _ (by omega) (by omega)) (qA (by rw [qnc]; omega) ?_))
   rw [he]
   refine qA (by rw [ByteArray.size_append, qmc]; simp; omega) (k _ ?_)
   rw [ByteArray.size_append, ByteArray.size_append, qmc]; simp; omega
theorem implOpsBytes_l0 (old : ByteArray) (l : List OpS) (h : Good old l) : ∀ i (out : ByteArray), i ≤ l.length → (out.size ≤ i * 1000 + 2) →
  Ev (fun k => qY.l0 k out l (l.length : Int) (i : Int)) (bytesM out (l.drop i), true) := by
 refine evUp (R := fun out i => (bytesM out (l.drop i), true)) (g := fun out i k => qY.l0 k out l (l.length : Int) (i : Int)) (fun i out => out.size ≤ i * 1000 + 2) ?_ ?_
 ·intro out h
  refine qV (fun k => by rw [qY.l0]) ?_
  exact qP (by omega) (evEq (Ev.now _) (by simp [bytesM]))
 ·intro i out hi hout k
  have hl := h.2.2.1
  have hi1 : wrap64 ((i : Int) + 1) = ((i + 1 : Nat) : Int) := by rw [w64 (by omega) (by omega)]; simp
  obtain ⟨hok, hs, hold⟩ := good_at h hi
  rw [qpc hi z]
  generalize ho' : l.getD i z = o at hok hs ⊢
  have hrd : qc l (i : Int) = o := ho'
  refine qV (fun k => by rw [qY.l0]) ?_
  have hes := enc_size old o hok
  refine qA (by omega) (qA (by omega) (qA (by omega) ?_))
  simp only [hrd, hi1]
  refine evSome (qA (by rw [qmc]; simp; omega) ?_)
  unfold bytesM
  by_cases h0 : o.f0 = 1
  ·have he : two o.f1 ++ two o.f2 = enc o := by unfold enc; rw [if_pos h0]
   refine qA h0 (evBS (impl_two _) (evBS (impl_two _) (qA (by rw [qnc, qnc]; omega) ?_)))
   rw [he]
   refine qA (by rw [ByteArray.size_append, qmc]; simp; omega) (k _ ?_)
   rw [ByteArray.size_append, ByteArray.size_append, qmc]; simp; omega
  ·have he : two (o.f3.size : Int) ++ o.f3 = enc o := by unfold enc; rw [if_neg h0]
   refine qP h0 (evBS (impl_two _) (qA (by rw [qnc]; omega) ?_))
   rw [he]
   refine qA (by rw [ByteArray.size_append, qmc]; simp; omega) (k _ ?_)
   rw [ByteArray.size_append, ByteArray.size_append, qmc]; simp; omega
def opsBytesM (old : ByteArray) (l : List OpS) : ByteArray × Bool := if Good old l then (bytesM (two (l.length : Int)) l, true) else (⟨#[]⟩, false)
theorem specOpsBytes (old : ByteArray) (ho : old.size ≤ 1048576) (l : List OpS) (hl : l.length ≤ 1048576) : Ev (fun k => qW.f k old l) (opsBytesM old l) := by
 unfold qW.f opsBytesM
 refine evB (l14Good old ho l hl) ?_
 by_cases h : Good old l
 ·rw [if_pos h]
  refine qA (decide_eq_true h) (evBS (spec_two _ (by omega) (by omega)) ?_)
  exact evEq (specOpsBytes_l0 old l h 0 _ (by omega) (by rw [qnc]; omega)) (by simp)
 ·rw [if_neg h]
  exact qP (by simpa using h) (Ev.now _)
theorem implOpsBytes (old : ByteArray) (ho : old.size ≤ 1048576) (l : List OpS) (hl : l.length ≤ 1048576) : Ev (fun k => qY.f k old l) (opsBytesM old l) := by
 unfold qY.f opsBytesM
 refine evB (implGoodOps old ho l hl) ?_
 by_cases h : Good old l
 ·rw [if_pos h]
  refine qA (decide_eq_true h) (evBS (impl_two _) ?_)
  exact evEq (implOpsBytes_l0 old l h 0 _ (by omega) (by rw [qnc]; omega)) (by simp)
 ·rw [if_neg h]
  exact qP (by simpa using h) (Ev.now _)

end Go.Proofs.Ytnhnlfkbngnkpaa.Ops
