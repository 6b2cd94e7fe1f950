/- What tidying comes to, by the reference. -/
import Derived.Test.YtnhnlfkbngnkpaaE5
import Derived.Test.YtnhnlfkbngnkpaaPureTidy0
set_option linter.unusedVariables false
set_option linter.unusedSimpArgs false
namespace Go.Proofs.Ytnhnlfkbngnkpaa.Ops
open Go.RowKit Go.Proofs.YtnhnlfkbngnkpaaW.PrintWords Go.Proofs.YtnhnlfkbngnkpaaW.PrintLast Go.Proofs.YtnhnlfkbngnkpaaW.PrintMore Go.Proofs.Ytnhnlfkbngnkpaa.Tools Go.Proofs.Ytnhnlfkbngnkpaa.E

theorem specTidy_l0 (old : ByteArray) (ho : old.size ≤ 300) (l : List OpS) (hl : l.length ≤ 300) (hok : allOk old l) : ∀ i (out : List OpS), i ≤ l.length → Tid old l i out →
  Ev (fun k => qJ.l0 k out l (l.length : Int) (i : Int)) (tidyM out (l.drop i), true) := by
 refine evUp (R := fun out i => (tidyM out (l.drop i), true)) (g := fun out i k => qJ.l0 k out l (l.length : Int) (i : Int)) (Tid old l) ?_ ?_
 ·intro out h
  refine qV (fun k => by rw [qJ.l0]) ?_
  exact qP (by omega) (evEq (Ev.now _) (by simp [tidyM]))
 ·intro i out hi hI k
  have hn := Tid_next hok hi hI
  have hi1 : wrap64 ((i : Int) + 1) = ((i + 1 : Nat) : Int) := by rw [w64 (by omega) (by omega)]; simp
  have h := ok_len ho (hok _ (qoc hi z))
  have kk := k _ hn
  rw [qpc hi z]
  generalize ho' : l.getD i z = o at h hn kk ⊢
  have hrd : qc l (i : Int) = o := ho'
  unfold tidyM
  refine qV (fun k => by rw [qJ.l0]) ?_
  refine qA (by omega) (qA (by omega) (qA (by omega) ?_))
  simp only [hrd]
  obtain ⟨q1, q2, q3⟩ := hI
  rcases List.eq_nil_or_concat out with rfl | ⟨p, y, rfl⟩
  ·refine qP (by simp) ?_
   refine qV (fun k => by rw [qJ.j1]) ?_
   refine qP (by simp) (qA (by simp) ?_)
   rw [hi1]
   exact kk
  ·rw [List.concat_eq_append] at *
   rw [push_app] at kk ⊢
   rw [qCc, qCb] at q1
   have hy := ok_len ho q1.2.1
   have hL := len_snoc p y
   have hp : p.length ≤ 300 := by rw [List.length_append] at q2; omega
   have hw : wrap64 ((((p ++ [y]).length : Nat) : Int) - 1) = ((p.length : Nat) : Int) := by rw [hL, w64 (by omega) (by omega)]; omega
   simp only [hw, getD_snoc]
   refine qA (by omega) (qA (by omega) (qA (by omega) ?_))
   refine qV (fun k => by rw [qJ.j1]) ?_
   simp only [hw, getD_snoc, set_snoc, hi1]
   unfold join at kk ⊢
   by_cases h0 : y.f0 = o.f0
   ·rw [if_pos h0] at kk ⊢
    refine qA (by simp [h0]) (qA (by omega) (qA (by omega) ?_))
    by_cases h1 : o.f0 = 2
    ·rw [if_pos h1] at kk ⊢
     exact qA h1 (qA (by omega) kk)
    ·rw [if_neg h1] at kk ⊢
     refine qP h1 ?_
     rw [w64 (x := y.f1 + y.f2) (by omega) (by omega), w64 (x := y.f2 + o.f2) (by omega) (by omega)]
     by_cases h2 : y.f1 + y.f2 = o.f1
     ·rw [if_pos h2] at kk ⊢
      exact qA h2 kk
     ·rw [if_neg h2] at kk ⊢
      refine qP h2 (qA (by omega) ?_)
      rw [List.append_assoc]; exact kk
   ·rw [if_neg h0] at kk ⊢
    refine qP (by simp [h0]) (qA (by omega) ?_)
    rw [List.append_assoc]; exact kk
theorem specTidyOps (old : ByteArray) (ho : old.size ≤ 1048576) (l : List OpS) (hl : l.length ≤ 1048576) : Ev (fun k => qJ.f k old l) (tidyOpsM old l) := by
 unfold qJ.f tidyOpsM
 refine evB (l14Good old ho l hl) ?_
 by_cases h : Good old l
 ·rw [if_pos h]
  exact qA (decide_eq_true h) (evEq (specTidy_l0 old h.2.1 l h.2.2.1 h.1 0 [] (by omega) (Tid_zero h)) (by simp))
 ·rw [if_neg h]
  exact qP (by simpa using h) (Ev.now _)
end Go.Proofs.Ytnhnlfkbngnkpaa.Ops
