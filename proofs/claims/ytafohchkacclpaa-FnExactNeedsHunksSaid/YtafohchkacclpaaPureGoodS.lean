/- Good lines by the reference. -/
import Derived.Test.YtafohchkacclpaaC1
import Derived.Test.YtafohchkacclpaaPureLines0
set_option linter.unusedVariables false
set_option linter.unusedSimpArgs false
namespace Go.Proofs.Ytafohchkacclpaa.Text
open Go.RowKit Go.Proofs.YtafohchkacclpaaW.PrintWords Go.Proofs.YtafohchkacclpaaW.PrintLast Go.Proofs.YtafohchkacclpaaW.PrintMore Go.Proofs.Ytafohchkacclpaa.Tools Go.Proofs.Ytafohchkacclpaa.C

theorem sGood (l : T) (hl : Sm l) : Ev (fun k => spec_l1Good.f k l) (goodB l) := by
  unfold spec_l1Good.f
  have hL := hl.1
  have hw : wrap64 ((l.length : Int) - 1) = (l.length : Int) - 1 := w64 (by omega) (by omega)
  have key := evUp0 (n := l.length) (g := fun i k => spec_l1Good.l0 k l l (l.length : Int) (i : Int)) (R := fun i => decide (l.length ≤ 40) && allLines (l.drop i) && endsT (l.drop i)) ?_ ?_ 0 (by omega)
  · exact evEq key (by simp [goodB])
  · refine evStep (fun k => by rw [spec_l1Good.l0]) ?_
    refine evNeg (by omega) (evEq (Ev.now _) ?_)
    rw [List.drop_eq_nil_of_le (by omega)]
    simp [allLines, endsT]
    omega
  · intro i hi k
    have hi1 := up1 hi (by omega)
    have hd := drop_at hi em
    have hsz := hl.2 _ (getD_mem hi em)
    have he := drop_empty hi
    have hR : (decide (l.length ≤ 40) && allLines (l.drop i) && endsT (l.drop i)) = (decide (lineP (l.getD i em)) && ((decide (¬ (i : Int) < (l.length : Int) - 1) || decide (endP (l.getD i em))) && (decide (l.length ≤ 40) && allLines (l.drop (i + 1)) && endsT (l.drop (i + 1))))) := by
      rw [hd]
      simp only [allLines, endsT, List.all_cons, he]
      generalize decide (l.length ≤ 40) = a1
      generalize decide (lineP (l.getD i em)) = a2
      generalize (l.drop (i + 1)).all (fun s => decide (lineP s)) = a3
      generalize (decide (¬ (i : Int) < (l.length : Int) - 1) || decide (endP (l.getD i em))) = a4
      generalize endsT (l.drop (i + 1)) = a5
      cases a1 <;> cases a2 <;> cases a3 <;> cases a4 <;> cases a5 <;> rfl
    rw [hR]
    refine evStep (fun k => by rw [spec_l1Good.l0]) ?_
    simp only [hw, hi1, rd_t]
    clear hw hi1
    refine evPos (by omega) (evPos (by omega) (evPos (by omega) (evB (sLine _ hsz) ?_)))
    by_cases h1 : lineP (l.getD i em)
    · rw [decide_eq_true h1, Bool.true_and]
      refine evPos rfl ?_
      by_cases h2 : (i : Int) < (l.length : Int) - 1
      · rw [decide_eq_false (show ¬ ¬ (i : Int) < (l.length : Int) - 1 from fun g => g h2), Bool.false_or]
        refine evPos h2 (evBS (sEnds _ h1.1 hsz) ?_)
        by_cases h3 : endP (l.getD i em)
        · rw [decide_eq_true h3, Bool.true_and]; exact evPos rfl k
        · rw [decide_eq_false h3, Bool.false_and]; exact evNeg (by simp) (Ev.now _)
      · rw [decide_eq_true h2, Bool.true_or, Bool.true_and]
        exact evNeg h2 k
    · rw [decide_eq_false h1, Bool.false_and]
      exact evNeg (by simp) (Ev.now _)
end Go.Proofs.Ytafohchkacclpaa.Text
