/- The plain law of NeedsHunks: program and reference answer alike. -/
import Derived.Test.YtafohchkacclpaaC4
import Derived.Test.YtafohchkacclpaaC8
import Derived.Test.YtafohchkacclpaaPureJoin
import Derived.Test.YtafohchkacclpaaPureGoodS
import Derived.Test.YtafohchkacclpaaPureTextS
set_option linter.unusedVariables false
set_option linter.unusedSimpArgs false
namespace Go.Proofs.Ytafohchkacclpaa.Pure
open Go.RowKit Go.Proofs.YtafohchkacclpaaW.PrintWords Go.Proofs.Ytafohchkacclpaa.Tools Go.Proofs.Ytafohchkacclpaa.Text Go.Proofs.Ytafohchkacclpaa.C

theorem good_len {l : T} (h : goodB l = true) : l.length ≤ 40 := by
  unfold goodB at h
  simp only [Bool.and_eq_true, decide_eq_true_eq] at h
  omega
theorem needs_both (a b : T) (ha : Sm a) (hb : Sm b) : ∃ r : Int × Bool, Ev (fun k => spec_NeedsHunks.f k a b) r ∧ Ev (fun k => impl_NeedsHunks.f k a b) r := by
  unfold spec_NeedsHunks.f impl_NeedsHunks.f
  by_cases g : goodB a = true
  · by_cases q : goodB b = true
    · obtain ⟨r, h1, h2⟩ := diff_both a b (by have := good_len g; omega) (by have := good_len q; omega)
      exact ⟨((r.length : Int), true), evB (sGood a ha) (evPos g (evB (sGood b hb) (evPos q (evB h1 (Ev.now _))))), evB (iGood a ha) (evPos g (evB (iGood b hb) (evPos q (evB h2 (Ev.now _)))))⟩
    · exact ⟨(0, false), evB (sGood a ha) (evPos g (evB (sGood b hb) (evNeg q (Ev.now _)))), evB (iGood a ha) (evPos g (evB (iGood b hb) (evNeg q (Ev.now _))))⟩
  · exact ⟨(0, false), evB (sGood a ha) (evNeg g (Ev.now _)), evB (iGood a ha) (evNeg g (Ev.now _))⟩
theorem bne_self {α : Type} [BEq α] [LawfulBEq α] (x : α) : (x != x) = false := by simp
theorem FnExactNeedsHunks : laws_FnExactNeedsHunks.Pure := by
  intro l0 l1 h0 h1
  refine Ev.rounds ?_
  unfold laws_FnExactNeedsHunks.f
  obtain ⟨r, hr, hr2, hp⟩ := sz l0 1048576 (by omega) (by omega) h0.1 h0.2
  refine evB hr ?_
  by_cases hn : r < 0
  · exact evPos hn (Ev.now _)
  obtain ⟨q, hq, hq2, hp1⟩ := sz l1 r (by omega) (by omega) h1.1 h1.2
  refine evNeg hn (evB hq ?_)
  by_cases hn1 : q < 0
  · exact evPos hn1 (Ev.now _)
  have s0 := hp (by omega)
  have s1 := hp1 (by omega)
  have L0 := s0.1
  have L1 := s1.1
  have t0 := toT l0 L0
  have t1 := toT l1 L1
  obtain ⟨y, n1, n2⟩ := needs_both l0 l1 s0 s1
  refine evNeg hn1 (evB t0 (evB t1 (evB n1 (evB t0 (evB t1 (evB n2 (evPos rfl ?_)))))))
  rw [bne_self]
  refine evStep (fun k => by rw [laws_FnExactNeedsHunks.j0]) ?_
  exact evNeg (by simp) (evB t0 (evB (eqT_self l0 L0) (evPos rfl (evB t1 (evB (eqT_self l1 L1) (evPos rfl (Ev.now _)))))))
end Go.Proofs.Ytafohchkacclpaa.Pure
