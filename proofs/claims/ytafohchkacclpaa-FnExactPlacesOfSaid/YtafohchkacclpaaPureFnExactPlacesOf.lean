/- The plain law of PlacesOf: program and reference answer alike, and what is answered is new each time. -/
import Derived.Test.YtafohchkacclpaaA2
import Derived.Test.YtafohchkacclpaaA3
import Derived.Test.YtafohchkacclpaaA5
import Derived.Test.YtafohchkacclpaaPureLines
import Derived.Test.YtafohchkacclpaaPureInts
set_option linter.unusedVariables false
set_option linter.unusedSimpArgs false
namespace Go.Proofs.Ytafohchkacclpaa.Pure
open Go.RowKit Go.Proofs.YtafohchkacclpaaW.PrintWords Go.Proofs.Ytafohchkacclpaa.Tools Go.Proofs.Ytafohchkacclpaa.Text Go.Proofs.Ytafohchkacclpaa.A

def pl (l p : T) : Nat → Nat → List Int
  | 0, _ => []
  | d + 1, i => if fitsB l p (i : Int) = true then (i : Int) :: pl l p d (i + 1) else pl l p d (i + 1)
theorem pl_len (l p : T) : ∀ d i, (pl l p d i).length ≤ d
  | 0, _ => Nat.le_refl _
  | d + 1, i => by
    unfold pl
    have := pl_len l p d (i + 1)
    split
    · rw [List.length_cons]; omega
    · omega
def placesOf (l p : T) : List Int × Bool := if (goodB l && (decide (p.length ≤ 40) && allLines p)) = true then (pl l p (l.length + 1) 0, true) else ([], false)
theorem placesOf_len (l p : T) (hl : l.length ≤ 1048576) : (placesOf l p).1.length ≤ 1048577 := by
  unfold placesOf
  have := pl_len l p (l.length + 1) 0
  split
  · show (pl l p (l.length + 1) 0).length ≤ _; omega
  · simp
theorem sPlaces_l1 (l p : T) (hl : l.length ≤ 1048576) (hp : p.length ≤ 1048576) : Ev (fun k => spec_PlacesOf.l1 k l p [] 0) (pl l p (l.length + 1) 0, true) := by
  have key := evUp (σ := List Int) (n := l.length + 1) (g := fun s i k => spec_PlacesOf.l1 k l p s (i : Int)) (R := fun s i => (s ++ pl l p (l.length + 1 - i) i, true)) (fun i s => s.length ≤ i) ?_ ?_ 0 [] (by omega) (by simp)
  · exact evEq key (by simp)
  · intro s h
    refine evStep (fun k => by rw [spec_PlacesOf.l1]) ?_
    exact evNeg (by omega) (evEq (Ev.now _) (by rw [Nat.sub_self]; simp [pl]))
  · intro i s hi h k
    have hi1 := up1 hi (by omega)
    refine evStep (fun k => by rw [spec_PlacesOf.l1]) ?_
    simp only [hi1]
    clear hi1
    rw [show l.length + 1 - i = (l.length + 1 - (i + 1)) + 1 by omega]
    unfold pl
    refine evPos (by omega) (evB (sFits l p _ hl hp) ?_)
    by_cases hf : fitsB l p (i : Int) = true
    · rw [if_pos hf]
      refine evPos hf (evPos (by omega) (evEq (k (s ++ [(i : Int)]) (by simp; omega)) ?_))
      simp
    · rw [if_neg hf]
      exact evNeg hf (k s (by omega))
theorem iPlaces_l0 (l p : T) (hl : l.length ≤ 1048576) (hp : p.length ≤ 1048576) : Ev (fun k => impl_PlacesOf.l0 k l p [] ((l.length : Int) + 1) 0) (pl l p (l.length + 1) 0, true) := by
  have key := evUp (σ := List Int) (n := l.length + 1) (g := fun s i k => impl_PlacesOf.l0 k l p s ((l.length : Int) + 1) (i : Int)) (R := fun s i => (s ++ pl l p (l.length + 1 - i) i, true)) (fun i s => s.length ≤ i) ?_ ?_ 0 [] (by omega) (by simp)
  · exact evEq key (by simp)
  · intro s h
    refine evStep (fun k => by rw [impl_PlacesOf.l0]) ?_
    exact evNeg (by omega) (evEq (Ev.now _) (by rw [Nat.sub_self]; simp [pl]))
  · intro i s hi h k
    have hi1 := up1 hi (by omega)
    refine evStep (fun k => by rw [impl_PlacesOf.l0]) ?_
    simp only [hi1]
    clear hi1
    rw [show l.length + 1 - i = (l.length + 1 - (i + 1)) + 1 by omega]
    unfold pl
    refine evPos (by omega) (evB (iFits l p _ hl hp) ?_)
    by_cases hf : fitsB l p (i : Int) = true
    · rw [if_pos hf]
      refine evPos hf (evPos (by omega) (evEq (k (s ++ [(i : Int)]) (by simp; omega)) ?_))
      simp
    · rw [if_neg hf]
      exact evNeg hf (k s (by omega))
theorem sPlaces_l0 (l p : T) (hl : l.length ≤ 1048576) (hp : Sm p) (h40 : p.length ≤ 40) : Ev (fun k => spec_PlacesOf.l0 k l p p (p.length : Int) 0) (if allLines p = true then (pl l p (l.length + 1) 0, true) else ([], false)) := by
  have hP := hp.1
  have key := evUp0 (n := p.length) (g := fun i k => spec_PlacesOf.l0 k l p p (p.length : Int) (i : Int)) (R := fun i => if allLines (p.drop i) = true then (pl l p (l.length + 1) 0, true) else ([], false)) ?_ ?_ 0 (by omega)
  · exact evEq key (by simp)
  · refine evStep (fun k => by rw [spec_PlacesOf.l0]) ?_
    rw [List.drop_eq_nil_of_le (by omega)]
    exact evNeg (by omega) (sPlaces_l1 l p hl hP)
  · intro i hi k
    have hi1 := up1 hi (by omega)
    have hsz := hp.2 _ (getD_mem hi em)
    refine evStep (fun k => by rw [spec_PlacesOf.l0]) ?_
    simp only [hi1, rd_t]
    clear hi1
    rw [drop_at hi em]
    refine evPos (by omega) (evPos (by omega) (evPos (by omega) (evB (sLine _ hsz) ?_)))
    by_cases h : lineP (p.getD i em)
    · refine evPos (decide_eq_true h) (evEq k ?_)
      rw [allLines_cons, decide_eq_true h, Bool.true_and]
    · refine evNeg (by rw [decide_eq_false h]; decide) (evEq (Ev.now _) ?_)
      rw [allLines_cons, decide_eq_false h, Bool.false_and]; rfl
theorem sPlacesOf (l p : T) (hl : Sm l) (hp : Sm p) : Ev (fun k => spec_PlacesOf.f k l p) (placesOf l p) := by
  have hL := hl.1
  unfold spec_PlacesOf.f placesOf
  refine evB (sGood l hl) ?_
  by_cases hg : goodB l = true
  · rw [hg, Bool.true_and]
    refine evPos rfl (evStep (fun k => by rw [spec_PlacesOf.j0]) ?_)
    by_cases h4 : p.length ≤ 40
    · rw [decide_eq_true h4, Bool.true_and]
      exact evNeg (by simp; omega) (sPlaces_l0 l p hL hp h4)
    · rw [decide_eq_false h4, Bool.false_and]
      exact evPos (by simp; omega) (Ev.now _)
  · rw [Bool.not_eq_true] at hg
    rw [hg, Bool.false_and]
    refine evNeg (by simp) (evStep (fun k => by rw [spec_PlacesOf.j0]) ?_)
    exact evPos rfl (Ev.now _)
theorem iPlacesOf (l p : T) (hl : Sm l) (hp : Sm p) : Ev (fun k => impl_PlacesOf.f k l p) (placesOf l p) := by
  have hL := hl.1
  have hP := hp.1
  unfold impl_PlacesOf.f placesOf
  refine evB (iGood l hl) ?_
  by_cases hg : goodB l = true
  · rw [hg, Bool.true_and]
    refine evPos rfl (evB (iAre p hp) (evStep (fun k => by rw [impl_PlacesOf.j0]) ?_))
    have hw : wrap64 ((l.length : Int) + 1) = (l.length : Int) + 1 := w64 (by omega) (by omega)
    rw [hw]
    clear hw
    by_cases h4 : (decide (p.length ≤ 40) && allLines p) = true
    · rw [h4]
      exact evNeg (by simp) (iPlaces_l0 l p hL hP)
    · rw [Bool.not_eq_true] at h4
      rw [h4]
      exact evPos rfl (Ev.now _)
  · rw [Bool.not_eq_true] at hg
    rw [hg, Bool.false_and]
    refine evNeg (by simp) (evStep (fun k => by rw [impl_PlacesOf.j0]) ?_)
    exact evPos rfl (Ev.now _)
theorem bne_self {α : Type} [BEq α] [LawfulBEq α] (x : α) : (x != x) = false := by simp
theorem FnExactPlacesOf : laws_FnExactPlacesOf.Pure := by
  intro l0 l1 h0 h1
  refine Ev.rounds ?_
  unfold laws_FnExactPlacesOf.f
  obtain ⟨r, hr, hr2, hp⟩ := sz l0 1048576 (by omega) (by omega) h0.1 h0.2
  refine evB hr ?_
  by_cases hn : r < 0
  · exact evPos hn (Ev.now _)
  obtain ⟨q, hq, hq2, hp1⟩ := sz l1 r (by omega) (by omega) h1.1 h1.2
  refine evNeg hn (evB hq ?_)
  by_cases hn1 : q < 0
  · exact evPos hn1 (Ev.now _)
  have s0 := hp (by omega)
  have s1 := hp1 (by omega)
  have t0 := toT l0 s0.1
  have t1 := toT l1 s1.1
  have hs := sPlacesOf l0 l1 s0 s1
  have hi := iPlacesOf l0 l1 s0 s1
  have hlen := placesOf_len l0 l1 s0.1
  have L0 := s0.1
  have L1 := s1.1
  refine evNeg hn1 (evB t0 (evB t1 (evB hs (evB t0 (evB t1 (evB hi (evB (eqI _ hlen) (evPos rfl ?_))))))))
  rw [bne_self]
  obtain ⟨m0, e0⟩ := markT l0 1 (by omega) (by omega) L0
  obtain ⟨m1, e1⟩ := markT l1 (1 + (l0.length : Int)) (by omega) (by omega) L1
  refine evStep (fun k => by rw [laws_FnExactPlacesOf.j0]) ?_
  refine evNeg (by simp) (evB t0 (evB (eqT_self l0 L0) (evPos rfl (evB t1 (evB (eqT_self l1 L1) (evPos rfl (evB e0 (evB e1 (evNeg (by show ¬ (1 + (l0.length : Int) + (l1.length : Int) < 0); omega) (evB (eqI _ hlen) (evPos rfl ?_)))))))))))
  rw [bne_self]
  generalize placesOf l0 l1 = M at hlen hi hs ⊢
  refine evStep (fun k => by rw [laws_FnExactPlacesOf.j1]) ?_
  refine evNeg (by simp) (evB (markI M.1 (by omega)) (evB (heldI M.1.length (by omega)) (evNeg (by omega) (evPos rfl (evB t0 (evB t1 (evB hi (evB (eqI M.1 hlen) (evPos rfl ?_)))))))))
  rw [bne_self]
  refine evStep (fun k => by rw [laws_FnExactPlacesOf.j2]) ?_
  exact evNeg (by simp) (evB (heldI M.1.length (by omega)) (evNeg (by omega) (evPos rfl (Ev.now _))))
end Go.Proofs.Ytafohchkacclpaa.Pure
