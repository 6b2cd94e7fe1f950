/- The plain law of NearFit: program and reference answer alike. -/
import Derived.Test.YtafohchkacclpaaA11
import Derived.Test.YtafohchkacclpaaA12
import Derived.Test.YtafohchkacclpaaA13
import Derived.Test.YtafohchkacclpaaA14
import Derived.Test.YtafohchkacclpaaPureGroup
set_option linter.unusedVariables false
set_option linter.unusedSimpArgs false
namespace Go.Proofs.Ytafohchkacclpaa.Pure
open Go.RowKit Go.Proofs.YtafohchkacclpaaW.PrintWords Go.Proofs.Ytafohchkacclpaa.Tools Go.Proofs.Ytafohchkacclpaa.Text Go.Proofs.Ytafohchkacclpaa.A

def nearM (l p : T) (a : Int) : Nat → Nat → Int
  | 0, _ => -1
  | d + 1, i => if fitsB l p (a - (i : Int)) = true then a - (i : Int) else if fitsB l p (a + (i : Int)) = true then a + (i : Int) else nearM l p a d (i + 1)
theorem sNear (l p : T) (hl : l.length ≤ 1048576) (hp : p.length ≤ 1048576) (a : Int) (ha : 0 ≤ a ∧ a ≤ 999) (m : Nat) (hm : m ≤ 40) : Ev (fun k => spec_l16Near.f k l p a (m : Int)) (nearM l p a (m + 1) 0) := by
  unfold spec_l16Near.f
  have key := evUp0 (n := m + 1) (g := fun i k => spec_l16Near.l0 k l p a (m : Int) (i : Int)) (R := fun i => nearM l p a (m + 1 - i) i) ?_ ?_ 0 (by omega)
  · exact key
  · refine evStep (fun k => by rw [spec_l16Near.l0]) ?_
    exact evNeg (by omega) (evEq (Ev.now _) (by rw [Nat.sub_self]; rfl))
  · intro i hi k
    have hi1 := up1 hi (by omega)
    have w1 : wrap64 (a - (i : Int)) = a - (i : Int) := w64 (by omega) (by omega)
    have w2 : wrap64 (a + (i : Int)) = a + (i : Int) := w64 (by omega) (by omega)
    refine evStep (fun k => by rw [spec_l16Near.l0]) ?_
    simp only [hi1, w1, w2]
    clear hi1 w1 w2
    rw [show m + 1 - i = (m + 1 - (i + 1)) + 1 by omega]
    unfold nearM
    refine evPos (by omega) (evB (sFits l p _ hl hp) ?_)
    by_cases f1 : fitsB l p (a - (i : Int)) = true
    · exact evPos f1 (evEq (Ev.now _) (by rw [if_pos f1]))
    · refine evNeg f1 (evB (sFits l p _ hl hp) ?_)
      by_cases f2 : fitsB l p (a + (i : Int)) = true
      · exact evPos f2 (evEq (Ev.now _) (by rw [if_neg f1, if_pos f2]))
      · exact evNeg f2 (evEq k (by rw [if_neg f1, if_neg f2]))
theorem iNear (l p : T) (hl : l.length ≤ 1048576) (hp : p.length ≤ 1048576) (a : Int) (ha : 0 ≤ a ∧ a ≤ 999) (m : Nat) (hm : m ≤ 40) : Ev (fun k => impl_near.f k l p a (m : Int)) (nearM l p a (m + 1) 0) := by
  unfold impl_near.f
  have hw : wrap64 ((m : Int) + 1) = ((m + 1 : Nat) : Int) := by rw [w64 (by omega) (by omega)]; omega
  rw [hw]
  clear hw
  have key := evUp0 (n := m + 1) (g := fun i k => impl_near.l0 k l p a ((m + 1 : Nat) : Int) (i : Int)) (R := fun i => nearM l p a (m + 1 - i) i) ?_ ?_ 0 (by omega)
  · exact key
  · refine evStep (fun k => by rw [impl_near.l0]) ?_
    exact evNeg (by omega) (evEq (Ev.now _) (by rw [Nat.sub_self]; rfl))
  · intro i hi k
    have hi1 := up1 hi (by omega)
    have w1 : wrap64 (a - (i : Int)) = a - (i : Int) := w64 (by omega) (by omega)
    have w2 : wrap64 (a + (i : Int)) = a + (i : Int) := w64 (by omega) (by omega)
    refine evStep (fun k => by rw [impl_near.l0]) ?_
    simp only [hi1, w1, w2]
    clear hi1 w1 w2
    rw [show m + 1 - i = (m + 1 - (i + 1)) + 1 by omega]
    unfold nearM
    refine evPos (by omega) (evB (iFits l p _ hl hp) ?_)
    by_cases f1 : fitsB l p (a - (i : Int)) = true
    · exact evPos f1 (evEq (Ev.now _) (by rw [if_pos f1]))
    · refine evNeg f1 (evB (iFits l p _ hl hp) ?_)
      by_cases f2 : fitsB l p (a + (i : Int)) = true
      · exact evPos f2 (evEq (Ev.now _) (by rw [if_neg f1, if_pos f2]))
      · exact evNeg f2 (evEq k (by rw [if_neg f1, if_neg f2]))
def nearFit (l : T) (a b : Int) (rs : List Rw) (far : Int) : Int × Bool :=
  if (goodB l && groupB a b rs) = true ∧ 0 ≤ far ∧ far ≤ 40 then (if nearM l (side 3 rs) a (far.toNat + 1) 0 < 0 then (0, false) else (nearM l (side 3 rs) a (far.toNat + 1) 0, true)) else (0, false)
theorem sNearFit (l : T) (hl : Sm l) (a b : Int) (rs : List Rw) (hr : SmR rs) (far : Int) : Ev (fun k => spec_NearFit.f k l a b rs far) (nearFit l a b rs far) := by
  unfold spec_NearFit.f
  have h3 := side_len 3 rs
  have hR := hr.1
  have no : nearFit l a b rs far = (0, false) → Ev (fun k => spec_NearFit.j0 k l far true a b rs) (nearFit l a b rs far) := fun h => by
    rw [h]
    refine evStep (fun k => by rw [spec_NearFit.j0]) ?_
    exact evPos rfl (Ev.now _)
  refine evB (sGood l hl) ?_
  by_cases g : goodB l = true
  · refine evPos g (evB (sGroup a b rs hr) ?_)
    by_cases q : groupB a b rs = true
    · have hin := group_in q
      refine evPos q (evBS (sIn _ _ _) ?_)
      by_cases hf : 0 ≤ far ∧ far ≤ 40
      · obtain ⟨m, rfl⟩ := Int.eq_ofNat_of_zero_le hf.1
        rw [decide_eq_true hf]
        refine evStep (fun k => by rw [spec_NearFit.j0]) (evNeg (by simp) (evB (sOld a b rs hR) (evB (sNear l (side 3 rs) hl.1 (by omega) a hin.1 m (by omega)) ?_)))
        have e : nearFit l a b rs (m : Int) = if nearM l (side 3 rs) a (m + 1) 0 < 0 then (0, false) else (nearM l (side 3 rs) a (m + 1) 0, true) := by
          unfold nearFit; rw [if_pos ⟨by rw [g, q]; rfl, hf⟩, Int.toNat_natCast]
        rw [e]
        exact evIte (fun h => evEq (Ev.now _) (by rw [if_pos h])) (fun h => evEq (Ev.now _) (by rw [if_neg h]))
      · rw [decide_eq_false hf]
        exact no (by unfold nearFit; rw [if_neg (fun h => hf h.2)])
    · exact evNeg q (no (by unfold nearFit; rw [if_neg (fun h => q (by have := h.1; rw [g, Bool.true_and] at this; exact this))]))
  · exact evNeg g (no (by unfold nearFit; rw [if_neg (fun h => g (by have := h.1; rw [Bool.and_eq_true] at this; exact this.1))]))
theorem iNearFit (l : T) (hl : Sm l) (a b : Int) (rs : List Rw) (hr : SmR rs) (far : Int) : Ev (fun k => impl_NearFit.f k l a b rs far) (nearFit l a b rs far) := by
  unfold impl_NearFit.f
  have h3 := side_len 3 rs
  have hR := hr.1
  have no : nearFit l a b rs far = (0, false) → Ev (fun k => impl_NearFit.j0 k l far true a b rs) (nearFit l a b rs far) := fun h => by
    rw [h]
    refine evStep (fun k => by rw [impl_NearFit.j0]) ?_
    exact evPos rfl (Ev.now _)
  have hfar : impl_isFar.f far = some (decide (0 ≤ far ∧ far ≤ 40)) := by unfold impl_isFar.f; rw [iIn]; rfl
  refine evB (iGood l hl) ?_
  by_cases g : goodB l = true
  · refine evPos g (evB (iGroup a b rs hr) ?_)
    by_cases q : groupB a b rs = true
    · have hin := group_in q
      refine evPos q (evBS hfar ?_)
      by_cases hf : 0 ≤ far ∧ far ≤ 40
      · obtain ⟨m, rfl⟩ := Int.eq_ofNat_of_zero_le hf.1
        rw [decide_eq_true hf]
        refine evStep (fun k => by rw [impl_NearFit.j0]) (evNeg (by simp) (evB (iOld a b rs hR) (evB (iNear l (side 3 rs) hl.1 (by omega) a hin.1 m (by omega)) ?_)))
        have e : nearFit l a b rs (m : Int) = if nearM l (side 3 rs) a (m + 1) 0 < 0 then (0, false) else (nearM l (side 3 rs) a (m + 1) 0, true) := by
          unfold nearFit; rw [if_pos ⟨by rw [g, q]; rfl, hf⟩, Int.toNat_natCast]
        rw [e]
        exact evIte (fun h => evEq (Ev.now _) (by rw [if_pos h])) (fun h => evEq (Ev.now _) (by rw [if_neg h]))
      · rw [decide_eq_false hf]
        exact no (by unfold nearFit; rw [if_neg (fun h => hf h.2)])
    · exact evNeg q (no (by unfold nearFit; rw [if_neg (fun h => q (by have := h.1; rw [g, Bool.true_and] at this; exact this))]))
  · exact evNeg g (no (by unfold nearFit; rw [if_neg (fun h => g (by have := h.1; rw [Bool.and_eq_true] at this; exact this.1))]))
theorem bne_self {α : Type} [BEq α] [LawfulBEq α] (x : α) : (x != x) = false := by simp
theorem FnExactNearFit : laws_FnExactNearFit.Pure := by
  intro l0 a1 a2 h0 h1 h2
  refine Ev.rounds ?_
  unfold laws_FnExactNearFit.f
  obtain ⟨r, hr, hr2, hp⟩ := sz l0 1048576 (by omega) (by omega) h0.1 h0.2
  refine evB hr ?_
  by_cases hn : r < 0
  · exact evPos hn (Ev.now _)
  obtain ⟨q, hq, hq2, hp1⟩ := szG a1.f2 a1.f0 a1.f1 r (by omega) (by omega) h1.2.2.1 (fun x hx => (h1.2.2.2 x hx).2)
  refine evNeg hn (evB hq ?_)
  by_cases hn1 : q < 0
  · exact evPos hn1 (Ev.now _)
  have s0 := hp (by omega)
  have s1 := hp1 (by omega)
  have L0 := s0.1
  have L1 : a1.f2.length ≤ 1048576 := by have := s1.1; rw [List.length_map] at this; exact this
  have t0 := toT l0 L0
  have t1 := toG a1.f0 a1.f1 a1.f2 L1
  refine evNeg hn1 (evB t0 (evB t1 (evB (sNearFit l0 s0 _ _ _ s1 a2) (evB t0 (evB t1 (evB (iNearFit l0 s0 _ _ _ s1 a2) (evPos rfl ?_)))))))
  rw [bne_self]
  refine evStep (fun k => by rw [laws_FnExactNearFit.j0]) ?_
  exact evNeg (by simp) (evB t0 (evB (eqT_self l0 L0) (evPos rfl (evB t1 (evB (eqG _ _ _ s1.1) (evPos rfl (Ev.now _)))))))
end Go.Proofs.Ytafohchkacclpaa.Pure
