/- Groups: the lines of each side, and what a good group is, by both. -/
import Derived.Test.YtafohchkacclpaaB2
import Derived.Test.YtafohchkacclpaaB3
import Derived.Test.YtafohchkacclpaaB5
import Derived.Test.YtafohchkacclpaaB6
import Derived.Test.YtafohchkacclpaaPureLines0
import Derived.Test.YtafohchkacclpaaPureRows
set_option linter.unusedVariables false
set_option linter.unusedSimpArgs false
namespace Go.Proofs.Ytafohchkacclpaa.Text
open Go.RowKit Go.Proofs.YtafohchkacclpaaW.PrintWords Go.Proofs.YtafohchkacclpaaW.PrintLast Go.Proofs.YtafohchkacclpaaW.PrintMore Go.Proofs.Ytafohchkacclpaa.Tools Go.Proofs.Ytafohchkacclpaa.B

def side (c : Int) : List Rw → T
  | [] => []
  | r :: l => if r.f0 = c then side c l else r.f1 :: side c l
theorem side_cons (c : Int) (r : Rw) (l : List Rw) : side c (r :: l) = if r.f0 = c then side c l else r.f1 :: side c l := rfl
theorem side_len (c : Int) : ∀ l, (side c l).length ≤ l.length
  | [] => Nat.le_refl _
  | r :: l => by
    have := side_len c l
    unfold side
    split
    · rw [List.length_cons]; omega
    · rw [List.length_cons, List.length_cons]; omega
theorem side_mem (c : Int) : ∀ l s, s ∈ side c l → ∃ r ∈ l, s = r.f1
  | [], s, h => by cases h
  | r :: l, s, h => by
    unfold side at h
    split at h
    · obtain ⟨q, hq, e⟩ := side_mem c l s h
      exact ⟨q, List.mem_cons_of_mem _ hq, e⟩
    · rcases List.mem_cons.1 h with rfl | h
      · exact ⟨r, List.mem_cons_self, rfl⟩
      · obtain ⟨q, hq, e⟩ := side_mem c l s h
        exact ⟨q, List.mem_cons_of_mem _ hq, e⟩
theorem side_sm (c : Int) {l : List Rw} (h : SmR l) : Sm (side c l) := by
  refine ⟨Nat.le_trans (side_len c l) h.1, fun s hs => ?_⟩
  obtain ⟨r, hr, rfl⟩ := side_mem c l s hs
  exact h.2 r hr
theorem side_step (c : Int) (s : T) (l : List Rw) {i : Nat} (hi : i < l.length) : s ++ side c (l.drop i) = (if (l.getD i zr).f0 = c then s else s ++ [(l.getD i zr).f1]) ++ side c (l.drop (i + 1)) := by
  rw [drop_at hi zr, side_cons]
  split
  · rfl
  · rw [List.append_assoc]; rfl
theorem sOld (a b : Int) (l : List Rw) (hl : l.length ≤ 1048576) : Ev (fun k => spec_l6Old.f k a b l) (side 3 l) := by
  unfold spec_l6Old.f
  have key := evUp (σ := T) (n := l.length) (g := fun s i k => spec_l6Old.l0 k s l (l.length : Int) (i : Int)) (R := fun s i => s ++ side 3 (l.drop i)) (fun i s => s.length ≤ i) ?_ ?_ 0 [] (by omega) (by simp)
  · exact evEq key (by simp)
  · intro s h
    refine evStep (fun k => by rw [spec_l6Old.l0]) ?_
    exact evNeg (by omega) (evEq (Ev.now _) (by rw [List.drop_eq_nil_of_le (by omega)]; simp [side]))
  · intro i s hi h k
    have hi1 := up1 hi (by omega)
    rw [side_step 3 s l hi]
    refine evStep (fun k => by rw [spec_l6Old.l0]) ?_
    simp only [hi1, rd_r]
    clear hi1
    refine evPos (by omega) (evPos (by omega) (evPos (by omega) ?_))
    by_cases h3 : (l.getD i zr).f0 = 3
    · rw [if_pos h3]; exact evPos h3 (k s (by omega))
    · rw [if_neg h3]; exact evNeg h3 (evPos (by omega) (k _ (by rw [List.length_append, List.length_singleton]; omega)))
theorem sNew (a b : Int) (l : List Rw) (hl : l.length ≤ 1048576) : Ev (fun k => spec_l6New.f k a b l) (side 2 l) := by
  unfold spec_l6New.f
  have key := evUp (σ := T) (n := l.length) (g := fun s i k => spec_l6New.l0 k s l (l.length : Int) (i : Int)) (R := fun s i => s ++ side 2 (l.drop i)) (fun i s => s.length ≤ i) ?_ ?_ 0 [] (by omega) (by simp)
  · exact evEq key (by simp)
  · intro s h
    refine evStep (fun k => by rw [spec_l6New.l0]) ?_
    exact evNeg (by omega) (evEq (Ev.now _) (by rw [List.drop_eq_nil_of_le (by omega)]; simp [side]))
  · intro i s hi h k
    have hi1 := up1 hi (by omega)
    rw [side_step 2 s l hi]
    refine evStep (fun k => by rw [spec_l6New.l0]) ?_
    simp only [hi1, rd_r]
    clear hi1
    refine evPos (by omega) (evPos (by omega) (evPos (by omega) ?_))
    by_cases h3 : (l.getD i zr).f0 = 2
    · rw [if_pos h3]; exact evPos h3 (k s (by omega))
    · rw [if_neg h3]; exact evNeg h3 (evPos (by omega) (k _ (by rw [List.length_append, List.length_singleton]; omega)))
theorem iSide (c : Int) (l : List Rw) (hl : l.length ≤ 1048576) : Ev (fun k => impl_sideOf.f k l c) (side c l) := by
  unfold impl_sideOf.f
  have key := evUp (σ := T) (n := l.length) (g := fun s i k => impl_sideOf.l0 k c s l (l.length : Int) (i : Int)) (R := fun s i => s ++ side c (l.drop i)) (fun i s => s.length ≤ i) ?_ ?_ 0 [] (by omega) (by simp)
  · exact evEq key (by simp)
  · intro s h
    refine evStep (fun k => by rw [impl_sideOf.l0]) ?_
    exact evNeg (by omega) (evEq (Ev.now _) (by rw [List.drop_eq_nil_of_le (by omega)]; simp [side]))
  · intro i s hi h k
    have hi1 := up1 hi (by omega)
    rw [side_step c s l hi]
    refine evStep (fun k => by rw [impl_sideOf.l0]) ?_
    simp only [hi1, rd_r]
    clear hi1
    refine evPos (by omega) (evPos (by omega) (evPos (by omega) ?_))
    by_cases h3 : (l.getD i zr).f0 = c
    · rw [if_pos h3]; exact evPos h3 (k s (by omega))
    · rw [if_neg h3]; exact evNeg h3 (evPos (by omega) (k _ (by rw [List.length_append, List.length_singleton]; omega)))
theorem iOld (a b : Int) (l : List Rw) (hl : l.length ≤ 1048576) : Ev (fun k => impl_Group_old.f k a b l) (side 3 l) := by
  unfold impl_Group_old.f
  exact evB (iSide 3 l hl) (Ev.now _)
theorem iNew (a b : Int) (l : List Rw) (hl : l.length ≤ 1048576) : Ev (fun k => impl_Group_fresh.f k a b l) (side 2 l) := by
  unfold impl_Group_fresh.f
  exact evB (iSide 2 l hl) (Ev.now _)
theorem s5 (l : T) (hl : Sm l) : Ev (fun k => spec_l5Lines.f k l) (goodB l) := by
  unfold spec_l5Lines.f
  have hL := hl.1
  have hw : wrap64 ((l.length : Int) - 1) = (l.length : Int) - 1 := w64 (by omega) (by omega)
  have key := evUp0 (n := l.length) (g := fun i k => spec_l5Lines.l0 k l l (l.length : Int) (i : Int)) (R := fun i => decide (l.length ≤ 40) && allLines (l.drop i) && endsT (l.drop i)) ?_ ?_ 0 (by omega)
  · exact evEq key (by simp [goodB])
  · refine evStep (fun k => by rw [spec_l5Lines.l0]) ?_
    refine evNeg (by omega) (evEq (Ev.now _) ?_)
    rw [List.drop_eq_nil_of_le (by omega)]
    simp [allLines, endsT]
    omega
  · intro i hi k
    have hi1 := up1 hi (by omega)
    have hd := drop_at hi em
    have hsz := hl.2 _ (getD_mem hi em)
    have he := drop_empty hi
    have hR : (decide (l.length ≤ 40) && allLines (l.drop i) && endsT (l.drop i)) = (decide (lineP (l.getD i em)) && ((decide (¬ (i : Int) < (l.length : Int) - 1) || decide (endP (l.getD i em))) && (decide (l.length ≤ 40) && allLines (l.drop (i + 1)) && endsT (l.drop (i + 1))))) := by
      rw [hd]
      simp only [allLines, endsT, List.all_cons, he]
      generalize decide (l.length ≤ 40) = a1
      generalize decide (lineP (l.getD i em)) = a2
      generalize (l.drop (i + 1)).all (fun s => decide (lineP s)) = a3
      generalize (decide (¬ (i : Int) < (l.length : Int) - 1) || decide (endP (l.getD i em))) = a4
      generalize endsT (l.drop (i + 1)) = a5
      cases a1 <;> cases a2 <;> cases a3 <;> cases a4 <;> cases a5 <;> rfl
    rw [hR]
    refine evStep (fun k => by rw [spec_l5Lines.l0]) ?_
    simp only [hw, hi1, rd_t]
    clear hw hi1
    refine evPos (by omega) (evPos (by omega) (evPos (by omega) (evB (sLine _ hsz) ?_)))
    by_cases h1 : lineP (l.getD i em)
    · rw [decide_eq_true h1, Bool.true_and]
      refine evPos rfl ?_
      by_cases h2 : (i : Int) < (l.length : Int) - 1
      · rw [decide_eq_false (show ¬ ¬ (i : Int) < (l.length : Int) - 1 from fun g => g h2), Bool.false_or]
        refine evPos h2 (evBS (sEnds _ h1.1 hsz) ?_)
        by_cases h3 : endP (l.getD i em)
        · rw [decide_eq_true h3, Bool.true_and]; exact evPos rfl k
        · rw [decide_eq_false h3, Bool.false_and]; exact evNeg (by simp) (Ev.now _)
      · rw [decide_eq_true h2, Bool.true_or, Bool.true_and]
        exact evNeg h2 k
    · rw [decide_eq_false h1, Bool.false_and]
      exact evNeg (by simp) (Ev.now _)
/-! ### good groups -/
def rowsB : Int → List Rw → Bool
  | _, [] => true
  | p, r :: l => decide (1 ≤ r.f0 ∧ r.f0 ≤ 3) && decide (lineP r.f1) && decide (¬ (r.f0 = 2 ∧ p = 3)) && rowsB r.f0 l
def anyB : List Rw → Bool
  | [] => false
  | r :: l => (r.f0 != 1) || anyB l
def pv (l : List Rw) (i : Nat) : Int := if i = 0 then 0 else (l.getD (i - 1) zr).f0
/-- What is asked behind the rows. -/
def tl (a b : Int) (l : List Rw) (s : Bool) : Bool :=
  if s = true then (if (0 ≤ a ∧ a ≤ 999) ∧ (0 ≤ b ∧ b ≤ 999) then (if a + ((side 3 l).length : Int) ≤ 1000 ∧ b + ((side 2 l).length : Int) ≤ 1000 ∧ l.length ≤ 80 then goodB (side 3 l) && goodB (side 2 l) else false) else false) else false
def groupB (a b : Int) (l : List Rw) : Bool := rowsB 0 l && tl a b l (anyB l)
theorem rows_step (l : List Rw) {i : Nat} (hi : i < l.length) : rowsB (pv l i) (l.drop i) = (decide (1 ≤ (l.getD i zr).f0 ∧ (l.getD i zr).f0 ≤ 3) && (decide (lineP (l.getD i zr).f1) && (decide (¬ ((l.getD i zr).f0 = 2 ∧ pv l i = 3)) && rowsB (pv l (i + 1)) (l.drop (i + 1))))) := by
  have : pv l (i + 1) = (l.getD i zr).f0 := by unfold pv; rw [if_neg (by omega)]; rfl
  rw [this, drop_at hi zr]
  show (_ && _ && _ && _) = _
  rw [Bool.and_assoc, Bool.and_assoc]
theorem any_step (s : Bool) (l : List Rw) {i : Nat} (hi : i < l.length) : (s || anyB (l.drop i)) = ((s || ((l.getD i zr).f0 != 1)) || anyB (l.drop (i + 1))) := by
  rw [drop_at hi zr]
  show (s || (_ || _)) = _
  rw [Bool.or_assoc]
theorem sGroup_end (a b : Int) (l : List Rw) (hl : SmR l) (s : Bool) : Ev (fun k => spec_l6Group.l0 k s l (l.length : Int) (l.length : Int) a b l) (tl a b l s) := by
  have hL := hl.1
  have n3 := side_len 3 l
  have n2 := side_len 2 l
  refine evStep (fun k => by rw [spec_l6Group.l0]) ?_
  refine evNeg (by omega) ?_
  unfold tl
  by_cases hs : s = true
  · rw [if_pos hs]
    refine evPos hs (evBS (sIn _ _ _) ?_)
    by_cases ha : 0 ≤ a ∧ a ≤ 999
    · refine evPos (decide_eq_true ha) (evBS (sIn _ _ _) ?_)
      by_cases hb : 0 ≤ b ∧ b ≤ 999
      · rw [if_pos ⟨ha, hb⟩]
        have w1 : wrap64 (a + ((side 3 l).length : Int)) = a + ((side 3 l).length : Int) := w64 (by omega) (by omega)
        have w2 : wrap64 (b + ((side 2 l).length : Int)) = b + ((side 2 l).length : Int) := w64 (by omega) (by omega)
        refine evPos (decide_eq_true hb) (evB (sOld a b l hL) ?_)
        simp only [w1]
        clear w1
        by_cases c1 : a + ((side 3 l).length : Int) ≤ 1000
        · refine evPos c1 (evB (sNew a b l hL) ?_)
          simp only [w2]
          clear w2
          by_cases c2 : b + ((side 2 l).length : Int) ≤ 1000
          · refine evPos c2 ?_
            by_cases c3 : l.length ≤ 80
            · rw [if_pos ⟨c1, c2, c3⟩]
              refine evPos (by omega) (evB (sOld a b l hL) (evB (s5 _ (side_sm 3 hl)) ?_))
              by_cases g : goodB (side 3 l) = true
              · rw [g, Bool.true_and]
                exact evPos rfl (evB (sNew a b l hL) (evB (s5 _ (side_sm 2 hl)) (Ev.now _)))
              · rw [Bool.not_eq_true] at g
                rw [g, Bool.false_and]
                exact evNeg (by simp) (Ev.now _)
            · rw [if_neg (fun h => c3 h.2.2)]
              exact evNeg (by omega) (Ev.now _)
          · rw [if_neg (fun h => c2 h.2.1)]
            exact evNeg c2 (Ev.now _)
        · rw [if_neg (fun h => c1 h.1)]
          exact evNeg c1 (Ev.now _)
      · rw [if_neg (fun h => hb h.2)]
        exact evNeg (by simpa using hb) (Ev.now _)
    · rw [if_neg (fun h => ha h.1)]
      exact evNeg (by simpa using ha) (Ev.now _)
  · rw [if_neg hs]
    exact evNeg hs (Ev.now _)
theorem sGroup (a b : Int) (l : List Rw) (hl : SmR l) : Ev (fun k => spec_l6Group.f k a b l) (groupB a b l) := by
  have hL := hl.1
  unfold spec_l6Group.f
  have key := evUp (σ := Bool) (n := l.length) (g := fun s i k => spec_l6Group.l0 k s l (l.length : Int) (i : Int) a b l) (R := fun s i => rowsB (pv l i) (l.drop i) && tl a b l (s || anyB (l.drop i))) (fun _ _ => True) ?_ ?_ 0 false (by omega) trivial
  · exact evEq key (by rw [List.drop_zero, Bool.false_or]; rfl)
  · intro s _
    refine evEq (sGroup_end a b l hl s) ?_
    rw [List.drop_eq_nil_of_le (by omega)]
    show _ = (true && tl a b l (s || false))
    rw [Bool.true_and, Bool.or_false]
  · intro i s hi _ k
    have hi1 := up1 hi (by omega)
    have hsz := hl.2 _ (getD_mem hi zr)
    rw [rows_step l hi, any_step s l hi]
    have kk := k (s || ((l.getD i zr).f0 != 1)) trivial
    have fin : Ev (fun k => if s = true then spec_l6Group.l0 k true l (l.length : Int) ((i + 1 : Nat) : Int) a b l else spec_l6Group.l0 k ((l.getD i zr).f0 != 1) l (l.length : Int) ((i + 1 : Nat) : Int) a b l)
        (rowsB (pv l (i + 1)) (l.drop (i + 1)) && tl a b l ((s || ((l.getD i zr).f0 != 1)) || anyB (l.drop (i + 1)))) := by
      cases s
      · exact evNeg (by simp) kk
      · exact evPos rfl kk
    refine evStep (fun k => by rw [spec_l6Group.l0]) ?_
    simp only [hi1, rd_r]
    clear hi1
    refine evPos (by omega) (evPos (by omega) (evPos (by omega) (evBS (sIn _ _ _) ?_)))
    by_cases h1 : 1 ≤ (l.getD i zr).f0 ∧ (l.getD i zr).f0 ≤ 3
    · rw [decide_eq_true h1, Bool.true_and]
      refine evPos rfl (evB (sLine _ hsz) ?_)
      by_cases h2 : lineP (l.getD i zr).f1
      · rw [decide_eq_true h2, Bool.true_and]
        refine evPos rfl ?_
        by_cases h3 : (i : Int) > 0
        · refine evPos h3 ?_
          by_cases h4 : (l.getD i zr).f0 = 2
          · have hw : wrap64 ((i : Int) - 1) = ((i - 1 : Nat) : Int) := by rw [w64 (by omega) (by omega)]; omega
            simp only [hw, rd_r]
            clear hw
            refine evPos h4 (evPos (by omega) (evPos (by omega) ?_))
            have hp : pv l i = (l.getD (i - 1) zr).f0 := by unfold pv; rw [if_neg (by omega)]
            by_cases h5 : (l.getD (i - 1) zr).f0 = 3
            · have hx : ¬ ¬ ((l.getD i zr).f0 = 2 ∧ pv l i = 3) := fun g => g ⟨h4, hp.trans h5⟩
              rw [decide_eq_false hx, Bool.false_and]
              exact evPos h5 (Ev.now _)
            · have hx : ¬ ((l.getD i zr).f0 = 2 ∧ pv l i = 3) := fun g => h5 (hp.symm.trans g.2)
              rw [decide_eq_true hx, Bool.true_and]
              exact evNeg h5 fin
          · have hx : ¬ ((l.getD i zr).f0 = 2 ∧ pv l i = 3) := fun g => h4 g.1
            rw [decide_eq_true hx, Bool.true_and]
            exact evNeg h4 fin
        · have hp : pv l i = 0 := by unfold pv; rw [if_pos (by omega)]
          have hx : ¬ ((l.getD i zr).f0 = 2 ∧ pv l i = 3) := fun g => by rw [hp] at g; exact absurd g.2 (by decide)
          rw [decide_eq_true hx, Bool.true_and]
          exact evNeg h3 fin
      · rw [decide_eq_false h2, Bool.false_and]
        exact evNeg (by simp) (Ev.now _)
    · rw [decide_eq_false h1, Bool.false_and]
      exact evNeg (by simp) (Ev.now _)
/-- What the program asks behind the rows. -/
def tlI (a b : Int) (l : List Rw) (s : Bool) : Bool :=
  if s = true then (if goodB (side 3 l) = true then (if goodB (side 2 l) = true then (if a + ((side 3 l).length : Int) ≤ 1000 then decide (b + ((side 2 l).length : Int) ≤ 1000) else false) else false) else false) else false
theorem iGroup_end (a b : Int) (l : List Rw) (hl : SmR l) (ha : 0 ≤ a ∧ a ≤ 999) (hb : 0 ≤ b ∧ b ≤ 999) (s : Bool) : Ev (fun k => impl_goodGroup.l0 k s l (l.length : Int) (l.length : Int) a b l) (tlI a b l s) := by
  have hL := hl.1
  have n3 := side_len 3 l
  have n2 := side_len 2 l
  have w1 : wrap64 (a + ((side 3 l).length : Int)) = a + ((side 3 l).length : Int) := w64 (by omega) (by omega)
  have w2 : wrap64 (b + ((side 2 l).length : Int)) = b + ((side 2 l).length : Int) := w64 (by omega) (by omega)
  refine evStep (fun k => by rw [impl_goodGroup.l0]) ?_
  refine evNeg (by omega) (evB (iOld a b l hL) (evB (iNew a b l hL) ?_))
  simp only [w1, w2]
  clear w1 w2
  unfold tlI
  by_cases hs : s = true
  · refine evPos hs (evB (iGood _ (side_sm 3 hl)) ?_)
    by_cases g : goodB (side 3 l) = true
    · refine evPos g (evB (iGood _ (side_sm 2 hl)) ?_)
      by_cases g2 : goodB (side 2 l) = true
      · refine evPos g2 ?_
        by_cases c1 : a + ((side 3 l).length : Int) ≤ 1000
        · exact evPos c1 (evEq (Ev.now _) (by rw [if_pos hs, if_pos g, if_pos g2, if_pos c1]))
        · exact evNeg c1 (evEq (Ev.now _) (by rw [if_pos hs, if_pos g, if_pos g2, if_neg c1]))
      · exact evNeg g2 (evEq (Ev.now _) (by rw [if_pos hs, if_pos g, if_neg g2]))
    · exact evNeg g (evEq (Ev.now _) (by rw [if_pos hs, if_neg g]))
  · exact evNeg hs (evEq (Ev.now _) (by rw [if_neg hs]))
theorem iGroup_l0 (a b : Int) (l : List Rw) (hl : SmR l) (ha : 0 ≤ a ∧ a ≤ 999) (hb : 0 ≤ b ∧ b ≤ 999) : Ev (fun k => impl_goodGroup.l0 k false l (l.length : Int) 0 a b l) (rowsB 0 l && tlI a b l (anyB l)) := by
  have hL := hl.1
  have key := evUp (σ := Bool) (n := l.length) (g := fun s i k => impl_goodGroup.l0 k s l (l.length : Int) (i : Int) a b l) (R := fun s i => rowsB (pv l i) (l.drop i) && tlI a b l (s || anyB (l.drop i))) (fun _ _ => True) ?_ ?_ 0 false (by omega) trivial
  · exact evEq key (by rw [List.drop_zero, Bool.false_or]; rfl)
  · intro s _
    refine evEq (iGroup_end a b l hl ha hb s) ?_
    rw [List.drop_eq_nil_of_le (by omega)]
    show _ = (true && tlI a b l (s || false))
    rw [Bool.true_and, Bool.or_false]
  · intro i s hi _ k
    have hi1 := up1 hi (by omega)
    have hsz := hl.2 _ (getD_mem hi zr)
    rw [rows_step l hi, any_step s l hi]
    have kk := k (s || ((l.getD i zr).f0 != 1)) trivial
    have fin : Ev (fun k => if s = true then impl_goodGroup.l0 k true l (l.length : Int) ((i + 1 : Nat) : Int) a b l else impl_goodGroup.l0 k ((l.getD i zr).f0 != 1) l (l.length : Int) ((i + 1 : Nat) : Int) a b l)
        (rowsB (pv l (i + 1)) (l.drop (i + 1)) && tlI a b l ((s || ((l.getD i zr).f0 != 1)) || anyB (l.drop (i + 1)))) := by
      cases s
      · exact evNeg (by simp) kk
      · exact evPos rfl kk
    refine evStep (fun k => by rw [impl_goodGroup.l0]) ?_
    simp only [hi1, rd_r]
    clear hi1
    refine evPos (by omega) (evPos (by omega) (evPos (by omega) (evBS (iIn _ _ _) ?_)))
    by_cases h1 : 1 ≤ (l.getD i zr).f0 ∧ (l.getD i zr).f0 ≤ 3
    · rw [decide_eq_true h1, Bool.true_and]
      refine evPos rfl (evBS (iLine _ hsz) ?_)
      by_cases h2 : lineP (l.getD i zr).f1
      · rw [decide_eq_true h2, Bool.true_and]
        refine evPos rfl ?_
        by_cases h3 : (i : Int) > 0
        · refine evPos h3 ?_
          by_cases h4 : (l.getD i zr).f0 = 2
          · have hw : wrap64 ((i : Int) - 1) = ((i - 1 : Nat) : Int) := by rw [w64 (by omega) (by omega)]; omega
            simp only [hw, rd_r]
            clear hw
            refine evPos h4 (evPos (by omega) (evPos (by omega) ?_))
            have hp : pv l i = (l.getD (i - 1) zr).f0 := by unfold pv; rw [if_neg (by omega)]
            by_cases h5 : (l.getD (i - 1) zr).f0 = 3
            · have hx : ¬ ¬ ((l.getD i zr).f0 = 2 ∧ pv l i = 3) := fun g => g ⟨h4, hp.trans h5⟩
              rw [decide_eq_false hx, Bool.false_and]
              exact evPos h5 (Ev.now _)
            · have hx : ¬ ((l.getD i zr).f0 = 2 ∧ pv l i = 3) := fun g => h5 (hp.symm.trans g.2)
              rw [decide_eq_true hx, Bool.true_and]
              exact evNeg h5 fin
          · have hx : ¬ ((l.getD i zr).f0 = 2 ∧ pv l i = 3) := fun g => h4 g.1
            rw [decide_eq_true hx, Bool.true_and]
            exact evNeg h4 fin
        · have hp : pv l i = 0 := by unfold pv; rw [if_pos (by omega)]
          have hx : ¬ ((l.getD i zr).f0 = 2 ∧ pv l i = 3) := fun g => by rw [hp] at g; exact absurd g.2 (by decide)
          rw [decide_eq_true hx, Bool.true_and]
          exact evNeg h3 fin
      · rw [decide_eq_false h2, Bool.false_and]
        exact evNeg (by simp) (Ev.now _)
    · rw [decide_eq_false h1, Bool.false_and]
      exact evNeg (by simp) (Ev.now _)
theorem tl_I (a b : Int) (l : List Rw) (ha : 0 ≤ a ∧ a ≤ 999) (hb : 0 ≤ b ∧ b ≤ 999) (h80 : l.length ≤ 80) (s : Bool) : tlI a b l s = tl a b l s := by
  unfold tlI tl
  rw [if_pos (⟨ha, hb⟩ : (0 ≤ a ∧ a ≤ 999) ∧ (0 ≤ b ∧ b ≤ 999))]
  cases s
  · rfl
  · rw [if_pos rfl, if_pos rfl]
    by_cases c1 : a + ((side 3 l).length : Int) ≤ 1000
    · by_cases c2 : b + ((side 2 l).length : Int) ≤ 1000
      · rw [if_pos c1, if_pos (⟨c1, c2, h80⟩ : _ ∧ _ ∧ _), decide_eq_true c2]
        cases goodB (side 3 l) <;> cases goodB (side 2 l) <;> rfl
      · rw [if_pos c1, if_neg (fun h : a + ((side 3 l).length : Int) ≤ 1000 ∧ b + ((side 2 l).length : Int) ≤ 1000 ∧ l.length ≤ 80 => c2 h.2.1), decide_eq_false c2]
        cases goodB (side 3 l) <;> cases goodB (side 2 l) <;> rfl
    · rw [if_neg c1, if_neg (fun h : a + ((side 3 l).length : Int) ≤ 1000 ∧ b + ((side 2 l).length : Int) ≤ 1000 ∧ l.length ≤ 80 => c1 h.1)]
      cases goodB (side 3 l) <;> cases goodB (side 2 l) <;> rfl
theorem tl_no (a b : Int) (l : List Rw) (s : Bool) (h : ¬ ((0 ≤ a ∧ a ≤ 999) ∧ (0 ≤ b ∧ b ≤ 999) ∧ l.length ≤ 80)) : tl a b l s = false := by
  unfold tl
  by_cases hs : s = true
  · rw [if_pos hs]
    by_cases hab : (0 ≤ a ∧ a ≤ 999) ∧ (0 ≤ b ∧ b ≤ 999)
    · rw [if_pos hab, if_neg (fun g => h ⟨hab.1, hab.2, g.2.2⟩)]
    · rw [if_neg hab]
  · rw [if_neg hs]
theorem iGroup (a b : Int) (l : List Rw) (hl : SmR l) : Ev (fun k => impl_goodGroup.f k a b l) (groupB a b l) := by
  have hL := hl.1
  have no : groupB a b l = false → Ev (fun k => impl_goodGroup.j0 k true a b l) (groupB a b l) := fun h => by
    rw [h]
    refine evStep (fun k => by rw [impl_goodGroup.j0]) ?_
    exact evPos rfl (Ev.now _)
  unfold impl_goodGroup.f
  refine evBS (iIn _ _ _) ?_
  by_cases ha : 0 ≤ a ∧ a ≤ 999
  · refine evPos (decide_eq_true ha) (evBS (iIn _ _ _) ?_)
    by_cases hb : 0 ≤ b ∧ b ≤ 999
    · refine evPos (decide_eq_true hb) (evBS (iIn _ _ _) ?_)
      by_cases hc : (1 : Int) ≤ (l.length : Int) ∧ (l.length : Int) ≤ 80
      · rw [decide_eq_true hc]
        refine evStep (fun k => by rw [impl_goodGroup.j0]) ?_
        refine evNeg (by simp) (evEq (iGroup_l0 a b l hl ha hb) ?_)
        unfold groupB
        rw [tl_I a b l ha hb (by omega)]
      · rw [decide_eq_false hc]
        refine no ?_
        unfold groupB
        by_cases h8 : l.length ≤ 80
        · have : l = [] := List.length_eq_zero_iff.1 (by omega)
          subst this; rfl
        · rw [tl_no _ _ _ _ (fun h => h8 h.2.2), Bool.and_false]
    · exact evNeg (by simpa using hb) (no (by unfold groupB; rw [tl_no _ _ _ _ (fun h => hb h.2.1), Bool.and_false]))
  · exact evNeg (by simpa using ha) (no (by unfold groupB; rw [tl_no _ _ _ _ (fun h => ha h.1), Bool.and_false]))
theorem group_in {a b : Int} {l : List Rw} (h : groupB a b l = true) : (0 ≤ a ∧ a ≤ 999) ∧ (0 ≤ b ∧ b ≤ 999) ∧ l.length ≤ 80 := by
  unfold groupB at h
  by_cases g : (0 ≤ a ∧ a ≤ 999) ∧ (0 ≤ b ∧ b ≤ 999) ∧ l.length ≤ 80
  · exact g
  · rw [tl_no _ _ _ _ g, Bool.and_false] at h; cases h
end Go.Proofs.Ytafohchkacclpaa.Text
