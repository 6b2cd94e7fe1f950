import Derived.Test.YtkbhmdlljfknoaaG
import Derived.Lib.IndexAny
set_option linter.unusedVariables false
set_option linter.unusedSimpArgs false
set_option linter.unusedSectionVars false
namespace Go.Abs.G
open Go Go.Abs
abbrev T := List ByteArray
abbrev YHunk := Int × Int × List (ByteArray)
abbrev YHunkS := List YHunk
abbrev YRow := Int × ByteArray
abbrev YRowS := List YRow
abbrev YGroup := Int × Int × List (Int × ByteArray)
abbrev YGroupS := List YGroup
/-- of a size that is let through -/
def Sm (l : T) : Prop := l.length ≤ 1048576 ∧ ∀ s ∈ l, s.size ≤ 1048576
def bl (s : ByteArray) : List UInt8 := s.data.toList
theorem bl_len (s : ByteArray) : (bl s).length = s.size := rfl
theorem bl_inj {a b : ByteArray} (h : bl a = bl b) : a = b := ByteArray.ext (Array.toList_inj.1 h)
theorem bl_ext (s : ByteArray) (a b : Nat) : bl (s.extract a b) = ((bl s).drop a).take (b - a) := by
  unfold bl; rw [ByteArray.data_extract, Array.toList_extract]
theorem bt_bl (s : ByteArray) (i : Nat) : bt s (i : Int) = (((bl s).getD i 0).toNat : Int) := by
  unfold bt bl
  rw [Int.toNat_natCast]
theorem sIn (a b c : Int) : spec_l1In.f a b c = some (decide (b ≤ a ∧ a ≤ c)) := by
  rw [spec_l1In.f_eq]
  by_cases h : a ≥ b
  · rw [bifT h]; congr 1; rw [decide_eq_decide]; omega
  · rw [bifF h]; congr 1; rw [eq_comm, decide_eq_false_iff_not]; omega
theorem iIn (a b c : Int) : impl_in.f a b c = some (decide (b ≤ a ∧ a ≤ c)) := by
  rw [impl_in.f_eq]
  by_cases h : a ≥ b
  · rw [bifT h]; congr 1; rw [decide_eq_decide]; omega
  · rw [bifF h]; congr 1; rw [eq_comm, decide_eq_false_iff_not]; omega
/-- A line. -/
def lineP (s : ByteArray) : Prop := 1 ≤ s.size ∧ s.size ≤ 30 ∧ (10 : UInt8) ∉ (bl s).take (s.size - 1)
instance (s : ByteArray) : Decidable (lineP s) := by unfold lineP; exact inferInstance
/-- It ends. -/
def endP (s : ByteArray) : Prop := 1 ≤ s.size ∧ (bl s).getD (s.size - 1) 0 = 10
instance (s : ByteArray) : Decidable (endP s) := by unfold endP; exact inferInstance
theorem toNat10 (b : UInt8) : ((b.toNat : Nat) : Int) = 10 ↔ b = 10 := by
  constructor
  · intro h; exact UInt8.toNat_inj.1 (by have : (10 : UInt8).toNat = 10 := rfl; omega)
  · rintro rfl; rfl
theorem sLine (s : ByteArray) (hs : s.size ≤ 1048576) : spec_l1Line.f s = some (decide (lineP s)) := by
  have hL : ((bl s).take (s.size - 1)).length = s.size - 1 := by rw [List.length_take, bl_len]; omega
  have hw : w64 ((s.size : Int) - 1) = (s.size : Int) - 1 := w64_id (by omega) (by omega)
  have key : ∀ i, i ≤ s.size - 1 → spec_l1Line.l4 s (i : Int) = some (decide (1 ≤ s.size ∧ s.size ≤ 30 ∧ (10 : UInt8) ∉ ((bl s).take (s.size - 1)).drop i)) := by
    apply downTo
    · rw [spec_l1Line.l4_eq, hw, bifF (by omega), sIn, sB]
      congr 1
      rw [decide_eq_decide, List.drop_eq_nil_of_le (by omega)]
      constructor
      · intro h; exact ⟨by omega, by omega, List.not_mem_nil⟩
      · intro h; omega
    · intro i hi ih
      have hi1 := up1 (i := i) (by omega)
      rw [spec_l1Line.l4_eq]
      simp only [hw, hi1]
      rw [bifT (by omega), bif2T (by omega) (by omega)]
      have hb : bt s (i : Int) = 10 ↔ ((bl s).take (s.size - 1)).getD i 0 = 10 := by
        rw [bt_bl, toNat10, List.getD_eq_getElem?_getD, List.getD_eq_getElem?_getD, List.getElem?_take_of_lt hi]
      have hd := drop_at (l := (bl s).take (s.size - 1)) (i := i) (by omega) 0
      by_cases h : bt s (i : Int) = 10
      · rw [bifT h]; congr 1
        rw [eq_comm, decide_eq_false_iff_not, hd, hb.1 h]
        rintro ⟨_, _, h3⟩
        exact h3 List.mem_cons_self
      · rw [bifF h, ih]; congr 1
        rw [decide_eq_decide, hd, List.mem_cons, not_or]
        have : ¬ (10 : UInt8) = ((bl s).take (s.size - 1)).getD i 0 := fun g => h (hb.2 g.symm)
        exact ⟨fun ⟨a, b, c⟩ => ⟨a, b, this, c⟩, fun ⟨a, b, _, c⟩ => ⟨a, b, c⟩⟩
  have := key 0 (by omega)
  rw [spec_l1Line.f_eq]
  rw [List.drop_zero] at this
  exact this
theorem iLine (s : ByteArray) (hs : s.size ≤ 1048576) : impl_isLine.f s = some (decide (lineP s)) := by
  have hw : w64 ((s.size : Int) - 1) = (s.size : Int) - 1 := w64_id (by omega) (by omega)
  rw [impl_isLine.f_eq, iIn, sB, hw]
  by_cases h : (1 : Int) ≤ (s.size : Int) ∧ (s.size : Int) ≤ 30
  · rw [bifT h, bif2T (by omega) (by omega)]
    show (contains1 _ _).bind _ = _
    unfold contains1
    have h1 : Nat.beq (⟨#[10]⟩ : ByteArray).size 1 = true := rfl
    rw [h1, cond_true, sB]
    congr 1
    show (!decide (0 ≤ Go.Lib.indexByte _ 10)) = _
    rw [← Go.Lib.contains_iff_indexByte]
    have he : (s.extract 0 ((s.size : Int) - 1).toNat).data.toList = (bl s).take (s.size - 1) := by
      show bl _ = _
      rw [bl_ext, List.drop_zero]; congr 1; omega
    rw [he]
    by_cases hm : (10 : UInt8) ∈ (bl s).take (s.size - 1)
    · rw [List.contains_iff_mem.2 hm]; exact (decide_eq_false (fun g : lineP s => g.2.2 hm)).symm
    · have : ((bl s).take (s.size - 1)).contains 10 = false := by rw [← Bool.not_eq_true, List.contains_iff_mem]; exact hm
      rw [this]; exact (decide_eq_true (show lineP s from ⟨by omega, by omega, hm⟩)).symm
  · rw [bifF h]
    congr 1
    rw [eq_comm, decide_eq_false_iff_not]
    unfold lineP
    omega
theorem sEnds (s : ByteArray) (h1 : 1 ≤ s.size) (hs : s.size ≤ 1048576) : spec_l1Ends.f s = some (decide (endP s)) := by
  have hw : w64 ((s.size : Int) - 1) = ((s.size - 1 : Nat) : Int) := by rw [w64_id (by omega) (by omega)]; omega
  rw [spec_l1Ends.f_eq, hw, bif2T (by omega) (by omega), bt_bl]
  congr 1
  rw [decide_eq_decide, toNat10]
  exact ⟨fun h => ⟨h1, h⟩, fun h => h.2⟩
theorem iEnds (s : ByteArray) (hs : s.size ≤ 1048576) : impl_isEnded.f s = some (decide (endP s)) := by
  rw [impl_isEnded.f_eq, strings_HasSuffix.f_eq, internal_stringslite_HasSuffix.f_eq]
  have h10 : (⟨#[10]⟩ : ByteArray).size = 1 := rfl
  have hw : w64 ((s.size : Int) - 1) = (s.size : Int) - 1 := w64_id (by omega) (by omega)
  simp only [h10, Int.ofNat_one]
  by_cases h : (s.size : Int) ≥ 1
  · rw [hw, bifT h, bif2T (by omega) (by omega), sB, sB]
    congr 1
    rw [toList_beq, decide_eq_decide]
    have hb : bl (s.extract ((s.size : Int) - 1).toNat s.size) = [(bl s).getD (s.size - 1) 0] := by
      rw [bl_ext]
      have e : ((s.size : Int) - 1).toNat = s.size - 1 := by omega
      rw [e, drop_at (l := bl s) (i := s.size - 1) (by rw [bl_len]; omega) 0, show s.size - (s.size - 1) = 1 by omega]
      rfl
    constructor
    · intro g
      rw [g] at hb
      refine ⟨by omega, ?_⟩
      have : [(10 : UInt8)] = [(bl s).getD (s.size - 1) 0] := hb
      exact ((List.cons.inj this).1).symm
    · intro g
      refine bl_inj ?_
      rw [hb, g.2]; rfl
  · rw [bifF (by omega), sB, sB]
    congr 1
    rw [eq_comm, decide_eq_false_iff_not]
    unfold endP
    omega
def endsT : T → Bool
  | [] => true
  | s :: t => (t.isEmpty || decide (endP s)) && endsT t
def allLines (l : T) : Bool := l.all fun s => decide (lineP s)
theorem allLines_cons (s : ByteArray) (l : T) : allLines (s :: l) = (decide (lineP s) && allLines l) := rfl
def goodB (l : T) : Bool := decide (l.length ≤ 40) && allLines l && endsT l
theorem drop_empty {l : T} {i : Nat} (h : i < l.length) : (l.drop (i + 1)).isEmpty = decide (¬ (i : Int) < (l.length : Int) - 1) := by
  rw [Bool.eq_iff_iff, List.isEmpty_iff, List.drop_eq_nil_iff, decide_eq_true_eq]; omega
theorem iAre (l : T) (hl : Sm l) : impl_areLines.f l = some (decide (l.length ≤ 40) && allLines l) := by
  have hL := hl.1
  have idx : ∀ i, i ≤ l.length → ∃ r : Int, slices_IndexFunc_Lstring_string__impl_areLines_1.l4 l (l.length : Int) (i : Int) = some r ∧ (decide (r ≥ 0) = !(allLines (l.drop i))) := by
    apply downTo
    · refine ⟨-1, by rw [slices_IndexFunc_Lstring_string__impl_areLines_1.l4_eq, bifF (by omega)], ?_⟩
      rw [List.drop_eq_nil_of_le (by omega)]; rfl
    · intro i hlt ⟨r, hr, hp⟩
      have hi1 := up1 (i := i) (by omega)
      have hsz := hl.2 _ (getD_mem hlt em)
      rw [slices_IndexFunc_Lstring_string__impl_areLines_1.l4_eq, bifT (by omega), bif2T (by omega) (by omega), hi1]
      simp only [Int.toNat_natCast]
      rw [impl_areLines_1.f_eq, iLine _ hsz, sB, sB]
      by_cases h : lineP (l.getD i em)
      · refine ⟨r, by rw [bifNF h]; exact hr, ?_⟩
        rw [hp, drop_at hlt em, allLines_cons, decide_eq_true h, Bool.true_and]
      · refine ⟨(i : Int), by rw [bifNT h], ?_⟩
        rw [drop_at hlt em, allLines_cons, decide_eq_false h, Bool.false_and]; exact decide_eq_true (by omega)
  obtain ⟨r, hr, hp⟩ := idx 0 (by omega)
  rw [impl_areLines.f_eq, slices_ContainsFunc_Lstring_string__impl_areLines_1.f_eq, slices_IndexFunc_Lstring_string__impl_areLines_1.f_eq]
  by_cases h : l.length ≤ 40
  · rw [bifT (by omega)]
    refine bindEq (bindEq hr rfl) ?_
    rw [hp, decide_eq_true h]; simp
  · rw [bifF (by omega), decide_eq_false h]; rfl
theorem iGood (l : T) (hl : Sm l) : impl_goodLines.f l = some (goodB l) := by
  have hL := hl.1
  rw [impl_goodLines.f_eq, iAre l hl, sB]
  unfold goodB
  cases hg : (decide (l.length ≤ 40) && allLines l) with
  | false => rw [Bool.false_and, notF]
  | true =>
    rw [Bool.true_and, notT]
    have hw : w64 ((l.length : Int) - 1) = (l.length : Int) - 1 := w64_id (by omega) (by omega)
    have key : ∀ i, i ≤ l.length → impl_goodLines.l8 l l (l.length : Int) (i : Int) = some (endsT (l.drop i)) := by
      apply downTo
      · rw [impl_goodLines.l8_eq, bifF (by omega), List.drop_eq_nil_of_le (by omega)]; rfl
      · intro i hi ih
        have hi1 := up1 (i := i) (by omega)
        have hsz := hl.2 _ (getD_mem hi em)
        have he := drop_empty hi
        have hR : endsT (l.drop i) = ((decide (¬ (i : Int) < (l.length : Int) - 1) || decide (endP (l.getD i em))) && endsT (l.drop (i + 1))) := by
          rw [drop_at hi em]; simp only [endsT, he]
        rw [hR, impl_goodLines.l8_eq, hw, hi1, bifT (by omega), bif2T (by omega) (by omega)]
        simp only [Int.toNat_natCast]
        rw [iEnds _ hsz, sB, ih]
        by_cases h2 : (i : Int) < (l.length : Int) - 1
        · rw [bifT h2, decide_eq_false (show ¬ ¬ (i : Int) < (l.length : Int) - 1 from fun g => g h2), Bool.false_or]
          by_cases h3 : endP (l.getD i em)
          · rw [bifNF h3, decide_eq_true h3, Bool.true_and]
          · rw [bifNT h3, decide_eq_false h3, Bool.false_and]
        · rw [bifF h2, decide_eq_true h2, Bool.true_or, Bool.true_and]
    have := key 0 (by omega)
    rw [List.drop_zero] at this
    exact this
theorem sGood (l : T) (hl : Sm l) : spec_l1Good.f l = some (goodB l) := by
  have hL := hl.1
  have hw : w64 ((l.length : Int) - 1) = (l.length : Int) - 1 := w64_id (by omega) (by omega)
  have key : ∀ i, i ≤ l.length → spec_l1Good.l4 l l (l.length : Int) (i : Int) = some (decide (l.length ≤ 40) && allLines (l.drop i) && endsT (l.drop i)) := by
    apply downTo
    · rw [spec_l1Good.l4_eq, bifF (by omega), List.drop_eq_nil_of_le (by omega)]
      simp [allLines, endsT]
      omega
    · intro i hi ih
      have hi1 := up1 (i := i) (by omega)
      have hd := drop_at hi em
      have hsz := hl.2 _ (getD_mem hi em)
      have he := drop_empty hi
      have hR : (decide (l.length ≤ 40) && allLines (l.drop i) && endsT (l.drop i)) = (decide (lineP (l.getD i em)) && ((decide (¬ (i : Int) < (l.length : Int) - 1) || decide (endP (l.getD i em))) && (decide (l.length ≤ 40) && allLines (l.drop (i + 1)) && endsT (l.drop (i + 1))))) := by
        rw [hd]
        simp only [allLines, endsT, List.all_cons, he]
        generalize decide (l.length ≤ 40) = a1
        generalize decide (lineP (l.getD i em)) = a2
        generalize (l.drop (i + 1)).all (fun s => decide (lineP s)) = a3
        generalize (decide (¬ (i : Int) < (l.length : Int) - 1) || decide (endP (l.getD i em))) = a4
        generalize endsT (l.drop (i + 1)) = a5
        cases a1 <;> cases a2 <;> cases a3 <;> cases a4 <;> cases a5 <;> rfl
      rw [hR, spec_l1Good.l4_eq, hw, hi1, bifT (by omega), bif2T (by omega) (by omega)]
      simp only [Int.toNat_natCast]
      rw [sLine _ hsz, sB, ih]
      by_cases h1 : lineP (l.getD i em)
      · rw [bifNF h1, decide_eq_true h1, Bool.true_and]
        by_cases h2 : (i : Int) < (l.length : Int) - 1
        · rw [bifT h2, decide_eq_false (show ¬ ¬ (i : Int) < (l.length : Int) - 1 from fun g => g h2), Bool.false_or, sEnds _ h1.1 hsz, sB]
          by_cases h3 : endP (l.getD i em)
          · rw [bifNF h3, decide_eq_true h3, Bool.true_and]
          · rw [bifNT h3, decide_eq_false h3, Bool.false_and]
        · rw [bifF h2, decide_eq_true h2, Bool.true_or, Bool.true_and]
      · rw [bifNT h1, decide_eq_false h1, Bool.false_and]
  have := key 0 (by omega)
  rw [List.drop_zero] at this
  rw [spec_l1Good.f_eq]
  exact this
theorem good_len {l : T} (h : goodB l = true) : l.length ≤ 40 := by
  unfold goodB at h
  simp only [Bool.and_eq_true, decide_eq_true_eq] at h
  exact h.1.1
/-- rows of a size that is let through -/
def SmR (l : YRowS) : Prop := l.length ≤ 1048576 ∧ ∀ x ∈ l, x.2.size ≤ 1048576
def side (c : Int) : YRowS → T
  | [] => []
  | r :: l => if r.1 = c then side c l else r.2 :: side c l
theorem side_cons (c : Int) (r : YRow) (l : YRowS) : side c (r :: l) = if r.1 = c then side c l else r.2 :: side c l := rfl
theorem side_append (c : Int) : ∀ a b : YRowS, side c (a ++ b) = side c a ++ side c b
  | [], b => rfl
  | r :: a, b => by rw [List.cons_append, side_cons, side_cons, side_append c a b]; split <;> rfl
theorem side_len (c : Int) : ∀ l, (side c l).length ≤ l.length
  | [] => Nat.le_refl _
  | r :: l => by
    have := side_len c l
    unfold side
    split
    · rw [List.length_cons]; omega
    · rw [List.length_cons, List.length_cons]; omega
theorem side_mem (c : Int) : ∀ l s, s ∈ side c l → ∃ r ∈ l, s = r.2
  | [], s, h => by cases h
  | r :: l, s, h => by
    unfold side at h
    split at h
    · obtain ⟨q, hq, e⟩ := side_mem c l s h
      exact ⟨q, List.mem_cons_of_mem _ hq, e⟩
    · rcases List.mem_cons.1 h with rfl | h
      · exact ⟨r, List.mem_cons_self, rfl⟩
      · obtain ⟨q, hq, e⟩ := side_mem c l s h
        exact ⟨q, List.mem_cons_of_mem _ hq, e⟩
theorem side_sm (c : Int) {l : YRowS} (h : SmR l) : Sm (side c l) := by
  refine ⟨Nat.le_trans (side_len c l) h.1, fun s hs => ?_⟩
  obtain ⟨r, hr, rfl⟩ := side_mem c l s hs
  exact h.2 r hr
theorem side_step (c : Int) (s : T) (l : YRowS) {i : Nat} (hi : i < l.length) : s ++ side c (l.drop i) = (if (l.getD i (0, em)).1 = c then s else s ++ [(l.getD i (0, em)).2]) ++ side c (l.drop (i + 1)) := by
  rw [drop_at hi (0, em), side_cons]
  split
  · rfl
  · rw [List.append_assoc]; rfl
theorem sOld (g : YGroup) (hl : g.2.2.length ≤ 1048576) : spec_l6Old.f g = some (side 3 g.2.2) := by
  obtain ⟨a, b, l⟩ := g
  simp only at hl
  have key : ∀ i, i ≤ l.length → ∀ s : T, s.length ≤ i → spec_l6Old.l6 s l (l.length : Int) (i : Int) = some (s ++ side 3 (l.drop i)) := by
    apply downTo
    · intro s h
      rw [spec_l6Old.l6_eq, bifF (by omega), List.drop_eq_nil_of_le (by omega)]; simp [side]
    · intro i hi ih s h
      rw [side_step 3 s l hi, spec_l6Old.l6_eq, bifT (by omega), bif2T (by omega) (by omega), up1 (by omega), room16]
      simp only [Int.toNat_natCast]
      by_cases h3 : (l.getD i (0, em)).1 = 3
      · rw [if_pos h3, bifNF h3]; exact ih s (by omega)
      · rw [if_neg h3, bifNT h3, bifT (by simp only [List.length_singleton]; omega)]
        exact ih _ (by rw [List.length_append, List.length_singleton]; omega)
  rw [spec_l6Old.f_eq]
  exact key 0 (by omega) [] (by simp)
theorem sNew (g : YGroup) (hl : g.2.2.length ≤ 1048576) : spec_l6New.f g = some (side 2 g.2.2) := by
  obtain ⟨a, b, l⟩ := g
  simp only at hl
  have key : ∀ i, i ≤ l.length → ∀ s : T, s.length ≤ i → spec_l6New.l6 s l (l.length : Int) (i : Int) = some (s ++ side 2 (l.drop i)) := by
    apply downTo
    · intro s h
      rw [spec_l6New.l6_eq, bifF (by omega), List.drop_eq_nil_of_le (by omega)]; simp [side]
    · intro i hi ih s h
      rw [side_step 2 s l hi, spec_l6New.l6_eq, bifT (by omega), bif2T (by omega) (by omega), up1 (by omega), room16]
      simp only [Int.toNat_natCast]
      by_cases h3 : (l.getD i (0, em)).1 = 2
      · rw [if_pos h3, bifNF h3]; exact ih s (by omega)
      · rw [if_neg h3, bifNT h3, bifT (by simp only [List.length_singleton]; omega)]
        exact ih _ (by rw [List.length_append, List.length_singleton]; omega)
  rw [spec_l6New.f_eq]
  exact key 0 (by omega) [] (by simp)
theorem iSide (c : Int) (l : YRowS) (hl : l.length ≤ 1048576) : impl_sideOf.f l c = some (side c l) := by
  have key : ∀ i, i ≤ l.length → ∀ s : T, s.length ≤ i → impl_sideOf.l6 c s l (l.length : Int) (i : Int) = some (s ++ side c (l.drop i)) := by
    apply downTo
    · intro s h
      rw [impl_sideOf.l6_eq, bifF (by omega), List.drop_eq_nil_of_le (by omega)]; simp [side]
    · intro i hi ih s h
      rw [side_step c s l hi, impl_sideOf.l6_eq, bifT (by omega), bif2T (by omega) (by omega), up1 (by omega), room16]
      simp only [Int.toNat_natCast]
      by_cases h3 : (l.getD i (0, em)).1 = c
      · rw [if_pos h3, bifNF h3]; exact ih s (by omega)
      · rw [if_neg h3, bifNT h3, bifT (by simp only [List.length_singleton]; omega)]
        exact ih _ (by rw [List.length_append, List.length_singleton]; omega)
  rw [impl_sideOf.f_eq]
  exact key 0 (by omega) [] (by simp)
theorem iOld (g : YGroup) (hl : g.2.2.length ≤ 1048576) : impl_Group_old.f g = some (side 3 g.2.2) := by
  rw [impl_Group_old.f_eq, iSide 3 _ hl, sB]
theorem iNew (g : YGroup) (hl : g.2.2.length ≤ 1048576) : impl_Group_fresh.f g = some (side 2 g.2.2) := by
  rw [impl_Group_fresh.f_eq, iSide 2 _ hl, sB]
theorem s5 (l : T) (hl : Sm l) : spec_l5Lines.f l = some (goodB l) := by
  have hL := hl.1
  have hw : w64 ((l.length : Int) - 1) = (l.length : Int) - 1 := w64_id (by omega) (by omega)
  have key : ∀ i, i ≤ l.length → spec_l5Lines.l4 l l (l.length : Int) (i : Int) = some (decide (l.length ≤ 40) && allLines (l.drop i) && endsT (l.drop i)) := by
    apply downTo
    · rw [spec_l5Lines.l4_eq, bifF (by omega), List.drop_eq_nil_of_le (by omega)]
      simp [allLines, endsT]
      omega
    · intro i hi ih
      have hi1 := up1 (i := i) (by omega)
      have hd := drop_at hi em
      have hsz := hl.2 _ (getD_mem hi em)
      have he := drop_empty hi
      have hR : (decide (l.length ≤ 40) && allLines (l.drop i) && endsT (l.drop i)) = (decide (lineP (l.getD i em)) && ((decide (¬ (i : Int) < (l.length : Int) - 1) || decide (endP (l.getD i em))) && (decide (l.length ≤ 40) && allLines (l.drop (i + 1)) && endsT (l.drop (i + 1))))) := by
        rw [hd]
        simp only [allLines, endsT, List.all_cons, he]
        generalize decide (l.length ≤ 40) = a1
        generalize decide (lineP (l.getD i em)) = a2
        generalize (l.drop (i + 1)).all (fun s => decide (lineP s)) = a3
        generalize (decide (¬ (i : Int) < (l.length : Int) - 1) || decide (endP (l.getD i em))) = a4
        generalize endsT (l.drop (i + 1)) = a5
        cases a1 <;> cases a2 <;> cases a3 <;> cases a4 <;> cases a5 <;> rfl
      rw [hR, spec_l5Lines.l4_eq, hw, hi1, bifT (by omega), bif2T (by omega) (by omega)]
      simp only [Int.toNat_natCast]
      rw [sLine _ hsz, sB, ih]
      by_cases h1 : lineP (l.getD i em)
      · rw [bifNF h1, decide_eq_true h1, Bool.true_and]
        by_cases h2 : (i : Int) < (l.length : Int) - 1
        · rw [bifT h2, decide_eq_false (show ¬ ¬ (i : Int) < (l.length : Int) - 1 from fun g => g h2), Bool.false_or, sEnds _ h1.1 hsz, sB]
          by_cases h3 : endP (l.getD i em)
          · rw [bifNF h3, decide_eq_true h3, Bool.true_and]
          · rw [bifNT h3, decide_eq_false h3, Bool.false_and]
        · rw [bifF h2, decide_eq_true h2, Bool.true_or, Bool.true_and]
      · rw [bifNT h1, decide_eq_false h1, Bool.false_and]
  have := key 0 (by omega)
  rw [List.drop_zero] at this
  rw [spec_l5Lines.f_eq]
  exact this
def rowsB : Int → YRowS → Bool
  | _, [] => true
  | p, r :: l => decide (1 ≤ r.1 ∧ r.1 ≤ 3) && (decide (lineP r.2) && (decide (¬ (r.1 = 2 ∧ p = 3)) && rowsB r.1 l))
def anyB : YRowS → Bool
  | [] => false
  | r :: l => (!decide (r.1 = 1)) || anyB l
def pv (l : YRowS) (i : Nat) : Int := if i = 0 then 0 else (l.getD (i - 1) (0, em)).1
/-- What is asked behind the rows. -/
def tl (g : YGroup) (s : Bool) : Bool :=
  s && (decide ((0 ≤ g.1 ∧ g.1 ≤ 999) ∧ (0 ≤ g.2.1 ∧ g.2.1 ≤ 999) ∧ g.1 + ((side 3 g.2.2).length : Int) ≤ 1000 ∧ g.2.1 + ((side 2 g.2.2).length : Int) ≤ 1000 ∧ g.2.2.length ≤ 80) && (goodB (side 3 g.2.2) && goodB (side 2 g.2.2)))
def groupB (g : YGroup) : Bool := rowsB 0 g.2.2 && tl g (anyB g.2.2)
theorem rows_step (l : YRowS) {i : Nat} (hi : i < l.length) : rowsB (pv l i) (l.drop i) = (decide (1 ≤ (l.getD i (0, em)).1 ∧ (l.getD i (0, em)).1 ≤ 3) && (decide (lineP (l.getD i (0, em)).2) && (decide (¬ ((l.getD i (0, em)).1 = 2 ∧ pv l i = 3)) && rowsB (pv l (i + 1)) (l.drop (i + 1))))) := by
  have : pv l (i + 1) = (l.getD i (0, em)).1 := by unfold pv; rw [if_neg (by omega)]; rfl
  rw [this, drop_at hi (0, em)]; rfl
theorem any_step (s : Bool) (l : YRowS) {i : Nat} (hi : i < l.length) : (s || anyB (l.drop i)) = ((s || (!decide ((l.getD i (0, em)).1 = 1))) || anyB (l.drop (i + 1))) := by
  rw [drop_at hi (0, em)]
  show (s || (_ || _)) = _
  rw [Bool.or_assoc]
theorem sGroup (g : YGroup) (hl : SmR g.2.2) : spec_l6Group.f g = some (groupB g) := by
  have hL := hl.1
  have n3 := side_len 3 g.2.2
  have n2 := side_len 2 g.2.2
  obtain ⟨l, hlg⟩ : ∃ l, g.2.2 = l := ⟨_, rfl⟩
  have hLl : l.length ≤ 1048576 := by rw [← hlg]; exact hL
  have key : ∀ i, i ≤ l.length → ∀ s : Bool, spec_l6Group.l6 g s l (l.length : Int) (i : Int) = some (rowsB (pv l i) (l.drop i) && tl g (s || anyB (l.drop i))) := by
    apply downTo
    · intro s
      rw [spec_l6Group.l6_eq, bifF (by omega), List.drop_eq_nil_of_le (by omega)]
      show _ = some (true && tl g (s || false))
      rw [Bool.true_and, Bool.or_false]
      cases s with
      | false => rfl
      | true =>
        unfold tl
        rw [Bool.true_and, cond_true, sIn, sB]
        by_cases ha : 0 ≤ g.1 ∧ g.1 ≤ 999
        case neg => rw [bifF ha, decide_eq_false (fun h => ha h.1)]; rfl
        rw [bifT ha, sIn, sB]
        by_cases hb : 0 ≤ g.2.1 ∧ g.2.1 ≤ 999
        case neg => rw [bifF hb, decide_eq_false (fun h => hb h.2.1)]; rfl
        rw [bifT hb, sOld g hL, sB, w64_id (by omega) (by omega)]
        by_cases c1 : g.1 + ((side 3 g.2.2).length : Int) ≤ 1000
        case neg => rw [bifF c1, decide_eq_false (fun h => c1 h.2.2.1)]; rfl
        rw [bifT c1, sNew g hL, sB, w64_id (by omega) (by omega)]
        by_cases c2 : g.2.1 + ((side 2 g.2.2).length : Int) ≤ 1000
        case neg => rw [bifF c2, decide_eq_false (fun h => c2 h.2.2.2.1)]; rfl
        rw [bifT c2]
        by_cases c3 : g.2.2.length ≤ 80
        case neg => rw [bifF (by omega), decide_eq_false (fun h => c3 h.2.2.2.2)]; rfl
        rw [bifT (by omega), sB, s5 _ (side_sm 3 hl), sB, decide_eq_true (⟨ha, hb, c1, c2, c3⟩ : _ ∧ _ ∧ _ ∧ _ ∧ _), Bool.true_and]
        cases goodB (side 3 g.2.2) with
        | false => rfl
        | true => rw [cond_true, sB, s5 _ (side_sm 2 hl), sB]; rfl
    · intro i hi ih s
      have hsz := hl.2 _ (getD_mem (l := g.2.2) (by rw [hlg]; exact hi) (0, em))
      rw [hlg] at hsz
      rw [rows_step l hi, any_step s l hi, spec_l6Group.l6_eq, bifT (by omega), bif2T (by omega) (by omega)]
      simp only [Int.toNat_natCast]
      have fin : spec_l6Group.l15 g s (l.getD i (0, em)) l (l.length : Int) (i : Int) = some (rowsB (pv l (i + 1)) (l.drop (i + 1)) && tl g ((s || (!decide ((l.getD i (0, em)).1 = 1))) || anyB (l.drop (i + 1)))) := by
        rw [spec_l6Group.l15_eq, up1 (by omega)]
        cases s with
        | false => rw [cond_false, ih, Bool.false_or]
        | true => rw [cond_true, ih]; simp only [Bool.true_or]
      rw [sIn, sB]
      by_cases h1 : 1 ≤ (l.getD i (0, em)).1 ∧ (l.getD i (0, em)).1 ≤ 3
      case neg => rw [bifNT h1, decide_eq_false h1, Bool.false_and, Bool.false_and]
      rw [bifNF h1, decide_eq_true h1, Bool.true_and, sLine _ hsz, sB]
      by_cases h2 : lineP (l.getD i (0, em)).2
      case neg => rw [bifNT h2, decide_eq_false h2, Bool.false_and, Bool.false_and]
      rw [bifNF h2, decide_eq_true h2, Bool.true_and]
      by_cases h3 : (i : Int) > 0
      · rw [bifT h3]
        by_cases h4 : (l.getD i (0, em)).1 = 2
        · rw [bifT h4, dn1 (by omega) (by omega), hlg, bif2T (by omega) (by omega)]
          simp only [Int.toNat_natCast]
          have hp : pv l i = (l.getD (i - 1) (0, em)).1 := by unfold pv; rw [if_neg (by omega)]
          by_cases h5 : (l.getD (i - 1) (0, em)).1 = 3
          · have hx : ¬ ¬ ((l.getD i (0, em)).1 = 2 ∧ pv l i = 3) := fun g => g ⟨h4, hp.trans h5⟩
            rw [bifT h5, decide_eq_false hx, Bool.false_and, Bool.false_and]
          · have hx : ¬ ((l.getD i (0, em)).1 = 2 ∧ pv l i = 3) := fun g => h5 (hp.symm.trans g.2)
            rw [bifF h5, decide_eq_true hx, Bool.true_and]; exact fin
        · have hx : ¬ ((l.getD i (0, em)).1 = 2 ∧ pv l i = 3) := fun g => h4 g.1
          rw [bifF h4, decide_eq_true hx, Bool.true_and]; exact fin
      · have hp : pv l i = 0 := by unfold pv; rw [if_pos (by omega)]
        have hx : ¬ ((l.getD i (0, em)).1 = 2 ∧ pv l i = 3) := fun g => by rw [hp] at g; exact absurd g.2 (by decide)
        rw [bifF h3, decide_eq_true hx, Bool.true_and]; exact fin
  have := key 0 (by omega) false
  rw [List.drop_zero, Bool.false_or] at this
  rw [spec_l6Group.f_eq, hlg, groupB, hlg]
  exact this
theorem iGroup_l (g : YGroup) (hl : SmR g.2.2) (ha : 0 ≤ g.1 ∧ g.1 ≤ 999) (hb : 0 ≤ g.2.1 ∧ g.2.1 ≤ 999) (h80 : g.2.2.length ≤ 80) : impl_goodGroup.l10 g false g.2.2 (g.2.2.length : Int) 0 = some (groupB g) := by
  have hL := hl.1
  have n3 := side_len 3 g.2.2
  have n2 := side_len 2 g.2.2
  obtain ⟨l, hlg⟩ : ∃ l, g.2.2 = l := ⟨_, rfl⟩
  have hLl : l.length ≤ 1048576 := by rw [← hlg]; exact hL
  have key : ∀ i, i ≤ l.length → ∀ s : Bool, impl_goodGroup.l10 g s l (l.length : Int) (i : Int) = some (rowsB (pv l i) (l.drop i) && tl g (s || anyB (l.drop i))) := by
    apply downTo
    · intro s
      rw [impl_goodGroup.l10_eq, bifF (by omega), List.drop_eq_nil_of_le (by omega), iOld g hL, iNew g hL, sB, sB]
      show _ = some (true && tl g (s || false))
      rw [Bool.true_and, Bool.or_false]
      cases s with
      | false => rfl
      | true =>
        unfold tl
        rw [Bool.true_and, cond_true, iGood _ (side_sm 3 hl), sB]
        cases goodB (side 3 g.2.2) with
        | false => rw [Bool.false_and, Bool.and_false]; rfl
        | true =>
          rw [cond_true, Bool.true_and, iGood _ (side_sm 2 hl), sB]
          cases goodB (side 2 g.2.2) with
          | false => rw [Bool.and_false]; rfl
          | true =>
            rw [cond_true, Bool.and_true, w64_id (by omega) (by omega), w64_id (by omega) (by omega)]
            by_cases c1 : g.1 + ((side 3 g.2.2).length : Int) ≤ 1000
            · rw [bifT c1]; congr 1; rw [decide_eq_decide]
              exact ⟨fun h => ⟨ha, hb, c1, h, h80⟩, fun h => h.2.2.2.1⟩
            · rw [bifF c1, decide_eq_false (fun h => c1 h.2.2.1)]
    · intro i hi ih s
      have hsz := hl.2 _ (getD_mem (l := g.2.2) (by rw [hlg]; exact hi) (0, em))
      rw [hlg] at hsz
      rw [rows_step l hi, any_step s l hi, impl_goodGroup.l10_eq, bifT (by omega), bif2T (by omega) (by omega)]
      simp only [Int.toNat_natCast]
      have fin : impl_goodGroup.l19 g s (l.getD i (0, em)) l (l.length : Int) (i : Int) = some (rowsB (pv l (i + 1)) (l.drop (i + 1)) && tl g ((s || (!decide ((l.getD i (0, em)).1 = 1))) || anyB (l.drop (i + 1)))) := by
        rw [impl_goodGroup.l19_eq, up1 (by omega)]
        cases s with
        | false => rw [cond_false, ih, Bool.false_or]
        | true => rw [cond_true, ih]; simp only [Bool.true_or]
      rw [iIn, sB]
      by_cases h1 : 1 ≤ (l.getD i (0, em)).1 ∧ (l.getD i (0, em)).1 ≤ 3
      case neg => rw [bifNT h1, decide_eq_false h1, Bool.false_and, Bool.false_and]
      rw [bifNF h1, decide_eq_true h1, Bool.true_and, iLine _ hsz, sB]
      by_cases h2 : lineP (l.getD i (0, em)).2
      case neg => rw [bifNT h2, decide_eq_false h2, Bool.false_and, Bool.false_and]
      rw [bifNF h2, decide_eq_true h2, Bool.true_and]
      by_cases h3 : (i : Int) > 0
      · rw [bifT h3]
        by_cases h4 : (l.getD i (0, em)).1 = 2
        · rw [bifT h4, dn1 (by omega) (by omega), hlg, bif2T (by omega) (by omega)]
          simp only [Int.toNat_natCast]
          have hp : pv l i = (l.getD (i - 1) (0, em)).1 := by unfold pv; rw [if_neg (by omega)]
          by_cases h5 : (l.getD (i - 1) (0, em)).1 = 3
          · have hx : ¬ ¬ ((l.getD i (0, em)).1 = 2 ∧ pv l i = 3) := fun g => g ⟨h4, hp.trans h5⟩
            rw [bifT h5, decide_eq_false hx, Bool.false_and, Bool.false_and]
          · have hx : ¬ ((l.getD i (0, em)).1 = 2 ∧ pv l i = 3) := fun g => h5 (hp.symm.trans g.2)
            rw [bifF h5, decide_eq_true hx, Bool.true_and]; exact fin
        · have hx : ¬ ((l.getD i (0, em)).1 = 2 ∧ pv l i = 3) := fun g => h4 g.1
          rw [bifF h4, decide_eq_true hx, Bool.true_and]; exact fin
      · have hp : pv l i = 0 := by unfold pv; rw [if_pos (by omega)]
        have hx : ¬ ((l.getD i (0, em)).1 = 2 ∧ pv l i = 3) := fun g => by rw [hp] at g; exact absurd g.2 (by decide)
        rw [bifF h3, decide_eq_true hx, Bool.true_and]; exact fin
  have := key 0 (by omega) false
  rw [List.drop_zero, Bool.false_or] at this
  rw [groupB, hlg]
  exact this
theorem group_in {g : YGroup} (h : groupB g = true) : (0 ≤ g.1 ∧ g.1 ≤ 999) ∧ (0 ≤ g.2.1 ∧ g.2.1 ≤ 999) ∧ g.1 + ((side 3 g.2.2).length : Int) ≤ 1000 ∧ g.2.1 + ((side 2 g.2.2).length : Int) ≤ 1000 ∧ g.2.2.length ≤ 80 := by
  unfold groupB tl at h
  simp only [Bool.and_eq_true, decide_eq_true_eq] at h
  exact h.2.2.1
theorem group_any {g : YGroup} (h : groupB g = true) : anyB g.2.2 = true := by
  unfold groupB tl at h
  simp only [Bool.and_eq_true] at h
  exact h.2.1
theorem group_rows {g : YGroup} (h : groupB g = true) : rowsB 0 g.2.2 = true := by
  unfold groupB at h
  simp only [Bool.and_eq_true] at h
  exact h.1
theorem group_sides {g : YGroup} (h : groupB g = true) : goodB (side 3 g.2.2) = true ∧ goodB (side 2 g.2.2) = true := by
  unfold groupB tl at h
  simp only [Bool.and_eq_true] at h
  exact h.2.2.2
theorem iGroup (g : YGroup) (hl : SmR g.2.2) : impl_goodGroup.f g = some (groupB g) := by
  have hL := hl.1
  have no : ∀ {P : Prop}, (groupB g = true → False) → some false = some (groupB g) := fun h => by
    cases hg : groupB g with
    | true => exact (h hg).elim
    | false => rfl
  rw [impl_goodGroup.f_eq, iIn, sB]
  by_cases ha : 0 ≤ g.1 ∧ g.1 ≤ 999
  case neg => rw [bifNT ha]; exact no (P := True) fun h => ha (group_in h).1
  rw [bifNF ha, iIn, sB]
  by_cases hb : 0 ≤ g.2.1 ∧ g.2.1 ≤ 999
  case neg => rw [bifNT hb]; exact no (P := True) fun h => hb (group_in h).2.1
  rw [bifNF hb, iIn, sB]
  by_cases hc : (1 : Int) ≤ (g.2.2.length : Int) ∧ (g.2.2.length : Int) ≤ 80
  case neg =>
    rw [bifNT hc]
    refine no (P := True) fun h => hc ⟨?_, by have := group_in h; omega⟩
    have ha := group_any h
    cases hg : g.2.2 with
    | nil => rw [hg] at ha; cases ha
    | cons r l => simp only [List.length_cons]; omega
  rw [bifNF hc, impl_goodGroup.l7_eq]
  exact iGroup_l g hl ha hb (by omega)
/-- groups of a size that is let through -/
def SmG (g : YGroupS) : Prop := g.length ≤ 1048576 ∧ ∀ x ∈ g, SmR x.2.2
def gA (x : YGroup) : Int := x.1 + ((side 3 x.2.2).length : Int)
def gB (x : YGroup) : Int := x.2.1 + ((side 2 x.2.2).length : Int)
theorem cloneR (l : YRowS) (h : l.length ≤ 1048576) : slices_Clone_Limpl_Row_impl_Row.f l = some l := by
  unfold slices_Clone_Limpl_Row_impl_Row.f clone1
  rw [room24, bifT (by omega)]
abbrev Hk := Int × Int × T
abbrev hz : Hk := (0, 0, [])
theorem ownT (l : T) (h : l.length ≤ 1048576) : spec_l1OwnT.f l = some l := by
  rw [spec_l1OwnT.f_eq, room16, bifT (by simp; omega), List.nil_append]
abbrev Cu := List Int × Int × Int
/-- so many choices more can be read -/
def Cok (n : Nat) (c : Cu) : Prop := c.1.length ≤ 1048576 ∧ (∀ x ∈ c.1, 0 ≤ x ∧ x ≤ 255) ∧ 0 ≤ c.2.1 ∧ c.2.1 + n ≤ 4611686018427387904
theorem Cok.le {n m : Nat} {c : Cu} (h : Cok n c) (k : m ≤ n) : Cok m c := ⟨h.1, h.2.1, h.2.2.1, by have := h.2.2.2; omega⟩
theorem and255 (x : Int) : 0 ≤ andI .u64 x 255 ∧ andI .u64 x 255 ≤ 255 := by
  have h : (BitVec.ofInt 64 x &&& BitVec.ofInt 64 255).toNat ≤ 255 := by
    rw [BitVec.toNat_and]
    exact Nat.le_trans Nat.and_le_right (by decide)
  unfold andI
  have e : IntKind.wrap .u64 ((BitVec.ofInt IntKind.u64.bits x &&& BitVec.ofInt IntKind.u64.bits 255).toNat : Int) = ((BitVec.ofInt 64 x &&& BitVec.ofInt 64 255).toNat : Int) := by
    show IntKind.wrap .u64 ((BitVec.ofInt 64 x &&& BitVec.ofInt 64 255).toNat : Int) = _
    generalize (BitVec.ofInt 64 x &&& BitVec.ofInt 64 255).toNat = y at h
    unfold IntKind.wrap
    simp [IntKind.bits, IntKind.signed]
    omega
  rw [e]; omega
theorem next_ok {n : Nat} {c : Cu} (h : Cok (n + 1) c) : ∃ (x : Int) (c' : Cu), spec_l1Cur_next.f c = some (x, c') ∧ 0 ≤ x ∧ x ≤ 255 ∧ Cok n c' := by
  obtain ⟨h1, h2, h3, h4⟩ := h
  have hw : w64 (c.2.1 + 1) = c.2.1 + 1 := w64_id (by omega) (by omega)
  have key : ∀ b : Int, 0 ≤ b → b ≤ 255 → ∃ (x : Int) (c' : Cu), spec_l1Cur_next.l9 c b = some (x, c') ∧ 0 ≤ x ∧ x ≤ 255 ∧ Cok n c' := by
    intro b b0 b1
    rw [spec_l1Cur_next.l9_eq]
    simp only [hw]
    by_cases hc : c.2.1 + 1 ≤ (c.1.length : Int)
    · rw [bifT hc]
      exact ⟨_, _, rfl, b0, b1, h1, h2, by show 0 ≤ c.2.1 + 1; omega, by show c.2.1 + 1 + (n : Int) ≤ _; omega⟩
    · rw [bifF hc]
      generalize shrI .u64 (IntKind.wrap .u64 ((IntKind.wrap .u64 ((IntKind.wrap .u64 (c.2.2 * 6364136223846793005)) + (IntKind.wrap .u64 b))) + 1442695040888963407)) 40 = y
      have ha := and255 y
      refine ⟨_, _, rfl, ?_, ?_, h1, h2, by show 0 ≤ c.2.1 + 1; omega, by show c.2.1 + 1 + (n : Int) ≤ _; omega⟩
      · rw [w64_id (by omega) (by omega)]; omega
      · rw [w64_id (by omega) (by omega)]; omega
  rw [spec_l1Cur_next.f_eq]
  by_cases hc : c.2.1 < (c.1.length : Int)
  · rw [bifT hc, bif2T h3 hc]
    have hm := h2 _ (getD_mem (l := c.1) (i := c.2.1.toNat) (by omega) 0)
    rw [w64_id (by omega) (by omega)]
    exact key _ hm.1 hm.2
  · rw [bifF hc]; exact key 0 (by omega) (by omega)
theorem pick_ok {n : Nat} {c : Cu} (h : Cok (n + 2) c) (m : Int) : ∃ (x : Int) (c' : Cu), spec_l1Cur_pick.f c m = some (x, c') ∧ 0 ≤ x ∧ (1 ≤ m → x < m) ∧ (m < 1 → x = 0) ∧ Cok n c' := by
  rw [spec_l1Cur_pick.f_eq]
  by_cases hm : m ≤ 1
  · rw [bifT hm]; exact ⟨0, c, rfl, by omega, by omega, fun _ => rfl, h.le (by omega)⟩
  · rw [bifF hm]
    obtain ⟨x, c1, e1, x0, x1, k1⟩ := next_ok h
    rw [e1, sB]
    simp only
    by_cases hb : m > 200
    · rw [bifT hb]
      obtain ⟨y, c2, e2, y0, y1, k2⟩ := next_ok k1
      rw [e2, sB, bifNT (by omega)]
      simp only
      rw [w64_id (x := x * 256) (by omega) (by omega), w64_id (by omega) (by omega)]
      have e : (x * 256 + y).tmod m = (x * 256 + y) % m := Int.tmod_eq_emod_of_nonneg (by omega)
      rw [e]
      exact ⟨_, _, rfl, Int.emod_nonneg _ (by omega), fun _ => Int.emod_lt_of_pos _ (by omega), by omega, k2⟩
    · rw [bifF hb, bifNT (by omega)]
      have e : x.tmod m = x % m := Int.tmod_eq_emod_of_nonneg x0
      rw [e]
      exact ⟨_, _, rfl, Int.emod_nonneg _ (by omega), fun _ => Int.emod_lt_of_pos _ (by omega), by omega, k1.le (by omega)⟩
theorem one_ok {n : Nat} {c : Cu} (h : Cok (n + 2) c) (m : Int) : ∃ (b : Bool) (c' : Cu), spec_l1Cur_one.f c m = some (b, c') ∧ Cok n c' := by
  obtain ⟨x, c', e, _, _, _, k⟩ := pick_ok h m
  rw [spec_l1Cur_one.f_eq, e, sB]
  exact ⟨_, _, rfl, k⟩
theorem of_ok {n : Nat} {c : Cu} (h : Cok (n + 2) c) (l : T) (hl : 1 ≤ l.length) : ∃ (s : ByteArray) (c' : Cu), spec_l1Cur_of.f c l = some (s, c') ∧ s ∈ l ∧ Cok n c' := by
  obtain ⟨x, c', e, x0, x1, _, k⟩ := pick_ok h (l.length : Int)
  have x1 := x1 (by omega)
  rw [spec_l1Cur_of.f_eq, e, sB]
  simp only
  rw [bif2T x0 x1]
  exact ⟨_, _, rfl, getD_mem (by omega) _, k⟩
/-- texts of so many lines, each of so many bytes -/
def TB (n m : Nat) (l : T) : Prop := l.length ≤ n ∧ ∀ s ∈ l, 1 ≤ s.size ∧ s.size ≤ m
theorem TB.le {n m n' m' : Nat} {l : T} (h : TB n m l) (h1 : n ≤ n') (h2 : m ≤ m') : TB n' m' l := ⟨Nat.le_trans h.1 h1, fun s hs => ⟨(h.2 s hs).1, Nat.le_trans (h.2 s hs).2 h2⟩⟩
theorem TB.sm {n m : Nat} {l : T} (h : TB n m l) (h1 : n ≤ 1048576) (h2 : m ≤ 1048576) : Sm l := ⟨Nat.le_trans h.1 h1, fun s hs => Nat.le_trans (h.2 s hs).2 h2⟩
theorem TB.app {n m n' : Nat} {l k : T} (h : TB n m l) (h' : TB n' m k) : TB (n + n') m (l ++ k) :=
  ⟨by rw [List.length_append]; have := h.1; have := h'.1; omega, fun s hs => (List.mem_append.1 hs).elim (h.2 s) (h'.2 s)⟩
theorem TB.one {m : Nat} {s : ByteArray} (h1 : 1 ≤ s.size) (h2 : s.size ≤ m) : TB 1 m [s] := ⟨by simp, fun t ht => by rw [List.mem_singleton] at ht; subst ht; exact ⟨h1, h2⟩⟩
theorem TB.set {n m : Nat} {l : T} (h : TB n m l) (i : Nat) {s : ByteArray} (h1 : 1 ≤ s.size) (h2 : s.size ≤ m) : TB n m (l.set i s) :=
  ⟨by rw [List.length_set]; exact h.1, fun t ht => (List.mem_or_eq_of_mem_set ht).elim (h.2 t) fun e => by subst e; exact ⟨h1, h2⟩⟩
theorem TB.take {n m : Nat} {l : T} (h : TB n m l) (i : Nat) : TB n m (l.take i) := ⟨by rw [List.length_take]; have := h.1; omega, fun s hs => h.2 s (List.mem_of_mem_take hs)⟩
theorem TB.drop {n m : Nat} {l : T} (h : TB n m l) (i : Nat) : TB n m (l.drop i) := ⟨by rw [List.length_drop]; have := h.1; omega, fun s hs => h.2 s (List.mem_of_mem_drop hs)⟩
theorem line_ok {n : Nat} {c : Cu} (h : Cok (n + 2) c) : ∃ (s : ByteArray) (c' : Cu), spec_l1Cur_line.f c = some (s, c') ∧ s.size ≤ 8 ∧ Cok n c' := by
  rw [spec_l1Cur_line.f_eq]
  obtain ⟨s, c', e, hm, k⟩ := of_ok h [(⟨#[97]⟩ : ByteArray), (⟨#[98]⟩ : ByteArray), (⟨#[99]⟩ : ByteArray), (⟨#[100]⟩ : ByteArray), em, (⟨#[46]⟩ : ByteArray), (⟨#[46, 46]⟩ : ByteArray), (⟨#[111, 110, 101, 32, 116, 119, 111]⟩ : ByteArray), (⟨#[43, 120]⟩ : ByteArray), (⟨#[45, 121]⟩ : ByteArray), (⟨#[92, 32, 122]⟩ : ByteArray), (⟨#[64, 64]⟩ : ByteArray)] (by decide)
  rw [e, sB]
  refine ⟨s, c', rfl, ?_, k⟩
  simp only [List.mem_cons, List.not_mem_nil, or_false] at hm
  rcases hm with h | h | h | h | h | h | h | h | h | h | h | h <;> (subst h; decide)
theorem sz10 : (⟨#[10]⟩ : ByteArray).size = 1 := rfl
theorem ended_size (s : ByteArray) : (s ++ (⟨#[10]⟩ : ByteArray)).size = s.size + 1 := by rw [ByteArray.size_append, sz10]
theorem text_l (n : Nat) : ∀ (k : Nat) (c : Cu) (l : T) (j : Nat), Cok (n + 2 * k + 4) c → TB j 9 l → j + k ≤ 1000 → ∃ (r : T) (c' : Cu), spec_l1Cur_text.l6 c l (k : Int) = some (r, c') ∧ TB (j + k + 1) 9 r ∧ Cok n c' := by
  intro k
  induction k with
  | zero =>
    intro c l j h hl hj
    have hl1 := hl.1
    rw [spec_l1Cur_text.l6_eq, bifF (by omega)]
    obtain ⟨b, c1, e1, k1⟩ := one_ok (n := n + 2) (h.le (by omega)) 5
    rw [e1, sB]
    cases b with
    | false => exact ⟨l, c1, rfl, hl.le (by omega) (by omega), k1.le (by omega)⟩
    | true =>
      simp only [cond_true]
      obtain ⟨s, c2, e2, hs, k2⟩ := of_ok k1 [(⟨#[97]⟩ : ByteArray), (⟨#[101, 110, 100]⟩ : ByteArray), (⟨#[46]⟩ : ByteArray)] (by decide)
      rw [e2, sB, room16, bifT (by simp only [List.length_singleton]; omega)]
      have hs2 : 1 ≤ s.size ∧ s.size ≤ 9 := by
        simp only [List.mem_cons, List.not_mem_nil, or_false] at hs
        rcases hs with h | h | h <;> (subst h; decide)
      exact ⟨_, c2, rfl, (hl.app (TB.one hs2.1 hs2.2)).le (by omega) (by omega), k2⟩
  | succ k ih =>
    intro c l j h hl hj
    have hl1 := hl.1
    rw [spec_l1Cur_text.l6_eq, bifT (by omega)]
    obtain ⟨s, c1, e1, hs, k1⟩ := line_ok (n := n + 2 * k + 4) (h.le (by omega))
    rw [e1, sB]
    simp only
    rw [sz10, room16, bifT (by omega), bifT (by simp only [List.length_singleton]; omega)]
    have e : w64 (((k + 1 : Nat) : Int) - 1) = (k : Int) := by rw [w64_id (by omega) (by omega)]; omega
    rw [e]
    have hs2 := ended_size s
    obtain ⟨r, c2, e2, hr, k2⟩ := ih c1 (l ++ [s ++ (⟨#[10]⟩ : ByteArray)]) (j + 1) k1 (hl.app (TB.one (by omega) (by omega))) (by omega)
    exact ⟨r, c2, e2, hr.le (by omega) (by omega), k2⟩
theorem text_ok {n : Nat} {c : Cu} (h : Cok (n + 100) c) : ∃ (r : T) (c' : Cu), spec_l1Cur_text.f c = some (r, c') ∧ TB 9 9 r ∧ Cok n c' := by
  rw [spec_l1Cur_text.f_eq]
  obtain ⟨x, c1, e1, x0, x1, _, k1⟩ := pick_ok (n := n + 98) h 9
  have x1 := x1 (by omega)
  rw [e1, sB]
  simp only
  obtain ⟨r, c2, e2, hr, k2⟩ := text_l n x.toNat c1 [] 0 (k1.le (by omega)) ⟨by simp, fun s hs => by cases hs⟩ (by omega)
  rw [Int.toNat_of_nonneg x0] at e2
  exact ⟨r, c2, e2, hr.le (by omega) (by omega), k2⟩
def wholeB (l : T) : Bool := match l.getLast? with | none => true | some s => decide (endP s)
theorem sWhole (l : T) (h : l.length ≤ 1048576) (hs : 0 < l.length → 1 ≤ (l.getD (l.length - 1) em).size ∧ (l.getD (l.length - 1) em).size ≤ 1048576) : spec_l1Whole.f l = some (wholeB l) := by
  rw [spec_l1Whole.f_eq, wholeB]
  by_cases h0 : (l.length : Int) = 0
  · rw [bifT h0]
    have : l = [] := List.length_eq_zero_iff.1 (by omega)
    subst this; rfl
  · rw [bifF h0, dn1 (by omega) (by omega), bif2T (by omega) (by omega)]
    simp only [Int.toNat_natCast]
    have hm := hs (by omega)
    rw [sEnds _ hm.1 hm.2, sB]
    have e : l.getLast? = some (l.getD (l.length - 1) em) := by
      rw [List.getLast?_eq_getElem?, List.getD_eq_getElem?_getD, List.getElem?_eq_getElem (by omega)]; rfl
    rw [e]
def plainB (s : ByteArray) : ByteArray := if endP s then s.extract 0 (s.size - 1) else s
theorem sPlain (s : ByteArray) (h1 : 1 ≤ s.size) (h2 : s.size ≤ 1048576) : spec_l1Plain.f s = some (plainB s) := by
  rw [spec_l1Plain.f_eq, sEnds s h1 h2, sB, plainB, dn1 (by omega) (by omega)]
  by_cases h : endP s
  · rw [bifT h, if_pos h, bif2T (by omega) (by omega)]; rfl
  · rw [bifF h, if_neg h]
theorem plainB_size (s : ByteArray) : (plainB s).size ≤ s.size := by
  unfold plainB
  split
  · rw [ByteArray.size_extract]; omega
  · exact Nat.le_refl _
theorem em_beq (s : ByteArray) (h : s.size ≠ 0) : (s.toList == em.toList) = false := by
  rw [toList_beq]
  exact decide_eq_false fun e => h (by rw [e]; rfl)
theorem other_l (n m : Nat) (a : T) (hm : 9 ≤ m) (hm2 : m ≤ 1000) : ∀ (k : Nat) (c : Cu) (b : T) (j : Nat), Cok (n + 10 * k + 10) c → TB j m b → j + k ≤ 2000 → ∃ (r : T) (c' : Cu), spec_l1Cur_other.l6 c a b (k : Int) = some (r, c') ∧ TB (j + k) (m + 1) r ∧ Cok n c' := by
  intro k
  induction k with
  | zero =>
    intro c b j h hb hj
    have hb1 := hb.1
    have fin : ∀ (c : Cu) (b : T), Cok n c → TB j (m + 1) b → ∃ (r : T) (c' : Cu), spec_l1Cur_other.l43 c a b = some (r, c') ∧ TB (j + 0) (m + 1) r ∧ Cok n c' := fun c b h hb => ⟨b, c, spec_l1Cur_other.l43_eq c a b, hb, h⟩
    have hbm := hb.le (Nat.le_refl j) (Nat.le_succ m)
    rw [spec_l1Cur_other.l6_eq, bifF (by omega)]
    by_cases h0 : (b.length : Int) > 0
    · rw [bifT h0]
      obtain ⟨x, c1, e1, k1⟩ := one_ok (n := n) (h.le (by omega)) 6
      rw [e1, sB]
      cases x with
      | false => exact fin _ _ k1 hbm
      | true =>
        have hl := hb.2 _ (getD_mem (l := b) (i := b.length - 1) (by omega) em)
        simp only [cond_true]
        rw [dn1 (by omega) (by omega), bif2T (by omega) (by omega)]
        simp only [Int.toNat_natCast]
        rw [sPlain _ hl.1 (by omega), sB, bif2T (by omega) (by omega), sEnds _ hl.1 (by omega), sB]
        have hp := plainB_size (b.getD (b.length - 1) em)
        by_cases he : endP (b.getD (b.length - 1) em)
        · rw [bifNF he]
          by_cases hz : (plainB (b.getD (b.length - 1) em)).size = 0
          · have hz2 : plainB (b.getD (b.length - 1) em) = em := by
              apply bl_inj
              have : (bl (plainB (b.getD (b.length - 1) em))).length = 0 := hz
              rw [List.length_eq_zero_iff.1 this]; rfl
            rw [hz2, toList_beq, bifNF rfl]
            exact fin _ _ k1 hbm
          · rw [em_beq _ hz, Bool.not_false, cond_true, bif2T (by omega) (by omega)]
            exact fin _ _ k1 (hbm.set _ (by omega) (by omega))
        · rw [bifNT he, sz10, bifT (by omega), bif2T (by omega) (by omega)]
          have := ended_size (plainB (b.getD (b.length - 1) em))
          exact fin _ _ k1 (hbm.set _ (by omega) (by omega))
    · rw [bifF h0]; exact fin _ _ (h.le (by omega)) hbm
  | succ k ih =>
    intro c b j h hb hj
    have hb1 := hb.1
    have e : w64 (((k + 1 : Nat) : Int) - 1) = (k : Int) := by rw [w64_id (by omega) (by omega)]; omega
    have nx : ∀ (c : Cu) (b : T), Cok (n + 10 * k + 10) c → TB (j + 1) m b → ∃ (r : T) (c' : Cu), spec_l1Cur_other.l9 c a b ((k + 1 : Nat) : Int) = some (r, c') ∧ TB (j + (k + 1)) (m + 1) r ∧ Cok n c' := by
      intro c b h hb
      rw [spec_l1Cur_other.l9_eq, e]
      obtain ⟨r, c', q1, q2, q3⟩ := ih c b (j + 1) h hb (by omega)
      exact ⟨r, c', q1, q2.le (by omega) (Nat.le_refl _), q3⟩
    have hbj := hb.le (Nat.le_succ j) (Nat.le_refl m)
    rw [spec_l1Cur_other.l6_eq, bifT (by omega), up1 (by omega)]
    obtain ⟨x, c1, e1, x0, x1, _, k1⟩ := pick_ok (n := n + 10 * k + 18) (h.le (by omega)) (((b.length + 1 : Nat)) : Int)
    have x1 := x1 (by omega)
    rw [e1, sB]
    simp only
    obtain ⟨y, c2, e2, y0, y1, _, k2⟩ := pick_ok (n := n + 10 * k + 16) k1 3
    rw [e2, sB]
    simp only
    have k2b := k2.le (m := n + 10 * k + 10) (by omega)
    by_cases d0 : y = 0
    · rw [bifT d0]
      by_cases hx : x < (b.length : Int)
      · rw [bifT hx, bif2T x0 (by omega), ownT _ (by rw [List.length_take]; omega), sB, w64_id (by omega) (by omega), bif2T (by omega) (by omega), room16, bifT (by rw [List.length_take, List.length_drop]; omega)]
        refine nx _ _ k2b ⟨by rw [List.length_append, List.length_take, List.length_drop]; omega, fun s hs => ?_⟩
        rcases List.mem_append.1 hs with hs | hs
        · exact hb.2 s (List.mem_of_mem_take hs)
        · exact hb.2 s (List.mem_of_mem_drop hs)
      · rw [bifF hx]; exact nx _ _ k2b hbj
    rw [bifF d0]
    have ins : ∀ (c : Cu) (s : ByteArray), Cok (n + 10 * k + 10) c → s.size ≤ 8 → ∃ (r : T) (c' : Cu), spec_l1Cur_other.l9 c a (((b.take x.toNat) ++ [s ++ (⟨#[10]⟩ : ByteArray)]) ++ (b.drop x.toNat)) ((k + 1 : Nat) : Int) = some (r, c') ∧ TB (j + (k + 1)) (m + 1) r ∧ Cok n c' := by
      intro c s hc hs
      have hs2 := ended_size s
      refine nx _ _ hc ⟨by simp only [List.length_append, List.length_take, List.length_drop, List.length_singleton]; omega, fun t ht => ?_⟩
      rcases List.mem_append.1 ht with ht | ht
      · rcases List.mem_append.1 ht with ht | ht
        · exact hb.2 t (List.mem_of_mem_take ht)
        · rw [List.mem_singleton] at ht; subst ht; omega
      · exact hb.2 t (List.mem_of_mem_drop ht)
    by_cases d1 : y = 1
    · rw [bifT d1]
      by_cases hx : x < (b.length : Int)
      · have hl := hb.2 _ (getD_mem (l := b) (i := x.toNat) (by omega) em)
        rw [bifT hx, bif2T x0 hx, sEnds _ hl.1 (by omega), sB]
        by_cases he : endP (b.getD x.toNat em)
        · rw [bifT he]
          obtain ⟨s, c3, e3, hs, k3⟩ := line_ok (n := n + 10 * k + 10) (k2.le (by omega))
          have hs2 := ended_size s
          rw [e3, sB]
          simp only
          rw [sz10, bifT (by omega), bif2T x0 hx]
          exact nx _ _ k3 (hbj.set _ (by omega) (by omega))
        · rw [bifF he]; exact nx _ _ k2b hbj
      · rw [bifF hx]; exact nx _ _ k2b hbj
    rw [bifF d1]
    by_cases hx : x < (b.length : Int)
    · rw [bifT hx, bif2T x0 (by omega), ownT _ (by rw [List.length_take]; omega), sB]
      obtain ⟨s, c3, e3, hs, k3⟩ := line_ok (n := n + 10 * k + 10) (k2.le (by omega))
      rw [e3, sB]
      simp only
      rw [sz10, bifT (by omega), room16, bifT (by simp only [List.length_take, List.length_singleton]; omega), bif2T x0 (by omega), bifT (by simp only [List.length_append, List.length_take, List.length_drop, List.length_singleton]; omega)]
      exact ins _ s k3 hs
    · rw [bifF hx, sWhole b (by omega) (fun h => by have := hb.2 _ (getD_mem (l := b) (i := b.length - 1) (by omega) em); exact ⟨this.1, by omega⟩), sB]
      cases wholeB b with
      | false => exact nx _ _ k2b hbj
      | true =>
        rw [cond_true, bif2T x0 (by omega), ownT _ (by rw [List.length_take]; omega), sB]
        obtain ⟨s, c3, e3, hs, k3⟩ := line_ok (n := n + 10 * k + 10) (k2.le (by omega))
        rw [e3, sB]
        simp only
        rw [sz10, bifT (by omega), room16, bifT (by simp only [List.length_take, List.length_singleton]; omega), bif2T x0 (by omega), bifT (by simp only [List.length_append, List.length_take, List.length_drop, List.length_singleton]; omega)]
        exact ins _ s k3 hs
theorem other_ok {n : Nat} {c : Cu} (h : Cok (n + 100) c) (a : T) (i m : Nat) (ha : TB i m a) (hi : i ≤ 1000) (hm : 9 ≤ m) (hm2 : m ≤ 1000) : ∃ (r : T) (c' : Cu), spec_l1Cur_other.f c a = some (r, c') ∧ TB (i + 3) (m + 1) r ∧ Cok n c' := by
  have ha1 := ha.1
  rw [spec_l1Cur_other.f_eq, ownT a (by omega), sB]
  obtain ⟨x, c1, e1, x0, x1, _, k1⟩ := pick_ok (n := n + 98) h 4
  have x1 := x1 (by omega)
  rw [e1, sB]
  simp only
  obtain ⟨r, c2, e2, hr, k2⟩ := other_l n m a hm hm2 x.toNat c1 a i (k1.le (by omega)) ha (by omega)
  rw [Int.toNat_of_nonneg x0] at e2
  exact ⟨r, c2, e2, hr.le (by omega) (Nat.le_refl _), k2⟩
theorem sLeast (a b : Int) : spec_l1Least.f a b = some (min a b) := by
  rw [spec_l1Least.f_eq]
  by_cases h : a < b
  · rw [bifT h]; congr 1; omega
  · rw [bifF h]; congr 1; omega
/-- a hunk that is drawn for so many lines -/
def DH (n : Nat) (x : YHunk) : Prop := 0 ≤ x.1 ∧ x.1 ≤ (n : Int) ∧ 0 ≤ x.2.1 ∧ x.2.1 ≤ 3 ∧ x.1 + x.2.1 ≤ (n : Int) ∧ TB 2 9 x.2.2
theorem hunks_l (l : T) (hl : l.length ≤ 2000) (hs : 0 < l.length → 1 ≤ (l.getD (l.length - 1) em).size ∧ (l.getD (l.length - 1) em).size ≤ 1048576) (n : Nat) : ∀ (d : Nat) (c : Cu) (out : YHunkS) (t : Nat), l.length + 1 - t ≤ d → Cok (n + 10 * d) c → out.length ≤ 6 → (∀ x ∈ out, DH l.length x) → t ≤ 100000 →
    ∃ (r : YHunkS) (c' : Cu), spec_l1Cur_hunks.l6 c l out (t : Int) = some (r, c') ∧ r.length ≤ 6 ∧ (∀ x ∈ r, DH l.length x) ∧ Cok n c' := by
  intro d
  induction d with
  | zero =>
    intro c out t hd h ho hx ht
    rw [spec_l1Cur_hunks.l6_eq, bifF (by omega)]
    exact ⟨out, c, rfl, ho, hx, h.le (by omega)⟩
  | succ d ih =>
    intro c out t hd h ho hx ht
    rw [spec_l1Cur_hunks.l6_eq]
    by_cases h1 : (t : Int) ≤ (l.length : Int)
    case neg => rw [bifF h1]; exact ⟨out, c, rfl, ho, hx, h.le (by omega)⟩
    rw [bifT h1]
    by_cases h2 : (out.length : Int) < 6
    case neg => rw [bifF h2]; exact ⟨out, c, rfl, ho, hx, h.le (by omega)⟩
    rw [bifT h2, spec_l1Cur_hunks.l9_eq, w64_id (by omega) (by omega), sLeast, sB, w64_id (by omega) (by omega)]
    obtain ⟨y, c1, e1, y0, y1, _, k1⟩ := pick_ok (n := n + 10 * d + 8) (h.le (by omega)) (min 3 ((l.length : Int) - t) + 1)
    have y1 := y1 (by omega)
    rw [e1, sB]
    simp only
    obtain ⟨z, c2, e2, z0, z1, _, k2⟩ := pick_ok (n := n + 10 * d + 6) k1 3
    have z1 := z1 (by omega)
    rw [e2, sB]
    simp only
    -- the next round
    have nx : ∀ (c : Cu) (out' : YHunkS) (e : Int), Cok (n + 10 * d) c → out'.length ≤ 6 → (∀ x ∈ out', DH l.length x) → (t : Int) + 1 ≤ e → e ≤ (t : Int) + 100 → ∃ (r : YHunkS) (c' : Cu), spec_l1Cur_hunks.l6 c l out' e = some (r, c') ∧ r.length ≤ 6 ∧ (∀ x ∈ r, DH l.length x) ∧ Cok n c' := by
      intro c out' e h1 h2 h3 h4 h5
      obtain ⟨r, c', q⟩ := ih c out' e.toNat (by omega) h1 h2 h3 (by omega)
      rw [Int.toNat_of_nonneg (by omega)] at q
      exact ⟨r, c', q⟩
    -- the lines
    have ln : ∀ (k : Nat) (c : Cu) (x : T), Cok (n + 10 * d + 2 * k + 2) c → x.length + k ≤ 2 → TB 2 9 x → ∃ (r : YHunkS) (c' : Cu), spec_l1Cur_hunks.l12 c l out (t : Int) ((t : Int), y, x) (k : Int) = some (r, c') ∧ r.length ≤ 6 ∧ (∀ x ∈ r, DH l.length x) ∧ Cok n c' := by
      intro k
      induction k with
      | zero =>
        intro c x h hk hxx
        have hxl := hxx.1
        have hD : DH l.length ((t : Int), y, x) := ⟨by show 0 ≤ (t : Int); omega, by show (t : Int) ≤ _; omega, y0, by show y ≤ 3; omega, by show (t : Int) + y ≤ _; omega, hxx⟩
        have hout : (out ++ [((t : Int), y, x)]).length ≤ 6 ∧ ∀ x' ∈ out ++ [((t : Int), y, x)], DH l.length x' := by
          refine ⟨by rw [List.length_append, List.length_singleton]; omega, fun x' hx' => ?_⟩
          rcases List.mem_append.1 hx' with hx' | hx'
          · exact hx x' hx'
          · rw [List.mem_singleton] at hx'; subst hx'; exact hD
        have go : ∀ (out' : YHunkS), out'.length ≤ 6 → (∀ x ∈ out', DH l.length x) → ∃ (r : YHunkS) (c' : Cu), ((spec_l1Cur_pick.f c 3).bind fun y1 => spec_l1Cur_hunks.l6 y1.2 l out' (w64 ((t : Int) + (w64 ((w64 (y + 1)) + y1.1))))) = some (r, c') ∧ r.length ≤ 6 ∧ (∀ x ∈ r, DH l.length x) ∧ Cok n c' := by
          intro out' g1 g2
          obtain ⟨u, c3, e3, u0, u1, _, k3⟩ := pick_ok (n := n + 10 * d) (h.le (by omega)) 3
          have u1 := u1 (by omega)
          rw [e3, sB]
          simp only
          rw [w64_id (x := y + 1) (by omega) (by omega), w64_id (x := y + 1 + u) (by omega) (by omega), w64_id (by omega) (by omega)]
          exact nx c3 out' _ k3 g1 g2 (by omega) (by omega)
        rw [spec_l1Cur_hunks.l12_eq, bifF (by omega), room40]
        simp only
        rw [w64_id (x := y + (x.length : Int)) (by omega) (by omega)]
        by_cases d1 : y + (x.length : Int) > 0
        case neg => rw [bifF d1]; exact go out ho hx
        rw [bifT d1, w64_id (x := (t : Int) + y) (by omega) (by omega)]
        by_cases d2 : (t : Int) + y < (l.length : Int)
        · rw [bifT d2, bifT (by simp only [List.length_singleton]; omega)]; exact go _ hout.1 hout.2
        · rw [bifF d2, sWhole l (by omega) hs, sB]
          cases wholeB l with
          | true => rw [cond_true, bifT (by simp only [List.length_singleton]; omega)]; exact go _ hout.1 hout.2
          | false =>
            rw [cond_false]
            by_cases d3 : y > 0
            · rw [bifT d3, bifT (by simp only [List.length_singleton]; omega)]; exact go _ hout.1 hout.2
            · rw [bifF d3]; exact go out ho hx
      | succ k ihk =>
        intro c x h hk hxx
        have hxl := hxx.1
        rw [spec_l1Cur_hunks.l12_eq, bifT (by omega)]
        obtain ⟨s, c3, e3, h3, k3⟩ := line_ok (n := n + 10 * d + 2 * k + 2) (h.le (by omega))
        rw [e3, sB]
        simp only
        have e : w64 (((k + 1 : Nat) : Int) - 1) = (k : Int) := by rw [w64_id (by omega) (by omega)]; omega
        have hs2 := ended_size s
        rw [sz10, bifT (by omega), room16, bifT (by simp only [List.length_singleton]; omega), e]
        refine ihk c3 (x ++ [s ++ (⟨#[10]⟩ : ByteArray)]) k3 (by rw [List.length_append, List.length_singleton]; omega) ⟨by rw [List.length_append, List.length_singleton]; omega, fun q hq => ?_⟩
        rcases List.mem_append.1 hq with hq | hq
        · exact hxx.2 q hq
        · rw [List.mem_singleton] at hq; subst hq; omega
    obtain ⟨r, c', q⟩ := ln z.toNat c2 [] (k2.le (by omega)) (by simp only [List.length_nil]; omega) ⟨by simp, fun s hs => by cases hs⟩
    rw [Int.toNat_of_nonneg z0] at q
    exact ⟨r, c', q⟩
theorem hunks_ok {n : Nat} {c : Cu} (h : Cok (n + 30000) c) (l : T) (hl : l.length ≤ 2000) (hs : 0 < l.length → 1 ≤ (l.getD (l.length - 1) em).size ∧ (l.getD (l.length - 1) em).size ≤ 1048576) :
    ∃ (r : YHunkS) (c' : Cu), spec_l1Cur_hunks.f c l = some (r, c') ∧ r.length ≤ 6 ∧ (∀ x ∈ r, DH l.length x) ∧ Cok n c' := by
  rw [spec_l1Cur_hunks.f_eq]
  obtain ⟨x, c1, e1, x0, x1, _, k1⟩ := pick_ok (n := n + 29998) (h.le (by omega)) 3
  have x1 := x1 (by omega)
  rw [e1, sB]
  simp only
  obtain ⟨r, c', q⟩ := hunks_l l hl hs n (l.length + 1) c1 [] x.toNat (by omega) (k1.le (by omega)) (by simp) (fun x hx => by cases hx) (by omega)
  rw [Int.toNat_of_nonneg x0] at q
  exact ⟨r, c', q⟩
theorem TB.last {n m : Nat} {l : T} (h : TB n m l) (hm : m ≤ 1048576) : 0 < l.length → 1 ≤ (l.getD (l.length - 1) em).size ∧ (l.getD (l.length - 1) em).size ≤ 1048576 := fun h0 => by
  have := h.2 _ (getD_mem (l := l) (i := l.length - 1) (by omega) em); exact ⟨this.1, by omega⟩
theorem among_ok {n : Nat} {c : Cu} (h : Cok (n + 2) c) (l : List Int) (hl : 1 ≤ l.length) : ∃ (s : Int) (c' : Cu), spec_l1Cur_among.f c l = some (s, c') ∧ s ∈ l ∧ Cok n c' := by
  obtain ⟨x, c', e, x0, x1, _, k⟩ := pick_ok h (l.length : Int)
  have x1 := x1 (by omega)
  rw [spec_l1Cur_among.f_eq, e, sB]
  simp only
  rw [bif2T x0 x1]
  exact ⟨_, _, rfl, getD_mem (by omega) _, k⟩
/-- any hunk that is drawn -/
def AH (x : YHunk) : Prop := -1 ≤ x.1 ∧ x.1 ≤ 2000 ∧ 0 ≤ x.2.1 ∧ x.2.1 ≤ 6 ∧ x.2.2.length ≤ 3 ∧ ∀ s ∈ x.2.2, s.size ≤ 9
theorem DH.any {n : Nat} {x : YHunk} (h : DH n x) (hn : n ≤ 2000) : AH x := by
  obtain ⟨h1, h2, h3, h4, h5, h6, h7⟩ := h
  exact ⟨by omega, by omega, by omega, by omega, by omega, fun s hs => (h7 s hs).2⟩
/-- one hunk stands within -/
def okP (many : Int) (x : Hk) : Prop := 0 ≤ x.1 ∧ 0 ≤ x.2.1 ∧ x.1 + x.2.1 ≤ many
instance (many : Int) (x : Hk) : Decidable (okP many x) := by unfold okP; exact inferInstance
def oneB (many pe : Int) (x : Hk) : Bool := decide (okP many x ∧ ¬ (x.2.1 = 0 ∧ x.2.2.length = 0) ∧ x.2.2.length ≤ 40 ∧ pe < x.1) && allLines x.2.2
def hunksB (many : Int) : Int → List Hk → Bool
  | _, [] => true
  | pe, x :: r => oneB many pe x && hunksB many (x.1 + x.2.1) r
def peOf (h : List Hk) (i : Nat) : Int := if i = 0 then -1 else (h.getD (i - 1) hz).1 + (h.getD (i - 1) hz).2.1
/-- of a size that is let through -/
def HkSm (g : List Hk) : Prop := g.length ≤ 1048576 ∧ ∀ h ∈ g, Sm h.2.2
theorem pe_succ (h : List Hk) (i : Nat) : peOf h (i + 1) = (h.getD i hz).1 + (h.getD i hz).2.1 := by unfold peOf; rw [if_neg (by omega)]; rfl
theorem hB_step (many : Int) (h : List Hk) {i : Nat} (hi : i < h.length) : hunksB many (peOf h i) (h.drop i) = (oneB many (peOf h i) (h.getD i hz) && hunksB many (peOf h (i + 1)) (h.drop (i + 1))) := by
  rw [drop_at hi hz, pe_succ]; rfl
theorem sHunks (many : Int) (h : List Hk) (h0 : 0 ≤ many) (h1 : many ≤ 1048576) (hs : HkSm h) : spec_l2Hunks.f many h = some (hunksB many (-1) h && (decide (h.length ≤ 20) && decide (many ≤ 40))) := by
  have hL := hs.1
  have lines : ∀ (l : T), Sm l → ∀ (i : Nat) (R : Bool), i < h.length → spec_l2Hunks.l4 many h h (h.length : Int) ((i + 1 : Nat) : Int) = some R → ∀ k, k ≤ l.length → spec_l2Hunks.l14 many h h (h.length : Int) (i : Int) l (l.length : Int) (k : Int) = some (allLines (l.drop k) && R) := by
    intro l hl i R hi hR
    have hl1 := hl.1
    apply downTo
    · rw [spec_l2Hunks.l14_eq, bifF (by omega), up1 (by omega), hR, List.drop_eq_nil_of_le (by omega)]; rfl
    · intro k hk ih
      rw [spec_l2Hunks.l14_eq, bifT (by omega), bif2T (by omega) (by omega), up1 (i := k) (by omega)]
      simp only [Int.toNat_natCast]
      rw [sLine _ (hl.2 _ (getD_mem hk em)), sB, ih, drop_at hk em, allLines_cons]
      by_cases hp : lineP (l.getD k em)
      · rw [bifNF hp, decide_eq_true hp, Bool.true_and]
      · rw [bifNT hp, decide_eq_false hp, Bool.false_and, Bool.false_and]
  have key : ∀ i, i ≤ h.length → (0 < i → okP many (h.getD (i - 1) hz)) → spec_l2Hunks.l4 many h h (h.length : Int) (i : Int) = some (hunksB many (peOf h i) (h.drop i) && (decide (h.length ≤ 20) && decide (many ≤ 40))) := by
    apply downTo
    · intro _
      rw [spec_l2Hunks.l4_eq, bifF (by omega), List.drop_eq_nil_of_le (by omega)]
      show _ = some (true && _)
      rw [Bool.true_and]
      by_cases hl : h.length ≤ 20
      · rw [bifT (by omega), sIn, sB, decide_eq_true hl, Bool.true_and]
        congr 1; rw [decide_eq_decide]; omega
      · rw [bifF (by omega), decide_eq_false hl]; rfl
    · intro i hi ih hprev
      have hsm := hs.2 _ (getD_mem hi hz)
      have hsl := hsm.1
      rw [hB_step many h hi, spec_l2Hunks.l4_eq, bifT (by omega), bif2T (by omega) (by omega)]
      obtain ⟨⟨x1, x2, x3⟩, hx⟩ : ∃ x : Hk, h.getD i (0, 0, []) = x := ⟨_, rfl⟩
      simp only [Int.toNat_natCast, hx]
      rw [show h.getD i hz = (x1, x2, x3) from hx] at hsm hsl
      simp only at hsm hsl
      have fl : ∀ {P : Prop}, ¬ (okP many (x1, x2, x3) ∧ ¬ (x2 = 0 ∧ x3.length = 0) ∧ x3.length ≤ 40 ∧ peOf h i < x1) → some false = some (oneB many (peOf h i) (x1, x2, x3) && hunksB many (peOf h (i + 1)) (h.drop (i + 1)) && (decide (h.length ≤ 20) && decide (many ≤ 40))) := by
        intro P hn
        unfold oneB
        rw [decide_eq_false hn, Bool.false_and, Bool.false_and, Bool.false_and]
      by_cases c1 : x1 < 0
      · rw [bifT c1]; exact fl (P := True) (by unfold okP; simp only; omega)
      rw [bifF c1]
      by_cases c2 : x2 < 0
      · rw [bifT c2]; exact fl (P := True) (by unfold okP; simp only; omega)
      rw [bifF c2]
      by_cases c3 : x2 > many
      · rw [bifT c3]; exact fl (P := True) (by unfold okP; simp only; omega)
      rw [bifF c3, w64_id (x := many - x2) (by omega) (by omega)]
      by_cases c4 : x1 > many - x2
      · rw [bifT c4]; exact fl (P := True) (by unfold okP; simp only; omega)
      rw [bifF c4, w64_id (x := x2 + (x3.length : Int)) (by omega) (by omega)]
      by_cases c5 : x2 + (x3.length : Int) = 0
      · rw [bifT c5]; exact fl (P := True) (by omega)
      rw [bifF c5]
      by_cases c6 : (x3.length : Int) > 40
      · rw [bifT c6]; exact fl (P := True) (by omega)
      rw [bifF c6]
      have hok : okP many (x1, x2, x3) := by unfold okP; simp only; omega
      have nxt := ih (fun _ => by rw [Nat.add_sub_cancel, show h.getD i hz = (x1, x2, x3) from hx]; exact hok)
      have go : peOf h i < x1 → spec_l2Hunks.l13 many h (x1, x2, x3) h (h.length : Int) (i : Int) = some (oneB many (peOf h i) (x1, x2, x3) && hunksB many (peOf h (i + 1)) (h.drop (i + 1)) && (decide (h.length ≤ 20) && decide (many ≤ 40))) := by
        intro hp
        rw [spec_l2Hunks.l13_eq]
        have := lines x3 hsm i _ hi nxt 0 (by omega)
        rw [List.drop_zero] at this
        refine this.trans ?_
        unfold oneB
        rw [decide_eq_true (show okP many (x1, x2, x3) ∧ ¬ (x2 = 0 ∧ x3.length = 0) ∧ x3.length ≤ 40 ∧ peOf h i < x1 from ⟨hok, by omega, by omega, hp⟩), Bool.true_and, Bool.and_assoc]
      by_cases c7 : (i : Int) > 0
      · have hpr := hprev (by omega)
        unfold okP at hpr
        have hd : w64 ((i : Int) - 1) = ((i - 1 : Nat) : Int) := dn1 (by omega) (by omega)
        have hpe : peOf h i = (h.getD (i - 1) hz).1 + (h.getD (i - 1) hz).2.1 := by unfold peOf; rw [if_neg (by omega)]
        have hw9 : w64 ((h.getD (i - 1) ((0, 0, []) : Hk)).1 + (h.getD (i - 1) ((0, 0, []) : Hk)).2.1) = peOf h i := by
          show w64 ((h.getD (i - 1) hz).1 + (h.getD (i - 1) hz).2.1) = _
          rw [hpe]; exact w64_id (by omega) (by omega)
        simp only [hd, Int.toNat_natCast, hw9]
        rw [bifT c7, bif2T (by omega) (by omega), bif2T (by omega) (by omega)]
        by_cases c8 : x1 ≤ peOf h i
        · rw [bifT c8]; exact fl (P := True) (by omega)
        · rw [bifF c8]; exact go (by omega)
      · rw [bifF c7]
        have : i = 0 := by omega
        exact go (by unfold peOf; rw [if_pos this]; omega)
  rw [spec_l2Hunks.f_eq]
  exact key 0 (by omega) (fun h => absurd h (Nat.lt_irrefl 0))
theorem iHunks (many : Int) (h : List Hk) (h0 : 0 ≤ many) (h1 : many ≤ 1048576) (hs : HkSm h) : impl_goodHunks.f many h = some (hunksB many (-1) h && (decide (h.length ≤ 20) && decide (many ≤ 40))) := by
  have hL := hs.1
  have key : ∀ i, i ≤ h.length → (0 < i → okP many (h.getD (i - 1) hz)) → impl_goodHunks.l8 many h h (h.length : Int) (i : Int) = some (hunksB many (peOf h i) (h.drop i)) := by
    apply downTo
    · intro _
      rw [impl_goodHunks.l8_eq, bifF (by omega), List.drop_eq_nil_of_le (by omega)]; rfl
    · intro i hi ih hprev
      have hsm := hs.2 _ (getD_mem hi hz)
      have hsl := hsm.1
      rw [hB_step many h hi, impl_goodHunks.l8_eq, bifT (by omega), bif2T (by omega) (by omega)]
      obtain ⟨⟨x1, x2, x3⟩, hx⟩ : ∃ x : Hk, h.getD i (0, 0, []) = x := ⟨_, rfl⟩
      simp only [Int.toNat_natCast, hx]
      rw [show h.getD i hz = (x1, x2, x3) from hx] at hsm hsl
      simp only at hsm hsl
      have fl : ∀ {P : Prop}, ¬ (okP many (x1, x2, x3) ∧ ¬ (x2 = 0 ∧ x3.length = 0) ∧ x3.length ≤ 40 ∧ peOf h i < x1) → some false = some (oneB many (peOf h i) (x1, x2, x3) && hunksB many (peOf h (i + 1)) (h.drop (i + 1))) := by
        intro P hn
        unfold oneB
        rw [decide_eq_false hn, Bool.false_and, Bool.false_and]
      rw [iIn, sB]
      by_cases c1 : 0 ≤ x1 ∧ x1 ≤ many
      case neg => rw [bifNT c1]; exact fl (P := True) (by unfold okP; simp only; omega)
      rw [bifNF c1, w64_id (x := many - x1) (by omega) (by omega), iIn, sB]
      by_cases c2 : 0 ≤ x2 ∧ x2 ≤ many - x1
      case neg => rw [bifNT c2]; exact fl (P := True) (by unfold okP; simp only; omega)
      rw [bifNF c2, iAre _ hsm, sB]
      have hok : okP many (x1, x2, x3) := by unfold okP; simp only; omega
      have nxt := ih (fun _ => by rw [Nat.add_sub_cancel, show h.getD i hz = (x1, x2, x3) from hx]; exact hok)
      by_cases c6 : x3.length ≤ 40
      case neg => rw [decide_eq_false c6, Bool.false_and, notF]; exact fl (P := True) (by omega)
      rw [decide_eq_true c6, Bool.true_and]
      cases hal : allLines x3 with
      | false => rw [notF]; unfold oneB; rw [hal, Bool.and_false, Bool.false_and]
      | true =>
        rw [notT]
        have one : ∀ (hp : ¬ (x2 = 0 ∧ x3.length = 0)), impl_goodHunks.l17 many h (i : Int) (x1, x2, x3) h (h.length : Int) (i : Int) = some (oneB many (peOf h i) (x1, x2, x3) && hunksB many (peOf h (i + 1)) (h.drop (i + 1))) := by
          intro hp
          rw [impl_goodHunks.l17_eq]
          by_cases c7 : (i : Int) > 0
          · have hpr := hprev (by omega)
            unfold okP at hpr
            have hd : w64 ((i : Int) - 1) = ((i - 1 : Nat) : Int) := dn1 (by omega) (by omega)
            have hpe : peOf h i = (h.getD (i - 1) hz).1 + (h.getD (i - 1) hz).2.1 := by unfold peOf; rw [if_neg (by omega)]
            have hw9 : w64 ((h.getD (i - 1) ((0, 0, []) : Hk)).1 + (h.getD (i - 1) ((0, 0, []) : Hk)).2.1) = peOf h i := by
              show w64 ((h.getD (i - 1) hz).1 + (h.getD (i - 1) hz).2.1) = _
              rw [hpe]; exact w64_id (by omega) (by omega)
            simp only [hd, Int.toNat_natCast, hw9]
            rw [bifT c7, bif2T (by omega) (by omega), bif2T (by omega) (by omega)]
            by_cases c8 : x1 ≤ peOf h i
            · rw [bifT c8]; exact fl (P := True) (by omega)
            · rw [bifF c8, up1 (by omega), nxt]
              unfold oneB
              rw [hal, decide_eq_true (show okP many (x1, x2, x3) ∧ ¬ (x2 = 0 ∧ x3.length = 0) ∧ x3.length ≤ 40 ∧ peOf h i < x1 from ⟨hok, hp, c6, by omega⟩)]; rfl
          · have hi0 : i = 0 := by omega
            have hp2 : peOf h i < x1 := by unfold peOf; rw [if_pos hi0]; omega
            rw [bifF c7, up1 (by omega), nxt]
            unfold oneB
            rw [hal, decide_eq_true (show okP many (x1, x2, x3) ∧ ¬ (x2 = 0 ∧ x3.length = 0) ∧ x3.length ≤ 40 ∧ peOf h i < x1 from ⟨hok, hp, c6, hp2⟩)]; rfl
        by_cases c9 : x2 = 0
        · rw [bifT c9]
          by_cases c10 : (x3.length : Int) = 0
          · rw [bifT c10]; exact fl (P := True) (by omega)
          · rw [bifF c10]; exact one (by omega)
        · rw [bifF c9]; exact one (by omega)
  rw [impl_goodHunks.f_eq, iIn, sB]
  by_cases hm : 0 ≤ many ∧ many ≤ 40
  · rw [bifNF hm, decide_eq_true (show many ≤ 40 from hm.2), Bool.and_true]
    by_cases hl : (h.length : Int) > 20
    · rw [bifT hl, decide_eq_false (show ¬ h.length ≤ 20 by omega), Bool.and_false]
    · rw [bifF hl, decide_eq_true (show h.length ≤ 20 by omega), Bool.and_true, impl_goodHunks.l7_eq]
      exact key 0 (by omega) (fun h => absurd h (Nat.lt_irrefl 0))
  · rw [bifNT hm, decide_eq_false (show ¬ many ≤ 40 by omega), Bool.and_false, Bool.and_false]
/-- what stands behind hunks, from a place on -/
def pat (l : T) : Nat → List Hk → T
  | k, [] => l.drop k
  | k, x :: r => ((l.take x.1.toNat).drop k ++ x.2.2) ++ pat l (x.1 + x.2.1).toNat r
/-- hunks are good for so many lines -/
def hunksG (many : Int) (h : List Hk) : Bool := hunksB many (-1) h && (decide (h.length ≤ 20) && decide (many ≤ 40))
def patchB (l : T) (h : List Hk) : T × Bool :=
  if goodB l = true ∧ hunksG (l.length : Int) h = true ∧ goodB (pat l 0 h) = true then (pat l 0 h, true) else ([], false)
theorem oneB_in {many pe : Int} {x : Hk} (h : oneB many pe x = true) : okP many x ∧ ¬ (x.2.1 = 0 ∧ x.2.2.length = 0) ∧ x.2.2.length ≤ 40 ∧ pe < x.1 ∧ allLines x.2.2 = true := by
  unfold oneB at h
  simp only [Bool.and_eq_true, decide_eq_true_eq] at h
  exact ⟨h.1.1, h.1.2.1, h.1.2.2.1, h.1.2.2.2, h.2⟩
theorem hunksB_cons {many pe : Int} {x : Hk} {r : List Hk} (h : hunksB many pe (x :: r) = true) : oneB many pe x = true ∧ hunksB many (x.1 + x.2.1) r = true := by
  have : (oneB many pe x && hunksB many (x.1 + x.2.1) r) = true := h
  rwa [Bool.and_eq_true] at this
theorem pat_len (l : T) (hl : l.length ≤ 40) : ∀ (r : List Hk) (k : Nat) (pe : Int), hunksB (l.length : Int) pe r = true → (pat l k r).length ≤ 40 + 80 * r.length
  | [], k, pe, _ => by rw [pat, List.length_drop]; simp only [List.length_nil]; omega
  | x :: r, k, pe, h => by
    obtain ⟨h1, h2⟩ := hunksB_cons h
    have h3 := oneB_in h1
    have := pat_len l hl r (x.1 + x.2.1).toNat _ h2
    rw [pat]
    simp only [List.length_append, List.length_drop, List.length_take, List.length_cons]
    omega
theorem pat_mem (l : T) : ∀ (r : List Hk) (k : Nat), ∀ s ∈ pat l k r, s ∈ l ∨ ∃ x ∈ r, s ∈ x.2.2
  | [], k, s, h => .inl (List.mem_of_mem_drop h)
  | x :: r, k, s, h => by
    rw [pat] at h
    rcases List.mem_append.1 h with h | h
    · rcases List.mem_append.1 h with h | h
      · exact .inl (List.mem_of_mem_take (List.mem_of_mem_drop h))
      · exact .inr ⟨x, by simp, h⟩
    · rcases pat_mem l r _ s h with h | ⟨y, hy, h⟩
      · exact .inl h
      · exact .inr ⟨y, by simp [hy], h⟩
theorem sPat (l : T) (hl : l.length ≤ 40) (h : List Hk) (hh : hunksB (l.length : Int) (-1) h = true) (h20 : h.length ≤ 20) : spec_l2Patch.f l h = some (pat l 0 h) := by
  have key : ∀ (rest pre : List Hk) (out : T) (k : Nat) (pe : Int), h = pre ++ rest → hunksB (l.length : Int) pe rest = true → (pe = -1 ∧ k = 0 ∨ pe = (k : Int)) → k ≤ l.length → out.length ≤ 80 * pre.length →
      spec_l2Patch.l8 l out (k : Int) h (h.length : Int) (pre.length : Int) = some (out ++ pat l k rest) := by
    intro rest
    induction rest with
    | nil =>
      intro pre out k pe hf hb hk hkl ho
      have hpl : h.length = pre.length := by rw [hf]; simp
      rw [spec_l2Patch.l8_eq, bifF (by omega), bif2T (by omega) (by omega), room16]
      simp only [Int.toNat_natCast]
      rw [bifT (by rw [List.length_drop]; omega)]; rfl
    | cons x r ih =>
      intro pre out k pe hf hb hk hkl ho
      obtain ⟨h1, h2⟩ := hunksB_cons hb
      obtain ⟨⟨q1, q2, q3⟩, q4, q5, q6, _⟩ := oneB_in h1
      have hpl : h.length = pre.length + (r.length + 1) := by rw [hf]; simp
      have hg : h.getD pre.length (0, 0, []) = x := by rw [hf]; exact getD_mid pre x r _
      rw [spec_l2Patch.l8_eq, bifT (by omega), bif2T (by omega) (by omega), up1 (by omega), room16]
      simp only [Int.toNat_natCast, hg]
      rw [bif3T (by omega) (by omega) (by omega), bifT (by simp only [List.length_drop, List.length_take]; omega), bifT (by simp only [List.length_append, List.length_drop, List.length_take]; omega), w64_id (by omega) (by omega)]
      have := ih (pre ++ [x]) ((out ++ (l.take x.1.toNat).drop k) ++ x.2.2) (x.1 + x.2.1).toNat (x.1 + x.2.1) (by rw [hf]; simp) h2 (.inr (by omega)) (by omega) (by simp only [List.length_append, List.length_drop, List.length_take, List.length_singleton]; omega)
      rw [Int.toNat_of_nonneg (by omega), List.length_append, List.length_singleton] at this
      rw [this, pat]
      simp only [List.append_assoc]
  rw [spec_l2Patch.f_eq]
  exact key h [] [] 0 (-1) rfl hh (.inl ⟨rfl, rfl⟩) (by omega) (by simp)
theorem iPat (l : T) (hl : l.length ≤ 40) (h : List Hk) (hh : hunksB (l.length : Int) (-1) h = true) (h20 : h.length ≤ 20) : impl_patched.f l h = some (pat l 0 h) := by
  have key : ∀ (rest pre : List Hk) (out : T) (k : Nat) (pe : Int), h = pre ++ rest → hunksB (l.length : Int) pe rest = true → (pe = -1 ∧ k = 0 ∨ pe = (k : Int)) → k ≤ l.length → out.length ≤ 80 * pre.length →
      impl_patched.l6 l out (k : Int) h (h.length : Int) (pre.length : Int) = some (out ++ pat l k rest) := by
    intro rest
    induction rest with
    | nil =>
      intro pre out k pe hf hb hk hkl ho
      have hpl : h.length = pre.length := by rw [hf]; simp
      rw [impl_patched.l6_eq, bifF (by omega), bif2T (by omega) (by omega), room16]
      simp only [Int.toNat_natCast]
      rw [bifT (by rw [List.length_drop]; omega)]; rfl
    | cons x r ih =>
      intro pre out k pe hf hb hk hkl ho
      obtain ⟨h1, h2⟩ := hunksB_cons hb
      obtain ⟨⟨q1, q2, q3⟩, q4, q5, q6, _⟩ := oneB_in h1
      have hpl : h.length = pre.length + (r.length + 1) := by rw [hf]; simp
      have hg : h.getD pre.length (0, 0, []) = x := by rw [hf]; exact getD_mid pre x r _
      rw [impl_patched.l6_eq, bifT (by omega), bif2T (by omega) (by omega), up1 (by omega), room16]
      simp only [Int.toNat_natCast, hg]
      rw [bif3T (by omega) (by omega) (by omega), bifT (by simp only [List.length_drop, List.length_take]; omega), bifT (by simp only [List.length_append, List.length_drop, List.length_take]; omega), w64_id (by omega) (by omega)]
      have := ih (pre ++ [x]) ((out ++ (l.take x.1.toNat).drop k) ++ x.2.2) (x.1 + x.2.1).toNat (x.1 + x.2.1) (by rw [hf]; simp) h2 (.inr (by omega)) (by omega) (by simp only [List.length_append, List.length_drop, List.length_take, List.length_singleton]; omega)
      rw [Int.toNat_of_nonneg (by omega), List.length_append, List.length_singleton] at this
      rw [this, pat]
      simp only [List.append_assoc]
  rw [impl_patched.f_eq]
  exact key h [] [] 0 (-1) rfl hh (.inl ⟨rfl, rfl⟩) (by omega) (by simp)
theorem pat_sm {l : T} {h : List Hk} (hl : Sm l) (hh : HkSm h) (hg : goodB l = true) (hb : hunksG (l.length : Int) h = true) : Sm (pat l 0 h) := by
  unfold hunksG at hb
  simp only [Bool.and_eq_true, decide_eq_true_eq] at hb
  have h40 := good_len hg
  refine ⟨by have := pat_len l h40 h 0 (-1) hb.1; omega, fun s hs => ?_⟩
  rcases pat_mem l h 0 s hs with hs | ⟨x, hx, hs⟩
  · exact hl.2 s hs
  · exact (hh.2 x hx).2 s hs
theorem sPatch (l : T) (h : List Hk) (hl : Sm l) (hh : HkSm h) : spec_Patch.f l h = some (patchB l h) := by
  have hL := hl.1
  rw [spec_Patch.f_eq, spec_l2Asked.f_eq, sGood l hl, sB]
  unfold patchB
  cases g1 : goodB l with
  | false => rfl
  | true =>
    rw [cond_true, sHunks _ h (by omega) (by omega) hh, sB]
    show ((some (hunksG (l.length : Int) h)).bind _) = _
    rw [sB]
    cases g2 : hunksG (l.length : Int) h with
    | false => rfl
    | true =>
      have hb := g2
      unfold hunksG at hb
      simp only [Bool.and_eq_true, decide_eq_true_eq] at hb
      rw [notT, sPat l (good_len g1) h hb.1 hb.2.1, sB, sGood _ (pat_sm hl hh g1 g2), sB]
      cases g3 : goodB (pat l 0 h) with
      | false => rfl
      | true => rfl
theorem iPatch (l : T) (h : List Hk) (hl : Sm l) (hh : HkSm h) : impl_Patch.f l h = some (patchB l h) := by
  have hL := hl.1
  rw [impl_Patch.f_eq, iGood l hl, sB]
  unfold patchB
  cases g1 : goodB l with
  | false => rfl
  | true =>
    rw [notT, iHunks _ h (by omega) (by omega) hh, sB]
    show (bif !(hunksG (l.length : Int) h) then _ else _) = _
    cases g2 : hunksG (l.length : Int) h with
    | false => rfl
    | true =>
      have hb := g2
      unfold hunksG at hb
      simp only [Bool.and_eq_true, decide_eq_true_eq] at hb
      rw [notT, impl_Patch.l7_eq, iPat l (good_len g1) h hb.1 hb.2.1, sB, iGood _ (pat_sm hl hh g1 g2), sB]
      cases g3 : goodB (pat l 0 h) with
      | false => rfl
      | true => rfl
theorem patchB_ok {l : T} {h : List Hk} (k : (patchB l h).2 = true) : goodB l = true ∧ hunksG (l.length : Int) h = true ∧ goodB (pat l 0 h) = true ∧ (patchB l h).1 = pat l 0 h := by
  unfold patchB at k ⊢
  split at k
  · rename_i hc; rw [if_pos hc]; exact ⟨hc.1, hc.2.1, hc.2.2, rfl⟩
  · cases k
def rowsOf (k : Int) (l : T) : YRowS := l.map fun s => (k, s)
theorem rowsOf_len (k : Int) (l : T) : (rowsOf k l).length = l.length := by simp [rowsOf]
theorem sRows (k : Int) (l : T) (h : l.length ≤ 1048576) : spec_l6Rows.f k l = some (rowsOf k l) := by
  have key : ∀ i, i ≤ l.length → ∀ out : YRowS, out.length = i → spec_l6Rows.l6 k out l (l.length : Int) (i : Int) = some (out ++ rowsOf k (l.drop i)) := by
    apply downTo
    · intro out ho
      rw [spec_l6Rows.l6_eq, bifF (by omega), List.drop_eq_nil_of_le (by omega)]; simp [rowsOf]
    · intro i hi ih out ho
      rw [spec_l6Rows.l6_eq, bifT (by omega), bif2T (by omega) (by omega), up1 (by omega), room24]
      simp only [Int.toNat_natCast]
      rw [bifT (by simp only [List.length_singleton]; omega), ih _ (by rw [List.length_append, List.length_singleton, ho]), drop_at hi em]
      simp [rowsOf]
  rw [spec_l6Rows.f_eq]
  exact key 0 (by omega) [] rfl
/-- the rows of hunks, from a place on, up to another one -/
def body (l : T) (e : Nat) : Nat → List Hk → YRowS
  | k, [] => rowsOf 1 ((l.take e).drop k)
  | k, x :: r => ((rowsOf 1 ((l.take x.1.toNat).drop k) ++ rowsOf 2 ((l.take (x.1 + x.2.1).toNat).drop x.1.toNat)) ++ rowsOf 3 x.2.2) ++ body l e (x.1 + x.2.1).toNat r
def lastE (e : Int) : List Hk → Int
  | [] => e
  | x :: r => lastE (x.1 + x.2.1) r
def endG (l : T) (w : Int) (hs : List Hk) : Nat := (min (l.length : Int) (lastE 0 hs + w)).toNat
def fromG (w : Int) : List Hk → Int
  | [] => 0
  | x :: _ => max 0 (x.1 - w)
/-- one group of hunks -/
def oneG (l : T) (w m : Int) (hs : List Hk) : YGroup := (fromG w hs, fromG w hs + m, body l (endG l w hs) (fromG w hs).toNat hs)
theorem hunksB_last : ∀ {h : List Hk} {many pe : Int}, hunksB many pe h = true → pe ≤ many → pe ≤ lastE pe h ∧ lastE pe h ≤ many
  | [], many, pe, _, hm => ⟨Int.le_refl _, hm⟩
  | x :: r, many, pe, h, hm => by
    obtain ⟨h1, h2⟩ := hunksB_cons h
    obtain ⟨⟨q1, q2, q3⟩, q4, q5, q6, _⟩ := oneB_in h1
    have := hunksB_last h2 (by omega)
    simp only [lastE]; omega
theorem lastE_get : ∀ (h : List Hk) (e : Int), h ≠ [] → lastE e h = (h.getD (h.length - 1) (0, 0, [])).1 + (h.getD (h.length - 1) (0, 0, [])).2.1
  | [x], e, _ => rfl
  | x :: y :: r, e, _ => by
    have := lastE_get (y :: r) (x.1 + x.2.1) (by simp)
    rw [lastE, this]
    simp [List.getD]
theorem body_len (l : T) (e : Nat) (hl : l.length ≤ 40) : ∀ (r : List Hk) (k : Nat) (pe : Int), hunksB (l.length : Int) pe r = true → (body l e k r).length ≤ 40 + 120 * r.length
  | [], k, pe, _ => by rw [body, rowsOf_len, List.length_drop, List.length_take]; simp only [List.length_nil]; omega
  | x :: r, k, pe, h => by
    obtain ⟨h1, h2⟩ := hunksB_cons h
    have h3 := oneB_in h1
    have := body_len l e hl r (x.1 + x.2.1).toNat _ h2
    rw [body]
    simp only [List.length_append, rowsOf_len, List.length_drop, List.length_take, List.length_cons]
    omega
theorem sOne (l : T) (hl : l.length ≤ 40) (w m : Int) (hw : 0 ≤ w ∧ w ≤ 20) (hm : -10000 ≤ m ∧ m ≤ 10000) (pe : Int) (hs : List Hk) (hn : hs ≠ []) (h20 : hs.length ≤ 20) (hb : hunksB (l.length : Int) pe hs = true) :
    spec_l6One.f l hs w m = some (oneG l w m hs) := by
  obtain ⟨x0, r0, rfl⟩ : ∃ x r, hs = x :: r := by cases hs with
    | nil => exact absurd rfl hn
    | cons x r => exact ⟨x, r, rfl⟩
  obtain ⟨b1, b2⟩ := hunksB_cons hb
  obtain ⟨⟨q1, q2, q3⟩, _, _, q6, _⟩ := oneB_in b1
  have hlast := lastE_get (x0 :: r0) 0 (by simp)
  have hle : 0 ≤ lastE 0 (x0 :: r0) ∧ lastE 0 (x0 :: r0) ≤ (l.length : Int) := by
    have := hunksB_last b2 (by omega)
    simp only [lastE]; omega
  have key : ∀ (rest pre : List Hk) (g : YGroup) (k : Nat) (pe : Int), x0 :: r0 = pre ++ rest → hunksB (l.length : Int) pe rest = true → (k : Int) ≤ lastE 0 (x0 :: r0) → (∀ x ∈ rest.head?, (k : Int) ≤ x.1) → (rest = [] → (k : Int) ≤ endG l w (x0 :: r0)) → g.2.2.length ≤ 120 * pre.length →
      spec_l6One.l12 l w (0, 0, []) ((x0 :: r0).getD ((x0 :: r0).length - 1) (0, 0, [])) g (k : Int) (x0 :: r0) ((x0 :: r0).length : Int) (pre.length : Int) = some (g.1, g.2.1, g.2.2 ++ body l (endG l w (x0 :: r0)) k rest) := by
    intro rest
    induction rest with
    | nil =>
      intro pre g k pe hf _ hk _ hke hg
      have hpl : (x0 :: r0).length = pre.length := by rw [hf]; simp
      have he : ((endG l w (x0 :: r0) : Nat) : Int) = min (l.length : Int) (lastE 0 (x0 :: r0) + w) := by unfold endG; omega
      rw [spec_l6One.l12_eq, bifF (by omega), ← hlast]
      rw [w64_id (x := lastE 0 (x0 :: r0)) (by omega) (by omega), w64_id (by omega) (by omega), sLeast, sB, ← he, bif3T (by omega) (by have := hke rfl; omega) (by omega)]
      simp only [Int.toNat_natCast]
      rw [sRows _ _ (by rw [List.length_drop, List.length_take]; omega), sB, room24, bifT (by rw [rowsOf_len, List.length_drop, List.length_take]; omega)]
      rfl
    | cons x r ih =>
      intro pre g k pe hf hb hk hx hke hg
      obtain ⟨c1, c2⟩ := hunksB_cons hb
      obtain ⟨⟨p1, p2, p3⟩, _, p5, p6, _⟩ := oneB_in c1
      have hkx : (k : Int) ≤ x.1 := hx x (by simp)
      have hpl : (x0 :: r0).length = pre.length + (r.length + 1) := by rw [hf]; simp
      have hg0 : (x0 :: r0).getD pre.length (0, 0, []) = x := by rw [hf]; exact getD_mid pre x r _
      have hxe : x.1 + x.2.1 ≤ lastE 0 (x0 :: r0) := by
        have e : ∀ (a b : List Hk) (e : Int), lastE e (a ++ b) = lastE (lastE e a) b := by
          intro a; induction a with
          | nil => intro b e; rfl
          | cons y a iha => intro b e; exact iha b _
        rw [hf, e]
        exact (hunksB_last c2 p3).1
      rw [spec_l6One.l12_eq, bifT (by omega), bif2T (by omega) (by omega), up1 (by omega), room24]
      simp only [Int.toNat_natCast, hg0]
      rw [bif3T (by omega) hkx (by omega), sRows _ _ (by rw [List.length_drop, List.length_take]; omega), sB, w64_id (x := x.1 + x.2.1) (by omega) (by omega)]
      rw [bifT (by rw [rowsOf_len, List.length_drop, List.length_take]; omega), bif3T p1 (by omega) p3, sRows _ _ (by rw [List.length_drop, List.length_take]; omega), sB]
      rw [bifT (by simp only [List.length_append, rowsOf_len, List.length_drop, List.length_take]; omega), sRows _ _ (by omega), sB]
      rw [bifT (by simp only [List.length_append, rowsOf_len, List.length_drop, List.length_take]; omega)]
      have := ih (pre ++ [x]) (g.1, g.2.1, ((g.2.2 ++ rowsOf 1 ((l.take x.1.toNat).drop k)) ++ rowsOf 2 ((l.take (x.1 + x.2.1).toNat).drop x.1.toNat)) ++ rowsOf 3 x.2.2) (x.1 + x.2.1).toNat (x.1 + x.2.1) (by rw [hf]; simp) c2 (by omega)
        (by
          intro y hy
          cases r with
          | nil => cases hy
          | cons z r =>
            simp only [List.head?_cons, Option.mem_def, Option.some.injEq] at hy
            subst hy
            have := oneB_in (hunksB_cons c2).1
            omega)
        (by
          intro hr
          subst hr
          have : lastE 0 (x0 :: r0) = x.1 + x.2.1 := by
            have e : ∀ (a b : List Hk) (e : Int), lastE e (a ++ b) = lastE (lastE e a) b := by
              intro a; induction a with
              | nil => intro b e; rfl
              | cons y a iha => intro b e; exact iha b _
            rw [hf, e]; rfl
          unfold endG; omega)
        (by simp only [List.length_append, rowsOf_len, List.length_drop, List.length_take, List.length_singleton]; omega)
      rw [Int.toNat_of_nonneg (by omega), List.length_append, List.length_singleton] at this
      rw [this]
      simp only [body, List.append_assoc]
  have hfr : fromG w (x0 :: r0) = max 0 (x0.1 - w) := rfl
  rw [spec_l6One.f_eq, bifT (by simp only [List.length_cons]; omega)]
  have hg0 : (x0 :: r0).getD 0 (0, 0, []) = x0 := rfl
  have hpos : 0 < (x0 :: r0).length := by simp
  have e1 : spec_l1Most.f 0 (x0.1 - w) = some (max 0 (x0.1 - w)) := by
    rw [spec_l1Most.f_eq]
    by_cases h : (0 : Int) > x0.1 - w
    · rw [bifT h]; congr 1; omega
    · rw [bifF h]; congr 1; omega
  rw [hg0, w64_id (by omega) (by omega), e1, sB, dn1 (i := (x0 :: r0).length) hpos (by omega), bif2T (by omega) (by omega)]
  simp only [Int.toNat_natCast]
  rw [w64_id (by omega) (by omega)]
  have hx0 : x0.1 + x0.2.1 ≤ lastE 0 (x0 :: r0) := (hunksB_last b2 q3).1
  have := key (x0 :: r0) [] (max 0 (x0.1 - w), max 0 (x0.1 - w) + m, []) (max 0 (x0.1 - w)).toNat pe rfl hb
    (by omega) (by intro y hy; simp only [List.head?_cons, Option.mem_def, Option.some.injEq] at hy; subst hy; omega) (by simp) (by simp)
  rw [Int.toNat_of_nonneg (by omega)] at this
  simp only [List.length_nil, List.nil_append] at this
  exact this
/-- how many hunks more stand near -/
def near (w : Int) : Int → List Hk → Nat
  | _, [] => 0
  | e, y :: r => if y.1 - e ≤ 2 * w then near w (y.1 + y.2.1) r + 1 else 0
def delta : List Hk → Int
  | [] => 0
  | x :: r => ((x.2.2.length : Int) - x.2.1) + delta r
theorem near_le (w : Int) : ∀ (r : List Hk) (e : Int), near w e r ≤ r.length
  | [], _ => Nat.le_refl _
  | y :: r, e => by
    have := near_le w r (y.1 + y.2.1)
    unfold near
    split
    · rw [List.length_cons]; omega
    · omega
/-- the groups -/
def grp (l : T) (w : Int) : Nat → Int → List Hk → YGroupS
  | 0, _, _ => []
  | _ + 1, _, [] => []
  | n + 1, m, x :: r => oneG l w m (x :: r.take (near w (x.1 + x.2.1) r)) :: grp l w n (m + delta (x :: r.take (near w (x.1 + x.2.1) r))) (r.drop (near w (x.1 + x.2.1) r))
theorem hunksB_split : ∀ {a b : List Hk} {many pe : Int}, hunksB many pe (a ++ b) = true → hunksB many pe a = true ∧ hunksB many (lastE pe a) b = true
  | [], b, many, pe, h => ⟨rfl, h⟩
  | x :: a, b, many, pe, h => by
    obtain ⟨h1, h2⟩ := hunksB_cons (x := x) (r := a ++ b) h
    obtain ⟨h3, h4⟩ := hunksB_split h2
    refine ⟨?_, h4⟩
    show (oneB many pe x && hunksB many (x.1 + x.2.1) a) = true
    rw [h1, h3]; rfl
theorem hunksB_mem : ∀ {h : List Hk} {many pe : Int}, hunksB many pe h = true → ∀ x ∈ h, 0 ≤ x.1 ∧ 0 ≤ x.2.1 ∧ x.1 + x.2.1 ≤ many ∧ x.2.2.length ≤ 40 ∧ allLines x.2.2 = true
  | y :: r, many, pe, h, x, hx => by
    obtain ⟨h1, h2⟩ := hunksB_cons h
    obtain ⟨⟨q1, q2, q3⟩, q4, q5, q6, q7⟩ := oneB_in h1
    rcases List.mem_cons.1 hx with rfl | hx
    · exact ⟨q1, q2, q3, q5, q7⟩
    · exact hunksB_mem h2 x hx
theorem delta_le : ∀ {h : List Hk}, (∀ x ∈ h, 0 ≤ x.2.1 ∧ x.2.1 ≤ 40 ∧ x.2.2.length ≤ 40) → -(40 * (h.length : Int)) ≤ delta h ∧ delta h ≤ 40 * (h.length : Int)
  | [], _ => by simp [delta]
  | x :: r, hb => by
    have h1 := hb x (by simp)
    have h2 := delta_le (h := r) fun y hy => hb y (by simp [hy])
    simp only [delta, List.length_cons]; omega
section
variable (l : T) (hl : l.length ≤ 40) (w : Int) (hw : 0 ≤ w ∧ w ≤ 20) (h : List Hk) (h20 : h.length ≤ 20) (hb : hunksB (l.length : Int) (-1) h = true)
include hl hw h20 hb
theorem sG12 (out : YGroupS) (m : Int) (pre : List Hk) : ∀ (s c : List Hk) (y : Hk), h = (pre ++ c) ++ y :: s →
    spec_l6Groups.l12 l h w out m (pre.length : Int) (((pre ++ c).length + 1 : Nat) : Int) = spec_l6Groups.l17 l h w out m (pre.length : Int) (((pre ++ c).length + 1 + near w (y.1 + y.2.1) s : Nat) : Int) := by
  intro s
  induction s with
  | nil =>
    intro c y hf
    have hlen : h.length = (pre ++ c).length + 1 := by rw [hf, List.length_append, List.length_singleton]
    rw [spec_l6Groups.l12_eq, bifF (by omega)]; rfl
  | cons z s ih =>
    intro c y hf
    have hlen : h.length = (pre ++ c).length + 1 + (s.length + 1) := by rw [hf, List.length_append, List.length_cons, List.length_cons]; omega
    have hy : h.getD (pre ++ c).length (0, 0, []) = y := by rw [hf]; exact getD_mid _ _ _ _
    have hz : h.getD ((pre ++ c).length + 1) (0, 0, []) = z := by
      have e : h = ((pre ++ c) ++ [y]) ++ z :: s := by rw [hf]; simp
      have e2 : (pre ++ c).length + 1 = ((pre ++ c) ++ [y]).length := by simp only [List.length_append, List.length_singleton]
      rw [e2, e]; exact getD_mid _ _ _ _
    have my := hunksB_mem hb y (by rw [hf]; simp)
    have mz := hunksB_mem hb z (by rw [hf]; simp)
    rw [spec_l6Groups.l12_eq, bifT (by omega), bif2T (by omega) (by omega), dn1 (by omega) (by omega), bif2T (by omega) (by omega), bif2T (by omega) (by omega), up1 (by omega)]
    simp only [Int.toNat_natCast, Nat.add_sub_cancel, hy, hz]
    rw [w64_id (x := y.1 + y.2.1) (by omega) (by omega), w64_id (x := z.1 - (y.1 + y.2.1)) (by omega) (by omega), w64_id (x := 2 * w) (by omega) (by omega)]
    by_cases c1 : z.1 - (y.1 + y.2.1) ≤ 2 * w
    · rw [bifT c1]
      have := ih (c ++ [y]) z (by rw [hf]; simp)
      have e2 : (pre ++ (c ++ [y])).length = (pre ++ c).length + 1 := by simp; omega
      rw [e2] at this
      rw [this, near, if_pos c1]
      congr 1 <;> omega
    · rw [bifF c1, near, if_neg c1]
theorem sG20 (out : YGroupS) (j : Nat) (c : List Hk) (hc : ∀ x ∈ c, 0 ≤ x.2.1 ∧ x.2.1 ≤ 40 ∧ x.2.2.length ≤ 40) (hcl : c.length ≤ 20) : ∀ (rest pre : List Hk) (m : Int), c = pre ++ rest → -10000 ≤ m - 40 * (rest.length : Int) → m + 40 * (rest.length : Int) ≤ 10000 →
    spec_l6Groups.l20 l h w out m (j : Int) c (c.length : Int) (pre.length : Int) = spec_l6Groups.l8 l h w out (m + delta rest) (j : Int) := by
  intro rest
  induction rest with
  | nil =>
    intro pre m hf _ _
    have : c.length = pre.length := by rw [hf]; simp
    rw [spec_l6Groups.l20_eq, bifF (by omega)]
    congr 1; simp [delta]
  | cons x r ih =>
    intro pre m hf h1 h2
    have hlen : c.length = pre.length + (r.length + 1) := by rw [hf]; simp
    have hg : c.getD pre.length (0, 0, []) = x := by rw [hf]; exact getD_mid _ _ _ _
    have hx := hc x (by rw [hf]; simp)
    rw [List.length_cons] at h1 h2
    rw [spec_l6Groups.l20_eq, bifT (by omega), bif2T (by omega) (by omega), up1 (by omega)]
    simp only [Int.toNat_natCast, hg]
    rw [w64_id (x := (x.2.2.length : Int) - x.2.1) (by omega) (by omega), w64_id (by omega) (by omega)]
    have := ih (pre ++ [x]) (m + ((x.2.2.length : Int) - x.2.1)) (by rw [hf]; simp) (by omega) (by omega)
    rw [List.length_append, List.length_singleton] at this
    rw [this]
    congr 1; simp only [delta]; omega
theorem sG8 : ∀ (n : Nat) (rest pre : List Hk) (out : YGroupS) (m : Int), rest.length ≤ n → h = pre ++ rest → out.length ≤ pre.length → -(40 * (pre.length : Int)) ≤ m ∧ m ≤ 40 * (pre.length : Int) →
    spec_l6Groups.l8 l h w out m (pre.length : Int) = some (out ++ grp l w n m rest) := by
  intro n
  induction n with
  | zero =>
    intro rest pre out m hn hf ho hm
    have hr : rest = [] := List.length_eq_zero_iff.1 (by omega)
    have : h.length = pre.length := by rw [hf, hr]; simp
    rw [spec_l6Groups.l8_eq, bifF (by omega)]; simp [grp]
  | succ n ih =>
    intro rest pre out m hn hf ho hm
    cases rest with
    | nil =>
      have : h.length = pre.length := by rw [hf]; simp
      rw [spec_l6Groups.l8_eq, bifF (by omega)]; simp [grp]
    | cons x r =>
      have hlen : h.length = pre.length + (r.length + 1) := by rw [hf]; simp
      have hK := near_le w r (x.1 + x.2.1)
      have h12 := sG12 l hl w hw h h20 hb out m pre r [] x (by rw [hf]; simp)
      rw [List.append_nil] at h12
      rw [spec_l6Groups.l8_eq, bifT (by omega), up1 (by omega), h12]
      unfold grp
      generalize near w (x.1 + x.2.1) r = K at hK
      have hchunk : ((h.take (pre.length + 1 + K)).drop pre.length) = x :: r.take K := by
        have e : h = (pre ++ (x :: r.take K)) ++ r.drop K := by rw [hf, List.append_assoc, List.cons_append, List.take_append_drop]
        have e3 : (pre ++ (x :: r.take K)).length = pre.length + 1 + K := by rw [List.length_append, List.length_cons, List.length_take]; omega
        rw [e, List.take_left' e3, List.drop_left' rfl]
      have hall := hunksB_mem hb
      have hsub : ∀ y ∈ x :: r.take K, y ∈ h := fun y hy => by
        rw [hf]
        rcases List.mem_cons.1 hy with rfl | hy
        · simp
        · have := List.mem_of_mem_take hy; simp [this]
      have hcb : ∃ pe, hunksB (l.length : Int) pe (x :: r.take K) = true := by
        have e : h = pre ++ ((x :: r.take K) ++ r.drop K) := by rw [hf, List.cons_append, List.take_append_drop]
        rw [e] at hb
        exact ⟨_, (hunksB_split (hunksB_split hb).2).1⟩
      obtain ⟨pe, hcb⟩ := hcb
      have hcl : (x :: r.take K).length = K + 1 := by rw [List.length_cons, List.length_take]; omega
      have hone := sOne l hl w m hw (by omega) pe (x :: r.take K) (by simp) (by omega) hcb
      have hcd : ∀ y ∈ x :: r.take K, 0 ≤ y.2.1 ∧ y.2.1 ≤ 40 ∧ y.2.2.length ≤ 40 := fun y hy => by
        have := hall y (hsub y hy); omega
      have hdl := delta_le hcd
      rw [spec_l6Groups.l17_eq, bif3T (by omega) (by omega) (by omega)]
      simp only [Int.toNat_natCast]
      rw [hchunk, hone, sB, room40, bifT (by simp only [List.length_singleton]; omega), bif3T (by omega) (by omega) (by omega)]
      have h20' := sG20 l hl w hw h h20 hb (out ++ [oneG l w m (x :: r.take K)]) (pre.length + 1 + K) (x :: r.take K) hcd (by omega) (x :: r.take K) [] m rfl (by omega) (by omega)
      have hnx := ih (r.drop K) (pre ++ (x :: r.take K)) (out ++ [oneG l w m (x :: r.take K)]) (m + delta (x :: r.take K)) (by rw [List.length_drop]; rw [List.length_cons] at hn; omega) (by rw [hf, List.append_assoc, List.cons_append, List.take_append_drop]) (by rw [List.length_append, List.length_append, List.length_singleton]; omega) (by rw [List.length_append]; omega)
      rw [List.length_append, hcl, show pre.length + (K + 1) = pre.length + 1 + K by omega] at hnx
      refine (h20'.trans hnx).trans ?_
      rw [List.append_assoc]; rfl
end
theorem sGroupsOf (l : T) (h : List Hk) (w : Int) (hl : Sm l) (hh : HkSm h) : spec_GroupsOf.f l h w = some (if (patchB l h).2 = true ∧ 0 ≤ w ∧ w ≤ 20 then (grp l w h.length 0 h, true) else ([], false)) := by
  rw [spec_GroupsOf.f_eq, sPatch l h hl hh, sB]
  cases hp : (patchB l h).2 with
  | false => rw [notF, if_neg (fun h => by cases h.1)]
  | true =>
    obtain ⟨g1, g2, g3, g4⟩ := patchB_ok hp
    have g2' := g2
    unfold hunksG at g2'
    simp only [Bool.and_eq_true, decide_eq_true_eq] at g2'
    rw [notT, sIn, sB]
    by_cases hw : 0 ≤ w ∧ w ≤ 20
    · rw [bifNF hw, spec_l6Groups.f_eq, if_pos ⟨rfl, hw⟩]
      have := sG8 l (good_len g1) w hw h g2'.2.1 g2'.1 h.length h [] [] 0 (Nat.le_refl _) rfl (by simp) (by simp)
      exact bindEq this rfl
    · rw [bifNT hw, if_neg (fun h => hw h.2)]
/-- a group that is drawn -/
def DGm (M : Nat) (x : YGroup) : Prop := 1 ≤ x.2.2.length ∧ x.2.2.length ≤ M ∧ ∀ r ∈ x.2.2, r.2.size ≤ 100
def DG (x : YGroup) : Prop := 1 ≤ x.2.2.length ∧ x.2.2.length ≤ 3000 ∧ ∀ r ∈ x.2.2, r.2.size ≤ 100
theorem DGm.dg {M : Nat} {x : YGroup} (h : DGm M x) (hM : M ≤ 3000) : DG x := ⟨h.1, Nat.le_trans h.2.1 hM, h.2.2⟩
/-- so many rows -/
theorem body_len2 (l : T) (e : Nat) (he : e ≤ l.length) (V : Nat) : ∀ (r : List Hk) (k : Nat) (pe : Int), hunksB (l.length : Int) pe r = true → (∀ x r', r = x :: r' → (k : Int) ≤ x.1) → (∀ x ∈ r, x.2.2.length ≤ V) → (body l e k r).length ≤ (l.length - k) + V * r.length
  | [], k, pe, _, _, _ => by rw [body, rowsOf_len, List.length_drop, List.length_take]; omega
  | x :: r, k, pe, h, hk, hV => by
    obtain ⟨h1, h2⟩ := hunksB_cons h
    obtain ⟨⟨q1, q2, q3⟩, q4, q5, q6, q7⟩ := oneB_in h1
    have hk' := hk x r rfl
    have hx := hV x (by simp)
    have := body_len2 l e he V r (x.1 + x.2.1).toNat _ h2 (fun y r' e' => by
      subst e'
      have := (oneB_in (hunksB_cons h2).1).2.2.2.1
      omega) (fun y hy => hV y (by simp [hy]))
    rw [body, List.length_cons, Nat.mul_succ]
    simp only [List.length_append, rowsOf_len, List.length_drop, List.length_take]
    omega
theorem body_mem (l : T) (e : Nat) : ∀ (h : List Hk) (k : Nat), ∀ r ∈ body l e k h, r.2 ∈ l ∨ ∃ x ∈ h, r.2 ∈ x.2.2
  | [], k, r, hr => by
    simp only [body, rowsOf, List.mem_map] at hr
    obtain ⟨s, hs, rfl⟩ := hr
    exact .inl (List.mem_of_mem_take (List.mem_of_mem_drop hs))
  | x :: h, k, r, hr => by
    simp only [body, List.mem_append] at hr
    rcases hr with ((hr | hr) | hr) | hr
    · simp only [rowsOf, List.mem_map] at hr
      obtain ⟨s, hs, rfl⟩ := hr
      exact .inl (List.mem_of_mem_take (List.mem_of_mem_drop hs))
    · simp only [rowsOf, List.mem_map] at hr
      obtain ⟨s, hs, rfl⟩ := hr
      exact .inl (List.mem_of_mem_take (List.mem_of_mem_drop hs))
    · simp only [rowsOf, List.mem_map] at hr
      obtain ⟨s, hs, rfl⟩ := hr
      exact .inr ⟨x, by simp, hs⟩
    · rcases body_mem l e h _ r hr with h1 | ⟨y, hy, h1⟩
      · exact .inl h1
      · exact .inr ⟨y, by simp [hy], h1⟩
theorem grp_DGm (V N M : Nat) (l : T) (w : Int) (hw : 0 ≤ w) (hM : l.length + V * N ≤ M) (hs : ∀ s ∈ l, s.size ≤ 100) : ∀ (n : Nat) (h : List Hk) (m pe : Int), hunksB (l.length : Int) pe h = true → pe ≤ (l.length : Int) → h.length ≤ N → (∀ x ∈ h, x.2.2.length ≤ V) → (∀ x ∈ h, ∀ s ∈ x.2.2, s.size ≤ 100) → (grp l w n m h).length ≤ h.length ∧ ∀ x ∈ grp l w n m h, DGm M x
  | 0, h, m, pe, _, _, _, _, _ => ⟨Nat.zero_le _, fun x hx => by cases hx⟩
  | n + 1, [], m, pe, _, _, _, _, _ => ⟨Nat.zero_le _, fun x hx => by cases hx⟩
  | n + 1, x :: r, m, pe, hb, hpe, h20, hv, hz => by
    have hK := near_le w r (x.1 + x.2.1)
    unfold grp
    generalize near w (x.1 + x.2.1) r = K at hK
    have e : x :: r = (x :: r.take K) ++ r.drop K := by rw [List.cons_append, List.take_append_drop]
    have hb2 := hb
    rw [e] at hb2
    obtain ⟨q1, q2⟩ := hunksB_split hb2
    obtain ⟨p1, p2⟩ := hunksB_cons q1
    obtain ⟨⟨o1, o2, o3⟩, o4, o5, _, _⟩ := oneB_in p1
    have hle := (hunksB_last q1 hpe).2
    have hfr : fromG w (x :: r.take K) = max 0 (x.1 - w) := rfl
    have hen : endG l w (x :: r.take K) ≤ l.length := by unfold endG; omega
    have hlen := body_len2 l (endG l w (x :: r.take K)) hen V (x :: r.take K) (fromG w (x :: r.take K)).toNat pe q1 (fun y r' e' => by
      injection e' with e1 _
      subst e1
      omega) (fun y hy => hv y (by rw [e]; exact List.mem_append_left _ hy))
    have hcl : (x :: r.take K).length ≤ N := by rw [List.length_cons, List.length_take]; rw [List.length_cons] at h20; omega
    obtain ⟨i1, i2⟩ := grp_DGm V N M l w hw hM hs n (r.drop K) (m + delta (x :: r.take K)) _ q2 hle (by rw [List.length_drop]; rw [List.length_cons] at h20; omega) (fun y hy => hv y (by have := List.mem_of_mem_drop hy; simp [this])) (fun y hy s hs' => hz y (by have := List.mem_of_mem_drop hy; simp [this]) s hs')
    refine ⟨by rw [List.length_cons, List.length_cons]; rw [List.length_drop] at i1; omega, fun y hy => ?_⟩
    rcases List.mem_cons.1 hy with rfl | hy
    · refine ⟨?_, ?_, fun s hs' => ?_⟩
      · show 1 ≤ (body l _ _ (x :: r.take K)).length
        simp only [body, List.length_append, rowsOf_len, List.length_drop, List.length_take]
        omega
      · show (body l _ _ (x :: r.take K)).length ≤ M
        have h3 := Nat.mul_le_mul_left V hcl
        omega
      · rcases body_mem l _ (x :: r.take K) _ s hs' with h1 | ⟨y, hy, h1⟩
        · exact hs _ h1
        · refine hz y ?_ _ h1
          rcases List.mem_cons.1 hy with rfl | hy
          · simp
          · have := List.mem_of_mem_take hy; simp [this]
    · exact i2 y hy
theorem groups_okm {n : Nat} {c : Cu} (h : Cok (n + 40000) c) : ∃ (l : T) (g : YGroupS) (c' : Cu), spec_l1Cur_groups.f c = some (l, g, c') ∧ TB 12 10 l ∧ g.length ≤ 6 ∧ (∀ x ∈ g, DGm 38 x) ∧ Cok n c' := by
  rw [spec_l1Cur_groups.f_eq]
  obtain ⟨l, c1, e1, hl, k1⟩ := text_ok (n := n + 39000) (h.le (by omega))
  have hl1 := hl.1
  rw [e1, sB]
  simp only
  obtain ⟨hk, c2, e2, hk1, hk2, k2⟩ := hunks_ok (n := n + 5000) (k1.le (by omega)) l (by omega) (hl.last (by omega))
  rw [e2, sB]
  simp only
  obtain ⟨w, c3, e3, hw, k3⟩ := among_ok (n := n + 4000) (k2.le (by omega)) [0, 1, 2, 3] (by decide)
  have hsm : HkSm hk := ⟨by omega, fun x hx => by obtain ⟨_, _, _, _, _, q⟩ := hk2 x hx; exact q.sm (by omega) (by omega)⟩
  rw [e3, sB, sGroupsOf l hk w (hl.sm (by omega) (by omega)) hsm, sB]
  simp only
  -- the groups
  obtain ⟨g, hg, hg1, hg2⟩ : ∃ g : YGroupS, (if (patchB l hk).2 = true ∧ 0 ≤ w ∧ w ≤ 20 then (grp l w hk.length 0 hk, true) else ([], false) : YGroupS × Bool).1 = g ∧ g.length ≤ 6 ∧ ∀ x ∈ g, DGm 38 x := by
    refine ⟨_, rfl, ?_⟩
    split
    · rename_i hc
      obtain ⟨g1, g2, _, _⟩ := patchB_ok hc.1
      unfold hunksG at g2
      simp only [Bool.and_eq_true, decide_eq_true_eq] at g2
      have := grp_DGm 2 6 38 l w hc.2.1 (by omega) (fun s hs => by have := (hl.2 s hs).2; omega) hk.length hk 0 (-1) g2.1 (by omega) hk1 (fun x hx => by obtain ⟨_, _, _, _, _, q⟩ := hk2 x hx; exact q.1) (fun x hx s hs => by obtain ⟨_, _, _, _, _, q⟩ := hk2 x hx; have := (q.2 s hs).2; omega)
      exact ⟨Nat.le_trans this.1 hk1, this.2⟩
    · exact ⟨by simp, fun x hx => by cases hx⟩
  rw [hg]
  have fin : ∀ (c : Cu) (g : YGroupS), Cok (n + 1000) c → g.length ≤ 6 → (∀ x ∈ g, DGm 38 x) → ∃ (l' : T) (g' : YGroupS) (c' : Cu), spec_l1Cur_groups.l35 c l g = some (l', g', c') ∧ TB 12 10 l' ∧ g'.length ≤ 6 ∧ (∀ x ∈ g', DGm 38 x) ∧ Cok n c' := by
    intro c g hc h1 h2
    rw [spec_l1Cur_groups.l35_eq]
    obtain ⟨b, c4, e4, k4⟩ := one_ok (n := n + 900) (hc.le (by omega)) 4
    rw [e4, sB]
    simp only
    cases b with
    | false => exact ⟨l, g, c4, rfl, hl.le (by omega) (by omega), h1, h2, k4.le (by omega)⟩
    | true =>
      obtain ⟨o, c5, e5, ho, k5⟩ := other_ok (n := n) (k4.le (by omega)) l 9 9 hl (by omega) (by omega) (by omega)
      rw [cond_true, e5, sB]; exact ⟨o, g, c5, rfl, ho.le (by omega) (by omega), h1, h2, k5⟩
  by_cases h0 : (g.length : Int) > 0
  case neg => rw [bifF h0]; exact fin _ g (k3.le (by omega)) hg1 hg2
  rw [bifT h0]
  obtain ⟨k, c4, e4, x0, x1, _, k4⟩ := pick_ok (n := n + 3000) (k3.le (by omega)) (g.length : Int)
  have x1 := x1 (by omega)
  rw [e4, sB]
  simp only
  rw [bif2T x0 x1]
  have hgk := hg2 _ (getD_mem (l := g) (i := k.toNat) (by omega) (0, 0, []))
  obtain ⟨d1, d2, d3⟩ := hgk
  obtain ⟨i, c5, e5, i0, i1, _, k5⟩ := pick_ok (n := n + 2500) (k4.le (by omega)) ((g.getD k.toNat (0, 0, [])).2.2.length : Int)
  have i1 := i1 (by omega)
  rw [e5, sB]
  simp only
  obtain ⟨u, c6, e6, _, _, _, k6⟩ := pick_ok (n := n + 2000) (k5.le (by omega)) 15
  rw [e6, sB]
  simp only
  have hset : ∀ y : YGroup, DGm 38 y → (g.set k.toNat y).length ≤ 6 ∧ ∀ x ∈ g.set k.toNat y, DGm 38 x := fun y hy =>
    ⟨by rw [List.length_set]; exact hg1, fun x hx => (List.mem_or_eq_of_mem_set hx).elim (hg2 x) fun e => by subst e; exact hy⟩
  have k6' := k6.le (m := n + 1000) (by omega)
  have keep : ∀ a b : Int, DGm 38 (a, b, (g.getD k.toNat (0, 0, [])).2.2) := fun a b => ⟨d1, d2, d3⟩
  have keep2 : ∀ a : Int, DGm 38 (a, (g.getD k.toNat (0, 0, [])).2) := fun a => ⟨d1, d2, d3⟩
  have rset : ∀ (a b : Int) (y : YRow), y.2.size ≤ 100 → DGm 38 (a, b, (g.getD k.toNat (0, 0, [])).2.2.set i.toNat y) := fun a b y hy =>
    ⟨by show 1 ≤ (List.set _ _ _).length; rw [List.length_set]; exact d1, by show (List.set _ _ _).length ≤ 38; rw [List.length_set]; exact d2, fun r hr => (List.mem_or_eq_of_mem_set hr).elim (d3 r) fun e => by subst e; exact hy⟩
  by_cases u0 : u = 0
  · rw [bifT u0, bif2T x0 x1, bif2T x0 x1]
    have q := hset _ (keep2 (w64 ((g.getD k.toNat (0, 0, [])).1 + 1)))
    exact fin _ _ k6' q.1 q.2
  rw [bifF u0]
  by_cases u1 : u = 1
  · rw [bifT u1, bif2T x0 x1, bif2T x0 x1]
    have q := hset _ (keep (g.getD k.toNat (0, 0, [])).1 (w64 ((g.getD k.toNat (0, 0, [])).2.1 + 1)))
    exact fin _ _ k6' q.1 q.2
  rw [bifF u1]
  by_cases u2 : u = 2
  · rw [bifT u2, bif2T x0 x1]
    obtain ⟨v, c7, e7, _, _, _, k7⟩ := pick_ok (n := n + 1000) (k6.le (by omega)) 5
    rw [e7, sB]
    simp only
    rw [bif2T i0 i1]
    have hr := d3 _ (getD_mem (l := (g.getD k.toNat (0, 0, [])).2.2) (i := i.toNat) (by omega) (0, em))
    have q := hset _ (rset (g.getD k.toNat (0, 0, [])).1 (g.getD k.toNat (0, 0, [])).2.1 (v, ((g.getD k.toNat (0, 0, [])).2.2.getD i.toNat (0, em)).2) hr)
    exact fin _ _ k7 q.1 q.2
  rw [bifF u2]
  by_cases u3 : u = 3
  · rw [bifT u3, bif2T x0 x1]
    obtain ⟨v, c7, e7, hv, k7⟩ := of_ok (n := n + 1000) (k6.le (by omega)) [em, (⟨#[122, 10]⟩ : ByteArray), (⟨#[122]⟩ : ByteArray)] (by decide)
    rw [e7, sB]
    simp only
    rw [bif2T i0 i1]
    have hv2 : v.size ≤ 100 := by
      simp only [List.mem_cons, List.not_mem_nil, or_false] at hv
      rcases hv with h | h | h <;> (subst h; decide)
    have q := hset _ (rset (g.getD k.toNat (0, 0, [])).1 (g.getD k.toNat (0, 0, [])).2.1 (((g.getD k.toNat (0, 0, [])).2.2.getD i.toNat (0, em)).1, v) hv2)
    exact fin _ _ k7 q.1 q.2
  rw [bifF u3]
  by_cases u4 : u = 4
  · rw [bifT u4, bif2T x0 x1, bif2T x0 x1]
    have q := hset _ (keep2 (w64 ((g.getD k.toNat (0, 0, [])).1 + 30)))
    exact fin _ _ k6' q.1 q.2
  rw [bifF u4]
  exact fin _ _ k6' hg1 hg2
theorem drawOldOfm {code : List Int} (h : Cok 1000000000 (code, 0, 0)) : ∃ g : YGroup, spec_DrawOldOf.f code = some g ∧ DGm 38 g := by
  obtain ⟨l, g, c, e, _, h1, h2, _⟩ := groups_okm (n := 900000000) (h.le (by omega))
  rw [spec_DrawOldOf.f_eq, spec_DrawGoodGroups.f_eq, e, sB, sB]
  simp only
  by_cases h0 : (g.length : Int) = 0
  · rw [bifT h0]; exact ⟨_, rfl, by decide, by decide, fun r hr => by rw [List.mem_singleton] at hr; subst hr; decide⟩
  · rw [bifF h0, bifT (by omega)]; exact ⟨_, rfl, h2 _ (getD_mem (by omega) _)⟩
/-- bytes that came in -/
theorem cok_of {code : List Int} (g : Bd (.list (.int .u8)) code) (h : code.length ≤ 1048576) : Cok 1000000000 (code, 0, 0) := by
  refine ⟨h, fun x hx => ?_, Int.le_refl _, by show (0 : Int) + _ ≤ _; omega⟩
  have := g.2 x hx
  have h2 : (decide (IntKind.u8.min ≤ x) && decide (x ≤ IntKind.u8.max)) = true := this
  rw [Bool.and_eq_true, decide_eq_true_eq, decide_eq_true_eq] at h2
  exact h2
theorem big_ok {code more : List Int} (h1 : code.length ≤ 140737488351232) (h2 : more.length ≤ 140737488351232) : ∃ b : Bool, laws_big.f code more = some b ∧ (b = false → code.length ≤ 1048576 ∧ more.length ≤ 1048576) := by
  rw [laws_big.f_eq]
  by_cases h : (code.length : Int) > 1048576
  · rw [bifT h]; exact ⟨true, rfl, fun h => by cases h⟩
  · rw [bifF h, w64_id (by omega) (by omega)]
    refine ⟨_, rfl, fun k => ?_⟩
    rw [decide_eq_false_iff_not] at k
    omega
theorem most (a b : Int) : spec_l1Most.f a b = some (max a b) := by
  rw [spec_l1Most.f_eq]
  by_cases h : a > b
  · rw [bifT h]; congr 1; omega
  · rw [bifF h]; congr 1; omega
theorem allLines_of {l : T} (h : ∀ s ∈ l, lineP s) : allLines l = true := by
  unfold allLines; rw [List.all_eq_true]; intro s hs; exact decide_eq_true (h s hs)
theorem allLines_mem {l : T} (h : allLines l = true) : ∀ s ∈ l, lineP s := by
  unfold allLines at h; rw [List.all_eq_true] at h; exact fun s hs => of_decide_eq_true (h s hs)
/-- how many lines go, and how many come -/
def cG : List Hk → Int
  | [] => 0
  | x :: r => x.2.1 + cG r
def cC : List Hk → Int
  | [] => 0
  | x :: r => (x.2.2.length : Int) + cC r
theorem sameT (a b : T) (ha : a.length ≤ 140737488351232) (hb : b.length ≤ 140737488351232) : laws_sameTexts.f a b = some (decide (a = b)) := by
  rw [laws_sameTexts.f_eq]
  by_cases hl : a.length = b.length
  · rw [bifNF (by omega)]
    have key : ∀ i, i ≤ a.length → laws_sameTexts.l8 a b (a.length : Int) (i : Int) = some (decide (a.drop i = b.drop i)) := by
      apply downTo
      · rw [laws_sameTexts.l8_eq, bifF (by omega)]
        simp [List.drop_eq_nil_of_le, hl]
      · intro i hi ih
        rw [laws_sameTexts.l8_eq, bifT (by omega), bif2T (by omega) (by omega), bif2T (by omega) (by omega), up1 (by omega)]
        simp only [Int.toNat_natCast, toList_beq]
        rw [drop_at hi em, drop_at (l := b) (by omega) em]
        by_cases h : a.getD i em = b.getD i em
        · rw [bifNF h, ih]; simp only [List.cons.injEq, h, true_and]
        · rw [bifNT h]; simp only [List.cons.injEq, h, false_and, decide_false]
    have := key 0 (by omega)
    simpa using this
  · rw [bifNT (by omega)]
    rw [decide_eq_false (fun e => hl (by rw [e]))]
theorem sameT_self (a : T) (ha : a.length ≤ 140737488351232) : laws_sameTexts.f a a = some true := by rw [sameT a a ha ha, decide_eq_true rfl]
theorem any_none : ∀ l : YRowS, anyB l = false → ∀ i, i < l.length → (l.getD i (0, em)).1 = 1
  | [], _, i, h => absurd h (Nat.not_lt_zero i)
  | r :: l, h, i, hi => by
    have h2 : ((!decide (r.1 = 1)) || anyB l) = false := h
    rw [Bool.or_eq_false_iff] at h2
    cases i with
    | zero => have := h2.1; simpa using this
    | succ i => exact any_none l h2.2 i (by simpa using hi)
theorem any_first : ∀ l : YRowS, anyB l = true → ∃ p, p < l.length ∧ (l.getD p (0, em)).1 ≠ 1 ∧ ∀ i, i < p → (l.getD i (0, em)).1 = 1
  | [], h => by cases h
  | r :: l, h => by
    by_cases g : r.1 = 1
    · have h2 : ((!decide (r.1 = 1)) || anyB l) = true := h
      rw [decide_eq_true g] at h2
      obtain ⟨p, hp, h4, h5⟩ := any_first l h2
      refine ⟨p + 1, by rw [List.length_cons]; omega, h4, fun i hi => ?_⟩
      cases i with
      | zero => exact g
      | succ i => exact h5 i (by omega)
    · exact ⟨0, by rw [List.length_cons]; omega, g, fun i hi => absurd hi (Nat.not_lt_zero i)⟩
theorem any_last : ∀ l : YRowS, anyB l = true → ∃ q, q < l.length ∧ (l.getD q (0, em)).1 ≠ 1 ∧ ∀ i, q < i → i < l.length → (l.getD i (0, em)).1 = 1
  | [], h => by cases h
  | r :: l, h => by
    by_cases g : anyB l = true
    · obtain ⟨q, hq, h4, h5⟩ := any_last l g
      refine ⟨q + 1, by rw [List.length_cons]; omega, h4, fun i h1 h2 => ?_⟩
      cases i with
      | zero => omega
      | succ i => exact h5 i (by omega) (by simpa using h2)
    · rw [Bool.not_eq_true] at g
      have h2 : ((!decide (r.1 = 1)) || anyB l) = true := h
      rw [g, Bool.or_false] at h2
      refine ⟨0, by rw [List.length_cons]; omega, (fun e => by rw [decide_eq_true (show r.1 = 1 from e)] at h2; cases h2), fun i h1 h3 => ?_⟩
      cases i with
      | zero => omega
      | succ i => exact any_none l g i (by simpa using h3)
/-- the rows from a place up to another one -/
def cutG (g : YGroup) (n m : Nat) : YGroup := (g.1 + n, g.2.1 + n, (g.2.2.take m).drop n)
def finG (g : YGroup) (n m : Nat) : YGroup × Bool := if groupB (cutG g n m) = true then (cutG g n m, true) else ((0, 0, []), false)
theorem cut_sm {rs : YRowS} (h : SmR rs) (n m : Nat) : SmR ((rs.take m).drop n) :=
  ⟨by rw [List.length_drop, List.length_take]; have := h.1; omega, fun x hx => h.2 x (List.mem_of_mem_take (List.mem_of_mem_drop hx))⟩
section
variable (g : YGroup) (hg : SmR g.2.2) (ha : 0 ≤ g.1 ∧ g.1 ≤ 999) (hb : 0 ≤ g.2.1 ∧ g.2.1 ≤ 999)
include hg ha hb
theorem sL17 (t : YGroup) (n m : Nat) (h1 : n ≤ m) (h2 : m ≤ g.2.2.length) : spec_LoosenGroup.l17 g t (n : Int) (m : Int) = some (finG g n m) := by
  have hL := hg.1
  rw [spec_LoosenGroup.l17_eq, bif3T (by omega) (by omega) (by omega), room24, w64_id (x := g.1 + n) (by omega) (by omega), w64_id (x := g.2.1 + n) (by omega) (by omega)]
  simp only [Int.toNat_natCast, List.nil_append, List.length_nil, Nat.zero_add]
  rw [bifT (by rw [List.length_drop, List.length_take]; omega), sGroup (g.1 + (n : Int), g.2.1 + (n : Int), (g.2.2.take m).drop n) (cut_sm hg n m), sB]
  unfold finG cutG
  cases groupB (g.1 + (n : Int), g.2.1 + (n : Int), (g.2.2.take m).drop n) <;> rfl
theorem iL17 (t : YGroup) (n m : Nat) (h1 : n ≤ m) (h2 : m ≤ g.2.2.length) : impl_LoosenGroup.l17 g t (n : Int) (m : Int) = some (finG g n m) := by
  have hL := hg.1
  rw [impl_LoosenGroup.l17_eq, bif3T (by omega) (by omega) (by omega), w64_id (x := g.1 + n) (by omega) (by omega), w64_id (x := g.2.1 + n) (by omega) (by omega)]
  simp only [Int.toNat_natCast]
  rw [cloneR _ (by rw [List.length_drop, List.length_take]; omega), sB, iGroup (g.1 + (n : Int), g.2.1 + (n : Int), (g.2.2.take m).drop n) (cut_sm hg n m), sB]
  unfold finG cutG
  cases groupB (g.1 + (n : Int), g.2.1 + (n : Int), (g.2.2.take m).drop n) <;> rfl
/-- both loops end at the same places -/
theorem loosen_l (M : Int) (hM : 0 ≤ M) (hM2 : M ≤ 9223372036854775807) (hany : anyB g.2.2 = true) : ∃ n m : Nat, n ≤ m ∧ m ≤ g.2.2.length ∧ (∀ i, i < n → (g.2.2.getD i (0, em)).1 = 1) ∧ (∀ i, m ≤ i → i < g.2.2.length → (g.2.2.getD i (0, em)).1 = 1) ∧
    (∀ t : YGroup, spec_LoosenGroup.l8 M g t 0 (g.2.2.length : Int) = some (finG g n m)) ∧ ∀ t : YGroup, impl_LoosenGroup.l8 M g t 0 (g.2.2.length : Int) = some (finG g n m) := by
  have hL := hg.1
  obtain ⟨p, hp, hp1, hp2⟩ := any_first _ hany
  obtain ⟨q, hq, hq1, hq2⟩ := any_last _ hany
  have hpq : p ≤ q := by
    by_cases h : p ≤ q
    · exact h
    · exact absurd (hq2 p (by omega) hp) hp1
  obtain ⟨n, hn⟩ : ∃ n : Nat, n = if M ≤ (p : Int) then M.toNat else p := ⟨_, rfl⟩
  obtain ⟨m, hm⟩ : ∃ m : Nat, m = if ((q + 1 : Nat) : Int) ≤ (g.2.2.length : Int) - M then ((g.2.2.length : Int) - M).toNat else q + 1 := ⟨_, rfl⟩
  have hnp : n ≤ p := by split at hn <;> omega
  have hmq : q + 1 ≤ m ∧ m ≤ g.2.2.length := by split at hm <;> omega
  have s12 : ∀ (d k : Nat), k - m = d → m ≤ k → k ≤ g.2.2.length → ∀ t : YGroup, spec_LoosenGroup.l12 M g t (n : Int) (k : Int) = some (finG g n m) := by
    intro d
    induction d with
    | zero =>
      intro k hd h1 h2 t
      have hk : k = m := by omega
      have w1 : w64 ((g.2.2.length : Int) - (k : Int)) = (g.2.2.length : Int) - k := w64_id (by omega) (by omega)
      rw [spec_LoosenGroup.l12_eq]
      simp only [w1]
      by_cases c : (g.2.2.length : Int) - (k : Int) < M
      · have hk2 : k = q + 1 := by split at hm <;> omega
        rw [bifT c, dn1 (by omega) (by omega), bif2T (by omega) (by omega)]
        simp only [Int.toNat_natCast]
        have hq1' : ¬ (g.2.2.getD (k - 1) (0, em)).1 = 1 := by rw [hk2]; exact hq1
        rw [bifF hq1', hk]; exact sL17 g hg ha hb _ n m (by omega) (by omega)
      · rw [bifF c, hk]; exact sL17 g hg ha hb _ n m (by omega) (by omega)
    | succ d ih =>
      intro k hd h1 h2 t
      have w1 : w64 ((g.2.2.length : Int) - (k : Int)) = (g.2.2.length : Int) - k := w64_id (by omega) (by omega)
      rw [spec_LoosenGroup.l12_eq]
      simp only [w1]
      rw [bifT (by split at hm <;> omega), dn1 (by omega) (by omega), bif2T (by omega) (by omega)]
      simp only [Int.toNat_natCast]
      rw [bifT (hq2 (k - 1) (by omega) (by omega))]
      exact ih (k - 1) (by omega) (by omega) (by omega) _
  have i12 : ∀ (d k : Nat), k - m = d → m ≤ k → k ≤ g.2.2.length → ∀ t : YGroup, impl_LoosenGroup.l12 M g t (n : Int) (k : Int) = some (finG g n m) := by
    intro d
    induction d with
    | zero =>
      intro k hd h1 h2 t
      have hk : k = m := by omega
      have w1 : w64 ((g.2.2.length : Int) - (k : Int)) = (g.2.2.length : Int) - k := w64_id (by omega) (by omega)
      rw [impl_LoosenGroup.l12_eq]
      simp only [w1]
      by_cases c : (g.2.2.length : Int) - (k : Int) < M
      · have hk2 : k = q + 1 := by split at hm <;> omega
        rw [bifT c, bifT (by omega), dn1 (by omega) (by omega), bif2T (by omega) (by omega)]
        simp only [Int.toNat_natCast]
        have hq1' : ¬ (g.2.2.getD (k - 1) (0, em)).1 = 1 := by rw [hk2]; exact hq1
        rw [bifF hq1', hk]; exact iL17 g hg ha hb _ n m (by omega) (by omega)
      · rw [bifF c, hk]; exact iL17 g hg ha hb _ n m (by omega) (by omega)
    | succ d ih =>
      intro k hd h1 h2 t
      have w1 : w64 ((g.2.2.length : Int) - (k : Int)) = (g.2.2.length : Int) - k := w64_id (by omega) (by omega)
      rw [impl_LoosenGroup.l12_eq]
      simp only [w1]
      rw [bifT (by split at hm <;> omega), bifT (by omega), dn1 (by omega) (by omega), bif2T (by omega) (by omega)]
      simp only [Int.toNat_natCast]
      rw [bifT (hq2 (k - 1) (by omega) (by omega))]
      exact ih (k - 1) (by omega) (by omega) (by omega) _
  have s8 : ∀ (d k : Nat), n - k = d → k ≤ n → ∀ t : YGroup, spec_LoosenGroup.l8 M g t (k : Int) (g.2.2.length : Int) = some (finG g n m) := by
    intro d
    induction d with
    | zero =>
      intro k hd h1 t
      have hk : k = n := by omega
      subst hk
      have e : ∀ t : YGroup, spec_LoosenGroup.l13 M g t (k : Int) (g.2.2.length : Int) = some (finG g k m) := fun t => by
        rw [spec_LoosenGroup.l13_eq]; exact s12 _ g.2.2.length rfl (by omega) (by omega) _
      rw [spec_LoosenGroup.l8_eq]
      by_cases c : (k : Int) < M
      · have hk2 : k = p := by split at hn <;> omega
        rw [bifT c, bif2T (by omega) (by omega)]
        simp only [Int.toNat_natCast]
        have hp1' : ¬ (g.2.2.getD k (0, em)).1 = 1 := by rw [hk2]; exact hp1
        rw [bifF hp1']; exact e _
      · rw [bifF c]; exact e _
    | succ d ih =>
      intro k hd h1 t
      rw [spec_LoosenGroup.l8_eq, bifT (by split at hn <;> omega), bif2T (by omega) (by omega), up1 (by omega)]
      simp only [Int.toNat_natCast]
      rw [bifT (hp2 k (by omega))]
      exact ih (k + 1) (by omega) (by omega) _
  have i8 : ∀ (d k : Nat), n - k = d → k ≤ n → ∀ t : YGroup, impl_LoosenGroup.l8 M g t (k : Int) (g.2.2.length : Int) = some (finG g n m) := by
    intro d
    induction d with
    | zero =>
      intro k hd h1 t
      have hk : k = n := by omega
      subst hk
      have e : ∀ t : YGroup, impl_LoosenGroup.l13 M g t (k : Int) (g.2.2.length : Int) = some (finG g k m) := fun t => by
        rw [impl_LoosenGroup.l13_eq]; exact i12 _ g.2.2.length rfl (by omega) (by omega) _
      rw [impl_LoosenGroup.l8_eq]
      by_cases c : (k : Int) < M
      · have hk2 : k = p := by split at hn <;> omega
        rw [bifT (by omega), bif2T (by omega) (by omega)]
        simp only [Int.toNat_natCast]
        have hp1' : ¬ (g.2.2.getD k (0, em)).1 = 1 := by rw [hk2]; exact hp1
        rw [bifF hp1']; exact e _
      · rw [bifF (by omega)]; exact e _
    | succ d ih =>
      intro k hd h1 t
      rw [impl_LoosenGroup.l8_eq, bifT (by split at hn <;> omega), bif2T (by omega) (by omega), up1 (by omega)]
      simp only [Int.toNat_natCast]
      rw [bifT (hp2 k (by omega))]
      exact ih (k + 1) (by omega) (by omega) _
  exact ⟨n, m, by omega, by omega, fun i hi => hp2 i (by omega), fun i h1 h2 => hq2 i (by omega) h2, s8 n 0 rfl (by omega), i8 n 0 rfl (by omega)⟩
end
/-- what both answer to LoosenGroup -/
theorem loosen_both (g : YGroup) (M : Int) (hM2 : M ≤ 9223372036854775807) (hg : SmR g.2.2) : ∃ r : YGroup × Bool, spec_LoosenGroup.f g M = some r ∧ impl_LoosenGroup.f g M = some r ∧ SmR r.1.2.2 ∧
    (r.2 = true → groupB g = true ∧ groupB r.1 = true ∧ ∃ n m : Nat, n ≤ m ∧ m ≤ g.2.2.length ∧ (∀ i, i < n → (g.2.2.getD i (0, em)).1 = 1) ∧ (∀ i, m ≤ i → i < g.2.2.length → (g.2.2.getD i (0, em)).1 = 1) ∧ r.1 = cutG g n m) ∧ (r.2 = false → r.1 = (0, 0, [])) := by
  have no : SmR ([] : YRowS) := ⟨by simp, fun x hx => by cases hx⟩
  rw [spec_LoosenGroup.f_eq, impl_LoosenGroup.f_eq, sGroup g hg, iGroup g hg, sB, sB]
  cases hgg : groupB g with
  | false => exact ⟨((0, 0, []), false), rfl, rfl, no, by simp, by simp⟩
  | true =>
    rw [notT, notT]
    by_cases hM : M < 0
    · rw [bifT hM, bifT hM]; exact ⟨((0, 0, []), false), rfl, rfl, no, by simp, by simp⟩
    rw [bifF hM, bifF hM, spec_LoosenGroup.l7_eq, impl_LoosenGroup.l7_eq]
    obtain ⟨a1, a2, _⟩ := group_in hgg
    obtain ⟨n, m, h1, h2, h3, h4, hs, hi⟩ := loosen_l g hg a1 a2 M (by omega) hM2 (group_any hgg)
    refine ⟨finG g n m, hs _, hi _, ?_, ?_, ?_⟩
    · unfold finG; split
      · exact cut_sm hg n m
      · exact no
    · unfold finG; split
      · rename_i hc; intro _; exact ⟨rfl, hc, n, m, h1, h2, h3, h4, rfl⟩
      · intro h; cases h
    · unfold finG; split
      · intro h; cases h
      · intro _; rfl
/-- change the last hunk -/
def modL (f : Hk → Hk) (o : List Hk) : List Hk := o.set (o.length - 1) (f (o.getD (o.length - 1) hz))
def incH (x : Hk) : Hk := (x.1, x.2.1 + 1, x.2.2)
def addH (s : ByteArray) (x : Hk) : Hk := (x.1, x.2.1, x.2.2 ++ [s])
def opn (k : Int) (o : List Hk) (b : Bool) : List Hk := if b = true then o else o ++ [(k, 0, [])]
def ghk : YRowS → Int → List Hk → Bool → List Hk
  | [], _, o, _ => o
  | r :: l, k, o, b => if r.1 = 1 then ghk l (k + 1) o false else if r.1 = 2 then ghk l (k + 1) (modL incH (opn k o b)) true else ghk l k (modL (addH r.2) (opn k o b)) true
theorem modL_len (f : Hk → Hk) (o : List Hk) : (modL f o).length = o.length := List.length_set
theorem opn_len (k : Int) (o : List Hk) (b : Bool) (h : b = true → 1 ≤ o.length) : 1 ≤ (opn k o b).length ∧ o.length ≤ (opn k o b).length ∧ (opn k o b).length ≤ o.length + 1 := by
  unfold opn
  split
  · rename_i e; have := h e; omega
  · rw [List.length_append, List.length_singleton]; omega
/-- so much is in them -/
def HkI (i : Nat) (o : List Hk) : Prop := o.length ≤ i ∧ ∀ x ∈ o, 0 ≤ x.2.1 ∧ x.2.1 ≤ (i : Int) ∧ x.2.2.length ≤ i
theorem opn_J {i : Nat} {o : List Hk} (k : Int) (b : Bool) (h : HkI i o) : ∀ x ∈ opn k o b, 0 ≤ x.2.1 ∧ x.2.1 ≤ (i : Int) ∧ x.2.2.length ≤ i := by
  unfold opn
  split
  · exact h.2
  · intro x hx
    rcases List.mem_append.1 hx with hx | hx
    · exact h.2 x hx
    · rw [List.mem_singleton] at hx; subst hx; simp
theorem modL_I {i : Nat} {o : List Hk} (f : Hk → Hk) (h1 : 1 ≤ o.length) (h2 : o.length ≤ i + 1) (h : ∀ x ∈ o, 0 ≤ x.2.1 ∧ x.2.1 ≤ (i : Int) ∧ x.2.2.length ≤ i) (hf : ∀ x : Hk, 0 ≤ x.2.1 ∧ x.2.1 ≤ (i : Int) ∧ x.2.2.length ≤ i → 0 ≤ (f x).2.1 ∧ (f x).2.1 ≤ ((i + 1 : Nat) : Int) ∧ (f x).2.2.length ≤ i + 1) : HkI (i + 1) (modL f o) := by
  refine ⟨by rw [modL_len]; exact h2, fun x hx => ?_⟩
  rcases List.mem_or_eq_of_mem_set hx with hx | rfl
  · have := h x hx; omega
  · exact hf _ (h _ (getD_mem (by omega) _))
theorem iHunksOf (g : YGroup) (k : Int) (hl : g.2.2.length ≤ 1048576) (h0 : 0 ≤ k) (h1 : k ≤ 1048576) : impl_Group_hunks.f g k = some (ghk g.2.2 k [] false) := by
  obtain ⟨ga, gb, l⟩ := g
  simp only at hl
  have key : ∀ i, i ≤ l.length → ∀ (t1 : Int) (out : List Hk) (b : Bool), HkI i out → (b = true → 1 ≤ out.length) → 0 ≤ t1 → t1 ≤ 1048576 + i →
      impl_Group_hunks.l6 t1 out b l (l.length : Int) (i : Int) = some (ghk (l.drop i) t1 out b) := by
    apply downTo
    · intro t1 out b hi hb a0 a1
      rw [impl_Group_hunks.l6_eq, bifF (by omega), List.drop_eq_nil_of_le (by omega)]; rfl
    · intro i hi ih t1 out b hI hb a0 a1
      rw [drop_at hi (0, em), ghk]
      generalize hr : l.getD i (0, em) = r
      have step : ∀ o : List Hk, 1 ≤ o.length → o.length ≤ i + 1 → (∀ x ∈ o, 0 ≤ x.2.1 ∧ x.2.1 ≤ (i : Int) ∧ x.2.2.length ≤ i) →
          impl_Group_hunks.l21 t1 o true r l (l.length : Int) (i : Int) = some (if r.1 = 2 then ghk (l.drop (i + 1)) (t1 + 1) (modL incH o) true else ghk (l.drop (i + 1)) t1 (modL (addH r.2) o) true) := by
        intro o o1 o2 o3
        have hw : w64 ((o.length : Int) - 1) = ((o.length - 1 : Nat) : Int) := by rw [w64_id (by omega) (by omega)]; omega
        have hm := o3 _ (getD_mem (l := o) (i := o.length - 1) (by omega) (0, 0, []))
        rw [impl_Group_hunks.l21_eq, hw, bif2T (by omega) (by omega), up1 (by omega)]
        simp only [Int.toNat_natCast]
        by_cases h2 : r.1 = 2
        · rw [bifT h2, if_pos h2, w64_id (x := t1 + 1) (by omega) (by omega), w64_id (by omega) (by omega)]
          exact ih (t1 + 1) (modL incH o) true (modL_I incH o1 o2 o3 fun x hx => by simp only [incH]; omega) (fun _ => by rw [modL_len]; exact o1) (by omega) (by omega)
        · rw [bifF h2, if_neg h2, room16, bifT (by simp only [List.length_singleton]; omega), bifT trivial]
          exact ih t1 (modL (addH r.2) o) true (modL_I _ o1 o2 o3 fun x hx => by simp only [addH, List.length_append, List.length_singleton]; omega) (fun _ => by rw [modL_len]; exact o1) (by omega) (by omega)
      have hI1 := hI.1
      rw [impl_Group_hunks.l6_eq, bifT (by omega), bif2T (by omega) (by omega), up1 (by omega)]
      simp only [Int.toNat_natCast, hr]
      by_cases h2 : r.1 = 1
      · rw [bifT h2, if_pos h2, w64_id (by omega) (by omega)]
        exact ih (t1 + 1) out false ⟨by omega, fun x hx => by have := hI.2 x hx; omega⟩ (fun e => by cases e) (by omega) (by omega)
      · rw [bifF h2, if_neg h2]
        have ho := opn_len t1 out b hb
        have := step (opn t1 out b) ho.1 (by omega) (opn_J t1 b hI)
        cases b with
        | true => rw [notT]; exact this
        | false => rw [notF, room40, bifT (by simp only [List.length_singleton]; omega)]; exact this
  rw [impl_Group_hunks.f_eq]
  exact key 0 (by omega) k [] false ⟨by simp, fun x hx => by cases hx⟩ (fun e => by cases e) h0 (by omega)
theorem ghk_I : ∀ (l : YRowS) (k : Int) (o : List Hk) (c : Bool) (i : Nat), HkI i o → (c = true → 1 ≤ o.length) → HkI (i + l.length) (ghk l k o c)
  | [], k, o, c, i, h, _ => h
  | r :: l, k, o, c, i, h, hc => by
    have ho := opn_len k o c hc
    have hj := opn_J k c h
    have h1 := h.1
    rw [ghk, List.length_cons, show i + (l.length + 1) = (i + 1) + l.length by omega]
    split
    · exact ghk_I l (k + 1) o false (i + 1) ⟨by omega, fun x hx => by have := h.2 x hx; omega⟩ (fun e => by cases e)
    · split
      · exact ghk_I l (k + 1) _ true (i + 1) (modL_I incH ho.1 (by omega) hj fun x hx => by simp only [incH]; omega) (fun _ => by rw [modL_len]; exact ho.1)
      · exact ghk_I l k _ true (i + 1) (modL_I _ ho.1 (by omega) hj fun x hx => by simp only [addH, List.length_append, List.length_singleton]; omega) (fun _ => by rw [modL_len]; exact ho.1)
/-- every line of them is one of the rows -/
theorem ghk_mem : ∀ (l : YRowS) (k : Int) (o : List Hk) (c : Bool), (c = true → 1 ≤ o.length) → ∀ x ∈ ghk l k o c, ∀ s ∈ x.2.2, (∃ y ∈ o, s ∈ y.2.2) ∨ ∃ r ∈ l, s = r.2
  | [], k, o, c, _, x, hx, s, hs => .inl ⟨x, hx, hs⟩
  | r :: l, k, o, c, h, x, hx, s, hs => by
    have ho := (opn_len k o c h).1
    have hop : ∀ y ∈ opn k o c, ∀ s ∈ y.2.2, ∃ y ∈ o, s ∈ y.2.2 := by
      intro y hy s hs
      unfold opn at hy
      split at hy
      · exact ⟨y, hy, hs⟩
      · rcases List.mem_append.1 hy with hy | hy
        · exact ⟨y, hy, hs⟩
        · rw [List.mem_singleton] at hy; subst hy; cases hs
    rw [ghk] at hx
    split at hx
    · rcases ghk_mem l (k + 1) o false (fun e => by cases e) x hx s hs with h | ⟨q, hq, e⟩
      · exact .inl h
      · exact .inr ⟨q, by simp [hq], e⟩
    · split at hx
      · rcases ghk_mem l (k + 1) _ true (fun _ => by rw [modL_len]; exact ho) x hx s hs with ⟨y, hy, hs⟩ | ⟨q, hq, e⟩
        · rcases List.mem_or_eq_of_mem_set hy with hy | rfl
          · exact .inl (hop y hy s hs)
          · exact .inl (hop _ (getD_mem (by omega) hz) s hs)
        · exact .inr ⟨q, by simp [hq], e⟩
      · rcases ghk_mem l k _ true (fun _ => by rw [modL_len]; exact ho) x hx s hs with ⟨y, hy, hs⟩ | ⟨q, hq, e⟩
        · rcases List.mem_or_eq_of_mem_set hy with hy | rfl
          · exact .inl (hop y hy s hs)
          · simp only [addH] at hs
            rcases List.mem_append.1 hs with hs | hs
            · exact .inl (hop _ (getD_mem (by omega) hz) s hs)
            · exact .inr ⟨r, by simp, List.mem_singleton.1 hs⟩
        · exact .inr ⟨q, by simp [hq], e⟩
theorem sameG1_self (a : YGroup) (h : a.2.2.length ≤ 1048576) : laws_sameGroup.f a a = some true := by
  rw [laws_sameGroup.f_eq, bifNF rfl, bifNF rfl, bifNF rfl, laws_sameGroup.l7_eq]
  have key : ∀ i, i ≤ a.2.2.length → laws_sameGroup.l8 a a (a.2.2.length : Int) (i : Int) = some true := by
    apply downTo
    · rw [laws_sameGroup.l8_eq, bifF (by omega)]
    · intro i hi ih
      rw [laws_sameGroup.l8_eq, bifT (by omega), bif2T (by omega) (by omega), bif2T (by omega) (by omega), up1 (by omega), ih]
      simp
  exact key 0 (by omega)
theorem sameGs_self (a : YGroupS) (h : SmG a) : laws_sameGroups.f a a = some true := by
  have hL := h.1
  rw [laws_sameGroups.f_eq, bifNF rfl]
  have key : ∀ i, i ≤ a.length → laws_sameGroups.l8 a a (a.length : Int) (i : Int) = some true := by
    apply downTo
    · rw [laws_sameGroups.l8_eq, bifF (by omega)]
    · intro i hi ih
      have hm := (h.2 _ (getD_mem hi (0, 0, []))).1
      rw [laws_sameGroups.l8_eq, bifT (by omega), bif2T (by omega) (by omega), bif2T (by omega) (by omega), up1 (by omega), ih]
      simp only [Int.toNat_natCast]
      rw [sameG1_self _ hm, sB, notT]
  exact key 0 (by omega)
theorem side_rows (c k : Int) (t : T) : side c (rowsOf k t) = if k = c then [] else t := by
  induction t with
  | nil => split <;> rfl
  | cons s t ih =>
    rw [show rowsOf k (s :: t) = (k, s) :: rowsOf k t from rfl, side_cons, ih]
    split <;> rfl
theorem seg_app (l : T) {k a b : Nat} (h1 : k ≤ a) (h2 : a ≤ b) : (l.take a).drop k ++ (l.take b).drop a = (l.take b).drop k := by
  by_cases hl : a ≤ l.length
  · have e : l.take b = l.take a ++ (l.take b).drop a := by
      have h := List.take_append_drop a (l.take b)
      rw [List.take_take, Nat.min_eq_left h2] at h
      exact h.symm
    have h3 : (l.take b).drop k = (l.take a).drop k ++ (l.take b).drop a := by
      conv => lhs; rw [e]
      rw [List.drop_append_of_le_length (by rw [List.length_take]; omega)]
    exact h3.symm
  · rw [List.take_of_length_le (show l.length ≤ a by omega), List.take_of_length_le (show l.length ≤ b by omega), List.drop_eq_nil_of_le (show l.length ≤ a by omega), List.append_nil]
/-- the first hunk does not begin ahead of a place -/
def KB (k : Nat) : List Hk → Prop
  | [] => True
  | x :: _ => (k : Int) ≤ x.1
theorem KB_of {k : Nat} {many pe : Int} {h : List Hk} (hb : hunksB many pe h = true) (hk : (k : Int) ≤ pe + 1) : KB k h := by
  cases h with
  | nil => trivial
  | cons x r =>
    obtain ⟨b1, _⟩ := hunksB_cons hb
    have := (oneB_in b1).2.2.2.1
    show (k : Int) ≤ x.1
    omega
/-- what was -/
theorem body_old (l : T) (e : Nat) : ∀ (h : List Hk) (k : Nat) (pe : Int), hunksB (l.length : Int) pe h = true → KB k h → lastE (k : Int) h ≤ (e : Int) → side 3 (body l e k h) = (l.take e).drop k
  | [], k, pe, _, _, _ => by rw [body, side_rows, if_neg (by decide)]
  | x :: r, k, pe, hb, hk, he => by
    obtain ⟨b1, b2⟩ := hunksB_cons hb
    obtain ⟨⟨q1, q2, q3⟩, q4, q5, q6, _⟩ := oneB_in b1
    have hk' : (k : Int) ≤ x.1 := hk
    have e1 : (((x.1 + x.2.1).toNat : Nat) : Int) = x.1 + x.2.1 := by omega
    have he2 : lastE (((x.1 + x.2.1).toNat : Nat) : Int) r ≤ (e : Int) := by rw [e1]; exact he
    have hl := (hunksB_last b2 q3).1
    rw [lastE] at he
    have ih := body_old l e r (x.1 + x.2.1).toNat (x.1 + x.2.1) b2 (KB_of b2 (by omega)) he2
    rw [body, side_append, side_append, side_append, side_rows, side_rows, side_rows, ih, if_neg (by decide), if_neg (by decide), if_pos rfl, List.append_nil, seg_app l (by omega) (by omega), seg_app l (by omega) (by omega)]
theorem pat_from (l : T) {k e : Nat} (h : List Hk) (h1 : k ≤ e) (h2 : KB e h) : pat l k h = (l.take e).drop k ++ pat l e h := by
  cases h with
  | nil =>
    rw [pat, pat]
    by_cases he : e ≤ l.length
    · have := seg_app l (k := k) (a := e) (b := l.length) h1 he
      rw [List.take_length] at this
      exact this.symm
    · rw [List.take_of_length_le (show l.length ≤ e by omega), List.drop_eq_nil_of_le (show l.length ≤ e by omega), List.append_nil]
  | cons x r =>
    have h2' : (e : Int) ≤ x.1 := h2
    rw [pat, pat, ← seg_app l (k := k) (a := e) (b := x.1.toNat) h1 (by omega)]
    simp only [List.append_assoc]
/-- what is -/
theorem body_new (l : T) (e : Nat) (t : List Hk) (ht : KB e t) : ∀ (h : List Hk) (k : Nat) (pe : Int), hunksB (l.length : Int) pe h = true → KB k h → lastE (k : Int) h ≤ (e : Int) → k ≤ e → pat l k (h ++ t) = side 2 (body l e k h) ++ pat l e t
  | [], k, pe, _, _, _, hke => by rw [List.nil_append, body, side_rows, if_neg (by decide)]; exact pat_from l t hke ht
  | x :: r, k, pe, hb, hk, he, hke => by
    obtain ⟨b1, b2⟩ := hunksB_cons hb
    obtain ⟨⟨q1, q2, q3⟩, q4, q5, q6, _⟩ := oneB_in b1
    have hk' : (k : Int) ≤ x.1 := hk
    have e1 : (((x.1 + x.2.1).toNat : Nat) : Int) = x.1 + x.2.1 := by omega
    have he2 : lastE (((x.1 + x.2.1).toNat : Nat) : Int) r ≤ (e : Int) := by rw [e1]; exact he
    have hl := (hunksB_last b2 q3).1
    rw [lastE] at he
    have ih := body_new l e t ht r (x.1 + x.2.1).toNat (x.1 + x.2.1) b2 (KB_of b2 (by omega)) he2 (by omega)
    rw [List.cons_append, pat, ih, body, side_append, side_append, side_append, side_rows, side_rows, side_rows, if_neg (by decide), if_pos rfl, if_neg (by decide), List.append_nil]
    simp only [List.append_assoc]
/-- how many lines are -/
theorem body_cnt (l : T) (e : Nat) (he : e ≤ l.length) : ∀ (h : List Hk) (k : Nat) (pe : Int), hunksB (l.length : Int) pe h = true → KB k h → lastE (k : Int) h ≤ (e : Int) → k ≤ e → ((side 2 (body l e k h)).length : Int) = (e : Int) - k + delta h
  | [], k, pe, _, _, _, hke => by rw [body, side_rows, if_neg (by decide), List.length_drop, List.length_take, delta]; omega
  | x :: r, k, pe, hb, hk, hle, hke => by
    obtain ⟨b1, b2⟩ := hunksB_cons hb
    obtain ⟨⟨q1, q2, q3⟩, q4, q5, q6, _⟩ := oneB_in b1
    have hk' : (k : Int) ≤ x.1 := hk
    have e1 : (((x.1 + x.2.1).toNat : Nat) : Int) = x.1 + x.2.1 := by omega
    have he2 : lastE (((x.1 + x.2.1).toNat : Nat) : Int) r ≤ (e : Int) := by rw [e1]; exact hle
    have hl := (hunksB_last b2 q3).1
    rw [lastE] at hle
    have ih := body_cnt l e he r (x.1 + x.2.1).toNat (x.1 + x.2.1) b2 (KB_of b2 (by omega)) he2 (by omega)
    rw [body, side_append, side_append, side_append, side_rows, side_rows, side_rows, if_neg (by decide), if_pos rfl, if_neg (by decide), delta]
    simp only [List.length_append, List.length_drop, List.length_take, List.length_nil]
    omega
theorem ghk_keep : ∀ (t : T) (R : YRowS) (k : Int) (o : List Hk) (b : Bool), ghk (rowsOf 1 t ++ R) k o b = ghk R (k + t.length) o (b && t.isEmpty)
  | [], R, k, o, b => by simp [rowsOf]
  | s :: t, R, k, o, b => by
    rw [show rowsOf 1 (s :: t) ++ R = (1, s) :: (rowsOf 1 t ++ R) from rfl, ghk, if_pos rfl, ghk_keep t R, Bool.false_and, List.length_cons, show k + 1 + (t.length : Int) = k + ((t.length + 1 : Nat) : Int) by omega]
    simp
theorem modL_app (f : Hk → Hk) (o : List Hk) (x : Hk) : modL f (o ++ [x]) = o ++ [f x] := by
  unfold modL
  have e : (o ++ [x]).length - 1 = o.length := by rw [List.length_append, List.length_singleton]; omega
  rw [e, getD_mid o x []]
  simp
theorem ghk_gone : ∀ (t : T) (R : YRowS) (k a g : Int) (n : T) (o : List Hk), ghk (rowsOf 2 t ++ R) k (o ++ [(a, g, n)]) true = ghk R (k + t.length) (o ++ [(a, g + t.length, n)]) true
  | [], R, k, a, g, n, o => by simp [rowsOf]
  | s :: t, R, k, a, g, n, o => by
    rw [show rowsOf 2 (s :: t) ++ R = (2, s) :: (rowsOf 2 t ++ R) from rfl, ghk, if_neg (by simp), if_pos rfl, show opn k (o ++ [(a, g, n)]) true = o ++ [(a, g, n)] from rfl, modL_app, show incH (a, g, n) = (a, g + 1, n) from rfl, ghk_gone t R]
    rw [List.length_cons, show k + 1 + (t.length : Int) = k + ((t.length + 1 : Nat) : Int) by omega, show g + 1 + (t.length : Int) = g + ((t.length + 1 : Nat) : Int) by omega]
theorem ghk_new : ∀ (t : T) (R : YRowS) (k a g : Int) (n : T) (o : List Hk), ghk (rowsOf 3 t ++ R) k (o ++ [(a, g, n)]) true = ghk R k (o ++ [(a, g, n ++ t)]) true
  | [], R, k, a, g, n, o => by simp [rowsOf]
  | s :: t, R, k, a, g, n, o => by
    rw [show rowsOf 3 (s :: t) ++ R = (3, s) :: (rowsOf 3 t ++ R) from rfl, ghk, if_neg (by simp), if_neg (by simp), show opn k (o ++ [(a, g, n)]) true = o ++ [(a, g, n)] from rfl, modL_app, show addH (3, s).2 (a, g, n) = (a, g, n ++ [s]) from rfl, ghk_new t R]
    simp only [List.append_assoc, List.singleton_append]
theorem ghk_one (t1 t2 : T) (h : ¬ (t1 = [] ∧ t2 = [])) (R : YRowS) (k : Int) (o : List Hk) : ghk (rowsOf 2 t1 ++ (rowsOf 3 t2 ++ R)) k o false = ghk R (k + t1.length) (o ++ [(k, (t1.length : Int), t2)]) true := by
  cases t1 with
  | cons s t =>
    rw [show rowsOf 2 (s :: t) ++ (rowsOf 3 t2 ++ R) = (2, s) :: (rowsOf 2 t ++ (rowsOf 3 t2 ++ R)) from rfl, ghk, if_neg (by simp), if_pos rfl, show opn k o false = o ++ [(k, 0, [])] from rfl, modL_app, show incH (k, 0, []) = (k, 1, []) from rfl, ghk_gone, ghk_new]
    rw [List.length_cons, List.nil_append, show k + 1 + (t.length : Int) = k + ((t.length + 1 : Nat) : Int) by omega, show 1 + (t.length : Int) = ((t.length + 1 : Nat) : Int) by omega]
  | nil =>
    cases t2 with
    | nil => exact absurd ⟨rfl, rfl⟩ h
    | cons s t =>
      rw [show rowsOf 2 [] ++ (rowsOf 3 (s :: t) ++ R) = (3, s) :: (rowsOf 3 t ++ R) from rfl, ghk, if_neg (by simp), if_neg (by simp), show opn k o false = o ++ [(k, 0, [])] from rfl, modL_app, show addH (3, s).2 (k, 0, []) = (k, 0, [s]) from rfl, ghk_new]
      simp
theorem ghk_body (l : T) (e : Nat) : ∀ (h : List Hk) (k : Nat) (pe : Int) (o : List Hk) (b : Bool), hunksB (l.length : Int) pe h = true → (b = true → (k : Int) ≤ pe) → KB k h → k ≤ l.length → ghk (body l e k h) (k : Int) o b = o ++ h
  | [], k, pe, o, b, _, _, _, _ => by
    have := ghk_keep ((l.take e).drop k) [] (k : Int) o b
    rw [List.append_nil] at this
    rw [body, this, ghk, List.append_nil]
  | x :: r, k, pe, o, b, hb, hbk, hk, hkl => by
    obtain ⟨b1, b2⟩ := hunksB_cons hb
    obtain ⟨⟨q1, q2, q3⟩, q4, q5, q6, _⟩ := oneB_in b1
    have hk' : (k : Int) ≤ x.1 := hk
    have hlen : ((l.take x.1.toNat).drop k).length = x.1.toNat - k := by rw [List.length_drop, List.length_take]; omega
    have hlen2 : ((l.take (x.1 + x.2.1).toNat).drop x.1.toNat).length = x.2.1.toNat := by rw [List.length_drop, List.length_take]; omega
    have hf : (b && ((l.take x.1.toNat).drop k).isEmpty) = false := by
      cases b with
      | false => rfl
      | true =>
        have := hbk rfl
        rw [Bool.true_and, List.isEmpty_eq_false_iff]
        intro e0
        rw [e0] at hlen
        simp only [List.length_nil] at hlen
        omega
    have e1 : (((x.1 + x.2.1).toNat : Nat) : Int) = x.1 + x.2.1 := by omega
    rw [body]
    simp only [List.append_assoc]
    rw [ghk_keep, hf, ghk_one _ _ (fun h => q4 ⟨by have := congrArg List.length h.1; rw [hlen2] at this; simp only [List.length_nil] at this; omega, by rw [h.2]; rfl⟩), hlen, hlen2]
    have ih := ghk_body l e r (x.1 + x.2.1).toNat (x.1 + x.2.1) (o ++ [x]) true b2 (fun _ => by omega) (KB_of b2 (by omega)) (by omega)
    rw [show (k : Int) + ((x.1.toNat - k : Nat) : Int) = x.1 by omega, show ((x.2.1.toNat : Nat) : Int) = x.2.1 by omega]
    rw [e1] at ih
    rw [show (((x.1, x.2.1, x.2.2) : Hk)) = x from rfl, ih]
    simp
def lastK (p : Int) (l : YRowS) : Int := match l.getLast? with | none => p | some r => r.1
theorem lastK_app (p : Int) (a b : YRowS) : lastK p (a ++ b) = lastK (lastK p a) b := by
  unfold lastK
  rw [List.getLast?_append]
  cases b.getLast? with
  | none => simp
  | some r => simp
theorem lastE_app : ∀ (a b : List Hk) (e : Int), lastE e (a ++ b) = lastE (lastE e a) b
  | [], b, e => rfl
  | x :: a, b, e => lastE_app a b _
/-- what is known of one group -/
structure OneG (l : T) (w m : Int) (pe : Int) (hs : List Hk) : Prop where
  f0 : 0 ≤ fromG w hs
  fe : fromG w hs ≤ (endG l w hs : Int)
  el : endG l w hs ≤ l.length
  le : lastE ((fromG w hs).toNat : Int) hs ≤ (endG l w hs : Int)
  kb : KB (fromG w hs).toNat hs
  ew : (endG l w hs : Int) ≤ lastE 0 hs + w
  s3 : side 3 (oneG l w m hs).2.2 = (l.take (endG l w hs)).drop (fromG w hs).toNat
  c2 : ((side 2 (oneG l w m hs).2.2).length : Int) = (endG l w hs : Int) - fromG w hs + delta hs
  gA : gA (oneG l w m hs) = (endG l w hs : Int)
  gB : gB (oneG l w m hs) = (endG l w hs : Int) + m + delta hs
  hk : ghk (oneG l w m hs).2.2 (oneG l w m hs).1 [] false = hs
theorem oneG_of (l : T) (w m : Int) (hw : 0 ≤ w) (pe : Int) (hs : List Hk) (hn : hs ≠ []) (hp : pe ≤ (l.length : Int)) (hb : hunksB (l.length : Int) pe hs = true) : OneG l w m pe hs := by
  obtain ⟨x, r, rfl⟩ : ∃ x r, hs = x :: r := by
    cases hs with
    | nil => exact absurd rfl hn
    | cons x r => exact ⟨x, r, rfl⟩
  obtain ⟨b1, b2⟩ := hunksB_cons hb
  obtain ⟨⟨q1, q2, q3⟩, q4, q5, q6, q7⟩ := oneB_in b1
  have hl := hunksB_last b2 q3
  have f0 : 0 ≤ fromG w (x :: r) := by show 0 ≤ max 0 (x.1 - w); omega
  have fx : fromG w (x :: r) ≤ x.1 := by show max 0 (x.1 - w) ≤ x.1; omega
  have e0 : (endG l w (x :: r) : Int) = min (l.length : Int) (lastE (x.1 + x.2.1) r + w) := by
    show (((min (l.length : Int) (lastE (x.1 + x.2.1) r + w)).toNat : Nat) : Int) = _
    omega
  have tn : (((fromG w (x :: r)).toNat : Nat) : Int) = fromG w (x :: r) := by omega
  have fe : fromG w (x :: r) ≤ (endG l w (x :: r) : Int) := by omega
  have el : endG l w (x :: r) ≤ l.length := by omega
  have le : lastE ((fromG w (x :: r)).toNat : Int) (x :: r) ≤ (endG l w (x :: r) : Int) := by rw [lastE]; omega
  have kb : KB (fromG w (x :: r)).toNat (x :: r) := by show (((fromG w (x :: r)).toNat : Nat) : Int) ≤ x.1; omega
  have s3 : side 3 (oneG l w m (x :: r)).2.2 = (l.take (endG l w (x :: r))).drop (fromG w (x :: r)).toNat := body_old l _ _ _ pe hb kb le
  have c2 : ((side 2 (oneG l w m (x :: r)).2.2).length : Int) = (endG l w (x :: r) : Int) - fromG w (x :: r) + delta (x :: r) := by
    have := body_cnt l (endG l w (x :: r)) el _ _ pe hb kb le (by omega)
    rw [tn] at this
    exact this
  refine ⟨f0, fe, el, le, kb, by rw [e0, lastE]; omega, s3, c2, ?_, ?_, ?_⟩
  · unfold Go.Abs.G.gA
    rw [s3, List.length_drop, List.length_take]
    show fromG w (x :: r) + _ = _
    omega
  · unfold Go.Abs.G.gB
    rw [c2]
    show fromG w (x :: r) + m + _ = _
    omega
  · have := ghk_body l (endG l w (x :: r)) _ _ pe [] false hb (fun h => by cases h) kb (by omega)
    rw [tn, List.nil_append] at this
    exact this
theorem grp_each (l : T) (w : Int) (hw : 0 ≤ w) : ∀ (n : Nat) (h : List Hk) (m pe : Int), hunksB (l.length : Int) pe h = true → pe ≤ (l.length : Int) → ∀ y ∈ grp l w n m h, ∃ m' pe' hs, y = oneG l w m' hs ∧ hs ≠ [] ∧ hunksB (l.length : Int) pe' hs = true ∧ OneG l w m' pe' hs ∧ hs.length ≤ h.length
  | 0, h, m, pe, _, _, y, hy => by cases hy
  | n + 1, [], m, pe, _, _, y, hy => by cases hy
  | n + 1, x :: r, m, pe, hb, hpe, y, hy => by
    rw [grp] at hy
    generalize hj : near w (x.1 + x.2.1) r = j at hy
    have hsplit : (x :: r.take j) ++ r.drop j = x :: r := by rw [List.cons_append, List.take_append_drop]
    have hbs := hb
    rw [← hsplit] at hbs
    obtain ⟨hb1, hb2⟩ := hunksB_split hbs
    have hle := hunksB_last hb1 hpe
    rcases List.mem_cons.1 hy with rfl | hy
    · exact ⟨m, pe, _, rfl, by simp, hb1, oneG_of l w m hw pe _ (by simp) hpe hb1, by simp only [List.length_cons, List.length_take]; omega⟩
    · obtain ⟨m', pe', hs, h1, h2, h3, h4, h5⟩ := grp_each l w hw n (r.drop j) _ _ hb2 hle.2 y hy
      exact ⟨m', pe', hs, h1, h2, h3, h4, by rw [List.length_drop] at h5; rw [List.length_cons]; omega⟩
theorem grp_len (l : T) (w : Int) : ∀ (n : Nat) (h : List Hk) (m : Int), (grp l w n m h).length ≤ h.length
  | 0, h, m => by rw [grp]; simp
  | n + 1, [], m => by rw [grp]; simp
  | n + 1, x :: r, m => by
    have := grp_len l w n (r.drop (near w (x.1 + x.2.1) r)) (m + delta (x :: r.take (near w (x.1 + x.2.1) r)))
    rw [grp, List.length_cons, List.length_cons]
    rw [List.length_drop] at this
    omega
theorem body_snoc (l : T) (e : Nat) (x : Hk) : ∀ (o : List Hk) (j : Nat), body l e j (o ++ [x]) = ((body l x.1.toNat j o ++ rowsOf 2 ((l.take (x.1 + x.2.1).toNat).drop x.1.toNat)) ++ rowsOf 3 x.2.2) ++ rowsOf 1 ((l.take e).drop (x.1 + x.2.1).toNat)
  | [], j => rfl
  | y :: o, j => by
    rw [List.cons_append, body, body_snoc l e x o, body]
    simp only [List.append_assoc]
theorem hunksB_snoc {many : Int} {x : Hk} : ∀ (o : List Hk) (pe : Int), hunksB many pe (o ++ [x]) = (hunksB many pe o && oneB many (lastE pe o) x)
  | [], pe => by show (oneB many pe x && true) = (true && oneB many pe x); rw [Bool.and_true, Bool.true_and]
  | y :: o, pe => by
    show (oneB many pe y && hunksB many (y.1 + y.2.1) (o ++ [x])) = ((oneB many pe y && hunksB many (y.1 + y.2.1) o) && _)
    rw [hunksB_snoc o, Bool.and_assoc]; rfl
theorem seg_snoc (l : T) {a k : Nat} (h1 : a ≤ k) (h2 : k < l.length) : (l.take (k + 1)).drop a = (l.take k).drop a ++ [l.getD k em] := by
  have e : l.getD k em = l[k] := by simp [List.getD, h2]
  rw [List.take_succ_eq_append_getElem h2, List.drop_append_of_le_length (by rw [List.length_take]; omega), e]
theorem rowsOf_snoc (c : Int) (t : T) (s : ByteArray) : rowsOf c (t ++ [s]) = rowsOf c t ++ [(c, s)] := by simp [rowsOf]
theorem seg_nil (l : T) (k : Nat) : (l.take k).drop k = [] := List.drop_eq_nil_of_le (by rw [List.length_take]; omega)
theorem one_snoc {many : Int} {pe : Int} (x : Hk) (h : okP many x) (h1 : ¬ (x.2.1 = 0 ∧ x.2.2.length = 0)) (h2 : x.2.2.length ≤ 40) (h3 : pe < x.1) (h4 : allLines x.2.2 = true) : oneB many pe x = true := by
  unfold oneB
  simp only [Bool.and_eq_true, decide_eq_true_eq]
  exact ⟨⟨h, h1, h2, h3⟩, h4⟩
theorem lastK_snoc (p : Int) (P : YRowS) (r : YRow) : lastK p (P ++ [r]) = r.1 := by
  rw [lastK_app]; rfl
theorem lines_snoc {n : T} {s : ByteArray} (h : allLines n = true) (hs : lineP s) : allLines (n ++ [s]) = true := by
  refine allLines_of fun t ht => ?_
  rcases List.mem_append.1 ht with ht | ht
  · exact allLines_mem h t ht
  · rw [List.mem_singleton] at ht; subst ht; exact hs
theorem ghk_inv (L : T) : ∀ (R P : YRowS) (k : Nat) (o : List Hk) (b : Bool), L = side 3 P ++ side 3 R → k = (side 3 P).length → rowsB (lastK 0 P) R = true → (side 2 P).length + (side 2 R).length ≤ 40 → P = body L k 0 o → hunksB (L.length : Int) (-1) o = true →
    (b = true → ∃ o1 a g n, o = o1 ++ [(a, g, n)] ∧ a + g = (k : Int) ∧ (lastK 0 P ≠ 3 → n = [])) → (b = false → lastE (-1) o < (k : Int)) → lastE (-1) o ≤ (k : Int) → P ++ R = body L L.length 0 (ghk R (k : Int) o b) ∧ hunksB (L.length : Int) (-1) (ghk R (k : Int) o b) = true
  | [], P, k, o, b, hL, hk, _, _, hP, ho, _, _, _ => by
    have e : k = L.length := by rw [hL, hk]; simp [side]
    rw [List.append_nil, ghk, ← e]
    exact ⟨hP, by rw [e]; exact ho⟩
  | r :: R, P, k, o, b, hL, hk, hr, h40, hP, ho, hbt, hbf, hle => by
    obtain ⟨c, s⟩ := r
    rw [rowsB] at hr
    simp only [Bool.and_eq_true, decide_eq_true_eq] at hr
    obtain ⟨hc, hs, hnp, hr⟩ := hr
    have hPR : P ++ (c, s) :: R = (P ++ [(c, s)]) ++ R := by simp
    have hcases : c = 1 ∨ c = 2 ∨ c = 3 := by omega
    have hpre : c ≠ 3 → k < L.length ∧ L.getD k em = s := by
      intro h3
      have hL2 := hL
      rw [side_cons, if_neg h3] at hL2
      refine ⟨by rw [hL2, hk]; simp, ?_⟩
      rw [hL2, hk]
      exact getD_mid _ _ _ _
    have hside3 : c ≠ 3 → L = side 3 (P ++ [(c, s)]) ++ side 3 R := by
      intro h3
      have hL2 := hL
      rw [side_cons, if_neg h3] at hL2
      rw [side_append, show side 3 [((c, s) : YRow)] = [s] by rw [side_cons, if_neg h3]; rfl, List.append_assoc]
      exact hL2
    have hlen3 : c ≠ 3 → k + 1 = (side 3 (P ++ [(c, s)])).length := by
      intro h3
      rw [side_append, show side 3 [((c, s) : YRow)] = [s] by rw [side_cons, if_neg h3]; rfl, List.length_append, List.length_singleton, hk]
    have h40' : (side 2 (P ++ [(c, s)])).length + (side 2 R).length ≤ 40 := by
      rw [side_append, List.length_append]
      rw [side_cons] at h40
      rw [side_cons]
      split
      · rename_i h2; rw [if_pos h2] at h40; simpa [side] using h40
      · rename_i h2; rw [if_neg h2] at h40; simp only [List.length_cons] at h40; simp only [side, List.length_cons, List.length_nil]; omega
    have hlk : lastK 0 (P ++ [(c, s)]) = c := lastK_snoc 0 P (c, s)
    have hr' : rowsB (lastK 0 (P ++ [(c, s)])) R = true := by rw [hlk]; exact hr
    rw [hPR, ghk]
    rcases hcases with h1 | h2 | h3
    · -- kept
      subst h1
      obtain ⟨hkl, hks⟩ := hpre (by decide)
      rw [if_pos rfl]
      have hb : P ++ [((1 : Int), s)] = body L (k + 1) 0 o := by
        rw [hP]
        rcases List.eq_nil_or_concat o with rfl | ⟨o1, x, rfl⟩
        · rw [body, body, seg_snoc L (by omega) hkl, rowsOf_snoc, hks]
        · rw [List.concat_eq_append] at hle ⊢
          rw [lastE_app] at hle
          have hle2 : x.1 + x.2.1 ≤ (k : Int) := hle
          rw [body_snoc, body_snoc, seg_snoc L (by omega) hkl, rowsOf_snoc, hks]
          simp only [List.append_assoc]
      have := ghk_inv L R (P ++ [(1, s)]) (k + 1) o false (hside3 (by decide)) (hlen3 (by decide)) hr' h40' hb ho (fun h => by cases h) (fun _ => by omega) (by omega)
      rw [show (k : Int) + 1 = ((k + 1 : Nat) : Int) by omega]
      exact this
    · -- gone
      subst h2
      obtain ⟨hkl, hks⟩ := hpre (by decide)
      have hp3 : lastK 0 P ≠ 3 := fun h => hnp ⟨rfl, h⟩
      rw [if_neg (by simp), if_pos rfl]
      cases b with
      | false =>
        have hlt := hbf rfl
        rw [show opn (k : Int) o false = o ++ [((k : Int), 0, [])] from rfl, modL_app, show incH ((k : Int), 0, []) = ((k : Int), 1, []) from rfl]
        have hb : P ++ [((2 : Int), s)] = body L (k + 1) 0 (o ++ [((k : Int), 1, [])]) := by
          rw [body_snoc]
          simp only [Int.toNat_natCast]
          rw [show ((k : Int) + 1).toNat = k + 1 by omega, ← hP, seg_snoc L (Nat.le_refl k) hkl, seg_nil, seg_nil, hks]
          simp [rowsOf]
        have hh : hunksB (L.length : Int) (-1) (o ++ [((k : Int), 1, [])]) = true := by
          rw [hunksB_snoc, ho, Bool.true_and]
          exact one_snoc _ ⟨by simp only; omega, by simp only; omega, by simp only; omega⟩ (fun h => by cases h.1) (by simp) hlt rfl
        have := ghk_inv L R (P ++ [(2, s)]) (k + 1) _ true (hside3 (by decide)) (hlen3 (by decide)) hr' h40' hb hh (fun _ => ⟨o, _, _, _, rfl, by omega, fun _ => rfl⟩) (fun h => by cases h) (by rw [lastE_app]; simp only [lastE]; omega)
        rw [show (k : Int) + 1 = ((k + 1 : Nat) : Int) by omega]
        exact this
      | true =>
        obtain ⟨o1, a, g, n, rfl, hag, hn⟩ := hbt rfl
        have hn0 := hn hp3
        subst hn0
        rw [hunksB_snoc, Bool.and_eq_true] at ho
        obtain ⟨⟨q1, q2, q3⟩, q4, q5, q6, q7⟩ := oneB_in ho.2
        simp only at q1 q2 q3 q4 q5 q6
        rw [show opn (k : Int) (o1 ++ [(a, g, [])]) true = o1 ++ [(a, g, [])] from rfl, modL_app, show incH (a, g, []) = (a, g + 1, []) from rfl]
        have hb : P ++ [((2 : Int), s)] = body L (k + 1) 0 (o1 ++ [(a, g + 1, [])]) := by
          rw [body_snoc] at hP
          rw [body_snoc, hP]
          simp only
          rw [show (a + g).toNat = k by omega, show (a + (g + 1)).toNat = k + 1 by omega, seg_snoc L (show a.toNat ≤ k by omega) hkl, seg_nil, seg_nil, rowsOf_snoc, hks]
          simp [rowsOf]
        have hh : hunksB (L.length : Int) (-1) (o1 ++ [(a, g + 1, [])]) = true := by
          rw [hunksB_snoc, ho.1, Bool.true_and]
          exact one_snoc _ ⟨q1, by simp only; omega, by simp only; omega⟩ (fun h => by have := h.1; simp only at this; omega) (by simp) q6 rfl
        have := ghk_inv L R (P ++ [(2, s)]) (k + 1) _ true (hside3 (by decide)) (hlen3 (by decide)) hr' h40' hb hh (fun _ => ⟨o1, _, _, _, rfl, by omega, fun _ => rfl⟩) (fun h => by cases h) (by rw [lastE_app]; simp only [lastE]; omega)
        rw [show (k : Int) + 1 = ((k + 1 : Nat) : Int) by omega]
        exact this
    · -- new
      subst h3
      rw [if_neg (by simp), if_neg (by simp)]
      have hL3 : L = side 3 (P ++ [((3 : Int), s)]) ++ side 3 R := by
        rw [side_append, show side 3 [(((3 : Int), s) : YRow)] = [] by rw [side_cons, if_pos rfl]; rfl, List.append_nil]
        rw [side_cons, if_pos rfl] at hL
        exact hL
      have hk3 : k = (side 3 (P ++ [((3 : Int), s)])).length := by
        rw [side_append, show side 3 [(((3 : Int), s) : YRow)] = [] by rw [side_cons, if_pos rfl]; rfl, List.append_nil]
        exact hk
      have hkL : k ≤ L.length := by rw [hL, hk, List.length_append]; omega
      cases b with
      | false =>
        have hlt := hbf rfl
        rw [show opn (k : Int) o false = o ++ [((k : Int), 0, [])] from rfl, modL_app, show addH ((3 : Int), s).2 ((k : Int), 0, []) = ((k : Int), 0, [s]) from rfl]
        have hb : P ++ [((3 : Int), s)] = body L k 0 (o ++ [((k : Int), 0, [s])]) := by
          rw [body_snoc]
          simp only [Int.toNat_natCast]
          rw [show ((k : Int) + 0).toNat = k by omega, ← hP, seg_nil]
          simp [rowsOf]
        have hh : hunksB (L.length : Int) (-1) (o ++ [((k : Int), 0, [s])]) = true := by
          rw [hunksB_snoc, ho, Bool.true_and]
          exact one_snoc _ ⟨by simp only; omega, by simp only; omega, by simp only; omega⟩ (fun h => by have := h.2; simp at this) (by simp) hlt (lines_snoc (n := []) rfl hs)
        exact ghk_inv L R (P ++ [(3, s)]) k _ true hL3 hk3 hr' h40' hb hh (fun _ => ⟨o, _, _, _, rfl, by omega, fun h => absurd hlk h⟩) (fun h => by cases h) (by rw [lastE_app]; simp only [lastE]; omega)
      | true =>
        obtain ⟨o1, a, g, n, rfl, hag, hn⟩ := hbt rfl
        rw [hunksB_snoc, Bool.and_eq_true] at ho
        obtain ⟨⟨q1, q2, q3⟩, q4, q5, q6, q7⟩ := oneB_in ho.2
        simp only at q1 q2 q3 q4 q5 q6 q7
        rw [show opn (k : Int) (o1 ++ [(a, g, n)]) true = o1 ++ [(a, g, n)] from rfl, modL_app, show addH ((3 : Int), s).2 (a, g, n) = (a, g, n ++ [s]) from rfl]
        have hb : P ++ [((3 : Int), s)] = body L k 0 (o1 ++ [(a, g, n ++ [s])]) := by
          rw [body_snoc] at hP
          rw [body_snoc, hP]
          simp only
          rw [show (a + g).toNat = k by omega, seg_nil, rowsOf_snoc]
          simp [rowsOf]
        have hn40 : n.length + 1 ≤ 40 := by
          have h2 : (side 2 P).length + (1 + (side 2 R).length) ≤ 40 := by
            rw [side_cons, if_neg (by simp)] at h40
            simp only [List.length_cons] at h40; omega
          have h3 : n.length ≤ (side 2 P).length := by
            rw [hP, body_snoc, side_append, side_append, side_rows, side_rows, if_neg (by decide)]
            simp only [List.length_append]; omega
          omega
        have hh : hunksB (L.length : Int) (-1) (o1 ++ [(a, g, n ++ [s])]) = true := by
          rw [hunksB_snoc, ho.1, Bool.true_and]
          exact one_snoc _ ⟨q1, q2, q3⟩ (fun h => by have := h.2; simp at this) (by simp only [List.length_append, List.length_singleton]; omega) q6 (lines_snoc q7 hs)
        exact ghk_inv L R (P ++ [(3, s)]) k _ true hL3 hk3 hr' h40' hb hh (fun _ => ⟨o1, _, _, _, rfl, hag, fun h => absurd hlk h⟩) (fun h => by cases h) (by rw [lastE_app]; simp only [lastE]; omega)
/-- the hunks of a good group, on what was -/
theorem group_hunks {g : YGroup} (h : groupB g = true) : g.2.2 = body (side 3 g.2.2) (side 3 g.2.2).length 0 (ghk g.2.2 0 [] false) ∧ hunksB ((side 3 g.2.2).length : Int) (-1) (ghk g.2.2 0 [] false) = true := by
  have hs := group_sides h
  have h2 := good_len hs.2
  have := ghk_inv (side 3 g.2.2) g.2.2 [] 0 [] false rfl rfl (group_rows h) (by simp [side]; omega) (by simp [body, rowsOf]) rfl (fun h => by cases h) (fun _ => by simp only [lastE]; omega) (by simp only [lastE]; omega)
  rw [List.nil_append] at this
  exact this
/-- what the hunks of a good group make of what was -/
theorem group_pat {g : YGroup} (h : groupB g = true) : pat (side 3 g.2.2) 0 (ghk g.2.2 0 [] false) = side 2 g.2.2 := by
  obtain ⟨h1, h2⟩ := group_hunks h
  have hl := hunksB_last h2 (by omega)
  have hle : lastE ((0 : Nat) : Int) (ghk g.2.2 0 [] false) ≤ ((side 3 g.2.2).length : Int) := by
    cases hh : ghk g.2.2 0 [] false with
    | nil => simp only [lastE]; omega
    | cons x r => rw [hh] at hl; exact hl.2
  have := body_new (side 3 g.2.2) (side 3 g.2.2).length [] trivial (ghk g.2.2 0 [] false) 0 (-1) h2 (KB_of h2 (by omega)) hle (by omega)
  rw [List.append_nil, pat, List.drop_length, List.append_nil, ← h1] at this
  exact this
theorem iRow (k : Int) (t : T) (x : YGroup) (h : x.2.2.length + t.length ≤ 1048576) : impl_groupsOf_1.f k t x = some (x.1, x.2.1, x.2.2 ++ rowsOf k t) := by
  obtain ⟨a, b, rs⟩ := x
  simp only at h ⊢
  have key : ∀ i, i ≤ t.length → ∀ (r : YRowS), r.length + (t.length - i) ≤ 1048576 → impl_groupsOf_1.l2 k t (a, b, r) t (t.length : Int) (i : Int) = some (a, b, r ++ rowsOf k (t.drop i)) := by
    apply downTo
    · intro r _
      rw [impl_groupsOf_1.l2_eq, bifF (by omega), List.drop_eq_nil_of_le (by omega)]
      simp [rowsOf]
    · intro i hi ih r hr
      rw [impl_groupsOf_1.l2_eq, bifT (by omega), bif2T (by omega) (by omega), up1 (by omega), room24]
      simp only [Int.toNat_natCast]
      rw [bifT (by simp only [List.length_singleton]; omega), ih _ (by rw [List.length_append, List.length_singleton]; omega), drop_at hi em]
      simp [rowsOf]
  rw [impl_groupsOf_1.f_eq]
  exact key 0 (by omega) rs (by omega)
section
variable (l : T) (hl : l.length ≤ 40) (w : Int) (hw : 0 ≤ w ∧ w ≤ 20) (h : List Hk) (h20 : h.length ≤ 20) (hb : hunksB (l.length : Int) (-1) h = true)
include hl hw h20 hb
theorem iG10 (out : YGroupS) (m : Int) (i : Nat) : ∀ (s c : List Hk) (y : Hk), h = c ++ y :: s →
    impl_groupsOf.l10 l h w out m (i : Int) (c.length : Int) = impl_groupsOf.l15 l h w out m (i : Int) ((c.length + near w (y.1 + y.2.1) s : Nat) : Int) := by
  intro s
  induction s with
  | nil =>
    intro c y hf
    have hlen : h.length = c.length + 1 := by rw [hf, List.length_append, List.length_singleton]
    rw [impl_groupsOf.l10_eq, w64_id (x := (c.length : Int) + 1) (by omega) (by omega), bifF (by omega)]; rfl
  | cons z s ih =>
    intro c y hf
    have hlen : h.length = c.length + 1 + (s.length + 1) := by rw [hf, List.length_append, List.length_cons, List.length_cons]; omega
    have hy : h.getD c.length (0, 0, []) = y := by rw [hf]; exact getD_mid _ _ _ _
    have hz : h.getD (c.length + 1) (0, 0, []) = z := by
      have e : h = (c ++ [y]) ++ z :: s := by rw [hf]; simp
      have e2 : c.length + 1 = (c ++ [y]).length := by simp only [List.length_append, List.length_singleton]
      rw [e2, e]; exact getD_mid _ _ _ _
    have my := hunksB_mem hb y (by rw [hf]; simp)
    have mz := hunksB_mem hb z (by rw [hf]; simp)
    rw [impl_groupsOf.l10_eq, up1 (by omega), bifT (by omega), bif2T (by omega) (by omega), bif2T (by omega) (by omega), bif2T (by omega) (by omega)]
    simp only [Int.toNat_natCast, hy, hz]
    rw [w64_id (x := y.1 + y.2.1) (by omega) (by omega), w64_id (x := z.1 - (y.1 + y.2.1)) (by omega) (by omega), w64_id (x := 2 * w) (by omega) (by omega)]
    by_cases c1 : z.1 - (y.1 + y.2.1) ≤ 2 * w
    · rw [bifT c1]
      have := ih (c ++ [y]) z (by rw [hf]; simp)
      have e2 : (c ++ [y]).length = c.length + 1 := by simp
      rw [e2] at this
      rw [this, near, if_pos c1]
      congr 1; omega
    · rw [bifF c1, near, if_neg c1]; rfl
theorem iG22 (out : YGroupS) (ho : out.length ≤ 20) (a b : Int) (e : Nat) (he : e ≤ l.length) (last : Nat) : ∀ (cr pre rest : List Hk) (k : Nat) (pe m : Int) (rs : YRowS), h = pre ++ (cr ++ rest) → last + 1 = pre.length + cr.length → hunksB (l.length : Int) pe cr = true → KB k cr → lastE (k : Int) cr ≤ (e : Int) →
    rs.length + 200 * cr.length ≤ 10000 → -10000 ≤ m - 40 * (cr.length : Int) → m + 40 * (cr.length : Int) ≤ 10000 →
    impl_groupsOf.l22 l h w out m (pre.length : Int) (last : Int) (k : Int) (e : Int) (a, b, rs) = impl_groupsOf.l6 l h w (out ++ [(a, b, rs ++ body l e k cr)]) (m + delta cr) ((pre.length + cr.length : Nat) : Int) := by
  intro cr
  induction cr with
  | nil =>
    intro pre rest k pe m rs hf hla hcb hk hle h1 h2 h3
    simp only [List.length_nil] at hla h1 ⊢
    have hke : (k : Int) ≤ (e : Int) := hle
    rw [impl_groupsOf.l22_eq, bifF (by omega), bif3T (by omega) (by omega) (by omega)]
    simp only [Int.toNat_natCast]
    rw [iRow 1 _ (a, b, rs) (by simp only [List.length_drop, List.length_take]; omega), sB, room40]
    simp only
    rw [bifT (by simp only [List.length_singleton]; omega), body, delta]
    simp
  | cons x r ih =>
    intro pre rest k pe m rs hf hla hcb hk hle h1 h2 h3
    obtain ⟨b1, b2⟩ := hunksB_cons hcb
    obtain ⟨⟨q1, q2, q3⟩, q4, q5, q6, q7⟩ := oneB_in b1
    have hk' : (k : Int) ≤ x.1 := hk
    have hlen : h.length = pre.length + (r.length + 1 + rest.length) := by rw [hf]; simp only [List.length_append, List.length_cons]
    have hg : h.getD pre.length (0, 0, []) = x := by rw [hf]; exact getD_mid pre x (r ++ rest) _
    rw [List.length_cons] at hla h1 h2 h3
    have e1 : (((x.1 + x.2.1).toNat : Nat) : Int) = x.1 + x.2.1 := by omega
    have hle2 : lastE (((x.1 + x.2.1).toNat : Nat) : Int) r ≤ (e : Int) := by rw [e1]; exact hle
    rw [impl_groupsOf.l22_eq, bifT (by omega), bif2T (by omega) (by omega)]
    simp only [Int.toNat_natCast, hg]
    rw [bif3T (by omega) (by omega) (by omega), iRow 1 _ (a, b, rs) (by simp only [List.length_drop, List.length_take]; omega), sB]
    simp only
    rw [w64_id (x := x.1 + x.2.1) (by omega) (by omega), bif3T (by omega) (by omega) (by omega), iRow 2 _ _ (by simp only [List.length_append, rowsOf_len, List.length_drop, List.length_take]; omega), sB]
    simp only
    rw [iRow 3 _ _ (by simp only [List.length_append, rowsOf_len, List.length_drop, List.length_take]; omega), sB, up1 (by omega), w64_id (x := (x.2.2.length : Int) - x.2.1) (by omega) (by omega), w64_id (x := m + ((x.2.2.length : Int) - x.2.1)) (by omega) (by omega)]
    have := ih (pre ++ [x]) rest (x.1 + x.2.1).toNat (x.1 + x.2.1) (m + ((x.2.2.length : Int) - x.2.1)) (((rs ++ rowsOf 1 ((l.take x.1.toNat).drop k)) ++ rowsOf 2 ((l.take (x.1 + x.2.1).toNat).drop x.1.toNat)) ++ rowsOf 3 x.2.2) (by rw [hf]; simp) (by rw [List.length_append, List.length_singleton]; omega) b2 (KB_of b2 (by omega)) hle2 (by simp only [List.length_append, rowsOf_len, List.length_drop, List.length_take]; omega) (by omega) (by omega)
    rw [List.length_append, List.length_singleton, e1] at this
    refine this.trans ?_
    rw [body, delta, List.length_cons]
    congr 1
    · simp only [List.append_assoc]
    · omega
    · omega
theorem iG6 : ∀ (n : Nat) (rest pre : List Hk) (out : YGroupS) (m : Int), rest.length ≤ n → h = pre ++ rest → out.length ≤ pre.length → -(40 * (pre.length : Int)) ≤ m ∧ m ≤ 40 * (pre.length : Int) →
    impl_groupsOf.l6 l h w out m (pre.length : Int) = some (out ++ grp l w n m rest) := by
  intro n
  induction n with
  | zero =>
    intro rest pre out m hn hf ho hm
    have hr : rest = [] := List.length_eq_zero_iff.1 (by omega)
    have : h.length = pre.length := by rw [hf, hr]; simp
    rw [impl_groupsOf.l6_eq, bifF (by omega)]; simp [grp]
  | succ n ih =>
    intro rest pre out m hn hf ho hm
    cases rest with
    | nil =>
      have : h.length = pre.length := by rw [hf]; simp
      rw [impl_groupsOf.l6_eq, bifF (by omega)]; simp [grp]
    | cons x r =>
      have hlen : h.length = pre.length + (r.length + 1) := by rw [hf]; simp
      have hK := near_le w r (x.1 + x.2.1)
      have h10 := iG10 l hl w hw h h20 hb out m pre.length r pre x hf
      rw [impl_groupsOf.l6_eq, bifT (by omega), h10]
      unfold grp
      generalize near w (x.1 + x.2.1) r = K at hK
      have e0 : h = pre ++ ((x :: r.take K) ++ r.drop K) := by rw [hf, List.cons_append, List.take_append_drop]
      have hcl : (x :: r.take K).length = K + 1 := by rw [List.length_cons, List.length_take]; omega
      have hall := hunksB_mem hb
      have hsub : ∀ y ∈ x :: r.take K, y ∈ h := fun y hy => by rw [e0]; simp only [List.mem_append]; exact .inr (.inl hy)
      have hbb := hb
      rw [e0] at hbb
      obtain ⟨hb1, hb2⟩ := hunksB_split hbb
      obtain ⟨hb3, hb4⟩ := hunksB_split hb2
      have hpel := (hunksB_last hb1 (by omega)).2
      generalize hpe : lastE (-1) pre = pe at hb2 hb3 hb4 hpel
      have O := oneG_of l w m hw.1 pe (x :: r.take K) (by simp) hpel hb3
      have hcd : ∀ y ∈ x :: r.take K, 0 ≤ y.2.1 ∧ y.2.1 ≤ 40 ∧ y.2.2.length ≤ 40 := fun y hy => by
        have := hall y (hsub y hy); omega
      have hdl := delta_le hcd
      have hx := hall x (hsub x (by simp))
      have hgx : h.getD pre.length (0, 0, []) = x := by rw [hf]; exact getD_mid _ _ _ _
      have hly : h.getD (pre.length + K) (0, 0, []) = (x :: r.take K).getD K (0, 0, []) := by
        rw [e0]
        simp only [List.getD, List.getElem?_append_right (show pre.length ≤ pre.length + K by omega), Nat.add_sub_cancel_left]
        rw [List.getElem?_append_left (by omega)]
      have hmy := hall _ (hsub _ (getD_mem (l := x :: r.take K) (i := K) (by omega) (0, 0, [])))
      have hle := lastE_get (x :: r.take K) 0 (by simp)
      rw [hcl, Nat.add_sub_cancel] at hle
      have hend : (endG l w (x :: r.take K) : Int) = min (l.length : Int) (lastE 0 (x :: r.take K) + w) := by
        unfold endG
        omega
      have hfrom : fromG w (x :: r.take K) = max 0 (x.1 - w) := rfl
      have o1 := O.f0
      have o3 := O.el
      have tn : (((fromG w (x :: r.take K)).toNat : Nat) : Int) = fromG w (x :: r.take K) := by omega
      rw [impl_groupsOf.l15_eq, bif2T (by omega) (by omega), bif2T (by omega) (by omega), bif2T (by omega) (by omega)]
      simp only [Int.toNat_natCast, hgx, hly]
      rw [w64_id (x := x.1 - w) (by omega) (by omega), w64_id (x := ((x :: r.take K).getD K (0, 0, [])).1 + ((x :: r.take K).getD K (0, 0, [])).2.1) (by omega) (by omega), ← hle, w64_id (x := lastE 0 (x :: r.take K) + w) (by omega) (by omega)]
      rw [show min (lastE 0 (x :: r.take K) + w) (l.length : Int) = (endG l w (x :: r.take K) : Int) by rw [hend]; omega, show max (x.1 - w) 0 = fromG w (x :: r.take K) by rw [hfrom]; omega, w64_id (x := fromG w (x :: r.take K) + m) (by omega) (by omega), ← tn]
      have h22 := iG22 l hl w hw h h20 hb out (by omega) (fromG w (x :: r.take K)) (fromG w (x :: r.take K) + m) (endG l w (x :: r.take K)) o3 (pre.length + K) (x :: r.take K) pre (r.drop K) (fromG w (x :: r.take K)).toNat pe m [] e0 (by omega) hb3 O.kb O.le (by simp only [List.length_nil]; omega) (by omega) (by omega)
      have hnx := ih (r.drop K) (pre ++ (x :: r.take K)) (out ++ [oneG l w m (x :: r.take K)]) (m + delta (x :: r.take K)) (by rw [List.length_drop]; rw [List.length_cons] at hn; omega) (by rw [hf, List.append_assoc, List.cons_append, List.take_append_drop]) (by rw [List.length_append, List.length_append, List.length_singleton]; omega) (by rw [List.length_append]; omega)
      rw [List.length_append] at hnx
      rw [tn] at h22 ⊢
      refine (h22.trans hnx).trans ?_
      rw [List.append_assoc]; rfl
end
theorem iGroupsOf (l : T) (h : List Hk) (w : Int) (hl : Sm l) (hh : HkSm h) : impl_GroupsOf.f l h w = some (if (patchB l h).2 = true ∧ 0 ≤ w ∧ w ≤ 20 then (grp l w h.length 0 h, true) else ([], false)) := by
  rw [impl_GroupsOf.f_eq, iPatch l h hl hh, sB]
  cases hp : (patchB l h).2 with
  | false => rw [notF, if_neg (fun h => by cases h.1)]
  | true =>
    obtain ⟨g1, g2, g3, g4⟩ := patchB_ok hp
    have g2' := g2
    unfold hunksG at g2'
    simp only [Bool.and_eq_true, decide_eq_true_eq] at g2'
    rw [notT, impl_isWidth.f_eq, iIn, sB, sB]
    by_cases hw : 0 ≤ w ∧ w ≤ 20
    · rw [bifNF hw, impl_groupsOf.f_eq, if_pos ⟨rfl, hw⟩]
      have := iG6 l (good_len g1) w hw h g2'.2.1 g2'.1 h.length h [] [] 0 (Nat.le_refl _) rfl (by simp) (by simp)
      exact bindEq this rfl
    · rw [bifNT hw, if_neg (fun h => hw h.2)]
theorem sHunksOf (g : YGroup) (hl : g.2.2.length ≤ 1048576) (h0 : 0 ≤ g.1) (h1 : g.1 ≤ 1048576) : spec_l6Hunks.f g = some (ghk g.2.2 g.1 [] false) := by
  obtain ⟨k, gb, l⟩ := g
  simp only at hl h0 h1
  have key : ∀ i, i ≤ l.length → ∀ (t1 : Int) (out : List Hk) (b : Bool), HkI i out → (b = true → 1 ≤ out.length) → 0 ≤ t1 → t1 ≤ 1048576 + i →
      spec_l6Hunks.l10 out t1 b l (l.length : Int) (i : Int) = some (ghk (l.drop i) t1 out b) := by
    apply downTo
    · intro t1 out b hi hb a0 a1
      rw [spec_l6Hunks.l10_eq, bifF (by omega), List.drop_eq_nil_of_le (by omega)]; rfl
    · intro i hi ih t1 out b hI hb a0 a1
      rw [drop_at hi (0, em), ghk]
      generalize hr : l.getD i (0, em) = r
      have step : ∀ o : List Hk, 1 ≤ o.length → o.length ≤ i + 1 → (∀ x ∈ o, 0 ≤ x.2.1 ∧ x.2.1 ≤ (i : Int) ∧ x.2.2.length ≤ i) →
          spec_l6Hunks.l27 o t1 true r l (l.length : Int) (i : Int) = some (if r.1 = 2 then ghk (l.drop (i + 1)) (t1 + 1) (modL incH o) true else ghk (l.drop (i + 1)) t1 (modL (addH r.2) o) true) := by
        intro o o1 o2 o3
        have hw : w64 ((o.length : Int) - 1) = ((o.length - 1 : Nat) : Int) := by rw [w64_id (by omega) (by omega)]; omega
        have hm := o3 _ (getD_mem (l := o) (i := o.length - 1) (by omega) (0, 0, []))
        rw [spec_l6Hunks.l27_eq, hw, bif2T (by omega) (by omega), up1 (by omega)]
        simp only [Int.toNat_natCast]
        by_cases h2 : r.1 = 2
        · rw [bifT h2, if_pos h2, w64_id (x := t1 + 1) (by omega) (by omega), w64_id (by omega) (by omega)]
          exact ih (t1 + 1) (modL incH o) true (modL_I incH o1 o2 o3 fun x hx => by simp only [incH]; omega) (fun _ => by rw [modL_len]; exact o1) (by omega) (by omega)
        · rw [bifF h2, if_neg h2, room16, bifT (by simp only [List.length_singleton]; omega), bifT trivial]
          exact ih t1 (modL (addH r.2) o) true (modL_I _ o1 o2 o3 fun x hx => by simp only [addH, List.length_append, List.length_singleton]; omega) (fun _ => by rw [modL_len]; exact o1) (by omega) (by omega)
      have hI1 := hI.1
      rw [spec_l6Hunks.l10_eq, bifT (by omega), bif2T (by omega) (by omega), up1 (by omega)]
      simp only [Int.toNat_natCast, hr]
      by_cases h2 : r.1 = 1
      · rw [bifT h2, if_pos h2, w64_id (by omega) (by omega)]
        exact ih (t1 + 1) out false ⟨by omega, fun x hx => by have := hI.2 x hx; omega⟩ (fun e => by cases e) (by omega) (by omega)
      · rw [bifF h2, if_neg h2]
        have ho := opn_len t1 out b hb
        have := step (opn t1 out b) ho.1 (by omega) (opn_J t1 b hI)
        cases b with
        | true => rw [notT]; exact this
        | false => rw [notF, room40, bifT (by simp only [List.length_singleton]; omega)]; exact this
  rw [spec_l6Hunks.f_eq]
  exact key 0 (by omega) k [] false ⟨by simp, fun x hx => by cases hx⟩ (fun e => by cases e) h0 (by omega)
theorem iOldOf (g : YGroup) (hg : SmR g.2.2) : impl_OldOf.f g = some (if groupB g = true then (side 3 g.2.2, true) else ([], false)) := by
  rw [impl_OldOf.f_eq, iGroup g hg, sB]
  cases groupB g with
  | false => rfl
  | true => rw [notT, iOld g hg.1, sB, if_pos rfl]
def leadK : YRowS → Nat
  | [] => 0
  | r :: l => if r.1 = 1 then leadK l + 1 else 0
theorem leadK_lt : ∀ {l : YRowS}, anyB l = true → leadK l < l.length
  | r :: l, h => by
    unfold leadK
    rw [anyB, Bool.or_eq_true] at h
    split
    · rename_i e
      rcases h with h | h
      · rw [e] at h; simp at h
      · have := leadK_lt h; rw [List.length_cons]; omega
    · rw [List.length_cons]; omega
theorem rowsOf_nil (k : Int) : rowsOf k [] = [] := rfl
/-- how many hunks a group has at most -/
theorem ghk_few : ∀ (R : YRowS) (k : Int) (o : List Hk) (b : Bool), (b = true → 1 ≤ o.length) → 2 * (ghk R k o b).length ≤ 2 * o.length + R.length + (if b = true then 0 else 1)
  | [], k, o, b, _ => by rw [ghk]; omega
  | r :: R, k, o, b, hb => by
    rw [ghk, List.length_cons]
    have ho := (opn_len k o b hb).1
    have hl : (opn k o b).length = o.length + (if b = true then 0 else 1) := by
      unfold opn
      split
      · rfl
      · rw [List.length_append, List.length_singleton]
    split
    · have := ghk_few R (k + 1) o false (fun e => by cases e)
      cases b <;> simp at this ⊢ <;> omega
    · split
      · have := ghk_few R (k + 1) (modL incH (opn k o b)) true (fun _ => by rw [modL_len]; exact ho)
        rw [modL_len, hl] at this
        cases b <;> simp at this ⊢ <;> omega
      · have := ghk_few R k (modL (addH r.2) (opn k o b)) true (fun _ => by rw [modL_len]; exact ho)
        rw [modL_len, hl] at this
        cases b <;> simp at this ⊢ <;> omega
/-- the hunks of a good group that is small can be done -/
theorem group_patch {g : YGroup} (h : groupB g = true) (hr : g.2.2.length ≤ 38) : (patchB (side 3 g.2.2) (ghk g.2.2 0 [] false)).2 = true := by
  obtain ⟨h1, h2⟩ := group_hunks h
  obtain ⟨s3, s2⟩ := group_sides h
  have hf := ghk_few g.2.2 0 [] false (fun e => by cases e)
  simp only [Bool.false_eq_true, if_false, List.length_nil] at hf
  have hl := good_len s3
  unfold patchB
  rw [if_pos]
  refine ⟨s3, ?_, by rw [group_pat h]; exact s2⟩
  unfold hunksG
  rw [h2, Bool.true_and, decide_eq_true (by omega), decide_eq_true (by omega)]; rfl
def shB (a b : Int) (x : YGroup) : YGroup := (w64 (x.1 + a), w64 (x.2.1 + b), x.2.2)
def splitB (g : YGroup) (w : Int) : YGroupS × Bool := if groupB g = true ∧ 0 ≤ w ∧ w ≤ 20 then ((grp (side 3 g.2.2) w (ghk g.2.2 0 [] false).length 0 (ghk g.2.2 0 [] false)).map (shB g.1 g.2.1), true) else ([], false)
theorem iSplitL (g : YGroup) (ok : Bool) : ∀ (r pre : YGroupS), pre.length + r.length ≤ 1048576 → impl_SplitGroup.l10 g (pre ++ r) ok ((pre.length + r.length : Nat) : Int) (pre.length : Int) = some (pre ++ r.map (shB g.1 g.2.1), ok)
  | [], pre, _ => by rw [impl_SplitGroup.l10_eq, bifF (by simp)]; simp
  | x :: r, pre, h => by
    rw [List.length_cons] at h
    have hl : (pre ++ x :: r).length = pre.length + (r.length + 1) := by rw [List.length_append, List.length_cons]
    rw [impl_SplitGroup.l10_eq, List.length_cons, bifT (by omega), bif2T (by omega) (by omega), bif2T (by omega) (by omega)]
    simp only [Int.toNat_natCast, getD_mid, set_mid]
    have hl2 : (pre ++ (w64 (x.1 + g.1), x.2) :: r).length = pre.length + (r.length + 1) := by rw [List.length_append, List.length_cons]
    rw [bif2T (by omega) (by omega), bif2T (by omega) (by omega), up1 (by omega)]
    have := iSplitL g ok r (pre ++ [shB g.1 g.2.1 x]) (by rw [List.length_append, List.length_singleton]; omega)
    rw [List.length_append, List.length_singleton, List.append_assoc, List.append_assoc] at this
    rw [show pre.length + (r.length + 1) = pre.length + 1 + r.length by omega]
    exact this
theorem sSplitL (g : YGroup) : ∀ (r pre : YGroupS), pre.length + r.length ≤ 1048576 → spec_SplitGroup.l12 g (pre ++ r) ((pre.length + r.length : Nat) : Int) (pre.length : Int) = some (pre ++ r.map (shB g.1 g.2.1), true)
  | [], pre, _ => by rw [spec_SplitGroup.l12_eq, bifF (by simp)]; simp
  | x :: r, pre, h => by
    rw [List.length_cons] at h
    have hl : (pre ++ x :: r).length = pre.length + (r.length + 1) := by rw [List.length_append, List.length_cons]
    rw [spec_SplitGroup.l12_eq, List.length_cons, bifT (by omega), bif2T (by omega) (by omega), bif2T (by omega) (by omega)]
    simp only [Int.toNat_natCast, getD_mid, set_mid]
    have hl2 : (pre ++ (w64 (x.1 + g.1), x.2) :: r).length = pre.length + (r.length + 1) := by rw [List.length_append, List.length_cons]
    rw [bif2T (by omega) (by omega), bif2T (by omega) (by omega), up1 (by omega)]
    have := sSplitL g r (pre ++ [shB g.1 g.2.1 x]) (by rw [List.length_append, List.length_singleton]; omega)
    rw [List.length_append, List.length_singleton, List.append_assoc, List.append_assoc] at this
    rw [show pre.length + (r.length + 1) = pre.length + 1 + r.length by omega]
    exact this
theorem ghk_sm {g : YGroup} (hg : SmR g.2.2) : HkSm (ghk g.2.2 0 [] false) := by
  have hI := ghk_I g.2.2 0 [] false 0 ⟨by simp, fun x hx => by cases hx⟩ (fun e => by cases e)
  have hL := hg.1
  rw [Nat.zero_add] at hI
  refine ⟨Nat.le_trans hI.1 hL, fun x hx => ⟨Nat.le_trans (hI.2 x hx).2.2 hL, fun s hs => ?_⟩⟩
  rcases ghk_mem g.2.2 0 [] false (fun e => by cases e) x hx s hs with ⟨y, hy, _⟩ | ⟨q, hq, rfl⟩
  · cases hy
  · exact hg.2 q hq
theorem split_both (g : YGroup) (w : Int) (hg : SmR g.2.2) (hr : g.2.2.length ≤ 38) : impl_SplitGroup.f g w = some (splitB g w) ∧ spec_SplitGroup.f g w = some (splitB g w) := by
  rw [impl_SplitGroup.f_eq, spec_SplitGroup.f_eq, iGroup g hg, sGroup g hg, sB, sB]
  unfold splitB
  cases hgg : groupB g with
  | false => exact ⟨rfl, rfl⟩
  | true =>
    rw [notT, notT, impl_isWidth.f_eq, iIn, sIn, sB, sB, sB]
    by_cases hw : 0 ≤ w ∧ w ≤ 20
    case neg => rw [bifNT hw, bifNT hw, if_neg (fun h => hw h.2)]; exact ⟨rfl, rfl⟩
    have hp := group_patch hgg hr
    obtain ⟨p1, p2, p3, p4⟩ := patchB_ok hp
    unfold hunksG at p2
    simp only [Bool.and_eq_true, decide_eq_true_eq] at p2
    have s3 := side_sm 3 hg
    have hsm := ghk_sm hg
    have hL := hg.1
    have hlen := grp_len (side 3 g.2.2) w (ghk g.2.2 0 [] false).length (ghk g.2.2 0 [] false) 0
    have hGr := iGroupsOf (side 3 g.2.2) (ghk g.2.2 0 [] false) w s3 hsm
    rw [if_pos ⟨hp, hw⟩] at hGr
    have hSr := sG8 (side 3 g.2.2) (good_len p1) w hw _ p2.2.1 p2.1 (ghk g.2.2 0 [] false).length (ghk g.2.2 0 [] false) [] [] 0 (Nat.le_refl _) rfl (by simp) (by simp)
    rw [List.nil_append] at hSr
    have h2 := sHunksOf (0, 0, g.2.2) hL (Int.le_refl 0) (show (0 : Int) ≤ 1048576 by decide)
    rw [bifNF hw, bifNF hw, impl_SplitGroup.l7_eq, spec_SplitGroup.l7_eq, iOld g hL, sOld g hL, sB, sB, iHunksOf g 0 hL (by omega) (by omega), sB, hGr, sB, h2, sB, spec_l6Groups.f_eq, if_pos ⟨rfl, hw⟩]
    have a1 := iSplitL g true (grp (side 3 g.2.2) w (ghk g.2.2 0 [] false).length 0 (ghk g.2.2 0 [] false)) [] (by rw [List.length_nil]; omega)
    have a2 := sSplitL g (grp (side 3 g.2.2) w (ghk g.2.2 0 [] false).length 0 (ghk g.2.2 0 [] false)) [] (by rw [List.length_nil]; omega)
    simp only [List.length_nil, Nat.zero_add, List.nil_append] at a1 a2
    refine ⟨a1, ?_⟩
    exact (bindEq hSr rfl).trans a2
def cnt (k : Int) : YRowS → Nat
  | [] => 0
  | r :: l => cnt k l + (if r.1 = k then 1 else 0)
theorem cnt_app (k : Int) : ∀ a b : YRowS, cnt k (a ++ b) = cnt k a + cnt k b
  | [], b => by simp [cnt]
  | r :: a, b => by rw [List.cons_append, cnt, cnt, cnt_app k a b]; omega
theorem cnt_rows (k c : Int) (t : T) : cnt k (rowsOf c t) = if c = k then t.length else 0 := by
  induction t with
  | nil => simp [rowsOf, cnt]
  | cons s t ih =>
    rw [show rowsOf c (s :: t) = (c, s) :: rowsOf c t from rfl, cnt, ih, List.length_cons]
    split <;> simp_all
theorem cntK_le (k : Int) : ∀ l : YRowS, cnt k l ≤ l.length
  | [] => by simp [cnt]
  | r :: l => by have := cntK_le k l; rw [cnt, List.length_cons]; split <;> omega
theorem cnt_body (l : T) (e : Nat) : ∀ (h : List Hk) (k : Nat) (pe : Int), hunksB (l.length : Int) pe h = true → (cnt 2 (body l e k h) : Int) = cG h ∧ (cnt 3 (body l e k h) : Int) = cC h
  | [], k, pe, _ => by rw [body, cnt_rows, cnt_rows, if_neg (by decide), if_neg (by decide), cG, cC]; omega
  | x :: r, k, pe, hb => by
    obtain ⟨b1, b2⟩ := hunksB_cons hb
    obtain ⟨⟨q1, q2, q3⟩, q4, q5, q6, q7⟩ := oneB_in b1
    have ih := cnt_body l e r (x.1 + x.2.1).toNat _ b2
    rw [body, cG, cC]
    simp only [cnt_app, cnt_rows]
    simp only [show ¬ (1 : Int) = 2 by decide, show ¬ (1 : Int) = 3 by decide, show ¬ (2 : Int) = 3 by decide, show ¬ (3 : Int) = 2 by decide, if_true, if_false, List.length_drop, List.length_take]
    omega
def cntG (k : Int) : YGroupS → Nat
  | [] => 0
  | x :: r => cnt k x.2.2 + cntG k r
theorem cntG_map (k a b : Int) : ∀ g : YGroupS, cntG k (g.map (shB a b)) = cntG k g
  | [] => rfl
  | x :: r => by rw [List.map_cons, cntG, cntG, cntG_map k a b r]; rfl
/-- at no width a group has one hunk, and no lines around -/
theorem grp0 (l : T) (hl : l.length ≤ 40) : ∀ (n : Nat) (h : List Hk) (m pe : Int), h.length ≤ n → hunksB (l.length : Int) pe h = true → pe ≤ (l.length : Int) → (∀ y ∈ grp l 0 n m h, y.2.2.length ≤ 80 ∧ ∀ r ∈ y.2.2, r.1 = 2 ∨ r.1 = 3) ∧ (cntG 2 (grp l 0 n m h) : Int) = cG h ∧ (cntG 3 (grp l 0 n m h) : Int) = cC h
  | 0, h, m, pe, hn, _, _ => by
    have : h = [] := List.length_eq_zero_iff.1 (by omega)
    subst this
    rw [grp]; exact ⟨(fun y hy => by cases hy), rfl, rfl⟩
  | n + 1, [], m, pe, _, _, _ => by rw [grp]; exact ⟨(fun y hy => by cases hy), rfl, rfl⟩
  | n + 1, x :: r, m, pe, hn, hb, hpe => by
    obtain ⟨b1, b2⟩ := hunksB_cons hb
    obtain ⟨⟨q1, q2, q3⟩, q4, q5, q6, q7⟩ := oneB_in b1
    have hnear : near 0 (x.1 + x.2.1) r = 0 := by
      cases r with
      | nil => rfl
      | cons y s =>
        have := (oneB_in (hunksB_cons b2).1).2.2.2.1
        unfold near
        rw [if_neg (by omega)]
    have ih := grp0 l hl n r (m + delta [x]) (x.1 + x.2.1) (by rw [List.length_cons] at hn; omega) b2 q3
    have he : endG l 0 [x] = (x.1 + x.2.1).toNat := by
      show (min (l.length : Int) (x.1 + x.2.1 + 0)).toNat = _
      omega
    have hf : (fromG 0 [x]).toNat = x.1.toNat := by
      show (max 0 (x.1 - 0)).toNat = _
      omega
    have hrows : (oneG l 0 m [x]).2.2 = rowsOf 2 ((l.take (x.1 + x.2.1).toNat).drop x.1.toNat) ++ rowsOf 3 x.2.2 := by
      show body l (endG l 0 [x]) (fromG 0 [x]).toNat [x] = _
      rw [he, hf, body, body, seg_nil, seg_nil, rowsOf_nil, List.nil_append, List.append_nil]
    rw [grp, hnear, List.take_zero, List.drop_zero]
    refine ⟨fun y hy => ?_, ?_, ?_⟩
    · rcases List.mem_cons.1 hy with rfl | hy
      · rw [hrows]
        refine ⟨?_, fun q hq => ?_⟩
        · simp only [List.length_append, rowsOf_len, List.length_drop, List.length_take]
          omega
        · rcases List.mem_append.1 hq with hq | hq
          · simp only [rowsOf, List.mem_map] at hq
            obtain ⟨s, _, rfl⟩ := hq
            exact .inl rfl
          · simp only [rowsOf, List.mem_map] at hq
            obtain ⟨s, _, rfl⟩ := hq
            exact .inr rfl
      · exact ih.1 y hy
    · rw [cntG, hrows, cnt_app, cnt_rows, cnt_rows, if_pos rfl, if_neg (by decide), List.length_drop, List.length_take, cG]
      have := ih.2.1
      omega
    · rw [cntG, hrows, cnt_app, cnt_rows, cnt_rows, if_pos rfl, if_neg (by decide), cC]
      have := ih.2.2
      omega
/-- what is loosened by none stays -/
theorem loosen0 {x : YGroup} (hg : SmR x.2.2) (h : groupB x = true) : impl_LoosenGroup.f x 0 = some (x, true) := by
  have hL := hg.1
  obtain ⟨a1, a2, _⟩ := group_in h
  have e : cutG x 0 x.2.2.length = x := by
    unfold cutG
    rw [List.take_length, List.drop_zero]
    simp
  have hfin : finG x 0 x.2.2.length = (x, true) := by unfold finG; rw [e, if_pos h]
  have h17 := iL17 x hg a1 a2 (0, 0, []) 0 x.2.2.length (Nat.zero_le _) (Nat.le_refl _)
  rw [hfin] at h17
  rw [impl_LoosenGroup.f_eq, iGroup x hg, sB, h, notT, bifF (by omega), impl_LoosenGroup.l7_eq, impl_LoosenGroup.l8_eq, bifF (by omega), impl_LoosenGroup.l13_eq, impl_LoosenGroup.l12_eq, w64_id (by omega) (by omega), bifF (by omega)]
  exact h17
theorem cntG_cons (k : Int) (x : YGroup) (r : YGroupS) : cntG k (x :: r) = cnt k x.2.2 + cntG k r := rfl
theorem iNewOf (g : YGroup) (hg : SmR g.2.2) : impl_NewOf.f g = some (if groupB g = true then (side 2 g.2.2, true) else ([], false)) := by
  rw [impl_NewOf.f_eq, iGroup g hg, sB]
  cases groupB g with
  | false => rfl
  | true => rw [notT, iNew g hg.1, sB, if_pos rfl]
theorem sOldOf (g : YGroup) (hg : SmR g.2.2) : spec_OldOf.f g = some (if groupB g = true then (side 3 g.2.2, true) else ([], false)) := by
  rw [spec_OldOf.f_eq, sGroup g hg, sB]
  cases groupB g with
  | false => rfl
  | true => rw [notT, sOld g hg.1, sB, if_pos rfl]
theorem sNewOf (g : YGroup) (hg : SmR g.2.2) : spec_NewOf.f g = some (if groupB g = true then (side 2 g.2.2, true) else ([], false)) := by
  rw [spec_NewOf.f_eq, sGroup g hg, sB]
  cases groupB g with
  | false => rfl
  | true => rw [notT, sNew g hg.1, sB, if_pos rfl]
theorem DGm_sm {g : YGroup} {M : Nat} (h : DGm M g) (hM : M ≤ 3000) : SmR g.2.2 := ⟨by have := h.2.1; omega, fun r hr => by have := h.2.2 r hr; omega⟩
theorem shB_SmG {g : YGroupS} (a b : Int) (h1 : g.length ≤ 1048576) (h : ∀ x ∈ g, SmR x.2.2) : SmG (g.map (shB a b)) :=
  ⟨by rw [List.length_map]; exact h1, fun x hx => by obtain ⟨y, hy, rfl⟩ := List.mem_map.1 hx; exact h y hy⟩
theorem grp_size (l : T) (w : Int) : ∀ (n : Nat) (h : List Hk) (m : Int), (∀ s ∈ l, s.size ≤ 1048576) → (∀ x ∈ h, ∀ s ∈ x.2.2, s.size ≤ 1048576) → ∀ y ∈ grp l w n m h, ∀ r ∈ y.2.2, r.2.size ≤ 1048576
  | 0, h, m, _, _, y, hy => by cases hy
  | n + 1, [], m, _, _, y, hy => by cases hy
  | n + 1, x :: r, m, hl, hh, y, hy => by
    rw [grp] at hy
    rcases List.mem_cons.1 hy with rfl | hy
    · intro q hq
      rcases body_mem l _ (x :: r.take (near w (x.1 + x.2.1) r)) _ q hq with h1 | ⟨z, hz, h1⟩
      · exact hl _ h1
      · refine hh z ?_ _ h1
        rcases List.mem_cons.1 hz with rfl | hz
        · simp
        · have := List.mem_of_mem_take hz; simp [this]
    · exact grp_size l w n _ _ hl (fun z hz => hh z (by have := List.mem_of_mem_drop hz; simp [this])) y hy
theorem split_sm {g : YGroup} {w : Int} (hg : SmR g.2.2) (hr : g.2.2.length ≤ 38) : SmG (splitB g w).1 := by
  unfold splitB
  split
  · rename_i hc
    have hp := group_patch hc.1 hr
    obtain ⟨p1, p2, p3, p4⟩ := patchB_ok hp
    unfold hunksG at p2
    simp only [Bool.and_eq_true, decide_eq_true_eq] at p2
    have hlen := grp_len (side 3 g.2.2) w (ghk g.2.2 0 [] false).length (ghk g.2.2 0 [] false) 0
    have hsm := ghk_sm hg
    have s3 := side_sm 3 hg
    refine shB_SmG _ _ (by omega) fun x hx => ?_
    obtain ⟨m', pe', hs, e, hn, hb, O, hle⟩ := grp_each (side 3 g.2.2) w hc.2.1 _ _ _ (-1) p2.1 (by omega) x hx
    have hbl := body_len (side 3 g.2.2) (endG (side 3 g.2.2) w hs) (good_len p1) hs (fromG w hs).toNat pe' hb
    have hgrow : ∀ y ∈ grp (side 3 g.2.2) w (ghk g.2.2 0 [] false).length 0 (ghk g.2.2 0 [] false), ∀ r ∈ y.2.2, r.2.size ≤ 1048576 := grp_size _ w _ _ _ s3.2 fun z hz => (hsm.2 z hz).2
    refine ⟨?_, hgrow x hx⟩
    rw [e]
    show (body _ _ _ _).length ≤ _
    omega
  · exact ⟨by simp, fun x hx => by cases hx⟩
theorem FnHalves (l0 l1 : List Int) (g0 : Bd (.list (.int .u8)) l0) (g1 : Bd (.list (.int .u8)) l1) : laws_FnHalves.f l0 l1 = some true := by
  obtain ⟨bb, hb, hb2⟩ := big_ok g0.1 g1.1
  rw [laws_FnHalves.f_eq, hb, sB]
  cases bb with
  | true => rfl
  | false =>
    obtain ⟨n0, n1⟩ := hb2 rfl
    have no : SmR ([] : YRowS) := ⟨by simp, fun x hx => by cases hx⟩
    have tail : laws_FnHalves.l79 l1 = some true := by
      obtain ⟨g, e1, hg⟩ := drawOldOfm (cok_of g1 n1)
      have hs := DGm_sm hg (by omega)
      obtain ⟨w, c1, e2, hw, _⟩ := among_ok (n := 100) ((cok_of g1 n1).le (by omega)) [0, 0, 1, 2, 20, 21, (-1)] (by simp)
      obtain ⟨x, c2, e3, x0, x1, _, k2⟩ := pick_ok (n := 100) ((cok_of g1 n1).le (by omega)) 4
      obtain ⟨y, c3, e4, y0, y1, _, k3⟩ := pick_ok (n := 50) (k2.le (by omega)) 20
      have := x1 (by omega)
      have := y1 (by omega)
      have hy : 0 ≤ y.tdiv 19 ∧ y.tdiv 19 ≤ 1 := by
        rw [Int.tdiv_eq_ediv_of_nonneg y0]; omega
      obtain ⟨b1, b2⟩ := split_both g w hs hg.2.1
      have hsp := split_sm (w := w) hs hg.2.1
      have hM : w64 (x - w64 (y.tdiv 19)) = x - y.tdiv 19 := by rw [w64_id (x := y.tdiv 19) (by omega) (by omega), w64_id (by omega) (by omega)]
      obtain ⟨r, r1, r2, r3, r4, r5⟩ := loosen_both g (x - y.tdiv 19) (by omega) hs
      rw [laws_FnHalves.l79_eq, spec_DrawSplitGroup.f_eq, e1, sB, e2, sB, sB]
      simp only
      rw [b1, b2, sB, sB, spec_DrawLoosenGroup.f_eq, e1, sB, e3, sB]
      simp only
      rw [e4, sB, sB]
      simp only [hM]
      rw [r2, r1, sB, sB]
      simp only [beq_self_eq_true, Bool.not_true, cond_false]
      rw [sameGs_self _ hsp, sB, notT, show ((r.1.1, r.1.2.1, r.1.2.2) : YGroup) = r.1 from rfl, sameG1_self _ r3.1, sB, notT, laws_FnHalves.l95_eq]
      cases hr : r.2 with
      | false => rfl
      | true =>
        obtain ⟨q1, q2, n, m, q3, q4, q5, q6, q7⟩ := r4 hr
        have hl : r.1.2.2.length ≤ g.2.2.length := by
          rw [q7]
          show ((g.2.2.take m).drop n).length ≤ _
          rw [List.length_drop, List.length_take]; omega
        have hp : 0 < r.1.2.2.length := by
          have := leadK_lt (group_any q2); omega
        rw [cond_true, show ((r.1.1, r.1.2.1, r.1.2.2) : YGroup) = r.1 from rfl, loosen0 r3 q2, sB, bifT (by omega), bifT (by omega), cond_true, show ((r.1.1, r.1.2.1, r.1.2.2) : YGroup) = r.1 from rfl, sameG1_self _ r3.1, sB]
    obtain ⟨g, e1, hg⟩ := drawOldOfm (cok_of g0 n0)
    have hs := DGm_sm hg (by omega)
    have hL := hs.1
    have h3 := side_len 3 g.2.2
    have h2 := side_len 2 g.2.2
    rw [cond_false, e1, sB, iOldOf g hs, sOldOf g hs, iNewOf g hs, sNewOf g hs, sB, sB, sB, sB]
    cases hgg : groupB g with
    | false =>
      rw [if_neg (by simp), if_neg (by simp)]
      simp only [beq_self_eq_true, Bool.not_true, cond_false]
      rw [sameT_self _ (by simp), sB, notT, sB]
      simp only [Bool.not_true, cond_false]
      rw [laws_FnHalves.l21_eq]
      exact tail
    | true =>
    rw [if_pos rfl, if_pos rfl]
    simp only [beq_self_eq_true, Bool.not_true, cond_false]
    rw [sameT_self _ (by omega), sB, notT, sameT_self _ (by omega), sB, notT, laws_FnHalves.l21_eq, cond_true]
    obtain ⟨a1, a2, a3, a4, a5⟩ := group_in hgg
    by_cases h9 : ((side 3 g.2.2).length : Int) + g.1 ≤ 900
    case neg =>
      have hw : w64 (((side 3 g.2.2).length : Int) + g.1) = ((side 3 g.2.2).length : Int) + g.1 := w64_id (by omega) (by omega)
      simp only [hw]
      rw [bifF h9]; exact tail
    have hw : w64 (((side 3 g.2.2).length : Int) + g.1) = ((side 3 g.2.2).length : Int) + g.1 := w64_id (by omega) (by omega)
    simp only [hw]
    obtain ⟨b1, b2⟩ := split_both g 0 hs hg.2.1
    have hsp := split_sm (w := 0) hs hg.2.1
    rw [bifT h9, b1, sB]
    have esp : splitB g 0 = ((grp (side 3 g.2.2) 0 (ghk g.2.2 0 [] false).length 0 (ghk g.2.2 0 [] false)).map (shB g.1 g.2.1), true) := by
      unfold splitB; rw [if_pos ⟨hgg, by omega, by omega⟩]
    obtain ⟨k1, k2⟩ := group_hunks hgg
    obtain ⟨s3, s2⟩ := group_sides hgg
    obtain ⟨z1, z2, z3⟩ := grp0 (side 3 g.2.2) (good_len s3) (ghk g.2.2 0 [] false).length (ghk g.2.2 0 [] false) 0 (-1) (Nat.le_refl _) k2 (by omega)
    have hcb := cnt_body (side 3 g.2.2) (side 3 g.2.2).length (ghk g.2.2 0 [] false) 0 (-1) k2
    rw [← k1] at hcb
    have hs2 : cntG 2 (splitB g 0).1 = cnt 2 g.2.2 := by rw [esp]; simp only; rw [cntG_map]; omega
    have hs3 : cntG 3 (splitB g 0).1 = cnt 3 g.2.2 := by rw [esp]; simp only; rw [cntG_map]; omega
    have hall : ∀ y ∈ (splitB g 0).1, y.2.2.length ≤ 80 ∧ ∀ r ∈ y.2.2, r.1 = 2 ∨ r.1 = 3 := by
      rw [esp]
      intro y hy
      obtain ⟨q, hq, rfl⟩ := List.mem_map.1 hy
      exact z1 q hq
    rw [show (splitB g 0).2 = true by rw [esp], notT]
    generalize (splitB g 0).1 = S at hsp hs2 hs3 hall
    have c2 := cntK_le 2 g.2.2
    have c3 := cntK_le 3 g.2.2
    have hSl := hsp.1
    -- the rows of the parts
    have inner : ∀ (t : YRowS) (pre r : YRowS), t = pre ++ r → t.length ≤ 80 → (∀ q ∈ t, q.1 = 2 ∨ q.1 = 3) → ∀ (i : Nat) (ga co : Int), -100000 ≤ ga - (r.length : Int) → ga ≤ 100000 → -100000 ≤ co - (r.length : Int) → co ≤ 100000 →
        (∀ ga' co' : Int, ga' = ga - cnt 2 r → co' = co - cnt 3 r → laws_FnHalves.l48 l1 ga' co' S (S.length : Int) (w64 ((i : Int) + 1)) = some true) → (cnt 2 r : Int) ≤ 80 → (cnt 3 r : Int) ≤ 80 →
        laws_FnHalves.l54 l1 ga co S (S.length : Int) (i : Int) t (t.length : Int) (pre.length : Int) = some true := by
      intro t pre r
      induction r generalizing pre with
      | nil =>
        intro ht htl hk i ga co a1 a2 a3 a4 K _ _
        have hl : t.length = pre.length := by rw [ht]; simp
        rw [laws_FnHalves.l54_eq, bifF (by omega)]
        exact K ga co (by simp [cnt]) (by simp [cnt])
      | cons q r ih =>
        intro ht htl hk i ga co a1 a2 a3 a4 K d2 d3
        rw [List.length_cons] at a1 a3
        have hl : t.length = pre.length + (r.length + 1) := by rw [ht, List.length_append, List.length_cons]
        have hq : t.getD pre.length (0, em) = q := by rw [ht]; exact getD_mid _ _ _ _
        have hqk := hk q (by rw [ht]; simp)
        have r2 := cntK_le 2 r
        have r3 := cntK_le 3 r
        have e2 : cnt 2 (q :: r) = cnt 2 r + (if q.1 = 2 then 1 else 0) := rfl
        have e3 : cnt 3 (q :: r) = cnt 3 r + (if q.1 = 3 then 1 else 0) := rfl
        have ih' := ih (pre ++ [q]) (by rw [ht]; simp) htl hk i
        rw [List.length_append, List.length_singleton] at ih'
        rw [laws_FnHalves.l54_eq, bifT (by omega), bif2T (by omega) (by omega)]
        simp only [Int.toNat_natCast, hq]
        rcases hqk with h | h
        · have h' : ¬ q.1 = 3 := by omega
          rw [if_pos h] at e2
          rw [if_neg h'] at e3
          rw [bifT h, laws_FnHalves.l63_eq, bifF h', bifF (by omega), up1 (by omega), w64_id (x := ga - 1) (by omega) (by omega)]
          exact ih' (ga - 1) co (by omega) (by omega) (by omega) a4 (fun ga' co' h1 h2 => K ga' co' (by omega) (by omega)) (by omega) (by omega)
        · have h' : ¬ q.1 = 2 := by omega
          rw [if_pos h] at e3
          rw [if_neg h'] at e2
          rw [bifF h', laws_FnHalves.l63_eq, bifT h, bifF (by omega), up1 (by omega), w64_id (x := co - 1) (by omega) (by omega)]
          exact ih' ga (co - 1) (by omega) a2 (by omega) (by omega) (fun ga' co' h1 h2 => K ga' co' (by omega) (by omega)) (by omega) (by omega)
    have outer : ∀ i, i ≤ S.length → ∀ ga co : Int, ga = cntG 2 (S.drop i) → co = cntG 3 (S.drop i) → ga ≤ 1000 → co ≤ 1000 → laws_FnHalves.l48 l1 ga co S (S.length : Int) (i : Int) = some true := by
      apply downTo
      · intro ga co h1 h2 _ _
        rw [List.drop_eq_nil_of_le (by omega), cntG] at h1 h2
        rw [laws_FnHalves.l48_eq, bifF (by omega), bifNF (by omega), bifNF (by omega)]
        exact tail
      · intro i hi ih ga co h1 h2 h3 h4
        have hx := getD_mem hi (0, 0, [])
        obtain ⟨y1, y2⟩ := hall _ hx
        rw [drop_at hi (0, 0, []), cntG_cons] at h1 h2
        have d2 := cntK_le 2 (S.getD i (0, 0, [])).2.2
        have d3 := cntK_le 3 (S.getD i (0, 0, [])).2.2
        rw [laws_FnHalves.l48_eq, bifT (by omega), bif2T (by omega) (by omega)]
        simp only [Int.toNat_natCast]
        refine inner (S.getD i (0, 0, [])).2.2 [] (S.getD i (0, 0, [])).2.2 rfl y1 y2 i ga co (by omega) (by omega) (by omega) (by omega) (fun ga' co' e1 e2 => ?_) (by omega) (by omega)
        rw [up1 (by omega)]
        exact ih ga' co' (by omega) (by omega) (by omega) (by omega)
    have first : ∀ i, i ≤ g.2.2.length → ∀ ga co : Int, ga + cnt 2 (g.2.2.drop i) = cnt 2 g.2.2 → co + cnt 3 (g.2.2.drop i) = cnt 3 g.2.2 → 0 ≤ ga → 0 ≤ co → laws_FnHalves.l32 l1 S ga co g.2.2 (g.2.2.length : Int) (i : Int) = some true := by
      apply downTo
      · intro ga co h1 h2 _ _
        rw [List.drop_eq_nil_of_le (by omega), cnt] at h1 h2
        have hgl := hg.2.1
        rw [laws_FnHalves.l32_eq, bifF (by omega)]
        exact outer 0 (by omega) ga co (by rw [List.drop_zero]; omega) (by rw [List.drop_zero]; omega) (by omega) (by omega)
      · intro i hi ih ga co h1 h2 p1 p2
        have hgl := hg.2.1
        have q2 := cntK_le 2 (g.2.2.drop (i + 1))
        have q3 := cntK_le 3 (g.2.2.drop (i + 1))
        have e2 : cnt 2 (g.2.2.drop i) = cnt 2 (g.2.2.drop (i + 1)) + (if (g.2.2.getD i (0, em)).1 = 2 then 1 else 0) := by rw [drop_at hi (0, em)]; rfl
        have e3 : cnt 3 (g.2.2.drop i) = cnt 3 (g.2.2.drop (i + 1)) + (if (g.2.2.getD i (0, em)).1 = 3 then 1 else 0) := by rw [drop_at hi (0, em)]; rfl
        rw [laws_FnHalves.l32_eq, bifT (by omega), bif2T (by omega) (by omega), up1 (by omega)]
        simp only [Int.toNat_natCast]
        by_cases k2 : (g.2.2.getD i (0, em)).1 = 2
        · have k3 : ¬ (g.2.2.getD i (0, em)).1 = 3 := by omega
          rw [if_pos k2] at e2
          rw [if_neg k3] at e3
          rw [bifT k2, bifF k3, w64_id (x := ga + 1) (by omega) (by omega)]
          exact ih _ _ (by omega) (by omega) (by omega) (by omega)
        · rw [if_neg k2] at e2
          rw [bifF k2]
          by_cases k3 : (g.2.2.getD i (0, em)).1 = 3
          · rw [if_pos k3] at e3
            rw [bifT k3, w64_id (x := co + 1) (by omega) (by omega)]
            exact ih _ _ (by omega) (by omega) (by omega) (by omega)
          · rw [if_neg k3] at e3
            rw [bifF k3]
            exact ih _ _ (by omega) (by omega) (by omega) (by omega)
    exact first 0 (by omega) 0 0 (by rw [List.drop_zero]; omega) (by rw [List.drop_zero]; omega) (by omega) (by omega)
end Go.Abs.G
