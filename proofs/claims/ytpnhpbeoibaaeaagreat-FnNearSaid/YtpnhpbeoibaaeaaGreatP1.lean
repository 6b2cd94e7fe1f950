import Derived.Test.YtpnhpbeoibaaeaaGreatG
import Derived.Lib.IndexAny
set_option linter.unusedVariables false
set_option linter.unusedSimpArgs false
set_option linter.unusedSectionVars false
namespace Go.Abs.G
open Go Go.Abs
abbrev T := List ByteArray
abbrev YHunk := Int × Int × List (ByteArray)
abbrev YHunkS := List YHunk
abbrev YRow := Int × ByteArray
abbrev YRowS := List YRow
abbrev YGroup := Int × Int × List (Int × ByteArray)
abbrev YGroupS := List YGroup
/-- of a size that is let through -/
def Sm (l : T) : Prop := l.length ≤ 1048576 ∧ ∀ s ∈ l, s.size ≤ 1048576
def bl (s : ByteArray) : List UInt8 := s.data.toList
theorem bl_len (s : ByteArray) : (bl s).length = s.size := rfl
theorem bl_inj {a b : ByteArray} (h : bl a = bl b) : a = b := ByteArray.ext (Array.toList_inj.1 h)
theorem bl_ext (s : ByteArray) (a b : Nat) : bl (s.extract a b) = ((bl s).drop a).take (b - a) := by
  unfold bl; rw [ByteArray.data_extract, Array.toList_extract]
theorem bt_bl (s : ByteArray) (i : Nat) : bt s (i : Int) = (((bl s).getD i 0).toNat : Int) := by
  unfold bt bl
  rw [Int.toNat_natCast]
theorem sIn (a b c : Int) : spec_l1In.f a b c = some (decide (b ≤ a ∧ a ≤ c)) := by
  rw [spec_l1In.f_eq]
  by_cases h : a ≥ b
  · rw [bifT h]; congr 1; rw [decide_eq_decide]; omega
  · rw [bifF h]; congr 1; rw [eq_comm, decide_eq_false_iff_not]; omega
theorem iIn (a b c : Int) : impl_in.f a b c = some (decide (b ≤ a ∧ a ≤ c)) := by
  rw [impl_in.f_eq]
  by_cases h : a ≥ b
  · rw [bifT h]; congr 1; rw [decide_eq_decide]; omega
  · rw [bifF h]; congr 1; rw [eq_comm, decide_eq_false_iff_not]; omega
/-- A line. -/
def lineP (s : ByteArray) : Prop := 1 ≤ s.size ∧ s.size ≤ 30 ∧ (10 : UInt8) ∉ (bl s).take (s.size - 1)
instance (s : ByteArray) : Decidable (lineP s) := by unfold lineP; exact inferInstance
/-- It ends. -/
def endP (s : ByteArray) : Prop := 1 ≤ s.size ∧ (bl s).getD (s.size - 1) 0 = 10
instance (s : ByteArray) : Decidable (endP s) := by unfold endP; exact inferInstance
theorem toNat10 (b : UInt8) : ((b.toNat : Nat) : Int) = 10 ↔ b = 10 := by
  constructor
  · intro h; exact UInt8.toNat_inj.1 (by have : (10 : UInt8).toNat = 10 := rfl; omega)
  · rintro rfl; rfl
theorem sLine (s : ByteArray) (hs : s.size ≤ 1048576) : spec_l1Line.f s = some (decide (lineP s)) := by
  have hL : ((bl s).take (s.size - 1)).length = s.size - 1 := by rw [List.length_take, bl_len]; omega
  have hw : w64 ((s.size : Int) - 1) = (s.size : Int) - 1 := w64_id (by omega) (by omega)
  have key : ∀ i, i ≤ s.size - 1 → spec_l1Line.l4 s (i : Int) = some (decide (1 ≤ s.size ∧ s.size ≤ 30 ∧ (10 : UInt8) ∉ ((bl s).take (s.size - 1)).drop i)) := by
    apply downTo
    · rw [spec_l1Line.l4_eq, hw, bifF (by omega), sIn, sB]
      congr 1
      rw [decide_eq_decide, List.drop_eq_nil_of_le (by omega)]
      constructor
      · intro h; exact ⟨by omega, by omega, List.not_mem_nil⟩
      · intro h; omega
    · intro i hi ih
      have hi1 := up1 (i := i) (by omega)
      rw [spec_l1Line.l4_eq]
      simp only [hw, hi1]
      rw [bifT (by omega), bif2T (by omega) (by omega)]
      have hb : bt s (i : Int) = 10 ↔ ((bl s).take (s.size - 1)).getD i 0 = 10 := by
        rw [bt_bl, toNat10, List.getD_eq_getElem?_getD, List.getD_eq_getElem?_getD, List.getElem?_take_of_lt hi]
      have hd := drop_at (l := (bl s).take (s.size - 1)) (i := i) (by omega) 0
      by_cases h : bt s (i : Int) = 10
      · rw [bifT h]; congr 1
        rw [eq_comm, decide_eq_false_iff_not, hd, hb.1 h]
        rintro ⟨_, _, h3⟩
        exact h3 List.mem_cons_self
      · rw [bifF h, ih]; congr 1
        rw [decide_eq_decide, hd, List.mem_cons, not_or]
        have : ¬ (10 : UInt8) = ((bl s).take (s.size - 1)).getD i 0 := fun g => h (hb.2 g.symm)
        exact ⟨fun ⟨a, b, c⟩ => ⟨a, b, this, c⟩, fun ⟨a, b, _, c⟩ => ⟨a, b, c⟩⟩
  have := key 0 (by omega)
  rw [spec_l1Line.f_eq]
  rw [List.drop_zero] at this
  exact this
theorem iLine (s : ByteArray) (hs : s.size ≤ 1048576) : impl_isLine.f s = some (decide (lineP s)) := by
  have hw : w64 ((s.size : Int) - 1) = (s.size : Int) - 1 := w64_id (by omega) (by omega)
  rw [impl_isLine.f_eq, iIn, sB, hw]
  by_cases h : (1 : Int) ≤ (s.size : Int) ∧ (s.size : Int) ≤ 30
  · rw [bifT h, bif2T (by omega) (by omega)]
    show (contains1 _ _).bind _ = _
    unfold contains1
    have h1 : Nat.beq (⟨#[10]⟩ : ByteArray).size 1 = true := rfl
    rw [h1, cond_true, sB]
    congr 1
    show (!decide (0 ≤ Go.Lib.indexByte _ 10)) = _
    rw [← Go.Lib.contains_iff_indexByte]
    have he : (s.extract 0 ((s.size : Int) - 1).toNat).data.toList = (bl s).take (s.size - 1) := by
      show bl _ = _
      rw [bl_ext, List.drop_zero]; congr 1; omega
    rw [he]
    by_cases hm : (10 : UInt8) ∈ (bl s).take (s.size - 1)
    · rw [List.contains_iff_mem.2 hm]; exact (decide_eq_false (fun g : lineP s => g.2.2 hm)).symm
    · have : ((bl s).take (s.size - 1)).contains 10 = false := by rw [← Bool.not_eq_true, List.contains_iff_mem]; exact hm
      rw [this]; exact (decide_eq_true (show lineP s from ⟨by omega, by omega, hm⟩)).symm
  · rw [bifF h]
    congr 1
    rw [eq_comm, decide_eq_false_iff_not]
    unfold lineP
    omega
theorem sEnds1 (s : ByteArray) (h1 : 1 ≤ s.size) (hs : s.size ≤ 1048577) : spec_l1Ends.f s = some (decide (endP s)) := by
  have hw : w64 ((s.size : Int) - 1) = ((s.size - 1 : Nat) : Int) := by rw [w64_id (by omega) (by omega)]; omega
  rw [spec_l1Ends.f_eq, hw, bif2T (by omega) (by omega), bt_bl]
  congr 1
  rw [decide_eq_decide, toNat10]
  exact ⟨fun h => ⟨h1, h⟩, fun h => h.2⟩
theorem sEnds (s : ByteArray) (h1 : 1 ≤ s.size) (hs : s.size ≤ 1048576) : spec_l1Ends.f s = some (decide (endP s)) := sEnds1 s h1 (by omega)
theorem iEnds1 (s : ByteArray) (hs : s.size ≤ 1048577) : impl_isEnded.f s = some (decide (endP s)) := by
  rw [impl_isEnded.f_eq, strings_HasSuffix.f_eq, internal_stringslite_HasSuffix.f_eq]
  have h10 : (⟨#[10]⟩ : ByteArray).size = 1 := rfl
  have hw : w64 ((s.size : Int) - 1) = (s.size : Int) - 1 := w64_id (by omega) (by omega)
  simp only [h10, Int.ofNat_one]
  by_cases h : (s.size : Int) ≥ 1
  · rw [hw, bifT h, bif2T (by omega) (by omega), sB, sB]
    congr 1
    rw [toList_beq, decide_eq_decide]
    have hb : bl (s.extract ((s.size : Int) - 1).toNat s.size) = [(bl s).getD (s.size - 1) 0] := by
      rw [bl_ext]
      have e : ((s.size : Int) - 1).toNat = s.size - 1 := by omega
      rw [e, drop_at (l := bl s) (i := s.size - 1) (by rw [bl_len]; omega) 0, show s.size - (s.size - 1) = 1 by omega]
      rfl
    constructor
    · intro g
      rw [g] at hb
      refine ⟨by omega, ?_⟩
      have : [(10 : UInt8)] = [(bl s).getD (s.size - 1) 0] := hb
      exact ((List.cons.inj this).1).symm
    · intro g
      refine bl_inj ?_
      rw [hb, g.2]; rfl
  · rw [bifF (by omega), sB, sB]
    congr 1
    rw [eq_comm, decide_eq_false_iff_not]
    unfold endP
    omega
theorem iEnds (s : ByteArray) (hs : s.size ≤ 1048576) : impl_isEnded.f s = some (decide (endP s)) := iEnds1 s (by omega)
def endsT : T → Bool
  | [] => true
  | s :: t => (t.isEmpty || decide (endP s)) && endsT t
def allLines (l : T) : Bool := l.all fun s => decide (lineP s)
theorem allLines_cons (s : ByteArray) (l : T) : allLines (s :: l) = (decide (lineP s) && allLines l) := rfl
def goodB (l : T) : Bool := decide (l.length ≤ 40) && allLines l && endsT l
theorem drop_empty {l : T} {i : Nat} (h : i < l.length) : (l.drop (i + 1)).isEmpty = decide (¬ (i : Int) < (l.length : Int) - 1) := by
  rw [Bool.eq_iff_iff, List.isEmpty_iff, List.drop_eq_nil_iff, decide_eq_true_eq]; omega
theorem iAre (l : T) (hl : Sm l) : impl_areLines.f l = some (decide (l.length ≤ 40) && allLines l) := by
  have hL := hl.1
  have idx : ∀ i, i ≤ l.length → ∃ r : Int, slices_IndexFunc_Lstring_string__impl_areLines_1.l4 l (l.length : Int) (i : Int) = some r ∧ (decide (r ≥ 0) = !(allLines (l.drop i))) := by
    apply downTo
    · refine ⟨-1, by rw [slices_IndexFunc_Lstring_string__impl_areLines_1.l4_eq, bifF (by omega)], ?_⟩
      rw [List.drop_eq_nil_of_le (by omega)]; rfl
    · intro i hlt ⟨r, hr, hp⟩
      have hi1 := up1 (i := i) (by omega)
      have hsz := hl.2 _ (getD_mem hlt em)
      rw [slices_IndexFunc_Lstring_string__impl_areLines_1.l4_eq, bifT (by omega), bif2T (by omega) (by omega), hi1]
      simp only [Int.toNat_natCast]
      rw [impl_areLines_1.f_eq, iLine _ hsz, sB, sB]
      by_cases h : lineP (l.getD i em)
      · refine ⟨r, by rw [bifNF h]; exact hr, ?_⟩
        rw [hp, drop_at hlt em, allLines_cons, decide_eq_true h, Bool.true_and]
      · refine ⟨(i : Int), by rw [bifNT h], ?_⟩
        rw [drop_at hlt em, allLines_cons, decide_eq_false h, Bool.false_and]; exact decide_eq_true (by omega)
  obtain ⟨r, hr, hp⟩ := idx 0 (by omega)
  rw [impl_areLines.f_eq, slices_ContainsFunc_Lstring_string__impl_areLines_1.f_eq, slices_IndexFunc_Lstring_string__impl_areLines_1.f_eq]
  by_cases h : l.length ≤ 40
  · rw [bifT (by omega)]
    refine bindEq (bindEq hr rfl) ?_
    rw [hp, decide_eq_true h]; simp
  · rw [bifF (by omega), decide_eq_false h]; rfl
theorem iGood (l : T) (hl : Sm l) : impl_goodLines.f l = some (goodB l) := by
  have hL := hl.1
  rw [impl_goodLines.f_eq, iAre l hl, sB]
  unfold goodB
  cases hg : (decide (l.length ≤ 40) && allLines l) with
  | false => rw [Bool.false_and, notF]
  | true =>
    rw [Bool.true_and, notT]
    have hw : w64 ((l.length : Int) - 1) = (l.length : Int) - 1 := w64_id (by omega) (by omega)
    have key : ∀ i, i ≤ l.length → impl_goodLines.l8 l l (l.length : Int) (i : Int) = some (endsT (l.drop i)) := by
      apply downTo
      · rw [impl_goodLines.l8_eq, bifF (by omega), List.drop_eq_nil_of_le (by omega)]; rfl
      · intro i hi ih
        have hi1 := up1 (i := i) (by omega)
        have hsz := hl.2 _ (getD_mem hi em)
        have he := drop_empty hi
        have hR : endsT (l.drop i) = ((decide (¬ (i : Int) < (l.length : Int) - 1) || decide (endP (l.getD i em))) && endsT (l.drop (i + 1))) := by
          rw [drop_at hi em]; simp only [endsT, he]
        rw [hR, impl_goodLines.l8_eq, hw, hi1, bifT (by omega), bif2T (by omega) (by omega)]
        simp only [Int.toNat_natCast]
        rw [iEnds _ hsz, sB, ih]
        by_cases h2 : (i : Int) < (l.length : Int) - 1
        · rw [bifT h2, decide_eq_false (show ¬ ¬ (i : Int) < (l.length : Int) - 1 from fun g => g h2), Bool.false_or]
          by_cases h3 : endP (l.getD i em)
          · rw [bifNF h3, decide_eq_true h3, Bool.true_and]
          · rw [bifNT h3, decide_eq_false h3, Bool.false_and]
        · rw [bifF h2, decide_eq_true h2, Bool.true_or, Bool.true_and]
    have := key 0 (by omega)
    rw [List.drop_zero] at this
    exact this
theorem sGood (l : T) (hl : Sm l) : spec_l1Good.f l = some (goodB l) := by
  have hL := hl.1
  have hw : w64 ((l.length : Int) - 1) = (l.length : Int) - 1 := w64_id (by omega) (by omega)
  have key : ∀ i, i ≤ l.length → spec_l1Good.l4 l l (l.length : Int) (i : Int) = some (decide (l.length ≤ 40) && allLines (l.drop i) && endsT (l.drop i)) := by
    apply downTo
    · rw [spec_l1Good.l4_eq, bifF (by omega), List.drop_eq_nil_of_le (by omega)]
      simp [allLines, endsT]
      omega
    · intro i hi ih
      have hi1 := up1 (i := i) (by omega)
      have hd := drop_at hi em
      have hsz := hl.2 _ (getD_mem hi em)
      have he := drop_empty hi
      have hR : (decide (l.length ≤ 40) && allLines (l.drop i) && endsT (l.drop i)) = (decide (lineP (l.getD i em)) && ((decide (¬ (i : Int) < (l.length : Int) - 1) || decide (endP (l.getD i em))) && (decide (l.length ≤ 40) && allLines (l.drop (i + 1)) && endsT (l.drop (i + 1))))) := by
        rw [hd]
        simp only [allLines, endsT, List.all_cons, he]
        generalize decide (l.length ≤ 40) = a1
        generalize decide (lineP (l.getD i em)) = a2
        generalize (l.drop (i + 1)).all (fun s => decide (lineP s)) = a3
        generalize (decide (¬ (i : Int) < (l.length : Int) - 1) || decide (endP (l.getD i em))) = a4
        generalize endsT (l.drop (i + 1)) = a5
        cases a1 <;> cases a2 <;> cases a3 <;> cases a4 <;> cases a5 <;> rfl
      rw [hR, spec_l1Good.l4_eq, hw, hi1, bifT (by omega), bif2T (by omega) (by omega)]
      simp only [Int.toNat_natCast]
      rw [sLine _ hsz, sB, ih]
      by_cases h1 : lineP (l.getD i em)
      · rw [bifNF h1, decide_eq_true h1, Bool.true_and]
        by_cases h2 : (i : Int) < (l.length : Int) - 1
        · rw [bifT h2, decide_eq_false (show ¬ ¬ (i : Int) < (l.length : Int) - 1 from fun g => g h2), Bool.false_or, sEnds _ h1.1 hsz, sB]
          by_cases h3 : endP (l.getD i em)
          · rw [bifNF h3, decide_eq_true h3, Bool.true_and]
          · rw [bifNT h3, decide_eq_false h3, Bool.false_and]
        · rw [bifF h2, decide_eq_true h2, Bool.true_or, Bool.true_and]
      · rw [bifNT h1, decide_eq_false h1, Bool.false_and]
  have := key 0 (by omega)
  rw [List.drop_zero] at this
  rw [spec_l1Good.f_eq]
  exact this
theorem good_len {l : T} (h : goodB l = true) : l.length ≤ 40 := by
  unfold goodB at h
  simp only [Bool.and_eq_true, decide_eq_true_eq] at h
  exact h.1.1
def wholeB (l : T) : Bool := match l.getLast? with | none => true | some s => decide (endP s)
theorem sWhole (l : T) (h : l.length ≤ 1048576) (hs : 0 < l.length → 1 ≤ (l.getD (l.length - 1) em).size ∧ (l.getD (l.length - 1) em).size ≤ 1048576) : spec_l1Whole.f l = some (wholeB l) := by
  rw [spec_l1Whole.f_eq, wholeB]
  by_cases h0 : (l.length : Int) = 0
  · rw [bifT h0]
    have : l = [] := List.length_eq_zero_iff.1 (by omega)
    subst this; rfl
  · rw [bifF h0, dn1 (by omega) (by omega), bif2T (by omega) (by omega)]
    simp only [Int.toNat_natCast]
    have hm := hs (by omega)
    rw [sEnds _ hm.1 hm.2, sB]
    have e : l.getLast? = some (l.getD (l.length - 1) em) := by
      rw [List.getLast?_eq_getElem?, List.getD_eq_getElem?_getD, List.getElem?_eq_getElem (by omega)]; rfl
    rw [e]
def plainB (s : ByteArray) : ByteArray := if endP s then s.extract 0 (s.size - 1) else s
theorem sPlain (s : ByteArray) (h1 : 1 ≤ s.size) (h2 : s.size ≤ 1048576) : spec_l1Plain.f s = some (plainB s) := by
  rw [spec_l1Plain.f_eq, sEnds s h1 h2, sB, plainB, dn1 (by omega) (by omega)]
  by_cases h : endP s
  · rw [bifT h, if_pos h, bif2T (by omega) (by omega)]; rfl
  · rw [bifF h, if_neg h]
theorem plainB_size (s : ByteArray) : (plainB s).size ≤ s.size := by
  unfold plainB
  split
  · rw [ByteArray.size_extract]; omega
  · exact Nat.le_refl _
theorem em_beq (s : ByteArray) (h : s.size ≠ 0) : (s.toList == em.toList) = false := by
  rw [toList_beq]
  exact decide_eq_false fun e => h (by rw [e]; rfl)
/-- rows of a size that is let through -/
def SmR (l : YRowS) : Prop := l.length ≤ 1048576 ∧ ∀ x ∈ l, x.2.size ≤ 1048576
def side (c : Int) : YRowS → T
  | [] => []
  | r :: l => if r.1 = c then side c l else r.2 :: side c l
theorem side_cons (c : Int) (r : YRow) (l : YRowS) : side c (r :: l) = if r.1 = c then side c l else r.2 :: side c l := rfl
theorem side_len (c : Int) : ∀ l, (side c l).length ≤ l.length
  | [] => Nat.le_refl _
  | r :: l => by
    have := side_len c l
    unfold side
    split
    · rw [List.length_cons]; omega
    · rw [List.length_cons, List.length_cons]; omega
theorem side_mem (c : Int) : ∀ l s, s ∈ side c l → ∃ r ∈ l, s = r.2
  | [], s, h => by cases h
  | r :: l, s, h => by
    unfold side at h
    split at h
    · obtain ⟨q, hq, e⟩ := side_mem c l s h
      exact ⟨q, List.mem_cons_of_mem _ hq, e⟩
    · rcases List.mem_cons.1 h with rfl | h
      · exact ⟨r, List.mem_cons_self, rfl⟩
      · obtain ⟨q, hq, e⟩ := side_mem c l s h
        exact ⟨q, List.mem_cons_of_mem _ hq, e⟩
theorem side_sm (c : Int) {l : YRowS} (h : SmR l) : Sm (side c l) := by
  refine ⟨Nat.le_trans (side_len c l) h.1, fun s hs => ?_⟩
  obtain ⟨r, hr, rfl⟩ := side_mem c l s hs
  exact h.2 r hr
theorem side_step (c : Int) (s : T) (l : YRowS) {i : Nat} (hi : i < l.length) : s ++ side c (l.drop i) = (if (l.getD i (0, em)).1 = c then s else s ++ [(l.getD i (0, em)).2]) ++ side c (l.drop (i + 1)) := by
  rw [drop_at hi (0, em), side_cons]
  split
  · rfl
  · rw [List.append_assoc]; rfl
theorem sOld (g : YGroup) (hl : g.2.2.length ≤ 1048576) : spec_l6Old.f g = some (side 3 g.2.2) := by
  obtain ⟨a, b, l⟩ := g
  simp only at hl
  have key : ∀ i, i ≤ l.length → ∀ s : T, s.length ≤ i → spec_l6Old.l6 s l (l.length : Int) (i : Int) = some (s ++ side 3 (l.drop i)) := by
    apply downTo
    · intro s h
      rw [spec_l6Old.l6_eq, bifF (by omega), List.drop_eq_nil_of_le (by omega)]; simp [side]
    · intro i hi ih s h
      rw [side_step 3 s l hi, spec_l6Old.l6_eq, bifT (by omega), bif2T (by omega) (by omega), up1 (by omega), room16]
      simp only [Int.toNat_natCast]
      by_cases h3 : (l.getD i (0, em)).1 = 3
      · rw [if_pos h3, bifNF h3]; exact ih s (by omega)
      · rw [if_neg h3, bifNT h3, bifT (by simp only [List.length_singleton]; omega)]
        exact ih _ (by rw [List.length_append, List.length_singleton]; omega)
  rw [spec_l6Old.f_eq]
  exact key 0 (by omega) [] (by simp)
theorem sNew (g : YGroup) (hl : g.2.2.length ≤ 1048576) : spec_l6New.f g = some (side 2 g.2.2) := by
  obtain ⟨a, b, l⟩ := g
  simp only at hl
  have key : ∀ i, i ≤ l.length → ∀ s : T, s.length ≤ i → spec_l6New.l6 s l (l.length : Int) (i : Int) = some (s ++ side 2 (l.drop i)) := by
    apply downTo
    · intro s h
      rw [spec_l6New.l6_eq, bifF (by omega), List.drop_eq_nil_of_le (by omega)]; simp [side]
    · intro i hi ih s h
      rw [side_step 2 s l hi, spec_l6New.l6_eq, bifT (by omega), bif2T (by omega) (by omega), up1 (by omega), room16]
      simp only [Int.toNat_natCast]
      by_cases h3 : (l.getD i (0, em)).1 = 2
      · rw [if_pos h3, bifNF h3]; exact ih s (by omega)
      · rw [if_neg h3, bifNT h3, bifT (by simp only [List.length_singleton]; omega)]
        exact ih _ (by rw [List.length_append, List.length_singleton]; omega)
  rw [spec_l6New.f_eq]
  exact key 0 (by omega) [] (by simp)
theorem iSide (c : Int) (l : YRowS) (hl : l.length ≤ 1048576) : impl_sideOf.f l c = some (side c l) := by
  have key : ∀ i, i ≤ l.length → ∀ s : T, s.length ≤ i → impl_sideOf.l6 c s l (l.length : Int) (i : Int) = some (s ++ side c (l.drop i)) := by
    apply downTo
    · intro s h
      rw [impl_sideOf.l6_eq, bifF (by omega), List.drop_eq_nil_of_le (by omega)]; simp [side]
    · intro i hi ih s h
      rw [side_step c s l hi, impl_sideOf.l6_eq, bifT (by omega), bif2T (by omega) (by omega), up1 (by omega), room16]
      simp only [Int.toNat_natCast]
      by_cases h3 : (l.getD i (0, em)).1 = c
      · rw [if_pos h3, bifNF h3]; exact ih s (by omega)
      · rw [if_neg h3, bifNT h3, bifT (by simp only [List.length_singleton]; omega)]
        exact ih _ (by rw [List.length_append, List.length_singleton]; omega)
  rw [impl_sideOf.f_eq]
  exact key 0 (by omega) [] (by simp)
theorem iOld (g : YGroup) (hl : g.2.2.length ≤ 1048576) : impl_Group_old.f g = some (side 3 g.2.2) := by
  rw [impl_Group_old.f_eq, iSide 3 _ hl, sB]
theorem iNew (g : YGroup) (hl : g.2.2.length ≤ 1048576) : impl_Group_fresh.f g = some (side 2 g.2.2) := by
  rw [impl_Group_fresh.f_eq, iSide 2 _ hl, sB]
theorem s5 (l : T) (hl : Sm l) : spec_l5Lines.f l = some (goodB l) := by
  have hL := hl.1
  have hw : w64 ((l.length : Int) - 1) = (l.length : Int) - 1 := w64_id (by omega) (by omega)
  have key : ∀ i, i ≤ l.length → spec_l5Lines.l4 l l (l.length : Int) (i : Int) = some (decide (l.length ≤ 40) && allLines (l.drop i) && endsT (l.drop i)) := by
    apply downTo
    · rw [spec_l5Lines.l4_eq, bifF (by omega), List.drop_eq_nil_of_le (by omega)]
      simp [allLines, endsT]
      omega
    · intro i hi ih
      have hi1 := up1 (i := i) (by omega)
      have hd := drop_at hi em
      have hsz := hl.2 _ (getD_mem hi em)
      have he := drop_empty hi
      have hR : (decide (l.length ≤ 40) && allLines (l.drop i) && endsT (l.drop i)) = (decide (lineP (l.getD i em)) && ((decide (¬ (i : Int) < (l.length : Int) - 1) || decide (endP (l.getD i em))) && (decide (l.length ≤ 40) && allLines (l.drop (i + 1)) && endsT (l.drop (i + 1))))) := by
        rw [hd]
        simp only [allLines, endsT, List.all_cons, he]
        generalize decide (l.length ≤ 40) = a1
        generalize decide (lineP (l.getD i em)) = a2
        generalize (l.drop (i + 1)).all (fun s => decide (lineP s)) = a3
        generalize (decide (¬ (i : Int) < (l.length : Int) - 1) || decide (endP (l.getD i em))) = a4
        generalize endsT (l.drop (i + 1)) = a5
        cases a1 <;> cases a2 <;> cases a3 <;> cases a4 <;> cases a5 <;> rfl
      rw [hR, spec_l5Lines.l4_eq, hw, hi1, bifT (by omega), bif2T (by omega) (by omega)]
      simp only [Int.toNat_natCast]
      rw [sLine _ hsz, sB, ih]
      by_cases h1 : lineP (l.getD i em)
      · rw [bifNF h1, decide_eq_true h1, Bool.true_and]
        by_cases h2 : (i : Int) < (l.length : Int) - 1
        · rw [bifT h2, decide_eq_false (show ¬ ¬ (i : Int) < (l.length : Int) - 1 from fun g => g h2), Bool.false_or, sEnds _ h1.1 hsz, sB]
          by_cases h3 : endP (l.getD i em)
          · rw [bifNF h3, decide_eq_true h3, Bool.true_and]
          · rw [bifNT h3, decide_eq_false h3, Bool.false_and]
        · rw [bifF h2, decide_eq_true h2, Bool.true_or, Bool.true_and]
      · rw [bifNT h1, decide_eq_false h1, Bool.false_and]
  have := key 0 (by omega)
  rw [List.drop_zero] at this
  rw [spec_l5Lines.f_eq]
  exact this
def rowsB : Int → YRowS → Bool
  | _, [] => true
  | p, r :: l => decide (1 ≤ r.1 ∧ r.1 ≤ 3) && (decide (lineP r.2) && (decide (¬ (r.1 = 2 ∧ p = 3)) && rowsB r.1 l))
def anyB : YRowS → Bool
  | [] => false
  | r :: l => (!decide (r.1 = 1)) || anyB l
def pv (l : YRowS) (i : Nat) : Int := if i = 0 then 0 else (l.getD (i - 1) (0, em)).1
/-- What is asked behind the rows. -/
def tl (g : YGroup) (s : Bool) : Bool :=
  s && (decide ((0 ≤ g.1 ∧ g.1 ≤ 999) ∧ (0 ≤ g.2.1 ∧ g.2.1 ≤ 999) ∧ g.1 + ((side 3 g.2.2).length : Int) ≤ 1000 ∧ g.2.1 + ((side 2 g.2.2).length : Int) ≤ 1000 ∧ g.2.2.length ≤ 80) && (goodB (side 3 g.2.2) && goodB (side 2 g.2.2)))
def groupB (g : YGroup) : Bool := rowsB 0 g.2.2 && tl g (anyB g.2.2)
theorem rows_step (l : YRowS) {i : Nat} (hi : i < l.length) : rowsB (pv l i) (l.drop i) = (decide (1 ≤ (l.getD i (0, em)).1 ∧ (l.getD i (0, em)).1 ≤ 3) && (decide (lineP (l.getD i (0, em)).2) && (decide (¬ ((l.getD i (0, em)).1 = 2 ∧ pv l i = 3)) && rowsB (pv l (i + 1)) (l.drop (i + 1))))) := by
  have : pv l (i + 1) = (l.getD i (0, em)).1 := by unfold pv; rw [if_neg (by omega)]; rfl
  rw [this, drop_at hi (0, em)]; rfl
theorem any_step (s : Bool) (l : YRowS) {i : Nat} (hi : i < l.length) : (s || anyB (l.drop i)) = ((s || (!decide ((l.getD i (0, em)).1 = 1))) || anyB (l.drop (i + 1))) := by
  rw [drop_at hi (0, em)]
  show (s || (_ || _)) = _
  rw [Bool.or_assoc]
theorem sGroup (g : YGroup) (hl : SmR g.2.2) : spec_l6Group.f g = some (groupB g) := by
  have hL := hl.1
  have n3 := side_len 3 g.2.2
  have n2 := side_len 2 g.2.2
  obtain ⟨l, hlg⟩ : ∃ l, g.2.2 = l := ⟨_, rfl⟩
  have hLl : l.length ≤ 1048576 := by rw [← hlg]; exact hL
  have key : ∀ i, i ≤ l.length → ∀ s : Bool, spec_l6Group.l6 g s l (l.length : Int) (i : Int) = some (rowsB (pv l i) (l.drop i) && tl g (s || anyB (l.drop i))) := by
    apply downTo
    · intro s
      rw [spec_l6Group.l6_eq, bifF (by omega), List.drop_eq_nil_of_le (by omega)]
      show _ = some (true && tl g (s || false))
      rw [Bool.true_and, Bool.or_false]
      cases s with
      | false => rfl
      | true =>
        unfold tl
        rw [Bool.true_and, cond_true, sIn, sB]
        by_cases ha : 0 ≤ g.1 ∧ g.1 ≤ 999
        case neg => rw [bifF ha, decide_eq_false (fun h => ha h.1)]; rfl
        rw [bifT ha, sIn, sB]
        by_cases hb : 0 ≤ g.2.1 ∧ g.2.1 ≤ 999
        case neg => rw [bifF hb, decide_eq_false (fun h => hb h.2.1)]; rfl
        rw [bifT hb, sOld g hL, sB, w64_id (by omega) (by omega)]
        by_cases c1 : g.1 + ((side 3 g.2.2).length : Int) ≤ 1000
        case neg => rw [bifF c1, decide_eq_false (fun h => c1 h.2.2.1)]; rfl
        rw [bifT c1, sNew g hL, sB, w64_id (by omega) (by omega)]
        by_cases c2 : g.2.1 + ((side 2 g.2.2).length : Int) ≤ 1000
        case neg => rw [bifF c2, decide_eq_false (fun h => c2 h.2.2.2.1)]; rfl
        rw [bifT c2]
        by_cases c3 : g.2.2.length ≤ 80
        case neg => rw [bifF (by omega), decide_eq_false (fun h => c3 h.2.2.2.2)]; rfl
        rw [bifT (by omega), sB, s5 _ (side_sm 3 hl), sB, decide_eq_true (⟨ha, hb, c1, c2, c3⟩ : _ ∧ _ ∧ _ ∧ _ ∧ _), Bool.true_and]
        cases goodB (side 3 g.2.2) with
        | false => rfl
        | true => rw [cond_true, sB, s5 _ (side_sm 2 hl), sB]; rfl
    · intro i hi ih s
      have hsz := hl.2 _ (getD_mem (l := g.2.2) (by rw [hlg]; exact hi) (0, em))
      rw [hlg] at hsz
      rw [rows_step l hi, any_step s l hi, spec_l6Group.l6_eq, bifT (by omega), bif2T (by omega) (by omega)]
      simp only [Int.toNat_natCast]
      have fin : spec_l6Group.l15 g s (l.getD i (0, em)) l (l.length : Int) (i : Int) = some (rowsB (pv l (i + 1)) (l.drop (i + 1)) && tl g ((s || (!decide ((l.getD i (0, em)).1 = 1))) || anyB (l.drop (i + 1)))) := by
        rw [spec_l6Group.l15_eq, up1 (by omega)]
        cases s with
        | false => rw [cond_false, ih, Bool.false_or]
        | true => rw [cond_true, ih]; simp only [Bool.true_or]
      rw [sIn, sB]
      by_cases h1 : 1 ≤ (l.getD i (0, em)).1 ∧ (l.getD i (0, em)).1 ≤ 3
      case neg => rw [bifNT h1, decide_eq_false h1, Bool.false_and, Bool.false_and]
      rw [bifNF h1, decide_eq_true h1, Bool.true_and, sLine _ hsz, sB]
      by_cases h2 : lineP (l.getD i (0, em)).2
      case neg => rw [bifNT h2, decide_eq_false h2, Bool.false_and, Bool.false_and]
      rw [bifNF h2, decide_eq_true h2, Bool.true_and]
      by_cases h3 : (i : Int) > 0
      · rw [bifT h3]
        by_cases h4 : (l.getD i (0, em)).1 = 2
        · rw [bifT h4, dn1 (by omega) (by omega), hlg, bif2T (by omega) (by omega)]
          simp only [Int.toNat_natCast]
          have hp : pv l i = (l.getD (i - 1) (0, em)).1 := by unfold pv; rw [if_neg (by omega)]
          by_cases h5 : (l.getD (i - 1) (0, em)).1 = 3
          · have hx : ¬ ¬ ((l.getD i (0, em)).1 = 2 ∧ pv l i = 3) := fun g => g ⟨h4, hp.trans h5⟩
            rw [bifT h5, decide_eq_false hx, Bool.false_and, Bool.false_and]
          · have hx : ¬ ((l.getD i (0, em)).1 = 2 ∧ pv l i = 3) := fun g => h5 (hp.symm.trans g.2)
            rw [bifF h5, decide_eq_true hx, Bool.true_and]; exact fin
        · have hx : ¬ ((l.getD i (0, em)).1 = 2 ∧ pv l i = 3) := fun g => h4 g.1
          rw [bifF h4, decide_eq_true hx, Bool.true_and]; exact fin
      · have hp : pv l i = 0 := by unfold pv; rw [if_pos (by omega)]
        have hx : ¬ ((l.getD i (0, em)).1 = 2 ∧ pv l i = 3) := fun g => by rw [hp] at g; exact absurd g.2 (by decide)
        rw [bifF h3, decide_eq_true hx, Bool.true_and]; exact fin
  have := key 0 (by omega) false
  rw [List.drop_zero, Bool.false_or] at this
  rw [spec_l6Group.f_eq, hlg, groupB, hlg]
  exact this
theorem iGroup_l (g : YGroup) (hl : SmR g.2.2) (ha : 0 ≤ g.1 ∧ g.1 ≤ 999) (hb : 0 ≤ g.2.1 ∧ g.2.1 ≤ 999) (h80 : g.2.2.length ≤ 80) : impl_goodGroup.l10 g false g.2.2 (g.2.2.length : Int) 0 = some (groupB g) := by
  have hL := hl.1
  have n3 := side_len 3 g.2.2
  have n2 := side_len 2 g.2.2
  obtain ⟨l, hlg⟩ : ∃ l, g.2.2 = l := ⟨_, rfl⟩
  have hLl : l.length ≤ 1048576 := by rw [← hlg]; exact hL
  have key : ∀ i, i ≤ l.length → ∀ s : Bool, impl_goodGroup.l10 g s l (l.length : Int) (i : Int) = some (rowsB (pv l i) (l.drop i) && tl g (s || anyB (l.drop i))) := by
    apply downTo
    · intro s
      rw [impl_goodGroup.l10_eq, bifF (by omega), List.drop_eq_nil_of_le (by omega), iOld g hL, iNew g hL, sB, sB]
      show _ = some (true && tl g (s || false))
      rw [Bool.true_and, Bool.or_false]
      cases s with
      | false => rfl
      | true =>
        unfold tl
        rw [Bool.true_and, cond_true, iGood _ (side_sm 3 hl), sB]
        cases goodB (side 3 g.2.2) with
        | false => rw [Bool.false_and, Bool.and_false]; rfl
        | true =>
          rw [cond_true, Bool.true_and, iGood _ (side_sm 2 hl), sB]
          cases goodB (side 2 g.2.2) with
          | false => rw [Bool.and_false]; rfl
          | true =>
            rw [cond_true, Bool.and_true, w64_id (by omega) (by omega), w64_id (by omega) (by omega)]
            by_cases c1 : g.1 + ((side 3 g.2.2).length : Int) ≤ 1000
            · rw [bifT c1]; congr 1; rw [decide_eq_decide]
              exact ⟨fun h => ⟨ha, hb, c1, h, h80⟩, fun h => h.2.2.2.1⟩
            · rw [bifF c1, decide_eq_false (fun h => c1 h.2.2.1)]
    · intro i hi ih s
      have hsz := hl.2 _ (getD_mem (l := g.2.2) (by rw [hlg]; exact hi) (0, em))
      rw [hlg] at hsz
      rw [rows_step l hi, any_step s l hi, impl_goodGroup.l10_eq, bifT (by omega), bif2T (by omega) (by omega)]
      simp only [Int.toNat_natCast]
      have fin : impl_goodGroup.l19 g s (l.getD i (0, em)) l (l.length : Int) (i : Int) = some (rowsB (pv l (i + 1)) (l.drop (i + 1)) && tl g ((s || (!decide ((l.getD i (0, em)).1 = 1))) || anyB (l.drop (i + 1)))) := by
        rw [impl_goodGroup.l19_eq, up1 (by omega)]
        cases s with
        | false => rw [cond_false, ih, Bool.false_or]
        | true => rw [cond_true, ih]; simp only [Bool.true_or]
      rw [iIn, sB]
      by_cases h1 : 1 ≤ (l.getD i (0, em)).1 ∧ (l.getD i (0, em)).1 ≤ 3
      case neg => rw [bifNT h1, decide_eq_false h1, Bool.false_and, Bool.false_and]
      rw [bifNF h1, decide_eq_true h1, Bool.true_and, iLine _ hsz, sB]
      by_cases h2 : lineP (l.getD i (0, em)).2
      case neg => rw [bifNT h2, decide_eq_false h2, Bool.false_and, Bool.false_and]
      rw [bifNF h2, decide_eq_true h2, Bool.true_and]
      by_cases h3 : (i : Int) > 0
      · rw [bifT h3]
        by_cases h4 : (l.getD i (0, em)).1 = 2
        · rw [bifT h4, dn1 (by omega) (by omega), hlg, bif2T (by omega) (by omega)]
          simp only [Int.toNat_natCast]
          have hp : pv l i = (l.getD (i - 1) (0, em)).1 := by unfold pv; rw [if_neg (by omega)]
          by_cases h5 : (l.getD (i - 1) (0, em)).1 = 3
          · have hx : ¬ ¬ ((l.getD i (0, em)).1 = 2 ∧ pv l i = 3) := fun g => g ⟨h4, hp.trans h5⟩
            rw [bifT h5, decide_eq_false hx, Bool.false_and, Bool.false_and]
          · have hx : ¬ ((l.getD i (0, em)).1 = 2 ∧ pv l i = 3) := fun g => h5 (hp.symm.trans g.2)
            rw [bifF h5, decide_eq_true hx, Bool.true_and]; exact fin
        · have hx : ¬ ((l.getD i (0, em)).1 = 2 ∧ pv l i = 3) := fun g => h4 g.1
          rw [bifF h4, decide_eq_true hx, Bool.true_and]; exact fin
      · have hp : pv l i = 0 := by unfold pv; rw [if_pos (by omega)]
        have hx : ¬ ((l.getD i (0, em)).1 = 2 ∧ pv l i = 3) := fun g => by rw [hp] at g; exact absurd g.2 (by decide)
        rw [bifF h3, decide_eq_true hx, Bool.true_and]; exact fin
  have := key 0 (by omega) false
  rw [List.drop_zero, Bool.false_or] at this
  rw [groupB, hlg]
  exact this
theorem group_in {g : YGroup} (h : groupB g = true) : (0 ≤ g.1 ∧ g.1 ≤ 999) ∧ (0 ≤ g.2.1 ∧ g.2.1 ≤ 999) ∧ g.1 + ((side 3 g.2.2).length : Int) ≤ 1000 ∧ g.2.1 + ((side 2 g.2.2).length : Int) ≤ 1000 ∧ g.2.2.length ≤ 80 := by
  unfold groupB tl at h
  simp only [Bool.and_eq_true, decide_eq_true_eq] at h
  exact h.2.2.1
theorem group_any {g : YGroup} (h : groupB g = true) : anyB g.2.2 = true := by
  unfold groupB tl at h
  simp only [Bool.and_eq_true] at h
  exact h.2.1
theorem group_rows {g : YGroup} (h : groupB g = true) : rowsB 0 g.2.2 = true := by
  unfold groupB at h
  simp only [Bool.and_eq_true] at h
  exact h.1
theorem group_sides {g : YGroup} (h : groupB g = true) : goodB (side 3 g.2.2) = true ∧ goodB (side 2 g.2.2) = true := by
  unfold groupB tl at h
  simp only [Bool.and_eq_true] at h
  exact h.2.2.2
theorem iGroup (g : YGroup) (hl : SmR g.2.2) : impl_goodGroup.f g = some (groupB g) := by
  have hL := hl.1
  have no : ∀ {P : Prop}, (groupB g = true → False) → some false = some (groupB g) := fun h => by
    cases hg : groupB g with
    | true => exact (h hg).elim
    | false => rfl
  rw [impl_goodGroup.f_eq, iIn, sB]
  by_cases ha : 0 ≤ g.1 ∧ g.1 ≤ 999
  case neg => rw [bifNT ha]; exact no (P := True) fun h => ha (group_in h).1
  rw [bifNF ha, iIn, sB]
  by_cases hb : 0 ≤ g.2.1 ∧ g.2.1 ≤ 999
  case neg => rw [bifNT hb]; exact no (P := True) fun h => hb (group_in h).2.1
  rw [bifNF hb, iIn, sB]
  by_cases hc : (1 : Int) ≤ (g.2.2.length : Int) ∧ (g.2.2.length : Int) ≤ 80
  case neg =>
    rw [bifNT hc]
    refine no (P := True) fun h => hc ⟨?_, by have := group_in h; omega⟩
    have ha := group_any h
    cases hg : g.2.2 with
    | nil => rw [hg] at ha; cases ha
    | cons r l => simp only [List.length_cons]; omega
  rw [bifNF hc, impl_goodGroup.l7_eq]
  exact iGroup_l g hl ha hb (by omega)
/-- groups of a size that is let through -/
def SmG (g : YGroupS) : Prop := g.length ≤ 1048576 ∧ ∀ x ∈ g, SmR x.2.2
def gA (x : YGroup) : Int := x.1 + ((side 3 x.2.2).length : Int)
def gB (x : YGroup) : Int := x.2.1 + ((side 2 x.2.2).length : Int)
def groupsB : Int → Int → YGroupS → Bool
  | _, _, [] => true
  | a, b, x :: r => groupB x && (decide (a ≤ x.1 ∧ b ≤ x.2.1) && groupsB (gA x) (gB x) r)
def gsB (g : YGroupS) : Bool := groupsB 0 0 g && decide (g.length ≤ 20)
def pA (g : YGroupS) (i : Nat) : Int := if i = 0 then 0 else gA (g.getD (i - 1) (0, 0, []))
def pB (g : YGroupS) (i : Nat) : Int := if i = 0 then 0 else gB (g.getD (i - 1) (0, 0, []))
theorem groups_step (g : YGroupS) {i : Nat} (hi : i < g.length) : groupsB (pA g i) (pB g i) (g.drop i) = (groupB (g.getD i (0, 0, [])) && (decide (pA g i ≤ (g.getD i (0, 0, [])).1 ∧ pB g i ≤ (g.getD i (0, 0, [])).2.1) && groupsB (pA g (i + 1)) (pB g (i + 1)) (g.drop (i + 1)))) := by
  have h1 : pA g (i + 1) = gA (g.getD i (0, 0, [])) := by unfold pA; rw [if_neg (by omega)]; rfl
  have h2 : pB g (i + 1) = gB (g.getD i (0, 0, [])) := by unfold pB; rw [if_neg (by omega)]; rfl
  rw [h1, h2, drop_at hi (0, 0, [])]; rfl
theorem sGroups (g : YGroupS) (hg : SmG g) : spec_l6Good.f g = some (gsB g) := by
  have hL := hg.1
  have key : ∀ i, i ≤ g.length → (0 < i → groupB (g.getD (i - 1) (0, 0, [])) = true) → spec_l6Good.l4 g g (g.length : Int) (i : Int) = some (groupsB (pA g i) (pB g i) (g.drop i) && decide (g.length ≤ 20)) := by
    apply downTo
    · intro _
      rw [spec_l6Good.l4_eq, bifF (by omega), List.drop_eq_nil_of_le (by omega)]
      show _ = some (true && _)
      rw [Bool.true_and]; congr 1; rw [decide_eq_decide]; omega
    · intro i hi ih hprev
      have hsm := hg.2 _ (getD_mem hi (0, 0, []))
      rw [groups_step g hi, spec_l6Good.l4_eq, bifT (by omega), bif2T (by omega) (by omega), up1 (by omega)]
      simp only [Int.toNat_natCast]
      rw [sGroup _ hsm, sB]
      cases hx : groupB (g.getD i (0, 0, [])) with
      | false => rw [notF, Bool.false_and, Bool.false_and]
      | true =>
        have nxt := ih (fun _ => by rw [Nat.add_sub_cancel]; exact hx)
        obtain ⟨q1, q2, q3, q4, q5⟩ := group_in hx
        rw [notT, Bool.true_and]
        by_cases c7 : (i : Int) > 0
        · have hpr := hprev (by omega)
          obtain ⟨r1, r2, r3, r4, r5⟩ := group_in hpr
          have hsp := hg.2 _ (getD_mem (l := g) (i := i - 1) (by omega) (0, 0, []))
          have e1 : pA g i = gA (g.getD (i - 1) (0, 0, [])) := by unfold pA; rw [if_neg (by omega)]
          have e2 : pB g i = gB (g.getD (i - 1) (0, 0, [])) := by unfold pB; rw [if_neg (by omega)]
          rw [bifT c7, dn1 (by omega) (by omega)]
          simp only [Int.toNat_natCast]
          unfold gA at e1
          unfold gB at e2
          have w1 : w64 ((g.getD (i - 1) (0, 0, [])).1 + ((side 3 (g.getD (i - 1) (0, 0, [])).2.2).length : Int)) = pA g i := by rw [w64_id (by omega) (by omega)]; exact e1.symm
          have w2 : w64 ((g.getD (i - 1) (0, 0, [])).2.1 + ((side 2 (g.getD (i - 1) (0, 0, [])).2.2).length : Int)) = pB g i := by rw [w64_id (by omega) (by omega)]; exact e2.symm
          rw [bif2T (by omega) (by omega), bif2T (by omega) (by omega), sOld _ hsp.1, sB]
          simp only [w1]
          by_cases c1 : (g.getD i (0, 0, [])).1 < pA g i
          · rw [bifT c1, decide_eq_false (show ¬ (pA g i ≤ (g.getD i (0, 0, [])).1 ∧ pB g i ≤ (g.getD i (0, 0, [])).2.1) by omega), Bool.false_and, Bool.false_and]
          rw [bifF c1, bif2T (by omega) (by omega), bif2T (by omega) (by omega), sNew _ hsp.1, sB]
          simp only [w2]
          by_cases c2 : (g.getD i (0, 0, [])).2.1 < pB g i
          · rw [bifT c2, decide_eq_false (show ¬ (pA g i ≤ (g.getD i (0, 0, [])).1 ∧ pB g i ≤ (g.getD i (0, 0, [])).2.1) by omega), Bool.false_and, Bool.false_and]
          rw [bifF c2, decide_eq_true (show pA g i ≤ (g.getD i (0, 0, [])).1 ∧ pB g i ≤ (g.getD i (0, 0, [])).2.1 by omega), Bool.true_and]
          exact nxt
        · have e1 : pA g i = 0 := by unfold pA; rw [if_pos (by omega)]
          have e2 : pB g i = 0 := by unfold pB; rw [if_pos (by omega)]
          rw [bifF c7, decide_eq_true (show pA g i ≤ (g.getD i (0, 0, [])).1 ∧ pB g i ≤ (g.getD i (0, 0, [])).2.1 by omega), Bool.true_and]
          exact nxt
  rw [spec_l6Good.f_eq]
  exact key 0 (by omega) (fun h => absurd h (Nat.lt_irrefl 0))
theorem iGroups (g : YGroupS) (hg : SmG g) : impl_goodGroups.f g = some (gsB g) := by
  have hL := hg.1
  have key : ∀ i, i ≤ g.length → (0 < i → groupB (g.getD (i - 1) (0, 0, [])) = true) → impl_goodGroups.l8 g g (g.length : Int) (i : Int) = some (groupsB (pA g i) (pB g i) (g.drop i)) := by
    apply downTo
    · intro _
      rw [impl_goodGroups.l8_eq, bifF (by omega), List.drop_eq_nil_of_le (by omega)]; rfl
    · intro i hi ih hprev
      have hsm := hg.2 _ (getD_mem hi (0, 0, []))
      rw [groups_step g hi, impl_goodGroups.l8_eq, bifT (by omega), bif2T (by omega) (by omega), up1 (by omega)]
      simp only [Int.toNat_natCast]
      rw [iGroup _ hsm, sB]
      cases hx : groupB (g.getD i (0, 0, [])) with
      | false => rw [notF, Bool.false_and]
      | true =>
        have nxt := ih (fun _ => by rw [Nat.add_sub_cancel]; exact hx)
        obtain ⟨q1, q2, q3, q4, q5⟩ := group_in hx
        rw [notT, Bool.true_and]
        by_cases c7 : (i : Int) > 0
        · have hpr := hprev (by omega)
          obtain ⟨r1, r2, r3, r4, r5⟩ := group_in hpr
          have hsp := hg.2 _ (getD_mem (l := g) (i := i - 1) (by omega) (0, 0, []))
          have e1 : pA g i = gA (g.getD (i - 1) (0, 0, [])) := by unfold pA; rw [if_neg (by omega)]
          have e2 : pB g i = gB (g.getD (i - 1) (0, 0, [])) := by unfold pB; rw [if_neg (by omega)]
          rw [bifT c7, dn1 (by omega) (by omega)]
          simp only [Int.toNat_natCast]
          unfold gA at e1
          unfold gB at e2
          have w1 : w64 ((g.getD (i - 1) (0, 0, [])).1 + ((side 3 (g.getD (i - 1) (0, 0, [])).2.2).length : Int)) = pA g i := by rw [w64_id (by omega) (by omega)]; exact e1.symm
          have w2 : w64 ((g.getD (i - 1) (0, 0, [])).2.1 + ((side 2 (g.getD (i - 1) (0, 0, [])).2.2).length : Int)) = pB g i := by rw [w64_id (by omega) (by omega)]; exact e2.symm
          rw [bif2T (by omega) (by omega), bif2T (by omega) (by omega), iOld _ hsp.1, sB]
          simp only [w1]
          by_cases c1 : (g.getD i (0, 0, [])).1 < pA g i
          · rw [bifT c1, decide_eq_false (show ¬ (pA g i ≤ (g.getD i (0, 0, [])).1 ∧ pB g i ≤ (g.getD i (0, 0, [])).2.1) by omega), Bool.false_and]
          rw [bifF c1, bif2T (by omega) (by omega), bif2T (by omega) (by omega), iNew _ hsp.1, sB]
          simp only [w2]
          by_cases c2 : (g.getD i (0, 0, [])).2.1 < pB g i
          · rw [bifT c2, decide_eq_false (show ¬ (pA g i ≤ (g.getD i (0, 0, [])).1 ∧ pB g i ≤ (g.getD i (0, 0, [])).2.1) by omega), Bool.false_and]
          rw [bifF c2, decide_eq_true (show pA g i ≤ (g.getD i (0, 0, [])).1 ∧ pB g i ≤ (g.getD i (0, 0, [])).2.1 by omega), Bool.true_and]
          exact nxt
        · have e1 : pA g i = 0 := by unfold pA; rw [if_pos (by omega)]
          have e2 : pB g i = 0 := by unfold pB; rw [if_pos (by omega)]
          rw [bifF c7, decide_eq_true (show pA g i ≤ (g.getD i (0, 0, [])).1 ∧ pB g i ≤ (g.getD i (0, 0, [])).2.1 by omega), Bool.true_and]
          exact nxt
  rw [impl_goodGroups.f_eq, gsB]
  by_cases h : (g.length : Int) > 20
  · rw [bifT h, decide_eq_false (show ¬ g.length ≤ 20 by omega), Bool.and_false]
  · rw [bifF h, decide_eq_true (show g.length ≤ 20 by omega), Bool.and_true]
    exact key 0 (by omega) (fun h => absurd h (Nat.lt_irrefl 0))
theorem groups_in : ∀ {g : YGroupS} {a b : Int}, groupsB a b g = true → ∀ x ∈ g, groupB x = true
  | y :: r, a, b, h, x, hx => by
    simp only [groupsB, Bool.and_eq_true] at h
    rcases List.mem_cons.1 hx with rfl | hx
    · exact h.1
    · exact groups_in h.2.2 x hx
theorem gs_len {g : YGroupS} (h : gsB g = true) : g.length ≤ 20 := by
  unfold gsB at h
  simp only [Bool.and_eq_true, decide_eq_true_eq] at h
  exact h.2
theorem gs_in {g : YGroupS} (h : gsB g = true) : ∀ x ∈ g, groupB x = true := by
  unfold gsB at h
  simp only [Bool.and_eq_true] at h
  exact groups_in h.1
theorem sSameT (a b : T) (ha : a.length ≤ 140737488351232) (hb : b.length ≤ 140737488351232) : spec_l1SameT.f a b = some (decide (a = b)) := by
  rw [spec_l1SameT.f_eq]
  by_cases hl : a.length = b.length
  · rw [bifNF (by omega)]
    have key : ∀ i, i ≤ a.length → spec_l1SameT.l8 a b (a.length : Int) (i : Int) = some (decide (a.drop i = b.drop i)) := by
      apply downTo
      · rw [spec_l1SameT.l8_eq, bifF (by omega)]
        simp [List.drop_eq_nil_of_le, hl]
      · intro i hi ih
        rw [spec_l1SameT.l8_eq, bifT (by omega), bif2T (by omega) (by omega), bif2T (by omega) (by omega), up1 (by omega)]
        simp only [Int.toNat_natCast, toList_beq]
        rw [drop_at hi em, drop_at (l := b) (by omega) em]
        by_cases h : a.getD i em = b.getD i em
        · rw [bifNF h, ih]; simp only [List.cons.injEq, h, true_and]
        · rw [bifNT h]; simp only [List.cons.injEq, h, false_and, decide_false]
    have := key 0 (by omega)
    simpa using this
  · rw [bifNT (by omega)]
    rw [decide_eq_false (fun e => hl (by rw [e]))]
theorem iEqT (a b : T) (ha : a.length ≤ 140737488351232) (hb : b.length ≤ 140737488351232) : slices_Equal_Lstring_string.f a b = some (decide (a = b)) := by
  rw [slices_Equal_Lstring_string.f_eq]
  by_cases hl : a.length = b.length
  · rw [bifNF (by omega)]
    have key : ∀ i, i ≤ a.length → slices_Equal_Lstring_string.l8 a b (a.length : Int) (i : Int) = some (decide (a.drop i = b.drop i)) := by
      apply downTo
      · rw [slices_Equal_Lstring_string.l8_eq, bifF (by omega)]
        simp [List.drop_eq_nil_of_le, hl]
      · intro i hi ih
        rw [slices_Equal_Lstring_string.l8_eq, bifT (by omega), bif2T (by omega) (by omega), bif2T (by omega) (by omega), up1 (by omega)]
        simp only [Int.toNat_natCast, toList_beq]
        rw [drop_at hi em, drop_at (l := b) (by omega) em]
        by_cases h : a.getD i em = b.getD i em
        · rw [bifNF h, ih]; simp only [List.cons.injEq, h, true_and]
        · rw [bifNT h]; simp only [List.cons.injEq, h, false_and, decide_false]
    have := key 0 (by omega)
    simpa using this
  · rw [bifNT (by omega)]
    rw [decide_eq_false (fun e => hl (by rw [e]))]
/-- the part stands there -/
def fitsB (l part : T) (k : Int) : Bool := decide ((0 ≤ k ∧ k ≤ (l.length : Int) - part.length) ∧ (l.take (k + part.length).toNat).drop k.toNat = part)
theorem sFits (l part : T) (k : Int) (hl : l.length ≤ 1048576) (hp : part.length ≤ 1048576) : spec_l16Fits.f l part k = some (fitsB l part k) := by
  rw [spec_l16Fits.f_eq, w64_id (x := (l.length : Int) - part.length) (by omega) (by omega), sIn, sB, fitsB]
  by_cases h : 0 ≤ k ∧ k ≤ (l.length : Int) - part.length
  · have hw : w64 (k + (part.length : Int)) = k + part.length := w64_id (by omega) (by omega)
    rw [bifT h]
    simp only [hw]
    rw [bif3T (by omega) (by omega) (by omega), sSameT _ _ (by rw [List.length_drop, List.length_take]; omega) (by omega), sB]
    congr 1; rw [decide_eq_decide]; exact ⟨fun g => ⟨h, g⟩, fun g => g.2⟩
  · rw [bifF h, decide_eq_false (fun g => h g.1)]
theorem iStands (l part : T) (k : Int) (hl : l.length ≤ 1048576) (hp : part.length ≤ 1048576) : impl_stands.f l part k = some (fitsB l part k) := by
  rw [impl_stands.f_eq, w64_id (x := (l.length : Int) - part.length) (by omega) (by omega), iIn, sB, fitsB]
  by_cases h : 0 ≤ k ∧ k ≤ (l.length : Int) - part.length
  · have hw : w64 (k + (part.length : Int)) = k + part.length := w64_id (by omega) (by omega)
    rw [bifT h]
    simp only [hw]
    rw [bif3T (by omega) (by omega) (by omega), iEqT _ _ (by rw [List.length_drop, List.length_take]; omega) (by omega), sB]
    congr 1; rw [decide_eq_decide]; exact ⟨fun g => ⟨h, g⟩, fun g => g.2⟩
  · rw [bifF h, decide_eq_false (fun g => h g.1)]
def fitsAtB (l : T) (g : YGroup) (k : Int) : Bool × Bool := if goodB l = true ∧ groupB g = true then (fitsB l (side 3 g.2.2) k, true) else (false, false)
theorem fits_both (l : T) (g : YGroup) (k : Int) (hl : Sm l) (hg : SmR g.2.2) : spec_FitsAt.f l g k = some (fitsAtB l g k) ∧ impl_FitsAt.f l g k = some (fitsAtB l g k) := by
  have h3 := side_len 3 g.2.2
  have hL := hg.1
  rw [spec_FitsAt.f_eq, impl_FitsAt.f_eq, sGood l hl, iGood l hl, sB, sB]
  unfold fitsAtB
  cases ga : goodB l with
  | false => exact ⟨rfl, rfl⟩
  | true =>
    rw [notT, notT, sGroup g hg, iGroup g hg, sB, sB]
    cases gg : groupB g with
    | false => exact ⟨rfl, rfl⟩
    | true =>
      rw [notT, notT, spec_FitsAt.l7_eq, impl_FitsAt.l7_eq, sOld g hL, iOld g hL, sB, sB, sFits l _ k hl.1 (by omega), iStands l _ k hl.1 (by omega), sB]
      exact ⟨rfl, rfl⟩
theorem ownT (l : T) (h : l.length ≤ 1048576) : spec_l1OwnT.f l = some l := by
  rw [spec_l1OwnT.f_eq, room16, bifT (by simp; omega), List.nil_append]
theorem cloneT (l : T) (h : l.length ≤ 1048576) : slices_Clone_Lstring_string.f l = some l := by
  show clone1 16 l = _
  rw [clone1, room16, bifT (by omega)]
theorem near_both (l part : T) (a : Int) (far : Nat) (hl : l.length ≤ 1048576) (hp : part.length ≤ 1048576) (ha : -1000000000 ≤ a ∧ a ≤ 1000000000) (hf : far ≤ 40) :
    ∃ r : Int, spec_l16Near.f l part a (far : Int) = some r ∧ impl_near.f l part a (far : Int) = some r ∧ (r < 0 ∨ fitsB l part r = true) := by
  rw [spec_l16Near.f_eq, impl_near.f_eq, up1 (by omega)]
  have key : ∀ i, i ≤ far + 1 → ∃ r : Int, spec_l16Near.l4 l part a (far : Int) (i : Int) = some r ∧ impl_near.l4 l part a ((far + 1 : Nat) : Int) (i : Int) = some r ∧ (r < 0 ∨ fitsB l part r = true) := by
    apply downTo
    · rw [spec_l16Near.l4_eq, impl_near.l4_eq, bifF (by omega), bifF (by omega)]
      exact ⟨-1, rfl, rfl, .inl (by omega)⟩
    · intro i hi ih
      rw [spec_l16Near.l4_eq, impl_near.l4_eq, bifT (by omega), bifT (by omega), w64_id (x := a - (i : Int)) (by omega) (by omega), w64_id (x := a + (i : Int)) (by omega) (by omega), up1 (by omega),
        sFits l part _ hl hp, sFits l part _ hl hp, iStands l part _ hl hp, iStands l part _ hl hp]
      simp only [sB]
      cases h1 : fitsB l part (a - (i : Int)) with
      | true => exact ⟨_, rfl, rfl, .inr h1⟩
      | false =>
        cases h2 : fitsB l part (a + (i : Int)) with
        | true => exact ⟨_, rfl, rfl, .inr h2⟩
        | false => exact ih
  exact key 0 (by omega)
theorem fits_in {l part : T} {r : Int} (h : fitsB l part r = true) : 0 ≤ r ∧ r + (part.length : Int) ≤ (l.length : Int) := by
  have := (of_decide_eq_true h).1
  omega
theorem sides_len : ∀ l : YRowS, l.length ≤ (side 3 l).length + (side 2 l).length
  | [] => Nat.le_refl _
  | r :: l => by
    have ih := sides_len l
    rw [side_cons, side_cons]
    by_cases h3 : r.1 = 3
    · rw [if_pos h3, if_neg (by omega)]; simp only [List.length_cons]; omega
    · rw [if_neg h3]
      by_cases h2 : r.1 = 2
      · rw [if_pos h2]; simp only [List.length_cons]; omega
      · rw [if_neg h2]; simp only [List.length_cons]; omega
theorem group_some {g : YGroup} (h : groupB g = true) : 0 < (side 3 g.2.2).length + (side 2 g.2.2).length := by
  have h1 := group_any h
  have h2 := sides_len g.2.2
  cases hr : g.2.2 with
  | nil => rw [hr] at h1; cases h1
  | cons r l => rw [hr, List.length_cons] at h2; omega
/-- a length of small parts -/
theorem replaceT (l v : T) (a b : Nat) (hab : a ≤ b) (hb : b ≤ l.length) (h0 : a < b ∨ 0 < v.length) (hl : l.length ≤ 1048576) (hv : v.length ≤ 1048576) :
    slices_Replace_Lstring_string.f l (a : Int) (b : Int) v = some (l.take a ++ v ++ l.drop b) := by
  show rep1 l (a : Int) (b : Int) v = _
  have : repOk l (a : Int) (b : Int) v = true := by
    unfold repOk
    rw [decide_eq_true (by omega), decide_eq_true (by omega), decide_eq_true (by omega), decide_eq_true (by omega : l.length + v.length ≤ 8796093022208)]
    rcases h0 with h | h
    · rw [decide_eq_true (by omega : (a : Int) < (b : Int))]; rfl
    · rw [decide_eq_true h, Bool.or_true]; rfl
  rw [rep1, this, cond_true, Int.toNat_natCast, Int.toNat_natCast]
theorem near_loop (g : YGroupS) (far : Nat) (hg : SmG g) (h20 : g.length ≤ 20) (hG : ∀ x ∈ g, groupB x = true) (hf : far ≤ 40) :
    ∀ i, i ≤ g.length → ∀ (out : T) (pl : List Int) (by_ : Int), Sm out → out.length ≤ 40 + 40 * i → pl.length = i → -3000 ≤ by_ → by_ ≤ 3000 →
      ∃ r : T × List Int × Int × Bool, spec_ApplyNear.l14 (far : Int) out pl by_ g (g.length : Int) (i : Int) = some r ∧ impl_ApplyNear.l10 (far : Int) out pl by_ g (g.length : Int) (i : Int) = some r ∧
        (r.2.2.2 = true ∧ (r.1 = [] ∧ r.2.1 = [] ∧ r.2.2.1 = 2 ∨ goodB r.1 = true ∧ r.2.1.length = g.length ∧ r.2.2.1 = 0)) := by
  apply downTo
  · intro out pl by_ ho h1 h2 h3 h4
    rw [spec_ApplyNear.l14_eq, impl_ApplyNear.l10_eq, bifF (by omega), bifF (by omega), sGood out ho, iGood out ho]
    simp only [sB]
    cases h : goodB out with
    | false => exact ⟨_, rfl, rfl, rfl, .inl ⟨rfl, rfl, rfl⟩⟩
    | true => exact ⟨_, rfl, rfl, rfl, .inr ⟨h, h2, rfl⟩⟩
  · intro i hi ih out pl by_ ho h1 h2 h3 h4
    have hm := getD_mem hi ((0, 0, []) : YGroup)
    have hx := hG _ hm
    have hin := group_in hx
    have hsm := hg.2 _ hm
    rw [spec_ApplyNear.l14_eq, impl_ApplyNear.l10_eq, bifT (by omega), bif2T (by omega) (by omega), bifT (by omega), bif2T (by omega) (by omega)]
    simp only [Int.toNat_natCast]
    generalize g.getD i (0, 0, []) = x at hx hin hsm hm ⊢
    have ha := good_len (group_sides hx).1
    have hb := good_len (group_sides hx).2
    have hs := group_some hx
    rw [sOld x hsm.1, sNew x hsm.1, iOld x hsm.1, iNew x hsm.1, w64_id (x := x.1 + by_) (by omega) (by omega)]
    simp only [sB]
    obtain ⟨r, e1, e2, e3⟩ := near_both out (side 3 x.2.2) (x.1 + by_) far (by omega) (by omega) (by omega) hf
    rw [e1, e2]
    simp only [sB]
    by_cases hr : r < 0
    · rw [bifT hr, bifT hr]
      exact ⟨_, rfl, rfl, rfl, .inl ⟨rfl, rfl, rfl⟩⟩
    · have hfit := fits_in (e3.resolve_left hr)
      obtain ⟨k, rfl⟩ : ∃ k : Nat, r = (k : Int) := ⟨r.toNat, by omega⟩
      have hw : w64 ((k : Int) + ((side 3 x.2.2).length : Int)) = ((k + (side 3 x.2.2).length : Nat) : Int) := by rw [w64_id (by omega) (by omega)]; omega
      have hw2 : w64 (w64 (w64 ((k : Int) - x.1) + ((side 2 x.2.2).length : Int)) - ((side 3 x.2.2).length : Int)) = (k : Int) - x.1 + ((side 2 x.2.2).length : Int) - ((side 3 x.2.2).length : Int) := by
        rw [w64_id (x := (k : Int) - x.1) (by omega) (by omega), w64_id (x := (k : Int) - x.1 + _) (by omega) (by omega), w64_id (by omega) (by omega)]
      rw [bifF hr, bifF hr, hw, hw2, replaceT out (side 2 x.2.2) k (k + (side 3 x.2.2).length) (by omega) (by omega) (by omega) (by omega) (by omega), up1 (by omega)]
      simp only [sB, Int.toNat_natCast]
      rw [room8, room16, ownT _ (by rw [List.length_take]; omega)]
      simp only [sB, List.length_append, List.length_take, List.length_drop, List.length_singleton]
      rw [bifT (by omega), bif2T (by omega) (by omega), bifT (by omega), bif2T (by omega) (by omega), bifT (by omega), bifT (by omega)]
      refine ih _ _ _ ⟨?_, fun s hs => ?_⟩ ?_ ?_ (by omega) (by omega)
      · simp only [List.length_append, List.length_take, List.length_drop]; omega
      · rcases List.mem_append.1 hs with hs | hs
        · rcases List.mem_append.1 hs with hs | hs
          · exact ho.2 _ (List.mem_of_mem_take hs)
          · exact (side_sm 2 hsm).2 _ hs
        · exact ho.2 _ (List.mem_of_mem_drop hs)
      · simp only [List.length_append, List.length_take, List.length_drop]; omega
      · rw [List.length_append, h2]; rfl
theorem iFar (f : Int) : impl_isFar.f f = some (decide (0 ≤ f ∧ f ≤ 40)) := by
  rw [impl_isFar.f_eq, iIn, sB]
theorem applyNear_both (l : T) (g : YGroupS) (far : Int) (hl : Sm l) (hg : SmG g) :
    ∃ r : T × List Int × Int × Bool, spec_ApplyNear.f l g far = some r ∧ impl_ApplyNear.f l g far = some r ∧
      (r.2.2.2 = true → goodB l = true ∧ gsB g = true ∧ (r.1 = [] ∧ r.2.1 = [] ∧ r.2.2.1 = 2 ∨ goodB r.1 = true ∧ r.2.1.length = g.length ∧ r.2.2.1 = 0)) ∧ (r.2.2.2 = false → r.1 = [] ∧ r.2.1 = [] ∧ r.2.2.1 = 0) := by
  rw [spec_ApplyNear.f_eq, impl_ApplyNear.f_eq, sGood l hl, iGood l hl, sB, sB]
  cases hgl : goodB l with
  | false => exact ⟨_, rfl, rfl, fun h => (nomatch h), fun _ => ⟨rfl, rfl, rfl⟩⟩
  | true =>
    rw [notT, notT, sGroups g hg, iGroups g hg, sB, sB]
    cases hgg : gsB g with
    | false => exact ⟨_, rfl, rfl, fun h => (nomatch h), fun _ => ⟨rfl, rfl, rfl⟩⟩
    | true =>
      rw [notT, notT, sIn, iFar, sB, sB]
      by_cases hf : 0 ≤ far ∧ far ≤ 40
      · rw [bifNF hf, bifNF hf, spec_ApplyNear.l7_eq, impl_ApplyNear.l7_eq, ownT l hl.1, cloneT l hl.1, sB, sB]
        obtain ⟨k, rfl⟩ : ∃ k : Nat, far = (k : Int) := ⟨far.toNat, by omega⟩
        obtain ⟨r, e1, e2, e3⟩ := near_loop g k hg (gs_len hgg) (gs_in hgg) (by omega) 0 (by omega) l [] 0 hl (by have := good_len hgl; omega) rfl (by omega) (by omega)
        exact ⟨r, e1, e2, fun _ => ⟨rfl, rfl, e3.2⟩, fun h => by rw [e3.1] at h; cases h⟩
      · rw [bifNT hf, bifNT hf]
        exact ⟨_, rfl, rfl, fun h => (nomatch h), fun _ => ⟨rfl, rfl, rfl⟩⟩
abbrev Hk := Int × Int × T
abbrev hz : Hk := (0, 0, [])
/-- one hunk stands within -/
def okP (many : Int) (x : Hk) : Prop := 0 ≤ x.1 ∧ 0 ≤ x.2.1 ∧ x.1 + x.2.1 ≤ many
instance (many : Int) (x : Hk) : Decidable (okP many x) := by unfold okP; exact inferInstance
def oneB (many pe : Int) (x : Hk) : Bool := decide (okP many x ∧ ¬ (x.2.1 = 0 ∧ x.2.2.length = 0) ∧ x.2.2.length ≤ 40 ∧ pe < x.1) && allLines x.2.2
def hunksB (many : Int) : Int → List Hk → Bool
  | _, [] => true
  | pe, x :: r => oneB many pe x && hunksB many (x.1 + x.2.1) r
def peOf (h : List Hk) (i : Nat) : Int := if i = 0 then -1 else (h.getD (i - 1) hz).1 + (h.getD (i - 1) hz).2.1
/-- of a size that is let through -/
def HkSm (g : List Hk) : Prop := g.length ≤ 1048576 ∧ ∀ h ∈ g, Sm h.2.2
theorem pe_succ (h : List Hk) (i : Nat) : peOf h (i + 1) = (h.getD i hz).1 + (h.getD i hz).2.1 := by unfold peOf; rw [if_neg (by omega)]; rfl
theorem hB_step (many : Int) (h : List Hk) {i : Nat} (hi : i < h.length) : hunksB many (peOf h i) (h.drop i) = (oneB many (peOf h i) (h.getD i hz) && hunksB many (peOf h (i + 1)) (h.drop (i + 1))) := by
  rw [drop_at hi hz, pe_succ]; rfl
theorem sHunks (many : Int) (h : List Hk) (h0 : 0 ≤ many) (h1 : many ≤ 1048576) (hs : HkSm h) : spec_l2Hunks.f many h = some (hunksB many (-1) h && (decide (h.length ≤ 20) && decide (many ≤ 40))) := by
  have hL := hs.1
  have lines : ∀ (l : T), Sm l → ∀ (i : Nat) (R : Bool), i < h.length → spec_l2Hunks.l4 many h h (h.length : Int) ((i + 1 : Nat) : Int) = some R → ∀ k, k ≤ l.length → spec_l2Hunks.l14 many h h (h.length : Int) (i : Int) l (l.length : Int) (k : Int) = some (allLines (l.drop k) && R) := by
    intro l hl i R hi hR
    have hl1 := hl.1
    apply downTo
    · rw [spec_l2Hunks.l14_eq, bifF (by omega), up1 (by omega), hR, List.drop_eq_nil_of_le (by omega)]; rfl
    · intro k hk ih
      rw [spec_l2Hunks.l14_eq, bifT (by omega), bif2T (by omega) (by omega), up1 (i := k) (by omega)]
      simp only [Int.toNat_natCast]
      rw [sLine _ (hl.2 _ (getD_mem hk em)), sB, ih, drop_at hk em, allLines_cons]
      by_cases hp : lineP (l.getD k em)
      · rw [bifNF hp, decide_eq_true hp, Bool.true_and]
      · rw [bifNT hp, decide_eq_false hp, Bool.false_and, Bool.false_and]
  have key : ∀ i, i ≤ h.length → (0 < i → okP many (h.getD (i - 1) hz)) → spec_l2Hunks.l4 many h h (h.length : Int) (i : Int) = some (hunksB many (peOf h i) (h.drop i) && (decide (h.length ≤ 20) && decide (many ≤ 40))) := by
    apply downTo
    · intro _
      rw [spec_l2Hunks.l4_eq, bifF (by omega), List.drop_eq_nil_of_le (by omega)]
      show _ = some (true && _)
      rw [Bool.true_and]
      by_cases hl : h.length ≤ 20
      · rw [bifT (by omega), sIn, sB, decide_eq_true hl, Bool.true_and]
        congr 1; rw [decide_eq_decide]; omega
      · rw [bifF (by omega), decide_eq_false hl]; rfl
    · intro i hi ih hprev
      have hsm := hs.2 _ (getD_mem hi hz)
      have hsl := hsm.1
      rw [hB_step many h hi, spec_l2Hunks.l4_eq, bifT (by omega), bif2T (by omega) (by omega)]
      obtain ⟨⟨x1, x2, x3⟩, hx⟩ : ∃ x : Hk, h.getD i (0, 0, []) = x := ⟨_, rfl⟩
      simp only [Int.toNat_natCast, hx]
      rw [show h.getD i hz = (x1, x2, x3) from hx] at hsm hsl
      simp only at hsm hsl
      have fl : ∀ {P : Prop}, ¬ (okP many (x1, x2, x3) ∧ ¬ (x2 = 0 ∧ x3.length = 0) ∧ x3.length ≤ 40 ∧ peOf h i < x1) → some false = some (oneB many (peOf h i) (x1, x2, x3) && hunksB many (peOf h (i + 1)) (h.drop (i + 1)) && (decide (h.length ≤ 20) && decide (many ≤ 40))) := by
        intro P hn
        unfold oneB
        rw [decide_eq_false hn, Bool.false_and, Bool.false_and, Bool.false_and]
      by_cases c1 : x1 < 0
      · rw [bifT c1]; exact fl (P := True) (by unfold okP; simp only; omega)
      rw [bifF c1]
      by_cases c2 : x2 < 0
      · rw [bifT c2]; exact fl (P := True) (by unfold okP; simp only; omega)
      rw [bifF c2]
      by_cases c3 : x2 > many
      · rw [bifT c3]; exact fl (P := True) (by unfold okP; simp only; omega)
      rw [bifF c3, w64_id (x := many - x2) (by omega) (by omega)]
      by_cases c4 : x1 > many - x2
      · rw [bifT c4]; exact fl (P := True) (by unfold okP; simp only; omega)
      rw [bifF c4, w64_id (x := x2 + (x3.length : Int)) (by omega) (by omega)]
      by_cases c5 : x2 + (x3.length : Int) = 0
      · rw [bifT c5]; exact fl (P := True) (by omega)
      rw [bifF c5]
      by_cases c6 : (x3.length : Int) > 40
      · rw [bifT c6]; exact fl (P := True) (by omega)
      rw [bifF c6]
      have hok : okP many (x1, x2, x3) := by unfold okP; simp only; omega
      have nxt := ih (fun _ => by rw [Nat.add_sub_cancel, show h.getD i hz = (x1, x2, x3) from hx]; exact hok)
      have go : peOf h i < x1 → spec_l2Hunks.l13 many h (x1, x2, x3) h (h.length : Int) (i : Int) = some (oneB many (peOf h i) (x1, x2, x3) && hunksB many (peOf h (i + 1)) (h.drop (i + 1)) && (decide (h.length ≤ 20) && decide (many ≤ 40))) := by
        intro hp
        rw [spec_l2Hunks.l13_eq]
        have := lines x3 hsm i _ hi nxt 0 (by omega)
        rw [List.drop_zero] at this
        refine this.trans ?_
        unfold oneB
        rw [decide_eq_true (show okP many (x1, x2, x3) ∧ ¬ (x2 = 0 ∧ x3.length = 0) ∧ x3.length ≤ 40 ∧ peOf h i < x1 from ⟨hok, by omega, by omega, hp⟩), Bool.true_and, Bool.and_assoc]
      by_cases c7 : (i : Int) > 0
      · have hpr := hprev (by omega)
        unfold okP at hpr
        have hd : w64 ((i : Int) - 1) = ((i - 1 : Nat) : Int) := dn1 (by omega) (by omega)
        have hpe : peOf h i = (h.getD (i - 1) hz).1 + (h.getD (i - 1) hz).2.1 := by unfold peOf; rw [if_neg (by omega)]
        have hw9 : w64 ((h.getD (i - 1) ((0, 0, []) : Hk)).1 + (h.getD (i - 1) ((0, 0, []) : Hk)).2.1) = peOf h i := by
          show w64 ((h.getD (i - 1) hz).1 + (h.getD (i - 1) hz).2.1) = _
          rw [hpe]; exact w64_id (by omega) (by omega)
        simp only [hd, Int.toNat_natCast, hw9]
        rw [bifT c7, bif2T (by omega) (by omega), bif2T (by omega) (by omega)]
        by_cases c8 : x1 ≤ peOf h i
        · rw [bifT c8]; exact fl (P := True) (by omega)
        · rw [bifF c8]; exact go (by omega)
      · rw [bifF c7]
        have : i = 0 := by omega
        exact go (by unfold peOf; rw [if_pos this]; omega)
  rw [spec_l2Hunks.f_eq]
  exact key 0 (by omega) (fun h => absurd h (Nat.lt_irrefl 0))
theorem iHunks (many : Int) (h : List Hk) (h0 : 0 ≤ many) (h1 : many ≤ 1048576) (hs : HkSm h) : impl_goodHunks.f many h = some (hunksB many (-1) h && (decide (h.length ≤ 20) && decide (many ≤ 40))) := by
  have hL := hs.1
  have key : ∀ i, i ≤ h.length → (0 < i → okP many (h.getD (i - 1) hz)) → impl_goodHunks.l8 many h h (h.length : Int) (i : Int) = some (hunksB many (peOf h i) (h.drop i)) := by
    apply downTo
    · intro _
      rw [impl_goodHunks.l8_eq, bifF (by omega), List.drop_eq_nil_of_le (by omega)]; rfl
    · intro i hi ih hprev
      have hsm := hs.2 _ (getD_mem hi hz)
      have hsl := hsm.1
      rw [hB_step many h hi, impl_goodHunks.l8_eq, bifT (by omega), bif2T (by omega) (by omega)]
      obtain ⟨⟨x1, x2, x3⟩, hx⟩ : ∃ x : Hk, h.getD i (0, 0, []) = x := ⟨_, rfl⟩
      simp only [Int.toNat_natCast, hx]
      rw [show h.getD i hz = (x1, x2, x3) from hx] at hsm hsl
      simp only at hsm hsl
      have fl : ∀ {P : Prop}, ¬ (okP many (x1, x2, x3) ∧ ¬ (x2 = 0 ∧ x3.length = 0) ∧ x3.length ≤ 40 ∧ peOf h i < x1) → some false = some (oneB many (peOf h i) (x1, x2, x3) && hunksB many (peOf h (i + 1)) (h.drop (i + 1))) := by
        intro P hn
        unfold oneB
        rw [decide_eq_false hn, Bool.false_and, Bool.false_and]
      rw [iIn, sB]
      by_cases c1 : 0 ≤ x1 ∧ x1 ≤ many
      case neg => rw [bifNT c1]; exact fl (P := True) (by unfold okP; simp only; omega)
      rw [bifNF c1, w64_id (x := many - x1) (by omega) (by omega), iIn, sB]
      by_cases c2 : 0 ≤ x2 ∧ x2 ≤ many - x1
      case neg => rw [bifNT c2]; exact fl (P := True) (by unfold okP; simp only; omega)
      rw [bifNF c2, iAre _ hsm, sB]
      have hok : okP many (x1, x2, x3) := by unfold okP; simp only; omega
      have nxt := ih (fun _ => by rw [Nat.add_sub_cancel, show h.getD i hz = (x1, x2, x3) from hx]; exact hok)
      by_cases c6 : x3.length ≤ 40
      case neg => rw [decide_eq_false c6, Bool.false_and, notF]; exact fl (P := True) (by omega)
      rw [decide_eq_true c6, Bool.true_and]
      cases hal : allLines x3 with
      | false => rw [notF]; unfold oneB; rw [hal, Bool.and_false, Bool.false_and]
      | true =>
        rw [notT]
        have one : ∀ (hp : ¬ (x2 = 0 ∧ x3.length = 0)), impl_goodHunks.l17 many h (i : Int) (x1, x2, x3) h (h.length : Int) (i : Int) = some (oneB many (peOf h i) (x1, x2, x3) && hunksB many (peOf h (i + 1)) (h.drop (i + 1))) := by
          intro hp
          rw [impl_goodHunks.l17_eq]
          by_cases c7 : (i : Int) > 0
          · have hpr := hprev (by omega)
            unfold okP at hpr
            have hd : w64 ((i : Int) - 1) = ((i - 1 : Nat) : Int) := dn1 (by omega) (by omega)
            have hpe : peOf h i = (h.getD (i - 1) hz).1 + (h.getD (i - 1) hz).2.1 := by unfold peOf; rw [if_neg (by omega)]
            have hw9 : w64 ((h.getD (i - 1) ((0, 0, []) : Hk)).1 + (h.getD (i - 1) ((0, 0, []) : Hk)).2.1) = peOf h i := by
              show w64 ((h.getD (i - 1) hz).1 + (h.getD (i - 1) hz).2.1) = _
              rw [hpe]; exact w64_id (by omega) (by omega)
            simp only [hd, Int.toNat_natCast, hw9]
            rw [bifT c7, bif2T (by omega) (by omega), bif2T (by omega) (by omega)]
            by_cases c8 : x1 ≤ peOf h i
            · rw [bifT c8]; exact fl (P := True) (by omega)
            · rw [bifF c8, up1 (by omega), nxt]
              unfold oneB
              rw [hal, decide_eq_true (show okP many (x1, x2, x3) ∧ ¬ (x2 = 0 ∧ x3.length = 0) ∧ x3.length ≤ 40 ∧ peOf h i < x1 from ⟨hok, hp, c6, by omega⟩)]; rfl
          · have hi0 : i = 0 := by omega
            have hp2 : peOf h i < x1 := by unfold peOf; rw [if_pos hi0]; omega
            rw [bifF c7, up1 (by omega), nxt]
            unfold oneB
            rw [hal, decide_eq_true (show okP many (x1, x2, x3) ∧ ¬ (x2 = 0 ∧ x3.length = 0) ∧ x3.length ≤ 40 ∧ peOf h i < x1 from ⟨hok, hp, c6, hp2⟩)]; rfl
        by_cases c9 : x2 = 0
        · rw [bifT c9]
          by_cases c10 : (x3.length : Int) = 0
          · rw [bifT c10]; exact fl (P := True) (by omega)
          · rw [bifF c10]; exact one (by omega)
        · rw [bifF c9]; exact one (by omega)
  rw [impl_goodHunks.f_eq, iIn, sB]
  by_cases hm : 0 ≤ many ∧ many ≤ 40
  · rw [bifNF hm, decide_eq_true (show many ≤ 40 from hm.2), Bool.and_true]
    by_cases hl : (h.length : Int) > 20
    · rw [bifT hl, decide_eq_false (show ¬ h.length ≤ 20 by omega), Bool.and_false]
    · rw [bifF hl, decide_eq_true (show h.length ≤ 20 by omega), Bool.and_true, impl_goodHunks.l7_eq]
      exact key 0 (by omega) (fun h => absurd h (Nat.lt_irrefl 0))
  · rw [bifNT hm, decide_eq_false (show ¬ many ≤ 40 by omega), Bool.and_false, Bool.and_false]
/-- what stands behind hunks, from a place on -/
def pat (l : T) : Nat → List Hk → T
  | k, [] => l.drop k
  | k, x :: r => ((l.take x.1.toNat).drop k ++ x.2.2) ++ pat l (x.1 + x.2.1).toNat r
/-- hunks are good for so many lines -/
def hunksG (many : Int) (h : List Hk) : Bool := hunksB many (-1) h && (decide (h.length ≤ 20) && decide (many ≤ 40))
def patchB (l : T) (h : List Hk) : T × Bool :=
  if goodB l = true ∧ hunksG (l.length : Int) h = true ∧ goodB (pat l 0 h) = true then (pat l 0 h, true) else ([], false)
theorem oneB_in {many pe : Int} {x : Hk} (h : oneB many pe x = true) : okP many x ∧ ¬ (x.2.1 = 0 ∧ x.2.2.length = 0) ∧ x.2.2.length ≤ 40 ∧ pe < x.1 ∧ allLines x.2.2 = true := by
  unfold oneB at h
  simp only [Bool.and_eq_true, decide_eq_true_eq] at h
  exact ⟨h.1.1, h.1.2.1, h.1.2.2.1, h.1.2.2.2, h.2⟩
theorem hunksB_cons {many pe : Int} {x : Hk} {r : List Hk} (h : hunksB many pe (x :: r) = true) : oneB many pe x = true ∧ hunksB many (x.1 + x.2.1) r = true := by
  have : (oneB many pe x && hunksB many (x.1 + x.2.1) r) = true := h
  rwa [Bool.and_eq_true] at this
theorem pat_len (l : T) (hl : l.length ≤ 40) : ∀ (r : List Hk) (k : Nat) (pe : Int), hunksB (l.length : Int) pe r = true → (pat l k r).length ≤ 40 + 80 * r.length
  | [], k, pe, _ => by rw [pat, List.length_drop]; simp only [List.length_nil]; omega
  | x :: r, k, pe, h => by
    obtain ⟨h1, h2⟩ := hunksB_cons h
    have h3 := oneB_in h1
    have := pat_len l hl r (x.1 + x.2.1).toNat _ h2
    rw [pat]
    simp only [List.length_append, List.length_drop, List.length_take, List.length_cons]
    omega
theorem pat_mem (l : T) : ∀ (r : List Hk) (k : Nat), ∀ s ∈ pat l k r, s ∈ l ∨ ∃ x ∈ r, s ∈ x.2.2
  | [], k, s, h => .inl (List.mem_of_mem_drop h)
  | x :: r, k, s, h => by
    rw [pat] at h
    rcases List.mem_append.1 h with h | h
    · rcases List.mem_append.1 h with h | h
      · exact .inl (List.mem_of_mem_take (List.mem_of_mem_drop h))
      · exact .inr ⟨x, by simp, h⟩
    · rcases pat_mem l r _ s h with h | ⟨y, hy, h⟩
      · exact .inl h
      · exact .inr ⟨y, by simp [hy], h⟩
theorem sPat (l : T) (hl : l.length ≤ 40) (h : List Hk) (hh : hunksB (l.length : Int) (-1) h = true) (h20 : h.length ≤ 20) : spec_l2Patch.f l h = some (pat l 0 h) := by
  have key : ∀ (rest pre : List Hk) (out : T) (k : Nat) (pe : Int), h = pre ++ rest → hunksB (l.length : Int) pe rest = true → (pe = -1 ∧ k = 0 ∨ pe = (k : Int)) → k ≤ l.length → out.length ≤ 80 * pre.length →
      spec_l2Patch.l8 l out (k : Int) h (h.length : Int) (pre.length : Int) = some (out ++ pat l k rest) := by
    intro rest
    induction rest with
    | nil =>
      intro pre out k pe hf hb hk hkl ho
      have hpl : h.length = pre.length := by rw [hf]; simp
      rw [spec_l2Patch.l8_eq, bifF (by omega), bif2T (by omega) (by omega), room16]
      simp only [Int.toNat_natCast]
      rw [bifT (by rw [List.length_drop]; omega)]; rfl
    | cons x r ih =>
      intro pre out k pe hf hb hk hkl ho
      obtain ⟨h1, h2⟩ := hunksB_cons hb
      obtain ⟨⟨q1, q2, q3⟩, q4, q5, q6, _⟩ := oneB_in h1
      have hpl : h.length = pre.length + (r.length + 1) := by rw [hf]; simp
      have hg : h.getD pre.length (0, 0, []) = x := by rw [hf]; exact getD_mid pre x r _
      rw [spec_l2Patch.l8_eq, bifT (by omega), bif2T (by omega) (by omega), up1 (by omega), room16]
      simp only [Int.toNat_natCast, hg]
      rw [bif3T (by omega) (by omega) (by omega), bifT (by simp only [List.length_drop, List.length_take]; omega), bifT (by simp only [List.length_append, List.length_drop, List.length_take]; omega), w64_id (by omega) (by omega)]
      have := ih (pre ++ [x]) ((out ++ (l.take x.1.toNat).drop k) ++ x.2.2) (x.1 + x.2.1).toNat (x.1 + x.2.1) (by rw [hf]; simp) h2 (.inr (by omega)) (by omega) (by simp only [List.length_append, List.length_drop, List.length_take, List.length_singleton]; omega)
      rw [Int.toNat_of_nonneg (by omega), List.length_append, List.length_singleton] at this
      rw [this, pat]
      simp only [List.append_assoc]
  rw [spec_l2Patch.f_eq]
  exact key h [] [] 0 (-1) rfl hh (.inl ⟨rfl, rfl⟩) (by omega) (by simp)
theorem iPat (l : T) (hl : l.length ≤ 40) (h : List Hk) (hh : hunksB (l.length : Int) (-1) h = true) (h20 : h.length ≤ 20) : impl_patched.f l h = some (pat l 0 h) := by
  have key : ∀ (rest pre : List Hk) (out : T) (k : Nat) (pe : Int), h = pre ++ rest → hunksB (l.length : Int) pe rest = true → (pe = -1 ∧ k = 0 ∨ pe = (k : Int)) → k ≤ l.length → out.length ≤ 80 * pre.length →
      impl_patched.l6 l out (k : Int) h (h.length : Int) (pre.length : Int) = some (out ++ pat l k rest) := by
    intro rest
    induction rest with
    | nil =>
      intro pre out k pe hf hb hk hkl ho
      have hpl : h.length = pre.length := by rw [hf]; simp
      rw [impl_patched.l6_eq, bifF (by omega), bif2T (by omega) (by omega), room16]
      simp only [Int.toNat_natCast]
      rw [bifT (by rw [List.length_drop]; omega)]; rfl
    | cons x r ih =>
      intro pre out k pe hf hb hk hkl ho
      obtain ⟨h1, h2⟩ := hunksB_cons hb
      obtain ⟨⟨q1, q2, q3⟩, q4, q5, q6, _⟩ := oneB_in h1
      have hpl : h.length = pre.length + (r.length + 1) := by rw [hf]; simp
      have hg : h.getD pre.length (0, 0, []) = x := by rw [hf]; exact getD_mid pre x r _
      rw [impl_patched.l6_eq, bifT (by omega), bif2T (by omega) (by omega), up1 (by omega), room16]
      simp only [Int.toNat_natCast, hg]
      rw [bif3T (by omega) (by omega) (by omega), bifT (by simp only [List.length_drop, List.length_take]; omega), bifT (by simp only [List.length_append, List.length_drop, List.length_take]; omega), w64_id (by omega) (by omega)]
      have := ih (pre ++ [x]) ((out ++ (l.take x.1.toNat).drop k) ++ x.2.2) (x.1 + x.2.1).toNat (x.1 + x.2.1) (by rw [hf]; simp) h2 (.inr (by omega)) (by omega) (by simp only [List.length_append, List.length_drop, List.length_take, List.length_singleton]; omega)
      rw [Int.toNat_of_nonneg (by omega), List.length_append, List.length_singleton] at this
      rw [this, pat]
      simp only [List.append_assoc]
  rw [impl_patched.f_eq]
  exact key h [] [] 0 (-1) rfl hh (.inl ⟨rfl, rfl⟩) (by omega) (by simp)
theorem pat_sm {l : T} {h : List Hk} (hl : Sm l) (hh : HkSm h) (hg : goodB l = true) (hb : hunksG (l.length : Int) h = true) : Sm (pat l 0 h) := by
  unfold hunksG at hb
  simp only [Bool.and_eq_true, decide_eq_true_eq] at hb
  have h40 := good_len hg
  refine ⟨by have := pat_len l h40 h 0 (-1) hb.1; omega, fun s hs => ?_⟩
  rcases pat_mem l h 0 s hs with hs | ⟨x, hx, hs⟩
  · exact hl.2 s hs
  · exact (hh.2 x hx).2 s hs
theorem sPatch (l : T) (h : List Hk) (hl : Sm l) (hh : HkSm h) : spec_Patch.f l h = some (patchB l h) := by
  have hL := hl.1
  rw [spec_Patch.f_eq, spec_l2Asked.f_eq, sGood l hl, sB]
  unfold patchB
  cases g1 : goodB l with
  | false => rfl
  | true =>
    rw [cond_true, sHunks _ h (by omega) (by omega) hh, sB]
    show ((some (hunksG (l.length : Int) h)).bind _) = _
    rw [sB]
    cases g2 : hunksG (l.length : Int) h with
    | false => rfl
    | true =>
      have hb := g2
      unfold hunksG at hb
      simp only [Bool.and_eq_true, decide_eq_true_eq] at hb
      rw [notT, sPat l (good_len g1) h hb.1 hb.2.1, sB, sGood _ (pat_sm hl hh g1 g2), sB]
      cases g3 : goodB (pat l 0 h) with
      | false => rfl
      | true => rfl
theorem iPatch (l : T) (h : List Hk) (hl : Sm l) (hh : HkSm h) : impl_Patch.f l h = some (patchB l h) := by
  have hL := hl.1
  rw [impl_Patch.f_eq, iGood l hl, sB]
  unfold patchB
  cases g1 : goodB l with
  | false => rfl
  | true =>
    rw [notT, iHunks _ h (by omega) (by omega) hh, sB]
    show (bif !(hunksG (l.length : Int) h) then _ else _) = _
    cases g2 : hunksG (l.length : Int) h with
    | false => rfl
    | true =>
      have hb := g2
      unfold hunksG at hb
      simp only [Bool.and_eq_true, decide_eq_true_eq] at hb
      rw [notT, impl_Patch.l7_eq, iPat l (good_len g1) h hb.1 hb.2.1, sB, iGood _ (pat_sm hl hh g1 g2), sB]
      cases g3 : goodB (pat l 0 h) with
      | false => rfl
      | true => rfl
theorem patchB_ok {l : T} {h : List Hk} (k : (patchB l h).2 = true) : goodB l = true ∧ hunksG (l.length : Int) h = true ∧ goodB (pat l 0 h) = true ∧ (patchB l h).1 = pat l 0 h := by
  unfold patchB at k ⊢
  split at k
  · rename_i hc; rw [if_pos hc]; exact ⟨hc.1, hc.2.1, hc.2.2, rfl⟩
  · cases k
abbrev Cu := List Int × Int × Int
/-- so many choices more can be read -/
def Cok (n : Nat) (c : Cu) : Prop := c.1.length ≤ 1048576 ∧ (∀ x ∈ c.1, 0 ≤ x ∧ x ≤ 255) ∧ 0 ≤ c.2.1 ∧ c.2.1 + n ≤ 4611686018427387904
theorem Cok.le {n m : Nat} {c : Cu} (h : Cok n c) (k : m ≤ n) : Cok m c := ⟨h.1, h.2.1, h.2.2.1, by have := h.2.2.2; omega⟩
theorem and255 (x : Int) : 0 ≤ andI .u64 x 255 ∧ andI .u64 x 255 ≤ 255 := by
  have h : (BitVec.ofInt 64 x &&& BitVec.ofInt 64 255).toNat ≤ 255 := by
    rw [BitVec.toNat_and]
    exact Nat.le_trans Nat.and_le_right (by decide)
  unfold andI
  have e : IntKind.wrap .u64 ((BitVec.ofInt IntKind.u64.bits x &&& BitVec.ofInt IntKind.u64.bits 255).toNat : Int) = ((BitVec.ofInt 64 x &&& BitVec.ofInt 64 255).toNat : Int) := by
    show IntKind.wrap .u64 ((BitVec.ofInt 64 x &&& BitVec.ofInt 64 255).toNat : Int) = _
    generalize (BitVec.ofInt 64 x &&& BitVec.ofInt 64 255).toNat = y at h
    unfold IntKind.wrap
    simp [IntKind.bits, IntKind.signed]
    omega
  rw [e]; omega
theorem next_ok {n : Nat} {c : Cu} (h : Cok (n + 1) c) : ∃ (x : Int) (c' : Cu), spec_l1Cur_next.f c = some (x, c') ∧ 0 ≤ x ∧ x ≤ 255 ∧ Cok n c' := by
  obtain ⟨h1, h2, h3, h4⟩ := h
  have hw : w64 (c.2.1 + 1) = c.2.1 + 1 := w64_id (by omega) (by omega)
  have key : ∀ b : Int, 0 ≤ b → b ≤ 255 → ∃ (x : Int) (c' : Cu), spec_l1Cur_next.l9 c b = some (x, c') ∧ 0 ≤ x ∧ x ≤ 255 ∧ Cok n c' := by
    intro b b0 b1
    rw [spec_l1Cur_next.l9_eq]
    simp only [hw]
    by_cases hc : c.2.1 + 1 ≤ (c.1.length : Int)
    · rw [bifT hc]
      exact ⟨_, _, rfl, b0, b1, h1, h2, by show 0 ≤ c.2.1 + 1; omega, by show c.2.1 + 1 + (n : Int) ≤ _; omega⟩
    · rw [bifF hc]
      generalize shrI .u64 (IntKind.wrap .u64 ((IntKind.wrap .u64 ((IntKind.wrap .u64 (c.2.2 * 6364136223846793005)) + (IntKind.wrap .u64 b))) + 1442695040888963407)) 40 = y
      have ha := and255 y
      refine ⟨_, _, rfl, ?_, ?_, h1, h2, by show 0 ≤ c.2.1 + 1; omega, by show c.2.1 + 1 + (n : Int) ≤ _; omega⟩
      · rw [w64_id (by omega) (by omega)]; omega
      · rw [w64_id (by omega) (by omega)]; omega
  rw [spec_l1Cur_next.f_eq]
  by_cases hc : c.2.1 < (c.1.length : Int)
  · rw [bifT hc, bif2T h3 hc]
    have hm := h2 _ (getD_mem (l := c.1) (i := c.2.1.toNat) (by omega) 0)
    rw [w64_id (by omega) (by omega)]
    exact key _ hm.1 hm.2
  · rw [bifF hc]; exact key 0 (by omega) (by omega)
theorem pick_ok {n : Nat} {c : Cu} (h : Cok (n + 2) c) (m : Int) : ∃ (x : Int) (c' : Cu), spec_l1Cur_pick.f c m = some (x, c') ∧ 0 ≤ x ∧ (1 ≤ m → x < m) ∧ (m < 1 → x = 0) ∧ Cok n c' := by
  rw [spec_l1Cur_pick.f_eq]
  by_cases hm : m ≤ 1
  · rw [bifT hm]; exact ⟨0, c, rfl, by omega, by omega, fun _ => rfl, h.le (by omega)⟩
  · rw [bifF hm]
    obtain ⟨x, c1, e1, x0, x1, k1⟩ := next_ok h
    rw [e1, sB]
    simp only
    by_cases hb : m > 200
    · rw [bifT hb]
      obtain ⟨y, c2, e2, y0, y1, k2⟩ := next_ok k1
      rw [e2, sB, bifNT (by omega)]
      simp only
      rw [w64_id (x := x * 256) (by omega) (by omega), w64_id (by omega) (by omega)]
      have e : (x * 256 + y).tmod m = (x * 256 + y) % m := Int.tmod_eq_emod_of_nonneg (by omega)
      rw [e]
      exact ⟨_, _, rfl, Int.emod_nonneg _ (by omega), fun _ => Int.emod_lt_of_pos _ (by omega), by omega, k2⟩
    · rw [bifF hb, bifNT (by omega)]
      have e : x.tmod m = x % m := Int.tmod_eq_emod_of_nonneg x0
      rw [e]
      exact ⟨_, _, rfl, Int.emod_nonneg _ (by omega), fun _ => Int.emod_lt_of_pos _ (by omega), by omega, k1.le (by omega)⟩
theorem one_ok {n : Nat} {c : Cu} (h : Cok (n + 2) c) (m : Int) : ∃ (b : Bool) (c' : Cu), spec_l1Cur_one.f c m = some (b, c') ∧ Cok n c' := by
  obtain ⟨x, c', e, _, _, _, k⟩ := pick_ok h m
  rw [spec_l1Cur_one.f_eq, e, sB]
  exact ⟨_, _, rfl, k⟩
theorem of_ok {n : Nat} {c : Cu} (h : Cok (n + 2) c) (l : T) (hl : 1 ≤ l.length) : ∃ (s : ByteArray) (c' : Cu), spec_l1Cur_of.f c l = some (s, c') ∧ s ∈ l ∧ Cok n c' := by
  obtain ⟨x, c', e, x0, x1, _, k⟩ := pick_ok h (l.length : Int)
  have x1 := x1 (by omega)
  rw [spec_l1Cur_of.f_eq, e, sB]
  simp only
  rw [bif2T x0 x1]
  exact ⟨_, _, rfl, getD_mem (by omega) _, k⟩
/-- texts of so many lines, each of so many bytes -/
def TB (n m : Nat) (l : T) : Prop := l.length ≤ n ∧ ∀ s ∈ l, 1 ≤ s.size ∧ s.size ≤ m
theorem TB.le {n m n' m' : Nat} {l : T} (h : TB n m l) (h1 : n ≤ n') (h2 : m ≤ m') : TB n' m' l := ⟨Nat.le_trans h.1 h1, fun s hs => ⟨(h.2 s hs).1, Nat.le_trans (h.2 s hs).2 h2⟩⟩
theorem TB.sm {n m : Nat} {l : T} (h : TB n m l) (h1 : n ≤ 1048576) (h2 : m ≤ 1048576) : Sm l := ⟨Nat.le_trans h.1 h1, fun s hs => Nat.le_trans (h.2 s hs).2 h2⟩
theorem TB.app {n m n' : Nat} {l k : T} (h : TB n m l) (h' : TB n' m k) : TB (n + n') m (l ++ k) :=
  ⟨by rw [List.length_append]; have := h.1; have := h'.1; omega, fun s hs => (List.mem_append.1 hs).elim (h.2 s) (h'.2 s)⟩
theorem TB.one {m : Nat} {s : ByteArray} (h1 : 1 ≤ s.size) (h2 : s.size ≤ m) : TB 1 m [s] := ⟨by simp, fun t ht => by rw [List.mem_singleton] at ht; subst ht; exact ⟨h1, h2⟩⟩
theorem TB.set {n m : Nat} {l : T} (h : TB n m l) (i : Nat) {s : ByteArray} (h1 : 1 ≤ s.size) (h2 : s.size ≤ m) : TB n m (l.set i s) :=
  ⟨by rw [List.length_set]; exact h.1, fun t ht => (List.mem_or_eq_of_mem_set ht).elim (h.2 t) fun e => by subst e; exact ⟨h1, h2⟩⟩
theorem TB.take {n m : Nat} {l : T} (h : TB n m l) (i : Nat) : TB n m (l.take i) := ⟨by rw [List.length_take]; have := h.1; omega, fun s hs => h.2 s (List.mem_of_mem_take hs)⟩
theorem TB.drop {n m : Nat} {l : T} (h : TB n m l) (i : Nat) : TB n m (l.drop i) := ⟨by rw [List.length_drop]; have := h.1; omega, fun s hs => h.2 s (List.mem_of_mem_drop hs)⟩
theorem line_ok {n : Nat} {c : Cu} (h : Cok (n + 2) c) : ∃ (s : ByteArray) (c' : Cu), spec_l1Cur_line.f c = some (s, c') ∧ s.size ≤ 8 ∧ Cok n c' := by
  rw [spec_l1Cur_line.f_eq]
  obtain ⟨s, c', e, hm, k⟩ := of_ok h [(⟨#[97]⟩ : ByteArray), (⟨#[98]⟩ : ByteArray), (⟨#[99]⟩ : ByteArray), (⟨#[100]⟩ : ByteArray), em, (⟨#[46]⟩ : ByteArray), (⟨#[46, 46]⟩ : ByteArray), (⟨#[111, 110, 101, 32, 116, 119, 111]⟩ : ByteArray), (⟨#[43, 120]⟩ : ByteArray), (⟨#[45, 121]⟩ : ByteArray), (⟨#[92, 32, 122]⟩ : ByteArray), (⟨#[64, 64]⟩ : ByteArray)] (by decide)
  rw [e, sB]
  refine ⟨s, c', rfl, ?_, k⟩
  simp only [List.mem_cons, List.not_mem_nil, or_false] at hm
  rcases hm with h | h | h | h | h | h | h | h | h | h | h | h <;> (subst h; decide)
theorem sz10 : (⟨#[10]⟩ : ByteArray).size = 1 := rfl
theorem ended_size (s : ByteArray) : (s ++ (⟨#[10]⟩ : ByteArray)).size = s.size + 1 := by rw [ByteArray.size_append, sz10]
theorem text_l (n : Nat) : ∀ (k : Nat) (c : Cu) (l : T) (j : Nat), Cok (n + 2 * k + 4) c → TB j 9 l → j + k ≤ 1000 → ∃ (r : T) (c' : Cu), spec_l1Cur_text.l6 c l (k : Int) = some (r, c') ∧ TB (j + k + 1) 9 r ∧ Cok n c' := by
  intro k
  induction k with
  | zero =>
    intro c l j h hl hj
    have hl1 := hl.1
    rw [spec_l1Cur_text.l6_eq, bifF (by omega)]
    obtain ⟨b, c1, e1, k1⟩ := one_ok (n := n + 2) (h.le (by omega)) 5
    rw [e1, sB]
    cases b with
    | false => exact ⟨l, c1, rfl, hl.le (by omega) (by omega), k1.le (by omega)⟩
    | true =>
      simp only [cond_true]
      obtain ⟨s, c2, e2, hs, k2⟩ := of_ok k1 [(⟨#[97]⟩ : ByteArray), (⟨#[101, 110, 100]⟩ : ByteArray), (⟨#[46]⟩ : ByteArray)] (by decide)
      rw [e2, sB, room16, bifT (by simp only [List.length_singleton]; omega)]
      have hs2 : 1 ≤ s.size ∧ s.size ≤ 9 := by
        simp only [List.mem_cons, List.not_mem_nil, or_false] at hs
        rcases hs with h | h | h <;> (subst h; decide)
      exact ⟨_, c2, rfl, (hl.app (TB.one hs2.1 hs2.2)).le (by omega) (by omega), k2⟩
  | succ k ih =>
    intro c l j h hl hj
    have hl1 := hl.1
    rw [spec_l1Cur_text.l6_eq, bifT (by omega)]
    obtain ⟨s, c1, e1, hs, k1⟩ := line_ok (n := n + 2 * k + 4) (h.le (by omega))
    rw [e1, sB]
    simp only
    rw [sz10, room16, bifT (by omega), bifT (by simp only [List.length_singleton]; omega)]
    have e : w64 (((k + 1 : Nat) : Int) - 1) = (k : Int) := by rw [w64_id (by omega) (by omega)]; omega
    rw [e]
    have hs2 := ended_size s
    obtain ⟨r, c2, e2, hr, k2⟩ := ih c1 (l ++ [s ++ (⟨#[10]⟩ : ByteArray)]) (j + 1) k1 (hl.app (TB.one (by omega) (by omega))) (by omega)
    exact ⟨r, c2, e2, hr.le (by omega) (by omega), k2⟩
theorem text_ok {n : Nat} {c : Cu} (h : Cok (n + 100) c) : ∃ (r : T) (c' : Cu), spec_l1Cur_text.f c = some (r, c') ∧ TB 9 9 r ∧ Cok n c' := by
  rw [spec_l1Cur_text.f_eq]
  obtain ⟨x, c1, e1, x0, x1, _, k1⟩ := pick_ok (n := n + 98) h 9
  have x1 := x1 (by omega)
  rw [e1, sB]
  simp only
  obtain ⟨r, c2, e2, hr, k2⟩ := text_l n x.toNat c1 [] 0 (k1.le (by omega)) ⟨by simp, fun s hs => by cases hs⟩ (by omega)
  rw [Int.toNat_of_nonneg x0] at e2
  exact ⟨r, c2, e2, hr.le (by omega) (by omega), k2⟩
theorem anyText_ok {n : Nat} {c : Cu} (h : Cok (n + 102) c) : ∃ (r : T) (c' : Cu), spec_l1Cur_anyText.f c = some (r, c') ∧ r.length ≤ 9 ∧ (∀ s ∈ r, s.size ≤ 9) ∧ (0 < r.length → 1 ≤ (r.getD (r.length - 1) em).size) ∧ Cok n c' := by
  rw [spec_l1Cur_anyText.f_eq]
  obtain ⟨r, c1, e1, hr, k1⟩ := text_ok (n := n + 2) h
  rw [e1, sB]
  simp only
  have hr1 := hr.1
  have hset : ∀ s : ByteArray, s.size ≤ 9 → (r.set 0 s).length ≤ 9 ∧ ∀ t ∈ r.set 0 s, t.size ≤ 9 := fun s hs =>
    ⟨by rw [List.length_set]; omega, fun t ht => (List.mem_or_eq_of_mem_set ht).elim (fun h => (hr.2 t h).2) fun e => by subst e; exact hs⟩
  have hlast : 0 < r.length → 1 ≤ (r.getD (r.length - 1) em).size := fun h => (hr.2 _ (getD_mem (by omega) _)).1
  by_cases hc : (r.length : Int) > 1
  · rw [bifT hc]
    have hlast2 : ∀ s : ByteArray, 0 < (r.set 0 s).length → 1 ≤ ((r.set 0 s).getD ((r.set 0 s).length - 1) em).size := fun s _ => by
      rw [List.length_set, set_else (by omega)]; exact hlast (by omega)
    obtain ⟨x, c2, e2, _, _, _, k2⟩ := pick_ok k1 25
    rw [e2, sB]
    simp only
    have q1 := hset (⟨#[120]⟩ : ByteArray) (by decide)
    have q2 := hset em (by decide)
    have q3 := hset (⟨#[97, 10, 98, 10]⟩ : ByteArray) (by decide)
    by_cases d0 : x = 0
    · rw [bifT d0, bifT (by omega)]; exact ⟨_, c2, rfl, q1.1, q1.2, hlast2 _, k2⟩
    rw [bifF d0]
    by_cases d1 : x = 1
    · rw [bifT d1, bifT (by omega)]; exact ⟨_, c2, rfl, q2.1, q2.2, hlast2 _, k2⟩
    rw [bifF d1]
    by_cases d2 : x = 2
    · rw [bifT d2, bifT (by omega)]; exact ⟨_, c2, rfl, q3.1, q3.2, hlast2 _, k2⟩
    rw [bifF d2]
    exact ⟨r, c2, rfl, hr1, fun s hs => (hr.2 s hs).2, hlast, k2⟩
  · rw [bifF hc]; exact ⟨r, c1, rfl, hr1, fun s hs => (hr.2 s hs).2, hlast, k1.le (by omega)⟩
theorem other_l (n m : Nat) (a : T) (hm : 9 ≤ m) (hm2 : m ≤ 1000) : ∀ (k : Nat) (c : Cu) (b : T) (j : Nat), Cok (n + 10 * k + 10) c → TB j m b → j + k ≤ 2000 → ∃ (r : T) (c' : Cu), spec_l1Cur_other.l6 c a b (k : Int) = some (r, c') ∧ TB (j + k) (m + 1) r ∧ Cok n c' := by
  intro k
  induction k with
  | zero =>
    intro c b j h hb hj
    have hb1 := hb.1
    have fin : ∀ (c : Cu) (b : T), Cok n c → TB j (m + 1) b → ∃ (r : T) (c' : Cu), spec_l1Cur_other.l43 c a b = some (r, c') ∧ TB (j + 0) (m + 1) r ∧ Cok n c' := fun c b h hb => ⟨b, c, spec_l1Cur_other.l43_eq c a b, hb, h⟩
    have hbm := hb.le (Nat.le_refl j) (Nat.le_succ m)
    rw [spec_l1Cur_other.l6_eq, bifF (by omega)]
    by_cases h0 : (b.length : Int) > 0
    · rw [bifT h0]
      obtain ⟨x, c1, e1, k1⟩ := one_ok (n := n) (h.le (by omega)) 6
      rw [e1, sB]
      cases x with
      | false => exact fin _ _ k1 hbm
      | true =>
        have hl := hb.2 _ (getD_mem (l := b) (i := b.length - 1) (by omega) em)
        simp only [cond_true]
        rw [dn1 (by omega) (by omega), bif2T (by omega) (by omega)]
        simp only [Int.toNat_natCast]
        rw [sPlain _ hl.1 (by omega), sB, bif2T (by omega) (by omega), sEnds _ hl.1 (by omega), sB]
        have hp := plainB_size (b.getD (b.length - 1) em)
        by_cases he : endP (b.getD (b.length - 1) em)
        · rw [bifNF he]
          by_cases hz : (plainB (b.getD (b.length - 1) em)).size = 0
          · have hz2 : plainB (b.getD (b.length - 1) em) = em := by
              apply bl_inj
              have : (bl (plainB (b.getD (b.length - 1) em))).length = 0 := hz
              rw [List.length_eq_zero_iff.1 this]; rfl
            rw [hz2, toList_beq, bifNF rfl]
            exact fin _ _ k1 hbm
          · rw [em_beq _ hz, Bool.not_false, cond_true, bif2T (by omega) (by omega)]
            exact fin _ _ k1 (hbm.set _ (by omega) (by omega))
        · rw [bifNT he, sz10, bifT (by omega), bif2T (by omega) (by omega)]
          have := ended_size (plainB (b.getD (b.length - 1) em))
          exact fin _ _ k1 (hbm.set _ (by omega) (by omega))
    · rw [bifF h0]; exact fin _ _ (h.le (by omega)) hbm
  | succ k ih =>
    intro c b j h hb hj
    have hb1 := hb.1
    have e : w64 (((k + 1 : Nat) : Int) - 1) = (k : Int) := by rw [w64_id (by omega) (by omega)]; omega
    have nx : ∀ (c : Cu) (b : T), Cok (n + 10 * k + 10) c → TB (j + 1) m b → ∃ (r : T) (c' : Cu), spec_l1Cur_other.l9 c a b ((k + 1 : Nat) : Int) = some (r, c') ∧ TB (j + (k + 1)) (m + 1) r ∧ Cok n c' := by
      intro c b h hb
      rw [spec_l1Cur_other.l9_eq, e]
      obtain ⟨r, c', q1, q2, q3⟩ := ih c b (j + 1) h hb (by omega)
      exact ⟨r, c', q1, q2.le (by omega) (Nat.le_refl _), q3⟩
    have hbj := hb.le (Nat.le_succ j) (Nat.le_refl m)
    rw [spec_l1Cur_other.l6_eq, bifT (by omega), up1 (by omega)]
    obtain ⟨x, c1, e1, x0, x1, _, k1⟩ := pick_ok (n := n + 10 * k + 18) (h.le (by omega)) (((b.length + 1 : Nat)) : Int)
    have x1 := x1 (by omega)
    rw [e1, sB]
    simp only
    obtain ⟨y, c2, e2, y0, y1, _, k2⟩ := pick_ok (n := n + 10 * k + 16) k1 3
    rw [e2, sB]
    simp only
    have k2b := k2.le (m := n + 10 * k + 10) (by omega)
    by_cases d0 : y = 0
    · rw [bifT d0]
      by_cases hx : x < (b.length : Int)
      · rw [bifT hx, bif2T x0 (by omega), ownT _ (by rw [List.length_take]; omega), sB, w64_id (by omega) (by omega), bif2T (by omega) (by omega), room16, bifT (by rw [List.length_take, List.length_drop]; omega)]
        refine nx _ _ k2b ⟨by rw [List.length_append, List.length_take, List.length_drop]; omega, fun s hs => ?_⟩
        rcases List.mem_append.1 hs with hs | hs
        · exact hb.2 s (List.mem_of_mem_take hs)
        · exact hb.2 s (List.mem_of_mem_drop hs)
      · rw [bifF hx]; exact nx _ _ k2b hbj
    rw [bifF d0]
    have ins : ∀ (c : Cu) (s : ByteArray), Cok (n + 10 * k + 10) c → s.size ≤ 8 → ∃ (r : T) (c' : Cu), spec_l1Cur_other.l9 c a (((b.take x.toNat) ++ [s ++ (⟨#[10]⟩ : ByteArray)]) ++ (b.drop x.toNat)) ((k + 1 : Nat) : Int) = some (r, c') ∧ TB (j + (k + 1)) (m + 1) r ∧ Cok n c' := by
      intro c s hc hs
      have hs2 := ended_size s
      refine nx _ _ hc ⟨by simp only [List.length_append, List.length_take, List.length_drop, List.length_singleton]; omega, fun t ht => ?_⟩
      rcases List.mem_append.1 ht with ht | ht
      · rcases List.mem_append.1 ht with ht | ht
        · exact hb.2 t (List.mem_of_mem_take ht)
        · rw [List.mem_singleton] at ht; subst ht; omega
      · exact hb.2 t (List.mem_of_mem_drop ht)
    by_cases d1 : y = 1
    · rw [bifT d1]
      by_cases hx : x < (b.length : Int)
      · have hl := hb.2 _ (getD_mem (l := b) (i := x.toNat) (by omega) em)
        rw [bifT hx, bif2T x0 hx, sEnds _ hl.1 (by omega), sB]
        by_cases he : endP (b.getD x.toNat em)
        · rw [bifT he]
          obtain ⟨s, c3, e3, hs, k3⟩ := line_ok (n := n + 10 * k + 10) (k2.le (by omega))
          have hs2 := ended_size s
          rw [e3, sB]
          simp only
          rw [sz10, bifT (by omega), bif2T x0 hx]
          exact nx _ _ k3 (hbj.set _ (by omega) (by omega))
        · rw [bifF he]; exact nx _ _ k2b hbj
      · rw [bifF hx]; exact nx _ _ k2b hbj
    rw [bifF d1]
    by_cases hx : x < (b.length : Int)
    · rw [bifT hx, bif2T x0 (by omega), ownT _ (by rw [List.length_take]; omega), sB]
      obtain ⟨s, c3, e3, hs, k3⟩ := line_ok (n := n + 10 * k + 10) (k2.le (by omega))
      rw [e3, sB]
      simp only
      rw [sz10, bifT (by omega), room16, bifT (by simp only [List.length_take, List.length_singleton]; omega), bif2T x0 (by omega), bifT (by simp only [List.length_append, List.length_take, List.length_drop, List.length_singleton]; omega)]
      exact ins _ s k3 hs
    · rw [bifF hx, sWhole b (by omega) (fun h => by have := hb.2 _ (getD_mem (l := b) (i := b.length - 1) (by omega) em); exact ⟨this.1, by omega⟩), sB]
      cases wholeB b with
      | false => exact nx _ _ k2b hbj
      | true =>
        rw [cond_true, bif2T x0 (by omega), ownT _ (by rw [List.length_take]; omega), sB]
        obtain ⟨s, c3, e3, hs, k3⟩ := line_ok (n := n + 10 * k + 10) (k2.le (by omega))
        rw [e3, sB]
        simp only
        rw [sz10, bifT (by omega), room16, bifT (by simp only [List.length_take, List.length_singleton]; omega), bif2T x0 (by omega), bifT (by simp only [List.length_append, List.length_take, List.length_drop, List.length_singleton]; omega)]
        exact ins _ s k3 hs
theorem other_ok {n : Nat} {c : Cu} (h : Cok (n + 100) c) (a : T) (i m : Nat) (ha : TB i m a) (hi : i ≤ 1000) (hm : 9 ≤ m) (hm2 : m ≤ 1000) : ∃ (r : T) (c' : Cu), spec_l1Cur_other.f c a = some (r, c') ∧ TB (i + 3) (m + 1) r ∧ Cok n c' := by
  have ha1 := ha.1
  rw [spec_l1Cur_other.f_eq, ownT a (by omega), sB]
  obtain ⟨x, c1, e1, x0, x1, _, k1⟩ := pick_ok (n := n + 98) h 4
  have x1 := x1 (by omega)
  rw [e1, sB]
  simp only
  obtain ⟨r, c2, e2, hr, k2⟩ := other_l n m a hm hm2 x.toNat c1 a i (k1.le (by omega)) ha (by omega)
  rw [Int.toNat_of_nonneg x0] at e2
  exact ⟨r, c2, e2, hr.le (by omega) (Nat.le_refl _), k2⟩
theorem sLeast (a b : Int) : spec_l1Least.f a b = some (min a b) := by
  rw [spec_l1Least.f_eq]
  by_cases h : a < b
  · rw [bifT h]; congr 1; omega
  · rw [bifF h]; congr 1; omega
/-- a hunk that is drawn for so many lines -/
def DH (n : Nat) (x : YHunk) : Prop := 0 ≤ x.1 ∧ x.1 ≤ (n : Int) ∧ 0 ≤ x.2.1 ∧ x.2.1 ≤ 3 ∧ x.1 + x.2.1 ≤ (n : Int) ∧ TB 2 9 x.2.2
theorem hunks_l (l : T) (hl : l.length ≤ 2000) (hs : 0 < l.length → 1 ≤ (l.getD (l.length - 1) em).size ∧ (l.getD (l.length - 1) em).size ≤ 1048576) (n : Nat) : ∀ (d : Nat) (c : Cu) (out : YHunkS) (t : Nat), l.length + 1 - t ≤ d → Cok (n + 10 * d) c → out.length ≤ 6 → (∀ x ∈ out, DH l.length x) → t ≤ 100000 →
    ∃ (r : YHunkS) (c' : Cu), spec_l1Cur_hunks.l6 c l out (t : Int) = some (r, c') ∧ r.length ≤ 6 ∧ (∀ x ∈ r, DH l.length x) ∧ Cok n c' := by
  intro d
  induction d with
  | zero =>
    intro c out t hd h ho hx ht
    rw [spec_l1Cur_hunks.l6_eq, bifF (by omega)]
    exact ⟨out, c, rfl, ho, hx, h.le (by omega)⟩
  | succ d ih =>
    intro c out t hd h ho hx ht
    rw [spec_l1Cur_hunks.l6_eq]
    by_cases h1 : (t : Int) ≤ (l.length : Int)
    case neg => rw [bifF h1]; exact ⟨out, c, rfl, ho, hx, h.le (by omega)⟩
    rw [bifT h1]
    by_cases h2 : (out.length : Int) < 6
    case neg => rw [bifF h2]; exact ⟨out, c, rfl, ho, hx, h.le (by omega)⟩
    rw [bifT h2, spec_l1Cur_hunks.l9_eq, w64_id (by omega) (by omega), sLeast, sB, w64_id (by omega) (by omega)]
    obtain ⟨y, c1, e1, y0, y1, _, k1⟩ := pick_ok (n := n + 10 * d + 8) (h.le (by omega)) (min 3 ((l.length : Int) - t) + 1)
    have y1 := y1 (by omega)
    rw [e1, sB]
    simp only
    obtain ⟨z, c2, e2, z0, z1, _, k2⟩ := pick_ok (n := n + 10 * d + 6) k1 3
    have z1 := z1 (by omega)
    rw [e2, sB]
    simp only
    -- the next round
    have nx : ∀ (c : Cu) (out' : YHunkS) (e : Int), Cok (n + 10 * d) c → out'.length ≤ 6 → (∀ x ∈ out', DH l.length x) → (t : Int) + 1 ≤ e → e ≤ (t : Int) + 100 → ∃ (r : YHunkS) (c' : Cu), spec_l1Cur_hunks.l6 c l out' e = some (r, c') ∧ r.length ≤ 6 ∧ (∀ x ∈ r, DH l.length x) ∧ Cok n c' := by
      intro c out' e h1 h2 h3 h4 h5
      obtain ⟨r, c', q⟩ := ih c out' e.toNat (by omega) h1 h2 h3 (by omega)
      rw [Int.toNat_of_nonneg (by omega)] at q
      exact ⟨r, c', q⟩
    -- the lines
    have ln : ∀ (k : Nat) (c : Cu) (x : T), Cok (n + 10 * d + 2 * k + 2) c → x.length + k ≤ 2 → TB 2 9 x → ∃ (r : YHunkS) (c' : Cu), spec_l1Cur_hunks.l12 c l out (t : Int) ((t : Int), y, x) (k : Int) = some (r, c') ∧ r.length ≤ 6 ∧ (∀ x ∈ r, DH l.length x) ∧ Cok n c' := by
      intro k
      induction k with
      | zero =>
        intro c x h hk hxx
        have hxl := hxx.1
        have hD : DH l.length ((t : Int), y, x) := ⟨by show 0 ≤ (t : Int); omega, by show (t : Int) ≤ _; omega, y0, by show y ≤ 3; omega, by show (t : Int) + y ≤ _; omega, hxx⟩
        have hout : (out ++ [((t : Int), y, x)]).length ≤ 6 ∧ ∀ x' ∈ out ++ [((t : Int), y, x)], DH l.length x' := by
          refine ⟨by rw [List.length_append, List.length_singleton]; omega, fun x' hx' => ?_⟩
          rcases List.mem_append.1 hx' with hx' | hx'
          · exact hx x' hx'
          · rw [List.mem_singleton] at hx'; subst hx'; exact hD
        have go : ∀ (out' : YHunkS), out'.length ≤ 6 → (∀ x ∈ out', DH l.length x) → ∃ (r : YHunkS) (c' : Cu), ((spec_l1Cur_pick.f c 3).bind fun y1 => spec_l1Cur_hunks.l6 y1.2 l out' (w64 ((t : Int) + (w64 ((w64 (y + 1)) + y1.1))))) = some (r, c') ∧ r.length ≤ 6 ∧ (∀ x ∈ r, DH l.length x) ∧ Cok n c' := by
          intro out' g1 g2
          obtain ⟨u, c3, e3, u0, u1, _, k3⟩ := pick_ok (n := n + 10 * d) (h.le (by omega)) 3
          have u1 := u1 (by omega)
          rw [e3, sB]
          simp only
          rw [w64_id (x := y + 1) (by omega) (by omega), w64_id (x := y + 1 + u) (by omega) (by omega), w64_id (by omega) (by omega)]
          exact nx c3 out' _ k3 g1 g2 (by omega) (by omega)
        rw [spec_l1Cur_hunks.l12_eq, bifF (by omega), room40]
        simp only
        rw [w64_id (x := y + (x.length : Int)) (by omega) (by omega)]
        by_cases d1 : y + (x.length : Int) > 0
        case neg => rw [bifF d1]; exact go out ho hx
        rw [bifT d1, w64_id (x := (t : Int) + y) (by omega) (by omega)]
        by_cases d2 : (t : Int) + y < (l.length : Int)
        · rw [bifT d2, bifT (by simp only [List.length_singleton]; omega)]; exact go _ hout.1 hout.2
        · rw [bifF d2, sWhole l (by omega) hs, sB]
          cases wholeB l with
          | true => rw [cond_true, bifT (by simp only [List.length_singleton]; omega)]; exact go _ hout.1 hout.2
          | false =>
            rw [cond_false]
            by_cases d3 : y > 0
            · rw [bifT d3, bifT (by simp only [List.length_singleton]; omega)]; exact go _ hout.1 hout.2
            · rw [bifF d3]; exact go out ho hx
      | succ k ihk =>
        intro c x h hk hxx
        have hxl := hxx.1
        rw [spec_l1Cur_hunks.l12_eq, bifT (by omega)]
        obtain ⟨s, c3, e3, h3, k3⟩ := line_ok (n := n + 10 * d + 2 * k + 2) (h.le (by omega))
        rw [e3, sB]
        simp only
        have e : w64 (((k + 1 : Nat) : Int) - 1) = (k : Int) := by rw [w64_id (by omega) (by omega)]; omega
        have hs2 := ended_size s
        rw [sz10, bifT (by omega), room16, bifT (by simp only [List.length_singleton]; omega), e]
        refine ihk c3 (x ++ [s ++ (⟨#[10]⟩ : ByteArray)]) k3 (by rw [List.length_append, List.length_singleton]; omega) ⟨by rw [List.length_append, List.length_singleton]; omega, fun q hq => ?_⟩
        rcases List.mem_append.1 hq with hq | hq
        · exact hxx.2 q hq
        · rw [List.mem_singleton] at hq; subst hq; omega
    obtain ⟨r, c', q⟩ := ln z.toNat c2 [] (k2.le (by omega)) (by simp only [List.length_nil]; omega) ⟨by simp, fun s hs => by cases hs⟩
    rw [Int.toNat_of_nonneg z0] at q
    exact ⟨r, c', q⟩
theorem hunks_ok {n : Nat} {c : Cu} (h : Cok (n + 30000) c) (l : T) (hl : l.length ≤ 2000) (hs : 0 < l.length → 1 ≤ (l.getD (l.length - 1) em).size ∧ (l.getD (l.length - 1) em).size ≤ 1048576) :
    ∃ (r : YHunkS) (c' : Cu), spec_l1Cur_hunks.f c l = some (r, c') ∧ r.length ≤ 6 ∧ (∀ x ∈ r, DH l.length x) ∧ Cok n c' := by
  rw [spec_l1Cur_hunks.f_eq]
  obtain ⟨x, c1, e1, x0, x1, _, k1⟩ := pick_ok (n := n + 29998) (h.le (by omega)) 3
  have x1 := x1 (by omega)
  rw [e1, sB]
  simp only
  obtain ⟨r, c', q⟩ := hunks_l l hl hs n (l.length + 1) c1 [] x.toNat (by omega) (k1.le (by omega)) (by simp) (fun x hx => by cases hx) (by omega)
  rw [Int.toNat_of_nonneg x0] at q
  exact ⟨r, c', q⟩
theorem TB.last {n m : Nat} {l : T} (h : TB n m l) (hm : m ≤ 1048576) : 0 < l.length → 1 ≤ (l.getD (l.length - 1) em).size ∧ (l.getD (l.length - 1) em).size ≤ 1048576 := fun h0 => by
  have := h.2 _ (getD_mem (l := l) (i := l.length - 1) (by omega) em); exact ⟨this.1, by omega⟩
theorem among_ok {n : Nat} {c : Cu} (h : Cok (n + 2) c) (l : List Int) (hl : 1 ≤ l.length) : ∃ (s : Int) (c' : Cu), spec_l1Cur_among.f c l = some (s, c') ∧ s ∈ l ∧ Cok n c' := by
  obtain ⟨x, c', e, x0, x1, _, k⟩ := pick_ok h (l.length : Int)
  have x1 := x1 (by omega)
  rw [spec_l1Cur_among.f_eq, e, sB]
  simp only
  rw [bif2T x0 x1]
  exact ⟨_, _, rfl, getD_mem (by omega) _, k⟩
/-- any hunk that is drawn -/
def AH (x : YHunk) : Prop := -1 ≤ x.1 ∧ x.1 ≤ 2000 ∧ 0 ≤ x.2.1 ∧ x.2.1 ≤ 6 ∧ x.2.2.length ≤ 3 ∧ ∀ s ∈ x.2.2, s.size ≤ 9
theorem DH.any {n : Nat} {x : YHunk} (h : DH n x) (hn : n ≤ 2000) : AH x := by
  obtain ⟨h1, h2, h3, h4, h5, h6, h7⟩ := h
  exact ⟨by omega, by omega, by omega, by omega, by omega, fun s hs => (h7 s hs).2⟩
/-- change the last hunk -/
def modL (f : Hk → Hk) (o : List Hk) : List Hk := o.set (o.length - 1) (f (o.getD (o.length - 1) hz))
def incH (x : Hk) : Hk := (x.1, x.2.1 + 1, x.2.2)
def addH (s : ByteArray) (x : Hk) : Hk := (x.1, x.2.1, x.2.2 ++ [s])
def opn (k : Int) (o : List Hk) (b : Bool) : List Hk := if b = true then o else o ++ [(k, 0, [])]
def ghk : YRowS → Int → List Hk → Bool → List Hk
  | [], _, o, _ => o
  | r :: l, k, o, b => if r.1 = 1 then ghk l (k + 1) o false else if r.1 = 2 then ghk l (k + 1) (modL incH (opn k o b)) true else ghk l k (modL (addH r.2) (opn k o b)) true
theorem modL_len (f : Hk → Hk) (o : List Hk) : (modL f o).length = o.length := List.length_set
theorem opn_len (k : Int) (o : List Hk) (b : Bool) (h : b = true → 1 ≤ o.length) : 1 ≤ (opn k o b).length ∧ o.length ≤ (opn k o b).length ∧ (opn k o b).length ≤ o.length + 1 := by
  unfold opn
  split
  · rename_i e; have := h e; omega
  · rw [List.length_append, List.length_singleton]; omega
/-- so much is in them -/
def HkI (i : Nat) (o : List Hk) : Prop := o.length ≤ i ∧ ∀ x ∈ o, 0 ≤ x.2.1 ∧ x.2.1 ≤ (i : Int) ∧ x.2.2.length ≤ i
theorem opn_J {i : Nat} {o : List Hk} (k : Int) (b : Bool) (h : HkI i o) : ∀ x ∈ opn k o b, 0 ≤ x.2.1 ∧ x.2.1 ≤ (i : Int) ∧ x.2.2.length ≤ i := by
  unfold opn
  split
  · exact h.2
  · intro x hx
    rcases List.mem_append.1 hx with hx | hx
    · exact h.2 x hx
    · rw [List.mem_singleton] at hx; subst hx; simp
theorem modL_I {i : Nat} {o : List Hk} (f : Hk → Hk) (h1 : 1 ≤ o.length) (h2 : o.length ≤ i + 1) (h : ∀ x ∈ o, 0 ≤ x.2.1 ∧ x.2.1 ≤ (i : Int) ∧ x.2.2.length ≤ i) (hf : ∀ x : Hk, 0 ≤ x.2.1 ∧ x.2.1 ≤ (i : Int) ∧ x.2.2.length ≤ i → 0 ≤ (f x).2.1 ∧ (f x).2.1 ≤ ((i + 1 : Nat) : Int) ∧ (f x).2.2.length ≤ i + 1) : HkI (i + 1) (modL f o) := by
  refine ⟨by rw [modL_len]; exact h2, fun x hx => ?_⟩
  rcases List.mem_or_eq_of_mem_set hx with hx | rfl
  · have := h x hx; omega
  · exact hf _ (h _ (getD_mem (by omega) _))
theorem iHunksOf (g : YGroup) (k : Int) (hl : g.2.2.length ≤ 1048576) (h0 : 0 ≤ k) (h1 : k ≤ 1048576) : impl_Group_hunks.f g k = some (ghk g.2.2 k [] false) := by
  obtain ⟨ga, gb, l⟩ := g
  simp only at hl
  have key : ∀ i, i ≤ l.length → ∀ (t1 : Int) (out : List Hk) (b : Bool), HkI i out → (b = true → 1 ≤ out.length) → 0 ≤ t1 → t1 ≤ 1048576 + i →
      impl_Group_hunks.l6 t1 out b l (l.length : Int) (i : Int) = some (ghk (l.drop i) t1 out b) := by
    apply downTo
    · intro t1 out b hi hb a0 a1
      rw [impl_Group_hunks.l6_eq, bifF (by omega), List.drop_eq_nil_of_le (by omega)]; rfl
    · intro i hi ih t1 out b hI hb a0 a1
      rw [drop_at hi (0, em), ghk]
      generalize hr : l.getD i (0, em) = r
      have step : ∀ o : List Hk, 1 ≤ o.length → o.length ≤ i + 1 → (∀ x ∈ o, 0 ≤ x.2.1 ∧ x.2.1 ≤ (i : Int) ∧ x.2.2.length ≤ i) →
          impl_Group_hunks.l21 t1 o true r l (l.length : Int) (i : Int) = some (if r.1 = 2 then ghk (l.drop (i + 1)) (t1 + 1) (modL incH o) true else ghk (l.drop (i + 1)) t1 (modL (addH r.2) o) true) := by
        intro o o1 o2 o3
        have hw : w64 ((o.length : Int) - 1) = ((o.length - 1 : Nat) : Int) := by rw [w64_id (by omega) (by omega)]; omega
        have hm := o3 _ (getD_mem (l := o) (i := o.length - 1) (by omega) (0, 0, []))
        rw [impl_Group_hunks.l21_eq, hw, bif2T (by omega) (by omega), up1 (by omega)]
        simp only [Int.toNat_natCast]
        by_cases h2 : r.1 = 2
        · rw [bifT h2, if_pos h2, w64_id (x := t1 + 1) (by omega) (by omega), w64_id (by omega) (by omega)]
          exact ih (t1 + 1) (modL incH o) true (modL_I incH o1 o2 o3 fun x hx => by simp only [incH]; omega) (fun _ => by rw [modL_len]; exact o1) (by omega) (by omega)
        · rw [bifF h2, if_neg h2, room16, bifT (by simp only [List.length_singleton]; omega), bifT trivial]
          exact ih t1 (modL (addH r.2) o) true (modL_I _ o1 o2 o3 fun x hx => by simp only [addH, List.length_append, List.length_singleton]; omega) (fun _ => by rw [modL_len]; exact o1) (by omega) (by omega)
      have hI1 := hI.1
      rw [impl_Group_hunks.l6_eq, bifT (by omega), bif2T (by omega) (by omega), up1 (by omega)]
      simp only [Int.toNat_natCast, hr]
      by_cases h2 : r.1 = 1
      · rw [bifT h2, if_pos h2, w64_id (by omega) (by omega)]
        exact ih (t1 + 1) out false ⟨by omega, fun x hx => by have := hI.2 x hx; omega⟩ (fun e => by cases e) (by omega) (by omega)
      · rw [bifF h2, if_neg h2]
        have ho := opn_len t1 out b hb
        have := step (opn t1 out b) ho.1 (by omega) (opn_J t1 b hI)
        cases b with
        | true => rw [notT]; exact this
        | false => rw [notF, room40, bifT (by simp only [List.length_singleton]; omega)]; exact this
  rw [impl_Group_hunks.f_eq]
  exact key 0 (by omega) k [] false ⟨by simp, fun x hx => by cases hx⟩ (fun e => by cases e) h0 (by omega)
theorem ghk_I : ∀ (l : YRowS) (k : Int) (o : List Hk) (c : Bool) (i : Nat), HkI i o → (c = true → 1 ≤ o.length) → HkI (i + l.length) (ghk l k o c)
  | [], k, o, c, i, h, _ => h
  | r :: l, k, o, c, i, h, hc => by
    have ho := opn_len k o c hc
    have hj := opn_J k c h
    have h1 := h.1
    rw [ghk, List.length_cons, show i + (l.length + 1) = (i + 1) + l.length by omega]
    split
    · exact ghk_I l (k + 1) o false (i + 1) ⟨by omega, fun x hx => by have := h.2 x hx; omega⟩ (fun e => by cases e)
    · split
      · exact ghk_I l (k + 1) _ true (i + 1) (modL_I incH ho.1 (by omega) hj fun x hx => by simp only [incH]; omega) (fun _ => by rw [modL_len]; exact ho.1)
      · exact ghk_I l k _ true (i + 1) (modL_I _ ho.1 (by omega) hj fun x hx => by simp only [addH, List.length_append, List.length_singleton]; omega) (fun _ => by rw [modL_len]; exact ho.1)
/-- every line of them is one of the rows -/
theorem ghk_mem : ∀ (l : YRowS) (k : Int) (o : List Hk) (c : Bool), (c = true → 1 ≤ o.length) → ∀ x ∈ ghk l k o c, ∀ s ∈ x.2.2, (∃ y ∈ o, s ∈ y.2.2) ∨ ∃ r ∈ l, s = r.2
  | [], k, o, c, _, x, hx, s, hs => .inl ⟨x, hx, hs⟩
  | r :: l, k, o, c, h, x, hx, s, hs => by
    have ho := (opn_len k o c h).1
    have hop : ∀ y ∈ opn k o c, ∀ s ∈ y.2.2, ∃ y ∈ o, s ∈ y.2.2 := by
      intro y hy s hs
      unfold opn at hy
      split at hy
      · exact ⟨y, hy, hs⟩
      · rcases List.mem_append.1 hy with hy | hy
        · exact ⟨y, hy, hs⟩
        · rw [List.mem_singleton] at hy; subst hy; cases hs
    rw [ghk] at hx
    split at hx
    · rcases ghk_mem l (k + 1) o false (fun e => by cases e) x hx s hs with h | ⟨q, hq, e⟩
      · exact .inl h
      · exact .inr ⟨q, by simp [hq], e⟩
    · split at hx
      · rcases ghk_mem l (k + 1) _ true (fun _ => by rw [modL_len]; exact ho) x hx s hs with ⟨y, hy, hs⟩ | ⟨q, hq, e⟩
        · rcases List.mem_or_eq_of_mem_set hy with hy | rfl
          · exact .inl (hop y hy s hs)
          · exact .inl (hop _ (getD_mem (by omega) hz) s hs)
        · exact .inr ⟨q, by simp [hq], e⟩
      · rcases ghk_mem l k _ true (fun _ => by rw [modL_len]; exact ho) x hx s hs with ⟨y, hy, hs⟩ | ⟨q, hq, e⟩
        · rcases List.mem_or_eq_of_mem_set hy with hy | rfl
          · exact .inl (hop y hy s hs)
          · simp only [addH] at hs
            rcases List.mem_append.1 hs with hs | hs
            · exact .inl (hop _ (getD_mem (by omega) hz) s hs)
            · exact .inr ⟨r, by simp, List.mem_singleton.1 hs⟩
        · exact .inr ⟨q, by simp [hq], e⟩
/-- the hunks of groups, one behind the other -/
def ghL (l : T) : YGroupS → List Hk → Int → List Hk × Int × Bool
  | [], o, _ => (o, 0, true)
  | x :: r, o, m => if ¬ side 3 x.2.2 = (l.take (gA x).toNat).drop x.1.toNat then ([], 2, true) else if ¬ x.2.1 = x.1 + m then ([], 2, true) else
    ghL l r (o ++ ghk x.2.2 x.1 [] false) (m + (((side 2 x.2.2).length : Int) - ((side 3 x.2.2).length : Int)))
def farGB (l : T) (g : YGroupS) : Bool := g.any fun x => decide (gA x > (l.length : Int))
def ghB (l : T) (g : YGroupS) : List Hk × Int × Bool :=
  if goodB l = true ∧ gsB g = true then (if farGB l g = true then ([], 3, true) else ghL l g [] 0) else ([], 0, false)
def apB (l : T) (g : YGroupS) : T × Int × Bool :=
  if (ghB l g).2.2 = true ∧ (ghB l g).2.1 = 0 then (if (patchB l (ghB l g).1).2 = true then ((patchB l (ghB l g).1).1, 0, true) else ([], 2, true)) else ([], (ghB l g).2)
theorem iFarG (l : T) (g : YGroupS) (hl : l.length ≤ 1048576) (hg : SmG g) (hb : gsB g = true) : slices_ContainsFunc_Limpl_Group_impl_Group__impl_GroupHunks_1.f g l = some (farGB l g, l) := by
  have hL := hg.1
  have idx : ∀ i, i ≤ g.length → ∃ r : Int, slices_IndexFunc_Limpl_Group_impl_Group__impl_GroupHunks_1.l4 g l (g.length : Int) (i : Int) = some (r, l) ∧ (decide (r ≥ 0) = farGB l (g.drop i)) := by
    apply downTo
    · refine ⟨-1, ?_, ?_⟩
      · rw [slices_IndexFunc_Limpl_Group_impl_Group__impl_GroupHunks_1.l4_eq, bifF (by omega)]
      · rw [List.drop_eq_nil_of_le (by omega)]; rfl
    · intro i hi ih
      obtain ⟨r, e1, e2⟩ := ih
      have hm := getD_mem hi (0, 0, ([] : YRowS))
      have hs := (hg.2 _ hm).1
      have hin := group_in (gs_in hb _ hm)
      have hsl := side_len 3 (g.getD i (0, 0, ([] : YRowS))).2.2
      have hcl : impl_GroupHunks_1.f (g.getD i (0, 0, [])) l = some (decide (gA (g.getD i (0, 0, [])) > (l.length : Int)), l) := by
        rw [impl_GroupHunks_1.f_eq, iOld _ hs, sB, w64_id (by omega) (by omega)]; rfl
      rw [slices_IndexFunc_Limpl_Group_impl_Group__impl_GroupHunks_1.l4_eq, bifT (by omega), bif2T (by omega) (by omega), up1 (by omega)]
      simp only [Int.toNat_natCast]
      rw [hcl, sB]
      simp only
      by_cases h : gA (g.getD i (0, 0, [])) > (l.length : Int)
      · refine ⟨(i : Int), bifT h, ?_⟩
        rw [drop_at hi (0, 0, ([] : YRowS))]
        unfold farGB
        rw [List.any_cons, decide_eq_true h, Bool.true_or, decide_eq_true (by omega)]
      · refine ⟨r, by rw [bifF h]; exact e1, ?_⟩
        rw [drop_at hi (0, 0, ([] : YRowS)), e2]
        unfold farGB
        rw [List.any_cons, decide_eq_false h, Bool.false_or]
  obtain ⟨r, e1, e2⟩ := idx 0 (by omega)
  rw [slices_ContainsFunc_Limpl_Group_impl_Group__impl_GroupHunks_1.f_eq, slices_IndexFunc_Limpl_Group_impl_Group__impl_GroupHunks_1.f_eq]
  have e1' : slices_IndexFunc_Limpl_Group_impl_Group__impl_GroupHunks_1.l4 g l (g.length : Int) 0 = some (r, l) := e1
  rw [e1', sB]
  simp only
  rw [e2, List.drop_zero]
theorem farG_in {l : T} {g : YGroupS} (h : farGB l g = false) : ∀ x ∈ g, gA x ≤ (l.length : Int) := by
  intro x hx
  unfold farGB at h
  rw [List.any_eq_false] at h
  have := h x hx
  rw [decide_eq_true_eq] at this
  omega
theorem iGH (l : T) (g : YGroupS) (hl : Sm l) (hg : SmG g) : impl_GroupHunks.f l g = some (ghB l g) := by
  rw [impl_GroupHunks.f_eq, iGood l hl, sB]
  unfold ghB
  cases g1 : goodB l with
  | false => rfl
  | true =>
    rw [notT, iGroups g hg, sB]
    cases g2 : gsB g with
    | false => rfl
    | true =>
      rw [notT, impl_GroupHunks.l7_eq, iFarG l g hl.1 hg g2, sB, if_pos ⟨rfl, rfl⟩]
      simp only
      cases g3 : farGB l g with
      | true => rfl
      | false =>
        rw [cond_false, if_neg (by simp)]
        have h20 := gs_len g2
        have hL := hl.1
        have key : ∀ (rest pre : YGroupS) (o : List Hk) (m : Int), g = pre ++ rest → o.length ≤ 80 * pre.length → -80 * (pre.length : Int) ≤ m → m ≤ 80 * (pre.length : Int) →
            impl_GroupHunks.l14 l o m g (g.length : Int) (pre.length : Int) = some (ghL l rest o m) := by
          intro rest
          induction rest with
          | nil =>
            intro pre o m hf ho m0 m1
            have hpl : g.length = pre.length := by rw [hf]; simp
            rw [impl_GroupHunks.l14_eq, bifF (by omega)]; rfl
          | cons x r ih =>
            intro pre o m hf ho m0 m1
            have hpl : g.length = pre.length + (r.length + 1) := by rw [hf]; simp
            have hgd : g.getD pre.length (0, 0, []) = x := by rw [hf]; exact getD_mid pre x r _
            have hx : x ∈ g := by rw [hf]; simp
            have hs := (hg.2 x hx).1
            obtain ⟨q1, q2, q3, q4, q5⟩ := group_in (gs_in g2 x hx)
            have hfar := farG_in g3 x hx
            have s3 := side_len 3 x.2.2
            have s2 := side_len 2 x.2.2
            have hw : w64 (x.1 + ((side 3 x.2.2).length : Int)) = gA x := by rw [w64_id (by omega) (by omega)]; rfl
            have hA : gA x = x.1 + ((side 3 x.2.2).length : Int) := rfl
            rw [impl_GroupHunks.l14_eq, bifT (by omega), bif2T (by omega) (by omega), ghL]
            simp only [Int.toNat_natCast, hgd]
            rw [iOld x hs, sB]
            simp only [hw]
            rw [bif3T (by omega) (by omega) (by omega), iEqT _ _ (by omega) (by rw [List.length_drop, List.length_take]; omega), sB]
            by_cases e1 : side 3 x.2.2 = (l.take (gA x).toNat).drop x.1.toNat
            · rw [bifNF e1, if_neg (fun h => h e1), w64_id (x := x.1 + m) (by omega) (by omega)]
              by_cases e2 : x.2.1 = x.1 + m
              · have hI := ghk_I x.2.2 x.1 [] false 0 ⟨by simp, fun x hx => by cases hx⟩ (fun e => by cases e)
                have hI1 := hI.1
                rw [bifNF e2, if_neg (fun h => h e2), impl_GroupHunks.l25_eq, iHunksOf x x.1 hs (by omega) (by omega), sB, room40, bifT (by omega), iNew x hs, sB, up1 (by omega), w64_id (x := ((side 2 x.2.2).length : Int) - ((side 3 x.2.2).length : Int)) (by omega) (by omega), w64_id (by omega) (by omega)]
                have := ih (pre ++ [x]) (o ++ ghk x.2.2 x.1 [] false) (m + (((side 2 x.2.2).length : Int) - ((side 3 x.2.2).length : Int))) (by rw [hf]; simp) (by rw [List.length_append, List.length_append, List.length_singleton]; omega) (by rw [List.length_append, List.length_singleton]; omega) (by rw [List.length_append, List.length_singleton]; omega)
                rw [List.length_append, List.length_singleton] at this
                exact this
              · rw [bifNT e2, if_pos e2]
            · rw [bifNT e1, if_pos e1]
        exact key g [] [] 0 rfl (by simp) (by simp) (by simp)
theorem ghL_sm (l : T) : ∀ (g : YGroupS) (o : List Hk) (m : Int) (n : Nat), (∀ x ∈ g, SmR x.2.2 ∧ x.2.2.length ≤ 80) → o.length ≤ 80 * n → (∀ x ∈ o, Sm x.2.2) → n + g.length ≤ 1000 → HkSm (ghL l g o m).1
  | [], o, m, n, _, h1, h2, h3 => ⟨by simp only [ghL]; simp only [List.length_nil] at h3; omega, h2⟩
  | x :: r, o, m, n, hg, h1, h2, h3 => by
    have no : HkSm [] := ⟨by simp, fun x hx => by cases hx⟩
    obtain ⟨hx, h80⟩ := hg x (by simp)
    rw [List.length_cons] at h3
    have hI := ghk_I x.2.2 x.1 [] false 0 ⟨by simp, fun x hx => by cases hx⟩ (fun e => by cases e)
    have hI1 := hI.1
    rw [ghL]
    split
    · exact no
    · split
      · exact no
      · refine ghL_sm l r _ _ (n + 1) (fun y hy => hg y (by simp [hy])) (by rw [List.length_append]; omega) (fun y hy => ?_) (by omega)
        rcases List.mem_append.1 hy with hy | hy
        · exact h2 y hy
        · refine ⟨by have := (hI.2 y hy).2.2; omega, fun s hs => ?_⟩
          rcases ghk_mem x.2.2 x.1 [] false (fun e => by cases e) y hy s hs with ⟨z, hz, _⟩ | ⟨q, hq, rfl⟩
          · cases hz
          · exact hx.2 q hq
theorem ghB_sm (l : T) (g : YGroupS) (hg : SmG g) : HkSm (ghB l g).1 := by
  have no : HkSm [] := ⟨by simp, fun x hx => by cases hx⟩
  unfold ghB
  split
  · rename_i h
    split
    · exact no
    · have := gs_len h.2
      exact ghL_sm l g [] 0 0 (fun x hx => ⟨hg.2 x hx, (group_in (gs_in h.2 x hx)).2.2.2.2⟩) (by simp) (fun x hx => by cases hx) (by omega)
  · exact no
theorem iApply (l : T) (g : YGroupS) (hl : Sm l) (hg : SmG g) : impl_ApplyGroups.f l g = some (apB l g) := by
  rw [impl_ApplyGroups.f_eq, iGH l g hl hg, sB]
  unfold apB
  cases h1 : (ghB l g).2.2 with
  | false => rw [notF, if_neg (by simp)]; rw [← h1]
  | true =>
    rw [notT]
    by_cases h2 : (ghB l g).2.1 = 0
    · rw [bifNF h2, if_pos ⟨rfl, h2⟩, impl_ApplyGroups.l9_eq, iPatch l _ hl (ghB_sm l g hg), sB]
      cases h3 : (patchB l (ghB l g).1).2 with
      | true => rw [notT, if_pos rfl]
      | false => rw [notF, if_neg (by simp)]
    · rw [bifNT h2, if_neg (fun e => h2 e.2), ← h1]
theorem apB_ok {l : T} {g : YGroupS} (h1 : (apB l g).2.2 = true) (h2 : (apB l g).2.1 = 0) : goodB l = true ∧ gsB g = true ∧ farGB l g = false ∧ ghL l g [] 0 = ((ghB l g).1, 0, true) ∧ (patchB l (ghB l g).1).2 = true ∧ (apB l g).1 = (patchB l (ghB l g).1).1 := by
  unfold apB at h1 h2 ⊢
  split at h1
  · rename_i hc
    rw [if_pos hc] at h2 ⊢
    split at h1
    · rename_i hp
      rw [if_pos hp] at h2 ⊢
      unfold ghB at hc
      split at hc
      · rename_i hg
        split at hc
        · simp at hc
        · rename_i hf
          refine ⟨hg.1, hg.2, by simpa using hf, ?_, hp, rfl⟩
          unfold ghB
          rw [if_pos hg, if_neg hf]
          exact Prod.ext rfl (Prod.ext hc.2 hc.1)
      · simp at hc
    · rename_i hp
      rw [if_neg hp] at h2
      simp at h2
  · rename_i hc
    rw [if_neg hc] at h2
    exact absurd ⟨h1, h2⟩ hc
/-- a text with groups done, from a line on -/
def gpat (l : T) : Nat → YGroupS → T
  | k, [] => l.drop k
  | k, x :: r => (l.take x.1.toNat).drop k ++ side 2 x.2.2 ++ gpat l (gA x).toNat r
/-- what hunks bring from a line on, and where they end -/
def pre (l : T) : Nat → List Hk → T
  | _, [] => []
  | k, x :: r => ((l.take x.1.toNat).drop k ++ x.2.2) ++ pre l (x.1 + x.2.1).toNat r
def endO : Nat → List Hk → Nat
  | k, [] => k
  | _, x :: r => endO (x.1 + x.2.1).toNat r
theorem pat_app (l : T) : ∀ (o : List Hk) (k : Nat) (r : List Hk), pat l k (o ++ r) = pre l k o ++ pat l (endO k o) r
  | [], k, r => rfl
  | x :: o, k, r => by
    rw [List.cons_append, pat, pre, endO, pat_app l o]; simp only [List.append_assoc]
theorem pre_app (l : T) : ∀ (o : List Hk) (k : Nat) (r : List Hk), pre l k (o ++ r) = pre l k o ++ pre l (endO k o) r
  | [], k, r => rfl
  | x :: o, k, r => by
    rw [List.cons_append, pre, pre, endO, pre_app l o]; simp only [List.append_assoc]
theorem end_app : ∀ (o : List Hk) (k : Nat) (r : List Hk), endO k (o ++ r) = endO (endO k o) r
  | [], k, r => rfl
  | x :: o, k, r => by rw [List.cons_append, endO, endO, end_app o]
theorem modL_app2 (f : Hk → Hk) (o : List Hk) (x : Hk) : modL f (o ++ [x]) = o ++ [f x] := by
  unfold modL
  simp [List.getD]
theorem last_split {o : List Hk} (h : 1 ≤ o.length) : ∃ o' x, o = o' ++ [x] := by
  refine ⟨o.dropLast, o.getLast (fun e => by rw [e] at h; simp at h), (List.dropLast_concat_getLast _).symm⟩
theorem seg_add (l : T) {k a b : Nat} (h1 : k ≤ a) (h2 : a ≤ b) : (l.take a).drop k ++ (l.take b).drop a = (l.take b).drop k := by
  apply List.ext_getElem?
  intro i
  rw [List.getElem?_append]
  simp only [List.length_drop, List.length_take, List.getElem?_drop, List.getElem?_take]
  by_cases hi : i < min a l.length - k
  · rw [if_pos hi, if_pos (by omega), if_pos (by omega)]
  · rw [if_neg hi]
    by_cases ha : a ≤ l.length
    · rw [show a + (i - (min a l.length - k)) = k + i by omega]
    · have e1 : l[a + (i - (min a l.length - k))]? = none := List.getElem?_eq_none (by omega)
      have e2 : l[k + i]? = none := List.getElem?_eq_none (by omega)
      rw [e1, e2]; simp
/-- what the rows of a group make of the text -/
theorem ghk_pre (l : T) (p : Nat) : ∀ (L : YRowS) (k : Nat) (o : List Hk) (c : Bool), (∀ r ∈ L, 1 ≤ r.1 ∧ r.1 ≤ 3) → (c = true → 1 ≤ o.length ∧ endO p o = k) → endO p o ≤ k → k + (side 3 L).length ≤ l.length → (l.take (k + (side 3 L).length)).drop k = side 3 L →
    (∀ x ∈ o, 0 ≤ x.1 ∧ 0 ≤ x.2.1) →
    endO p (ghk L (k : Int) o c) ≤ k + (side 3 L).length ∧ (∀ x ∈ ghk L (k : Int) o c, 0 ≤ x.1 ∧ 0 ≤ x.2.1) ∧
      pre l p (ghk L (k : Int) o c) ++ (l.take (k + (side 3 L).length)).drop (endO p (ghk L (k : Int) o c)) = pre l p o ++ (l.take k).drop (endO p o) ++ side 2 L
  | [], k, o, c, hK, h1, h2, h3, h4, h5 => ⟨h2, h5, by rw [side]; simp [ghk, side]⟩
  | r :: L, k, o, c, hK, h1, h2, h3, h4, h5 => by
    have hK2 : ∀ r ∈ L, 1 ≤ r.1 ∧ r.1 ≤ 3 := fun y hy => hK y (by simp [hy])
    have hr := hK r (by simp)
    have opened : ∃ o' x, opn (k : Int) o c = o' ++ [x] ∧ 0 ≤ x.1 ∧ 0 ≤ x.2.1 ∧ (x.1 + x.2.1).toNat = k ∧ (∀ y ∈ o', 0 ≤ y.1 ∧ 0 ≤ y.2.1) ∧ pre l p (o' ++ [x]) = pre l p o ++ (l.take k).drop (endO p o) := by
      unfold opn
      cases c with
      | true =>
        obtain ⟨a1, a2⟩ := h1 rfl
        obtain ⟨o', x, rfl⟩ := last_split a1
        have hx := h5 x (by simp)
        refine ⟨o', x, rfl, hx.1, hx.2, by rw [end_app] at a2; exact a2, fun y hy => h5 y (by simp [hy]), ?_⟩
        rw [a2, List.drop_take, Nat.sub_self]; simp
      | false =>
        refine ⟨o, ((k : Int), 0, []), rfl, by show (0 : Int) ≤ (k : Int); omega, Int.le_refl _, by simp, h5, ?_⟩
        rw [pre_app, pre, pre]
        simp
    by_cases k1 : r.1 = 1
    · have s3 : side 3 (r :: L) = r.2 :: side 3 L := by rw [side_cons, if_neg (by omega)]
      have s2 : side 2 (r :: L) = r.2 :: side 2 L := by rw [side_cons, if_neg (by omega)]
      rw [s3, List.length_cons] at h3 h4 ⊢
      have hk : k < l.length := by omega
      have hd : (l.take (k + ((side 3 L).length + 1))).drop k = l.getD k em :: (l.take (k + 1 + (side 3 L).length)).drop (k + 1) := by
        rw [drop_at (l := l.take (k + ((side 3 L).length + 1))) (i := k) (by rw [List.length_take]; omega) em]
        congr 1
        · rw [List.getD_eq_getElem?_getD, List.getD_eq_getElem?_getD, List.getElem?_take, if_pos (by omega)]
        · rw [show k + ((side 3 L).length + 1) = k + 1 + (side 3 L).length by omega]
      rw [hd] at h4
      obtain ⟨e1, e2⟩ := List.cons.inj h4
      have e : ghk (r :: L) (k : Int) o c = ghk L ((k + 1 : Nat) : Int) o false := by rw [ghk, if_pos k1]; rfl
      rw [e]
      obtain ⟨q1, q2, q3⟩ := ghk_pre l p L (k + 1) o false hK2 (fun h => (nomatch h)) (by omega) (by omega) e2 h5
      refine ⟨by omega, q2, ?_⟩
      rw [show k + ((side 3 L).length + 1) = k + 1 + (side 3 L).length by omega, q3, s2]
      have : (l.take (k + 1)).drop (endO p o) = (l.take k).drop (endO p o) ++ [r.2] := by
        rw [← seg_add l h2 (Nat.le_succ k)]
        congr 1
        rw [drop_at (l := l.take (k + 1)) (i := k) (by rw [List.length_take]; omega) em, List.drop_eq_nil_of_le (by rw [List.length_take]; omega)]
        rw [List.getD_eq_getElem?_getD, List.getElem?_take, if_pos (by omega), ← List.getD_eq_getElem?_getD, e1]
      rw [this]
      simp [List.append_assoc]
    · by_cases k2 : r.1 = 2
      · have s3 : side 3 (r :: L) = r.2 :: side 3 L := by rw [side_cons, if_neg (by omega)]
        have s2 : side 2 (r :: L) = side 2 L := by rw [side_cons, if_pos k2]
        rw [s3, List.length_cons] at h3 h4 ⊢
        have hd : (l.take (k + ((side 3 L).length + 1))).drop k = l.getD k em :: (l.take (k + 1 + (side 3 L).length)).drop (k + 1) := by
          rw [drop_at (l := l.take (k + ((side 3 L).length + 1))) (i := k) (by rw [List.length_take]; omega) em]
          congr 1
          · rw [List.getD_eq_getElem?_getD, List.getD_eq_getElem?_getD, List.getElem?_take, if_pos (by omega)]
          · rw [show k + ((side 3 L).length + 1) = k + 1 + (side 3 L).length by omega]
        rw [hd] at h4
        obtain ⟨e1, e2⟩ := List.cons.inj h4
        obtain ⟨o', x, a1, a2, a3, a4, a5, a6⟩ := opened
        have e : ghk (r :: L) (k : Int) o c = ghk L ((k + 1 : Nat) : Int) (o' ++ [incH x]) true := by
          rw [ghk, if_neg k1, if_pos k2, a1, modL_app2]; rfl
        rw [e]
        have hend : endO p (o' ++ [incH x]) = k + 1 := by
          rw [end_app]; show (x.1 + (x.2.1 + 1)).toNat = k + 1; omega
        have hpre : pre l p (o' ++ [incH x]) = pre l p (o' ++ [x]) := by rw [pre_app, pre_app]; rfl
        obtain ⟨q1, q2, q3⟩ := ghk_pre l p L (k + 1) (o' ++ [incH x]) true hK2 (fun _ => ⟨by simp, hend⟩) (by omega) (by omega) e2 (fun y hy => by
          rcases List.mem_append.1 hy with hy | hy
          · exact a5 y hy
          · rw [List.mem_singleton] at hy; subst hy; exact ⟨a2, by show 0 ≤ x.2.1 + 1; omega⟩)
        refine ⟨by omega, q2, ?_⟩
        rw [show k + ((side 3 L).length + 1) = k + 1 + (side 3 L).length by omega, q3, s2, hpre, a6, hend]
        have : (l.take (k + 1)).drop (k + 1) = [] := List.drop_eq_nil_of_le (by rw [List.length_take]; omega)
        rw [this, List.append_nil]
      · have s2 : side 2 (r :: L) = r.2 :: side 2 L := by rw [side_cons, if_neg k2]
        obtain ⟨o', x, a1, a2, a3, a4, a5, a6⟩ := opened
        have e : ghk (r :: L) (k : Int) o c = ghk L (k : Int) (o' ++ [addH r.2 x]) true := by
          rw [ghk, if_neg k1, if_neg k2, a1, modL_app2]
        by_cases k3 : r.1 = 3
        · have s3 : side 3 (r :: L) = side 3 L := by rw [side_cons, if_pos k3]
          rw [s3] at h3 h4 ⊢
          rw [e]
          have hend : endO p (o' ++ [addH r.2 x]) = k := by rw [end_app]; exact a4
          have hpre : pre l p (o' ++ [addH r.2 x]) = pre l p (o' ++ [x]) ++ [r.2] := by
            rw [pre_app, pre_app]
            show _ ++ (((l.take x.1.toNat).drop _ ++ (x.2.2 ++ [r.2])) ++ []) = (_ ++ (((l.take x.1.toNat).drop _ ++ x.2.2) ++ [])) ++ [r.2]
            simp [List.append_assoc]
          obtain ⟨q1, q2, q3⟩ := ghk_pre l p L k (o' ++ [addH r.2 x]) true hK2 (fun _ => ⟨by simp, hend⟩) (by omega) (by omega) h4 (fun y hy => by
            rcases List.mem_append.1 hy with hy | hy
            · exact a5 y hy
            · rw [List.mem_singleton] at hy; subst hy; exact ⟨a2, a3⟩)
          refine ⟨q1, q2, ?_⟩
          rw [q3, s2, hpre, a6, hend]
          have : (l.take k).drop k = [] := List.drop_eq_nil_of_le (by rw [List.length_take]; omega)
          rw [this, List.append_nil]
          simp [List.append_assoc]
        · omega
theorem rowsB_kinds : ∀ {l : YRowS} {p : Int}, rowsB p l = true → ∀ r ∈ l, 1 ≤ r.1 ∧ r.1 ≤ 3
  | [], _, _, r, hr => by cases hr
  | x :: l, p, h, r, hr => by
    rw [rowsB, Bool.and_eq_true, Bool.and_eq_true, Bool.and_eq_true] at h
    rcases List.mem_cons.1 hr with rfl | hr
    · exact of_decide_eq_true h.1
    · exact rowsB_kinds h.2.2.2 r hr
theorem take_drop_all (l : T) {e p : Nat} (h : e ≤ p) : (l.take p).drop e ++ l.drop p = l.drop e := by
  apply List.ext_getElem?
  intro i
  rw [List.getElem?_append]
  simp only [List.length_drop, List.length_take, List.getElem?_drop, List.getElem?_take]
  by_cases hi : i < min p l.length - e
  · rw [if_pos hi, if_pos (by omega)]
  · rw [if_neg hi]
    by_cases ha : p ≤ l.length
    · rw [show p + (i - (min p l.length - e)) = e + i by omega]
    · have e1 : l[p + (i - (min p l.length - e))]? = none := List.getElem?_eq_none (by omega)
      have e2 : l[e + i]? = none := List.getElem?_eq_none (by omega)
      rw [e1, e2]
theorem ghL_pat (l : T) : ∀ (g : YGroupS) (o : List Hk) (m : Int) (p : Nat) (pb : Int) (h : List Hk), groupsB (p : Int) pb g = true → (∀ x ∈ g, gA x ≤ (l.length : Int)) → endO 0 o ≤ p → ghL l g o m = (h, 0, true) →
    pat l 0 h = pre l 0 o ++ (l.take p).drop (endO 0 o) ++ gpat l p g
  | [], o, m, p, pb, h, h1, h2, h3, h4 => by
    obtain rfl : o = h := congrArg Prod.fst h4
    have := pat_app l o 0 []
    rw [List.append_nil] at this
    rw [this, gpat, List.append_assoc, take_drop_all l h3]; rfl
  | x :: r, o, m, p, pb, h, h1, h2, h3, h4 => by
    rw [ghL] at h4
    by_cases c1 : side 3 x.2.2 = (l.take (gA x).toNat).drop x.1.toNat
    case neg => rw [if_pos c1] at h4; cases h4
    rw [if_neg (by simpa using c1)] at h4
    by_cases c2 : x.2.1 = x.1 + m
    case neg => rw [if_pos c2] at h4; cases h4
    rw [if_neg (by simpa using c2)] at h4
    have hg := h1
    rw [groupsB, Bool.and_eq_true, Bool.and_eq_true] at hg
    obtain ⟨g1, g2, g3⟩ := hg
    have g2 := of_decide_eq_true g2
    have hin := group_in g1
    have hA := h2 x (by simp)
    have hgA : gA x = x.1 + ((side 3 x.2.2).length : Int) := rfl
    obtain ⟨a, ha⟩ : ∃ a : Nat, x.1 = (a : Int) := ⟨x.1.toNat, by omega⟩
    rw [ha] at c1 hgA g2
    have e1 : (gA x).toNat = a + (side 3 x.2.2).length := by omega
    rw [e1, Int.toNat_natCast] at c1
    obtain ⟨q1, q2, q3⟩ := ghk_pre l (endO 0 o) x.2.2 a [] false (rowsB_kinds (group_rows g1)) (fun h => (nomatch h)) (by show endO 0 o ≤ a; omega) (by omega) c1.symm (fun _ h => (nomatch h))
    rw [ha] at h4
    have g3' : groupsB (((gA x).toNat : Nat) : Int) (gB x) r = true := by
      rw [show (((gA x).toNat : Nat) : Int) = gA x by omega]; exact g3
    have ih := ghL_pat l r _ _ (gA x).toNat (gB x) h g3' (fun y hy => h2 y (by simp [hy])) (by rw [end_app]; omega) h4
    rw [ih, gpat, pre_app, end_app, e1, ha, Int.toNat_natCast]
    have q3' : pre l (endO 0 o) (ghk x.2.2 (a : Int) [] false) ++ (l.take (a + (side 3 x.2.2).length)).drop (endO (endO 0 o) (ghk x.2.2 (a : Int) [] false)) = (l.take a).drop (endO 0 o) ++ side 2 x.2.2 := q3
    rw [List.append_assoc (pre l 0 o), q3', ← seg_add l h3 (show p ≤ a by omega)]
    simp only [List.append_assoc]
/-- a place that fits at once -/
theorem near_hit (l part : T) (a : Int) (far : Nat) (hl : l.length ≤ 1048576) (hp : part.length ≤ 1048576) (ha : -1000000000 ≤ a ∧ a ≤ 1000000000) (hf : far ≤ 40) (h : fitsB l part a = true) : impl_near.f l part a (far : Int) = some a := by
  rw [impl_near.f_eq, up1 (by omega), impl_near.l4_eq, bifT (by omega), w64_id (x := a - 0) (by omega) (by omega), Int.sub_zero, iStands l part _ hl hp, h]
  rfl
theorem exact_loop (l : T) (g : YGroupS) (far : Nat) (hg : SmG g) (h20 : g.length ≤ 20) (hG : ∀ x ∈ g, groupB x = true) (hf : far ≤ 40) (hl : Sm l) :
    ∀ i, i ≤ g.length → ∀ (G : T) (k : Nat) (pb m : Int) (o : List Hk) (h : List Hk) (pl : List Int), Sm (G ++ l.drop k) → (G ++ l.drop k).length ≤ 40 + 40 * i → k ≤ l.length → pl.length = i → groupsB (k : Int) pb (g.drop i) = true → (∀ x ∈ g, gA x ≤ (l.length : Int)) → ghL l (g.drop i) o m = (h, 0, true) →
      ∃ pl' : List Int, pl'.length = g.length ∧ impl_ApplyNear.l10 (far : Int) (G ++ l.drop k) pl ((G.length : Int) - (k : Int)) g (g.length : Int) (i : Int) = some (if goodB (G ++ gpat l k (g.drop i)) = true then (G ++ gpat l k (g.drop i), pl', 0, true) else ([], [], 2, true)) := by
  apply downTo
  · intro G k pb m o h pl ho h1 hk h2 h3 h4 h5
    refine ⟨pl, h2, ?_⟩
    rw [impl_ApplyNear.l10_eq, bifF (by omega), iGood _ ho, sB, List.drop_eq_nil_of_le (Nat.le_refl _), gpat]
    cases goodB (G ++ l.drop k) <;> rfl
  · intro i hi ih G k pb m o h pl ho h1 hk h2 h3 h4 h5
    have hm := getD_mem hi ((0, 0, []) : YGroup)
    have hx := hG _ hm
    have hin := group_in hx
    have hsm := hg.2 _ hm
    have hA := h4 _ hm
    rw [drop_at hi ((0, 0, []) : YGroup)] at h3 h5 ⊢
    rw [impl_ApplyNear.l10_eq, bifT (by omega), bif2T (by omega) (by omega)]
    simp only [Int.toNat_natCast]
    generalize g.getD i (0, 0, []) = x at hx hin hsm hm hA h3 h5 ⊢
    have ha := good_len (group_sides hx).1
    have hb := good_len (group_sides hx).2
    have hs := group_some hx
    rw [groupsB, Bool.and_eq_true, Bool.and_eq_true] at h3
    obtain ⟨_, g2, g3⟩ := h3
    have g2 := of_decide_eq_true g2
    rw [ghL] at h5
    by_cases c1 : side 3 x.2.2 = (l.take (gA x).toNat).drop x.1.toNat
    case neg => rw [if_pos c1] at h5; cases h5
    rw [if_neg (by simpa using c1)] at h5
    by_cases c2 : x.2.1 = x.1 + m
    case neg => rw [if_pos c2] at h5; cases h5
    rw [if_neg (by simpa using c2)] at h5
    have hgA : gA x = x.1 + ((side 3 x.2.2).length : Int) := rfl
    obtain ⟨a, ea⟩ : ∃ a : Nat, x.1 = (a : Int) := ⟨x.1.toNat, by omega⟩
    rw [ea] at c1 hgA g2
    have e1 : (gA x).toNat = a + (side 3 x.2.2).length := by omega
    rw [e1, Int.toNat_natCast] at c1
    have hlen : (G ++ l.drop k).length = G.length + (l.length - k) := by rw [List.length_append, List.length_drop]
    have hka : k ≤ a := by omega
    have hq : ∀ z : Nat, k ≤ z → (G ++ l.drop k).drop (G.length + (z - k)) = l.drop z := by
      intro z hz
      rw [List.drop_append, List.drop_drop, List.drop_eq_nil_of_le (by omega), List.nil_append]
      congr 1; omega
    have hqt : ∀ z : Nat, k ≤ z → (G ++ l.drop k).take (G.length + (z - k)) = G ++ (l.take z).drop k := by
      intro z hz
      rw [List.take_append, List.take_of_length_le (by omega)]
      congr 1
      rw [List.drop_take]
      congr 1; omega
    have hfit : fitsB (G ++ l.drop k) (side 3 x.2.2) ((G.length + (a - k) : Nat) : Int) = true := by
      unfold fitsB
      refine decide_eq_true ⟨by omega, ?_⟩
      rw [Int.toNat_natCast, show (((G.length + (a - k) : Nat) : Int) + ((side 3 x.2.2).length : Int)).toNat = (G.length + (a - k)) + (side 3 x.2.2).length by omega, ← List.take_drop, hq a hka, List.take_drop]; exact c1.symm
    have hat : x.1 + ((G.length : Int) - (k : Int)) = ((G.length + (a - k) : Nat) : Int) := by omega
    rw [iOld x hsm.1, iNew x hsm.1, sB, sB, w64_id (x := x.1 + ((G.length : Int) - (k : Int))) (by omega) (by omega), hat, near_hit _ _ _ far (by omega) (by omega) (by omega) hf hfit, sB, bifF (by omega)]
    have hw : w64 (((G.length + (a - k) : Nat) : Int) + ((side 3 x.2.2).length : Int)) = ((G.length + (a + (side 3 x.2.2).length - k) : Nat) : Int) := by rw [w64_id (by omega) (by omega)]; omega
    have hw2 : w64 (w64 (w64 (((G.length + (a - k) : Nat) : Int) - x.1) + ((side 2 x.2.2).length : Int)) - ((side 3 x.2.2).length : Int)) = ((G ++ (l.take a).drop k ++ side 2 x.2.2).length : Int) - ((a + (side 3 x.2.2).length : Nat) : Int) := by
      rw [w64_id (x := ((G.length + (a - k) : Nat) : Int) - x.1) (by omega) (by omega), w64_id (x := _ + ((side 2 x.2.2).length : Int)) (by omega) (by omega), w64_id (by omega) (by omega)]
      simp only [List.length_append, List.length_drop, List.length_take]
      omega
    rw [hw, hw2, replaceT (G ++ l.drop k) (side 2 x.2.2) (G.length + (a - k)) (G.length + (a + (side 3 x.2.2).length - k)) (by omega) (by omega) (by omega) (by omega) (by omega), sB, hqt a hka, hq _ (by omega), room8, up1 (by omega), bifT (by simp only [List.length_singleton]; omega)]
    have hnew : (G ++ (l.take a).drop k ++ side 2 x.2.2) ++ l.drop (a + (side 3 x.2.2).length) = (G ++ l.drop k).take (G.length + (a - k)) ++ side 2 x.2.2 ++ (G ++ l.drop k).drop (G.length + (a + (side 3 x.2.2).length - k)) := by
      rw [hqt a hka, hq _ (by omega)]
    obtain ⟨pl', p1, p2⟩ := ih (G ++ (l.take a).drop k ++ side 2 x.2.2) (a + (side 3 x.2.2).length) (gB x) _ _ h (pl ++ [((G.length + (a - k) : Nat) : Int)]) ⟨by
        simp only [List.length_append, List.length_drop, List.length_take]; omega, fun s hs' => by
        rcases List.mem_append.1 hs' with hs' | hs'
        · rcases List.mem_append.1 hs' with hs' | hs'
          · rcases List.mem_append.1 hs' with hs' | hs'
            · exact ho.2 s (List.mem_append_left _ hs')
            · exact hl.2 s (List.mem_of_mem_take (List.mem_of_mem_drop hs'))
          · exact (side_sm 2 hsm).2 s hs'
        · exact hl.2 s (List.mem_of_mem_drop hs')⟩ (by
        simp only [List.length_append, List.length_drop, List.length_take]; rw [hlen] at h1; omega) (by omega) (by rw [List.length_append, h2]; rfl) (by
        rw [show ((a + (side 3 x.2.2).length : Nat) : Int) = gA x by omega]; exact g3) h4 h5
    refine ⟨pl', p1, ?_⟩
    have hg4 : G ++ gpat l k (x :: g.drop (i + 1)) = (G ++ (l.take a).drop k ++ side 2 x.2.2) ++ gpat l (a + (side 3 x.2.2).length) (g.drop (i + 1)) := by
      rw [gpat, e1, ea, Int.toNat_natCast]
      simp only [List.append_assoc]
    rw [hg4, ← p2]
theorem ghL_true (l : T) : ∀ (g : YGroupS) (o : List Hk) (m : Int), (ghL l g o m).2.2 = true
  | [], o, m => rfl
  | x :: r, o, m => by
    rw [ghL]
    split
    · rfl
    · split
      · rfl
      · exact ghL_true l r _ _
def rowsOf (k : Int) (l : T) : YRowS := l.map fun s => (k, s)
theorem rowsOf_len (k : Int) (l : T) : (rowsOf k l).length = l.length := by simp [rowsOf]
theorem sRows (k : Int) (l : T) (h : l.length ≤ 1048576) : spec_l6Rows.f k l = some (rowsOf k l) := by
  have key : ∀ i, i ≤ l.length → ∀ out : YRowS, out.length = i → spec_l6Rows.l6 k out l (l.length : Int) (i : Int) = some (out ++ rowsOf k (l.drop i)) := by
    apply downTo
    · intro out ho
      rw [spec_l6Rows.l6_eq, bifF (by omega), List.drop_eq_nil_of_le (by omega)]; simp [rowsOf]
    · intro i hi ih out ho
      rw [spec_l6Rows.l6_eq, bifT (by omega), bif2T (by omega) (by omega), up1 (by omega), room24]
      simp only [Int.toNat_natCast]
      rw [bifT (by simp only [List.length_singleton]; omega), ih _ (by rw [List.length_append, List.length_singleton, ho]), drop_at hi em]
      simp [rowsOf]
  rw [spec_l6Rows.f_eq]
  exact key 0 (by omega) [] rfl
/-- the rows of hunks, from a place on, up to another one -/
def body (l : T) (e : Nat) : Nat → List Hk → YRowS
  | k, [] => rowsOf 1 ((l.take e).drop k)
  | k, x :: r => ((rowsOf 1 ((l.take x.1.toNat).drop k) ++ rowsOf 2 ((l.take (x.1 + x.2.1).toNat).drop x.1.toNat)) ++ rowsOf 3 x.2.2) ++ body l e (x.1 + x.2.1).toNat r
def lastE (e : Int) : List Hk → Int
  | [] => e
  | x :: r => lastE (x.1 + x.2.1) r
def endG (l : T) (w : Int) (hs : List Hk) : Nat := (min (l.length : Int) (lastE 0 hs + w)).toNat
def fromG (w : Int) : List Hk → Int
  | [] => 0
  | x :: _ => max 0 (x.1 - w)
/-- one group of hunks -/
def oneG (l : T) (w m : Int) (hs : List Hk) : YGroup := (fromG w hs, fromG w hs + m, body l (endG l w hs) (fromG w hs).toNat hs)
theorem hunksB_last : ∀ {h : List Hk} {many pe : Int}, hunksB many pe h = true → pe ≤ many → pe ≤ lastE pe h ∧ lastE pe h ≤ many
  | [], many, pe, _, hm => ⟨Int.le_refl _, hm⟩
  | x :: r, many, pe, h, hm => by
    obtain ⟨h1, h2⟩ := hunksB_cons h
    obtain ⟨⟨q1, q2, q3⟩, q4, q5, q6, _⟩ := oneB_in h1
    have := hunksB_last h2 (by omega)
    simp only [lastE]; omega
theorem lastE_get : ∀ (h : List Hk) (e : Int), h ≠ [] → lastE e h = (h.getD (h.length - 1) (0, 0, [])).1 + (h.getD (h.length - 1) (0, 0, [])).2.1
  | [x], e, _ => rfl
  | x :: y :: r, e, _ => by
    have := lastE_get (y :: r) (x.1 + x.2.1) (by simp)
    rw [lastE, this]
    simp [List.getD]
theorem sOne (l : T) (hl : l.length ≤ 40) (w m : Int) (hw : 0 ≤ w ∧ w ≤ 20) (hm : -10000 ≤ m ∧ m ≤ 10000) (pe : Int) (hs : List Hk) (hn : hs ≠ []) (h20 : hs.length ≤ 20) (hb : hunksB (l.length : Int) pe hs = true) :
    spec_l6One.f l hs w m = some (oneG l w m hs) := by
  obtain ⟨x0, r0, rfl⟩ : ∃ x r, hs = x :: r := by cases hs with
    | nil => exact absurd rfl hn
    | cons x r => exact ⟨x, r, rfl⟩
  obtain ⟨b1, b2⟩ := hunksB_cons hb
  obtain ⟨⟨q1, q2, q3⟩, _, _, q6, _⟩ := oneB_in b1
  have hlast := lastE_get (x0 :: r0) 0 (by simp)
  have hle : 0 ≤ lastE 0 (x0 :: r0) ∧ lastE 0 (x0 :: r0) ≤ (l.length : Int) := by
    have := hunksB_last b2 (by omega)
    simp only [lastE]; omega
  have key : ∀ (rest pre : List Hk) (g : YGroup) (k : Nat) (pe : Int), x0 :: r0 = pre ++ rest → hunksB (l.length : Int) pe rest = true → (k : Int) ≤ lastE 0 (x0 :: r0) → (∀ x ∈ rest.head?, (k : Int) ≤ x.1) → (rest = [] → (k : Int) ≤ endG l w (x0 :: r0)) → g.2.2.length ≤ 120 * pre.length →
      spec_l6One.l12 l w (0, 0, []) ((x0 :: r0).getD ((x0 :: r0).length - 1) (0, 0, [])) g (k : Int) (x0 :: r0) ((x0 :: r0).length : Int) (pre.length : Int) = some (g.1, g.2.1, g.2.2 ++ body l (endG l w (x0 :: r0)) k rest) := by
    intro rest
    induction rest with
    | nil =>
      intro pre g k pe hf _ hk _ hke hg
      have hpl : (x0 :: r0).length = pre.length := by rw [hf]; simp
      have he : ((endG l w (x0 :: r0) : Nat) : Int) = min (l.length : Int) (lastE 0 (x0 :: r0) + w) := by unfold endG; omega
      rw [spec_l6One.l12_eq, bifF (by omega), ← hlast]
      rw [w64_id (x := lastE 0 (x0 :: r0)) (by omega) (by omega), w64_id (by omega) (by omega), sLeast, sB, ← he, bif3T (by omega) (by have := hke rfl; omega) (by omega)]
      simp only [Int.toNat_natCast]
      rw [sRows _ _ (by rw [List.length_drop, List.length_take]; omega), sB, room24, bifT (by rw [rowsOf_len, List.length_drop, List.length_take]; omega)]
      rfl
    | cons x r ih =>
      intro pre g k pe hf hb hk hx hke hg
      obtain ⟨c1, c2⟩ := hunksB_cons hb
      obtain ⟨⟨p1, p2, p3⟩, _, p5, p6, _⟩ := oneB_in c1
      have hkx : (k : Int) ≤ x.1 := hx x (by simp)
      have hpl : (x0 :: r0).length = pre.length + (r.length + 1) := by rw [hf]; simp
      have hg0 : (x0 :: r0).getD pre.length (0, 0, []) = x := by rw [hf]; exact getD_mid pre x r _
      have hxe : x.1 + x.2.1 ≤ lastE 0 (x0 :: r0) := by
        have e : ∀ (a b : List Hk) (e : Int), lastE e (a ++ b) = lastE (lastE e a) b := by
          intro a; induction a with
          | nil => intro b e; rfl
          | cons y a iha => intro b e; exact iha b _
        rw [hf, e]
        exact (hunksB_last c2 p3).1
      rw [spec_l6One.l12_eq, bifT (by omega), bif2T (by omega) (by omega), up1 (by omega), room24]
      simp only [Int.toNat_natCast, hg0]
      rw [bif3T (by omega) hkx (by omega), sRows _ _ (by rw [List.length_drop, List.length_take]; omega), sB, w64_id (x := x.1 + x.2.1) (by omega) (by omega)]
      rw [bifT (by rw [rowsOf_len, List.length_drop, List.length_take]; omega), bif3T p1 (by omega) p3, sRows _ _ (by rw [List.length_drop, List.length_take]; omega), sB]
      rw [bifT (by simp only [List.length_append, rowsOf_len, List.length_drop, List.length_take]; omega), sRows _ _ (by omega), sB]
      rw [bifT (by simp only [List.length_append, rowsOf_len, List.length_drop, List.length_take]; omega)]
      have := ih (pre ++ [x]) (g.1, g.2.1, ((g.2.2 ++ rowsOf 1 ((l.take x.1.toNat).drop k)) ++ rowsOf 2 ((l.take (x.1 + x.2.1).toNat).drop x.1.toNat)) ++ rowsOf 3 x.2.2) (x.1 + x.2.1).toNat (x.1 + x.2.1) (by rw [hf]; simp) c2 (by omega)
        (by
          intro y hy
          cases r with
          | nil => cases hy
          | cons z r =>
            simp only [List.head?_cons, Option.mem_def, Option.some.injEq] at hy
            subst hy
            have := oneB_in (hunksB_cons c2).1
            omega)
        (by
          intro hr
          subst hr
          have : lastE 0 (x0 :: r0) = x.1 + x.2.1 := by
            have e : ∀ (a b : List Hk) (e : Int), lastE e (a ++ b) = lastE (lastE e a) b := by
              intro a; induction a with
              | nil => intro b e; rfl
              | cons y a iha => intro b e; exact iha b _
            rw [hf, e]; rfl
          unfold endG; omega)
        (by simp only [List.length_append, rowsOf_len, List.length_drop, List.length_take, List.length_singleton]; omega)
      rw [Int.toNat_of_nonneg (by omega), List.length_append, List.length_singleton] at this
      rw [this]
      simp only [body, List.append_assoc]
  have hfr : fromG w (x0 :: r0) = max 0 (x0.1 - w) := rfl
  rw [spec_l6One.f_eq, bifT (by simp only [List.length_cons]; omega)]
  have hg0 : (x0 :: r0).getD 0 (0, 0, []) = x0 := rfl
  have hpos : 0 < (x0 :: r0).length := by simp
  have e1 : spec_l1Most.f 0 (x0.1 - w) = some (max 0 (x0.1 - w)) := by
    rw [spec_l1Most.f_eq]
    by_cases h : (0 : Int) > x0.1 - w
    · rw [bifT h]; congr 1; omega
    · rw [bifF h]; congr 1; omega
  rw [hg0, w64_id (by omega) (by omega), e1, sB, dn1 (i := (x0 :: r0).length) hpos (by omega), bif2T (by omega) (by omega)]
  simp only [Int.toNat_natCast]
  rw [w64_id (by omega) (by omega)]
  have hx0 : x0.1 + x0.2.1 ≤ lastE 0 (x0 :: r0) := (hunksB_last b2 q3).1
  have := key (x0 :: r0) [] (max 0 (x0.1 - w), max 0 (x0.1 - w) + m, []) (max 0 (x0.1 - w)).toNat pe rfl hb
    (by omega) (by intro y hy; simp only [List.head?_cons, Option.mem_def, Option.some.injEq] at hy; subst hy; omega) (by simp) (by simp)
  rw [Int.toNat_of_nonneg (by omega)] at this
  simp only [List.length_nil, List.nil_append] at this
  exact this
/-- how many hunks more stand near -/
def near (w : Int) : Int → List Hk → Nat
  | _, [] => 0
  | e, y :: r => if y.1 - e ≤ 2 * w then near w (y.1 + y.2.1) r + 1 else 0
def delta : List Hk → Int
  | [] => 0
  | x :: r => ((x.2.2.length : Int) - x.2.1) + delta r
theorem near_le (w : Int) : ∀ (r : List Hk) (e : Int), near w e r ≤ r.length
  | [], _ => Nat.le_refl _
  | y :: r, e => by
    have := near_le w r (y.1 + y.2.1)
    unfold near
    split
    · rw [List.length_cons]; omega
    · omega
/-- the groups -/
def grp (l : T) (w : Int) : Nat → Int → List Hk → YGroupS
  | 0, _, _ => []
  | _ + 1, _, [] => []
  | n + 1, m, x :: r => oneG l w m (x :: r.take (near w (x.1 + x.2.1) r)) :: grp l w n (m + delta (x :: r.take (near w (x.1 + x.2.1) r))) (r.drop (near w (x.1 + x.2.1) r))
theorem hunksB_split : ∀ {a b : List Hk} {many pe : Int}, hunksB many pe (a ++ b) = true → hunksB many pe a = true ∧ hunksB many (lastE pe a) b = true
  | [], b, many, pe, h => ⟨rfl, h⟩
  | x :: a, b, many, pe, h => by
    obtain ⟨h1, h2⟩ := hunksB_cons (x := x) (r := a ++ b) h
    obtain ⟨h3, h4⟩ := hunksB_split h2
    refine ⟨?_, h4⟩
    show (oneB many pe x && hunksB many (x.1 + x.2.1) a) = true
    rw [h1, h3]; rfl
theorem hunksB_mem : ∀ {h : List Hk} {many pe : Int}, hunksB many pe h = true → ∀ x ∈ h, 0 ≤ x.1 ∧ 0 ≤ x.2.1 ∧ x.1 + x.2.1 ≤ many ∧ x.2.2.length ≤ 40 ∧ allLines x.2.2 = true
  | y :: r, many, pe, h, x, hx => by
    obtain ⟨h1, h2⟩ := hunksB_cons h
    obtain ⟨⟨q1, q2, q3⟩, q4, q5, q6, q7⟩ := oneB_in h1
    rcases List.mem_cons.1 hx with rfl | hx
    · exact ⟨q1, q2, q3, q5, q7⟩
    · exact hunksB_mem h2 x hx
theorem delta_le : ∀ {h : List Hk}, (∀ x ∈ h, 0 ≤ x.2.1 ∧ x.2.1 ≤ 40 ∧ x.2.2.length ≤ 40) → -(40 * (h.length : Int)) ≤ delta h ∧ delta h ≤ 40 * (h.length : Int)
  | [], _ => by simp [delta]
  | x :: r, hb => by
    have h1 := hb x (by simp)
    have h2 := delta_le (h := r) fun y hy => hb y (by simp [hy])
    simp only [delta, List.length_cons]; omega
section
variable (l : T) (hl : l.length ≤ 40) (w : Int) (hw : 0 ≤ w ∧ w ≤ 20) (h : List Hk) (h20 : h.length ≤ 20) (hb : hunksB (l.length : Int) (-1) h = true)
include hl hw h20 hb
theorem sG12 (out : YGroupS) (m : Int) (pre : List Hk) : ∀ (s c : List Hk) (y : Hk), h = (pre ++ c) ++ y :: s →
    spec_l6Groups.l12 l h w out m (pre.length : Int) (((pre ++ c).length + 1 : Nat) : Int) = spec_l6Groups.l17 l h w out m (pre.length : Int) (((pre ++ c).length + 1 + near w (y.1 + y.2.1) s : Nat) : Int) := by
  intro s
  induction s with
  | nil =>
    intro c y hf
    have hlen : h.length = (pre ++ c).length + 1 := by rw [hf, List.length_append, List.length_singleton]
    rw [spec_l6Groups.l12_eq, bifF (by omega)]; rfl
  | cons z s ih =>
    intro c y hf
    have hlen : h.length = (pre ++ c).length + 1 + (s.length + 1) := by rw [hf, List.length_append, List.length_cons, List.length_cons]; omega
    have hy : h.getD (pre ++ c).length (0, 0, []) = y := by rw [hf]; exact getD_mid _ _ _ _
    have hz : h.getD ((pre ++ c).length + 1) (0, 0, []) = z := by
      have e : h = ((pre ++ c) ++ [y]) ++ z :: s := by rw [hf]; simp
      have e2 : (pre ++ c).length + 1 = ((pre ++ c) ++ [y]).length := by simp only [List.length_append, List.length_singleton]
      rw [e2, e]; exact getD_mid _ _ _ _
    have my := hunksB_mem hb y (by rw [hf]; simp)
    have mz := hunksB_mem hb z (by rw [hf]; simp)
    rw [spec_l6Groups.l12_eq, bifT (by omega), bif2T (by omega) (by omega), dn1 (by omega) (by omega), bif2T (by omega) (by omega), bif2T (by omega) (by omega), up1 (by omega)]
    simp only [Int.toNat_natCast, Nat.add_sub_cancel, hy, hz]
    rw [w64_id (x := y.1 + y.2.1) (by omega) (by omega), w64_id (x := z.1 - (y.1 + y.2.1)) (by omega) (by omega), w64_id (x := 2 * w) (by omega) (by omega)]
    by_cases c1 : z.1 - (y.1 + y.2.1) ≤ 2 * w
    · rw [bifT c1]
      have := ih (c ++ [y]) z (by rw [hf]; simp)
      have e2 : (pre ++ (c ++ [y])).length = (pre ++ c).length + 1 := by simp; omega
      rw [e2] at this
      rw [this, near, if_pos c1]
      congr 1 <;> omega
    · rw [bifF c1, near, if_neg c1]
theorem sG20 (out : YGroupS) (j : Nat) (c : List Hk) (hc : ∀ x ∈ c, 0 ≤ x.2.1 ∧ x.2.1 ≤ 40 ∧ x.2.2.length ≤ 40) (hcl : c.length ≤ 20) : ∀ (rest pre : List Hk) (m : Int), c = pre ++ rest → -10000 ≤ m - 40 * (rest.length : Int) → m + 40 * (rest.length : Int) ≤ 10000 →
    spec_l6Groups.l20 l h w out m (j : Int) c (c.length : Int) (pre.length : Int) = spec_l6Groups.l8 l h w out (m + delta rest) (j : Int) := by
  intro rest
  induction rest with
  | nil =>
    intro pre m hf _ _
    have : c.length = pre.length := by rw [hf]; simp
    rw [spec_l6Groups.l20_eq, bifF (by omega)]
    congr 1; simp [delta]
  | cons x r ih =>
    intro pre m hf h1 h2
    have hlen : c.length = pre.length + (r.length + 1) := by rw [hf]; simp
    have hg : c.getD pre.length (0, 0, []) = x := by rw [hf]; exact getD_mid _ _ _ _
    have hx := hc x (by rw [hf]; simp)
    rw [List.length_cons] at h1 h2
    rw [spec_l6Groups.l20_eq, bifT (by omega), bif2T (by omega) (by omega), up1 (by omega)]
    simp only [Int.toNat_natCast, hg]
    rw [w64_id (x := (x.2.2.length : Int) - x.2.1) (by omega) (by omega), w64_id (by omega) (by omega)]
    have := ih (pre ++ [x]) (m + ((x.2.2.length : Int) - x.2.1)) (by rw [hf]; simp) (by omega) (by omega)
    rw [List.length_append, List.length_singleton] at this
    rw [this]
    congr 1; simp only [delta]; omega
theorem sG8 : ∀ (n : Nat) (rest pre : List Hk) (out : YGroupS) (m : Int), rest.length ≤ n → h = pre ++ rest → out.length ≤ pre.length → -(40 * (pre.length : Int)) ≤ m ∧ m ≤ 40 * (pre.length : Int) →
    spec_l6Groups.l8 l h w out m (pre.length : Int) = some (out ++ grp l w n m rest) := by
  intro n
  induction n with
  | zero =>
    intro rest pre out m hn hf ho hm
    have hr : rest = [] := List.length_eq_zero_iff.1 (by omega)
    have : h.length = pre.length := by rw [hf, hr]; simp
    rw [spec_l6Groups.l8_eq, bifF (by omega)]; simp [grp]
  | succ n ih =>
    intro rest pre out m hn hf ho hm
    cases rest with
    | nil =>
      have : h.length = pre.length := by rw [hf]; simp
      rw [spec_l6Groups.l8_eq, bifF (by omega)]; simp [grp]
    | cons x r =>
      have hlen : h.length = pre.length + (r.length + 1) := by rw [hf]; simp
      have hK := near_le w r (x.1 + x.2.1)
      have h12 := sG12 l hl w hw h h20 hb out m pre r [] x (by rw [hf]; simp)
      rw [List.append_nil] at h12
      rw [spec_l6Groups.l8_eq, bifT (by omega), up1 (by omega), h12]
      unfold grp
      generalize near w (x.1 + x.2.1) r = K at hK
      have hchunk : ((h.take (pre.length + 1 + K)).drop pre.length) = x :: r.take K := by
        have e : h = (pre ++ (x :: r.take K)) ++ r.drop K := by rw [hf, List.append_assoc, List.cons_append, List.take_append_drop]
        have e3 : (pre ++ (x :: r.take K)).length = pre.length + 1 + K := by rw [List.length_append, List.length_cons, List.length_take]; omega
        rw [e, List.take_left' e3, List.drop_left' rfl]
      have hall := hunksB_mem hb
      have hsub : ∀ y ∈ x :: r.take K, y ∈ h := fun y hy => by
        rw [hf]
        rcases List.mem_cons.1 hy with rfl | hy
        · simp
        · have := List.mem_of_mem_take hy; simp [this]
      have hcb : ∃ pe, hunksB (l.length : Int) pe (x :: r.take K) = true := by
        have e : h = pre ++ ((x :: r.take K) ++ r.drop K) := by rw [hf, List.cons_append, List.take_append_drop]
        rw [e] at hb
        exact ⟨_, (hunksB_split (hunksB_split hb).2).1⟩
      obtain ⟨pe, hcb⟩ := hcb
      have hcl : (x :: r.take K).length = K + 1 := by rw [List.length_cons, List.length_take]; omega
      have hone := sOne l hl w m hw (by omega) pe (x :: r.take K) (by simp) (by omega) hcb
      have hcd : ∀ y ∈ x :: r.take K, 0 ≤ y.2.1 ∧ y.2.1 ≤ 40 ∧ y.2.2.length ≤ 40 := fun y hy => by
        have := hall y (hsub y hy); omega
      have hdl := delta_le hcd
      rw [spec_l6Groups.l17_eq, bif3T (by omega) (by omega) (by omega)]
      simp only [Int.toNat_natCast]
      rw [hchunk, hone, sB, room40, bifT (by simp only [List.length_singleton]; omega), bif3T (by omega) (by omega) (by omega)]
      have h20' := sG20 l hl w hw h h20 hb (out ++ [oneG l w m (x :: r.take K)]) (pre.length + 1 + K) (x :: r.take K) hcd (by omega) (x :: r.take K) [] m rfl (by omega) (by omega)
      have hnx := ih (r.drop K) (pre ++ (x :: r.take K)) (out ++ [oneG l w m (x :: r.take K)]) (m + delta (x :: r.take K)) (by rw [List.length_drop]; rw [List.length_cons] at hn; omega) (by rw [hf, List.append_assoc, List.cons_append, List.take_append_drop]) (by rw [List.length_append, List.length_append, List.length_singleton]; omega) (by rw [List.length_append]; omega)
      rw [List.length_append, hcl, show pre.length + (K + 1) = pre.length + 1 + K by omega] at hnx
      refine (h20'.trans hnx).trans ?_
      rw [List.append_assoc]; rfl
end
theorem sGroupsOf (l : T) (h : List Hk) (w : Int) (hl : Sm l) (hh : HkSm h) : spec_GroupsOf.f l h w = some (if (patchB l h).2 = true ∧ 0 ≤ w ∧ w ≤ 20 then (grp l w h.length 0 h, true) else ([], false)) := by
  rw [spec_GroupsOf.f_eq, sPatch l h hl hh, sB]
  cases hp : (patchB l h).2 with
  | false => rw [notF, if_neg (fun h => by cases h.1)]
  | true =>
    obtain ⟨g1, g2, g3, g4⟩ := patchB_ok hp
    have g2' := g2
    unfold hunksG at g2'
    simp only [Bool.and_eq_true, decide_eq_true_eq] at g2'
    rw [notT, sIn, sB]
    by_cases hw : 0 ≤ w ∧ w ≤ 20
    · rw [bifNF hw, spec_l6Groups.f_eq, if_pos ⟨rfl, hw⟩]
      have := sG8 l (good_len g1) w hw h g2'.2.1 g2'.1 h.length h [] [] 0 (Nat.le_refl _) rfl (by simp) (by simp)
      exact bindEq this rfl
    · rw [bifNT hw, if_neg (fun h => hw h.2)]
/-- a group that is drawn -/
def DGm (M : Nat) (x : YGroup) : Prop := 1 ≤ x.2.2.length ∧ x.2.2.length ≤ M ∧ ∀ r ∈ x.2.2, r.2.size ≤ 100
def DG (x : YGroup) : Prop := 1 ≤ x.2.2.length ∧ x.2.2.length ≤ 3000 ∧ ∀ r ∈ x.2.2, r.2.size ≤ 100
theorem DGm.dg {M : Nat} {x : YGroup} (h : DGm M x) (hM : M ≤ 3000) : DG x := ⟨h.1, Nat.le_trans h.2.1 hM, h.2.2⟩
/-- so many rows -/
theorem body_len2 (l : T) (e : Nat) (he : e ≤ l.length) (V : Nat) : ∀ (r : List Hk) (k : Nat) (pe : Int), hunksB (l.length : Int) pe r = true → (∀ x r', r = x :: r' → (k : Int) ≤ x.1) → (∀ x ∈ r, x.2.2.length ≤ V) → (body l e k r).length ≤ (l.length - k) + V * r.length
  | [], k, pe, _, _, _ => by rw [body, rowsOf_len, List.length_drop, List.length_take]; omega
  | x :: r, k, pe, h, hk, hV => by
    obtain ⟨h1, h2⟩ := hunksB_cons h
    obtain ⟨⟨q1, q2, q3⟩, q4, q5, q6, q7⟩ := oneB_in h1
    have hk' := hk x r rfl
    have hx := hV x (by simp)
    have := body_len2 l e he V r (x.1 + x.2.1).toNat _ h2 (fun y r' e' => by
      subst e'
      have := (oneB_in (hunksB_cons h2).1).2.2.2.1
      omega) (fun y hy => hV y (by simp [hy]))
    rw [body, List.length_cons, Nat.mul_succ]
    simp only [List.length_append, rowsOf_len, List.length_drop, List.length_take]
    omega
theorem body_mem (l : T) (e : Nat) : ∀ (h : List Hk) (k : Nat), ∀ r ∈ body l e k h, r.2 ∈ l ∨ ∃ x ∈ h, r.2 ∈ x.2.2
  | [], k, r, hr => by
    simp only [body, rowsOf, List.mem_map] at hr
    obtain ⟨s, hs, rfl⟩ := hr
    exact .inl (List.mem_of_mem_take (List.mem_of_mem_drop hs))
  | x :: h, k, r, hr => by
    simp only [body, List.mem_append] at hr
    rcases hr with ((hr | hr) | hr) | hr
    · simp only [rowsOf, List.mem_map] at hr
      obtain ⟨s, hs, rfl⟩ := hr
      exact .inl (List.mem_of_mem_take (List.mem_of_mem_drop hs))
    · simp only [rowsOf, List.mem_map] at hr
      obtain ⟨s, hs, rfl⟩ := hr
      exact .inl (List.mem_of_mem_take (List.mem_of_mem_drop hs))
    · simp only [rowsOf, List.mem_map] at hr
      obtain ⟨s, hs, rfl⟩ := hr
      exact .inr ⟨x, by simp, hs⟩
    · rcases body_mem l e h _ r hr with h1 | ⟨y, hy, h1⟩
      · exact .inl h1
      · exact .inr ⟨y, by simp [hy], h1⟩
theorem grp_DGm (V N M : Nat) (l : T) (w : Int) (hw : 0 ≤ w) (hM : l.length + V * N ≤ M) (hs : ∀ s ∈ l, s.size ≤ 100) : ∀ (n : Nat) (h : List Hk) (m pe : Int), hunksB (l.length : Int) pe h = true → pe ≤ (l.length : Int) → h.length ≤ N → (∀ x ∈ h, x.2.2.length ≤ V) → (∀ x ∈ h, ∀ s ∈ x.2.2, s.size ≤ 100) → (grp l w n m h).length ≤ h.length ∧ ∀ x ∈ grp l w n m h, DGm M x
  | 0, h, m, pe, _, _, _, _, _ => ⟨Nat.zero_le _, fun x hx => by cases hx⟩
  | n + 1, [], m, pe, _, _, _, _, _ => ⟨Nat.zero_le _, fun x hx => by cases hx⟩
  | n + 1, x :: r, m, pe, hb, hpe, h20, hv, hz => by
    have hK := near_le w r (x.1 + x.2.1)
    unfold grp
    generalize near w (x.1 + x.2.1) r = K at hK
    have e : x :: r = (x :: r.take K) ++ r.drop K := by rw [List.cons_append, List.take_append_drop]
    have hb2 := hb
    rw [e] at hb2
    obtain ⟨q1, q2⟩ := hunksB_split hb2
    obtain ⟨p1, p2⟩ := hunksB_cons q1
    obtain ⟨⟨o1, o2, o3⟩, o4, o5, _, _⟩ := oneB_in p1
    have hle := (hunksB_last q1 hpe).2
    have hfr : fromG w (x :: r.take K) = max 0 (x.1 - w) := rfl
    have hen : endG l w (x :: r.take K) ≤ l.length := by unfold endG; omega
    have hlen := body_len2 l (endG l w (x :: r.take K)) hen V (x :: r.take K) (fromG w (x :: r.take K)).toNat pe q1 (fun y r' e' => by
      injection e' with e1 _
      subst e1
      omega) (fun y hy => hv y (by rw [e]; exact List.mem_append_left _ hy))
    have hcl : (x :: r.take K).length ≤ N := by rw [List.length_cons, List.length_take]; rw [List.length_cons] at h20; omega
    obtain ⟨i1, i2⟩ := grp_DGm V N M l w hw hM hs n (r.drop K) (m + delta (x :: r.take K)) _ q2 hle (by rw [List.length_drop]; rw [List.length_cons] at h20; omega) (fun y hy => hv y (by have := List.mem_of_mem_drop hy; simp [this])) (fun y hy s hs' => hz y (by have := List.mem_of_mem_drop hy; simp [this]) s hs')
    refine ⟨by rw [List.length_cons, List.length_cons]; rw [List.length_drop] at i1; omega, fun y hy => ?_⟩
    rcases List.mem_cons.1 hy with rfl | hy
    · refine ⟨?_, ?_, fun s hs' => ?_⟩
      · show 1 ≤ (body l _ _ (x :: r.take K)).length
        simp only [body, List.length_append, rowsOf_len, List.length_drop, List.length_take]
        omega
      · show (body l _ _ (x :: r.take K)).length ≤ M
        have h3 := Nat.mul_le_mul_left V hcl
        omega
      · rcases body_mem l _ (x :: r.take K) _ s hs' with h1 | ⟨y, hy, h1⟩
        · exact hs _ h1
        · refine hz y ?_ _ h1
          rcases List.mem_cons.1 hy with rfl | hy
          · simp
          · have := List.mem_of_mem_take hy; simp [this]
    · exact i2 y hy
theorem DG_sm {g : YGroupS} (h1 : g.length ≤ 100) (h2 : ∀ x ∈ g, DG x) : SmG g :=
  ⟨by omega, fun x hx => ⟨by have := (h2 x hx).2.1; omega, fun r hr => by have := (h2 x hx).2.2 r hr; omega⟩⟩
theorem groups_okm {n : Nat} {c : Cu} (h : Cok (n + 40000) c) : ∃ (l : T) (g : YGroupS) (c' : Cu), spec_l1Cur_groups.f c = some (l, g, c') ∧ TB 12 10 l ∧ g.length ≤ 6 ∧ (∀ x ∈ g, DGm 38 x) ∧ Cok n c' := by
  rw [spec_l1Cur_groups.f_eq]
  obtain ⟨l, c1, e1, hl, k1⟩ := text_ok (n := n + 39000) (h.le (by omega))
  have hl1 := hl.1
  rw [e1, sB]
  simp only
  obtain ⟨hk, c2, e2, hk1, hk2, k2⟩ := hunks_ok (n := n + 5000) (k1.le (by omega)) l (by omega) (hl.last (by omega))
  rw [e2, sB]
  simp only
  obtain ⟨w, c3, e3, hw, k3⟩ := among_ok (n := n + 4000) (k2.le (by omega)) [0, 1, 2, 3] (by decide)
  have hsm : HkSm hk := ⟨by omega, fun x hx => by obtain ⟨_, _, _, _, _, q⟩ := hk2 x hx; exact q.sm (by omega) (by omega)⟩
  rw [e3, sB, sGroupsOf l hk w (hl.sm (by omega) (by omega)) hsm, sB]
  simp only
  -- the groups
  obtain ⟨g, hg, hg1, hg2⟩ : ∃ g : YGroupS, (if (patchB l hk).2 = true ∧ 0 ≤ w ∧ w ≤ 20 then (grp l w hk.length 0 hk, true) else ([], false) : YGroupS × Bool).1 = g ∧ g.length ≤ 6 ∧ ∀ x ∈ g, DGm 38 x := by
    refine ⟨_, rfl, ?_⟩
    split
    · rename_i hc
      obtain ⟨g1, g2, _, _⟩ := patchB_ok hc.1
      unfold hunksG at g2
      simp only [Bool.and_eq_true, decide_eq_true_eq] at g2
      have := grp_DGm 2 6 38 l w hc.2.1 (by omega) (fun s hs => by have := (hl.2 s hs).2; omega) hk.length hk 0 (-1) g2.1 (by omega) hk1 (fun x hx => by obtain ⟨_, _, _, _, _, q⟩ := hk2 x hx; exact q.1) (fun x hx s hs => by obtain ⟨_, _, _, _, _, q⟩ := hk2 x hx; have := (q.2 s hs).2; omega)
      exact ⟨Nat.le_trans this.1 hk1, this.2⟩
    · exact ⟨by simp, fun x hx => by cases hx⟩
  rw [hg]
  have fin : ∀ (c : Cu) (g : YGroupS), Cok (n + 1000) c → g.length ≤ 6 → (∀ x ∈ g, DGm 38 x) → ∃ (l' : T) (g' : YGroupS) (c' : Cu), spec_l1Cur_groups.l35 c l g = some (l', g', c') ∧ TB 12 10 l' ∧ g'.length ≤ 6 ∧ (∀ x ∈ g', DGm 38 x) ∧ Cok n c' := by
    intro c g hc h1 h2
    rw [spec_l1Cur_groups.l35_eq]
    obtain ⟨b, c4, e4, k4⟩ := one_ok (n := n + 900) (hc.le (by omega)) 4
    rw [e4, sB]
    simp only
    cases b with
    | false => exact ⟨l, g, c4, rfl, hl.le (by omega) (by omega), h1, h2, k4.le (by omega)⟩
    | true =>
      obtain ⟨o, c5, e5, ho, k5⟩ := other_ok (n := n) (k4.le (by omega)) l 9 9 hl (by omega) (by omega) (by omega)
      rw [cond_true, e5, sB]; exact ⟨o, g, c5, rfl, ho.le (by omega) (by omega), h1, h2, k5⟩
  by_cases h0 : (g.length : Int) > 0
  case neg => rw [bifF h0]; exact fin _ g (k3.le (by omega)) hg1 hg2
  rw [bifT h0]
  obtain ⟨k, c4, e4, x0, x1, _, k4⟩ := pick_ok (n := n + 3000) (k3.le (by omega)) (g.length : Int)
  have x1 := x1 (by omega)
  rw [e4, sB]
  simp only
  rw [bif2T x0 x1]
  have hgk := hg2 _ (getD_mem (l := g) (i := k.toNat) (by omega) (0, 0, []))
  obtain ⟨d1, d2, d3⟩ := hgk
  obtain ⟨i, c5, e5, i0, i1, _, k5⟩ := pick_ok (n := n + 2500) (k4.le (by omega)) ((g.getD k.toNat (0, 0, [])).2.2.length : Int)
  have i1 := i1 (by omega)
  rw [e5, sB]
  simp only
  obtain ⟨u, c6, e6, _, _, _, k6⟩ := pick_ok (n := n + 2000) (k5.le (by omega)) 15
  rw [e6, sB]
  simp only
  have hset : ∀ y : YGroup, DGm 38 y → (g.set k.toNat y).length ≤ 6 ∧ ∀ x ∈ g.set k.toNat y, DGm 38 x := fun y hy =>
    ⟨by rw [List.length_set]; exact hg1, fun x hx => (List.mem_or_eq_of_mem_set hx).elim (hg2 x) fun e => by subst e; exact hy⟩
  have k6' := k6.le (m := n + 1000) (by omega)
  have keep : ∀ a b : Int, DGm 38 (a, b, (g.getD k.toNat (0, 0, [])).2.2) := fun a b => ⟨d1, d2, d3⟩
  have keep2 : ∀ a : Int, DGm 38 (a, (g.getD k.toNat (0, 0, [])).2) := fun a => ⟨d1, d2, d3⟩
  have rset : ∀ (a b : Int) (y : YRow), y.2.size ≤ 100 → DGm 38 (a, b, (g.getD k.toNat (0, 0, [])).2.2.set i.toNat y) := fun a b y hy =>
    ⟨by show 1 ≤ (List.set _ _ _).length; rw [List.length_set]; exact d1, by show (List.set _ _ _).length ≤ 38; rw [List.length_set]; exact d2, fun r hr => (List.mem_or_eq_of_mem_set hr).elim (d3 r) fun e => by subst e; exact hy⟩
  by_cases u0 : u = 0
  · rw [bifT u0, bif2T x0 x1, bif2T x0 x1]
    have q := hset _ (keep2 (w64 ((g.getD k.toNat (0, 0, [])).1 + 1)))
    exact fin _ _ k6' q.1 q.2
  rw [bifF u0]
  by_cases u1 : u = 1
  · rw [bifT u1, bif2T x0 x1, bif2T x0 x1]
    have q := hset _ (keep (g.getD k.toNat (0, 0, [])).1 (w64 ((g.getD k.toNat (0, 0, [])).2.1 + 1)))
    exact fin _ _ k6' q.1 q.2
  rw [bifF u1]
  by_cases u2 : u = 2
  · rw [bifT u2, bif2T x0 x1]
    obtain ⟨v, c7, e7, _, _, _, k7⟩ := pick_ok (n := n + 1000) (k6.le (by omega)) 5
    rw [e7, sB]
    simp only
    rw [bif2T i0 i1]
    have hr := d3 _ (getD_mem (l := (g.getD k.toNat (0, 0, [])).2.2) (i := i.toNat) (by omega) (0, em))
    have q := hset _ (rset (g.getD k.toNat (0, 0, [])).1 (g.getD k.toNat (0, 0, [])).2.1 (v, ((g.getD k.toNat (0, 0, [])).2.2.getD i.toNat (0, em)).2) hr)
    exact fin _ _ k7 q.1 q.2
  rw [bifF u2]
  by_cases u3 : u = 3
  · rw [bifT u3, bif2T x0 x1]
    obtain ⟨v, c7, e7, hv, k7⟩ := of_ok (n := n + 1000) (k6.le (by omega)) [em, (⟨#[122, 10]⟩ : ByteArray), (⟨#[122]⟩ : ByteArray)] (by decide)
    rw [e7, sB]
    simp only
    rw [bif2T i0 i1]
    have hv2 : v.size ≤ 100 := by
      simp only [List.mem_cons, List.not_mem_nil, or_false] at hv
      rcases hv with h | h | h <;> (subst h; decide)
    have q := hset _ (rset (g.getD k.toNat (0, 0, [])).1 (g.getD k.toNat (0, 0, [])).2.1 (((g.getD k.toNat (0, 0, [])).2.2.getD i.toNat (0, em)).1, v) hv2)
    exact fin _ _ k7 q.1 q.2
  rw [bifF u3]
  by_cases u4 : u = 4
  · rw [bifT u4, bif2T x0 x1, bif2T x0 x1]
    have q := hset _ (keep2 (w64 ((g.getD k.toNat (0, 0, [])).1 + 30)))
    exact fin _ _ k6' q.1 q.2
  rw [bifF u4]
  exact fin _ _ k6' hg1 hg2
theorem groups_ok {n : Nat} {c : Cu} (h : Cok (n + 40000) c) : ∃ (l : T) (g : YGroupS) (c' : Cu), spec_l1Cur_groups.f c = some (l, g, c') ∧ TB 12 10 l ∧ g.length ≤ 6 ∧ (∀ x ∈ g, DG x) ∧ Cok n c' := by
  obtain ⟨l, g, c', e, h1, h2, h3, h4⟩ := groups_okm h
  exact ⟨l, g, c', e, h1, h2, fun x hx => (h3 x hx).dg (by omega), h4⟩
theorem drawGroups {code : List Int} (h : Cok 1000000000 (code, 0, 0)) : ∃ g : YGroupS, spec_DrawGoodGroups.f code = some g ∧ g.length ≤ 6 ∧ ∀ x ∈ g, DG x := by
  obtain ⟨l, g, c, e, _, h1, h2, _⟩ := groups_ok (n := 900000000) (h.le (by omega))
  rw [spec_DrawGoodGroups.f_eq, e, sB]
  exact ⟨g, rfl, h1, h2⟩
theorem drawOldOf {code : List Int} (h : Cok 1000000000 (code, 0, 0)) : ∃ g : YGroup, spec_DrawOldOf.f code = some g ∧ DG g := by
  obtain ⟨g, e, h1, h2⟩ := drawGroups h
  rw [spec_DrawOldOf.f_eq, e, sB]
  by_cases h0 : (g.length : Int) = 0
  · rw [bifT h0]; exact ⟨_, rfl, by decide, by decide, fun r hr => by rw [List.mem_singleton] at hr; subst hr; decide⟩
  · rw [bifF h0, bifT (by omega)]; exact ⟨_, rfl, h2 _ (getD_mem (by omega) _)⟩
/-- bytes that came in -/
theorem cok_of {code : List Int} (g : Bd (.list (.int .u8)) code) (h : code.length ≤ 1048576) : Cok 1000000000 (code, 0, 0) := by
  refine ⟨h, fun x hx => ?_, Int.le_refl _, by show (0 : Int) + _ ≤ _; omega⟩
  have := g.2 x hx
  have h2 : (decide (IntKind.u8.min ≤ x) && decide (x ≤ IntKind.u8.max)) = true := this
  rw [Bool.and_eq_true, decide_eq_true_eq, decide_eq_true_eq] at h2
  exact h2
theorem big_ok {code more : List Int} (h1 : code.length ≤ 140737488351232) (h2 : more.length ≤ 140737488351232) : ∃ b : Bool, laws_big.f code more = some b ∧ (b = false → code.length ≤ 1048576 ∧ more.length ≤ 1048576) := by
  rw [laws_big.f_eq]
  by_cases h : (code.length : Int) > 1048576
  · rw [bifT h]; exact ⟨true, rfl, fun h => by cases h⟩
  · rw [bifF h, w64_id (by omega) (by omega)]
    refine ⟨_, rfl, fun k => ?_⟩
    rw [decide_eq_false_iff_not] at k
    omega
theorem apply_exact (l : T) (g : YGroupS) (far : Int) (hl : Sm l) (hg : SmG g) (hf : 0 ≤ far ∧ far ≤ 40) (h1 : (apB l g).2.2 = true) (h2 : (apB l g).2.1 = 0) :
    ∃ pl : List Int, pl.length = g.length ∧ impl_ApplyNear.f l g far = some ((apB l g).1, pl, 0, true) := by
  obtain ⟨q1, q2, q3, q4, q5, q6⟩ := apB_ok h1 h2
  obtain ⟨_, _, p3, p4⟩ := patchB_ok q5
  have hA := farG_in q3
  have h20 := gs_len q2
  have hgb : groupsB 0 0 g = true := by
    unfold gsB at q2
    rw [Bool.and_eq_true] at q2
    exact q2.1
  have e := ghL_pat l g [] 0 0 0 _ hgb hA (Nat.le_refl _) q4
  have e2 : pat l 0 (ghB l g).1 = gpat l 0 g := by
    rw [e]
    show ([] : T) ++ (l.take 0).drop _ ++ _ = _
    simp
  obtain ⟨k, rfl⟩ : ∃ k : Nat, far = (k : Int) := ⟨far.toNat, by omega⟩
  obtain ⟨pl, r1, r2⟩ := exact_loop l g k hg h20 (gs_in q2) (by omega) hl 0 (by omega) [] 0 0 0 [] _ [] (by simpa using hl) (by have := good_len q1; simp; omega) (by omega) rfl (by simpa using hgb) hA (by simpa using q4)
  refine ⟨pl, r1, ?_⟩
  rw [impl_ApplyNear.f_eq, iGood l hl, sB, q1, notT, iGroups g hg, sB, q2, notT, iFar, sB, bifNF hf, impl_ApplyNear.l7_eq, cloneT l hl.1, sB]
  have r2' : impl_ApplyNear.l10 (k : Int) l [] 0 g (g.length : Int) 0 = some (if goodB (gpat l 0 g) = true then (gpat l 0 g, pl, 0, true) else ([], [], 2, true)) := by simpa using r2
  rw [r2', ← e2, if_pos p3, q6, p4]
/-- how far off -/
def dst (a b : Int) : Nat := (a - b).natAbs
theorem near_least (l part : T) (a : Int) (far : Nat) (hl : l.length ≤ 1048576) (hp : part.length ≤ 1048576) (ha : -1000000000 ≤ a ∧ a ≤ 1000000000) (hf : far ≤ 40) :
    ∃ r : Int, impl_near.f l part a (far : Int) = some r ∧ (r < 0 ∨ fitsB l part r = true ∧ dst r a ≤ far ∧ ∀ k, fitsB l part k = true → dst r a ≤ dst k a) := by
  rw [impl_near.f_eq, up1 (by omega)]
  have key : ∀ i, i ≤ far + 1 → (∀ k, dst k a < i → fitsB l part k = false) → ∃ r : Int, impl_near.l4 l part a ((far + 1 : Nat) : Int) (i : Int) = some r ∧ (r < 0 ∨ fitsB l part r = true ∧ dst r a ≤ far ∧ ∀ k, fitsB l part k = true → dst r a ≤ dst k a) := by
    apply downTo
    · intro hno
      rw [impl_near.l4_eq, bifF (by omega)]
      exact ⟨-1, rfl, .inl (by omega)⟩
    · intro i hi ih hno
      have least : ∀ r : Int, dst r a = i → fitsB l part r = true → ∀ k, fitsB l part k = true → dst r a ≤ dst k a := by
        intro r hr _ k hk
        rcases Nat.lt_or_ge (dst k a) i with h | h
        · rw [hno k h] at hk; cases hk
        · omega
      rw [impl_near.l4_eq, bifT (by omega), w64_id (x := a - (i : Int)) (by omega) (by omega), w64_id (x := a + (i : Int)) (by omega) (by omega), up1 (by omega), iStands l part _ hl hp, iStands l part _ hl hp]
      simp only [sB]
      cases h1 : fitsB l part (a - (i : Int)) with
      | true =>
        have hd : dst (a - (i : Int)) a = i := by unfold dst; omega
        exact ⟨_, rfl, .inr ⟨h1, by omega, least _ hd h1⟩⟩
      | false =>
        cases h2 : fitsB l part (a + (i : Int)) with
        | true =>
          have hd : dst (a + (i : Int)) a = i := by unfold dst; omega
          exact ⟨_, rfl, .inr ⟨h2, by omega, least _ hd h2⟩⟩
        | false =>
          refine ih fun k hk => ?_
          rcases Nat.lt_or_ge (dst k a) i with h | h
          · exact hno k h
          · have : k = a - (i : Int) ∨ k = a + (i : Int) := by unfold dst at h hk; omega
            rcases this with rfl | rfl
            · exact h1
            · exact h2
  exact key 0 (by omega) (fun k hk => by omega)
theorem nearFit_both (l : T) (g : YGroup) (far : Int) (hl : Sm l) (hg : SmR g.2.2) :
    ∃ r : Int × Bool, spec_NearFit.f l g far = some r ∧ impl_NearFit.f l g far = some r ∧
      (r.2 = true → goodB l = true ∧ groupB g = true ∧ fitsB l (side 3 g.2.2) r.1 = true ∧ (dst r.1 g.1 : Int) ≤ far ∧ ∀ k, fitsB l (side 3 g.2.2) k = true → dst r.1 g.1 ≤ dst k g.1) := by
  rw [spec_NearFit.f_eq, impl_NearFit.f_eq, sGood l hl, iGood l hl, sB, sB]
  cases hgl : goodB l with
  | false => exact ⟨_, rfl, rfl, fun h => (nomatch h)⟩
  | true =>
    rw [notT, notT, sGroup g hg, iGroup g hg, sB, sB]
    cases hgg : groupB g with
    | false => exact ⟨_, rfl, rfl, fun h => (nomatch h)⟩
    | true =>
      rw [notT, notT, sIn, iFar, sB, sB]
      by_cases hf : 0 ≤ far ∧ far ≤ 40
      · obtain ⟨k, rfl⟩ : ∃ k : Nat, far = (k : Int) := ⟨far.toNat, by omega⟩
        have hin := group_in hgg
        have h3 := side_len 3 g.2.2
        have hL := hg.1
        rw [bifNF hf, bifNF hf, spec_NearFit.l7_eq, impl_NearFit.l7_eq, sOld g hL, iOld g hL, sB, sB]
        obtain ⟨r, e1, e2, _⟩ := near_both l (side 3 g.2.2) g.1 k hl.1 (by omega) (by omega) (by omega)
        obtain ⟨r', e3, e4⟩ := near_least l (side 3 g.2.2) g.1 k hl.1 (by omega) (by omega) (by omega)
        rw [e2] at e3
        obtain rfl := Option.some.inj e3
        rw [e1, e2]
        simp only [sB]
        by_cases hr : r < 0
        · rw [bifT hr]; exact ⟨_, rfl, rfl, fun h => (nomatch h)⟩
        · rw [bifF hr]
          obtain ⟨f1, f2, f3⟩ := e4.resolve_left hr
          exact ⟨_, rfl, rfl, fun _ => ⟨trivial, trivial, f1, by show (dst r g.1 : Int) ≤ _; omega, f3⟩⟩
      · rw [bifNT hf, bifNT hf]; exact ⟨_, rfl, rfl, fun h => (nomatch h)⟩
/-- the places -/
def plc (l part : T) : Nat → Nat → List Int
  | _, 0 => []
  | i, d + 1 => if fitsB l part (i : Int) = true then (i : Int) :: plc l part (i + 1) d else plc l part (i + 1) d
theorem plc_mem (l part : T) : ∀ (d i : Nat) (k : Int), k ∈ plc l part i d ↔ fitsB l part k = true ∧ (i : Int) ≤ k ∧ k < ((i + d : Nat) : Int)
  | 0, i, k => ⟨fun h => (nomatch h), fun h => by omega⟩
  | d + 1, i, k => by
    have ih := plc_mem l part d (i + 1) k
    rw [plc]
    by_cases h : fitsB l part (i : Int) = true
    · rw [if_pos h, List.mem_cons, ih]
      constructor
      · rintro (rfl | ⟨h1, h2, h3⟩)
        · exact ⟨h, by omega, by omega⟩
        · exact ⟨h1, by omega, by omega⟩
      · rintro ⟨h1, h2, h3⟩
        by_cases hk : k = (i : Int)
        · exact .inl hk
        · exact .inr ⟨h1, by omega, by omega⟩
    · rw [if_neg h, ih]
      constructor
      · rintro ⟨h1, h2, h3⟩; exact ⟨h1, by omega, by omega⟩
      · rintro ⟨h1, h2, h3⟩
        have hk : k ≠ (i : Int) := fun e => h (e ▸ h1)
        exact ⟨h1, by omega, by omega⟩
theorem plc_len (l part : T) : ∀ (d i : Nat), (plc l part i d).length ≤ d
  | 0, i => Nat.le_refl _
  | d + 1, i => by
    have := plc_len l part d (i + 1)
    rw [plc]
    split
    · rw [List.length_cons]; omega
    · omega
def placesB (l part : T) : List Int × Bool := if goodB l = true ∧ (part.length ≤ 40 ∧ allLines part = true) then (plc l part 0 (l.length + 1), true) else ([], false)
theorem places_both (l part : T) (hl : Sm l) (hp : Sm part) : spec_PlacesOf.f l part = some (placesB l part) ∧ impl_PlacesOf.f l part = some (placesB l part) := by
  have hL := hl.1
  have hP := hp.1
  have si : ∀ i, i ≤ l.length + 1 → ∀ out : List Int, out.length ≤ i → spec_PlacesOf.l22 l part out (i : Int) = some (out ++ plc l part i (l.length + 1 - i), true) ∧ impl_PlacesOf.l10 l part out ((l.length + 1 : Nat) : Int) (i : Int) = some (out ++ plc l part i (l.length + 1 - i), true) := by
    apply downTo
    · intro out ho
      rw [spec_PlacesOf.l22_eq, impl_PlacesOf.l10_eq, bifF (by omega), bifF (by omega), Nat.sub_self, plc, List.append_nil]; exact ⟨rfl, rfl⟩
    · intro i hi ih out ho
      rw [show l.length + 1 - i = (l.length + 1 - (i + 1)) + 1 by omega, plc]
      refine ⟨?_, ?_⟩
      · rw [spec_PlacesOf.l22_eq, bifT (by omega), sFits l part _ hL hP, sB, up1 (by omega), room8]
        cases h : fitsB l part (i : Int) with
        | true =>
          obtain ⟨a, _⟩ := ih (out ++ [(i : Int)]) (by rw [List.length_append]; simp; omega)
          rw [cond_true, bifT (by simp only [List.length_singleton]; omega), if_pos rfl, a]
          simp
        | false => rw [cond_false, if_neg (by decide), (ih out (by omega)).1]
      · rw [impl_PlacesOf.l10_eq, bifT (by omega), iStands l part _ hL hP, sB, up1 (by omega), room8]
        cases h : fitsB l part (i : Int) with
        | true =>
          obtain ⟨_, a⟩ := ih (out ++ [(i : Int)]) (by rw [List.length_append]; simp; omega)
          rw [cond_true, bifT (by simp only [List.length_singleton]; omega), if_pos rfl, a]
          simp
        | false => rw [cond_false, if_neg (by decide), (ih out (by omega)).2]
  obtain ⟨s0, i0⟩ := si 0 (by omega) [] (by simp)
  rw [List.nil_append, Nat.sub_zero] at s0 i0
  rw [spec_PlacesOf.f_eq, impl_PlacesOf.f_eq, sGood l hl, iGood l hl, sB, sB, placesB]
  cases hg : goodB l with
  | false => exact ⟨rfl, rfl⟩
  | true =>
    rw [notT, notT, iAre part hp, sB]
    have sl : ∀ i, i ≤ part.length → spec_PlacesOf.l8 l part part (part.length : Int) (i : Int) = some (if allLines (part.drop i) = true then (plc l part 0 (l.length + 1), true) else ([], false)) := by
      apply downTo
      · rw [spec_PlacesOf.l8_eq, bifF (by omega), List.drop_eq_nil_of_le (Nat.le_refl _), if_pos (show allLines [] = true from rfl)]
        exact s0
      · intro i hi ih
        have hz := hp.2 _ (getD_mem hi em)
        rw [spec_PlacesOf.l8_eq, bifT (by omega), bif2T (by omega) (by omega), up1 (by omega), drop_at hi em, allLines_cons]
        simp only [Int.toNat_natCast]
        rw [sLine _ hz, sB]
        by_cases h : lineP (part.getD i em)
        · rw [bifNF h, ih, decide_eq_true h, Bool.true_and]
        · rw [bifNT h, decide_eq_false h, Bool.false_and, if_neg (by decide)]
    by_cases h40 : part.length ≤ 40
    · rw [bifF (by omega), decide_eq_true h40, Bool.true_and, spec_PlacesOf.l7_eq]
      have := sl 0 (by omega)
      rw [List.drop_zero] at this
      rw [show (0 : Int) = ((0 : Nat) : Int) from rfl, this]
      cases ha : allLines part with
      | true =>
        rw [notT, if_pos rfl, if_pos ⟨rfl, h40, rfl⟩, impl_PlacesOf.l7_eq, up1 (by omega)]
        exact ⟨rfl, i0⟩
      | false => rw [notF, if_neg (by decide), if_neg (fun h => by cases h.2.2)]; exact ⟨rfl, rfl⟩
    · rw [bifT (by omega), decide_eq_false h40, Bool.false_and, notF, if_neg (fun h => h40 h.2.1)]; exact ⟨rfl, rfl⟩
theorem sameI_self (a : List Int) (h : a.length ≤ 1048576) : laws_sameInts.f a a = some true := by
  rw [laws_sameInts.f_eq, bifNF rfl]
  have key : ∀ i, i ≤ a.length → laws_sameInts.l8 a a (a.length : Int) (i : Int) = some true := by
    apply downTo
    · rw [laws_sameInts.l8_eq, bifF (by omega)]
    · intro i hi ih
      rw [laws_sameInts.l8_eq, bifT (by omega), bif2T (by omega) (by omega), bif2T (by omega) (by omega), up1 (by omega), bifNF rfl]
      exact ih
  exact key 0 (by omega)
theorem sameTs_self (a : T) (h : a.length ≤ 1048576) : laws_sameTexts.f a a = some true := by
  rw [laws_sameTexts.f_eq, bifNF rfl]
  have key : ∀ i, i ≤ a.length → laws_sameTexts.l8 a a (a.length : Int) (i : Int) = some true := by
    apply downTo
    · rw [laws_sameTexts.l8_eq, bifF (by omega)]
    · intro i hi ih
      rw [laws_sameTexts.l8_eq, bifT (by omega), bif2T (by omega) (by omega), bif2T (by omega) (by omega), up1 (by omega), toList_beq, bifNF rfl]
      exact ih
  exact key 0 (by omega)
theorem has_mem (n : Int) (p : List Int) (h : p.length ≤ 1048576) (hm : n ∈ p) : laws_has.f p n = some true := by
  rw [laws_has.f_eq]
  have key : ∀ i, i ≤ p.length → n ∈ p.drop i → laws_has.l4 n p (p.length : Int) (i : Int) = some true := by
    apply downTo
    · intro hn; rw [List.drop_eq_nil_of_le (by omega)] at hn; cases hn
    · intro i hi ih hn
      rw [laws_has.l4_eq, bifT (by omega), bif2T (by omega) (by omega), up1 (by omega)]
      simp only [Int.toNat_natCast]
      rw [drop_at hi 0] at hn
      by_cases he : p.getD i 0 = n
      · rw [bifT he]
      · rw [bifF he]
        exact ih ((List.mem_cons.1 hn).resolve_left fun h => he h.symm)
  exact key 0 (by omega) (by rw [List.drop_zero]; exact hm)
theorem newL_size : (⟨#[110, 101, 119, 10]⟩ : ByteArray).size = 4 := rfl
/-- what is drawn for FitsAt -/
theorem drawFits (code : List Int) (hc : Cok 1000000000 (code, 0, 0)) : ∃ (l : T) (g : YGroup) (k : Int), spec_DrawFitsAt.f code = some (l, g, k) ∧ TB 12 10 l ∧ DG g := by
  obtain ⟨l, gs, c, e1, hl, hg1, hg2, kc⟩ := groups_ok (n := 1000) (hc.le (by omega))
  rw [spec_DrawFitsAt.f_eq, e1, sB]
  simp only
  by_cases h0 : (gs.length : Int) = 0
  · obtain ⟨g, e2, hg⟩ := drawOldOf hc
    obtain ⟨x, c1, e3, _, _, _, _⟩ := pick_ok (n := 100) (kc.le (by omega)) 4
    rw [bifT h0, e2, sB, e3, sB]; exact ⟨l, g, x, rfl, hl, hg⟩
  · obtain ⟨x, c1, e2, _, _, _, k1⟩ := pick_ok (n := 100) (kc.le (by omega)) 4
    obtain ⟨y, c2, e3, _, _, _, _⟩ := pick_ok (n := 10) (k1.le (by omega)) 4
    rw [bifF h0, bifT (by omega), bifT (by omega), e2, sB]
    simp only
    rw [e3, sB]
    exact ⟨l, _, _, rfl, hl, hg2 _ (getD_mem (by omega) _)⟩
theorem dg_sm {g : YGroup} (h : DG g) : SmR g.2.2 := ⟨by have := h.2.1; omega, fun r hr => by have := h.2.2 r hr; omega⟩
theorem drawNear (code : List Int) (hc : Cok 1000000000 (code, 0, 0)) : ∃ (l : T) (g : YGroup) (k : Int), spec_DrawNearFit.f code = some (l, g, k) ∧ Sm l ∧ SmR g.2.2 := by
  obtain ⟨l, g, k0, e1, hl, hg⟩ := drawFits code hc
  have hls := hl.sm (by omega) (by omega)
  have fin : ∀ (c : Cu) (l : T), Cok 10 c → ∃ k : Int, spec_DrawNearFit.l11 (0, 0, []) c l g = some (l, g, k) := by
    intro c l h
    obtain ⟨x, c', e, _⟩ := among_ok (n := 0) (h.le (by omega)) [0, 1, 2, 5, 40, 41, (-1)] (by decide)
    exact ⟨x, by rw [spec_DrawNearFit.l11_eq, e, sB]⟩
  rw [spec_DrawNearFit.f_eq, e1, sB]
  simp only
  rw [sGood l hls, sB]
  cases goodB l with
  | false =>
    obtain ⟨k, e⟩ := fin (code, 0, 0) l (hc.le (by omega))
    rw [cond_false, e]; exact ⟨l, g, k, rfl, hls, dg_sm hg⟩
  | true =>
    obtain ⟨b, c1, e2, kc⟩ := one_ok (n := 10) (hc.le (by omega)) 2
    rw [cond_true, e2, sB]
    cases b with
    | false =>
      obtain ⟨k, e⟩ := fin c1 l kc
      simp only [cond_false]
      rw [e]; exact ⟨l, g, k, rfl, hls, dg_sm hg⟩
    | true =>
      have h12 := hl.1
      obtain ⟨k, e⟩ := fin c1 ([(⟨#[110, 101, 119, 10]⟩ : ByteArray)] ++ l) kc
      simp only [cond_true]
      rw [room16, bifT (by simp only [List.length_singleton]; omega), e]
      refine ⟨_, g, k, rfl, ⟨by simp; omega, fun s hs => ?_⟩, dg_sm hg⟩
      rcases List.mem_append.1 hs with hs | hs
      · rw [List.mem_singleton] at hs; subst hs; rw [newL_size]; omega
      · exact hls.2 s hs
theorem drawApply (code : List Int) (hc : Cok 1000000000 (code, 0, 0)) : ∃ (l : T) (g : YGroupS) (k : Int), spec_DrawApplyNear.f code = some (l, g, k) ∧ Sm l ∧ SmG g ∧ 0 ≤ k ∧ k ≤ 40 := by
  obtain ⟨l, gs, c, e1, hl, hg1, hg2, kc⟩ := groups_ok (n := 1000) (hc.le (by omega))
  have hls := hl.sm (by omega) (by omega)
  have hgs := DG_sm (g := gs) (by omega) hg2
  have fin : ∀ (c : Cu) (l : T), Cok 10 c → ∃ k : Int, spec_DrawApplyNear.l11 c l gs = some (l, gs, k) ∧ 0 ≤ k ∧ k ≤ 40 := by
    intro c l h
    obtain ⟨x, c', e, hx, _⟩ := among_ok (n := 0) (h.le (by omega)) [0, 1, 2, 5, 40] (by decide)
    refine ⟨x, by rw [spec_DrawApplyNear.l11_eq, e, sB], ?_⟩
    simp only [List.mem_cons, List.not_mem_nil, or_false] at hx
    omega
  obtain ⟨b, c1, e2, k1⟩ := one_ok (n := 10) (kc.le (by omega)) 2
  rw [spec_DrawApplyNear.f_eq, e1, sB]
  simp only
  rw [e2, sB]
  cases b with
  | false =>
    obtain ⟨k, e, h0, h1⟩ := fin c1 l k1
    simp only [cond_false]
    rw [e]; exact ⟨l, gs, k, rfl, hls, hgs, h0, h1⟩
  | true =>
    simp only [cond_true]
    rw [sGood l hls, sB]
    cases goodB l with
    | false =>
      obtain ⟨k, e, h0, h1⟩ := fin c1 l k1
      rw [cond_false, e]; exact ⟨l, gs, k, rfl, hls, hgs, h0, h1⟩
    | true =>
      have h12 := hl.1
      obtain ⟨k, e, h0, h1⟩ := fin c1 ([(⟨#[110, 101, 119, 10]⟩ : ByteArray)] ++ l) k1
      rw [cond_true, room16, bifT (by simp only [List.length_singleton]; omega), e]
      refine ⟨_, gs, k, rfl, ⟨by simp; omega, fun s hs => ?_⟩, hgs, h0, h1⟩
      rcases List.mem_append.1 hs with hs | hs
      · rw [List.mem_singleton] at hs; subst hs; rw [newL_size]; omega
      · exact hls.2 s hs
theorem drawPlaces (code : List Int) (hc : Cok 1000000000 (code, 0, 0)) : ∃ (l part : T), spec_DrawPlacesOf.f code = some (l, part) ∧ Sm l ∧ Sm part := by
  obtain ⟨l, c, e1, h1, h2, _, k0⟩ := anyText_ok (n := 1000) (hc.le (by omega))
  obtain ⟨x, c1, e2, x0, x1, _, k1⟩ := pick_ok (n := 500) (k0.le (by omega)) (w64 ((l.length : Int) + 1))
  have hw : w64 ((l.length : Int) + 1) = (l.length : Int) + 1 := w64_id (by omega) (by omega)
  have x1 := x1 (by omega)
  obtain ⟨y, c2, e3, y0, y1, _, k2⟩ := pick_ok (n := 100) (k1.le (by omega)) 3
  have y1 := y1 (by omega)
  obtain ⟨b, c3, e4, _⟩ := one_ok (n := 10) (k2.le (by omega)) 20
  have hls : Sm l := ⟨by omega, fun s hs => by have := h2 s hs; omega⟩
  rw [spec_DrawPlacesOf.f_eq, e1, sB]
  simp only
  rw [e2, sB, e3, sB, sLeast, sB, w64_id (x := x + y) (by omega) (by omega), bif3T (by omega) (by omega) (by omega), ownT _ (by rw [List.length_drop, List.length_take]; omega), sB, e4, sB]
  have hps : ∀ s ∈ (l.take (min (l.length : Int) (x + y)).toNat).drop x.toNat, s.size ≤ 1048576 := fun s hs => hls.2 s (List.mem_of_mem_take (List.mem_of_mem_drop hs))
  have hpl : ((l.take (min (l.length : Int) (x + y)).toNat).drop x.toNat).length ≤ 9 := by rw [List.length_drop, List.length_take]; omega
  cases b with
  | false => exact ⟨_, _, rfl, hls, ⟨Nat.le_trans hpl (by decide), hps⟩⟩
  | true =>
    simp only [cond_true]
    rw [room16, bifT (by simp only [List.length_singleton]; omega)]
    refine ⟨_, _, rfl, hls, ⟨by rw [List.length_append]; simp only [List.length_singleton]; omega, fun s hs => ?_⟩⟩
    rcases List.mem_append.1 hs with hs | hs
    · exact hps s hs
    · rw [List.mem_singleton] at hs; subst hs; decide
theorem FnNear (l0 l1 : List Int) (g0 : Bd (.list (.int .u8)) l0) (g1 : Bd (.list (.int .u8)) l1) : laws_FnNear.f l0 l1 = some true := by
  obtain ⟨bb, hb, hb2⟩ := big_ok g0.1 g1.1
  rw [laws_FnNear.f_eq, hb, sB]
  cases bb with
  | true => rfl
  | false =>
    obtain ⟨n0, n1⟩ := hb2 rfl
    have hc0 := cok_of g0 n0
    have hc1 := cok_of g1 n1
    have tail : laws_FnNear.l69 l1 = some true := by
      obtain ⟨l, g, k, e1, hl, hg⟩ := drawFits l1 hc1
      obtain ⟨u, part, e2, hu, hp⟩ := drawPlaces l1 hc1
      obtain ⟨f1, f2⟩ := fits_both l g k (hl.sm (by omega) (by omega)) (dg_sm hg)
      obtain ⟨p1, p2⟩ := places_both u part hu hp
      have hpl : (placesB u part).1.length ≤ 1048577 := by
        unfold placesB
        split
        · have := plc_len u part (u.length + 1) 0; have := hu.1; simp only; omega
        · exact Nat.zero_le _
      rw [laws_FnNear.l69_eq, e1, sB]
      simp only
      rw [f1, f2, sB, sB, e2, sB]
      simp only
      rw [p1, p2, sB, sB]
      simp only [beq_self_eq_true, cond_true]
      have hpl2 : (placesB u part).1.length ≤ 1048576 := by
        unfold placesB
        split
        · rename_i hh
          have := plc_len u part (u.length + 1) 0; have := good_len hh.1; simp only; omega
        · exact Nat.zero_le _
      rw [sameI_self _ hpl2, sB]
    have mid : laws_FnNear.l25 l1 = some true := by
      obtain ⟨c, d, many, e1, hcs, hds⟩ := drawNear l1 hc1
      obtain ⟨r, s1, s2, s3⟩ := nearFit_both c d many hcs hds
      rw [laws_FnNear.l25_eq, e1, sB]
      simp only
      rw [s1, s2, sB, sB]
      simp only [beq_self_eq_true, Bool.not_true, cond_false, decide_true]
      rw [laws_FnNear.l35_eq]
      cases hr : r.2 with
      | false => exact tail
      | true =>
        obtain ⟨q1, q2, q3, q4, q5⟩ := s3 hr
        have hin := group_in q2
        have h40 := good_len q1
        have hfi := fits_in q3
        obtain ⟨_, f2⟩ := fits_both c d r.1 hcs hds
        have ho : impl_OldOf.f d = some (side 3 d.2.2, true) := by
          rw [impl_OldOf.f_eq, iGroup d hds, sB, q2, notT, iOld d hds.1, sB]
        have hpart := side_sm 3 hds
        obtain ⟨_, p2⟩ := places_both c (side 3 d.2.2) hcs hpart
        have hgs := (group_sides q2).1
        have hpb : placesB c (side 3 d.2.2) = (plc c (side 3 d.2.2) 0 (c.length + 1), true) := by
          unfold placesB
          rw [if_pos]
          refine ⟨q1, good_len hgs, ?_⟩
          unfold goodB at hgs
          rw [Bool.and_eq_true, Bool.and_eq_true] at hgs
          exact hgs.1.2
        have hd := q4
        have hdst : dst r.1 d.1 = (r.1 - d.1).natAbs := rfl
        rw [cond_true, f2, sB, ho, sB]
        simp only
        rw [p2, sB, hpb]
        have hfa : fitsAtB c d r.1 = (true, true) := by
          unfold fitsAtB
          rw [if_pos ⟨q1, q2⟩, q3]
        rw [hfa]
        simp only [Bool.not_true, cond_false]
        have hmem : r.1 ∈ plc c (side 3 d.2.2) 0 (c.length + 1) := (plc_mem _ _ _ _ _).2 ⟨q3, by omega, by omega⟩
        have hlenp := plc_len c (side 3 d.2.2) (c.length + 1) 0
        rw [w64_id (x := r.1 - d.1) (by omega) (by omega), w64_id (x := d.1 - r.1) (by omega) (by omega), bifF (by omega), bifF (by omega), has_mem _ _ (by omega) hmem, sB, notT, laws_FnNear.l47_eq]
        have loop : ∀ i, i ≤ (plc c (side 3 d.2.2) 0 (c.length + 1)).length → laws_FnNear.l48 l1 d r.1 (plc c (side 3 d.2.2) 0 (c.length + 1)) ((plc c (side 3 d.2.2) 0 (c.length + 1)).length : Int) (i : Int) = some true := by
          apply downTo
          · rw [laws_FnNear.l48_eq, bifF (by omega)]; exact tail
          · intro i hi ih
            have hm := getD_mem hi 0
            obtain ⟨m1, m2, m3⟩ := (plc_mem _ _ _ _ _).1 hm
            have hle := q5 _ m1
            rw [laws_FnNear.l48_eq, bifT (by omega), bif2T (by omega) (by omega), Int.toNat_natCast]
            generalize (plc c (side 3 d.2.2) 0 (c.length + 1)).getD i 0 = k at m1 m2 m3 hle hm ⊢
            unfold dst at hle
            rw [w64_id (x := k - d.1) (by omega) (by omega), w64_id (x := r.1 - d.1) (by omega) (by omega)]
            have step : ∀ a : Int, a = (k - d.1).natAbs → laws_FnNear.l59 l1 d r.1 a (r.1 - d.1) (plc c (side 3 d.2.2) 0 (c.length + 1)) ((plc c (side 3 d.2.2) 0 (c.length + 1)).length : Int) (i : Int) = some true := by
              intro a ha
              rw [laws_FnNear.l59_eq, up1 (by omega)]
              by_cases hb : r.1 - d.1 < 0
              · rw [bifT hb, w64_id (x := 0 - (r.1 - d.1)) (by omega) (by omega), bifF (by omega)]; exact ih
              · rw [bifF hb, bifF (by omega)]; exact ih
            by_cases ha : k - d.1 < 0
            · rw [bifT ha, w64_id (x := 0 - (k - d.1)) (by omega) (by omega)]; exact step _ (by omega)
            · rw [bifF ha]; exact step _ (by omega)
        exact loop 0 (by omega)
    obtain ⟨l, g, far, e1, hl, hg, hf0, hf1⟩ := drawApply l0 hc0
    obtain ⟨r, s1, s2, s3, s4⟩ := applyNear_both l g far hl hg
    rw [cond_false, e1, sB]
    simp only
    rw [s1, s2, sB, sB]
    simp only [beq_self_eq_true, Bool.not_true, cond_false, decide_true]
    have hr1 : r.1.length ≤ 1048576 ∧ r.2.1.length ≤ 1048576 := by
      cases h : r.2.2.2 with
      | false => obtain ⟨a, b, _⟩ := s4 h; rw [a, b]; exact ⟨by decide, by decide⟩
      | true =>
        obtain ⟨_, hgg, ⟨a, b, _⟩ | ⟨a, b, _⟩⟩ := s3 h
        · rw [a, b]; exact ⟨by decide, by decide⟩
        · have := good_len a; have := gs_len hgg; exact ⟨by omega, by omega⟩
    rw [sameTs_self _ hr1.1, sB, sameI_self _ hr1.2, sB]
    simp only [Bool.not_true, cond_false]
    rw [laws_FnNear.l17_eq]
    cases h : r.2.2.2 with
    | false => exact mid
    | true =>
      obtain ⟨hgl, hgg, hcase⟩ := s3 h
      rw [cond_true, iApply l g hl hg, sB]
      have one : (apB l g).2.2 = true := by
        unfold apB
        split
        · split <;> rfl
        · unfold ghB
          rw [if_pos ⟨hgl, hgg⟩]
          split
          · rfl
          · exact ghL_true l g [] 0
      rw [one, notT]
      have why0 : r.2.2.1 = 0 → r.2.1.length = g.length := by
        intro h0
        rcases hcase with ⟨_, _, h2⟩ | ⟨_, h2, _⟩
        · omega
        · exact h2
      have fin : (bif decide (r.2.2.1 = 0) then (bif (!(decide ((r.2.1.length : Int) = (g.length : Int)))) then (some false) else (laws_FnNear.l25 l1)) else (laws_FnNear.l25 l1)) = some true := by
        by_cases h0 : r.2.2.1 = 0
        · have := why0 h0
          rw [bifT h0, bifNF (by omega)]; exact mid
        · rw [bifF h0]; exact mid
      by_cases h2 : (apB l g).2.1 = 0
      · obtain ⟨pl, p1, p2⟩ := apply_exact l g far hl hg ⟨hf0, hf1⟩ one h2
        rw [s2] at p2
        obtain rfl := Option.some.inj p2
        rw [bifT h2]
        simp only [decide_true, Bool.not_true, cond_false]
        rw [sameTs_self _ hr1.1, sB, notT]
        exact fin
      · rw [bifF h2]
        exact fin
end Go.Abs.G
