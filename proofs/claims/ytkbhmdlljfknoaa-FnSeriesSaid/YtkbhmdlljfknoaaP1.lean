import Derived.Test.YtkbhmdlljfknoaaG
import Derived.Lib.IndexAny
set_option linter.unusedVariables false
set_option linter.unusedSimpArgs false
set_option linter.unusedSectionVars false
namespace Go.Abs.G
open Go Go.Abs
abbrev T := List ByteArray
/-- of a size that is let through -/
def Sm (l : T) : Prop := l.length ≤ 1048576 ∧ ∀ s ∈ l, s.size ≤ 1048576
def bl (s : ByteArray) : List UInt8 := s.data.toList
theorem bl_len (s : ByteArray) : (bl s).length = s.size := rfl
theorem bl_inj {a b : ByteArray} (h : bl a = bl b) : a = b := ByteArray.ext (Array.toList_inj.1 h)
theorem bl_ext (s : ByteArray) (a b : Nat) : bl (s.extract a b) = ((bl s).drop a).take (b - a) := by
  unfold bl; rw [ByteArray.data_extract, Array.toList_extract]
theorem bt_bl (s : ByteArray) (i : Nat) : bt s (i : Int) = (((bl s).getD i 0).toNat : Int) := by
  unfold bt bl
  rw [Int.toNat_natCast]
theorem sIn (a b c : Int) : spec_l1In.f a b c = some (decide (b ≤ a ∧ a ≤ c)) := by
  rw [spec_l1In.f_eq]
  by_cases h : a ≥ b
  · rw [bifT h]; congr 1; rw [decide_eq_decide]; omega
  · rw [bifF h]; congr 1; rw [eq_comm, decide_eq_false_iff_not]; omega
theorem iIn (a b c : Int) : impl_in.f a b c = some (decide (b ≤ a ∧ a ≤ c)) := by
  rw [impl_in.f_eq]
  by_cases h : a ≥ b
  · rw [bifT h]; congr 1; rw [decide_eq_decide]; omega
  · rw [bifF h]; congr 1; rw [eq_comm, decide_eq_false_iff_not]; omega
/-- A line. -/
def lineP (s : ByteArray) : Prop := 1 ≤ s.size ∧ s.size ≤ 30 ∧ (10 : UInt8) ∉ (bl s).take (s.size - 1)
instance (s : ByteArray) : Decidable (lineP s) := by unfold lineP; exact inferInstance
/-- It ends. -/
def endP (s : ByteArray) : Prop := 1 ≤ s.size ∧ (bl s).getD (s.size - 1) 0 = 10
instance (s : ByteArray) : Decidable (endP s) := by unfold endP; exact inferInstance
theorem toNat10 (b : UInt8) : ((b.toNat : Nat) : Int) = 10 ↔ b = 10 := by
  constructor
  · intro h; exact UInt8.toNat_inj.1 (by have : (10 : UInt8).toNat = 10 := rfl; omega)
  · rintro rfl; rfl
theorem sLine (s : ByteArray) (hs : s.size ≤ 1048576) : spec_l1Line.f s = some (decide (lineP s)) := by
  have hL : ((bl s).take (s.size - 1)).length = s.size - 1 := by rw [List.length_take, bl_len]; omega
  have hw : w64 ((s.size : Int) - 1) = (s.size : Int) - 1 := w64_id (by omega) (by omega)
  have key : ∀ i, i ≤ s.size - 1 → spec_l1Line.l4 s (i : Int) = some (decide (1 ≤ s.size ∧ s.size ≤ 30 ∧ (10 : UInt8) ∉ ((bl s).take (s.size - 1)).drop i)) := by
    apply downTo
    · rw [spec_l1Line.l4_eq, hw, bifF (by omega), sIn, sB]
      congr 1
      rw [decide_eq_decide, List.drop_eq_nil_of_le (by omega)]
      constructor
      · intro h; exact ⟨by omega, by omega, List.not_mem_nil⟩
      · intro h; omega
    · intro i hi ih
      have hi1 := up1 (i := i) (by omega)
      rw [spec_l1Line.l4_eq]
      simp only [hw, hi1]
      rw [bifT (by omega), bif2T (by omega) (by omega)]
      have hb : bt s (i : Int) = 10 ↔ ((bl s).take (s.size - 1)).getD i 0 = 10 := by
        rw [bt_bl, toNat10, List.getD_eq_getElem?_getD, List.getD_eq_getElem?_getD, List.getElem?_take_of_lt hi]
      have hd := drop_at (l := (bl s).take (s.size - 1)) (i := i) (by omega) 0
      by_cases h : bt s (i : Int) = 10
      · rw [bifT h]; congr 1
        rw [eq_comm, decide_eq_false_iff_not, hd, hb.1 h]
        rintro ⟨_, _, h3⟩
        exact h3 List.mem_cons_self
      · rw [bifF h, ih]; congr 1
        rw [decide_eq_decide, hd, List.mem_cons, not_or]
        have : ¬ (10 : UInt8) = ((bl s).take (s.size - 1)).getD i 0 := fun g => h (hb.2 g.symm)
        exact ⟨fun ⟨a, b, c⟩ => ⟨a, b, this, c⟩, fun ⟨a, b, _, c⟩ => ⟨a, b, c⟩⟩
  have := key 0 (by omega)
  rw [spec_l1Line.f_eq]
  rw [List.drop_zero] at this
  exact this
theorem iLine (s : ByteArray) (hs : s.size ≤ 1048576) : impl_isLine.f s = some (decide (lineP s)) := by
  have hw : w64 ((s.size : Int) - 1) = (s.size : Int) - 1 := w64_id (by omega) (by omega)
  rw [impl_isLine.f_eq, iIn, sB, hw]
  by_cases h : (1 : Int) ≤ (s.size : Int) ∧ (s.size : Int) ≤ 30
  · rw [bifT h, bif2T (by omega) (by omega)]
    show (contains1 _ _).bind _ = _
    unfold contains1
    have h1 : Nat.beq (⟨#[10]⟩ : ByteArray).size 1 = true := rfl
    rw [h1, cond_true, sB]
    congr 1
    show (!decide (0 ≤ Go.Lib.indexByte _ 10)) = _
    rw [← Go.Lib.contains_iff_indexByte]
    have he : (s.extract 0 ((s.size : Int) - 1).toNat).data.toList = (bl s).take (s.size - 1) := by
      show bl _ = _
      rw [bl_ext, List.drop_zero]; congr 1; omega
    rw [he]
    by_cases hm : (10 : UInt8) ∈ (bl s).take (s.size - 1)
    · rw [List.contains_iff_mem.2 hm]; exact (decide_eq_false (fun g : lineP s => g.2.2 hm)).symm
    · have : ((bl s).take (s.size - 1)).contains 10 = false := by rw [← Bool.not_eq_true, List.contains_iff_mem]; exact hm
      rw [this]; exact (decide_eq_true (show lineP s from ⟨by omega, by omega, hm⟩)).symm
  · rw [bifF h]
    congr 1
    rw [eq_comm, decide_eq_false_iff_not]
    unfold lineP
    omega
theorem sEnds (s : ByteArray) (h1 : 1 ≤ s.size) (hs : s.size ≤ 1048576) : spec_l1Ends.f s = some (decide (endP s)) := by
  have hw : w64 ((s.size : Int) - 1) = ((s.size - 1 : Nat) : Int) := by rw [w64_id (by omega) (by omega)]; omega
  rw [spec_l1Ends.f_eq, hw, bif2T (by omega) (by omega), bt_bl]
  congr 1
  rw [decide_eq_decide, toNat10]
  exact ⟨fun h => ⟨h1, h⟩, fun h => h.2⟩
theorem iEnds (s : ByteArray) (hs : s.size ≤ 1048576) : impl_isEnded.f s = some (decide (endP s)) := by
  rw [impl_isEnded.f_eq, strings_HasSuffix.f_eq, internal_stringslite_HasSuffix.f_eq]
  have h10 : (⟨#[10]⟩ : ByteArray).size = 1 := rfl
  have hw : w64 ((s.size : Int) - 1) = (s.size : Int) - 1 := w64_id (by omega) (by omega)
  simp only [h10, Int.ofNat_one]
  by_cases h : (s.size : Int) ≥ 1
  · rw [hw, bifT h, bif2T (by omega) (by omega), sB, sB]
    congr 1
    rw [toList_beq, decide_eq_decide]
    have hb : bl (s.extract ((s.size : Int) - 1).toNat s.size) = [(bl s).getD (s.size - 1) 0] := by
      rw [bl_ext]
      have e : ((s.size : Int) - 1).toNat = s.size - 1 := by omega
      rw [e, drop_at (l := bl s) (i := s.size - 1) (by rw [bl_len]; omega) 0, show s.size - (s.size - 1) = 1 by omega]
      rfl
    constructor
    · intro g
      rw [g] at hb
      refine ⟨by omega, ?_⟩
      have : [(10 : UInt8)] = [(bl s).getD (s.size - 1) 0] := hb
      exact ((List.cons.inj this).1).symm
    · intro g
      refine bl_inj ?_
      rw [hb, g.2]; rfl
  · rw [bifF (by omega), sB, sB]
    congr 1
    rw [eq_comm, decide_eq_false_iff_not]
    unfold endP
    omega
def endsT : T → Bool
  | [] => true
  | s :: t => (t.isEmpty || decide (endP s)) && endsT t
def allLines (l : T) : Bool := l.all fun s => decide (lineP s)
theorem allLines_cons (s : ByteArray) (l : T) : allLines (s :: l) = (decide (lineP s) && allLines l) := rfl
def goodB (l : T) : Bool := decide (l.length ≤ 40) && allLines l && endsT l
theorem drop_empty {l : T} {i : Nat} (h : i < l.length) : (l.drop (i + 1)).isEmpty = decide (¬ (i : Int) < (l.length : Int) - 1) := by
  rw [Bool.eq_iff_iff, List.isEmpty_iff, List.drop_eq_nil_iff, decide_eq_true_eq]; omega
theorem iAre (l : T) (hl : Sm l) : impl_areLines.f l = some (decide (l.length ≤ 40) && allLines l) := by
  have hL := hl.1
  have idx : ∀ i, i ≤ l.length → ∃ r : Int, slices_IndexFunc_Lstring_string__impl_areLines_1.l4 l (l.length : Int) (i : Int) = some r ∧ (decide (r ≥ 0) = !(allLines (l.drop i))) := by
    apply downTo
    · refine ⟨-1, by rw [slices_IndexFunc_Lstring_string__impl_areLines_1.l4_eq, bifF (by omega)], ?_⟩
      rw [List.drop_eq_nil_of_le (by omega)]; rfl
    · intro i hlt ⟨r, hr, hp⟩
      have hi1 := up1 (i := i) (by omega)
      have hsz := hl.2 _ (getD_mem hlt em)
      rw [slices_IndexFunc_Lstring_string__impl_areLines_1.l4_eq, bifT (by omega), bif2T (by omega) (by omega), hi1]
      simp only [Int.toNat_natCast]
      rw [impl_areLines_1.f_eq, iLine _ hsz, sB, sB]
      by_cases h : lineP (l.getD i em)
      · refine ⟨r, by rw [bifNF h]; exact hr, ?_⟩
        rw [hp, drop_at hlt em, allLines_cons, decide_eq_true h, Bool.true_and]
      · refine ⟨(i : Int), by rw [bifNT h], ?_⟩
        rw [drop_at hlt em, allLines_cons, decide_eq_false h, Bool.false_and]; exact decide_eq_true (by omega)
  obtain ⟨r, hr, hp⟩ := idx 0 (by omega)
  rw [impl_areLines.f_eq, slices_ContainsFunc_Lstring_string__impl_areLines_1.f_eq, slices_IndexFunc_Lstring_string__impl_areLines_1.f_eq]
  by_cases h : l.length ≤ 40
  · rw [bifT (by omega)]
    refine bindEq (bindEq hr rfl) ?_
    rw [hp, decide_eq_true h]; simp
  · rw [bifF (by omega), decide_eq_false h]; rfl
theorem iGood (l : T) (hl : Sm l) : impl_goodLines.f l = some (goodB l) := by
  have hL := hl.1
  rw [impl_goodLines.f_eq, iAre l hl, sB]
  unfold goodB
  cases hg : (decide (l.length ≤ 40) && allLines l) with
  | false => rw [Bool.false_and, notF]
  | true =>
    rw [Bool.true_and, notT]
    have hw : w64 ((l.length : Int) - 1) = (l.length : Int) - 1 := w64_id (by omega) (by omega)
    have key : ∀ i, i ≤ l.length → impl_goodLines.l8 l l (l.length : Int) (i : Int) = some (endsT (l.drop i)) := by
      apply downTo
      · rw [impl_goodLines.l8_eq, bifF (by omega), List.drop_eq_nil_of_le (by omega)]; rfl
      · intro i hi ih
        have hi1 := up1 (i := i) (by omega)
        have hsz := hl.2 _ (getD_mem hi em)
        have he := drop_empty hi
        have hR : endsT (l.drop i) = ((decide (¬ (i : Int) < (l.length : Int) - 1) || decide (endP (l.getD i em))) && endsT (l.drop (i + 1))) := by
          rw [drop_at hi em]; simp only [endsT, he]
        rw [hR, impl_goodLines.l8_eq, hw, hi1, bifT (by omega), bif2T (by omega) (by omega)]
        simp only [Int.toNat_natCast]
        rw [iEnds _ hsz, sB, ih]
        by_cases h2 : (i : Int) < (l.length : Int) - 1
        · rw [bifT h2, decide_eq_false (show ¬ ¬ (i : Int) < (l.length : Int) - 1 from fun g => g h2), Bool.false_or]
          by_cases h3 : endP (l.getD i em)
          · rw [bifNF h3, decide_eq_true h3, Bool.true_and]
          · rw [bifNT h3, decide_eq_false h3, Bool.false_and]
        · rw [bifF h2, decide_eq_true h2, Bool.true_or, Bool.true_and]
    have := key 0 (by omega)
    rw [List.drop_zero] at this
    exact this
theorem sGood (l : T) (hl : Sm l) : spec_l1Good.f l = some (goodB l) := by
  have hL := hl.1
  have hw : w64 ((l.length : Int) - 1) = (l.length : Int) - 1 := w64_id (by omega) (by omega)
  have key : ∀ i, i ≤ l.length → spec_l1Good.l4 l l (l.length : Int) (i : Int) = some (decide (l.length ≤ 40) && allLines (l.drop i) && endsT (l.drop i)) := by
    apply downTo
    · rw [spec_l1Good.l4_eq, bifF (by omega), List.drop_eq_nil_of_le (by omega)]
      simp [allLines, endsT]
      omega
    · intro i hi ih
      have hi1 := up1 (i := i) (by omega)
      have hd := drop_at hi em
      have hsz := hl.2 _ (getD_mem hi em)
      have he := drop_empty hi
      have hR : (decide (l.length ≤ 40) && allLines (l.drop i) && endsT (l.drop i)) = (decide (lineP (l.getD i em)) && ((decide (¬ (i : Int) < (l.length : Int) - 1) || decide (endP (l.getD i em))) && (decide (l.length ≤ 40) && allLines (l.drop (i + 1)) && endsT (l.drop (i + 1))))) := by
        rw [hd]
        simp only [allLines, endsT, List.all_cons, he]
        generalize decide (l.length ≤ 40) = a1
        generalize decide (lineP (l.getD i em)) = a2
        generalize (l.drop (i + 1)).all (fun s => decide (lineP s)) = a3
        generalize (decide (¬ (i : Int) < (l.length : Int) - 1) || decide (endP (l.getD i em))) = a4
        generalize endsT (l.drop (i + 1)) = a5
        cases a1 <;> cases a2 <;> cases a3 <;> cases a4 <;> cases a5 <;> rfl
      rw [hR, spec_l1Good.l4_eq, hw, hi1, bifT (by omega), bif2T (by omega) (by omega)]
      simp only [Int.toNat_natCast]
      rw [sLine _ hsz, sB, ih]
      by_cases h1 : lineP (l.getD i em)
      · rw [bifNF h1, decide_eq_true h1, Bool.true_and]
        by_cases h2 : (i : Int) < (l.length : Int) - 1
        · rw [bifT h2, decide_eq_false (show ¬ ¬ (i : Int) < (l.length : Int) - 1 from fun g => g h2), Bool.false_or, sEnds _ h1.1 hsz, sB]
          by_cases h3 : endP (l.getD i em)
          · rw [bifNF h3, decide_eq_true h3, Bool.true_and]
          · rw [bifNT h3, decide_eq_false h3, Bool.false_and]
        · rw [bifF h2, decide_eq_true h2, Bool.true_or, Bool.true_and]
      · rw [bifNT h1, decide_eq_false h1, Bool.false_and]
  have := key 0 (by omega)
  rw [List.drop_zero] at this
  rw [spec_l1Good.f_eq]
  exact this
theorem good_len {l : T} (h : goodB l = true) : l.length ≤ 40 := by
  unfold goodB at h
  simp only [Bool.and_eq_true, decide_eq_true_eq] at h
  exact h.1.1
abbrev Hk := Int × Int × T
abbrev hz : Hk := (0, 0, [])
theorem ownT (l : T) (h : l.length ≤ 1048576) : spec_l1OwnT.f l = some l := by
  rw [spec_l1OwnT.f_eq, room16, bifT (by simp; omega), List.nil_append]
theorem cloneT (l : T) (h : l.length ≤ 1048576) : slices_Clone_Lstring_string.f l = some l := by
  show clone1 16 l = _
  rw [clone1, room16, bifT (by omega)]
abbrev Cu := List Int × Int × Int
/-- so many choices more can be read -/
def Cok (n : Nat) (c : Cu) : Prop := c.1.length ≤ 1048576 ∧ (∀ x ∈ c.1, 0 ≤ x ∧ x ≤ 255) ∧ 0 ≤ c.2.1 ∧ c.2.1 + n ≤ 4611686018427387904
theorem Cok.le {n m : Nat} {c : Cu} (h : Cok n c) (k : m ≤ n) : Cok m c := ⟨h.1, h.2.1, h.2.2.1, by have := h.2.2.2; omega⟩
theorem and255 (x : Int) : 0 ≤ andI .u64 x 255 ∧ andI .u64 x 255 ≤ 255 := by
  have h : (BitVec.ofInt 64 x &&& BitVec.ofInt 64 255).toNat ≤ 255 := by
    rw [BitVec.toNat_and]
    exact Nat.le_trans Nat.and_le_right (by decide)
  unfold andI
  have e : IntKind.wrap .u64 ((BitVec.ofInt IntKind.u64.bits x &&& BitVec.ofInt IntKind.u64.bits 255).toNat : Int) = ((BitVec.ofInt 64 x &&& BitVec.ofInt 64 255).toNat : Int) := by
    show IntKind.wrap .u64 ((BitVec.ofInt 64 x &&& BitVec.ofInt 64 255).toNat : Int) = _
    generalize (BitVec.ofInt 64 x &&& BitVec.ofInt 64 255).toNat = y at h
    unfold IntKind.wrap
    simp [IntKind.bits, IntKind.signed]
    omega
  rw [e]; omega
theorem next_ok {n : Nat} {c : Cu} (h : Cok (n + 1) c) : ∃ (x : Int) (c' : Cu), spec_l1Cur_next.f c = some (x, c') ∧ 0 ≤ x ∧ x ≤ 255 ∧ Cok n c' := by
  obtain ⟨h1, h2, h3, h4⟩ := h
  have hw : w64 (c.2.1 + 1) = c.2.1 + 1 := w64_id (by omega) (by omega)
  have key : ∀ b : Int, 0 ≤ b → b ≤ 255 → ∃ (x : Int) (c' : Cu), spec_l1Cur_next.l9 c b = some (x, c') ∧ 0 ≤ x ∧ x ≤ 255 ∧ Cok n c' := by
    intro b b0 b1
    rw [spec_l1Cur_next.l9_eq]
    simp only [hw]
    by_cases hc : c.2.1 + 1 ≤ (c.1.length : Int)
    · rw [bifT hc]
      exact ⟨_, _, rfl, b0, b1, h1, h2, by show 0 ≤ c.2.1 + 1; omega, by show c.2.1 + 1 + (n : Int) ≤ _; omega⟩
    · rw [bifF hc]
      generalize shrI .u64 (IntKind.wrap .u64 ((IntKind.wrap .u64 ((IntKind.wrap .u64 (c.2.2 * 6364136223846793005)) + (IntKind.wrap .u64 b))) + 1442695040888963407)) 40 = y
      have ha := and255 y
      refine ⟨_, _, rfl, ?_, ?_, h1, h2, by show 0 ≤ c.2.1 + 1; omega, by show c.2.1 + 1 + (n : Int) ≤ _; omega⟩
      · rw [w64_id (by omega) (by omega)]; omega
      · rw [w64_id (by omega) (by omega)]; omega
  rw [spec_l1Cur_next.f_eq]
  by_cases hc : c.2.1 < (c.1.length : Int)
  · rw [bifT hc, bif2T h3 hc]
    have hm := h2 _ (getD_mem (l := c.1) (i := c.2.1.toNat) (by omega) 0)
    rw [w64_id (by omega) (by omega)]
    exact key _ hm.1 hm.2
  · rw [bifF hc]; exact key 0 (by omega) (by omega)
theorem pick_ok {n : Nat} {c : Cu} (h : Cok (n + 2) c) (m : Int) : ∃ (x : Int) (c' : Cu), spec_l1Cur_pick.f c m = some (x, c') ∧ 0 ≤ x ∧ (1 ≤ m → x < m) ∧ (m < 1 → x = 0) ∧ Cok n c' := by
  rw [spec_l1Cur_pick.f_eq]
  by_cases hm : m ≤ 1
  · rw [bifT hm]; exact ⟨0, c, rfl, by omega, by omega, fun _ => rfl, h.le (by omega)⟩
  · rw [bifF hm]
    obtain ⟨x, c1, e1, x0, x1, k1⟩ := next_ok h
    rw [e1, sB]
    simp only
    by_cases hb : m > 200
    · rw [bifT hb]
      obtain ⟨y, c2, e2, y0, y1, k2⟩ := next_ok k1
      rw [e2, sB, bifNT (by omega)]
      simp only
      rw [w64_id (x := x * 256) (by omega) (by omega), w64_id (by omega) (by omega)]
      have e : (x * 256 + y).tmod m = (x * 256 + y) % m := Int.tmod_eq_emod_of_nonneg (by omega)
      rw [e]
      exact ⟨_, _, rfl, Int.emod_nonneg _ (by omega), fun _ => Int.emod_lt_of_pos _ (by omega), by omega, k2⟩
    · rw [bifF hb, bifNT (by omega)]
      have e : x.tmod m = x % m := Int.tmod_eq_emod_of_nonneg x0
      rw [e]
      exact ⟨_, _, rfl, Int.emod_nonneg _ (by omega), fun _ => Int.emod_lt_of_pos _ (by omega), by omega, k1.le (by omega)⟩
theorem one_ok {n : Nat} {c : Cu} (h : Cok (n + 2) c) (m : Int) : ∃ (b : Bool) (c' : Cu), spec_l1Cur_one.f c m = some (b, c') ∧ Cok n c' := by
  obtain ⟨x, c', e, _, _, _, k⟩ := pick_ok h m
  rw [spec_l1Cur_one.f_eq, e, sB]
  exact ⟨_, _, rfl, k⟩
theorem of_ok {n : Nat} {c : Cu} (h : Cok (n + 2) c) (l : T) (hl : 1 ≤ l.length) : ∃ (s : ByteArray) (c' : Cu), spec_l1Cur_of.f c l = some (s, c') ∧ s ∈ l ∧ Cok n c' := by
  obtain ⟨x, c', e, x0, x1, _, k⟩ := pick_ok h (l.length : Int)
  have x1 := x1 (by omega)
  rw [spec_l1Cur_of.f_eq, e, sB]
  simp only
  rw [bif2T x0 x1]
  exact ⟨_, _, rfl, getD_mem (by omega) _, k⟩
/-- texts of so many lines, each of so many bytes -/
def TB (n m : Nat) (l : T) : Prop := l.length ≤ n ∧ ∀ s ∈ l, 1 ≤ s.size ∧ s.size ≤ m
theorem TB.le {n m n' m' : Nat} {l : T} (h : TB n m l) (h1 : n ≤ n') (h2 : m ≤ m') : TB n' m' l := ⟨Nat.le_trans h.1 h1, fun s hs => ⟨(h.2 s hs).1, Nat.le_trans (h.2 s hs).2 h2⟩⟩
theorem TB.sm {n m : Nat} {l : T} (h : TB n m l) (h1 : n ≤ 1048576) (h2 : m ≤ 1048576) : Sm l := ⟨Nat.le_trans h.1 h1, fun s hs => Nat.le_trans (h.2 s hs).2 h2⟩
theorem TB.app {n m n' : Nat} {l k : T} (h : TB n m l) (h' : TB n' m k) : TB (n + n') m (l ++ k) :=
  ⟨by rw [List.length_append]; have := h.1; have := h'.1; omega, fun s hs => (List.mem_append.1 hs).elim (h.2 s) (h'.2 s)⟩
theorem TB.one {m : Nat} {s : ByteArray} (h1 : 1 ≤ s.size) (h2 : s.size ≤ m) : TB 1 m [s] := ⟨by simp, fun t ht => by rw [List.mem_singleton] at ht; subst ht; exact ⟨h1, h2⟩⟩
theorem TB.set {n m : Nat} {l : T} (h : TB n m l) (i : Nat) {s : ByteArray} (h1 : 1 ≤ s.size) (h2 : s.size ≤ m) : TB n m (l.set i s) :=
  ⟨by rw [List.length_set]; exact h.1, fun t ht => (List.mem_or_eq_of_mem_set ht).elim (h.2 t) fun e => by subst e; exact ⟨h1, h2⟩⟩
theorem TB.take {n m : Nat} {l : T} (h : TB n m l) (i : Nat) : TB n m (l.take i) := ⟨by rw [List.length_take]; have := h.1; omega, fun s hs => h.2 s (List.mem_of_mem_take hs)⟩
theorem TB.drop {n m : Nat} {l : T} (h : TB n m l) (i : Nat) : TB n m (l.drop i) := ⟨by rw [List.length_drop]; have := h.1; omega, fun s hs => h.2 s (List.mem_of_mem_drop hs)⟩
theorem line_ok {n : Nat} {c : Cu} (h : Cok (n + 2) c) : ∃ (s : ByteArray) (c' : Cu), spec_l1Cur_line.f c = some (s, c') ∧ s.size ≤ 8 ∧ Cok n c' := by
  rw [spec_l1Cur_line.f_eq]
  obtain ⟨s, c', e, hm, k⟩ := of_ok h [(⟨#[97]⟩ : ByteArray), (⟨#[98]⟩ : ByteArray), (⟨#[99]⟩ : ByteArray), (⟨#[100]⟩ : ByteArray), em, (⟨#[46]⟩ : ByteArray), (⟨#[46, 46]⟩ : ByteArray), (⟨#[111, 110, 101, 32, 116, 119, 111]⟩ : ByteArray), (⟨#[43, 120]⟩ : ByteArray), (⟨#[45, 121]⟩ : ByteArray), (⟨#[92, 32, 122]⟩ : ByteArray), (⟨#[64, 64]⟩ : ByteArray)] (by decide)
  rw [e, sB]
  refine ⟨s, c', rfl, ?_, k⟩
  simp only [List.mem_cons, List.not_mem_nil, or_false] at hm
  rcases hm with h | h | h | h | h | h | h | h | h | h | h | h <;> (subst h; decide)
theorem sz10 : (⟨#[10]⟩ : ByteArray).size = 1 := rfl
theorem ended_size (s : ByteArray) : (s ++ (⟨#[10]⟩ : ByteArray)).size = s.size + 1 := by rw [ByteArray.size_append, sz10]
theorem text_l (n : Nat) : ∀ (k : Nat) (c : Cu) (l : T) (j : Nat), Cok (n + 2 * k + 4) c → TB j 9 l → j + k ≤ 1000 → ∃ (r : T) (c' : Cu), spec_l1Cur_text.l6 c l (k : Int) = some (r, c') ∧ TB (j + k + 1) 9 r ∧ Cok n c' := by
  intro k
  induction k with
  | zero =>
    intro c l j h hl hj
    have hl1 := hl.1
    rw [spec_l1Cur_text.l6_eq, bifF (by omega)]
    obtain ⟨b, c1, e1, k1⟩ := one_ok (n := n + 2) (h.le (by omega)) 5
    rw [e1, sB]
    cases b with
    | false => exact ⟨l, c1, rfl, hl.le (by omega) (by omega), k1.le (by omega)⟩
    | true =>
      simp only [cond_true]
      obtain ⟨s, c2, e2, hs, k2⟩ := of_ok k1 [(⟨#[97]⟩ : ByteArray), (⟨#[101, 110, 100]⟩ : ByteArray), (⟨#[46]⟩ : ByteArray)] (by decide)
      rw [e2, sB, room16, bifT (by simp only [List.length_singleton]; omega)]
      have hs2 : 1 ≤ s.size ∧ s.size ≤ 9 := by
        simp only [List.mem_cons, List.not_mem_nil, or_false] at hs
        rcases hs with h | h | h <;> (subst h; decide)
      exact ⟨_, c2, rfl, (hl.app (TB.one hs2.1 hs2.2)).le (by omega) (by omega), k2⟩
  | succ k ih =>
    intro c l j h hl hj
    have hl1 := hl.1
    rw [spec_l1Cur_text.l6_eq, bifT (by omega)]
    obtain ⟨s, c1, e1, hs, k1⟩ := line_ok (n := n + 2 * k + 4) (h.le (by omega))
    rw [e1, sB]
    simp only
    rw [sz10, room16, bifT (by omega), bifT (by simp only [List.length_singleton]; omega)]
    have e : w64 (((k + 1 : Nat) : Int) - 1) = (k : Int) := by rw [w64_id (by omega) (by omega)]; omega
    rw [e]
    have hs2 := ended_size s
    obtain ⟨r, c2, e2, hr, k2⟩ := ih c1 (l ++ [s ++ (⟨#[10]⟩ : ByteArray)]) (j + 1) k1 (hl.app (TB.one (by omega) (by omega))) (by omega)
    exact ⟨r, c2, e2, hr.le (by omega) (by omega), k2⟩
theorem text_ok {n : Nat} {c : Cu} (h : Cok (n + 100) c) : ∃ (r : T) (c' : Cu), spec_l1Cur_text.f c = some (r, c') ∧ TB 9 9 r ∧ Cok n c' := by
  rw [spec_l1Cur_text.f_eq]
  obtain ⟨x, c1, e1, x0, x1, _, k1⟩ := pick_ok (n := n + 98) h 9
  have x1 := x1 (by omega)
  rw [e1, sB]
  simp only
  obtain ⟨r, c2, e2, hr, k2⟩ := text_l n x.toNat c1 [] 0 (k1.le (by omega)) ⟨by simp, fun s hs => by cases hs⟩ (by omega)
  rw [Int.toNat_of_nonneg x0] at e2
  exact ⟨r, c2, e2, hr.le (by omega) (by omega), k2⟩
theorem anyText_ok {n : Nat} {c : Cu} (h : Cok (n + 102) c) : ∃ (r : T) (c' : Cu), spec_l1Cur_anyText.f c = some (r, c') ∧ r.length ≤ 9 ∧ (∀ s ∈ r, s.size ≤ 9) ∧ (0 < r.length → 1 ≤ (r.getD (r.length - 1) em).size) ∧ Cok n c' := by
  rw [spec_l1Cur_anyText.f_eq]
  obtain ⟨r, c1, e1, hr, k1⟩ := text_ok (n := n + 2) h
  rw [e1, sB]
  simp only
  have hr1 := hr.1
  have hset : ∀ s : ByteArray, s.size ≤ 9 → (r.set 0 s).length ≤ 9 ∧ ∀ t ∈ r.set 0 s, t.size ≤ 9 := fun s hs =>
    ⟨by rw [List.length_set]; omega, fun t ht => (List.mem_or_eq_of_mem_set ht).elim (fun h => (hr.2 t h).2) fun e => by subst e; exact hs⟩
  have hlast : 0 < r.length → 1 ≤ (r.getD (r.length - 1) em).size := fun h => (hr.2 _ (getD_mem (by omega) _)).1
  by_cases hc : (r.length : Int) > 1
  · rw [bifT hc]
    have hlast2 : ∀ s : ByteArray, 0 < (r.set 0 s).length → 1 ≤ ((r.set 0 s).getD ((r.set 0 s).length - 1) em).size := fun s _ => by
      rw [List.length_set, set_else (by omega)]; exact hlast (by omega)
    obtain ⟨x, c2, e2, _, _, _, k2⟩ := pick_ok k1 25
    rw [e2, sB]
    simp only
    have q1 := hset (⟨#[120]⟩ : ByteArray) (by decide)
    have q2 := hset em (by decide)
    have q3 := hset (⟨#[97, 10, 98, 10]⟩ : ByteArray) (by decide)
    by_cases d0 : x = 0
    · rw [bifT d0, bifT (by omega)]; exact ⟨_, c2, rfl, q1.1, q1.2, hlast2 _, k2⟩
    rw [bifF d0]
    by_cases d1 : x = 1
    · rw [bifT d1, bifT (by omega)]; exact ⟨_, c2, rfl, q2.1, q2.2, hlast2 _, k2⟩
    rw [bifF d1]
    by_cases d2 : x = 2
    · rw [bifT d2, bifT (by omega)]; exact ⟨_, c2, rfl, q3.1, q3.2, hlast2 _, k2⟩
    rw [bifF d2]
    exact ⟨r, c2, rfl, hr1, fun s hs => (hr.2 s hs).2, hlast, k2⟩
  · rw [bifF hc]; exact ⟨r, c1, rfl, hr1, fun s hs => (hr.2 s hs).2, hlast, k1.le (by omega)⟩
def wholeB (l : T) : Bool := match l.getLast? with | none => true | some s => decide (endP s)
theorem sWhole (l : T) (h : l.length ≤ 1048576) (hs : 0 < l.length → 1 ≤ (l.getD (l.length - 1) em).size ∧ (l.getD (l.length - 1) em).size ≤ 1048576) : spec_l1Whole.f l = some (wholeB l) := by
  rw [spec_l1Whole.f_eq, wholeB]
  by_cases h0 : (l.length : Int) = 0
  · rw [bifT h0]
    have : l = [] := List.length_eq_zero_iff.1 (by omega)
    subst this; rfl
  · rw [bifF h0, dn1 (by omega) (by omega), bif2T (by omega) (by omega)]
    simp only [Int.toNat_natCast]
    have hm := hs (by omega)
    rw [sEnds _ hm.1 hm.2, sB]
    have e : l.getLast? = some (l.getD (l.length - 1) em) := by
      rw [List.getLast?_eq_getElem?, List.getD_eq_getElem?_getD, List.getElem?_eq_getElem (by omega)]; rfl
    rw [e]
def plainB (s : ByteArray) : ByteArray := if endP s then s.extract 0 (s.size - 1) else s
theorem sPlain (s : ByteArray) (h1 : 1 ≤ s.size) (h2 : s.size ≤ 1048576) : spec_l1Plain.f s = some (plainB s) := by
  rw [spec_l1Plain.f_eq, sEnds s h1 h2, sB, plainB, dn1 (by omega) (by omega)]
  by_cases h : endP s
  · rw [bifT h, if_pos h, bif2T (by omega) (by omega)]; rfl
  · rw [bifF h, if_neg h]
theorem plainB_size (s : ByteArray) : (plainB s).size ≤ s.size := by
  unfold plainB
  split
  · rw [ByteArray.size_extract]; omega
  · exact Nat.le_refl _
theorem em_beq (s : ByteArray) (h : s.size ≠ 0) : (s.toList == em.toList) = false := by
  rw [toList_beq]
  exact decide_eq_false fun e => h (by rw [e]; rfl)
theorem other_l (n m : Nat) (a : T) (hm : 9 ≤ m) (hm2 : m ≤ 1000) : ∀ (k : Nat) (c : Cu) (b : T) (j : Nat), Cok (n + 10 * k + 10) c → TB j m b → j + k ≤ 2000 → ∃ (r : T) (c' : Cu), spec_l1Cur_other.l6 c a b (k : Int) = some (r, c') ∧ TB (j + k) (m + 1) r ∧ Cok n c' := by
  intro k
  induction k with
  | zero =>
    intro c b j h hb hj
    have hb1 := hb.1
    have fin : ∀ (c : Cu) (b : T), Cok n c → TB j (m + 1) b → ∃ (r : T) (c' : Cu), spec_l1Cur_other.l43 c a b = some (r, c') ∧ TB (j + 0) (m + 1) r ∧ Cok n c' := fun c b h hb => ⟨b, c, spec_l1Cur_other.l43_eq c a b, hb, h⟩
    have hbm := hb.le (Nat.le_refl j) (Nat.le_succ m)
    rw [spec_l1Cur_other.l6_eq, bifF (by omega)]
    by_cases h0 : (b.length : Int) > 0
    · rw [bifT h0]
      obtain ⟨x, c1, e1, k1⟩ := one_ok (n := n) (h.le (by omega)) 6
      rw [e1, sB]
      cases x with
      | false => exact fin _ _ k1 hbm
      | true =>
        have hl := hb.2 _ (getD_mem (l := b) (i := b.length - 1) (by omega) em)
        simp only [cond_true]
        rw [dn1 (by omega) (by omega), bif2T (by omega) (by omega)]
        simp only [Int.toNat_natCast]
        rw [sPlain _ hl.1 (by omega), sB, bif2T (by omega) (by omega), sEnds _ hl.1 (by omega), sB]
        have hp := plainB_size (b.getD (b.length - 1) em)
        by_cases he : endP (b.getD (b.length - 1) em)
        · rw [bifNF he]
          by_cases hz : (plainB (b.getD (b.length - 1) em)).size = 0
          · have hz2 : plainB (b.getD (b.length - 1) em) = em := by
              apply bl_inj
              have : (bl (plainB (b.getD (b.length - 1) em))).length = 0 := hz
              rw [List.length_eq_zero_iff.1 this]; rfl
            rw [hz2, toList_beq, bifNF rfl]
            exact fin _ _ k1 hbm
          · rw [em_beq _ hz, Bool.not_false, cond_true, bif2T (by omega) (by omega)]
            exact fin _ _ k1 (hbm.set _ (by omega) (by omega))
        · rw [bifNT he, sz10, bifT (by omega), bif2T (by omega) (by omega)]
          have := ended_size (plainB (b.getD (b.length - 1) em))
          exact fin _ _ k1 (hbm.set _ (by omega) (by omega))
    · rw [bifF h0]; exact fin _ _ (h.le (by omega)) hbm
  | succ k ih =>
    intro c b j h hb hj
    have hb1 := hb.1
    have e : w64 (((k + 1 : Nat) : Int) - 1) = (k : Int) := by rw [w64_id (by omega) (by omega)]; omega
    have nx : ∀ (c : Cu) (b : T), Cok (n + 10 * k + 10) c → TB (j + 1) m b → ∃ (r : T) (c' : Cu), spec_l1Cur_other.l9 c a b ((k + 1 : Nat) : Int) = some (r, c') ∧ TB (j + (k + 1)) (m + 1) r ∧ Cok n c' := by
      intro c b h hb
      rw [spec_l1Cur_other.l9_eq, e]
      obtain ⟨r, c', q1, q2, q3⟩ := ih c b (j + 1) h hb (by omega)
      exact ⟨r, c', q1, q2.le (by omega) (Nat.le_refl _), q3⟩
    have hbj := hb.le (Nat.le_succ j) (Nat.le_refl m)
    rw [spec_l1Cur_other.l6_eq, bifT (by omega), up1 (by omega)]
    obtain ⟨x, c1, e1, x0, x1, _, k1⟩ := pick_ok (n := n + 10 * k + 18) (h.le (by omega)) (((b.length + 1 : Nat)) : Int)
    have x1 := x1 (by omega)
    rw [e1, sB]
    simp only
    obtain ⟨y, c2, e2, y0, y1, _, k2⟩ := pick_ok (n := n + 10 * k + 16) k1 3
    rw [e2, sB]
    simp only
    have k2b := k2.le (m := n + 10 * k + 10) (by omega)
    by_cases d0 : y = 0
    · rw [bifT d0]
      by_cases hx : x < (b.length : Int)
      · rw [bifT hx, bif2T x0 (by omega), ownT _ (by rw [List.length_take]; omega), sB, w64_id (by omega) (by omega), bif2T (by omega) (by omega), room16, bifT (by rw [List.length_take, List.length_drop]; omega)]
        refine nx _ _ k2b ⟨by rw [List.length_append, List.length_take, List.length_drop]; omega, fun s hs => ?_⟩
        rcases List.mem_append.1 hs with hs | hs
        · exact hb.2 s (List.mem_of_mem_take hs)
        · exact hb.2 s (List.mem_of_mem_drop hs)
      · rw [bifF hx]; exact nx _ _ k2b hbj
    rw [bifF d0]
    have ins : ∀ (c : Cu) (s : ByteArray), Cok (n + 10 * k + 10) c → s.size ≤ 8 → ∃ (r : T) (c' : Cu), spec_l1Cur_other.l9 c a (((b.take x.toNat) ++ [s ++ (⟨#[10]⟩ : ByteArray)]) ++ (b.drop x.toNat)) ((k + 1 : Nat) : Int) = some (r, c') ∧ TB (j + (k + 1)) (m + 1) r ∧ Cok n c' := by
      intro c s hc hs
      have hs2 := ended_size s
      refine nx _ _ hc ⟨by simp only [List.length_append, List.length_take, List.length_drop, List.length_singleton]; omega, fun t ht => ?_⟩
      rcases List.mem_append.1 ht with ht | ht
      · rcases List.mem_append.1 ht with ht | ht
        · exact hb.2 t (List.mem_of_mem_take ht)
        · rw [List.mem_singleton] at ht; subst ht; omega
      · exact hb.2 t (List.mem_of_mem_drop ht)
    by_cases d1 : y = 1
    · rw [bifT d1]
      by_cases hx : x < (b.length : Int)
      · have hl := hb.2 _ (getD_mem (l := b) (i := x.toNat) (by omega) em)
        rw [bifT hx, bif2T x0 hx, sEnds _ hl.1 (by omega), sB]
        by_cases he : endP (b.getD x.toNat em)
        · rw [bifT he]
          obtain ⟨s, c3, e3, hs, k3⟩ := line_ok (n := n + 10 * k + 10) (k2.le (by omega))
          have hs2 := ended_size s
          rw [e3, sB]
          simp only
          rw [sz10, bifT (by omega), bif2T x0 hx]
          exact nx _ _ k3 (hbj.set _ (by omega) (by omega))
        · rw [bifF he]; exact nx _ _ k2b hbj
      · rw [bifF hx]; exact nx _ _ k2b hbj
    rw [bifF d1]
    by_cases hx : x < (b.length : Int)
    · rw [bifT hx, bif2T x0 (by omega), ownT _ (by rw [List.length_take]; omega), sB]
      obtain ⟨s, c3, e3, hs, k3⟩ := line_ok (n := n + 10 * k + 10) (k2.le (by omega))
      rw [e3, sB]
      simp only
      rw [sz10, bifT (by omega), room16, bifT (by simp only [List.length_take, List.length_singleton]; omega), bif2T x0 (by omega), bifT (by simp only [List.length_append, List.length_take, List.length_drop, List.length_singleton]; omega)]
      exact ins _ s k3 hs
    · rw [bifF hx, sWhole b (by omega) (fun h => by have := hb.2 _ (getD_mem (l := b) (i := b.length - 1) (by omega) em); exact ⟨this.1, by omega⟩), sB]
      cases wholeB b with
      | false => exact nx _ _ k2b hbj
      | true =>
        rw [cond_true, bif2T x0 (by omega), ownT _ (by rw [List.length_take]; omega), sB]
        obtain ⟨s, c3, e3, hs, k3⟩ := line_ok (n := n + 10 * k + 10) (k2.le (by omega))
        rw [e3, sB]
        simp only
        rw [sz10, bifT (by omega), room16, bifT (by simp only [List.length_take, List.length_singleton]; omega), bif2T x0 (by omega), bifT (by simp only [List.length_append, List.length_take, List.length_drop, List.length_singleton]; omega)]
        exact ins _ s k3 hs
theorem other_ok {n : Nat} {c : Cu} (h : Cok (n + 100) c) (a : T) (i m : Nat) (ha : TB i m a) (hi : i ≤ 1000) (hm : 9 ≤ m) (hm2 : m ≤ 1000) : ∃ (r : T) (c' : Cu), spec_l1Cur_other.f c a = some (r, c') ∧ TB (i + 3) (m + 1) r ∧ Cok n c' := by
  have ha1 := ha.1
  rw [spec_l1Cur_other.f_eq, ownT a (by omega), sB]
  obtain ⟨x, c1, e1, x0, x1, _, k1⟩ := pick_ok (n := n + 98) h 4
  have x1 := x1 (by omega)
  rw [e1, sB]
  simp only
  obtain ⟨r, c2, e2, hr, k2⟩ := other_l n m a hm hm2 x.toNat c1 a i (k1.le (by omega)) ha (by omega)
  rw [Int.toNat_of_nonneg x0] at e2
  exact ⟨r, c2, e2, hr.le (by omega) (Nat.le_refl _), k2⟩
theorem TB.last {n m : Nat} {l : T} (h : TB n m l) (hm : m ≤ 1048576) : 0 < l.length → 1 ≤ (l.getD (l.length - 1) em).size ∧ (l.getD (l.length - 1) em).size ≤ 1048576 := fun h0 => by
  have := h.2 _ (getD_mem (l := l) (i := l.length - 1) (by omega) em); exact ⟨this.1, by omega⟩
/-- one hunk stands within -/
def okP (many : Int) (x : Hk) : Prop := 0 ≤ x.1 ∧ 0 ≤ x.2.1 ∧ x.1 + x.2.1 ≤ many
instance (many : Int) (x : Hk) : Decidable (okP many x) := by unfold okP; exact inferInstance
def oneB (many pe : Int) (x : Hk) : Bool := decide (okP many x ∧ ¬ (x.2.1 = 0 ∧ x.2.2.length = 0) ∧ x.2.2.length ≤ 40 ∧ pe < x.1) && allLines x.2.2
def hunksB (many : Int) : Int → List Hk → Bool
  | _, [] => true
  | pe, x :: r => oneB many pe x && hunksB many (x.1 + x.2.1) r
def peOf (h : List Hk) (i : Nat) : Int := if i = 0 then -1 else (h.getD (i - 1) hz).1 + (h.getD (i - 1) hz).2.1
/-- of a size that is let through -/
def HkSm (g : List Hk) : Prop := g.length ≤ 1048576 ∧ ∀ h ∈ g, Sm h.2.2
theorem pe_succ (h : List Hk) (i : Nat) : peOf h (i + 1) = (h.getD i hz).1 + (h.getD i hz).2.1 := by unfold peOf; rw [if_neg (by omega)]; rfl
theorem hB_step (many : Int) (h : List Hk) {i : Nat} (hi : i < h.length) : hunksB many (peOf h i) (h.drop i) = (oneB many (peOf h i) (h.getD i hz) && hunksB many (peOf h (i + 1)) (h.drop (i + 1))) := by
  rw [drop_at hi hz, pe_succ]; rfl
theorem sHunks (many : Int) (h : List Hk) (h0 : 0 ≤ many) (h1 : many ≤ 1048576) (hs : HkSm h) : spec_l2Hunks.f many h = some (hunksB many (-1) h && (decide (h.length ≤ 20) && decide (many ≤ 40))) := by
  have hL := hs.1
  have lines : ∀ (l : T), Sm l → ∀ (i : Nat) (R : Bool), i < h.length → spec_l2Hunks.l4 many h h (h.length : Int) ((i + 1 : Nat) : Int) = some R → ∀ k, k ≤ l.length → spec_l2Hunks.l14 many h h (h.length : Int) (i : Int) l (l.length : Int) (k : Int) = some (allLines (l.drop k) && R) := by
    intro l hl i R hi hR
    have hl1 := hl.1
    apply downTo
    · rw [spec_l2Hunks.l14_eq, bifF (by omega), up1 (by omega), hR, List.drop_eq_nil_of_le (by omega)]; rfl
    · intro k hk ih
      rw [spec_l2Hunks.l14_eq, bifT (by omega), bif2T (by omega) (by omega), up1 (i := k) (by omega)]
      simp only [Int.toNat_natCast]
      rw [sLine _ (hl.2 _ (getD_mem hk em)), sB, ih, drop_at hk em, allLines_cons]
      by_cases hp : lineP (l.getD k em)
      · rw [bifNF hp, decide_eq_true hp, Bool.true_and]
      · rw [bifNT hp, decide_eq_false hp, Bool.false_and, Bool.false_and]
  have key : ∀ i, i ≤ h.length → (0 < i → okP many (h.getD (i - 1) hz)) → spec_l2Hunks.l4 many h h (h.length : Int) (i : Int) = some (hunksB many (peOf h i) (h.drop i) && (decide (h.length ≤ 20) && decide (many ≤ 40))) := by
    apply downTo
    · intro _
      rw [spec_l2Hunks.l4_eq, bifF (by omega), List.drop_eq_nil_of_le (by omega)]
      show _ = some (true && _)
      rw [Bool.true_and]
      by_cases hl : h.length ≤ 20
      · rw [bifT (by omega), sIn, sB, decide_eq_true hl, Bool.true_and]
        congr 1; rw [decide_eq_decide]; omega
      · rw [bifF (by omega), decide_eq_false hl]; rfl
    · intro i hi ih hprev
      have hsm := hs.2 _ (getD_mem hi hz)
      have hsl := hsm.1
      rw [hB_step many h hi, spec_l2Hunks.l4_eq, bifT (by omega), bif2T (by omega) (by omega)]
      obtain ⟨⟨x1, x2, x3⟩, hx⟩ : ∃ x : Hk, h.getD i (0, 0, []) = x := ⟨_, rfl⟩
      simp only [Int.toNat_natCast, hx]
      rw [show h.getD i hz = (x1, x2, x3) from hx] at hsm hsl
      simp only at hsm hsl
      have fl : ∀ {P : Prop}, ¬ (okP many (x1, x2, x3) ∧ ¬ (x2 = 0 ∧ x3.length = 0) ∧ x3.length ≤ 40 ∧ peOf h i < x1) → some false = some (oneB many (peOf h i) (x1, x2, x3) && hunksB many (peOf h (i + 1)) (h.drop (i + 1)) && (decide (h.length ≤ 20) && decide (many ≤ 40))) := by
        intro P hn
        unfold oneB
        rw [decide_eq_false hn, Bool.false_and, Bool.false_and, Bool.false_and]
      by_cases c1 : x1 < 0
      · rw [bifT c1]; exact fl (P := True) (by unfold okP; simp only; omega)
      rw [bifF c1]
      by_cases c2 : x2 < 0
      · rw [bifT c2]; exact fl (P := True) (by unfold okP; simp only; omega)
      rw [bifF c2]
      by_cases c3 : x2 > many
      · rw [bifT c3]; exact fl (P := True) (by unfold okP; simp only; omega)
      rw [bifF c3, w64_id (x := many - x2) (by omega) (by omega)]
      by_cases c4 : x1 > many - x2
      · rw [bifT c4]; exact fl (P := True) (by unfold okP; simp only; omega)
      rw [bifF c4, w64_id (x := x2 + (x3.length : Int)) (by omega) (by omega)]
      by_cases c5 : x2 + (x3.length : Int) = 0
      · rw [bifT c5]; exact fl (P := True) (by omega)
      rw [bifF c5]
      by_cases c6 : (x3.length : Int) > 40
      · rw [bifT c6]; exact fl (P := True) (by omega)
      rw [bifF c6]
      have hok : okP many (x1, x2, x3) := by unfold okP; simp only; omega
      have nxt := ih (fun _ => by rw [Nat.add_sub_cancel, show h.getD i hz = (x1, x2, x3) from hx]; exact hok)
      have go : peOf h i < x1 → spec_l2Hunks.l13 many h (x1, x2, x3) h (h.length : Int) (i : Int) = some (oneB many (peOf h i) (x1, x2, x3) && hunksB many (peOf h (i + 1)) (h.drop (i + 1)) && (decide (h.length ≤ 20) && decide (many ≤ 40))) := by
        intro hp
        rw [spec_l2Hunks.l13_eq]
        have := lines x3 hsm i _ hi nxt 0 (by omega)
        rw [List.drop_zero] at this
        refine this.trans ?_
        unfold oneB
        rw [decide_eq_true (show okP many (x1, x2, x3) ∧ ¬ (x2 = 0 ∧ x3.length = 0) ∧ x3.length ≤ 40 ∧ peOf h i < x1 from ⟨hok, by omega, by omega, hp⟩), Bool.true_and, Bool.and_assoc]
      by_cases c7 : (i : Int) > 0
      · have hpr := hprev (by omega)
        unfold okP at hpr
        have hd : w64 ((i : Int) - 1) = ((i - 1 : Nat) : Int) := dn1 (by omega) (by omega)
        have hpe : peOf h i = (h.getD (i - 1) hz).1 + (h.getD (i - 1) hz).2.1 := by unfold peOf; rw [if_neg (by omega)]
        have hw9 : w64 ((h.getD (i - 1) ((0, 0, []) : Hk)).1 + (h.getD (i - 1) ((0, 0, []) : Hk)).2.1) = peOf h i := by
          show w64 ((h.getD (i - 1) hz).1 + (h.getD (i - 1) hz).2.1) = _
          rw [hpe]; exact w64_id (by omega) (by omega)
        simp only [hd, Int.toNat_natCast, hw9]
        rw [bifT c7, bif2T (by omega) (by omega), bif2T (by omega) (by omega)]
        by_cases c8 : x1 ≤ peOf h i
        · rw [bifT c8]; exact fl (P := True) (by omega)
        · rw [bifF c8]; exact go (by omega)
      · rw [bifF c7]
        have : i = 0 := by omega
        exact go (by unfold peOf; rw [if_pos this]; omega)
  rw [spec_l2Hunks.f_eq]
  exact key 0 (by omega) (fun h => absurd h (Nat.lt_irrefl 0))
theorem iHunks (many : Int) (h : List Hk) (h0 : 0 ≤ many) (h1 : many ≤ 1048576) (hs : HkSm h) : impl_goodHunks.f many h = some (hunksB many (-1) h && (decide (h.length ≤ 20) && decide (many ≤ 40))) := by
  have hL := hs.1
  have key : ∀ i, i ≤ h.length → (0 < i → okP many (h.getD (i - 1) hz)) → impl_goodHunks.l8 many h h (h.length : Int) (i : Int) = some (hunksB many (peOf h i) (h.drop i)) := by
    apply downTo
    · intro _
      rw [impl_goodHunks.l8_eq, bifF (by omega), List.drop_eq_nil_of_le (by omega)]; rfl
    · intro i hi ih hprev
      have hsm := hs.2 _ (getD_mem hi hz)
      have hsl := hsm.1
      rw [hB_step many h hi, impl_goodHunks.l8_eq, bifT (by omega), bif2T (by omega) (by omega)]
      obtain ⟨⟨x1, x2, x3⟩, hx⟩ : ∃ x : Hk, h.getD i (0, 0, []) = x := ⟨_, rfl⟩
      simp only [Int.toNat_natCast, hx]
      rw [show h.getD i hz = (x1, x2, x3) from hx] at hsm hsl
      simp only at hsm hsl
      have fl : ∀ {P : Prop}, ¬ (okP many (x1, x2, x3) ∧ ¬ (x2 = 0 ∧ x3.length = 0) ∧ x3.length ≤ 40 ∧ peOf h i < x1) → some false = some (oneB many (peOf h i) (x1, x2, x3) && hunksB many (peOf h (i + 1)) (h.drop (i + 1))) := by
        intro P hn
        unfold oneB
        rw [decide_eq_false hn, Bool.false_and, Bool.false_and]
      rw [iIn, sB]
      by_cases c1 : 0 ≤ x1 ∧ x1 ≤ many
      case neg => rw [bifNT c1]; exact fl (P := True) (by unfold okP; simp only; omega)
      rw [bifNF c1, w64_id (x := many - x1) (by omega) (by omega), iIn, sB]
      by_cases c2 : 0 ≤ x2 ∧ x2 ≤ many - x1
      case neg => rw [bifNT c2]; exact fl (P := True) (by unfold okP; simp only; omega)
      rw [bifNF c2, iAre _ hsm, sB]
      have hok : okP many (x1, x2, x3) := by unfold okP; simp only; omega
      have nxt := ih (fun _ => by rw [Nat.add_sub_cancel, show h.getD i hz = (x1, x2, x3) from hx]; exact hok)
      by_cases c6 : x3.length ≤ 40
      case neg => rw [decide_eq_false c6, Bool.false_and, notF]; exact fl (P := True) (by omega)
      rw [decide_eq_true c6, Bool.true_and]
      cases hal : allLines x3 with
      | false => rw [notF]; unfold oneB; rw [hal, Bool.and_false, Bool.false_and]
      | true =>
        rw [notT]
        have one : ∀ (hp : ¬ (x2 = 0 ∧ x3.length = 0)), impl_goodHunks.l17 many h (i : Int) (x1, x2, x3) h (h.length : Int) (i : Int) = some (oneB many (peOf h i) (x1, x2, x3) && hunksB many (peOf h (i + 1)) (h.drop (i + 1))) := by
          intro hp
          rw [impl_goodHunks.l17_eq]
          by_cases c7 : (i : Int) > 0
          · have hpr := hprev (by omega)
            unfold okP at hpr
            have hd : w64 ((i : Int) - 1) = ((i - 1 : Nat) : Int) := dn1 (by omega) (by omega)
            have hpe : peOf h i = (h.getD (i - 1) hz).1 + (h.getD (i - 1) hz).2.1 := by unfold peOf; rw [if_neg (by omega)]
            have hw9 : w64 ((h.getD (i - 1) ((0, 0, []) : Hk)).1 + (h.getD (i - 1) ((0, 0, []) : Hk)).2.1) = peOf h i := by
              show w64 ((h.getD (i - 1) hz).1 + (h.getD (i - 1) hz).2.1) = _
              rw [hpe]; exact w64_id (by omega) (by omega)
            simp only [hd, Int.toNat_natCast, hw9]
            rw [bifT c7, bif2T (by omega) (by omega), bif2T (by omega) (by omega)]
            by_cases c8 : x1 ≤ peOf h i
            · rw [bifT c8]; exact fl (P := True) (by omega)
            · rw [bifF c8, up1 (by omega), nxt]
              unfold oneB
              rw [hal, decide_eq_true (show okP many (x1, x2, x3) ∧ ¬ (x2 = 0 ∧ x3.length = 0) ∧ x3.length ≤ 40 ∧ peOf h i < x1 from ⟨hok, hp, c6, by omega⟩)]; rfl
          · have hi0 : i = 0 := by omega
            have hp2 : peOf h i < x1 := by unfold peOf; rw [if_pos hi0]; omega
            rw [bifF c7, up1 (by omega), nxt]
            unfold oneB
            rw [hal, decide_eq_true (show okP many (x1, x2, x3) ∧ ¬ (x2 = 0 ∧ x3.length = 0) ∧ x3.length ≤ 40 ∧ peOf h i < x1 from ⟨hok, hp, c6, hp2⟩)]; rfl
        by_cases c9 : x2 = 0
        · rw [bifT c9]
          by_cases c10 : (x3.length : Int) = 0
          · rw [bifT c10]; exact fl (P := True) (by omega)
          · rw [bifF c10]; exact one (by omega)
        · rw [bifF c9]; exact one (by omega)
  rw [impl_goodHunks.f_eq, iIn, sB]
  by_cases hm : 0 ≤ many ∧ many ≤ 40
  · rw [bifNF hm, decide_eq_true (show many ≤ 40 from hm.2), Bool.and_true]
    by_cases hl : (h.length : Int) > 20
    · rw [bifT hl, decide_eq_false (show ¬ h.length ≤ 20 by omega), Bool.and_false]
    · rw [bifF hl, decide_eq_true (show h.length ≤ 20 by omega), Bool.and_true, impl_goodHunks.l7_eq]
      exact key 0 (by omega) (fun h => absurd h (Nat.lt_irrefl 0))
  · rw [bifNT hm, decide_eq_false (show ¬ many ≤ 40 by omega), Bool.and_false, Bool.and_false]
/-- what stands behind hunks, from a place on -/
def pat (l : T) : Nat → List Hk → T
  | k, [] => l.drop k
  | k, x :: r => ((l.take x.1.toNat).drop k ++ x.2.2) ++ pat l (x.1 + x.2.1).toNat r
/-- hunks are good for so many lines -/
def hunksG (many : Int) (h : List Hk) : Bool := hunksB many (-1) h && (decide (h.length ≤ 20) && decide (many ≤ 40))
def patchB (l : T) (h : List Hk) : T × Bool :=
  if goodB l = true ∧ hunksG (l.length : Int) h = true ∧ goodB (pat l 0 h) = true then (pat l 0 h, true) else ([], false)
theorem oneB_in {many pe : Int} {x : Hk} (h : oneB many pe x = true) : okP many x ∧ ¬ (x.2.1 = 0 ∧ x.2.2.length = 0) ∧ x.2.2.length ≤ 40 ∧ pe < x.1 ∧ allLines x.2.2 = true := by
  unfold oneB at h
  simp only [Bool.and_eq_true, decide_eq_true_eq] at h
  exact ⟨h.1.1, h.1.2.1, h.1.2.2.1, h.1.2.2.2, h.2⟩
theorem hunksB_cons {many pe : Int} {x : Hk} {r : List Hk} (h : hunksB many pe (x :: r) = true) : oneB many pe x = true ∧ hunksB many (x.1 + x.2.1) r = true := by
  have : (oneB many pe x && hunksB many (x.1 + x.2.1) r) = true := h
  rwa [Bool.and_eq_true] at this
theorem pat_len (l : T) (hl : l.length ≤ 40) : ∀ (r : List Hk) (k : Nat) (pe : Int), hunksB (l.length : Int) pe r = true → (pat l k r).length ≤ 40 + 80 * r.length
  | [], k, pe, _ => by rw [pat, List.length_drop]; simp only [List.length_nil]; omega
  | x :: r, k, pe, h => by
    obtain ⟨h1, h2⟩ := hunksB_cons h
    have h3 := oneB_in h1
    have := pat_len l hl r (x.1 + x.2.1).toNat _ h2
    rw [pat]
    simp only [List.length_append, List.length_drop, List.length_take, List.length_cons]
    omega
theorem pat_mem (l : T) : ∀ (r : List Hk) (k : Nat), ∀ s ∈ pat l k r, s ∈ l ∨ ∃ x ∈ r, s ∈ x.2.2
  | [], k, s, h => .inl (List.mem_of_mem_drop h)
  | x :: r, k, s, h => by
    rw [pat] at h
    rcases List.mem_append.1 h with h | h
    · rcases List.mem_append.1 h with h | h
      · exact .inl (List.mem_of_mem_take (List.mem_of_mem_drop h))
      · exact .inr ⟨x, by simp, h⟩
    · rcases pat_mem l r _ s h with h | ⟨y, hy, h⟩
      · exact .inl h
      · exact .inr ⟨y, by simp [hy], h⟩
theorem sPat (l : T) (hl : l.length ≤ 40) (h : List Hk) (hh : hunksB (l.length : Int) (-1) h = true) (h20 : h.length ≤ 20) : spec_l2Patch.f l h = some (pat l 0 h) := by
  have key : ∀ (rest pre : List Hk) (out : T) (k : Nat) (pe : Int), h = pre ++ rest → hunksB (l.length : Int) pe rest = true → (pe = -1 ∧ k = 0 ∨ pe = (k : Int)) → k ≤ l.length → out.length ≤ 80 * pre.length →
      spec_l2Patch.l8 l out (k : Int) h (h.length : Int) (pre.length : Int) = some (out ++ pat l k rest) := by
    intro rest
    induction rest with
    | nil =>
      intro pre out k pe hf hb hk hkl ho
      have hpl : h.length = pre.length := by rw [hf]; simp
      rw [spec_l2Patch.l8_eq, bifF (by omega), bif2T (by omega) (by omega), room16]
      simp only [Int.toNat_natCast]
      rw [bifT (by rw [List.length_drop]; omega)]; rfl
    | cons x r ih =>
      intro pre out k pe hf hb hk hkl ho
      obtain ⟨h1, h2⟩ := hunksB_cons hb
      obtain ⟨⟨q1, q2, q3⟩, q4, q5, q6, _⟩ := oneB_in h1
      have hpl : h.length = pre.length + (r.length + 1) := by rw [hf]; simp
      have hg : h.getD pre.length (0, 0, []) = x := by rw [hf]; exact getD_mid pre x r _
      rw [spec_l2Patch.l8_eq, bifT (by omega), bif2T (by omega) (by omega), up1 (by omega), room16]
      simp only [Int.toNat_natCast, hg]
      rw [bif3T (by omega) (by omega) (by omega), bifT (by simp only [List.length_drop, List.length_take]; omega), bifT (by simp only [List.length_append, List.length_drop, List.length_take]; omega), w64_id (by omega) (by omega)]
      have := ih (pre ++ [x]) ((out ++ (l.take x.1.toNat).drop k) ++ x.2.2) (x.1 + x.2.1).toNat (x.1 + x.2.1) (by rw [hf]; simp) h2 (.inr (by omega)) (by omega) (by simp only [List.length_append, List.length_drop, List.length_take, List.length_singleton]; omega)
      rw [Int.toNat_of_nonneg (by omega), List.length_append, List.length_singleton] at this
      rw [this, pat]
      simp only [List.append_assoc]
  rw [spec_l2Patch.f_eq]
  exact key h [] [] 0 (-1) rfl hh (.inl ⟨rfl, rfl⟩) (by omega) (by simp)
theorem iPat (l : T) (hl : l.length ≤ 40) (h : List Hk) (hh : hunksB (l.length : Int) (-1) h = true) (h20 : h.length ≤ 20) : impl_patched.f l h = some (pat l 0 h) := by
  have key : ∀ (rest pre : List Hk) (out : T) (k : Nat) (pe : Int), h = pre ++ rest → hunksB (l.length : Int) pe rest = true → (pe = -1 ∧ k = 0 ∨ pe = (k : Int)) → k ≤ l.length → out.length ≤ 80 * pre.length →
      impl_patched.l6 l out (k : Int) h (h.length : Int) (pre.length : Int) = some (out ++ pat l k rest) := by
    intro rest
    induction rest with
    | nil =>
      intro pre out k pe hf hb hk hkl ho
      have hpl : h.length = pre.length := by rw [hf]; simp
      rw [impl_patched.l6_eq, bifF (by omega), bif2T (by omega) (by omega), room16]
      simp only [Int.toNat_natCast]
      rw [bifT (by rw [List.length_drop]; omega)]; rfl
    | cons x r ih =>
      intro pre out k pe hf hb hk hkl ho
      obtain ⟨h1, h2⟩ := hunksB_cons hb
      obtain ⟨⟨q1, q2, q3⟩, q4, q5, q6, _⟩ := oneB_in h1
      have hpl : h.length = pre.length + (r.length + 1) := by rw [hf]; simp
      have hg : h.getD pre.length (0, 0, []) = x := by rw [hf]; exact getD_mid pre x r _
      rw [impl_patched.l6_eq, bifT (by omega), bif2T (by omega) (by omega), up1 (by omega), room16]
      simp only [Int.toNat_natCast, hg]
      rw [bif3T (by omega) (by omega) (by omega), bifT (by simp only [List.length_drop, List.length_take]; omega), bifT (by simp only [List.length_append, List.length_drop, List.length_take]; omega), w64_id (by omega) (by omega)]
      have := ih (pre ++ [x]) ((out ++ (l.take x.1.toNat).drop k) ++ x.2.2) (x.1 + x.2.1).toNat (x.1 + x.2.1) (by rw [hf]; simp) h2 (.inr (by omega)) (by omega) (by simp only [List.length_append, List.length_drop, List.length_take, List.length_singleton]; omega)
      rw [Int.toNat_of_nonneg (by omega), List.length_append, List.length_singleton] at this
      rw [this, pat]
      simp only [List.append_assoc]
  rw [impl_patched.f_eq]
  exact key h [] [] 0 (-1) rfl hh (.inl ⟨rfl, rfl⟩) (by omega) (by simp)
theorem pat_sm {l : T} {h : List Hk} (hl : Sm l) (hh : HkSm h) (hg : goodB l = true) (hb : hunksG (l.length : Int) h = true) : Sm (pat l 0 h) := by
  unfold hunksG at hb
  simp only [Bool.and_eq_true, decide_eq_true_eq] at hb
  have h40 := good_len hg
  refine ⟨by have := pat_len l h40 h 0 (-1) hb.1; omega, fun s hs => ?_⟩
  rcases pat_mem l h 0 s hs with hs | ⟨x, hx, hs⟩
  · exact hl.2 s hs
  · exact (hh.2 x hx).2 s hs
theorem sPatch (l : T) (h : List Hk) (hl : Sm l) (hh : HkSm h) : spec_Patch.f l h = some (patchB l h) := by
  have hL := hl.1
  rw [spec_Patch.f_eq, spec_l2Asked.f_eq, sGood l hl, sB]
  unfold patchB
  cases g1 : goodB l with
  | false => rfl
  | true =>
    rw [cond_true, sHunks _ h (by omega) (by omega) hh, sB]
    show ((some (hunksG (l.length : Int) h)).bind _) = _
    rw [sB]
    cases g2 : hunksG (l.length : Int) h with
    | false => rfl
    | true =>
      have hb := g2
      unfold hunksG at hb
      simp only [Bool.and_eq_true, decide_eq_true_eq] at hb
      rw [notT, sPat l (good_len g1) h hb.1 hb.2.1, sB, sGood _ (pat_sm hl hh g1 g2), sB]
      cases g3 : goodB (pat l 0 h) with
      | false => rfl
      | true => rfl
theorem iPatch (l : T) (h : List Hk) (hl : Sm l) (hh : HkSm h) : impl_Patch.f l h = some (patchB l h) := by
  have hL := hl.1
  rw [impl_Patch.f_eq, iGood l hl, sB]
  unfold patchB
  cases g1 : goodB l with
  | false => rfl
  | true =>
    rw [notT, iHunks _ h (by omega) (by omega) hh, sB]
    show (bif !(hunksG (l.length : Int) h) then _ else _) = _
    cases g2 : hunksG (l.length : Int) h with
    | false => rfl
    | true =>
      have hb := g2
      unfold hunksG at hb
      simp only [Bool.and_eq_true, decide_eq_true_eq] at hb
      rw [notT, impl_Patch.l7_eq, iPat l (good_len g1) h hb.1 hb.2.1, sB, iGood _ (pat_sm hl hh g1 g2), sB]
      cases g3 : goodB (pat l 0 h) with
      | false => rfl
      | true => rfl
theorem patchB_ok {l : T} {h : List Hk} (k : (patchB l h).2 = true) : goodB l = true ∧ hunksG (l.length : Int) h = true ∧ goodB (pat l 0 h) = true ∧ (patchB l h).1 = pat l 0 h := by
  unfold patchB at k ⊢
  split at k
  · rename_i hc; rw [if_pos hc]; exact ⟨hc.1, hc.2.1, hc.2.2, rfl⟩
  · cases k
/-- bytes that came in -/
theorem cok_of {code : List Int} (g : Bd (.list (.int .u8)) code) (h : code.length ≤ 1048576) : Cok 1000000000 (code, 0, 0) := by
  refine ⟨h, fun x hx => ?_, Int.le_refl _, by show (0 : Int) + _ ≤ _; omega⟩
  have := g.2 x hx
  have h2 : (decide (IntKind.u8.min ≤ x) && decide (x ≤ IntKind.u8.max)) = true := this
  rw [Bool.and_eq_true, decide_eq_true_eq, decide_eq_true_eq] at h2
  exact h2
theorem big_ok {code more : List Int} (h1 : code.length ≤ 140737488351232) (h2 : more.length ≤ 140737488351232) : ∃ b : Bool, laws_big.f code more = some b ∧ (b = false → code.length ≤ 1048576 ∧ more.length ≤ 1048576) := by
  rw [laws_big.f_eq]
  by_cases h : (code.length : Int) > 1048576
  · rw [bifT h]; exact ⟨true, rfl, fun h => by cases h⟩
  · rw [bifF h, w64_id (by omega) (by omega)]
    refine ⟨_, rfl, fun k => ?_⟩
    rw [decide_eq_false_iff_not] at k
    omega
def inn (x : ByteArray) (f : T → Nat) : T → Nat
  | [] => 0
  | y :: ys => if x = y then f ys + 1 else max (f (y :: ys)) (inn x f ys)
def lcs : T → T → Nat
  | [], _ => 0
  | x :: xs, ys => inn x (lcs xs) ys
theorem lcs_nil (xs : T) : lcs xs [] = 0 := by cases xs <;> rfl
theorem lcs_cons (x : ByteArray) (xs : T) (y : ByteArray) (ys : T) : lcs (x :: xs) (y :: ys) = if x = y then lcs xs ys + 1 else max (lcs xs (y :: ys)) (lcs (x :: xs) ys) := rfl
theorem lcs_step : ∀ (n : Nat) (xs ys : T), xs.length + ys.length ≤ n →
    (∀ x, lcs xs ys ≤ lcs (x :: xs) ys ∧ lcs (x :: xs) ys ≤ lcs xs ys + 1) ∧ (∀ y, lcs xs ys ≤ lcs xs (y :: ys) ∧ lcs xs (y :: ys) ≤ lcs xs ys + 1) := by
  intro n
  induction n with
  | zero =>
    intro xs ys h
    have h1 : xs.length = 0 := by omega
    have h2 : ys.length = 0 := by omega
    obtain rfl := List.length_eq_zero_iff.1 h1
    obtain rfl := List.length_eq_zero_iff.1 h2
    exact ⟨fun x => ⟨Nat.le_refl _, Nat.le_succ _⟩, fun y => ⟨Nat.le_refl _, Nat.le_succ _⟩⟩
  | succ n ih =>
    intro xs ys h
    refine ⟨fun x => ?_, fun y => ?_⟩
    · cases ys with
      | nil => rw [lcs_nil, lcs_nil]; omega
      | cons y ys =>
        have hI := ih xs ys (by simp at h; omega)
        have h1 := hI.1 x
        have h2 := hI.2 y
        rw [lcs_cons]
        split
        · omega
        · omega
    · cases xs with
      | nil => exact ⟨Nat.le_refl _, Nat.zero_le _⟩
      | cons x xs =>
        have hI := ih xs ys (by simp at h; omega)
        have h1 := hI.1 x
        have h2 := hI.2 y
        rw [lcs_cons]
        split
        · omega
        · omega
theorem lcs_le : ∀ xs ys : T, lcs xs ys ≤ xs.length
  | [], _ => Nat.le_refl _
  | x :: xs, ys => by
    have h1 := lcs_le xs ys
    have h2 := ((lcs_step _ xs ys (Nat.le_refl _)).1 x).2
    rw [List.length_cons]; omega
def tv (a b : T) (i j : Nat) : Nat := lcs (a.drop i) (b.drop j)
theorem tv_i {a b : T} {i j : Nat} (h : a.length ≤ i) : tv a b i j = 0 := by unfold tv; rw [List.drop_eq_nil_of_le h]; rfl
theorem tv_j {a b : T} {i j : Nat} (h : b.length ≤ j) : tv a b i j = 0 := by unfold tv; rw [List.drop_eq_nil_of_le h, lcs_nil]
theorem tv_le (a b : T) (i j : Nat) : tv a b i j ≤ a.length := by
  unfold tv
  have := lcs_le (a.drop i) (b.drop j)
  rw [List.length_drop] at this; omega
theorem tv_step {a b : T} {i j : Nat} (hi : i < a.length) (hj : j < b.length) : tv a b i j = if a.getD i em = b.getD j em then tv a b (i + 1) (j + 1) + 1 else max (tv a b (i + 1) j) (tv a b i (j + 1)) := by
  unfold tv
  rw [drop_at hi em, drop_at hj em]
  exact lcs_cons _ _ _ _
theorem tv_near {a b : T} {i j : Nat} (hi : i < a.length) (hj : j < b.length) : tv a b (i + 1) j ≤ tv a b (i + 1) (j + 1) + 1 ∧ tv a b i (j + 1) ≤ tv a b (i + 1) (j + 1) + 1 := by
  unfold tv
  have h := lcs_step _ (a.drop (i + 1)) (b.drop (j + 1)) (Nat.le_refl _)
  have h1 := (h.1 (a.getD i em)).2
  have h2 := (h.2 (b.getD j em)).2
  rw [← drop_at hi em] at h1
  rw [← drop_at hj em] at h2
  exact ⟨h2, h1⟩
def Mt (a b : T) (i j p q : Nat) : Prop := a.getD p em = b.getD q em ∧ tv a b (p + 1) (q + 1) + 1 = tv a b i j
theorem ex_match (a b : T) : ∀ (n i j : Nat), (a.length - i) + (b.length - j) ≤ n → 0 < tv a b i j → ∃ p q, i ≤ p ∧ p < a.length ∧ j ≤ q ∧ q < b.length ∧ Mt a b i j p q := by
  intro n
  induction n with
  | zero => intro i j h h0; rw [tv_i (by omega)] at h0; omega
  | succ n ih =>
    intro i j h h0
    by_cases hi : i < a.length
    · by_cases hj : j < b.length
      · have hs := tv_step hi hj
        by_cases e : a.getD i em = b.getD j em
        · rw [if_pos e] at hs
          exact ⟨i, j, Nat.le_refl _, hi, Nat.le_refl _, hj, e, hs.symm⟩
        · rw [if_neg e] at hs
          by_cases c : tv a b i (j + 1) ≤ tv a b (i + 1) j
          · have e2 : tv a b i j = tv a b (i + 1) j := by omega
            obtain ⟨p, q, h1, h2, h3, h4, h5⟩ := ih (i + 1) j (by omega) (by omega)
            exact ⟨p, q, by omega, h2, h3, h4, h5.1, by rw [e2]; exact h5.2⟩
          · have e2 : tv a b i j = tv a b i (j + 1) := by omega
            obtain ⟨p, q, h1, h2, h3, h4, h5⟩ := ih i (j + 1) (by omega) (by omega)
            exact ⟨p, q, h1, h2, by omega, h4, h5.1, by rw [e2]; exact h5.2⟩
      · rw [tv_j (by omega)] at h0; omega
    · rw [tv_i (by omega)] at h0; omega
theorem least {P : Nat → Prop} (h : ∃ n, P n) : ∃ n, P n ∧ ∀ m, m < n → ¬ P m := by
  obtain ⟨n, hn⟩ := h
  induction n using Nat.strongRecOn with
  | _ n ih =>
    by_cases g : ∃ m, m < n ∧ P m
    · obtain ⟨m, hm, hp⟩ := g
      exact ih m hm hp
    · exact ⟨n, hn, fun m hm hp => g ⟨m, hm, hp⟩⟩
structure Lst (a b : T) (i j p q : Nat) : Prop where
  hip : i ≤ p
  hpa : p < a.length
  hjq : j ≤ q
  hqb : q < b.length
  hm : Mt a b i j p q
  hrow : ∀ p' q', i ≤ p' → p' < p → j ≤ q' → q' < b.length → ¬ Mt a b i j p' q'
  hcol : ∀ q', j ≤ q' → q' < q → ¬ Mt a b i j p q'
theorem ex_least (a b : T) (i j : Nat) (h : 0 < tv a b i j) : ∃ p q, Lst a b i j p q := by
  obtain ⟨p0, q0, h1, h2, h3, h4, h5⟩ := ex_match a b _ i j (Nat.le_refl _) h
  obtain ⟨p, ⟨hp1, hp2, hp3⟩, hp4⟩ := least (P := fun p => i ≤ p ∧ p < a.length ∧ ∃ q, j ≤ q ∧ q < b.length ∧ Mt a b i j p q) ⟨p0, h1, h2, q0, h3, h4, h5⟩
  obtain ⟨q, ⟨hq1, hq2, hq3⟩, hq4⟩ := least (P := fun q => j ≤ q ∧ q < b.length ∧ Mt a b i j p q) hp3
  exact ⟨p, q, hp1, hp2, hq1, hq2, hq3, fun p' q' g1 g2 g3 g4 g5 => hp4 p' g2 ⟨g1, by omega, q', g3, g4, g5⟩, fun q' g1 g2 g3 => hq4 q' g2 ⟨g1, by omega, g3⟩⟩
def PR (a b : T) : Nat → Nat → List (Nat × Nat) → Prop
  | i, j, [] => tv a b i j = 0
  | i, j, (p, q) :: l => Lst a b i j p q ∧ PR a b (p + 1) (q + 1) l
theorem ex_PR (a b : T) : ∀ (n i j : Nat), a.length - i ≤ n → ∃ l, PR a b i j l ∧ l.length ≤ n := by
  intro n
  induction n with
  | zero => intro i j h; exact ⟨[], tv_i (by omega), Nat.le_refl _⟩
  | succ n ih =>
    intro i j h
    by_cases h0 : 0 < tv a b i j
    · obtain ⟨p, q, hL⟩ := ex_least a b i j h0
      have h1 := hL.hip
      have h2 := hL.hpa
      obtain ⟨l, hl, hn⟩ := ih (p + 1) (q + 1) (by omega)
      exact ⟨(p, q) :: l, ⟨hL, hl⟩, by rw [List.length_cons]; omega⟩
    · exact ⟨[], (by show tv a b i j = 0; omega), Nat.zero_le _⟩
def trow (a b : T) (i : Nat) : List Int := (List.range (b.length + 1)).map fun j => (tv a b i j : Int)
def tbl (a b : T) : List (List Int) := (List.range (a.length + 1)).map (trow a b)
theorem trow_len (a b : T) (i : Nat) : (trow a b i).length = b.length + 1 := by simp [trow]
theorem tbl_len (a b : T) : (tbl a b).length = a.length + 1 := by simp [tbl]
theorem trow_get (a b : T) (i : Nat) {j : Nat} (h : j ≤ b.length) : (trow a b i).getD j 0 = (tv a b i j : Int) := by
  unfold trow
  simp [List.getD_eq_getElem?_getD, List.getElem?_map, List.getElem?_range (show j < b.length + 1 by omega)]
theorem tbl_get (a b : T) {i : Nat} (h : i ≤ a.length) : (tbl a b).getD i [] = trow a b i := by
  unfold tbl
  simp [List.getD_eq_getElem?_getD, List.getElem?_map, List.getElem?_range (show i < a.length + 1 by omega)]
theorem row_eq (a b : T) (i : Nat) (y : List Int) (h : y.length = b.length + 1) (h2 : ∀ c, c ≤ b.length → y.getD c 0 = (tv a b i c : Int)) : y = trow a b i := by
  apply List.ext_getElem
  · rw [h, trow_len]
  · intro c hc hc2
    have h3 := h2 c (by omega)
    have h4 := trow_get a b i (j := c) (by omega)
    rw [List.getD_eq_getElem?_getD, List.getElem?_eq_getElem hc] at h3
    rw [List.getD_eq_getElem?_getD, List.getElem?_eq_getElem hc2] at h4
    simp at h3 h4
    rw [h3, h4]
theorem tbl_eq (a b : T) (x : List (List Int)) (h : x.length = a.length + 1) (h2 : ∀ r, r ≤ a.length → x.getD r [] = trow a b r) : x = tbl a b := by
  apply List.ext_getElem
  · rw [h, tbl_len]
  · intro c hc hc2
    have h3 := h2 c (by omega)
    have h4 := tbl_get a b (i := c) (by omega)
    rw [List.getD_eq_getElem?_getD, List.getElem?_eq_getElem hc] at h3
    rw [List.getD_eq_getElem?_getD, List.getElem?_eq_getElem hc2] at h4
    simp at h3 h4
    rw [h3, h4]
abbrev Tb := List (List Int)
theorem zeros_get (n c : Nat) : (List.replicate n (0 : Int)).getD c 0 = 0 := by
  rw [List.getD_eq_getElem?_getD, List.getElem?_replicate]; split <;> rfl
theorem most (a b : Int) : spec_l1Most.f a b = some (max a b) := by
  rw [spec_l1Most.f_eq]
  by_cases h : a > b
  · rw [bifT h]; congr 1; omega
  · rw [bifF h]; congr 1; omega
/-- Row i is known behind place j. -/
def RowInv (a b : T) (x : Tb) (i j : Nat) : Prop := x.length = a.length + 1 ∧ (∀ r, i < r → r ≤ a.length → x.getD r [] = trow a b r) ∧ (x.getD i []).length = b.length + 1 ∧ ∀ c, j ≤ c → c ≤ b.length → (x.getD i []).getD c 0 = (tv a b i c : Int)
theorem inv_put (a b : T) {x : Tb} {i j : Nat} (h : RowInv a b x i (j + 1)) (hi : i < a.length) (hj : j < b.length) : RowInv a b (x.set i ((x.getD i []).set j (tv a b i j : Int))) i j := by
  obtain ⟨h1, h2, h3, h4⟩ := h
  have hs : (x.set i ((x.getD i []).set j (tv a b i j : Int))).getD i [] = (x.getD i []).set j (tv a b i j : Int) := set_same (by omega) _ _
  refine ⟨by rw [List.length_set]; exact h1, fun r hr hr2 => ?_, ?_, fun c hc hc2 => ?_⟩
  · rw [set_else (by omega)]; exact h2 r hr hr2
  · rw [hs, List.length_set]; exact h3
  · rw [hs]
    by_cases e : c = j
    · subst e; exact set_same (by omega) _ _
    · rw [set_else (by omega)]; exact h4 c (by omega) hc2
theorem inv_row (a b : T) {x : Tb} {i : Nat} (h : RowInv a b x i 0) : ∀ r, i ≤ r → r ≤ a.length → x.getD r [] = trow a b r := by
  intro r hr hr2
  by_cases e : r = i
  · subst e; exact row_eq a b r _ h.2.2.1 (fun c hc => h.2.2.2 c (Nat.zero_le _) hc)
  · exact h.2.1 r (by omega) hr2
section
variable (a b : T) (ha : a.length ≤ 1000) (hb : b.length ≤ 1000)
include ha hb
theorem sT_l2 (R : Tb) (i : Nat) (hi : i < a.length) (k : ∀ x : Tb, RowInv a b x i 0 → (∀ r, r < i → (x.getD r []).length = b.length + 1 ∧ (x.getD r []).getD b.length 0 = 0) → spec_l3Table.l16 a b x ((i : Int) - 1) = some R) :
    ∀ (j : Nat) (x : Tb), j ≤ b.length → RowInv a b x i j → (∀ r, r < i → (x.getD r []).length = b.length + 1 ∧ (x.getD r []).getD b.length 0 = 0) → spec_l3Table.l22 a b x (i : Int) ((j : Int) - 1) = some R := by
  intro j
  induction j with
  | zero =>
    intro x hj h hz
    have hw : w64 ((i : Int) - 1) = (i : Int) - 1 := w64_id (by omega) (by omega)
    rw [spec_l3Table.l22_eq, bifF (by omega), hw]
    exact k x h hz
  | succ j ih =>
    intro x hj h hz
    have e0 : ((j + 1 : Nat) : Int) - 1 = (j : Int) := by omega
    rw [e0]
    obtain ⟨h1, h2, h3, h4⟩ := h
    have hi1 : w64 ((i : Int) + 1) = ((i + 1 : Nat) : Int) := up1 (by omega)
    have hj1 : w64 ((j : Int) + 1) = ((j + 1 : Nat) : Int) := up1 (by omega)
    have hj2 : w64 ((j : Int) - 1) = (j : Int) - 1 := w64_id (by omega) (by omega)
    have hrow := h2 (i + 1) (by omega) (by omega)
    have g1 : (trow a b (i + 1)).getD j 0 = (tv a b (i + 1) j : Int) := trow_get a b (i + 1) (by omega)
    have g2 : (trow a b (i + 1)).getD (j + 1) 0 = (tv a b (i + 1) (j + 1) : Int) := trow_get a b (i + 1) (by omega)
    have g3 := h4 (j + 1) (by omega) (by omega)
    have hl := trow_len a b (i + 1)
    have hb1 := tv_le a b (i + 1) (j + 1)
    have hv : w64 ((tv a b (i + 1) (j + 1) : Int) + 1) = (tv a b (i + 1) (j + 1) : Int) + 1 := w64_id (by omega) (by omega)
    have hs := tv_step (a := a) (b := b) (i := i) (j := j) (by omega) (by omega)
    have hn := tv_near (a := a) (b := b) (i := i) (j := j) (by omega) (by omega)
    have hset : ∀ v : Int, (x.set i ((x.getD i []).set j v)).getD i [] = (x.getD i []).set j v := fun v => set_same (by omega) _ _
    have hset1 : ∀ v : Int, (x.set i ((x.getD i []).set j v)).getD (i + 1) [] = trow a b (i + 1) := fun v => by rw [set_else (by omega)]; exact hrow
    have hsame : ∀ v : Int, ((x.getD i []).set j v).getD j 0 = v := fun v => set_same (by omega) _ _
    have fin : spec_l3Table.l22 a b (x.set i ((x.getD i []).set j (tv a b i j : Int))) (i : Int) ((j : Int) - 1) = some R := by
      refine ih _ (by omega) (inv_put a b ⟨h1, h2, h3, h4⟩ (by omega) (by omega)) (fun r hr => ?_)
      rw [set_else (by omega)]; exact hz r hr
    rw [spec_l3Table.l22_eq]
    simp only [hi1, hj1, hj2, Int.toNat_natCast, hrow, g1, g3, hl, List.length_set, hset, hset1, hsame, g2, hv, toList_beq]
    clear hi1 hj1 hj2
    simp (disch := omega) only [bifT, bif2T, most, sB]
    by_cases e : a.getD i em = b.getD j em
    · rw [if_pos e] at hs
      rw [bifT e, List.set_set, List.set_set]
      rw [show max (max (tv a b (i + 1) j : Int) (tv a b i (j + 1) : Int)) ((tv a b (i + 1) (j + 1) : Int) + 1) = (tv a b i j : Int) by omega]
      exact fin
    · rw [if_neg e] at hs
      rw [bifF e]
      rw [show max (tv a b (i + 1) j : Int) (tv a b i (j + 1) : Int) = (tv a b i j : Int) by omega]
      exact fin
theorem sT_l1 : ∀ (d : Nat) (x : Tb), d ≤ a.length → x.length = a.length + 1 → (∀ r, d ≤ r → r ≤ a.length → x.getD r [] = trow a b r) → (∀ r, r < d → (x.getD r []).length = b.length + 1 ∧ (x.getD r []).getD b.length 0 = 0) →
    spec_l3Table.l16 a b x ((d : Int) - 1) = some (tbl a b) := by
  intro d
  induction d with
  | zero =>
    intro x hd h1 h2 hz
    rw [spec_l3Table.l16_eq, bifF (by omega), tbl_eq a b x h1 (fun r hr => h2 r (Nat.zero_le _) hr)]
  | succ d ih =>
    intro x hd h1 h2 hz
    have e0 : ((d + 1 : Nat) : Int) - 1 = (d : Int) := by omega
    have hw : w64 ((b.length : Int) - 1) = (b.length : Int) - 1 := w64_id (by omega) (by omega)
    rw [e0, spec_l3Table.l16_eq, bifT (by omega), hw]
    refine sT_l2 a b ha hb _ d (by omega) (fun y hy hyz => ?_) b.length x (Nat.le_refl _) ⟨h1, fun r hr hr2 => h2 r (by omega) hr2, (hz d (by omega)).1, fun c hc hc2 => ?_⟩ (fun r hr => hz r (by omega))
    · exact ih y (by omega) hy.1 (fun r hr hr2 => inv_row a b hy r hr hr2) hyz
    · have e : c = b.length := by omega
      subst e
      rw [(hz d (by omega)).2, tv_j (Nat.le_refl _)]; rfl
theorem sTable : spec_l3Table.f a b = some (tbl a b) := by
  have w1 : w64 ((a.length : Int) + 1) = ((a.length + 1 : Nat) : Int) := up1 (by omega)
  have w2 : w64 ((b.length : Int) + 1) = ((b.length + 1 : Nat) : Int) := up1 (by omega)
  have w3 : w64 ((a.length : Int) - 1) = (a.length : Int) - 1 := w64_id (by omega) (by omega)
  have key : ∀ i, i ≤ a.length + 1 → ∀ x : Tb, x.length = a.length + 1 → (∀ r, r < i → x.getD r [] = List.replicate (b.length + 1) 0) → spec_l3Table.l6 a b x ((a.length + 1 : Nat) : Int) (i : Int) = some (tbl a b) := by
    apply downTo
    · intro x h1 h2
      rw [spec_l3Table.l6_eq, bifF (by omega), w3]
      refine sT_l1 a b ha hb a.length x (Nat.le_refl _) h1 (fun r hr hr2 => ?_) (fun r hr => ?_)
      · have e : r = a.length := by omega
        subst e
        rw [h2 _ (by omega)]
        refine row_eq a b _ _ (by simp) (fun c hc => ?_)
        rw [zeros_get, tv_i (Nat.le_refl _)]; rfl
      · rw [h2 r (by omega)]
        exact ⟨by simp, zeros_get _ _⟩
    · intro i hi ih x h1 h2
      have hi1 := up1 (i := i) (by omega)
      rw [spec_l3Table.l6_eq]
      simp only [w2, hi1, Int.toNat_natCast, room8]
      rw [bifT (by omega), bif2T (by omega) (by omega), bif2T (by omega) (by omega)]
      refine ih _ (by rw [List.length_set]; exact h1) fun r hr => ?_
      by_cases e : r = i
      · subst e; exact set_same (by omega) _ _
      · rw [set_else (by omega)]; exact h2 r (by omega)
  rw [spec_l3Table.f_eq]
  simp only [w1, Int.toNat_natCast, room24, List.length_replicate]
  rw [bif2T (by omega) (by omega)]
  exact key 0 (by omega) _ (by simp) (fun r hr => absurd hr (Nat.not_lt_zero r))
theorem iT_l1 (R : Tb) (i : Nat) (hi : i < a.length) (k : ∀ x : Tb, RowInv a b x i 0 → impl_common.l8 a b x ((i : Int) - 1) = some R) :
    ∀ (j : Nat) (x : Tb), j ≤ b.length → RowInv a b x i j → impl_common.l16 a b x (i : Int) ((j : Int) - 1) = some R := by
  intro j
  induction j with
  | zero =>
    intro x hj h
    have hw : w64 ((i : Int) - 1) = (i : Int) - 1 := w64_id (by omega) (by omega)
    rw [impl_common.l16_eq, bifF (by omega), hw]
    exact k x h
  | succ j ih =>
    intro x hj h
    have e0 : ((j + 1 : Nat) : Int) - 1 = (j : Int) := by omega
    rw [e0]
    have fin : impl_common.l16 a b (x.set i ((x.getD i []).set j (tv a b i j : Int))) (i : Int) ((j : Int) - 1) = some R := ih _ (by omega) (inv_put a b h (by omega) (by omega))
    obtain ⟨h1, h2, h3, h4⟩ := h
    have hi1 : w64 ((i : Int) + 1) = ((i + 1 : Nat) : Int) := up1 (by omega)
    have hj1 : w64 ((j : Int) + 1) = ((j + 1 : Nat) : Int) := up1 (by omega)
    have hj2 : w64 ((j : Int) - 1) = (j : Int) - 1 := w64_id (by omega) (by omega)
    have hrow := h2 (i + 1) (by omega) (by omega)
    have g1 : (trow a b (i + 1)).getD j 0 = (tv a b (i + 1) j : Int) := trow_get a b (i + 1) (by omega)
    have g2 : (trow a b (i + 1)).getD (j + 1) 0 = (tv a b (i + 1) (j + 1) : Int) := trow_get a b (i + 1) (by omega)
    have g3 := h4 (j + 1) (by omega) (by omega)
    have hl := trow_len a b (i + 1)
    have hb1 := tv_le a b (i + 1) (j + 1)
    have hv : w64 ((tv a b (i + 1) (j + 1) : Int) + 1) = (tv a b (i + 1) (j + 1) : Int) + 1 := w64_id (by omega) (by omega)
    have hs := tv_step (a := a) (b := b) (i := i) (j := j) (by omega) (by omega)
    rw [impl_common.l16_eq]
    simp only [hi1, hj1, hj2, Int.toNat_natCast, toList_beq, hrow, g1, g2, g3, hv, hl]
    clear hi1 hj1 hj2
    simp (disch := omega) only [bifT, bif2T]
    by_cases e : a.getD i em = b.getD j em
    · rw [if_pos e] at hs
      rw [bifT e, show (tv a b (i + 1) (j + 1) : Int) + 1 = (tv a b i j : Int) by omega]
      exact fin
    · rw [if_neg e] at hs
      rw [bifF e, show max (tv a b (i + 1) j : Int) (tv a b i (j + 1) : Int) = (tv a b i j : Int) by omega]
      exact fin
theorem iT_l0 : ∀ (d : Nat) (x : Tb), d ≤ a.length → x.length = a.length + 1 → (∀ r, d ≤ r → r ≤ a.length → x.getD r [] = trow a b r) → impl_common.l8 a b x ((d : Int) - 1) = some (tbl a b) := by
  intro d
  induction d with
  | zero =>
    intro x hd h1 h2
    rw [impl_common.l8_eq, bifF (by omega), tbl_eq a b x h1 (fun r hr => h2 r (Nat.zero_le _) hr)]
  | succ d ih =>
    intro x hd h1 h2
    have e0 : ((d + 1 : Nat) : Int) - 1 = (d : Int) := by omega
    have hw : w64 ((b.length : Int) - 1) = (b.length : Int) - 1 := w64_id (by omega) (by omega)
    have w2 : w64 ((b.length : Int) + 1) = ((b.length + 1 : Nat) : Int) := up1 (by omega)
    have hs : (x.set d (List.replicate (b.length + 1) (0 : Int))).getD d [] = List.replicate (b.length + 1) 0 := set_same (by omega) _ _
    rw [e0, impl_common.l8_eq]
    simp only [hw, w2, Int.toNat_natCast, room8]
    rw [bifT (by omega), bif2T (by omega) (by omega), bif2T (by omega) (by omega)]
    refine iT_l1 a b ha hb _ d (by omega) (fun y hy => ?_) b.length _ (Nat.le_refl _) ⟨by rw [List.length_set]; exact h1, fun r hr hr2 => ?_, by rw [hs]; simp, fun c hc hc2 => ?_⟩
    · exact ih y (by omega) hy.1 (fun r hr hr2 => inv_row a b hy r hr hr2)
    · rw [set_else (by omega)]; exact h2 r (by omega) hr2
    · have e : c = b.length := by omega
      subst e
      rw [hs, zeros_get, tv_j (Nat.le_refl _)]; rfl
theorem iTable : impl_common.f a b = some (tbl a b) := by
  have w1 : w64 ((a.length : Int) + 1) = ((a.length + 1 : Nat) : Int) := up1 (by omega)
  have w2 : w64 ((b.length : Int) + 1) = ((b.length + 1 : Nat) : Int) := up1 (by omega)
  have w3 : w64 ((a.length : Int) - 1) = (a.length : Int) - 1 := w64_id (by omega) (by omega)
  rw [impl_common.f_eq]
  simp only [w1, w2, w3, Int.toNat_natCast, List.length_replicate, room8, room24]
  rw [bif2T (by omega) (by omega), bif2T (by omega) (by omega), bif2T (by omega) (by omega)]
  refine iT_l0 a b ha hb a.length _ (Nat.le_refl _) (by rw [List.length_set, List.length_replicate]) (fun r hr hr2 => ?_)
  have e : r = a.length := by omega
  subst e
  rw [set_same (by rw [List.length_replicate]; omega)]
  refine row_eq a b _ _ (by simp) (fun c hc => ?_)
  rw [zeros_get, tv_i (Nat.le_refl _)]; rfl
end
abbrev P2 := Int × Int
def cvS (l : List (Nat × Nat)) : List P2 := l.map fun p => ((p.1 : Int), (p.2 : Int))
def cvI (l : List (Nat × Nat)) : Tb := l.map fun p => [(p.1 : Int), (p.2 : Int)]
theorem tb_row (a b : T) {i : Nat} (h : i ≤ a.length) : (tbl a b).getD i [] = trow a b i := tbl_get a b h
section
variable (a b : T) (ha : a.length ≤ 1000) (hb : b.length ≤ 1000) (i j : Nat) (hi : i ≤ a.length) (hj : j ≤ b.length) (acc : List P2) (R : List P2)
include ha hb hi hj
theorem sp_end (r c : Nat) (hr : i ≤ r) (hr2 : r < a.length) (x y : Int) (h : c < j ∨ c = j) (k : spec_l3Pairs.l14 a b (tbl a b) acc (i : Int) (j : Int) x y ((r : Int) - 1) = some R) :
    spec_l3Pairs.l20 a b (tbl a b) acc (i : Int) (j : Int) x y (r : Int) ((c : Int) - 1) = some R := by
  have _ := hb
  have _ := hi
  have _ := hj
  have hw : w64 ((r : Int) - 1) = (r : Int) - 1 := w64_id (by omega) (by omega)
  rw [spec_l3Pairs.l20_eq]
  rw [bifF (by omega), hw]
  exact k
theorem sp_step (r c : Nat) (hr : i ≤ r) (hr2 : r < a.length) (hc : j ≤ c) (hc2 : c < b.length) (x y : Int)
    (k1 : Mt a b i j r c → spec_l3Pairs.l20 a b (tbl a b) acc (i : Int) (j : Int) (r : Int) (c : Int) (r : Int) ((c : Int) - 1) = some R)
    (k0 : ¬ Mt a b i j r c → spec_l3Pairs.l20 a b (tbl a b) acc (i : Int) (j : Int) x y (r : Int) ((c : Int) - 1) = some R) :
    spec_l3Pairs.l20 a b (tbl a b) acc (i : Int) (j : Int) x y (r : Int) (((c + 1 : Nat) : Int) - 1) = some R := by
  have e0 : ((c + 1 : Nat) : Int) - 1 = (c : Int) := by omega
  rw [e0]
  have hr1 : w64 ((r : Int) + 1) = ((r + 1 : Nat) : Int) := up1 (by omega)
  have hc1 : w64 ((c : Int) + 1) = ((c + 1 : Nat) : Int) := up1 (by omega)
  have hc3 : w64 ((c : Int) - 1) = (c : Int) - 1 := w64_id (by omega) (by omega)
  have hb1 := tv_le a b (r + 1) (c + 1)
  have hv : w64 ((tv a b (r + 1) (c + 1) : Int) + 1) = (tv a b (r + 1) (c + 1) : Int) + 1 := w64_id (by omega) (by omega)
  have L1 := tbl_len a b
  have L2 := trow_len a b (r + 1)
  have L3 := trow_len a b i
  have g1 := trow_get a b (r + 1) (j := c + 1) (by omega)
  have g2 := trow_get a b i (j := j) hj
  rw [spec_l3Pairs.l20_eq]
  simp only [hr1, hc1, hc3, Int.toNat_natCast, toList_beq, tb_row a b (show r + 1 ≤ a.length by omega), tb_row a b hi, g1, g2, hv, L1, L2, L3]
  clear hr1 hc1 hc3 hv
  simp (disch := omega) only [bifT, bif2T]
  by_cases e : a.getD r em = b.getD c em
  · rw [bifT e]
    by_cases m : tv a b (r + 1) (c + 1) + 1 = tv a b i j
    · rw [bifT (by omega)]; exact k1 ⟨e, m⟩
    · rw [bifF (by omega)]; exact k0 (fun h => m h.2)
  · rw [bifF e]; exact k0 (fun h => e h.1)
theorem sp_any (r : Nat) (hr : i ≤ r) (hr2 : r < a.length) (k : ∀ x y, spec_l3Pairs.l14 a b (tbl a b) acc (i : Int) (j : Int) x y ((r : Int) - 1) = some R) :
    ∀ (c : Nat), c ≤ b.length → ∀ x y, spec_l3Pairs.l20 a b (tbl a b) acc (i : Int) (j : Int) x y (r : Int) ((c : Int) - 1) = some R := by
  intro c
  induction c with
  | zero => intro hc x y; exact sp_end a b ha hb i j hi hj acc R r 0 hr hr2 x y (by omega) (k x y)
  | succ c ih =>
    intro hc x y
    by_cases g : j ≤ c
    · exact sp_step a b ha hb i j hi hj acc R r c hr hr2 g (by omega) x y (fun _ => ih (by omega) _ _) (fun _ => ih (by omega) _ _)
    · exact sp_end a b ha hb i j hi hj acc R r (c + 1) hr hr2 x y (by omega) (k x y)
theorem sp_no (r : Nat) (hr : i ≤ r) (hr2 : r < a.length) (x y : Int) (k : spec_l3Pairs.l14 a b (tbl a b) acc (i : Int) (j : Int) x y ((r : Int) - 1) = some R) :
    ∀ (c : Nat), c ≤ b.length → (∀ q, j ≤ q → q < c → ¬ Mt a b i j r q) → spec_l3Pairs.l20 a b (tbl a b) acc (i : Int) (j : Int) x y (r : Int) ((c : Int) - 1) = some R := by
  intro c
  induction c with
  | zero => intro hc hn; exact sp_end a b ha hb i j hi hj acc R r 0 hr hr2 x y (by omega) k
  | succ c ih =>
    intro hc hn
    by_cases g : j ≤ c
    · exact sp_step a b ha hb i j hi hj acc R r c hr hr2 g (by omega) x y (fun h => absurd h (hn c g (by omega))) (fun _ => ih (by omega) (fun q h1 h2 => hn q h1 (by omega)))
    · exact sp_end a b ha hb i j hi hj acc R r (c + 1) hr hr2 x y (by omega) k
theorem sp_l1 (r : Nat) (hr : i ≤ r) (hr2 : r < a.length) (x y : Int) (k : spec_l3Pairs.l20 a b (tbl a b) acc (i : Int) (j : Int) x y (r : Int) ((b.length : Int) - 1) = some R) :
    spec_l3Pairs.l14 a b (tbl a b) acc (i : Int) (j : Int) x y (((r + 1 : Nat) : Int) - 1) = some R := by
  have _ := ha
  have _ := hi
  have _ := hj
  have e0 : ((r + 1 : Nat) : Int) - 1 = (r : Int) := by omega
  rw [e0]
  have hw : w64 ((b.length : Int) - 1) = (b.length : Int) - 1 := w64_id (by omega) (by omega)
  rw [spec_l3Pairs.l14_eq, bifT (by omega), hw]
  exact k
theorem sp_pair (p q : Nat) (hL : Lst a b i j p q) (hacc : acc.length ≤ 100000) (k : spec_l3Pairs.l8 a b (tbl a b) (acc ++ [((p : Int), (q : Int))]) ((p + 1 : Nat) : Int) ((q + 1 : Nat) : Int) = some R) :
    spec_l3Pairs.l8 a b (tbl a b) acc (i : Int) (j : Int) = some R := by
  obtain ⟨hip, hpa, hjq, hqb, hm, hrow, hcol⟩ := hL
  have st3 : ∀ d, d ≤ p → i ≤ d → spec_l3Pairs.l14 a b (tbl a b) acc (i : Int) (j : Int) (p : Int) (q : Int) ((d : Int) - 1) = some R := by
    intro d
    induction d with
    | zero =>
      intro h1 h2
      have hp1 := up1 (i := p) (by omega)
      have hq1 := up1 (i := q) (by omega)
      rw [spec_l3Pairs.l14_eq]
      simp only [hp1, hq1, room16]
      rw [bifF (by omega), bifT (by simp; omega)]
      exact k
    | succ d ih =>
      intro h1 h2
      by_cases g : i ≤ d
      · exact sp_l1 a b ha hb i j hi hj acc R d g (by omega) _ _ (sp_no a b ha hb i j hi hj acc R d g (by omega) _ _ (ih (by omega) g) b.length (Nat.le_refl _) (fun q' h3 h4 => hrow d q' g (by omega) h3 h4))
      · have hp1 := up1 (i := p) (by omega)
        have hq1 := up1 (i := q) (by omega)
        rw [spec_l3Pairs.l14_eq]
        simp only [hp1, hq1, room16]
        rw [bifF (by omega), bifT (by simp; omega)]
        exact k
  have st2 : ∀ c, q + 1 ≤ c → c ≤ b.length → ∀ x y, spec_l3Pairs.l20 a b (tbl a b) acc (i : Int) (j : Int) x y (p : Int) ((c : Int) - 1) = some R := by
    intro c
    induction c with
    | zero => intro h1; omega
    | succ c ih =>
      intro h1 h2 x y
      by_cases g : c = q
      · subst g
        exact sp_step a b ha hb i j hi hj acc R p c hip hpa hjq hqb x y (fun _ => sp_no a b ha hb i j hi hj acc R p hip hpa _ _ (st3 p (Nat.le_refl _) hip) c (by omega) (fun q' h3 h4 => hcol q' h3 h4)) (fun h => absurd hm h)
      · exact sp_step a b ha hb i j hi hj acc R p c hip hpa (by omega) (by omega) x y (fun _ => ih (by omega) (by omega) _ _) (fun _ => ih (by omega) (by omega) _ _)
  have st1 : ∀ d, p + 1 ≤ d → d ≤ a.length → ∀ x y, spec_l3Pairs.l14 a b (tbl a b) acc (i : Int) (j : Int) x y ((d : Int) - 1) = some R := by
    intro d
    induction d with
    | zero => intro h1; omega
    | succ d ih =>
      intro h1 h2 x y
      by_cases g : d = p
      · subst g
        exact sp_l1 a b ha hb i j hi hj acc R d hip hpa x y (st2 b.length (by omega) (Nat.le_refl _) x y)
      · exact sp_l1 a b ha hb i j hi hj acc R d (by omega) (by omega) x y (sp_any a b ha hb i j hi hj acc R d (by omega) (by omega) (fun x y => ih (by omega) (by omega) x y) b.length (Nat.le_refl _) x y)
  have hw : w64 ((a.length : Int) - 1) = (a.length : Int) - 1 := w64_id (by omega) (by omega)
  have L1 := tbl_len a b
  have L3 := trow_len a b i
  have hpos : 0 < tv a b i j := by have := hm.2; omega
  have g2 := trow_get a b i (j := j) hj
  rw [spec_l3Pairs.l8_eq]
  simp only [hw, Int.toNat_natCast, tb_row a b hi, g2, L1, L3]
  rw [bif2T (by omega) (by omega), bif2T (by omega) (by omega), bifT (by omega)]
  exact st1 a.length (by omega) (Nat.le_refl _) _ _
end
theorem sPairs (a b : T) (ha : a.length ≤ 1000) (hb : b.length ≤ 1000) : ∀ (l : List (Nat × Nat)) (i j : Nat) (acc : List P2), i ≤ a.length → j ≤ b.length → acc.length + l.length ≤ 10000 → PR a b i j l →
    spec_l3Pairs.l8 a b (tbl a b) acc (i : Int) (j : Int) = some (acc ++ cvS l) := by
  intro l
  induction l with
  | nil =>
    intro i j acc hi hj hl h
    have h0 : tv a b i j = 0 := h
    have L1 := tbl_len a b
    have L3 := trow_len a b i
    have g2 := trow_get a b i (j := j) hj
    rw [spec_l3Pairs.l8_eq]
    simp only [Int.toNat_natCast, tb_row a b hi, g2, L1, L3]
    rw [bif2T (by omega) (by omega), bif2T (by omega) (by omega), bifF (by omega)]
    simp [cvS]
  | cons p l ih =>
    obtain ⟨p, q⟩ := p
    intro i j acc hi hj hl h
    rw [List.length_cons] at hl
    have h1 := h.1.hpa
    have h2 := h.1.hqb
    refine sp_pair a b ha hb i j hi hj acc _ p q h.1 (by omega) ?_
    rw [ih (p + 1) (q + 1) (acc ++ [((p : Int), (q : Int))]) (by omega) (by omega) (by simp; omega) h.2, List.append_assoc]; rfl
section
variable (a b : T) (ha : a.length ≤ 1000) (hb : b.length ≤ 1000) (i j : Nat) (hi : i ≤ a.length) (hj : j ≤ b.length) (acc : Tb) (R : Tb)
include ha hb hi hj
theorem ip_step (r c : Nat) (hr : i ≤ r) (hr2 : r < a.length) (hc : j ≤ c) (hc2 : c < b.length) (hpos : 0 < tv a b i j) (hacc : acc.length ≤ 100000)
    (k1 : Mt a b i j r c → impl_commonLines.l8 a b (tbl a b) (acc ++ [[(r : Int), (c : Int)]]) ((c + 1 : Nat) : Int) ((tv a b i j : Int) - 1) (a.length : Int) ((r + 1 : Nat) : Int) = some R)
    (k0 : ¬ Mt a b i j r c → impl_commonLines.l14 a b (tbl a b) acc (j : Int) (tv a b i j : Int) (r : Int) ((c + 1 : Nat) : Int) (a.length : Int) (r : Int) = some R) :
    impl_commonLines.l14 a b (tbl a b) acc (j : Int) (tv a b i j : Int) (r : Int) (c : Int) (a.length : Int) (r : Int) = some R := by
  have _ := hi
  have _ := hj
  have hr1 : w64 ((r : Int) + 1) = ((r + 1 : Nat) : Int) := up1 (by omega)
  have hc1 : w64 ((c : Int) + 1) = ((c + 1 : Nat) : Int) := up1 (by omega)
  have hb1 := tv_le a b i j
  have hv : w64 ((tv a b i j : Int) - 1) = (tv a b i j : Int) - 1 := w64_id (by omega) (by omega)
  have L1 := tbl_len a b
  have L2 := trow_len a b (r + 1)
  have g1 := trow_get a b (r + 1) (j := c + 1) (by omega)
  rw [impl_commonLines.l14_eq, bifT (by omega), bifT (by omega), impl_commonLines.l19_eq]
  simp only [hr1, hc1, hv, Int.toNat_natCast, toList_beq, tb_row a b (show r + 1 ≤ a.length by omega), g1, L1, L2, room24]
  clear hr1 hc1 hv
  rw [bif2T (by omega) (by omega), bif2T (by omega) (by omega)]
  by_cases e : a.getD r em = b.getD c em
  · rw [bifT e, bif2T (by omega) (by omega), bif2T (by omega) (by omega)]
    by_cases m : tv a b (r + 1) (c + 1) + 1 = tv a b i j
    · rw [bifT (by omega), bifT (by simp; omega)]; exact k1 ⟨e, m⟩
    · rw [bifF (by omega)]; exact k0 (fun h => m h.2)
  · rw [bifF e]; exact k0 (fun h => e h.1)
theorem ip_next (r : Nat) (hr2 : r < a.length) (k : impl_commonLines.l8 a b (tbl a b) acc (j : Int) (tv a b i j : Int) (a.length : Int) ((r + 1 : Nat) : Int) = some R) :
    impl_commonLines.l14 a b (tbl a b) acc (j : Int) (tv a b i j : Int) (r : Int) (b.length : Int) (a.length : Int) (r : Int) = some R := by
  have _ := hb
  have _ := hi
  have _ := hj
  have hr1 : w64 ((r : Int) + 1) = ((r + 1 : Nat) : Int) := up1 (by omega)
  rw [impl_commonLines.l14_eq, bifF (by omega), hr1]; exact k
theorem ip_no (r : Nat) (hr : i ≤ r) (hr2 : r < a.length) (hpos : 0 < tv a b i j) (hacc : acc.length ≤ 100000) (k : impl_commonLines.l8 a b (tbl a b) acc (j : Int) (tv a b i j : Int) (a.length : Int) ((r + 1 : Nat) : Int) = some R)
    (hn : ∀ q, j ≤ q → q < b.length → ¬ Mt a b i j r q) : ∀ (d c : Nat), b.length - c = d → j ≤ c → c ≤ b.length → impl_commonLines.l14 a b (tbl a b) acc (j : Int) (tv a b i j : Int) (r : Int) (c : Int) (a.length : Int) (r : Int) = some R := by
  intro d
  induction d with
  | zero =>
    intro c hd h1 h2
    obtain rfl : c = b.length := by omega
    exact ip_next a b ha hb i j hi hj acc R r hr2 k
  | succ d ih =>
    intro c hd h1 h2
    exact ip_step a b ha hb i j hi hj acc R r c hr hr2 h1 (by omega) hpos hacc (fun h => absurd h (hn c h1 (by omega))) (fun _ => ih (c + 1) (by omega) (by omega) (by omega))
theorem ip_hit (p q : Nat) (hL : Lst a b i j p q) (hpos : 0 < tv a b i j) (hacc : acc.length ≤ 100000)
    (k : impl_commonLines.l8 a b (tbl a b) (acc ++ [[(p : Int), (q : Int)]]) ((q + 1 : Nat) : Int) ((tv a b i j : Int) - 1) (a.length : Int) ((p + 1 : Nat) : Int) = some R) :
    ∀ (d c : Nat), q - c = d → j ≤ c → c ≤ q → impl_commonLines.l14 a b (tbl a b) acc (j : Int) (tv a b i j : Int) (p : Int) (c : Int) (a.length : Int) (p : Int) = some R := by
  intro d
  have h5 := hL.hqb
  induction d with
  | zero =>
    intro c hd h1 h2
    obtain rfl : c = q := by omega
    exact ip_step a b ha hb i j hi hj acc R p c hL.hip hL.hpa h1 h5 hpos hacc (fun _ => k) (fun h => absurd hL.hm h)
  | succ d ih =>
    intro c hd h1 h2
    exact ip_step a b ha hb i j hi hj acc R p c hL.hip hL.hpa h1 (by omega) hpos hacc (fun h => absurd h (hL.hcol c h1 (by omega))) (fun _ => ih (c + 1) (by omega) (by omega) (by omega))
theorem ip_rows (p q : Nat) (hL : Lst a b i j p q) (hpos : 0 < tv a b i j) (hacc : acc.length ≤ 100000)
    (k : impl_commonLines.l8 a b (tbl a b) (acc ++ [[(p : Int), (q : Int)]]) ((q + 1 : Nat) : Int) ((tv a b i j : Int) - 1) (a.length : Int) ((p + 1 : Nat) : Int) = some R) :
    ∀ (d r : Nat), p - r = d → i ≤ r → r ≤ p → impl_commonLines.l8 a b (tbl a b) acc (j : Int) (tv a b i j : Int) (a.length : Int) (r : Int) = some R := by
  intro d
  have h5 := hL.hpa
  have h6 := hL.hjq
  induction d with
  | zero =>
    intro r hd h1 h2
    obtain rfl : r = p := by omega
    rw [impl_commonLines.l8_eq, bifT (by omega)]
    exact ip_hit a b ha hb i j hi hj acc R r q hL hpos hacc k (q - j) j rfl (Nat.le_refl _) h6
  | succ d ih =>
    intro r hd h1 h2
    rw [impl_commonLines.l8_eq, bifT (by omega)]
    exact ip_no a b ha hb i j hi hj acc R r h1 (by omega) hpos hacc (ih (r + 1) (by omega) (by omega) (by omega)) (fun q' h3 h4 => hL.hrow r q' h1 (by omega) h3 h4) (b.length - j) j rfl (Nat.le_refl _) hj
theorem ip_zero (h0 : tv a b i j = 0) : ∀ (d r : Nat), a.length - r = d → r ≤ a.length → impl_commonLines.l8 a b (tbl a b) acc (j : Int) (tv a b i j : Int) (a.length : Int) (r : Int) = some acc := by
  have _ := hb
  have _ := hi
  have _ := hj
  intro d
  induction d with
  | zero =>
    intro r hd h1
    rw [impl_commonLines.l8_eq]
    rw [bifF (by omega)]
  | succ d ih =>
    intro r hd h1
    have hr1 : w64 ((r : Int) + 1) = ((r + 1 : Nat) : Int) := up1 (by omega)
    have h := ih (r + 1) (by omega) (by omega)
    rw [impl_commonLines.l8_eq, bifT (by omega), impl_commonLines.l14_eq]
    by_cases hjb : (j : Int) < (b.length : Int)
    · rw [bifT hjb, bifF (by omega), hr1]; exact h
    · rw [bifF hjb, hr1]; exact h
end
theorem iPairs (a b : T) (ha : a.length ≤ 1000) (hb : b.length ≤ 1000) : ∀ (l : List (Nat × Nat)) (i j : Nat) (acc : Tb), i ≤ a.length → j ≤ b.length → acc.length + l.length ≤ 10000 → PR a b i j l →
    impl_commonLines.l8 a b (tbl a b) acc (j : Int) (tv a b i j : Int) (a.length : Int) (i : Int) = some (acc ++ cvI l) := by
  intro l
  induction l with
  | nil =>
    intro i j acc hi hj hl h
    rw [ip_zero a b ha hb i j hi hj acc h (a.length - i) i rfl hi]; simp [cvI]
  | cons p l ih =>
    obtain ⟨p, q⟩ := p
    intro i j acc hi hj hl h
    rw [List.length_cons] at hl
    have h1 := h.1.hpa
    have h2 := h.1.hqb
    have h3 := h.1.hm.2
    have kk := ih (p + 1) (q + 1) (acc ++ [[(p : Int), (q : Int)]]) (by omega) (by omega) (by simp; omega) h.2
    rw [show (tv a b (p + 1) (q + 1) : Int) = (tv a b i j : Int) - 1 by omega] at kk
    rw [ip_rows a b ha hb i j hi hj acc _ p q h.1 (by omega) (by omega) kk (p - i) i rfl (Nat.le_refl _) h.1.hip, List.append_assoc]; rfl
theorem pairs_both (a b : T) (ha : a.length ≤ 1000) (hb : b.length ≤ 1000) : ∃ l, PR a b 0 0 l ∧ l.length ≤ 1000 ∧ spec_l3Pairs.f a b = some (cvS l) ∧ impl_commonLines.f a b = some (cvI l) := by
  obtain ⟨l, hl, hn⟩ := ex_PR a b a.length 0 0 (by omega)
  refine ⟨l, hl, by omega, ?_, ?_⟩
  · rw [spec_l3Pairs.f_eq, sTable a b ha hb, sB]
    have := sPairs a b ha hb l 0 0 [] (by omega) (by omega) (by simp; omega) hl
    simpa using this
  · have L1 := tbl_len a b
    have L2 := trow_len a b 0
    have e1 : (tbl a b).getD 0 [] = trow a b 0 := tb_row a b (Nat.zero_le _)
    have e2 : (trow a b 0).getD 0 0 = (tv a b 0 0 : Int) := trow_get a b 0 (Nat.zero_le _)
    rw [impl_commonLines.f_eq, iTable a b ha hb, sB, e1, e2, bifT (by omega), bifT (by omega)]
    have := iPairs a b ha hb l 0 0 [] (by omega) (by omega) (by simp; omega) hl
    simpa using this
theorem cloneI (l : Tb) (h : l.length ≤ 1048576) : slices_Clone_LLint_Lint.f l = some l := by
  show clone1 24 l = _
  rw [clone1, room24, bifT (by omega)]
/-- Hunks between pairs of places. -/
def jm (b : T) : Nat → Nat → List (Nat × Nat) → List Hk
  | _, _, [] => []
  | i, j, (p, q) :: l => (if i < p ∨ j < q then [((i : Int), (p : Int) - (i : Int), (b.take q).drop j)] else []) ++ jm b (p + 1) (q + 1) l
theorem jm_cons (b : T) (i j p q : Nat) (l : List (Nat × Nat)) : jm b i j ((p, q) :: l) = (if i < p ∨ j < q then [((i : Int), (p : Int) - (i : Int), (b.take q).drop j)] else []) ++ jm b (p + 1) (q + 1) l := rfl
theorem jm_bound (b : T) : ∀ (l : List (Nat × Nat)) (i j : Nat), (jm b i j l).length ≤ l.length ∧ ∀ h ∈ jm b i j l, h.2.2.length ≤ b.length
  | [], _, _ => ⟨Nat.le_refl _, fun h hh => by simp [jm] at hh⟩
  | (p, q) :: l, i, j => by
    obtain ⟨h1, h2⟩ := jm_bound b l (p + 1) (q + 1)
    rw [jm_cons]
    split
    · refine ⟨by simp; omega, fun h hh => ?_⟩
      simp only [List.singleton_append, List.mem_cons] at hh
      rcases hh with rfl | hh
      · simp only [List.length_drop, List.length_take]; omega
      · exact h2 h hh
    · refine ⟨by simp; omega, fun h hh => ?_⟩
      simp only [List.nil_append] at hh
      exact h2 h hh
theorem jm_mem (b : T) : ∀ (l : List (Nat × Nat)) (i j : Nat), ∀ h ∈ jm b i j l, ∀ s ∈ h.2.2, s ∈ b
  | [], _, _, h, hh => by simp [jm] at hh
  | (p, q) :: l, i, j, h, hh => by
    rw [jm_cons] at hh
    rcases List.mem_append.1 hh with hh | hh
    · split at hh
      · simp only [List.mem_singleton] at hh
        subst hh
        exact fun s hs => List.mem_of_mem_take (List.mem_of_mem_drop hs)
      · simp at hh
    · exact jm_mem b l _ _ h hh
def Ch (la lb : Nat) : Nat → Nat → List (Nat × Nat) → Prop
  | _, _, [] => True
  | i, j, (p, q) :: l => i ≤ p ∧ j ≤ q ∧ p ≤ la ∧ q ≤ lb ∧ Ch la lb (p + 1) (q + 1) l
theorem ch_of (a b : T) : ∀ (l : List (Nat × Nat)) (i j : Nat), i ≤ a.length → j ≤ b.length → PR a b i j l → Ch a.length b.length i j (l ++ [(a.length, b.length)]) := by
  intro l
  induction l with
  | nil => intro i j hi hj h; exact ⟨hi, hj, Nat.le_refl _, Nat.le_refl _, trivial⟩
  | cons p l ih =>
    obtain ⟨p, q⟩ := p
    intro i j hi hj h
    have h1 := h.1.hpa
    have h2 := h.1.hqb
    exact ⟨h.1.hip, h.1.hjq, by omega, by omega, ih (p + 1) (q + 1) (by omega) (by omega) h.2⟩
theorem cvS_get (pre : List (Nat × Nat)) (p q : Nat) (l : List (Nat × Nat)) : (cvS (pre ++ (p, q) :: l)).getD pre.length (0, 0) = ((p : Int), (q : Int)) := by
  unfold cvS
  simp [List.getD_eq_getElem?_getD]
theorem cvI_get (pre : List (Nat × Nat)) (p q : Nat) (l : List (Nat × Nat)) : (cvI (pre ++ (p, q) :: l)).getD pre.length [] = [(p : Int), (q : Int)] := by
  unfold cvI
  simp [List.getD_eq_getElem?_getD]
theorem cvS_len (l : List (Nat × Nat)) : (cvS l).length = l.length := by simp [cvS]
theorem cvI_len (l : List (Nat × Nat)) : (cvI l).length = l.length := by simp [cvI]
section
variable (b : T) (la : Nat) (hla : la ≤ 1000) (hb : b.length ≤ 1000) (full : List (Nat × Nat)) (hf : full.length ≤ 10000)
include hla hb hf
theorem sJoin_l0 : ∀ (rest pre : List (Nat × Nat)) (acc : List Hk) (i j : Nat), full = pre ++ rest → Ch la b.length i j rest → acc.length + rest.length ≤ 100000 → i ≤ la + 1 → j ≤ b.length + 1 →
    spec_l2Join.l8 b acc (i : Int) (j : Int) (cvS full) (full.length : Int) (pre.length : Int) = some (acc ++ jm b i j rest) := by
  intro rest
  induction rest with
  | nil =>
    intro pre acc i j hfull hc ha hi hj
    have e : full.length = pre.length := by rw [hfull]; simp
    rw [spec_l2Join.l8_eq, bifF (by omega)]
    simp [jm]
  | cons p rest ih =>
    obtain ⟨p, q⟩ := p
    intro pre acc i j hfull hc ha hi hj
    obtain ⟨h1, h2, h3, h4, hc⟩ := hc
    have e : full.length = pre.length + (rest.length + 1) := by rw [hfull]; simp
    rw [List.length_cons] at ha
    have hg := cvS_get pre p q rest
    rw [← hfull] at hg
    have nx : ∀ acc2 : List Hk, acc2.length ≤ acc.length + 1 → spec_l2Join.l17 b acc2 ((p : Int), (q : Int)) (cvS full) (full.length : Int) (pre.length : Int) = some (acc2 ++ jm b (p + 1) (q + 1) rest) := by
      intro acc2 h5
      have := ih (pre ++ [(p, q)]) acc2 (p + 1) (q + 1) (by rw [hfull, List.append_assoc]; rfl) hc (by omega) (by omega) (by omega)
      rw [List.length_append, List.length_singleton] at this
      rw [spec_l2Join.l17_eq]
      simp only
      rw [up1 (by omega), up1 (by omega), up1 (by omega)]
      exact this
    have ho := ownT ((b.take q).drop j) (by rw [List.length_drop, List.length_take]; omega)
    have hL := cvS_len full
    have w : w64 ((p : Int) - (i : Int)) = (p : Int) - (i : Int) := w64_id (by omega) (by omega)
    rw [spec_l2Join.l8_eq]
    simp only [Int.toNat_natCast, hg, w, hL, room40, ho, sB, List.length_append, List.length_singleton]
    rw [bifT (by omega), bif2T (by omega) (by omega)]
    by_cases c1 : i < p
    · rw [bifT (by omega), bif3T (by omega) (by omega) (by omega), bifT (by omega), nx _ (by simp), List.append_assoc, jm_cons, if_pos (Or.inl c1)]
    · rw [bifF (by omega)]
      by_cases c2 : j < q
      · rw [bifT (by omega), bif3T (by omega) (by omega) (by omega), bifT (by omega), nx _ (by simp), List.append_assoc, jm_cons, if_pos (Or.inr c2)]
      · rw [bifF (by omega), nx _ (by omega), jm_cons, if_neg (show ¬ (i < p ∨ j < q) by omega), List.nil_append]
theorem iJoin_l0 : ∀ (rest pre : List (Nat × Nat)) (acc : List Hk) (i j : Nat), full = pre ++ rest → Ch la b.length i j rest → acc.length + rest.length ≤ 100000 → i ≤ la + 1 → j ≤ b.length + 1 →
    impl_between.l6 b acc (i : Int) (j : Int) (cvI full) (full.length : Int) (pre.length : Int) = some (acc ++ jm b i j rest) := by
  intro rest
  induction rest with
  | nil =>
    intro pre acc i j hfull hc ha hi hj
    have e : full.length = pre.length := by rw [hfull]; simp
    rw [impl_between.l6_eq, bifF (by omega)]
    simp [jm]
  | cons p rest ih =>
    obtain ⟨p, q⟩ := p
    intro pre acc i j hfull hc ha hi hj
    obtain ⟨h1, h2, h3, h4, hc⟩ := hc
    have e : full.length = pre.length + (rest.length + 1) := by rw [hfull]; simp
    rw [List.length_cons] at ha
    have hg := cvI_get pre p q rest
    rw [← hfull] at hg
    have g0 : ([(p : Int), (q : Int)] : List Int).getD 0 0 = (p : Int) := rfl
    have g1 : ([(p : Int), (q : Int)] : List Int).getD 1 0 = (q : Int) := rfl
    have g2 : (([(p : Int), (q : Int)] : List Int).length : Int) = 2 := rfl
    have nx : ∀ acc2 : List Hk, acc2.length ≤ acc.length + 1 → impl_between.l15 b acc2 [(p : Int), (q : Int)] (cvI full) (full.length : Int) (pre.length : Int) = some (acc2 ++ jm b (p + 1) (q + 1) rest) := by
      intro acc2 h5
      have := ih (pre ++ [(p, q)]) acc2 (p + 1) (q + 1) (by rw [hfull, List.append_assoc]; rfl) hc (by omega) (by omega) (by omega)
      rw [List.length_append, List.length_singleton] at this
      rw [impl_between.l15_eq, g0, g1, g2, bifT (by omega), bifT (by omega), up1 (by omega), up1 (by omega), up1 (by omega)]
      exact this
    have ho := cloneT ((b.take q).drop j) (by rw [List.length_drop, List.length_take]; omega)
    have hL := cvI_len full
    have w : w64 ((p : Int) - (i : Int)) = (p : Int) - (i : Int) := w64_id (by omega) (by omega)
    rw [impl_between.l6_eq]
    simp only [Int.toNat_natCast, hg, g0, g1, g2, w, hL, room40, ho, sB, List.length_append, List.length_singleton]
    rw [bifT (by omega), bif2T (by omega) (by omega), bifT (by omega)]
    by_cases c1 : i < p
    · rw [bifT (by omega), bifT (by omega), bifT (by omega), bif3T (by omega) (by omega) (by omega), bifT (by omega), nx _ (by simp), List.append_assoc, jm_cons, if_pos (Or.inl c1)]
    · rw [bifF (by omega), bifT (by omega)]
      by_cases c2 : j < q
      · rw [bifT (by omega), bifT (by omega), bifT (by omega), bif3T (by omega) (by omega) (by omega), bifT (by omega), nx _ (by simp), List.append_assoc, jm_cons, if_pos (Or.inr c2)]
      · rw [bifF (by omega), nx _ (by omega), jm_cons, if_neg (show ¬ (i < p ∨ j < q) by omega), List.nil_append]
end
theorem diff_jm (a b : T) (ha : a.length ≤ 1000) (hb : b.length ≤ 1000) : ∃ l : List (Nat × Nat), PR a b 0 0 l ∧ l.length ≤ 1000 ∧ spec_l3Diff.f a b = some (jm b 0 0 (l ++ [(a.length, b.length)])) ∧ impl_diff.f a b = some (jm b 0 0 (l ++ [(a.length, b.length)])) := by
  obtain ⟨l, hl, hn, hs, hi⟩ := pairs_both a b ha hb
  have hc := ch_of a b l 0 0 (by omega) (by omega) hl
  have hlen : (l ++ [(a.length, b.length)]).length = l.length + 1 := by simp
  have hf : (l ++ [(a.length, b.length)]).length ≤ 10000 := by omega
  have L1 := cvS_len l
  have L2 := cvI_len l
  refine ⟨l, hl, hn, ?_, ?_⟩
  · have e : cvS l ++ [((a.length : Int), (b.length : Int))] = cvS (l ++ [(a.length, b.length)]) := by simp [cvS]
    rw [spec_l3Diff.f_eq, hs, sB, spec_l2Join.f_eq, e, room16, bifT (by simp only [List.length_singleton]; omega), cvS_len]
    exact bindEq (sJoin_l0 b a.length ha hb _ hf (l ++ [(a.length, b.length)]) [] [] 0 0 rfl hc (by rw [List.length_nil]; omega) (by omega) (by omega)) rfl
  · have e : cvI l ++ [([(a.length : Int), (b.length : Int)] : List Int)] = cvI (l ++ [(a.length, b.length)]) := by simp [cvI]
    rw [impl_diff.f_eq, hi, sB, impl_between.f_eq, cloneI (cvI l) (by omega), sB, e, room24, bifT (by simp only [List.length_singleton]; omega), cvI_len]
    exact bindEq (iJoin_l0 b a.length ha hb _ hf (l ++ [(a.length, b.length)]) [] [] 0 0 rfl hc (by rw [List.length_nil]; omega) (by omega) (by omega)) rfl
/-- the hunks between two lists of lines -/
noncomputable def dif (a b : T) : List Hk := (spec_l3Diff.f a b).getD []
theorem dif_eq (a b : T) (ha : a.length ≤ 1000) (hb : b.length ≤ 1000) : ∃ l : List (Nat × Nat), PR a b 0 0 l ∧ l.length ≤ 1000 ∧ dif a b = jm b 0 0 (l ++ [(a.length, b.length)]) ∧ spec_l3Diff.f a b = some (dif a b) ∧ impl_diff.f a b = some (dif a b) := by
  obtain ⟨l, hl, hn, hs, hi⟩ := diff_jm a b ha hb
  have e : dif a b = jm b 0 0 (l ++ [(a.length, b.length)]) := by unfold dif; rw [hs]; rfl
  exact ⟨l, hl, hn, e, by rw [e]; exact hs, by rw [e]; exact hi⟩
theorem allLines_of {l : T} (h : ∀ s ∈ l, lineP s) : allLines l = true := by
  unfold allLines; rw [List.all_eq_true]; intro s hs; exact decide_eq_true (h s hs)
theorem allLines_mem {l : T} (h : allLines l = true) : ∀ s ∈ l, lineP s := by
  unfold allLines at h; rw [List.all_eq_true] at h; exact fun s hs => of_decide_eq_true (h s hs)
theorem good_lines {l : T} (h : goodB l = true) : allLines l = true := by
  unfold goodB at h
  simp only [Bool.and_eq_true] at h
  exact h.1.2
theorem jm_good (b : T) (la : Nat) (hb : goodB b = true) : ∀ (l : List (Nat × Nat)) (i j : Nat) (pe : Int), Ch la b.length i j l → pe < (i : Int) → hunksB (la : Int) pe (jm b i j l) = true
  | [], _, _, _, _, _ => rfl
  | (p, q) :: l, i, j, pe, hc, hp => by
    obtain ⟨h1, h2, h3, h4, h5⟩ := hc
    have h40 := good_len hb
    rw [jm_cons]
    by_cases c : i < p ∨ j < q
    · rw [if_pos c]
      show (oneB _ _ _ && hunksB _ _ (jm b (p + 1) (q + 1) l)) = true
      rw [Bool.and_eq_true]
      refine ⟨?_, ?_⟩
      · unfold oneB
        rw [Bool.and_eq_true]
        refine ⟨decide_eq_true ⟨⟨by show (0 : Int) ≤ i; omega, by show (0 : Int) ≤ (p : Int) - i; omega, by show (i : Int) + ((p : Int) - i) ≤ la; omega⟩, ?_, ?_, hp⟩, allLines_of fun s hs => allLines_mem (good_lines hb) s (List.mem_of_mem_take (List.mem_of_mem_drop hs))⟩
        · show ¬ ((p : Int) - i = 0 ∧ ((b.take q).drop j).length = 0)
          rw [List.length_drop, List.length_take]; omega
        · show ((b.take q).drop j).length ≤ 40
          rw [List.length_drop, List.length_take]; omega
      · exact jm_good b la hb l (p + 1) (q + 1) _ h5 (by show (i : Int) + ((p : Int) - i) < _; omega)
    · rw [if_neg c, List.nil_append]
      exact jm_good b la hb l (p + 1) (q + 1) pe h5 (by omega)
theorem dif_good (a b : T) (ga : goodB a = true) (gb : goodB b = true) : hunksB (a.length : Int) (-1) (dif a b) = true := by
  have la := good_len ga
  have lb := good_len gb
  obtain ⟨l, hl, _, e, _, _⟩ := dif_eq a b (by omega) (by omega)
  rw [e]
  exact jm_good b a.length gb _ 0 0 (-1) (ch_of a b l 0 0 (by omega) (by omega) hl) (by omega)
theorem dif_sm (a b : T) (ha : a.length ≤ 1000) (hb : Sm b) (hb2 : b.length ≤ 1000) : HkSm (dif a b) := by
  obtain ⟨l, hl, hn, e, _, _⟩ := dif_eq a b ha hb2
  rw [e]
  have h1 := jm_bound b (l ++ [(a.length, b.length)]) 0 0
  have hlen : (l ++ [(a.length, b.length)]).length = l.length + 1 := by simp
  exact ⟨by omega, fun h hh => ⟨by have := h1.2 h hh; omega, fun s hs => hb.2 s (jm_mem b _ 0 0 h hh s hs)⟩⟩
noncomputable def diffB (a b : T) : List Hk × Bool := if goodB a = true ∧ goodB b = true ∧ (dif a b).length ≤ 20 then (dif a b, true) else ([], false)
theorem diff_both (a b : T) (ha : Sm a) (hb : Sm b) : spec_DiffHunks.f a b = some (diffB a b) ∧ impl_DiffHunks.f a b = some (diffB a b) := by
  rw [spec_DiffHunks.f_eq, impl_DiffHunks.f_eq, sGood a ha, iGood a ha, sB, sB]
  unfold diffB
  cases ga : goodB a with
  | false => exact ⟨rfl, rfl⟩
  | true =>
    rw [notT, notT, sGood b hb, iGood b hb, sB, sB]
    cases gb : goodB b with
    | false => exact ⟨rfl, rfl⟩
    | true =>
      have la := good_len ga
      have lb := good_len gb
      obtain ⟨l, _, _, _, hs, hi⟩ := dif_eq a b (by omega) (by omega)
      have hsm := dif_sm a b (by omega) hb (by omega)
      have hg := dif_good a b ga gb
      rw [notT, notT, impl_DiffHunks.l7_eq, hs, hi, sB, sB, sHunks _ _ (by omega) (by omega) hsm, iHunks _ _ (by omega) (by omega) hsm, sB, sB, hg, Bool.true_and, decide_eq_true (show (a.length : Int) ≤ 40 by omega), Bool.and_true]
      by_cases h20 : (dif a b).length ≤ 20
      · rw [bifNF h20, bifNF h20, spec_DiffHunks.l7_eq, hs, sB, if_pos ⟨rfl, rfl, h20⟩]; exact ⟨rfl, rfl⟩
      · rw [bifNT h20, bifNT h20, if_neg (fun h => h20 h.2.2)]; exact ⟨rfl, rfl⟩
theorem jm_pat (a b : T) : ∀ (l : List (Nat × Nat)) (i j k : Nat), PR a b i j l → i ≤ a.length → j ≤ b.length → k ≤ i → pat a k (jm b i j (l ++ [(a.length, b.length)])) = (a.take i).drop k ++ b.drop j
  | [], i, j, k, _, hi, hj, hk => by
    rw [List.nil_append, jm_cons]
    by_cases c : i < a.length ∨ j < b.length
    · rw [if_pos c]
      show pat a k [((i : Int), (a.length : Int) - (i : Int), (b.take b.length).drop j)] = _
      have e : ((i : Int) + ((a.length : Int) - (i : Int))).toNat = a.length := by omega
      simp only [pat, Int.toNat_natCast, e, List.take_length, List.drop_length, List.append_nil]
    · rw [if_neg c]
      have e1 : i = a.length := by omega
      have e2 : j = b.length := by omega
      subst e1; subst e2
      simp only [List.nil_append, jm, pat, List.take_length, List.drop_length, List.append_nil]
  | (p, q) :: l, i, j, k, hP, hi, hj, hk => by
    obtain ⟨hL, hP⟩ := hP
    have h1 := hL.hip
    have h2 := hL.hpa
    have h3 := hL.hjq
    have h4 := hL.hqb
    have h5 := hL.hm.1
    have ea : ∀ m, m ≤ p → (a.take (p + 1)).drop m = (a.take p).drop m ++ [b.getD q em] := by
      intro m hm
      have : a[p] = b.getD q em := by rw [← h5]; simp [List.getD, h2]
      rw [List.take_succ_eq_append_getElem h2, List.drop_append_of_le_length (by rw [List.length_take]; omega), this]
    have eb : b.drop j = (b.take q).drop j ++ b.getD q em :: b.drop (q + 1) := by
      rw [← drop_at h4 em]
      conv => lhs; rw [← List.take_append_drop q b]
      rw [List.drop_append_of_le_length (by rw [List.length_take]; omega)]
    rw [List.cons_append, jm_cons]
    by_cases c : i < p ∨ j < q
    · rw [if_pos c]
      show pat a k (((i : Int), (p : Int) - (i : Int), (b.take q).drop j) :: jm b (p + 1) (q + 1) (l ++ [(a.length, b.length)])) = _
      have e : ((i : Int) + ((p : Int) - (i : Int))).toNat = p := by omega
      rw [pat]
      simp only [Int.toNat_natCast, e]
      rw [jm_pat a b l (p + 1) (q + 1) p hP (by omega) (by omega) (by omega), ea p (by omega), show (a.take p).drop p = [] from List.drop_eq_nil_of_le (by rw [List.length_take]; omega), eb]
      simp only [List.nil_append, List.append_assoc, List.singleton_append]
    · rw [if_neg c, List.nil_append]
      have eb2 : b.drop j = b.getD q em :: b.drop (q + 1) := by rw [show j = q by omega]; exact drop_at h4 em
      have e1 : a.take i = a.take p := by rw [show i = p by omega]
      rw [jm_pat a b l (p + 1) (q + 1) k hP (by omega) (by omega) (by omega), ea k (by omega), e1, eb2]
      simp only [List.append_assoc, List.singleton_append]
theorem dif_pat (a b : T) (ha : a.length ≤ 1000) (hb : b.length ≤ 1000) : pat a 0 (dif a b) = b := by
  obtain ⟨l, hl, _, e, _, _⟩ := dif_eq a b ha hb
  rw [e, jm_pat a b l 0 0 0 hl (by omega) (by omega) (Nat.le_refl _)]; rfl
/-- how many lines go, and how many come -/
def cG : List Hk → Int
  | [] => 0
  | x :: r => x.2.1 + cG r
def cC : List Hk → Int
  | [] => 0
  | x :: r => (x.2.2.length : Int) + cC r
theorem sameT (a b : T) (ha : a.length ≤ 140737488351232) (hb : b.length ≤ 140737488351232) : laws_sameTexts.f a b = some (decide (a = b)) := by
  rw [laws_sameTexts.f_eq]
  by_cases hl : a.length = b.length
  · rw [bifNF (by omega)]
    have key : ∀ i, i ≤ a.length → laws_sameTexts.l8 a b (a.length : Int) (i : Int) = some (decide (a.drop i = b.drop i)) := by
      apply downTo
      · rw [laws_sameTexts.l8_eq, bifF (by omega)]
        simp [List.drop_eq_nil_of_le, hl]
      · intro i hi ih
        rw [laws_sameTexts.l8_eq, bifT (by omega), bif2T (by omega) (by omega), bif2T (by omega) (by omega), up1 (by omega)]
        simp only [Int.toNat_natCast, toList_beq]
        rw [drop_at hi em, drop_at (l := b) (by omega) em]
        by_cases h : a.getD i em = b.getD i em
        · rw [bifNF h, ih]; simp only [List.cons.injEq, h, true_and]
        · rw [bifNT h]; simp only [List.cons.injEq, h, false_and, decide_false]
    have := key 0 (by omega)
    simpa using this
  · rw [bifNT (by omega)]
    rw [decide_eq_false (fun e => hl (by rw [e]))]
theorem sameT_self (a : T) (ha : a.length ≤ 140737488351232) : laws_sameTexts.f a a = some true := by rw [sameT a a ha ha, decide_eq_true rfl]
theorem sameH_self (a : List Hk) (ha : a.length ≤ 1048576) (hb : ∀ x ∈ a, x.2.2.length ≤ 1048576) : laws_sameHunks.f a a = some true := by
  rw [laws_sameHunks.f_eq, bifNF rfl]
  have key : ∀ i, i ≤ a.length → laws_sameHunks.l8 a a (a.length : Int) (i : Int) = some true := by
    apply downTo
    · rw [laws_sameHunks.l8_eq, bifF (by omega)]
    · intro i hi ih
      have hm := hb _ (getD_mem hi (0, 0, []))
      rw [laws_sameHunks.l8_eq, bifT (by omega), bif2T (by omega) (by omega), bif2T (by omega) (by omega), up1 (by omega)]
      simp only [Int.toNat_natCast]
      rw [bifNF trivial, bifNF trivial, sameT_self _ (by omega), sB, notT, bif2T (by omega) (by omega), bif2T (by omega) (by omega), ih]
  exact key 0 (by omega)
/-- hunks that can be counted -/
def CB (h : List Hk) : Prop := h.length ≤ 1000 ∧ ∀ x ∈ h, 0 ≤ x.2.1 ∧ x.2.1 ≤ 1000000 ∧ x.2.2.length ≤ 1048576
theorem cnt_le : ∀ {h : List Hk}, (∀ x ∈ h, 0 ≤ x.2.1 ∧ x.2.1 ≤ 1000000 ∧ x.2.2.length ≤ 1048576) → 0 ≤ cG h ∧ cG h ≤ 1048576 * h.length ∧ 0 ≤ cC h ∧ cC h ≤ 1048576 * h.length
  | [], _ => by simp [cG, cC]
  | x :: r, hb => by
    have h1 := hb x (by simp)
    have h2 := cnt_le (h := r) fun y hy => hb y (by simp [hy])
    simp only [cG, cC, List.length_cons]
    omega
theorem iCounts (h : List Hk) (hb : CB h) : impl_counts.f h = some (cG h, cC h) := by
  have key : ∀ (rest pre : List Hk) (g c : Int), h = pre ++ rest → 0 ≤ g → g ≤ 1048576 * pre.length → 0 ≤ c → c ≤ 1048576 * pre.length → impl_counts.l6 g c h (h.length : Int) (pre.length : Int) = some (g + cG rest, c + cC rest) := by
    intro rest
    induction rest with
    | nil =>
      intro pre g c hf _ _ _ _
      have hpl : h.length = pre.length := by rw [hf]; simp
      rw [impl_counts.l6_eq, bifF (by omega)]; simp [cG, cC]
    | cons x r ih =>
      intro pre g c hf g0 g1 c0 c1
      have hpl : h.length = pre.length + (r.length + 1) := by rw [hf]; simp
      have hg : h.getD pre.length (0, 0, []) = x := by rw [hf]; exact getD_mid pre x r _
      have hx := hb.2 x (by rw [hf]; simp)
      have hL := hb.1
      rw [impl_counts.l6_eq, bifT (by omega), bif2T (by omega) (by omega), up1 (by omega)]
      simp only [Int.toNat_natCast, hg]
      rw [w64_id (by omega) (by omega), w64_id (by omega) (by omega)]
      have := ih (pre ++ [x]) (g + x.2.1) (c + (x.2.2.length : Int)) (by rw [hf]; simp) (by omega) (by rw [List.length_append, List.length_singleton]; omega) (by omega) (by rw [List.length_append, List.length_singleton]; omega)
      rw [List.length_append, List.length_singleton] at this
      rw [this]
      simp only [cG, cC, Option.some.injEq, Prod.mk.injEq]
      omega
  rw [impl_counts.f_eq]
  have := key h [] 0 0 rfl (by omega) (by simp) (by omega) (by simp)
  simpa using this
theorem hunksB_CB : ∀ {h : List Hk} {many pe : Int}, hunksB many pe h = true → many ≤ 40 → ∀ x ∈ h, 0 ≤ x.2.1 ∧ x.2.1 ≤ 1000000 ∧ x.2.2.length ≤ 1048576
  | y :: r, many, pe, h, hm, x, hx => by
    obtain ⟨h1, h2⟩ := hunksB_cons h
    obtain ⟨⟨q1, q2, q3⟩, q4, q5, q6, _⟩ := oneB_in h1
    rcases List.mem_cons.1 hx with rfl | hx
    · omega
    · exact hunksB_CB h2 hm x hx
theorem hunksG_CB {h : List Hk} {many : Int} (k : hunksG many h = true) : CB h ∧ h.length ≤ 20 := by
  unfold hunksG at k
  simp only [Bool.and_eq_true, decide_eq_true_eq] at k
  exact ⟨⟨by omega, hunksB_CB k.1 k.2.2⟩, k.2.1⟩
theorem smA {r : T} (h1 : r.length ≤ 9) (h2 : ∀ s ∈ r, s.size ≤ 9) : Sm r := ⟨by omega, fun s hs => by have := h2 s hs; omega⟩
def okS : T → List (List Hk) → Bool
  | _, [] => true
  | l, h :: r => (patchB l h).2 && okS (pat l 0 h) r
def atS : T → List (List Hk) → T
  | l, [] => l
  | l, h :: r => atS (pat l 0 h) r
def serB (s : T × List (List Hk)) : Bool := okS s.1 s.2 && (goodB s.1 && decide ((s.2.length : Int) < 8))
def SmS (s : T × List (List Hk)) : Prop := Sm s.1 ∧ s.2.length ≤ 1048576 ∧ ∀ h ∈ s.2, HkSm h
theorem atS_append : ∀ (a b : List (List Hk)) (l : T), atS l (a ++ b) = atS (atS l a) b
  | [], b, l => rfl
  | h :: a, b, l => atS_append a b _
theorem okS_append : ∀ (a b : List (List Hk)) (l : T), okS l (a ++ b) = (okS l a && okS (atS l a) b)
  | [], b, l => by rw [List.nil_append, okS, atS, Bool.true_and]
  | h :: a, b, l => by rw [List.cons_append, okS, okS, okS_append a b, atS, Bool.and_assoc]
theorem at_sm : ∀ (st : List (List Hk)) (l : T), Sm l → (∀ h ∈ st, HkSm h) → okS l st = true → Sm (atS l st) ∧ (goodB l = true → goodB (atS l st) = true)
  | [], l, hl, _, _ => ⟨hl, fun h => h⟩
  | h :: r, l, hl, hs, ho => by
    rw [okS, Bool.and_eq_true] at ho
    obtain ⟨q1, q2, q3, q4⟩ := patchB_ok ho.1
    have h1 := pat_sm hl (hs h (by simp)) q1 q2
    have h2 := at_sm r _ h1 (fun x hx => hs x (by simp [hx])) ho.2
    exact ⟨h2.1, fun _ => h2.2 q3⟩
theorem okS_take {l : T} {st : List (List Hk)} (h : okS l st = true) (n : Nat) : okS l (st.take n) = true := by
  rw [← List.take_append_drop n st, okS_append, Bool.and_eq_true] at h
  exact h.1
theorem atS_succ (l : T) (st : List (List Hk)) {n : Nat} (hn : n < st.length) : atS l (st.take (n + 1)) = pat (atS l (st.take n)) 0 (st.getD n []) := by
  have e : st.getD n [] = st[n] := by simp [List.getD, hn]
  rw [List.take_succ_eq_append_getElem hn, atS_append, e]; rfl
def cS : List (List Hk) → Int
  | [] => 0
  | h :: r => cC h + cS r
theorem cC_nn : ∀ h : List Hk, 0 ≤ cC h
  | [] => Int.le_refl _
  | x :: r => by have := cC_nn r; rw [cC]; omega
noncomputable def difs : T → List T → List (List Hk)
  | _, [] => []
  | a, b :: r => dif a b :: difs b r
noncomputable def difsOk : T → List T → Bool
  | _, [] => true
  | a, b :: r => decide ((dif a b).length ≤ 20) && difsOk b r
theorem difs_len : ∀ (r : List T) (a : T), (difs a r).length = r.length
  | [], a => rfl
  | b :: r, a => by rw [difs, List.length_cons, List.length_cons, difs_len r b]
theorem dif_patch {a b : T} (ga : goodB a = true) (gb : goodB b = true) (h : (dif a b).length ≤ 20) : (patchB a (dif a b)).2 = true := by
  have la := good_len ga
  have lb := good_len gb
  have e := dif_pat a b (by omega) (by omega)
  unfold patchB
  rw [if_pos]
  refine ⟨ga, ?_, by rw [e]; exact gb⟩
  unfold hunksG
  rw [dif_good a b ga gb, Bool.true_and, Bool.and_eq_true, decide_eq_true_eq, decide_eq_true_eq]
  exact ⟨h, by omega⟩
theorem difs_ok : ∀ (r : List T) (a : T), goodB a = true → (∀ b ∈ r, goodB b = true) → difsOk a r = true → okS a (difs a r) = true
  | [], a, _, _, _ => rfl
  | b :: r, a, ga, gr, h => by
    rw [difsOk, Bool.and_eq_true, decide_eq_true_eq] at h
    have gb := gr b (by simp)
    have la := good_len ga
    have lb := good_len gb
    rw [difs, okS, dif_patch ga gb h.1, Bool.true_and, dif_pat a b (by omega) (by omega)]
    exact difs_ok r b gb (fun x hx => gr x (by simp [hx])) h.2
theorem difs_at : ∀ (r : List T) (a : T), goodB a = true → (∀ b ∈ r, goodB b = true) → ∀ n, n ≤ r.length → atS a ((difs a r).take n) = (a :: r).getD n []
  | r, a, _, _, 0, _ => by rw [List.take_zero, atS]; rfl
  | b :: r, a, ga, gr, n + 1, hn => by
    have gb := gr b (by simp)
    have la := good_len ga
    have lb := good_len gb
    rw [difs, List.take_succ_cons, atS, dif_pat a b (by omega) (by omega), difs_at r b gb (fun x hx => gr x (by simp [hx])) n (by rw [List.length_cons] at hn; omega)]
    rfl
theorem difs_sm : ∀ (r : List T) (a : T), goodB a = true → (∀ b ∈ r, goodB b = true ∧ Sm b) → ∀ h ∈ difs a r, HkSm h ∧ h.length ≤ 1001
  | [], a, _, _, h, hh => by cases hh
  | b :: r, a, ga, gr, h, hh => by
    have gb := gr b (by simp)
    have la := good_len ga
    have lb := good_len gb.1
    rw [difs] at hh
    rcases List.mem_cons.1 hh with rfl | hh
    · refine ⟨dif_sm a b (by omega) gb.2 (by omega), ?_⟩
      obtain ⟨l, hl, hn, e, _, _⟩ := dif_eq a b (by omega) (by omega)
      have h1 := (jm_bound b (l ++ [(a.length, b.length)]) 0 0).1
      rw [List.length_append, List.length_singleton] at h1
      rw [e]; omega
    · exact difs_sm r b gb.1 (fun x hx => gr x (by simp [hx])) h hh
abbrev Sr := T × List (List Hk)
theorem sSer (s : Sr) (hs : SmS s) : spec_l13Good.f s = some (serB s) := by
  obtain ⟨f, st⟩ := s
  obtain ⟨h1, h2, h3⟩ := hs
  simp only at h1 h2 h3
  have key : ∀ i, i ≤ st.length → ∀ l : T, Sm l → spec_l13Good.l6 (f, st) l st (st.length : Int) (i : Int) = some (okS l (st.drop i) && (goodB f && decide ((st.length : Int) < 8))) := by
    apply downTo
    · intro l hl
      rw [spec_l13Good.l6_eq, bifF (by omega), sGood f h1, sB, List.drop_eq_nil_of_le (by omega), okS, Bool.true_and]
      cases goodB f <;> rfl
    · intro i hi ih l hl
      rw [spec_l13Good.l6_eq, bifT (by omega), bif2T (by omega) (by omega), up1 (by omega), drop_at hi [], okS]
      simp only [Int.toNat_natCast]
      rw [sPatch l _ hl (h3 _ (getD_mem hi [])), sB]
      cases hp : (patchB l (st.getD i [])).2 with
      | false => rw [notF]; simp
      | true =>
        obtain ⟨q1, q2, q3, q4⟩ := patchB_ok hp
        rw [notT, q4, ih _ (pat_sm hl (h3 _ (getD_mem hi [])) q1 q2), Bool.true_and]
  rw [spec_l13Good.f_eq]
  exact key 0 (by omega) f h1
theorem sAt (s : Sr) (hs : SmS s) {n : Nat} (hn : n ≤ s.2.length) (ho : okS s.1 (s.2.take n) = true) : spec_l13At.f s (n : Int) = some (atS s.1 (s.2.take n)) := by
  obtain ⟨f, st⟩ := s
  obtain ⟨h1, h2, h3⟩ := hs
  simp only at h1 h2 h3 hn ho ⊢
  have key : ∀ i, i ≤ (st.take n).length → ∀ l : T, okS l ((st.take n).drop i) = true → spec_l13At.l6 l (st.take n) ((st.take n).length : Int) (i : Int) = some (atS l ((st.take n).drop i)) := by
    have hlen : (st.take n).length = n := by rw [List.length_take]; omega
    apply downTo
    · intro l _
      rw [spec_l13At.l6_eq, bifF (by omega), List.drop_eq_nil_of_le (by omega), atS]
    · intro i hi ih l hl
      rw [drop_at hi [], okS, Bool.and_eq_true] at hl
      obtain ⟨q1, q2, q3, q4⟩ := patchB_ok hl.1
      unfold hunksG at q2
      simp only [Bool.and_eq_true, decide_eq_true_eq] at q2
      rw [spec_l13At.l6_eq, bifT (by omega), bif2T (by omega) (by omega), up1 (by omega), drop_at hi [], atS]
      simp only [Int.toNat_natCast]
      rw [sPat l (good_len q1) _ q2.1 q2.2.1, sB, ih _ hl.2]
  rw [spec_l13At.f_eq, ownT _ h1.1, sB, bif2T (by omega) (by simp only; omega)]
  simp only [Int.toNat_natCast]
  exact key 0 (by omega) f ho
def tx (l : T) (st : List (List Hk)) (i : Nat) : List T := (List.range (i + 1)).map fun n => atS l (st.take n)
theorem tx_len (l : T) (st : List (List Hk)) (i : Nat) : (tx l st i).length = i + 1 := by simp [tx]
theorem tx_get (l : T) (st : List (List Hk)) {i n : Nat} (h : n ≤ i) : (tx l st i).getD n [] = atS l (st.take n) := by
  have hn : n < (List.range (i + 1)).length := by simp; omega
  simp [tx, List.getD, List.getElem?_range, show n < i + 1 by omega]
theorem tx_succ (l : T) (st : List (List Hk)) {i : Nat} (h : i < st.length) : tx l st i ++ [pat (atS l (st.take i)) 0 (st.getD i [])] = tx l st (i + 1) := by
  unfold tx
  rw [List.range_succ (n := i + 1), List.map_append, ← atS_succ l st h]; rfl
theorem iTexts (s : Sr) (hs : SmS s) : impl_Series_texts.f s = some (if serB s = true then (tx s.1 s.2 s.2.length, true) else ([], false)) := by
  obtain ⟨f, st⟩ := s
  obtain ⟨h1, h2, h3⟩ := hs
  simp only at h1 h2 h3
  rw [impl_Series_texts.f_eq, iGood _ h1, sB]
  unfold serB
  simp only
  cases hg : goodB f with
  | false => rw [notF]; simp
  | true =>
    rw [notT]
    by_cases h8 : (st.length : Int) < 8
    case neg => rw [bifT (by omega), decide_eq_false h8]; simp
    rw [bifF (by omega), impl_Series_texts.l7_eq, cloneT _ h1.1, sB, decide_eq_true h8, Bool.true_and, Bool.and_true]
    simp only
    have key : ∀ i, i ≤ st.length → okS f (st.take i) = true → impl_Series_texts.l10 (tx f st i) st (st.length : Int) (i : Int) = some (if okS (atS f (st.take i)) (st.drop i) = true then (tx f st st.length, true) else ([], false)) := by
      apply downTo
      · intro _
        rw [impl_Series_texts.l10_eq, bifF (by omega), List.drop_eq_nil_of_le (by omega), okS, if_pos rfl]
      · intro i hi ih ho
        have hsm := (at_sm (st.take i) f h1 (fun h hh => h3 h (List.mem_of_mem_take hh)) ho).1
        rw [impl_Series_texts.l10_eq, bifT (by omega), bif2T (by omega) (by omega), bif2T (by omega) (by rw [tx_len]; omega), up1 (by omega)]
        simp only [Int.toNat_natCast]
        rw [tx_get f st (Nat.le_refl i), iPatch _ _ hsm (h3 _ (getD_mem hi [])), sB, drop_at hi [], okS]
        cases hp : (patchB (atS f (st.take i)) (st.getD i [])).2 with
        | false => rw [notF]; simp
        | true =>
          obtain ⟨q1, q2, q3, q4⟩ := patchB_ok hp
          rw [notT, room24, tx_len, bifT (by simp only [List.length_singleton]; omega), q4, tx_succ f st hi, ih (by
            have e : st.getD i [] = st[i] := by simp [List.getD, hi]
            rw [List.take_succ_eq_append_getElem hi, okS_append, ho, Bool.true_and, ← e, okS, hp]; rfl), Bool.true_and, atS_succ f st hi]
    exact key 0 (by omega) rfl
theorem iGoodSer (s : Sr) (hs : SmS s) : impl_GoodSeries.f s = some (serB s) := by
  rw [impl_GoodSeries.f_eq, iTexts s hs, sB]
  cases serB s <;> rfl
theorem sGoodSer (s : Sr) (hs : SmS s) : spec_GoodSeries.f s = some (serB s) := by
  rw [spec_GoodSeries.f_eq, sSer s hs, sB]
def textAtB (s : Sr) (n : Int) : T × Bool := if serB s = true ∧ 0 ≤ n ∧ n ≤ (s.2.length : Int) then (atS s.1 (s.2.take n.toNat), true) else ([], false)
theorem ser_ok {s : Sr} (h : serB s = true) : okS s.1 s.2 = true ∧ goodB s.1 = true ∧ s.2.length < 8 := by
  unfold serB at h
  simp only [Bool.and_eq_true, decide_eq_true_eq] at h
  exact ⟨h.1, h.2.1, by have := h.2.2; omega⟩
theorem textAt_both (s : Sr) (n : Int) (hs : SmS s) : spec_TextAt.f s n = some (textAtB s n) ∧ impl_TextAt.f s n = some (textAtB s n) := by
  rw [spec_TextAt.f_eq, impl_TextAt.f_eq, sSer s hs, iTexts s hs, sB, sB]
  unfold textAtB
  cases hg : serB s with
  | false => exact ⟨rfl, rfl⟩
  | true =>
    obtain ⟨o1, o2, o3⟩ := ser_ok hg
    rw [notT, sIn, iIn, sB, if_pos rfl]
    simp only
    rw [notT, sB]
    by_cases h : 0 ≤ n ∧ n ≤ (s.2.length : Int)
    case neg => rw [bifNT h, bifNT h, if_neg (fun hh => h hh.2)]; exact ⟨rfl, rfl⟩
    have e : ((n.toNat : Nat) : Int) = n := by omega
    have h1 := sAt s hs (n := n.toNat) (by omega) (okS_take o1 _)
    rw [e] at h1
    rw [bifNF h, bifNF h, h1, sB, bif2T (by omega) (by rw [tx_len]; omega), tx_get _ _ (by omega), if_pos ⟨trivial, h⟩]
    exact ⟨rfl, rfl⟩
theorem ownH (h : List Hk) (hs : HkSm h) : spec_l13OwnH.f h = some h := by
  have hl := hs.1
  have key : ∀ i, i ≤ h.length → spec_l13OwnH.l6 (h.take i) h (h.length : Int) (i : Int) = some h := by
    apply downTo
    · rw [spec_l13OwnH.l6_eq, bifF (by omega), List.take_length]
    · intro i hi ih
      have e : h.getD i (0, 0, []) = h[i] := by simp [List.getD, hi]
      rw [spec_l13OwnH.l6_eq, bifT (by omega), bif2T (by omega) (by omega), up1 (by omega), room40]
      simp only [Int.toNat_natCast]
      rw [ownT _ (hs.2 _ (getD_mem hi (0, 0, []))).1, sB, bifT (by rw [List.length_take, List.length_singleton]; omega), e, show (h[i].1, h[i].2.1, h[i].2.2) = h[i] from rfl, ← List.take_succ_eq_append_getElem hi]
      exact ih
  rw [spec_l13OwnH.f_eq]
  exact key 0 (by omega)
theorem cloneH (h : List Hk) (hs : h.length ≤ 1048576) : slices_Clone_Limpl_Hunk_impl_Hunk.f h = some h := by
  unfold slices_Clone_Limpl_Hunk_impl_Hunk.f clone1
  rw [room40, bifT (by omega)]
theorem copiedH (h : List Hk) (hs : HkSm h) : impl_copiedHunks.f h = some h := by
  have hl := hs.1
  have key : ∀ i, i ≤ h.length → impl_copiedHunks.l6 h (h.length : Int) (i : Int) = some h := by
    apply downTo
    · rw [impl_copiedHunks.l6_eq, bifF (by omega)]
    · intro i hi ih
      rw [impl_copiedHunks.l6_eq, bifT (by omega), bif2T (by omega) (by omega), up1 (by omega)]
      simp only [Int.toNat_natCast]
      rw [cloneT _ (hs.2 _ (getD_mem hi (0, 0, []))).1, sB, bif2T (by omega) (by omega)]
      have e : h.set i ((h.getD i (0, 0, [])).1, (h.getD i (0, 0, [])).2.1, (h.getD i (0, 0, [])).2.2) = h := by
        have e : h.getD i (0, 0, []) = h[i] := by simp [List.getD, hi]
        rw [e]; exact List.set_getElem_self hi
      rw [e]; exact ih
  rw [impl_copiedHunks.f_eq, cloneH h hl, sB]
  exact key 0 (by omega)
theorem sOwnS (s : Sr) (hs : SmS s) : spec_l13Own.f s = some s := by
  obtain ⟨f, st⟩ := s
  obtain ⟨h1, h2, h3⟩ := hs
  simp only at h1 h2 h3
  have key : ∀ i, i ≤ st.length → ∀ t : Sr, spec_l13Own.l6 t (f, st.take i) st (st.length : Int) (i : Int) = some (f, st) := by
    apply downTo
    · intro t; rw [spec_l13Own.l6_eq, bifF (by omega), List.take_length]
    · intro i hi ih t
      have e : st.getD i [] = st[i] := by simp [List.getD, hi]
      rw [spec_l13Own.l6_eq, bifT (by omega), bif2T (by omega) (by omega), up1 (by omega), room24]
      simp only [Int.toNat_natCast]
      rw [ownH _ (h3 _ (getD_mem hi [])), sB, bifT (by rw [List.length_take, List.length_singleton]; omega), e, ← List.take_succ_eq_append_getElem hi]
      exact ih _
  rw [spec_l13Own.f_eq, ownT _ h1.1, sB]
  exact key 0 (by omega) _
theorem iCopied (s : Sr) (hs : SmS s) : impl_Series_copied.f s = some s := by
  obtain ⟨f, st⟩ := s
  obtain ⟨h1, h2, h3⟩ := hs
  simp only at h1 h2 h3
  have key : ∀ i, i ≤ st.length → ∀ t : Sr, impl_Series_copied.l6 t (f, st.take i) st (st.length : Int) (i : Int) = some (f, st) := by
    apply downTo
    · intro t; rw [impl_Series_copied.l6_eq, bifF (by omega), List.take_length]
    · intro i hi ih t
      have e : st.getD i [] = st[i] := by simp [List.getD, hi]
      rw [impl_Series_copied.l6_eq, bifT (by omega), bif2T (by omega) (by omega), up1 (by omega), room24]
      simp only [Int.toNat_natCast]
      rw [copiedH _ (h3 _ (getD_mem hi [])), sB, bifT (by rw [List.length_take, List.length_singleton]; omega), e, ← List.take_succ_eq_append_getElem hi]
      exact ih _
  rw [impl_Series_copied.f_eq, cloneT _ h1.1, sB]
  exact key 0 (by omega) _
noncomputable def addB (s : Sr) (l : T) : Sr × Bool := if serB s = true ∧ s.2.length < 7 ∧ (diffB (atS s.1 s.2) l).2 = true then ((s.1, s.2 ++ [dif (atS s.1 s.2) l]), true) else (([], []), false)
theorem diffB_ok {a b : T} (h : (diffB a b).2 = true) : goodB a = true ∧ goodB b = true ∧ (dif a b).length ≤ 20 ∧ diffB a b = (dif a b, true) := by
  unfold diffB at h ⊢
  split at h
  · rename_i hc; rw [if_pos hc]; exact ⟨hc.1, hc.2.1, hc.2.2, rfl⟩
  · cases h
theorem add_both (s : Sr) (l : T) (hs : SmS s) (hl : Sm l) : spec_AddText.f s l = some (addB s l) ∧ impl_AddText.f s l = some (addB s l) := by
  rw [spec_AddText.f_eq, impl_AddText.f_eq, sSer s hs, iTexts s hs, sB, sB]
  unfold addB
  cases hg : serB s with
  | false => exact ⟨rfl, rfl⟩
  | true =>
    obtain ⟨o1, o2, o3⟩ := ser_ok hg
    have hsm := at_sm s.2 s.1 hs.1 hs.2.2 o1
    have hAt := sAt s hs (Nat.le_refl _) (by rw [List.take_length]; exact o1)
    rw [List.take_length] at hAt
    have hd := diff_both (atS s.1 s.2) l hsm.1 hl
    rw [notT, sGood l hl, sB, if_pos rfl]
    simp only
    rw [notT, w64_id (by omega) (by omega)]
    by_cases h7 : s.2.length < 7
    case neg =>
      rw [bifT (show ((s.2.length : Int) + 1 ≥ 8) by omega), bifT (show (s.2.length : Int) = 7 by omega), if_neg (fun hh => h7 hh.2.1)]
      refine ⟨?_, rfl⟩
      cases goodB l <;> rfl
    rw [bifF (show ¬ ((s.2.length : Int) + 1 ≥ 8) by omega), bifF (show ¬ (s.2.length : Int) = 7 by omega), spec_AddText.l7_eq, impl_AddText.l9_eq, bif2T (by omega) (by rw [tx_len]; omega), hAt, sB, hd.1, sB]
    simp only [Int.toNat_natCast]
    rw [tx_get _ _ (Nat.le_refl _), List.take_length, hd.2, sB, sOwnS s hs, iCopied s hs, sB]
    cases hdb : (diffB (atS s.1 s.2) l).2 with
    | false =>
      rw [notF, if_neg (fun hh => by cases hh.2.2)]
      refine ⟨?_, rfl⟩
      cases goodB l <;> rfl
    | true =>
      obtain ⟨d1, d2, d3, d4⟩ := diffB_ok hdb
      rw [notT, d2, notT, room24, bifT (by simp only [List.length_singleton]; omega), d4, if_pos ⟨trivial, h7, rfl⟩]
      exact ⟨rfl, rfl⟩
def sizeB (s : Sr) : Int × Bool := if serB s = true then ((s.1.length : Int) + cS s.2, true) else (0, false)
theorem ok_CB : ∀ {st : List (List Hk)} {l : T}, okS l st = true → ∀ h ∈ st, CB h ∧ h.length ≤ 20
  | x :: st, l, ho, h, hh => by
    rw [okS, Bool.and_eq_true] at ho
    obtain ⟨q1, q2, q3, q4⟩ := patchB_ok ho.1
    rcases List.mem_cons.1 hh with rfl | hh
    · exact hunksG_CB q2
    · exact ok_CB ho.2 h hh
theorem cC_bd {h : List Hk} (hb : CB h) (h20 : h.length ≤ 20) : 0 ≤ cC h ∧ cC h ≤ 20971520 := by
  have := cnt_le hb.2
  omega
theorem size_both (s : Sr) (hs : SmS s) : spec_SizeOf.f s = some (sizeB s) ∧ impl_SizeOf.f s = some (sizeB s) := by
  rw [spec_SizeOf.f_eq, impl_SizeOf.f_eq, sSer s hs, iGoodSer s hs, sB, sB]
  unfold sizeB
  obtain ⟨f, st⟩ := s
  obtain ⟨h1, h2, h3⟩ := hs
  simp only at h1 h2 h3
  cases hg : serB (f, st) with
  | false => exact ⟨rfl, rfl⟩
  | true =>
    obtain ⟨o1, o2, o3⟩ := ser_ok hg
    simp only at o1 o2 o3
    have hcb := ok_CB o1
    have hf := good_len o2
    rw [notT, notT, if_pos rfl]
    simp only
    have si : ∀ i, i ≤ st.length → ∀ n : Int, 0 ≤ n → n ≤ 40 + 20971520 * (i : Int) → impl_SizeOf.l10 n st (st.length : Int) (i : Int) = some (n + cS (st.drop i), true) := by
      apply downTo
      · intro n _ _
        rw [impl_SizeOf.l10_eq, bifF (by omega), List.drop_eq_nil_of_le (by omega), cS, Int.add_zero]
      · intro i hi ih n n0 n1
        have hm := hcb _ (getD_mem hi [])
        have hb := cC_bd hm.1 hm.2
        rw [impl_SizeOf.l10_eq, bifT (by omega), bif2T (by omega) (by omega), up1 (by omega)]
        simp only [Int.toNat_natCast]
        rw [iCounts _ hm.1, sB]
        simp only
        rw [w64_id (by omega) (by omega), ih _ (by omega) (by omega), drop_at hi [], cS, Int.add_assoc]
    have ss : ∀ i, i ≤ st.length → ∀ n : Int, 0 ≤ n → n ≤ 40 + 20971520 * (i : Int) → spec_SizeOf.l10 n st (st.length : Int) (i : Int) = some (n + cS (st.drop i), true) := by
      apply downTo
      · intro n _ _
        rw [spec_SizeOf.l10_eq, bifF (by omega), List.drop_eq_nil_of_le (by omega), cS, Int.add_zero]
      · intro i hi ih n n0 n1
        have hm := hcb _ (getD_mem hi [])
        rw [spec_SizeOf.l10_eq, bifT (by omega), bif2T (by omega) (by omega)]
        simp only [Int.toNat_natCast]
        generalize hh : st.getD i [] = h at hm
        have hb := cC_bd hm.1 hm.2
        have inner : ∀ j, j ≤ h.length → ∀ m : Int, 0 ≤ m → m + cC (h.drop j) ≤ 40 + 20971520 * ((i + 1 : Nat) : Int) → spec_SizeOf.l16 m st (st.length : Int) (i : Int) h (h.length : Int) (j : Int) = some (m + cC (h.drop j) + cS (st.drop (i + 1)), true) := by
          apply downTo
          · intro m m0 m1
            rw [List.drop_eq_nil_of_le (Nat.le_refl _), cC] at m1 ⊢
            rw [spec_SizeOf.l16_eq, bifF (by omega), up1 (by omega), ih _ m0 (by omega), Int.add_zero]
          · intro j hj ihj m m0 m1
            have hx := (hm.1.2 _ (getD_mem hj (0, 0, []))).2.2
            have hnn := cC_nn (h.drop (j + 1))
            rw [drop_at hj (0, 0, []), cC] at m1 ⊢
            rw [spec_SizeOf.l16_eq, bifT (by omega), bif2T (by omega) (by omega), up1 (by omega)]
            simp only [Int.toNat_natCast]
            rw [w64_id (by omega) (by omega), ihj _ (by omega) (by omega)]
            congr 2
            omega
        have := inner 0 (by omega) n n0 (by rw [List.drop_zero]; omega)
        rw [List.drop_zero] at this
        rw [show ((0 : Nat) : Int) = 0 from rfl] at this
        rw [this, drop_at hi [], cS, hh, Int.add_assoc]
    exact ⟨ss 0 (by omega) _ (by omega) (by omega), si 0 (by omega) _ (by omega) (by omega)⟩
abbrev TT := List T
def versB (v : TT) : Bool := v.all goodB && decide (1 ≤ (v.length : Int) ∧ (v.length : Int) ≤ 8)
theorem sVers (v : TT) (hl : v.length ≤ 1048576) (hs : ∀ l ∈ v, Sm l) : spec_l12Good.f v = some (versB v) := by
  have key : ∀ i, i ≤ v.length → spec_l12Good.l4 v v (v.length : Int) (i : Int) = some ((v.drop i).all goodB && decide (1 ≤ (v.length : Int) ∧ (v.length : Int) ≤ 8)) := by
    apply downTo
    · rw [spec_l12Good.l4_eq, bifF (by omega), sIn, sB, List.drop_eq_nil_of_le (by omega)]; rfl
    · intro i hi ih
      rw [spec_l12Good.l4_eq, bifT (by omega), bif2T (by omega) (by omega), up1 (by omega)]
      simp only [Int.toNat_natCast]
      rw [sGood _ (hs _ (getD_mem hi [])), sB, ih, drop_at hi [], List.all_cons]
      cases goodB (v.getD i []) with
      | true => rw [notT, Bool.true_and]
      | false => rw [notF, Bool.false_and, Bool.false_and]
  have := key 0 (by omega)
  rw [List.drop_zero] at this
  rw [spec_l12Good.f_eq]
  exact this
theorem iVers (v : TT) (hl : v.length ≤ 1048576) (hs : ∀ l ∈ v, Sm l) : impl_areVersions.f v = some (versB v) := by
  have idx : ∀ i, i ≤ v.length → ∃ r : Int, slices_IndexFunc_LLstring_Lstring__impl_areVersions_1.l4 v (v.length : Int) (i : Int) = some r ∧ (decide (r ≥ 0) = !((v.drop i).all goodB)) := by
    apply downTo
    · refine ⟨-1, by rw [slices_IndexFunc_LLstring_Lstring__impl_areVersions_1.l4_eq, bifF (by omega)], ?_⟩
      rw [List.drop_eq_nil_of_le (by omega)]; rfl
    · intro i hi ⟨r, hr, hp⟩
      rw [slices_IndexFunc_LLstring_Lstring__impl_areVersions_1.l4_eq, bifT (by omega), bif2T (by omega) (by omega), up1 (by omega)]
      simp only [Int.toNat_natCast]
      rw [impl_areVersions_1.f_eq, iGood _ (hs _ (getD_mem hi [])), sB, sB, drop_at hi [], List.all_cons]
      cases goodB (v.getD i []) with
      | true => exact ⟨r, by rw [notT]; exact hr, by rw [Bool.true_and]; exact hp⟩
      | false => exact ⟨(i : Int), by rw [notF], by rw [Bool.false_and]; exact decide_eq_true (by omega)⟩
  obtain ⟨r, hr, hp⟩ := idx 0 (by omega)
  rw [List.drop_zero] at hp
  unfold versB
  rw [impl_areVersions.f_eq, iIn, sB]
  by_cases h : 1 ≤ (v.length : Int) ∧ (v.length : Int) ≤ 8
  · rw [bifT h, slices_ContainsFunc_LLstring_Lstring__impl_areVersions_1.f_eq, slices_IndexFunc_LLstring_Lstring__impl_areVersions_1.f_eq]
    refine bindEq (bindEq hr rfl) ?_
    rw [hp, decide_eq_true h]; simp
  · rw [bifF h, decide_eq_false h, Bool.and_false]
theorem vers_ok {v : TT} (h : versB v = true) : (∀ l ∈ v, goodB l = true) ∧ 1 ≤ v.length ∧ v.length ≤ 8 := by
  unfold versB at h
  simp only [Bool.and_eq_true, decide_eq_true_eq, List.all_eq_true] at h
  exact ⟨h.1, by omega, by omega⟩
noncomputable def serOf (v : TT) : Sr × Bool := if versB v = true ∧ difsOk (v.getD 0 []) (v.drop 1) = true then ((v.getD 0 [], difs (v.getD 0 []) (v.drop 1)), true) else (([], []), false)
theorem steps_both (v : TT) (hg : ∀ l ∈ v, goodB l = true) (hl : v.length ≤ 8) (hs : ∀ l ∈ v, Sm l) (f : T) :
    ∀ n, n ≤ v.length → 1 ≤ n → ∀ (t t' : Sr) (acc : List (List Hk)), acc.length ≤ n →
      spec_SeriesOf.l10 v t (f, acc) (n : Int) = some (if difsOk (v.getD (n - 1) []) (v.drop n) = true then ((f, acc ++ difs (v.getD (n - 1) []) (v.drop n)), true) else (([], []), false)) ∧
      impl_SeriesOf.l10 v t' (f, acc) (n : Int) = some (if difsOk (v.getD (n - 1) []) (v.drop n) = true then ((f, acc ++ difs (v.getD (n - 1) []) (v.drop n)), true) else (([], []), false)) := by
  apply downTo
  · intro _ t t' acc ha
    rw [spec_SeriesOf.l10_eq, impl_SeriesOf.l10_eq, bifF (by omega), bifF (by omega), List.drop_eq_nil_of_le (by omega), difsOk, difs, if_pos rfl, List.append_nil]
    exact ⟨rfl, rfl⟩
  · intro n hn ih h1 t t' acc ha
    have e := dn1 (i := n) (by omega) (by omega)
    have m1 := getD_mem (l := v) (i := n - 1) (by omega) []
    have m2 := getD_mem hn (l := v) []
    rw [spec_SeriesOf.l10_eq, impl_SeriesOf.l10_eq]
    simp only [e, Int.toNat_natCast]
    rw [bifT (by omega), bifT (by omega), bif2T (by omega) (by omega), bif2T (by omega) (by omega), bif2T (by omega) (by omega), bif2T (by omega) (by omega)]
    obtain ⟨d1, d2⟩ := diff_both (v.getD (n - 1) []) (v.getD n []) (hs _ m1) (hs _ m2)
    rw [d1, d2, sB, sB, drop_at hn [], difsOk, difs]
    unfold diffB
    by_cases h20 : (dif (v.getD (n - 1) []) (v.getD n [])).length ≤ 20
    · rw [if_pos ⟨hg _ m1, hg _ m2, h20⟩]
      simp only
      rw [notT, room24, bifT (by simp only [List.length_singleton]; omega), bifT (by simp only [List.length_singleton]; omega), up1 (by omega), decide_eq_true h20, Bool.true_and]
      have := ih (by omega) (t.1, t.2) (t'.1, t'.2) (acc ++ [dif (v.getD (n - 1) []) (v.getD n [])]) (by rw [List.length_append, List.length_singleton]; omega)
      rw [show n + 1 - 1 = n by omega, List.append_assoc] at this
      exact this
    · rw [if_neg (fun h => h20 h.2.2), decide_eq_false h20, Bool.false_and, if_neg (by simp)]
      exact ⟨rfl, rfl⟩
theorem ser_both (v : TT) (hl : v.length ≤ 1048576) (hs : ∀ l ∈ v, Sm l) : spec_SeriesOf.f v = some (serOf v) ∧ impl_SeriesOf.f v = some (serOf v) := by
  rw [spec_SeriesOf.f_eq, impl_SeriesOf.f_eq, sVers v hl hs, iVers v hl hs, sB, sB]
  unfold serOf
  cases hv : versB v with
  | false => exact ⟨rfl, rfl⟩
  | true =>
    obtain ⟨v1, v2, v3⟩ := vers_ok hv
    have h0 := (hs _ (getD_mem (l := v) (i := 0) (by omega) [])).1
    obtain ⟨a1, a2⟩ := steps_both v v1 v3 hs (v.getD 0 []) 1 (by omega) (by omega) ([], []) ([], []) [] (by simp)
    rw [show ((1 : Nat) : Int) = 1 from rfl] at a1 a2
    rw [notT, notT, bifT (by omega), bifT (by omega), ownT _ h0, cloneT _ h0, sB, sB, a1, a2]
    refine ⟨?_, ?_⟩ <;> simp
theorem serOf_ok {v : TT} (hs : ∀ l ∈ v, Sm l) (h : (serOf v).2 = true) : serOf v = ((v.getD 0 [], difs (v.getD 0 []) (v.drop 1)), true) ∧ serB (serOf v).1 = true ∧ (serOf v).1.2.length + 1 = v.length ∧ ∀ n, n < v.length → atS (serOf v).1.1 ((serOf v).1.2.take n) = v.getD n [] := by
  unfold serOf at h
  split at h
  case isFalse => cases h
  rename_i hc
  obtain ⟨v1, v2, v3⟩ := vers_ok hc.1
  have e : serOf v = ((v.getD 0 [], difs (v.getD 0 []) (v.drop 1)), true) := by unfold serOf; rw [if_pos hc]
  have g0 := v1 _ (getD_mem (l := v) (i := 0) (by omega) [])
  have gr : ∀ b ∈ v.drop 1, goodB b = true := fun b hb => v1 b (List.mem_of_mem_drop hb)
  have hlen : (difs (v.getD 0 []) (v.drop 1)).length + 1 = v.length := by rw [difs_len, List.length_drop]; omega
  rw [e]
  refine ⟨rfl, ?_, hlen, fun n hn => ?_⟩
  · unfold serB
    simp only
    rw [difs_ok _ _ g0 gr hc.2, g0, Bool.true_and, Bool.true_and, decide_eq_true_eq]
    omega
  · have := difs_at (v.drop 1) (v.getD 0 []) g0 gr n (by rw [List.length_drop]; omega)
    simp only
    rw [this, ← drop_at (l := v) (i := 0) (by omega) [], List.drop_zero]
theorem serOf_sm {v : TT} (hs : ∀ l ∈ v, Sm l) : SmS (serOf v).1 ∧ (serOf v).1.2.length ≤ 8 ∧ (serOf v).1.1.length ≤ 40 ∧ ∀ h ∈ (serOf v).1.2, h.length ≤ 1001 := by
  unfold serOf
  split
  · rename_i hc
    obtain ⟨v1, v2, v3⟩ := vers_ok hc.1
    have m0 := getD_mem (l := v) (i := 0) (by omega) []
    have hd := difs_sm (v.drop 1) (v.getD 0 []) (v1 _ m0) fun b hb => ⟨v1 b (List.mem_of_mem_drop hb), hs b (List.mem_of_mem_drop hb)⟩
    have hlen : (difs (v.getD 0 []) (v.drop 1)).length ≤ 8 := by rw [difs_len, List.length_drop]; omega
    exact ⟨⟨hs _ m0, by simp only; omega, fun h hh => (hd h hh).1⟩, hlen, good_len (v1 _ m0), fun h hh => (hd h hh).2⟩
  · exact ⟨⟨⟨by simp, fun s hs => by cases hs⟩, by simp, fun h hh => by cases hh⟩, by simp, by simp, fun h hh => by cases hh⟩
theorem sameS_self (s : Sr) (hs : SmS s) : laws_sameSeries.f s s = some true := by
  obtain ⟨f, st⟩ := s
  obtain ⟨h1, h2, h3⟩ := hs
  simp only at h1 h2 h3
  have hf := h1.1
  have key : ∀ i, i ≤ st.length → laws_sameSeries.l8 (f, st) (f, st) (st.length : Int) (i : Int) = some true := by
    apply downTo
    · rw [laws_sameSeries.l8_eq, bifF (by omega)]
    · intro i hi ih
      have hm := h3 _ (getD_mem hi [])
      rw [laws_sameSeries.l8_eq, bifT (by omega), bif2T (by omega) (by simp only; omega), bif2T (by omega) (by simp only; omega), up1 (by omega)]
      simp only [Int.toNat_natCast]
      rw [sameH_self _ hm.1 (fun x hx => (hm.2 x hx).1), sB, notT, ih]
  rw [laws_sameSeries.f_eq, sameT_self _ (show f.length ≤ _ by omega), sB, notT, bifNF rfl, laws_sameSeries.l7_eq]
  exact key 0 (by omega)
theorem sB3 (l : T) (h : TB 30 30 l) : Sm l := h.sm (by omega) (by omega)
theorem vers_l24 (n : Nat) : ∀ (d : Nat) (c : Cu) (v : TT), Cok (n + 2 * d + 2) c → 1 ≤ v.length → 9 - v.length ≤ d → v.length ≤ 10 → (∀ l ∈ v, TB 30 30 l) → ∃ (r : TT) (c' : Cu), spec_l1Cur_versions.l24 c v = some (r, c') ∧ r.length ≤ 10 ∧ (∀ l ∈ r, TB 30 30 l) ∧ Cok n c' := by
  intro d
  induction d with
  | zero =>
    intro c v hc h1 h2 h3 hv
    obtain ⟨x, c1, e1, x0, x1, _, k1⟩ := pick_ok (n := n) (hc.le (by omega)) 2
    have := x1 (by omega)
    rw [spec_l1Cur_versions.l24_eq, e1, sB]
    simp only
    rw [w64_id (by omega) (by omega), bifF (by omega)]
    exact ⟨v, c1, rfl, h3, hv, k1⟩
  | succ d ih =>
    intro c v hc h1 h2 h3 hv
    obtain ⟨x, c1, e1, x0, x1, _, k1⟩ := pick_ok (n := n + 2 * d + 2) (hc.le (by omega)) 2
    have := x1 (by omega)
    rw [spec_l1Cur_versions.l24_eq, e1, sB]
    simp only
    rw [w64_id (by omega) (by omega)]
    by_cases h : (v.length : Int) < 8 + x
    · rw [bifT h, bifT (by omega), room24, bifT (by rw [List.length_singleton]; omega)]
      refine ih c1 _ k1 (by rw [List.length_append]; omega) (by rw [List.length_append, List.length_singleton]; omega) (by rw [List.length_append, List.length_singleton]; omega) fun l hl => ?_
      rcases List.mem_append.1 hl with hl | hl
      · exact hv l hl
      · rw [List.mem_singleton] at hl; subst hl; exact hv _ (getD_mem (by omega) [])
    · rw [bifF h]
      exact ⟨v, c1, rfl, h3, hv, k1.le (by omega)⟩
theorem vers_l6 (n : Nat) : ∀ (k j : Nat) (c : Cu) (v : TT), Cok (n + 100 * k + 100) c → k + j ≤ 3 → 1 ≤ v.length → v.length ≤ j + 1 → (∀ l ∈ v, TB (9 + 3 * j) (9 + j) l) → ∃ (r : TT) (c' : Cu), spec_l1Cur_versions.l6 c v (k : Int) = some (r, c') ∧ r.length ≤ 10 ∧ (∀ l ∈ r, TB 30 30 l) ∧ Cok n c' := by
  intro k
  induction k with
  | zero =>
    intro j c v hc hj h1 h2 hv
    have hv3 : ∀ l ∈ v, TB 30 30 l := fun l hl => (hv l hl).le (by omega) (by omega)
    obtain ⟨x, c1, e1, x0, x1, _, k1⟩ := pick_ok (n := n + 50) (hc.le (by omega)) 30
    rw [spec_l1Cur_versions.l6_eq, bifF (by omega), e1, sB]
    simp only
    by_cases g0 : x = 0
    · rw [bifT g0]; exact ⟨[], c1, rfl, by simp, (fun l hl => by cases hl), k1.le (by omega)⟩
    rw [bifF g0]
    by_cases g1 : x = 1
    · rw [bifT g1, bifT (by omega)]
      refine ⟨_, c1, rfl, by rw [List.length_set]; omega, fun l hl => ?_, k1.le (by omega)⟩
      rcases List.mem_or_eq_of_mem_set hl with hl | rfl
      · exact hv3 l hl
      · refine ⟨by simp, fun s hs => ?_⟩
        simp only [List.mem_cons, List.not_mem_nil, or_false] at hs
        rcases hs with rfl | rfl <;> exact ⟨by decide, by decide⟩
    rw [bifF g1]
    by_cases g2 : x = 2
    · rw [bifT g2]
      obtain ⟨r, c2, e2, r1, r2, k2⟩ := vers_l24 n 9 c1 v (k1.le (by omega)) h1 (by omega) (by omega) hv3
      exact ⟨r, c2, e2, r1, r2, k2⟩
    rw [bifF g2]
    exact ⟨v, c1, rfl, by omega, hv3, k1.le (by omega)⟩
  | succ k ih =>
    intro j c v hc hj h1 h2 hv
    have e := dn1 (i := v.length) (by omega) (by omega)
    rw [spec_l1Cur_versions.l6_eq, bifT (by omega)]
    simp only [e, Int.toNat_natCast]
    obtain ⟨r, c1, e1, hr, k1⟩ := other_ok (n := n + 100 * k + 100) (hc.le (by omega)) (v.getD (v.length - 1) []) (9 + 3 * j) (9 + j) (hv _ (getD_mem (by omega) [])) (by omega) (by omega) (by omega)
    rw [bif2T (by omega) (by omega), e1, sB, room24]
    simp only
    rw [bifT (by rw [List.length_singleton]; omega), show w64 (((k + 1 : Nat) : Int) - 1) = (k : Int) by rw [w64_id (by omega) (by omega)]; omega]
    refine ih (j + 1) c1 _ k1 (by omega) (by rw [List.length_append]; omega) (by rw [List.length_append, List.length_singleton]; omega) fun l hl => ?_
    rcases List.mem_append.1 hl with hl | hl
    · exact (hv l hl).le (by omega) (by omega)
    · rw [List.mem_singleton] at hl; subst hl; exact hr.le (by omega) (by omega)
theorem versions_ok {n : Nat} {c : Cu} (h : Cok (n + 1000) c) : ∃ (v : TT) (c' : Cu), spec_l1Cur_versions.f c = some (v, c') ∧ v.length ≤ 10 ∧ (∀ l ∈ v, TB 30 30 l) ∧ Cok n c' := by
  obtain ⟨t, c1, e1, ht, k1⟩ := text_ok (n := n + 800) (h.le (by omega))
  obtain ⟨x, c2, e2, x0, x1, _, k2⟩ := pick_ok (n := n + 700) (k1.le (by omega)) 4
  have := x1 (by omega)
  rw [spec_l1Cur_versions.f_eq, e1, sB]
  simp only
  rw [e2, sB]
  simp only
  rw [show x = ((x.toNat : Nat) : Int) by omega]
  exact vers_l6 n x.toNat 0 c2 [t] (k2.le (by omega)) (by omega) (by simp) (by simp) fun l hl => by rw [List.mem_singleton] at hl; subst hl; exact ht
theorem series_ok {n : Nat} {c : Cu} (h : Cok (n + 1100) c) : ∃ (s : Sr) (c' : Cu), spec_l1Cur_series.f c = some (s, c') ∧ SmS s ∧ s.2.length ≤ 8 ∧ Cok n c' := by
  obtain ⟨v, c1, e1, hv1, hv2, k1⟩ := versions_ok (n := n + 100) (h.le (by omega))
  have hs : ∀ l ∈ v, Sm l := fun l hl => sB3 l (hv2 l hl)
  obtain ⟨q1, q2, q3, q4⟩ := serOf_sm hs
  rw [spec_l1Cur_series.f_eq, e1, sB]
  simp only
  rw [(ser_both v (by omega) hs).1, sB]
  generalize (serOf v).1 = s at q1 q2 q3 q4 ⊢
  obtain ⟨f, st⟩ := s
  simp only at q2 q3 q4
  obtain ⟨s1, s2, s3⟩ := q1
  simp only at s1 s2 s3 ⊢
  by_cases g : (st.length : Int) > 0
  case neg => rw [bifF g]; exact ⟨_, c1, rfl, ⟨s1, s2, s3⟩, q2, k1.le (by omega)⟩
  obtain ⟨x, c2, e2, x0, x1, _, k2⟩ := pick_ok (n := n + 50) (k1.le (by omega)) (st.length : Int)
  obtain ⟨y, c3, e3, y0, y1, _, k3⟩ := pick_ok (n := n) (k2.le (by omega)) 20
  have := x1 (by omega)
  rw [bifT g, e2, sB]
  simp only
  rw [e3, sB]
  simp only
  by_cases g0 : y = 0
  · have hx : x.toNat < st.length := by omega
    have hm := getD_mem (l := st) hx []
    have := q4 _ hm
    rw [bifT g0, bif2T (by omega) (by omega), room40, bifT (by rw [List.length_singleton]; omega), bif2T (by omega) trivial, bifT trivial]
    refine ⟨_, c3, rfl, ⟨s1, by simp only [List.length_set]; omega, fun h hh => ?_⟩, by simp only [List.length_set]; exact q2, k3⟩
    rcases List.mem_or_eq_of_mem_set hh with hh | rfl
    · exact s3 h hh
    · refine ⟨by rw [List.length_append, List.length_singleton]; omega, fun z hz => ?_⟩
      rcases List.mem_append.1 hz with hz | hz
      · exact (s3 _ hm).2 z hz
      · rw [List.mem_singleton] at hz; subst hz; exact ⟨by simp, fun s hs => by cases hs⟩
  rw [bifF g0]
  by_cases g1 : y = 1
  · rw [bifT g1, room16, bifT (by rw [List.length_singleton]; omega)]
    refine ⟨_, c3, rfl, ⟨⟨by simp only [List.length_append, List.length_singleton]; omega, fun s hs => ?_⟩, s2, s3⟩, q2, k3⟩
    rcases List.mem_append.1 hs with hs | hs
    · exact s1.2 s hs
    · rw [List.mem_singleton] at hs; subst hs; decide
  rw [bifF g1]
  exact ⟨_, c3, rfl, ⟨s1, s2, s3⟩, q2, k3⟩
theorem drawVers {code : List Int} (g : Bd (.list (.int .u8)) code) (h : code.length ≤ 1048576) : ∃ v : TT, spec_DrawSeriesOf.f code = some v ∧ v.length ≤ 10 ∧ ∀ l ∈ v, Sm l := by
  obtain ⟨v, c1, e1, v1, v2, _⟩ := versions_ok (n := 0) ((cok_of g h).le (by omega))
  exact ⟨v, by rw [spec_DrawSeriesOf.f_eq, spec_DrawSinceOf.f_eq, e1, sB, sB], v1, fun l hl => sB3 l (v2 l hl)⟩
theorem drawSize {code : List Int} (g : Bd (.list (.int .u8)) code) (h : code.length ≤ 1048576) : ∃ s : Sr, spec_DrawSizeOf.f code = some s ∧ SmS s := by
  obtain ⟨s, c1, e1, s1, _, _⟩ := series_ok (n := 0) ((cok_of g h).le (by omega))
  exact ⟨s, by rw [spec_DrawSizeOf.f_eq, spec_DrawGoodSeries.f_eq, e1, sB, sB], s1⟩
theorem drawText {code : List Int} (g : Bd (.list (.int .u8)) code) (h : code.length ≤ 1048576) : ∃ (s : Sr) (n : Int), spec_DrawTextAt.f code = some (s, n) ∧ SmS s := by
  obtain ⟨s, c1, e1, s1, s2, k1⟩ := series_ok (n := 100) ((cok_of g h).le (by omega))
  obtain ⟨x, c2, e2, x0, _, _, k2⟩ := pick_ok (n := 50) (k1.le (by omega)) (w64 ((s.2.length : Int) + 2))
  obtain ⟨y, c3, e3, y0, _, _, k3⟩ := pick_ok (n := 0) (k2.le (by omega)) 20
  exact ⟨s, w64 (x - w64 (y.tdiv 19)), by rw [spec_DrawTextAt.f_eq, e1, sB]; simp only; rw [e2, sB]; simp only; rw [e3, sB], s1⟩
theorem drawAdd {code : List Int} (g : Bd (.list (.int .u8)) code) (h : code.length ≤ 1048576) : ∃ (s : Sr) (l : T), spec_DrawAddText.f code = some (s, l) ∧ SmS s ∧ Sm l := by
  obtain ⟨s, c1, e1, s1, s2, k1⟩ := series_ok (n := 200) ((cok_of g h).le (by omega))
  obtain ⟨l, c2, e2, l1, l2, _, _⟩ := anyText_ok (n := 0) (k1.le (by omega))
  exact ⟨s, l, by rw [spec_DrawAddText.f_eq, e1, sB]; simp only; rw [e2, sB], s1, smA l1 l2⟩
theorem addB_ok {s : Sr} {l : T} (h : (addB s l).2 = true) : serB s = true ∧ s.2.length < 7 ∧ (diffB (atS s.1 s.2) l).2 = true ∧ addB s l = ((s.1, s.2 ++ [dif (atS s.1 s.2) l]), true) := by
  unfold addB at h ⊢
  split at h
  · rename_i hc; rw [if_pos hc]; exact ⟨hc.1, hc.2.1, hc.2.2, rfl⟩
  · cases h
theorem addB_ser {s : Sr} {l : T} (hs : SmS s) (h : (addB s l).2 = true) : serB (addB s l).1 = true ∧ atS (addB s l).1.1 (addB s l).1.2 = l ∧ CB (dif (atS s.1 s.2) l) ∧ (dif (atS s.1 s.2) l).length ≤ 20 := by
  obtain ⟨a1, a2, a3, a4⟩ := addB_ok h
  obtain ⟨o1, o2, o3⟩ := ser_ok a1
  obtain ⟨d1, d2, d3, d4⟩ := diffB_ok a3
  have hp := dif_patch d1 d2 d3
  have e := dif_pat (atS s.1 s.2) l (by have := good_len d1; omega) (by have := good_len d2; omega)
  rw [a4]
  refine ⟨?_, ?_, hunksG_CB (patchB_ok hp).2.1⟩
  · unfold serB
    simp only
    rw [okS_append, o1, okS, hp, okS, o2, List.length_append, List.length_singleton, decide_eq_true (by omega)]; rfl
  · simp only
    rw [atS_append, atS, e, atS]
theorem addB_sm {s : Sr} {l : T} (hs : SmS s) (hl : Sm l) : SmS (addB s l).1 := by
  cases h : (addB s l).2 with
  | true =>
    obtain ⟨a1, a2, a3, a4⟩ := addB_ok h
    obtain ⟨d1, d2, d3, d4⟩ := diffB_ok a3
    have := good_len d1
    have := good_len d2
    rw [a4]
    refine ⟨hs.1, by simp only [List.length_append, List.length_singleton]; omega, fun x hx => ?_⟩
    rcases List.mem_append.1 hx with hx | hx
    · exact hs.2.2 x hx
    · rw [List.mem_singleton] at hx; subst hx; exact dif_sm _ _ (by omega) hl (by omega)
  | false =>
    unfold addB at h ⊢
    split at h
    · cases h
    · rename_i hc
      rw [if_neg hc]
      exact ⟨⟨by simp, fun s hs => by cases hs⟩, by simp, fun h hh => by cases hh⟩
theorem textAt_len (s : Sr) (n : Int) (hs : SmS s) : Sm (textAtB s n).1 := by
  unfold textAtB
  split
  · rename_i hc
    exact (at_sm (s.2.take n.toNat) s.1 hs.1 (fun h hh => hs.2.2 h (List.mem_of_mem_take hh)) (okS_take (ser_ok hc.1).1 _)).1
  · exact ⟨by simp, fun s hs => by cases hs⟩
theorem FnSeries (l0 l1 : List Int) (g0 : Bd (.list (.int .u8)) l0) (g1 : Bd (.list (.int .u8)) l1) : laws_FnSeries.f l0 l1 = some true := by
  obtain ⟨bb, hb, hb2⟩ := big_ok g0.1 g1.1
  rw [laws_FnSeries.f_eq, hb, sB]
  cases bb with
  | true => rfl
  | false =>
    obtain ⟨n0, n1⟩ := hb2 rfl
    have tail : laws_FnSeries.l37 l1 = some true := by
      obtain ⟨a, l, e1, ha, hl⟩ := drawAdd g1 n1
      obtain ⟨c, n, e2, hc⟩ := drawText g1 n1
      obtain ⟨d, e3, hd⟩ := drawSize g1 n1
      have had := add_both a l ha hl
      have hsm := addB_sm ha hl
      have hta := textAt_both c n hc
      have htl := (textAt_len c n hc).1
      have hsz := size_both d hd
      rw [laws_FnSeries.l37_eq, e1, sB]
      simp only
      rw [had.1, had.2, sB, sB, e2, sB]
      simp only
      rw [hta.1, hta.2, sB, sB, e3, sB, show ((d.1, d.2) : Sr) = d from rfl, hsz.1, hsz.2, sB, sB]
      simp only [beq_self_eq_true, Bool.not_true, cond_false, decide_true]
      rw [sameS_self _ hsm, sB, notT, sameT_self _ (by omega), sB, notT, iGoodSer d hd, sGoodSer d hd, sB, sB]
      simp only [beq_self_eq_true, Bool.not_true, cond_false]
      rw [laws_FnSeries.l59_eq]
      cases h : (addB a l).2 with
      | false => rfl
      | true =>
        rw [cond_true]
        obtain ⟨a1, a2, a3, a4⟩ := addB_ok h
        obtain ⟨s1, s2, s3, s4⟩ := addB_ser ha h
        have ht := (textAt_both (addB a l).1 ((addB a l).1.2.length : Int) hsm).2
        have ey : textAtB (addB a l).1 ((addB a l).1.2.length : Int) = (l, true) := by
          unfold textAtB
          rw [if_pos ⟨s1, by omega, by omega⟩]
          simp only [Int.toNat_natCast]
          rw [List.take_length, s2]
        have hlen : (addB a l).1.2.length = a.2.length + 1 := by rw [a4]; simp
        have hL := hl.1
        rw [show (((addB a l).1.1, (addB a l).1.2) : Sr) = (addB a l).1 from rfl, ht, sB, ey]
        simp only [cond_true]
        rw [sameT_self l (by omega), sB, cond_true, w64_id (by omega) (by omega), decide_eq_true (by omega)]
    obtain ⟨v, e1, hv1, hv2⟩ := drawVers g0 n0
    obtain ⟨z1, z2⟩ := ser_both v (by omega) hv2
    obtain ⟨q1, q2, q3, q4⟩ := serOf_sm hv2
    rw [cond_false, e1, sB, z1, z2, sB, sB]
    simp only [beq_self_eq_true, Bool.not_true, cond_false]
    rw [show (((serOf v).1.1, (serOf v).1.2) : Sr) = (serOf v).1 from rfl, sameS_self _ q1, sB, notT, laws_FnSeries.l17_eq]
    cases hg : (serOf v).2 with
    | false => exact tail
    | true =>
      obtain ⟨w1, w2, w3, w4⟩ := serOf_ok hv2 hg
      rw [cond_true, show (((serOf v).1.1, (serOf v).1.2) : Sr) = (serOf v).1 from rfl, iGoodSer _ q1, sB, w2, notT, w64_id (by omega) (by omega), decide_eq_true (by omega), notT, laws_FnSeries.l23_eq, show (((serOf v).1.1, (serOf v).1.2) : Sr) = (serOf v).1 from rfl]
      have key : ∀ i, i ≤ v.length → laws_FnSeries.l24 l1 (serOf v).1 v (v.length : Int) (i : Int) = some true := by
        apply downTo
        · rw [laws_FnSeries.l24_eq, bifF (by omega)]; exact tail
        · intro i hi ih
          have ht := (textAt_both (serOf v).1 (i : Int) q1).2
          have ey : textAtB (serOf v).1 (i : Int) = (v.getD i [], true) := by
            unfold textAtB
            rw [if_pos ⟨w2, by omega, by omega⟩]
            simp only [Int.toNat_natCast]
            rw [w4 i hi]
          have hL := (hv2 _ (getD_mem hi [])).1
          rw [laws_FnSeries.l24_eq, bifT (by omega), bif2T (by omega) (by omega), ht, sB, ey]
          simp only [Int.toNat_natCast]
          rw [notT, sameT_self _ (by omega), sB, notT, up1 (by omega), ih]
      exact key 0 (by omega)
end Go.Abs.G
