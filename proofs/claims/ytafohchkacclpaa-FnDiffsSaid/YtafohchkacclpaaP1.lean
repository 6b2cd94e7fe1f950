import Derived.Test.YtafohchkacclpaaG
import Derived.Lib.IndexAny
set_option linter.unusedVariables false
set_option linter.unusedSimpArgs false
namespace Go.Abs.G
open Go Go.Abs
abbrev T := List ByteArray
abbrev YHunk := Int × Int × List (ByteArray)
abbrev YHunkS := List YHunk
/-- of a size that is let through -/
def Sm (l : T) : Prop := l.length ≤ 1048576 ∧ ∀ s ∈ l, s.size ≤ 1048576
def bl (s : ByteArray) : List UInt8 := s.data.toList
theorem bl_len (s : ByteArray) : (bl s).length = s.size := rfl
theorem bl_inj {a b : ByteArray} (h : bl a = bl b) : a = b := ByteArray.ext (Array.toList_inj.1 h)
theorem bl_ext (s : ByteArray) (a b : Nat) : bl (s.extract a b) = ((bl s).drop a).take (b - a) := by
  unfold bl; rw [ByteArray.data_extract, Array.toList_extract]
theorem bt_bl (s : ByteArray) (i : Nat) : bt s (i : Int) = (((bl s).getD i 0).toNat : Int) := by
  unfold bt bl
  rw [Int.toNat_natCast]
theorem sIn (a b c : Int) : spec_l1In.f a b c = some (decide (b ≤ a ∧ a ≤ c)) := by
  rw [spec_l1In.f_eq]
  by_cases h : a ≥ b
  · rw [bifT h]; congr 1; rw [decide_eq_decide]; omega
  · rw [bifF h]; congr 1; rw [eq_comm, decide_eq_false_iff_not]; omega
theorem iIn (a b c : Int) : impl_in.f a b c = some (decide (b ≤ a ∧ a ≤ c)) := by
  rw [impl_in.f_eq]
  by_cases h : a ≥ b
  · rw [bifT h]; congr 1; rw [decide_eq_decide]; omega
  · rw [bifF h]; congr 1; rw [eq_comm, decide_eq_false_iff_not]; omega
/-- A line. -/
def lineP (s : ByteArray) : Prop := 1 ≤ s.size ∧ s.size ≤ 30 ∧ (10 : UInt8) ∉ (bl s).take (s.size - 1)
instance (s : ByteArray) : Decidable (lineP s) := by unfold lineP; exact inferInstance
/-- It ends. -/
def endP (s : ByteArray) : Prop := 1 ≤ s.size ∧ (bl s).getD (s.size - 1) 0 = 10
instance (s : ByteArray) : Decidable (endP s) := by unfold endP; exact inferInstance
theorem toNat10 (b : UInt8) : ((b.toNat : Nat) : Int) = 10 ↔ b = 10 := by
  constructor
  · intro h; exact UInt8.toNat_inj.1 (by have : (10 : UInt8).toNat = 10 := rfl; omega)
  · rintro rfl; rfl
theorem sLine (s : ByteArray) (hs : s.size ≤ 1048576) : spec_l1Line.f s = some (decide (lineP s)) := by
  have hL : ((bl s).take (s.size - 1)).length = s.size - 1 := by rw [List.length_take, bl_len]; omega
  have hw : w64 ((s.size : Int) - 1) = (s.size : Int) - 1 := w64_id (by omega) (by omega)
  have key : ∀ i, i ≤ s.size - 1 → spec_l1Line.l4 s (i : Int) = some (decide (1 ≤ s.size ∧ s.size ≤ 30 ∧ (10 : UInt8) ∉ ((bl s).take (s.size - 1)).drop i)) := by
    apply downTo
    · rw [spec_l1Line.l4_eq, hw, bifF (by omega), sIn, sB]
      congr 1
      rw [decide_eq_decide, List.drop_eq_nil_of_le (by omega)]
      constructor
      · intro h; exact ⟨by omega, by omega, List.not_mem_nil⟩
      · intro h; omega
    · intro i hi ih
      have hi1 := up1 (i := i) (by omega)
      rw [spec_l1Line.l4_eq]
      simp only [hw, hi1]
      rw [bifT (by omega), bif2T (by omega) (by omega)]
      have hb : bt s (i : Int) = 10 ↔ ((bl s).take (s.size - 1)).getD i 0 = 10 := by
        rw [bt_bl, toNat10, List.getD_eq_getElem?_getD, List.getD_eq_getElem?_getD, List.getElem?_take_of_lt hi]
      have hd := drop_at (l := (bl s).take (s.size - 1)) (i := i) (by omega) 0
      by_cases h : bt s (i : Int) = 10
      · rw [bifT h]; congr 1
        rw [eq_comm, decide_eq_false_iff_not, hd, hb.1 h]
        rintro ⟨_, _, h3⟩
        exact h3 List.mem_cons_self
      · rw [bifF h, ih]; congr 1
        rw [decide_eq_decide, hd, List.mem_cons, not_or]
        have : ¬ (10 : UInt8) = ((bl s).take (s.size - 1)).getD i 0 := fun g => h (hb.2 g.symm)
        exact ⟨fun ⟨a, b, c⟩ => ⟨a, b, this, c⟩, fun ⟨a, b, _, c⟩ => ⟨a, b, c⟩⟩
  have := key 0 (by omega)
  rw [spec_l1Line.f_eq]
  rw [List.drop_zero] at this
  exact this
theorem iLine (s : ByteArray) (hs : s.size ≤ 1048576) : impl_isLine.f s = some (decide (lineP s)) := by
  have hw : w64 ((s.size : Int) - 1) = (s.size : Int) - 1 := w64_id (by omega) (by omega)
  rw [impl_isLine.f_eq, iIn, sB, hw]
  by_cases h : (1 : Int) ≤ (s.size : Int) ∧ (s.size : Int) ≤ 30
  · rw [bifT h, bif2T (by omega) (by omega)]
    show (contains1 _ _).bind _ = _
    unfold contains1
    have h1 : Nat.beq (⟨#[10]⟩ : ByteArray).size 1 = true := rfl
    rw [h1, cond_true, sB]
    congr 1
    show (!decide (0 ≤ Go.Lib.indexByte _ 10)) = _
    rw [← Go.Lib.contains_iff_indexByte]
    have he : (s.extract 0 ((s.size : Int) - 1).toNat).data.toList = (bl s).take (s.size - 1) := by
      show bl _ = _
      rw [bl_ext, List.drop_zero]; congr 1; omega
    rw [he]
    by_cases hm : (10 : UInt8) ∈ (bl s).take (s.size - 1)
    · rw [List.contains_iff_mem.2 hm]; exact (decide_eq_false (fun g : lineP s => g.2.2 hm)).symm
    · have : ((bl s).take (s.size - 1)).contains 10 = false := by rw [← Bool.not_eq_true, List.contains_iff_mem]; exact hm
      rw [this]; exact (decide_eq_true (show lineP s from ⟨by omega, by omega, hm⟩)).symm
  · rw [bifF h]
    congr 1
    rw [eq_comm, decide_eq_false_iff_not]
    unfold lineP
    omega
theorem sEnds (s : ByteArray) (h1 : 1 ≤ s.size) (hs : s.size ≤ 1048576) : spec_l1Ends.f s = some (decide (endP s)) := by
  have hw : w64 ((s.size : Int) - 1) = ((s.size - 1 : Nat) : Int) := by rw [w64_id (by omega) (by omega)]; omega
  rw [spec_l1Ends.f_eq, hw, bif2T (by omega) (by omega), bt_bl]
  congr 1
  rw [decide_eq_decide, toNat10]
  exact ⟨fun h => ⟨h1, h⟩, fun h => h.2⟩
theorem iEnds (s : ByteArray) (hs : s.size ≤ 1048576) : impl_isEnded.f s = some (decide (endP s)) := by
  rw [impl_isEnded.f_eq, strings_HasSuffix.f_eq, internal_stringslite_HasSuffix.f_eq]
  have h10 : (⟨#[10]⟩ : ByteArray).size = 1 := rfl
  have hw : w64 ((s.size : Int) - 1) = (s.size : Int) - 1 := w64_id (by omega) (by omega)
  simp only [h10, Int.ofNat_one]
  by_cases h : (s.size : Int) ≥ 1
  · rw [hw, bifT h, bif2T (by omega) (by omega), sB, sB]
    congr 1
    rw [toList_beq, decide_eq_decide]
    have hb : bl (s.extract ((s.size : Int) - 1).toNat s.size) = [(bl s).getD (s.size - 1) 0] := by
      rw [bl_ext]
      have e : ((s.size : Int) - 1).toNat = s.size - 1 := by omega
      rw [e, drop_at (l := bl s) (i := s.size - 1) (by rw [bl_len]; omega) 0, show s.size - (s.size - 1) = 1 by omega]
      rfl
    constructor
    · intro g
      rw [g] at hb
      refine ⟨by omega, ?_⟩
      have : [(10 : UInt8)] = [(bl s).getD (s.size - 1) 0] := hb
      exact ((List.cons.inj this).1).symm
    · intro g
      refine bl_inj ?_
      rw [hb, g.2]; rfl
  · rw [bifF (by omega), sB, sB]
    congr 1
    rw [eq_comm, decide_eq_false_iff_not]
    unfold endP
    omega
def endsT : T → Bool
  | [] => true
  | s :: t => (t.isEmpty || decide (endP s)) && endsT t
def allLines (l : T) : Bool := l.all fun s => decide (lineP s)
theorem allLines_cons (s : ByteArray) (l : T) : allLines (s :: l) = (decide (lineP s) && allLines l) := rfl
def goodB (l : T) : Bool := decide (l.length ≤ 40) && allLines l && endsT l
theorem drop_empty {l : T} {i : Nat} (h : i < l.length) : (l.drop (i + 1)).isEmpty = decide (¬ (i : Int) < (l.length : Int) - 1) := by
  rw [Bool.eq_iff_iff, List.isEmpty_iff, List.drop_eq_nil_iff, decide_eq_true_eq]; omega
theorem iAre (l : T) (hl : Sm l) : impl_areLines.f l = some (decide (l.length ≤ 40) && allLines l) := by
  have hL := hl.1
  have idx : ∀ i, i ≤ l.length → ∃ r : Int, slices_IndexFunc_Lstring_string__impl_areLines_1.l4 l (l.length : Int) (i : Int) = some r ∧ (decide (r ≥ 0) = !(allLines (l.drop i))) := by
    apply downTo
    · refine ⟨-1, by rw [slices_IndexFunc_Lstring_string__impl_areLines_1.l4_eq, bifF (by omega)], ?_⟩
      rw [List.drop_eq_nil_of_le (by omega)]; rfl
    · intro i hlt ⟨r, hr, hp⟩
      have hi1 := up1 (i := i) (by omega)
      have hsz := hl.2 _ (getD_mem hlt em)
      rw [slices_IndexFunc_Lstring_string__impl_areLines_1.l4_eq, bifT (by omega), bif2T (by omega) (by omega), hi1]
      simp only [Int.toNat_natCast]
      rw [impl_areLines_1.f_eq, iLine _ hsz, sB, sB]
      by_cases h : lineP (l.getD i em)
      · refine ⟨r, by rw [bifNF h]; exact hr, ?_⟩
        rw [hp, drop_at hlt em, allLines_cons, decide_eq_true h, Bool.true_and]
      · refine ⟨(i : Int), by rw [bifNT h], ?_⟩
        rw [drop_at hlt em, allLines_cons, decide_eq_false h, Bool.false_and]; exact decide_eq_true (by omega)
  obtain ⟨r, hr, hp⟩ := idx 0 (by omega)
  rw [impl_areLines.f_eq, slices_ContainsFunc_Lstring_string__impl_areLines_1.f_eq, slices_IndexFunc_Lstring_string__impl_areLines_1.f_eq]
  by_cases h : l.length ≤ 40
  · rw [bifT (by omega)]
    refine bindEq (bindEq hr rfl) ?_
    rw [hp, decide_eq_true h]; simp
  · rw [bifF (by omega), decide_eq_false h]; rfl
theorem iGood (l : T) (hl : Sm l) : impl_goodLines.f l = some (goodB l) := by
  have hL := hl.1
  rw [impl_goodLines.f_eq, iAre l hl, sB]
  unfold goodB
  cases hg : (decide (l.length ≤ 40) && allLines l) with
  | false => rw [Bool.false_and, notF]
  | true =>
    rw [Bool.true_and, notT]
    have hw : w64 ((l.length : Int) - 1) = (l.length : Int) - 1 := w64_id (by omega) (by omega)
    have key : ∀ i, i ≤ l.length → impl_goodLines.l8 l l (l.length : Int) (i : Int) = some (endsT (l.drop i)) := by
      apply downTo
      · rw [impl_goodLines.l8_eq, bifF (by omega), List.drop_eq_nil_of_le (by omega)]; rfl
      · intro i hi ih
        have hi1 := up1 (i := i) (by omega)
        have hsz := hl.2 _ (getD_mem hi em)
        have he := drop_empty hi
        have hR : endsT (l.drop i) = ((decide (¬ (i : Int) < (l.length : Int) - 1) || decide (endP (l.getD i em))) && endsT (l.drop (i + 1))) := by
          rw [drop_at hi em]; simp only [endsT, he]
        rw [hR, impl_goodLines.l8_eq, hw, hi1, bifT (by omega), bif2T (by omega) (by omega)]
        simp only [Int.toNat_natCast]
        rw [iEnds _ hsz, sB, ih]
        by_cases h2 : (i : Int) < (l.length : Int) - 1
        · rw [bifT h2, decide_eq_false (show ¬ ¬ (i : Int) < (l.length : Int) - 1 from fun g => g h2), Bool.false_or]
          by_cases h3 : endP (l.getD i em)
          · rw [bifNF h3, decide_eq_true h3, Bool.true_and]
          · rw [bifNT h3, decide_eq_false h3, Bool.false_and]
        · rw [bifF h2, decide_eq_true h2, Bool.true_or, Bool.true_and]
    have := key 0 (by omega)
    rw [List.drop_zero] at this
    exact this
theorem sGood (l : T) (hl : Sm l) : spec_l1Good.f l = some (goodB l) := by
  have hL := hl.1
  have hw : w64 ((l.length : Int) - 1) = (l.length : Int) - 1 := w64_id (by omega) (by omega)
  have key : ∀ i, i ≤ l.length → spec_l1Good.l4 l l (l.length : Int) (i : Int) = some (decide (l.length ≤ 40) && allLines (l.drop i) && endsT (l.drop i)) := by
    apply downTo
    · rw [spec_l1Good.l4_eq, bifF (by omega), List.drop_eq_nil_of_le (by omega)]
      simp [allLines, endsT]
      omega
    · intro i hi ih
      have hi1 := up1 (i := i) (by omega)
      have hd := drop_at hi em
      have hsz := hl.2 _ (getD_mem hi em)
      have he := drop_empty hi
      have hR : (decide (l.length ≤ 40) && allLines (l.drop i) && endsT (l.drop i)) = (decide (lineP (l.getD i em)) && ((decide (¬ (i : Int) < (l.length : Int) - 1) || decide (endP (l.getD i em))) && (decide (l.length ≤ 40) && allLines (l.drop (i + 1)) && endsT (l.drop (i + 1))))) := by
        rw [hd]
        simp only [allLines, endsT, List.all_cons, he]
        generalize decide (l.length ≤ 40) = a1
        generalize decide (lineP (l.getD i em)) = a2
        generalize (l.drop (i + 1)).all (fun s => decide (lineP s)) = a3
        generalize (decide (¬ (i : Int) < (l.length : Int) - 1) || decide (endP (l.getD i em))) = a4
        generalize endsT (l.drop (i + 1)) = a5
        cases a1 <;> cases a2 <;> cases a3 <;> cases a4 <;> cases a5 <;> rfl
      rw [hR, spec_l1Good.l4_eq, hw, hi1, bifT (by omega), bif2T (by omega) (by omega)]
      simp only [Int.toNat_natCast]
      rw [sLine _ hsz, sB, ih]
      by_cases h1 : lineP (l.getD i em)
      · rw [bifNF h1, decide_eq_true h1, Bool.true_and]
        by_cases h2 : (i : Int) < (l.length : Int) - 1
        · rw [bifT h2, decide_eq_false (show ¬ ¬ (i : Int) < (l.length : Int) - 1 from fun g => g h2), Bool.false_or, sEnds _ h1.1 hsz, sB]
          by_cases h3 : endP (l.getD i em)
          · rw [bifNF h3, decide_eq_true h3, Bool.true_and]
          · rw [bifNT h3, decide_eq_false h3, Bool.false_and]
        · rw [bifF h2, decide_eq_true h2, Bool.true_or, Bool.true_and]
      · rw [bifNT h1, decide_eq_false h1, Bool.false_and]
  have := key 0 (by omega)
  rw [List.drop_zero] at this
  rw [spec_l1Good.f_eq]
  exact this
theorem good_len {l : T} (h : goodB l = true) : l.length ≤ 40 := by
  unfold goodB at h
  simp only [Bool.and_eq_true, decide_eq_true_eq] at h
  exact h.1.1
abbrev Hk := Int × Int × T
abbrev hz : Hk := (0, 0, [])
theorem ownT (l : T) (h : l.length ≤ 1048576) : spec_l1OwnT.f l = some l := by
  rw [spec_l1OwnT.f_eq, room16, bifT (by simp; omega), List.nil_append]
theorem cloneT (l : T) (h : l.length ≤ 1048576) : slices_Clone_Lstring_string.f l = some l := by
  show clone1 16 l = _
  rw [clone1, room16, bifT (by omega)]
abbrev Cu := List Int × Int × Int
/-- so many choices more can be read -/
def Cok (n : Nat) (c : Cu) : Prop := c.1.length ≤ 1048576 ∧ (∀ x ∈ c.1, 0 ≤ x ∧ x ≤ 255) ∧ 0 ≤ c.2.1 ∧ c.2.1 + n ≤ 4611686018427387904
theorem Cok.le {n m : Nat} {c : Cu} (h : Cok n c) (k : m ≤ n) : Cok m c := ⟨h.1, h.2.1, h.2.2.1, by have := h.2.2.2; omega⟩
theorem and255 (x : Int) : 0 ≤ andI .u64 x 255 ∧ andI .u64 x 255 ≤ 255 := by
  have h : (BitVec.ofInt 64 x &&& BitVec.ofInt 64 255).toNat ≤ 255 := by
    rw [BitVec.toNat_and]
    exact Nat.le_trans Nat.and_le_right (by decide)
  unfold andI
  have e : IntKind.wrap .u64 ((BitVec.ofInt IntKind.u64.bits x &&& BitVec.ofInt IntKind.u64.bits 255).toNat : Int) = ((BitVec.ofInt 64 x &&& BitVec.ofInt 64 255).toNat : Int) := by
    show IntKind.wrap .u64 ((BitVec.ofInt 64 x &&& BitVec.ofInt 64 255).toNat : Int) = _
    generalize (BitVec.ofInt 64 x &&& BitVec.ofInt 64 255).toNat = y at h
    unfold IntKind.wrap
    simp [IntKind.bits, IntKind.signed]
    omega
  rw [e]; omega
theorem next_ok {n : Nat} {c : Cu} (h : Cok (n + 1) c) : ∃ (x : Int) (c' : Cu), spec_l1Cur_next.f c = some (x, c') ∧ 0 ≤ x ∧ x ≤ 255 ∧ Cok n c' := by
  obtain ⟨h1, h2, h3, h4⟩ := h
  have hw : w64 (c.2.1 + 1) = c.2.1 + 1 := w64_id (by omega) (by omega)
  have key : ∀ b : Int, 0 ≤ b → b ≤ 255 → ∃ (x : Int) (c' : Cu), spec_l1Cur_next.l9 c b = some (x, c') ∧ 0 ≤ x ∧ x ≤ 255 ∧ Cok n c' := by
    intro b b0 b1
    rw [spec_l1Cur_next.l9_eq]
    simp only [hw]
    by_cases hc : c.2.1 + 1 ≤ (c.1.length : Int)
    · rw [bifT hc]
      exact ⟨_, _, rfl, b0, b1, h1, h2, by show 0 ≤ c.2.1 + 1; omega, by show c.2.1 + 1 + (n : Int) ≤ _; omega⟩
    · rw [bifF hc]
      generalize shrI .u64 (IntKind.wrap .u64 ((IntKind.wrap .u64 ((IntKind.wrap .u64 (c.2.2 * 6364136223846793005)) + (IntKind.wrap .u64 b))) + 1442695040888963407)) 40 = y
      have ha := and255 y
      refine ⟨_, _, rfl, ?_, ?_, h1, h2, by show 0 ≤ c.2.1 + 1; omega, by show c.2.1 + 1 + (n : Int) ≤ _; omega⟩
      · rw [w64_id (by omega) (by omega)]; omega
      · rw [w64_id (by omega) (by omega)]; omega
  rw [spec_l1Cur_next.f_eq]
  by_cases hc : c.2.1 < (c.1.length : Int)
  · rw [bifT hc, bif2T h3 hc]
    have hm := h2 _ (getD_mem (l := c.1) (i := c.2.1.toNat) (by omega) 0)
    rw [w64_id (by omega) (by omega)]
    exact key _ hm.1 hm.2
  · rw [bifF hc]; exact key 0 (by omega) (by omega)
theorem pick_ok {n : Nat} {c : Cu} (h : Cok (n + 2) c) (m : Int) : ∃ (x : Int) (c' : Cu), spec_l1Cur_pick.f c m = some (x, c') ∧ 0 ≤ x ∧ (1 ≤ m → x < m) ∧ (m < 1 → x = 0) ∧ Cok n c' := by
  rw [spec_l1Cur_pick.f_eq]
  by_cases hm : m ≤ 1
  · rw [bifT hm]; exact ⟨0, c, rfl, by omega, by omega, fun _ => rfl, h.le (by omega)⟩
  · rw [bifF hm]
    obtain ⟨x, c1, e1, x0, x1, k1⟩ := next_ok h
    rw [e1, sB]
    simp only
    by_cases hb : m > 200
    · rw [bifT hb]
      obtain ⟨y, c2, e2, y0, y1, k2⟩ := next_ok k1
      rw [e2, sB, bifNT (by omega)]
      simp only
      rw [w64_id (x := x * 256) (by omega) (by omega), w64_id (by omega) (by omega)]
      have e : (x * 256 + y).tmod m = (x * 256 + y) % m := Int.tmod_eq_emod_of_nonneg (by omega)
      rw [e]
      exact ⟨_, _, rfl, Int.emod_nonneg _ (by omega), fun _ => Int.emod_lt_of_pos _ (by omega), by omega, k2⟩
    · rw [bifF hb, bifNT (by omega)]
      have e : x.tmod m = x % m := Int.tmod_eq_emod_of_nonneg x0
      rw [e]
      exact ⟨_, _, rfl, Int.emod_nonneg _ (by omega), fun _ => Int.emod_lt_of_pos _ (by omega), by omega, k1.le (by omega)⟩
theorem one_ok {n : Nat} {c : Cu} (h : Cok (n + 2) c) (m : Int) : ∃ (b : Bool) (c' : Cu), spec_l1Cur_one.f c m = some (b, c') ∧ Cok n c' := by
  obtain ⟨x, c', e, _, _, _, k⟩ := pick_ok h m
  rw [spec_l1Cur_one.f_eq, e, sB]
  exact ⟨_, _, rfl, k⟩
theorem of_ok {n : Nat} {c : Cu} (h : Cok (n + 2) c) (l : T) (hl : 1 ≤ l.length) : ∃ (s : ByteArray) (c' : Cu), spec_l1Cur_of.f c l = some (s, c') ∧ s ∈ l ∧ Cok n c' := by
  obtain ⟨x, c', e, x0, x1, _, k⟩ := pick_ok h (l.length : Int)
  have x1 := x1 (by omega)
  rw [spec_l1Cur_of.f_eq, e, sB]
  simp only
  rw [bif2T x0 x1]
  exact ⟨_, _, rfl, getD_mem (by omega) _, k⟩
/-- texts of so many lines, each of so many bytes -/
def TB (n m : Nat) (l : T) : Prop := l.length ≤ n ∧ ∀ s ∈ l, 1 ≤ s.size ∧ s.size ≤ m
theorem TB.le {n m n' m' : Nat} {l : T} (h : TB n m l) (h1 : n ≤ n') (h2 : m ≤ m') : TB n' m' l := ⟨Nat.le_trans h.1 h1, fun s hs => ⟨(h.2 s hs).1, Nat.le_trans (h.2 s hs).2 h2⟩⟩
theorem TB.sm {n m : Nat} {l : T} (h : TB n m l) (h1 : n ≤ 1048576) (h2 : m ≤ 1048576) : Sm l := ⟨Nat.le_trans h.1 h1, fun s hs => Nat.le_trans (h.2 s hs).2 h2⟩
theorem TB.app {n m n' : Nat} {l k : T} (h : TB n m l) (h' : TB n' m k) : TB (n + n') m (l ++ k) :=
  ⟨by rw [List.length_append]; have := h.1; have := h'.1; omega, fun s hs => (List.mem_append.1 hs).elim (h.2 s) (h'.2 s)⟩
theorem TB.one {m : Nat} {s : ByteArray} (h1 : 1 ≤ s.size) (h2 : s.size ≤ m) : TB 1 m [s] := ⟨by simp, fun t ht => by rw [List.mem_singleton] at ht; subst ht; exact ⟨h1, h2⟩⟩
theorem TB.set {n m : Nat} {l : T} (h : TB n m l) (i : Nat) {s : ByteArray} (h1 : 1 ≤ s.size) (h2 : s.size ≤ m) : TB n m (l.set i s) :=
  ⟨by rw [List.length_set]; exact h.1, fun t ht => (List.mem_or_eq_of_mem_set ht).elim (h.2 t) fun e => by subst e; exact ⟨h1, h2⟩⟩
theorem TB.take {n m : Nat} {l : T} (h : TB n m l) (i : Nat) : TB n m (l.take i) := ⟨by rw [List.length_take]; have := h.1; omega, fun s hs => h.2 s (List.mem_of_mem_take hs)⟩
theorem TB.drop {n m : Nat} {l : T} (h : TB n m l) (i : Nat) : TB n m (l.drop i) := ⟨by rw [List.length_drop]; have := h.1; omega, fun s hs => h.2 s (List.mem_of_mem_drop hs)⟩
theorem line_ok {n : Nat} {c : Cu} (h : Cok (n + 2) c) : ∃ (s : ByteArray) (c' : Cu), spec_l1Cur_line.f c = some (s, c') ∧ s.size ≤ 8 ∧ Cok n c' := by
  rw [spec_l1Cur_line.f_eq]
  obtain ⟨s, c', e, hm, k⟩ := of_ok h [(⟨#[97]⟩ : ByteArray), (⟨#[98]⟩ : ByteArray), (⟨#[99]⟩ : ByteArray), (⟨#[100]⟩ : ByteArray), em, (⟨#[46]⟩ : ByteArray), (⟨#[46, 46]⟩ : ByteArray), (⟨#[111, 110, 101, 32, 116, 119, 111]⟩ : ByteArray), (⟨#[43, 120]⟩ : ByteArray), (⟨#[45, 121]⟩ : ByteArray), (⟨#[92, 32, 122]⟩ : ByteArray), (⟨#[64, 64]⟩ : ByteArray)] (by decide)
  rw [e, sB]
  refine ⟨s, c', rfl, ?_, k⟩
  simp only [List.mem_cons, List.not_mem_nil, or_false] at hm
  rcases hm with h | h | h | h | h | h | h | h | h | h | h | h <;> (subst h; decide)
theorem sz10 : (⟨#[10]⟩ : ByteArray).size = 1 := rfl
theorem ended_size (s : ByteArray) : (s ++ (⟨#[10]⟩ : ByteArray)).size = s.size + 1 := by rw [ByteArray.size_append, sz10]
theorem text_l (n : Nat) : ∀ (k : Nat) (c : Cu) (l : T) (j : Nat), Cok (n + 2 * k + 4) c → TB j 9 l → j + k ≤ 1000 → ∃ (r : T) (c' : Cu), spec_l1Cur_text.l6 c l (k : Int) = some (r, c') ∧ TB (j + k + 1) 9 r ∧ Cok n c' := by
  intro k
  induction k with
  | zero =>
    intro c l j h hl hj
    have hl1 := hl.1
    rw [spec_l1Cur_text.l6_eq, bifF (by omega)]
    obtain ⟨b, c1, e1, k1⟩ := one_ok (n := n + 2) (h.le (by omega)) 5
    rw [e1, sB]
    cases b with
    | false => exact ⟨l, c1, rfl, hl.le (by omega) (by omega), k1.le (by omega)⟩
    | true =>
      simp only [cond_true]
      obtain ⟨s, c2, e2, hs, k2⟩ := of_ok k1 [(⟨#[97]⟩ : ByteArray), (⟨#[101, 110, 100]⟩ : ByteArray), (⟨#[46]⟩ : ByteArray)] (by decide)
      rw [e2, sB, room16, bifT (by simp only [List.length_singleton]; omega)]
      have hs2 : 1 ≤ s.size ∧ s.size ≤ 9 := by
        simp only [List.mem_cons, List.not_mem_nil, or_false] at hs
        rcases hs with h | h | h <;> (subst h; decide)
      exact ⟨_, c2, rfl, (hl.app (TB.one hs2.1 hs2.2)).le (by omega) (by omega), k2⟩
  | succ k ih =>
    intro c l j h hl hj
    have hl1 := hl.1
    rw [spec_l1Cur_text.l6_eq, bifT (by omega)]
    obtain ⟨s, c1, e1, hs, k1⟩ := line_ok (n := n + 2 * k + 4) (h.le (by omega))
    rw [e1, sB]
    simp only
    rw [sz10, room16, bifT (by omega), bifT (by simp only [List.length_singleton]; omega)]
    have e : w64 (((k + 1 : Nat) : Int) - 1) = (k : Int) := by rw [w64_id (by omega) (by omega)]; omega
    rw [e]
    have hs2 := ended_size s
    obtain ⟨r, c2, e2, hr, k2⟩ := ih c1 (l ++ [s ++ (⟨#[10]⟩ : ByteArray)]) (j + 1) k1 (hl.app (TB.one (by omega) (by omega))) (by omega)
    exact ⟨r, c2, e2, hr.le (by omega) (by omega), k2⟩
theorem text_ok {n : Nat} {c : Cu} (h : Cok (n + 100) c) : ∃ (r : T) (c' : Cu), spec_l1Cur_text.f c = some (r, c') ∧ TB 9 9 r ∧ Cok n c' := by
  rw [spec_l1Cur_text.f_eq]
  obtain ⟨x, c1, e1, x0, x1, _, k1⟩ := pick_ok (n := n + 98) h 9
  have x1 := x1 (by omega)
  rw [e1, sB]
  simp only
  obtain ⟨r, c2, e2, hr, k2⟩ := text_l n x.toNat c1 [] 0 (k1.le (by omega)) ⟨by simp, fun s hs => by cases hs⟩ (by omega)
  rw [Int.toNat_of_nonneg x0] at e2
  exact ⟨r, c2, e2, hr.le (by omega) (by omega), k2⟩
theorem anyText_ok {n : Nat} {c : Cu} (h : Cok (n + 102) c) : ∃ (r : T) (c' : Cu), spec_l1Cur_anyText.f c = some (r, c') ∧ r.length ≤ 9 ∧ (∀ s ∈ r, s.size ≤ 9) ∧ (0 < r.length → 1 ≤ (r.getD (r.length - 1) em).size) ∧ Cok n c' := by
  rw [spec_l1Cur_anyText.f_eq]
  obtain ⟨r, c1, e1, hr, k1⟩ := text_ok (n := n + 2) h
  rw [e1, sB]
  simp only
  have hr1 := hr.1
  have hset : ∀ s : ByteArray, s.size ≤ 9 → (r.set 0 s).length ≤ 9 ∧ ∀ t ∈ r.set 0 s, t.size ≤ 9 := fun s hs =>
    ⟨by rw [List.length_set]; omega, fun t ht => (List.mem_or_eq_of_mem_set ht).elim (fun h => (hr.2 t h).2) fun e => by subst e; exact hs⟩
  have hlast : 0 < r.length → 1 ≤ (r.getD (r.length - 1) em).size := fun h => (hr.2 _ (getD_mem (by omega) _)).1
  by_cases hc : (r.length : Int) > 1
  · rw [bifT hc]
    have hlast2 : ∀ s : ByteArray, 0 < (r.set 0 s).length → 1 ≤ ((r.set 0 s).getD ((r.set 0 s).length - 1) em).size := fun s _ => by
      rw [List.length_set, set_else (by omega)]; exact hlast (by omega)
    obtain ⟨x, c2, e2, _, _, _, k2⟩ := pick_ok k1 25
    rw [e2, sB]
    simp only
    have q1 := hset (⟨#[120]⟩ : ByteArray) (by decide)
    have q2 := hset em (by decide)
    have q3 := hset (⟨#[97, 10, 98, 10]⟩ : ByteArray) (by decide)
    by_cases d0 : x = 0
    · rw [bifT d0, bifT (by omega)]; exact ⟨_, c2, rfl, q1.1, q1.2, hlast2 _, k2⟩
    rw [bifF d0]
    by_cases d1 : x = 1
    · rw [bifT d1, bifT (by omega)]; exact ⟨_, c2, rfl, q2.1, q2.2, hlast2 _, k2⟩
    rw [bifF d1]
    by_cases d2 : x = 2
    · rw [bifT d2, bifT (by omega)]; exact ⟨_, c2, rfl, q3.1, q3.2, hlast2 _, k2⟩
    rw [bifF d2]
    exact ⟨r, c2, rfl, hr1, fun s hs => (hr.2 s hs).2, hlast, k2⟩
  · rw [bifF hc]; exact ⟨r, c1, rfl, hr1, fun s hs => (hr.2 s hs).2, hlast, k1.le (by omega)⟩
def wholeB (l : T) : Bool := match l.getLast? with | none => true | some s => decide (endP s)
theorem sWhole (l : T) (h : l.length ≤ 1048576) (hs : 0 < l.length → 1 ≤ (l.getD (l.length - 1) em).size ∧ (l.getD (l.length - 1) em).size ≤ 1048576) : spec_l1Whole.f l = some (wholeB l) := by
  rw [spec_l1Whole.f_eq, wholeB]
  by_cases h0 : (l.length : Int) = 0
  · rw [bifT h0]
    have : l = [] := List.length_eq_zero_iff.1 (by omega)
    subst this; rfl
  · rw [bifF h0, dn1 (by omega) (by omega), bif2T (by omega) (by omega)]
    simp only [Int.toNat_natCast]
    have hm := hs (by omega)
    rw [sEnds _ hm.1 hm.2, sB]
    have e : l.getLast? = some (l.getD (l.length - 1) em) := by
      rw [List.getLast?_eq_getElem?, List.getD_eq_getElem?_getD, List.getElem?_eq_getElem (by omega)]; rfl
    rw [e]
def plainB (s : ByteArray) : ByteArray := if endP s then s.extract 0 (s.size - 1) else s
theorem sPlain (s : ByteArray) (h1 : 1 ≤ s.size) (h2 : s.size ≤ 1048576) : spec_l1Plain.f s = some (plainB s) := by
  rw [spec_l1Plain.f_eq, sEnds s h1 h2, sB, plainB, dn1 (by omega) (by omega)]
  by_cases h : endP s
  · rw [bifT h, if_pos h, bif2T (by omega) (by omega)]; rfl
  · rw [bifF h, if_neg h]
theorem plainB_size (s : ByteArray) : (plainB s).size ≤ s.size := by
  unfold plainB
  split
  · rw [ByteArray.size_extract]; omega
  · exact Nat.le_refl _
theorem em_beq (s : ByteArray) (h : s.size ≠ 0) : (s.toList == em.toList) = false := by
  rw [toList_beq]
  exact decide_eq_false fun e => h (by rw [e]; rfl)
theorem other_l (n m : Nat) (a : T) (hm : 9 ≤ m) (hm2 : m ≤ 1000) : ∀ (k : Nat) (c : Cu) (b : T) (j : Nat), Cok (n + 10 * k + 10) c → TB j m b → j + k ≤ 2000 → ∃ (r : T) (c' : Cu), spec_l1Cur_other.l6 c a b (k : Int) = some (r, c') ∧ TB (j + k) (m + 1) r ∧ Cok n c' := by
  intro k
  induction k with
  | zero =>
    intro c b j h hb hj
    have hb1 := hb.1
    have fin : ∀ (c : Cu) (b : T), Cok n c → TB j (m + 1) b → ∃ (r : T) (c' : Cu), spec_l1Cur_other.l43 c a b = some (r, c') ∧ TB (j + 0) (m + 1) r ∧ Cok n c' := fun c b h hb => ⟨b, c, spec_l1Cur_other.l43_eq c a b, hb, h⟩
    have hbm := hb.le (Nat.le_refl j) (Nat.le_succ m)
    rw [spec_l1Cur_other.l6_eq, bifF (by omega)]
    by_cases h0 : (b.length : Int) > 0
    · rw [bifT h0]
      obtain ⟨x, c1, e1, k1⟩ := one_ok (n := n) (h.le (by omega)) 6
      rw [e1, sB]
      cases x with
      | false => exact fin _ _ k1 hbm
      | true =>
        have hl := hb.2 _ (getD_mem (l := b) (i := b.length - 1) (by omega) em)
        simp only [cond_true]
        rw [dn1 (by omega) (by omega), bif2T (by omega) (by omega)]
        simp only [Int.toNat_natCast]
        rw [sPlain _ hl.1 (by omega), sB, bif2T (by omega) (by omega), sEnds _ hl.1 (by omega), sB]
        have hp := plainB_size (b.getD (b.length - 1) em)
        by_cases he : endP (b.getD (b.length - 1) em)
        · rw [bifNF he]
          by_cases hz : (plainB (b.getD (b.length - 1) em)).size = 0
          · have hz2 : plainB (b.getD (b.length - 1) em) = em := by
              apply bl_inj
              have : (bl (plainB (b.getD (b.length - 1) em))).length = 0 := hz
              rw [List.length_eq_zero_iff.1 this]; rfl
            rw [hz2, toList_beq, bifNF rfl]
            exact fin _ _ k1 hbm
          · rw [em_beq _ hz, Bool.not_false, cond_true, bif2T (by omega) (by omega)]
            exact fin _ _ k1 (hbm.set _ (by omega) (by omega))
        · rw [bifNT he, sz10, bifT (by omega), bif2T (by omega) (by omega)]
          have := ended_size (plainB (b.getD (b.length - 1) em))
          exact fin _ _ k1 (hbm.set _ (by omega) (by omega))
    · rw [bifF h0]; exact fin _ _ (h.le (by omega)) hbm
  | succ k ih =>
    intro c b j h hb hj
    have hb1 := hb.1
    have e : w64 (((k + 1 : Nat) : Int) - 1) = (k : Int) := by rw [w64_id (by omega) (by omega)]; omega
    have nx : ∀ (c : Cu) (b : T), Cok (n + 10 * k + 10) c → TB (j + 1) m b → ∃ (r : T) (c' : Cu), spec_l1Cur_other.l9 c a b ((k + 1 : Nat) : Int) = some (r, c') ∧ TB (j + (k + 1)) (m + 1) r ∧ Cok n c' := by
      intro c b h hb
      rw [spec_l1Cur_other.l9_eq, e]
      obtain ⟨r, c', q1, q2, q3⟩ := ih c b (j + 1) h hb (by omega)
      exact ⟨r, c', q1, q2.le (by omega) (Nat.le_refl _), q3⟩
    have hbj := hb.le (Nat.le_succ j) (Nat.le_refl m)
    rw [spec_l1Cur_other.l6_eq, bifT (by omega), up1 (by omega)]
    obtain ⟨x, c1, e1, x0, x1, _, k1⟩ := pick_ok (n := n + 10 * k + 18) (h.le (by omega)) (((b.length + 1 : Nat)) : Int)
    have x1 := x1 (by omega)
    rw [e1, sB]
    simp only
    obtain ⟨y, c2, e2, y0, y1, _, k2⟩ := pick_ok (n := n + 10 * k + 16) k1 3
    rw [e2, sB]
    simp only
    have k2b := k2.le (m := n + 10 * k + 10) (by omega)
    by_cases d0 : y = 0
    · rw [bifT d0]
      by_cases hx : x < (b.length : Int)
      · rw [bifT hx, bif2T x0 (by omega), ownT _ (by rw [List.length_take]; omega), sB, w64_id (by omega) (by omega), bif2T (by omega) (by omega), room16, bifT (by rw [List.length_take, List.length_drop]; omega)]
        refine nx _ _ k2b ⟨by rw [List.length_append, List.length_take, List.length_drop]; omega, fun s hs => ?_⟩
        rcases List.mem_append.1 hs with hs | hs
        · exact hb.2 s (List.mem_of_mem_take hs)
        · exact hb.2 s (List.mem_of_mem_drop hs)
      · rw [bifF hx]; exact nx _ _ k2b hbj
    rw [bifF d0]
    have ins : ∀ (c : Cu) (s : ByteArray), Cok (n + 10 * k + 10) c → s.size ≤ 8 → ∃ (r : T) (c' : Cu), spec_l1Cur_other.l9 c a (((b.take x.toNat) ++ [s ++ (⟨#[10]⟩ : ByteArray)]) ++ (b.drop x.toNat)) ((k + 1 : Nat) : Int) = some (r, c') ∧ TB (j + (k + 1)) (m + 1) r ∧ Cok n c' := by
      intro c s hc hs
      have hs2 := ended_size s
      refine nx _ _ hc ⟨by simp only [List.length_append, List.length_take, List.length_drop, List.length_singleton]; omega, fun t ht => ?_⟩
      rcases List.mem_append.1 ht with ht | ht
      · rcases List.mem_append.1 ht with ht | ht
        · exact hb.2 t (List.mem_of_mem_take ht)
        · rw [List.mem_singleton] at ht; subst ht; omega
      · exact hb.2 t (List.mem_of_mem_drop ht)
    by_cases d1 : y = 1
    · rw [bifT d1]
      by_cases hx : x < (b.length : Int)
      · have hl := hb.2 _ (getD_mem (l := b) (i := x.toNat) (by omega) em)
        rw [bifT hx, bif2T x0 hx, sEnds _ hl.1 (by omega), sB]
        by_cases he : endP (b.getD x.toNat em)
        · rw [bifT he]
          obtain ⟨s, c3, e3, hs, k3⟩ := line_ok (n := n + 10 * k + 10) (k2.le (by omega))
          have hs2 := ended_size s
          rw [e3, sB]
          simp only
          rw [sz10, bifT (by omega), bif2T x0 hx]
          exact nx _ _ k3 (hbj.set _ (by omega) (by omega))
        · rw [bifF he]; exact nx _ _ k2b hbj
      · rw [bifF hx]; exact nx _ _ k2b hbj
    rw [bifF d1]
    by_cases hx : x < (b.length : Int)
    · rw [bifT hx, bif2T x0 (by omega), ownT _ (by rw [List.length_take]; omega), sB]
      obtain ⟨s, c3, e3, hs, k3⟩ := line_ok (n := n + 10 * k + 10) (k2.le (by omega))
      rw [e3, sB]
      simp only
      rw [sz10, bifT (by omega), room16, bifT (by simp only [List.length_take, List.length_singleton]; omega), bif2T x0 (by omega), bifT (by simp only [List.length_append, List.length_take, List.length_drop, List.length_singleton]; omega)]
      exact ins _ s k3 hs
    · rw [bifF hx, sWhole b (by omega) (fun h => by have := hb.2 _ (getD_mem (l := b) (i := b.length - 1) (by omega) em); exact ⟨this.1, by omega⟩), sB]
      cases wholeB b with
      | false => exact nx _ _ k2b hbj
      | true =>
        rw [cond_true, bif2T x0 (by omega), ownT _ (by rw [List.length_take]; omega), sB]
        obtain ⟨s, c3, e3, hs, k3⟩ := line_ok (n := n + 10 * k + 10) (k2.le (by omega))
        rw [e3, sB]
        simp only
        rw [sz10, bifT (by omega), room16, bifT (by simp only [List.length_take, List.length_singleton]; omega), bif2T x0 (by omega), bifT (by simp only [List.length_append, List.length_take, List.length_drop, List.length_singleton]; omega)]
        exact ins _ s k3 hs
theorem other_ok {n : Nat} {c : Cu} (h : Cok (n + 100) c) (a : T) (i m : Nat) (ha : TB i m a) (hi : i ≤ 1000) (hm : 9 ≤ m) (hm2 : m ≤ 1000) : ∃ (r : T) (c' : Cu), spec_l1Cur_other.f c a = some (r, c') ∧ TB (i + 3) (m + 1) r ∧ Cok n c' := by
  have ha1 := ha.1
  rw [spec_l1Cur_other.f_eq, ownT a (by omega), sB]
  obtain ⟨x, c1, e1, x0, x1, _, k1⟩ := pick_ok (n := n + 98) h 4
  have x1 := x1 (by omega)
  rw [e1, sB]
  simp only
  obtain ⟨r, c2, e2, hr, k2⟩ := other_l n m a hm hm2 x.toNat c1 a i (k1.le (by omega)) ha (by omega)
  rw [Int.toNat_of_nonneg x0] at e2
  exact ⟨r, c2, e2, hr.le (by omega) (Nat.le_refl _), k2⟩
theorem sLeast (a b : Int) : spec_l1Least.f a b = some (min a b) := by
  rw [spec_l1Least.f_eq]
  by_cases h : a < b
  · rw [bifT h]; congr 1; omega
  · rw [bifF h]; congr 1; omega
/-- a hunk that is drawn for so many lines -/
def DH (n : Nat) (x : YHunk) : Prop := 0 ≤ x.1 ∧ x.1 ≤ (n : Int) ∧ 0 ≤ x.2.1 ∧ x.2.1 ≤ 3 ∧ x.1 + x.2.1 ≤ (n : Int) ∧ TB 2 9 x.2.2
theorem hunks_l (l : T) (hl : l.length ≤ 2000) (hs : 0 < l.length → 1 ≤ (l.getD (l.length - 1) em).size ∧ (l.getD (l.length - 1) em).size ≤ 1048576) (n : Nat) : ∀ (d : Nat) (c : Cu) (out : YHunkS) (t : Nat), l.length + 1 - t ≤ d → Cok (n + 10 * d) c → out.length ≤ 6 → (∀ x ∈ out, DH l.length x) → t ≤ 100000 →
    ∃ (r : YHunkS) (c' : Cu), spec_l1Cur_hunks.l6 c l out (t : Int) = some (r, c') ∧ r.length ≤ 6 ∧ (∀ x ∈ r, DH l.length x) ∧ Cok n c' := by
  intro d
  induction d with
  | zero =>
    intro c out t hd h ho hx ht
    rw [spec_l1Cur_hunks.l6_eq, bifF (by omega)]
    exact ⟨out, c, rfl, ho, hx, h.le (by omega)⟩
  | succ d ih =>
    intro c out t hd h ho hx ht
    rw [spec_l1Cur_hunks.l6_eq]
    by_cases h1 : (t : Int) ≤ (l.length : Int)
    case neg => rw [bifF h1]; exact ⟨out, c, rfl, ho, hx, h.le (by omega)⟩
    rw [bifT h1]
    by_cases h2 : (out.length : Int) < 6
    case neg => rw [bifF h2]; exact ⟨out, c, rfl, ho, hx, h.le (by omega)⟩
    rw [bifT h2, spec_l1Cur_hunks.l9_eq, w64_id (by omega) (by omega), sLeast, sB, w64_id (by omega) (by omega)]
    obtain ⟨y, c1, e1, y0, y1, _, k1⟩ := pick_ok (n := n + 10 * d + 8) (h.le (by omega)) (min 3 ((l.length : Int) - t) + 1)
    have y1 := y1 (by omega)
    rw [e1, sB]
    simp only
    obtain ⟨z, c2, e2, z0, z1, _, k2⟩ := pick_ok (n := n + 10 * d + 6) k1 3
    have z1 := z1 (by omega)
    rw [e2, sB]
    simp only
    -- the next round
    have nx : ∀ (c : Cu) (out' : YHunkS) (e : Int), Cok (n + 10 * d) c → out'.length ≤ 6 → (∀ x ∈ out', DH l.length x) → (t : Int) + 1 ≤ e → e ≤ (t : Int) + 100 → ∃ (r : YHunkS) (c' : Cu), spec_l1Cur_hunks.l6 c l out' e = some (r, c') ∧ r.length ≤ 6 ∧ (∀ x ∈ r, DH l.length x) ∧ Cok n c' := by
      intro c out' e h1 h2 h3 h4 h5
      obtain ⟨r, c', q⟩ := ih c out' e.toNat (by omega) h1 h2 h3 (by omega)
      rw [Int.toNat_of_nonneg (by omega)] at q
      exact ⟨r, c', q⟩
    -- the lines
    have ln : ∀ (k : Nat) (c : Cu) (x : T), Cok (n + 10 * d + 2 * k + 2) c → x.length + k ≤ 2 → TB 2 9 x → ∃ (r : YHunkS) (c' : Cu), spec_l1Cur_hunks.l12 c l out (t : Int) ((t : Int), y, x) (k : Int) = some (r, c') ∧ r.length ≤ 6 ∧ (∀ x ∈ r, DH l.length x) ∧ Cok n c' := by
      intro k
      induction k with
      | zero =>
        intro c x h hk hxx
        have hxl := hxx.1
        have hD : DH l.length ((t : Int), y, x) := ⟨by show 0 ≤ (t : Int); omega, by show (t : Int) ≤ _; omega, y0, by show y ≤ 3; omega, by show (t : Int) + y ≤ _; omega, hxx⟩
        have hout : (out ++ [((t : Int), y, x)]).length ≤ 6 ∧ ∀ x' ∈ out ++ [((t : Int), y, x)], DH l.length x' := by
          refine ⟨by rw [List.length_append, List.length_singleton]; omega, fun x' hx' => ?_⟩
          rcases List.mem_append.1 hx' with hx' | hx'
          · exact hx x' hx'
          · rw [List.mem_singleton] at hx'; subst hx'; exact hD
        have go : ∀ (out' : YHunkS), out'.length ≤ 6 → (∀ x ∈ out', DH l.length x) → ∃ (r : YHunkS) (c' : Cu), ((spec_l1Cur_pick.f c 3).bind fun y1 => spec_l1Cur_hunks.l6 y1.2 l out' (w64 ((t : Int) + (w64 ((w64 (y + 1)) + y1.1))))) = some (r, c') ∧ r.length ≤ 6 ∧ (∀ x ∈ r, DH l.length x) ∧ Cok n c' := by
          intro out' g1 g2
          obtain ⟨u, c3, e3, u0, u1, _, k3⟩ := pick_ok (n := n + 10 * d) (h.le (by omega)) 3
          have u1 := u1 (by omega)
          rw [e3, sB]
          simp only
          rw [w64_id (x := y + 1) (by omega) (by omega), w64_id (x := y + 1 + u) (by omega) (by omega), w64_id (by omega) (by omega)]
          exact nx c3 out' _ k3 g1 g2 (by omega) (by omega)
        rw [spec_l1Cur_hunks.l12_eq, bifF (by omega), room40]
        simp only
        rw [w64_id (x := y + (x.length : Int)) (by omega) (by omega)]
        by_cases d1 : y + (x.length : Int) > 0
        case neg => rw [bifF d1]; exact go out ho hx
        rw [bifT d1, w64_id (x := (t : Int) + y) (by omega) (by omega)]
        by_cases d2 : (t : Int) + y < (l.length : Int)
        · rw [bifT d2, bifT (by simp only [List.length_singleton]; omega)]; exact go _ hout.1 hout.2
        · rw [bifF d2, sWhole l (by omega) hs, sB]
          cases wholeB l with
          | true => rw [cond_true, bifT (by simp only [List.length_singleton]; omega)]; exact go _ hout.1 hout.2
          | false =>
            rw [cond_false]
            by_cases d3 : y > 0
            · rw [bifT d3, bifT (by simp only [List.length_singleton]; omega)]; exact go _ hout.1 hout.2
            · rw [bifF d3]; exact go out ho hx
      | succ k ihk =>
        intro c x h hk hxx
        have hxl := hxx.1
        rw [spec_l1Cur_hunks.l12_eq, bifT (by omega)]
        obtain ⟨s, c3, e3, h3, k3⟩ := line_ok (n := n + 10 * d + 2 * k + 2) (h.le (by omega))
        rw [e3, sB]
        simp only
        have e : w64 (((k + 1 : Nat) : Int) - 1) = (k : Int) := by rw [w64_id (by omega) (by omega)]; omega
        have hs2 := ended_size s
        rw [sz10, bifT (by omega), room16, bifT (by simp only [List.length_singleton]; omega), e]
        refine ihk c3 (x ++ [s ++ (⟨#[10]⟩ : ByteArray)]) k3 (by rw [List.length_append, List.length_singleton]; omega) ⟨by rw [List.length_append, List.length_singleton]; omega, fun q hq => ?_⟩
        rcases List.mem_append.1 hq with hq | hq
        · exact hxx.2 q hq
        · rw [List.mem_singleton] at hq; subst hq; omega
    obtain ⟨r, c', q⟩ := ln z.toNat c2 [] (k2.le (by omega)) (by simp only [List.length_nil]; omega) ⟨by simp, fun s hs => by cases hs⟩
    rw [Int.toNat_of_nonneg z0] at q
    exact ⟨r, c', q⟩
theorem hunks_ok {n : Nat} {c : Cu} (h : Cok (n + 30000) c) (l : T) (hl : l.length ≤ 2000) (hs : 0 < l.length → 1 ≤ (l.getD (l.length - 1) em).size ∧ (l.getD (l.length - 1) em).size ≤ 1048576) :
    ∃ (r : YHunkS) (c' : Cu), spec_l1Cur_hunks.f c l = some (r, c') ∧ r.length ≤ 6 ∧ (∀ x ∈ r, DH l.length x) ∧ Cok n c' := by
  rw [spec_l1Cur_hunks.f_eq]
  obtain ⟨x, c1, e1, x0, x1, _, k1⟩ := pick_ok (n := n + 29998) (h.le (by omega)) 3
  have x1 := x1 (by omega)
  rw [e1, sB]
  simp only
  obtain ⟨r, c', q⟩ := hunks_l l hl hs n (l.length + 1) c1 [] x.toNat (by omega) (k1.le (by omega)) (by simp) (fun x hx => by cases hx) (by omega)
  rw [Int.toNat_of_nonneg x0] at q
  exact ⟨r, c', q⟩
theorem TB.last {n m : Nat} {l : T} (h : TB n m l) (hm : m ≤ 1048576) : 0 < l.length → 1 ≤ (l.getD (l.length - 1) em).size ∧ (l.getD (l.length - 1) em).size ≤ 1048576 := fun h0 => by
  have := h.2 _ (getD_mem (l := l) (i := l.length - 1) (by omega) em); exact ⟨this.1, by omega⟩
theorem among_ok {n : Nat} {c : Cu} (h : Cok (n + 2) c) (l : List Int) (hl : 1 ≤ l.length) : ∃ (s : Int) (c' : Cu), spec_l1Cur_among.f c l = some (s, c') ∧ s ∈ l ∧ Cok n c' := by
  obtain ⟨x, c', e, x0, x1, _, k⟩ := pick_ok h (l.length : Int)
  have x1 := x1 (by omega)
  rw [spec_l1Cur_among.f_eq, e, sB]
  simp only
  rw [bif2T x0 x1]
  exact ⟨_, _, rfl, getD_mem (by omega) _, k⟩
/-- any hunk that is drawn -/
def AH (x : YHunk) : Prop := -1 ≤ x.1 ∧ x.1 ≤ 2000 ∧ 0 ≤ x.2.1 ∧ x.2.1 ≤ 6 ∧ x.2.2.length ≤ 3 ∧ ∀ s ∈ x.2.2, s.size ≤ 9
theorem DH.any {n : Nat} {x : YHunk} (h : DH n x) (hn : n ≤ 2000) : AH x := by
  obtain ⟨h1, h2, h3, h4, h5, h6, h7⟩ := h
  exact ⟨by omega, by omega, by omega, by omega, by omega, fun s hs => (h7 s hs).2⟩
theorem anyHunks_ok {n : Nat} {c : Cu} (h : Cok (n + 30010) c) (l : T) (hl : l.length ≤ 2000) (hs : 0 < l.length → 1 ≤ (l.getD (l.length - 1) em).size ∧ (l.getD (l.length - 1) em).size ≤ 1048576) :
    ∃ (r : YHunkS) (c' : Cu), spec_l1Cur_anyHunks.f c l = some (r, c') ∧ r.length ≤ 6 ∧ (∀ x ∈ r, AH x) ∧ Cok n c' := by
  rw [spec_l1Cur_anyHunks.f_eq]
  obtain ⟨r, c1, e1, hr, hx, k1⟩ := hunks_ok (n := n + 10) (h.le (by omega)) l hl hs
  rw [e1, sB]
  simp only
  have hA : ∀ x ∈ r, AH x := fun x hx' => (hx x hx').any hl
  by_cases h0 : (r.length : Int) > 0
  case neg => rw [bifF h0]; exact ⟨r, c1, rfl, hr, hA, k1.le (by omega)⟩
  rw [bifT h0]
  obtain ⟨k, c2, e2, p0, p1, _, k2⟩ := pick_ok (n := n + 8) k1 (r.length : Int)
  have p1 := p1 (by omega)
  rw [e2, sB]
  simp only
  obtain ⟨u, c3, e3, _, _, _, k3⟩ := pick_ok (n := n + 6) k2 25
  rw [e3, sB]
  simp only
  have hg : AH (r.getD k.toNat (0, 0, [])) := hA _ (getD_mem (by omega) _)
  have hg2 := hx _ (getD_mem (l := r) (i := k.toNat) (by omega) (0, 0, []))
  have hset : ∀ y : YHunk, AH y → (r.set k.toNat y).length ≤ 6 ∧ ∀ x ∈ r.set k.toNat y, AH x := fun y hy =>
    ⟨by rw [List.length_set]; exact hr, fun x hx => (List.mem_or_eq_of_mem_set hx).elim (hA x) fun e => by subst e; exact hy⟩
  obtain ⟨g1, g2, g3, g4, g5, g6⟩ := hg
  obtain ⟨f1, f2, f3, f4, f5, f6, f7⟩ := hg2
  by_cases d0 : u = 0
  · rw [bifT d0]
    obtain ⟨v, c4, e4, hv, k4⟩ := among_ok (n := n + 4) k3 [(-1), 40, 3] (by decide)
    rw [e4, sB, bif2T p0 p1]
    simp only [List.mem_cons, List.not_mem_nil, or_false] at hv
    have q := hset (v, (r.getD k.toNat (0, 0, [])).2) ⟨by show -1 ≤ v; omega, by show v ≤ 2000; omega, g3, g4, g5, g6⟩
    exact ⟨_, c4, rfl, q.1, q.2, k4.le (by omega)⟩
  rw [bifF d0]
  by_cases d1 : u = 1
  · rw [bifT d1, bif2T p0 p1, bif2T p0 p1, w64_id (by omega) (by omega)]
    have q := hset ((r.getD k.toNat (0, 0, [])).1, (r.getD k.toNat (0, 0, [])).2.1 + 3, (r.getD k.toNat (0, 0, [])).2.2) ⟨g1, g2, by show 0 ≤ _ + (3 : Int); omega, by show _ + (3 : Int) ≤ 6; omega, g5, g6⟩
    exact ⟨_, c3, rfl, q.1, q.2, k3.le (by omega)⟩
  rw [bifF d1]
  by_cases d2 : u = 2
  · rw [bifT d2, bif2T p0 p1]
    have q := hset ((r.getD k.toNat (0, 0, [])).1, (r.getD k.toNat (0, 0, [])).2.1, [em]) ⟨g1, g2, g3, g4, by simp, fun s hs => by rw [List.mem_singleton] at hs; subst hs; decide⟩
    exact ⟨_, c3, rfl, q.1, q.2, k3.le (by omega)⟩
  rw [bifF d2]
  by_cases d3 : u = 3
  · rw [bifT d3, bif2T p0 p1, room16, bifT (by simp only [List.length_singleton]; omega), bif2T p0 trivial, bifT trivial]
    have q := hset ((r.getD k.toNat (0, 0, [])).1, (r.getD k.toNat (0, 0, [])).2.1, (r.getD k.toNat (0, 0, [])).2.2 ++ [(⟨#[101, 110, 100]⟩ : ByteArray)]) ⟨g1, g2, g3, g4, by show (_ ++ _ : T).length ≤ 3; rw [List.length_append, List.length_singleton]; omega, fun s hs => by
      rcases List.mem_append.1 hs with hs | hs
      · exact g6 s hs
      · rw [List.mem_singleton] at hs; subst hs; decide⟩
    exact ⟨_, c3, rfl, q.1, q.2, k3.le (by omega)⟩
  rw [bifF d3]
  exact ⟨r, c3, rfl, hr, hA, k3.le (by omega)⟩
def inn (x : ByteArray) (f : T → Nat) : T → Nat
  | [] => 0
  | y :: ys => if x = y then f ys + 1 else max (f (y :: ys)) (inn x f ys)
def lcs : T → T → Nat
  | [], _ => 0
  | x :: xs, ys => inn x (lcs xs) ys
theorem lcs_nil (xs : T) : lcs xs [] = 0 := by cases xs <;> rfl
theorem lcs_cons (x : ByteArray) (xs : T) (y : ByteArray) (ys : T) : lcs (x :: xs) (y :: ys) = if x = y then lcs xs ys + 1 else max (lcs xs (y :: ys)) (lcs (x :: xs) ys) := rfl
theorem lcs_step : ∀ (n : Nat) (xs ys : T), xs.length + ys.length ≤ n →
    (∀ x, lcs xs ys ≤ lcs (x :: xs) ys ∧ lcs (x :: xs) ys ≤ lcs xs ys + 1) ∧ (∀ y, lcs xs ys ≤ lcs xs (y :: ys) ∧ lcs xs (y :: ys) ≤ lcs xs ys + 1) := by
  intro n
  induction n with
  | zero =>
    intro xs ys h
    have h1 : xs.length = 0 := by omega
    have h2 : ys.length = 0 := by omega
    obtain rfl := List.length_eq_zero_iff.1 h1
    obtain rfl := List.length_eq_zero_iff.1 h2
    exact ⟨fun x => ⟨Nat.le_refl _, Nat.le_succ _⟩, fun y => ⟨Nat.le_refl _, Nat.le_succ _⟩⟩
  | succ n ih =>
    intro xs ys h
    refine ⟨fun x => ?_, fun y => ?_⟩
    · cases ys with
      | nil => rw [lcs_nil, lcs_nil]; omega
      | cons y ys =>
        have hI := ih xs ys (by simp at h; omega)
        have h1 := hI.1 x
        have h2 := hI.2 y
        rw [lcs_cons]
        split
        · omega
        · omega
    · cases xs with
      | nil => exact ⟨Nat.le_refl _, Nat.zero_le _⟩
      | cons x xs =>
        have hI := ih xs ys (by simp at h; omega)
        have h1 := hI.1 x
        have h2 := hI.2 y
        rw [lcs_cons]
        split
        · omega
        · omega
theorem lcs_le : ∀ xs ys : T, lcs xs ys ≤ xs.length
  | [], _ => Nat.le_refl _
  | x :: xs, ys => by
    have h1 := lcs_le xs ys
    have h2 := ((lcs_step _ xs ys (Nat.le_refl _)).1 x).2
    rw [List.length_cons]; omega
def tv (a b : T) (i j : Nat) : Nat := lcs (a.drop i) (b.drop j)
theorem tv_i {a b : T} {i j : Nat} (h : a.length ≤ i) : tv a b i j = 0 := by unfold tv; rw [List.drop_eq_nil_of_le h]; rfl
theorem tv_j {a b : T} {i j : Nat} (h : b.length ≤ j) : tv a b i j = 0 := by unfold tv; rw [List.drop_eq_nil_of_le h, lcs_nil]
theorem tv_le (a b : T) (i j : Nat) : tv a b i j ≤ a.length := by
  unfold tv
  have := lcs_le (a.drop i) (b.drop j)
  rw [List.length_drop] at this; omega
theorem tv_step {a b : T} {i j : Nat} (hi : i < a.length) (hj : j < b.length) : tv a b i j = if a.getD i em = b.getD j em then tv a b (i + 1) (j + 1) + 1 else max (tv a b (i + 1) j) (tv a b i (j + 1)) := by
  unfold tv
  rw [drop_at hi em, drop_at hj em]
  exact lcs_cons _ _ _ _
theorem tv_near {a b : T} {i j : Nat} (hi : i < a.length) (hj : j < b.length) : tv a b (i + 1) j ≤ tv a b (i + 1) (j + 1) + 1 ∧ tv a b i (j + 1) ≤ tv a b (i + 1) (j + 1) + 1 := by
  unfold tv
  have h := lcs_step _ (a.drop (i + 1)) (b.drop (j + 1)) (Nat.le_refl _)
  have h1 := (h.1 (a.getD i em)).2
  have h2 := (h.2 (b.getD j em)).2
  rw [← drop_at hi em] at h1
  rw [← drop_at hj em] at h2
  exact ⟨h2, h1⟩
def Mt (a b : T) (i j p q : Nat) : Prop := a.getD p em = b.getD q em ∧ tv a b (p + 1) (q + 1) + 1 = tv a b i j
theorem ex_match (a b : T) : ∀ (n i j : Nat), (a.length - i) + (b.length - j) ≤ n → 0 < tv a b i j → ∃ p q, i ≤ p ∧ p < a.length ∧ j ≤ q ∧ q < b.length ∧ Mt a b i j p q := by
  intro n
  induction n with
  | zero => intro i j h h0; rw [tv_i (by omega)] at h0; omega
  | succ n ih =>
    intro i j h h0
    by_cases hi : i < a.length
    · by_cases hj : j < b.length
      · have hs := tv_step hi hj
        by_cases e : a.getD i em = b.getD j em
        · rw [if_pos e] at hs
          exact ⟨i, j, Nat.le_refl _, hi, Nat.le_refl _, hj, e, hs.symm⟩
        · rw [if_neg e] at hs
          by_cases c : tv a b i (j + 1) ≤ tv a b (i + 1) j
          · have e2 : tv a b i j = tv a b (i + 1) j := by omega
            obtain ⟨p, q, h1, h2, h3, h4, h5⟩ := ih (i + 1) j (by omega) (by omega)
            exact ⟨p, q, by omega, h2, h3, h4, h5.1, by rw [e2]; exact h5.2⟩
          · have e2 : tv a b i j = tv a b i (j + 1) := by omega
            obtain ⟨p, q, h1, h2, h3, h4, h5⟩ := ih i (j + 1) (by omega) (by omega)
            exact ⟨p, q, h1, h2, by omega, h4, h5.1, by rw [e2]; exact h5.2⟩
      · rw [tv_j (by omega)] at h0; omega
    · rw [tv_i (by omega)] at h0; omega
theorem least {P : Nat → Prop} (h : ∃ n, P n) : ∃ n, P n ∧ ∀ m, m < n → ¬ P m := by
  obtain ⟨n, hn⟩ := h
  induction n using Nat.strongRecOn with
  | _ n ih =>
    by_cases g : ∃ m, m < n ∧ P m
    · obtain ⟨m, hm, hp⟩ := g
      exact ih m hm hp
    · exact ⟨n, hn, fun m hm hp => g ⟨m, hm, hp⟩⟩
structure Lst (a b : T) (i j p q : Nat) : Prop where
  hip : i ≤ p
  hpa : p < a.length
  hjq : j ≤ q
  hqb : q < b.length
  hm : Mt a b i j p q
  hrow : ∀ p' q', i ≤ p' → p' < p → j ≤ q' → q' < b.length → ¬ Mt a b i j p' q'
  hcol : ∀ q', j ≤ q' → q' < q → ¬ Mt a b i j p q'
theorem ex_least (a b : T) (i j : Nat) (h : 0 < tv a b i j) : ∃ p q, Lst a b i j p q := by
  obtain ⟨p0, q0, h1, h2, h3, h4, h5⟩ := ex_match a b _ i j (Nat.le_refl _) h
  obtain ⟨p, ⟨hp1, hp2, hp3⟩, hp4⟩ := least (P := fun p => i ≤ p ∧ p < a.length ∧ ∃ q, j ≤ q ∧ q < b.length ∧ Mt a b i j p q) ⟨p0, h1, h2, q0, h3, h4, h5⟩
  obtain ⟨q, ⟨hq1, hq2, hq3⟩, hq4⟩ := least (P := fun q => j ≤ q ∧ q < b.length ∧ Mt a b i j p q) hp3
  exact ⟨p, q, hp1, hp2, hq1, hq2, hq3, fun p' q' g1 g2 g3 g4 g5 => hp4 p' g2 ⟨g1, by omega, q', g3, g4, g5⟩, fun q' g1 g2 g3 => hq4 q' g2 ⟨g1, by omega, g3⟩⟩
def PR (a b : T) : Nat → Nat → List (Nat × Nat) → Prop
  | i, j, [] => tv a b i j = 0
  | i, j, (p, q) :: l => Lst a b i j p q ∧ PR a b (p + 1) (q + 1) l
theorem ex_PR (a b : T) : ∀ (n i j : Nat), a.length - i ≤ n → ∃ l, PR a b i j l ∧ l.length ≤ n := by
  intro n
  induction n with
  | zero => intro i j h; exact ⟨[], tv_i (by omega), Nat.le_refl _⟩
  | succ n ih =>
    intro i j h
    by_cases h0 : 0 < tv a b i j
    · obtain ⟨p, q, hL⟩ := ex_least a b i j h0
      have h1 := hL.hip
      have h2 := hL.hpa
      obtain ⟨l, hl, hn⟩ := ih (p + 1) (q + 1) (by omega)
      exact ⟨(p, q) :: l, ⟨hL, hl⟩, by rw [List.length_cons]; omega⟩
    · exact ⟨[], (by show tv a b i j = 0; omega), Nat.zero_le _⟩
def trow (a b : T) (i : Nat) : List Int := (List.range (b.length + 1)).map fun j => (tv a b i j : Int)
def tbl (a b : T) : List (List Int) := (List.range (a.length + 1)).map (trow a b)
theorem trow_len (a b : T) (i : Nat) : (trow a b i).length = b.length + 1 := by simp [trow]
theorem tbl_len (a b : T) : (tbl a b).length = a.length + 1 := by simp [tbl]
theorem trow_get (a b : T) (i : Nat) {j : Nat} (h : j ≤ b.length) : (trow a b i).getD j 0 = (tv a b i j : Int) := by
  unfold trow
  simp [List.getD_eq_getElem?_getD, List.getElem?_map, List.getElem?_range (show j < b.length + 1 by omega)]
theorem tbl_get (a b : T) {i : Nat} (h : i ≤ a.length) : (tbl a b).getD i [] = trow a b i := by
  unfold tbl
  simp [List.getD_eq_getElem?_getD, List.getElem?_map, List.getElem?_range (show i < a.length + 1 by omega)]
theorem row_eq (a b : T) (i : Nat) (y : List Int) (h : y.length = b.length + 1) (h2 : ∀ c, c ≤ b.length → y.getD c 0 = (tv a b i c : Int)) : y = trow a b i := by
  apply List.ext_getElem
  · rw [h, trow_len]
  · intro c hc hc2
    have h3 := h2 c (by omega)
    have h4 := trow_get a b i (j := c) (by omega)
    rw [List.getD_eq_getElem?_getD, List.getElem?_eq_getElem hc] at h3
    rw [List.getD_eq_getElem?_getD, List.getElem?_eq_getElem hc2] at h4
    simp at h3 h4
    rw [h3, h4]
theorem tbl_eq (a b : T) (x : List (List Int)) (h : x.length = a.length + 1) (h2 : ∀ r, r ≤ a.length → x.getD r [] = trow a b r) : x = tbl a b := by
  apply List.ext_getElem
  · rw [h, tbl_len]
  · intro c hc hc2
    have h3 := h2 c (by omega)
    have h4 := tbl_get a b (i := c) (by omega)
    rw [List.getD_eq_getElem?_getD, List.getElem?_eq_getElem hc] at h3
    rw [List.getD_eq_getElem?_getD, List.getElem?_eq_getElem hc2] at h4
    simp at h3 h4
    rw [h3, h4]
abbrev Tb := List (List Int)
theorem zeros_get (n c : Nat) : (List.replicate n (0 : Int)).getD c 0 = 0 := by
  rw [List.getD_eq_getElem?_getD, List.getElem?_replicate]; split <;> rfl
theorem most (a b : Int) : spec_l1Most.f a b = some (max a b) := by
  rw [spec_l1Most.f_eq]
  by_cases h : a > b
  · rw [bifT h]; congr 1; omega
  · rw [bifF h]; congr 1; omega
/-- Row i is known behind place j. -/
def RowInv (a b : T) (x : Tb) (i j : Nat) : Prop := x.length = a.length + 1 ∧ (∀ r, i < r → r ≤ a.length → x.getD r [] = trow a b r) ∧ (x.getD i []).length = b.length + 1 ∧ ∀ c, j ≤ c → c ≤ b.length → (x.getD i []).getD c 0 = (tv a b i c : Int)
theorem inv_put (a b : T) {x : Tb} {i j : Nat} (h : RowInv a b x i (j + 1)) (hi : i < a.length) (hj : j < b.length) : RowInv a b (x.set i ((x.getD i []).set j (tv a b i j : Int))) i j := by
  obtain ⟨h1, h2, h3, h4⟩ := h
  have hs : (x.set i ((x.getD i []).set j (tv a b i j : Int))).getD i [] = (x.getD i []).set j (tv a b i j : Int) := set_same (by omega) _ _
  refine ⟨by rw [List.length_set]; exact h1, fun r hr hr2 => ?_, ?_, fun c hc hc2 => ?_⟩
  · rw [set_else (by omega)]; exact h2 r hr hr2
  · rw [hs, List.length_set]; exact h3
  · rw [hs]
    by_cases e : c = j
    · subst e; exact set_same (by omega) _ _
    · rw [set_else (by omega)]; exact h4 c (by omega) hc2
theorem inv_row (a b : T) {x : Tb} {i : Nat} (h : RowInv a b x i 0) : ∀ r, i ≤ r → r ≤ a.length → x.getD r [] = trow a b r := by
  intro r hr hr2
  by_cases e : r = i
  · subst e; exact row_eq a b r _ h.2.2.1 (fun c hc => h.2.2.2 c (Nat.zero_le _) hc)
  · exact h.2.1 r (by omega) hr2
section
variable (a b : T) (ha : a.length ≤ 1000) (hb : b.length ≤ 1000)
include ha hb
theorem sT_l2 (R : Tb) (i : Nat) (hi : i < a.length) (k : ∀ x : Tb, RowInv a b x i 0 → (∀ r, r < i → (x.getD r []).length = b.length + 1 ∧ (x.getD r []).getD b.length 0 = 0) → spec_l3Table.l16 a b x ((i : Int) - 1) = some R) :
    ∀ (j : Nat) (x : Tb), j ≤ b.length → RowInv a b x i j → (∀ r, r < i → (x.getD r []).length = b.length + 1 ∧ (x.getD r []).getD b.length 0 = 0) → spec_l3Table.l22 a b x (i : Int) ((j : Int) - 1) = some R := by
  intro j
  induction j with
  | zero =>
    intro x hj h hz
    have hw : w64 ((i : Int) - 1) = (i : Int) - 1 := w64_id (by omega) (by omega)
    rw [spec_l3Table.l22_eq, bifF (by omega), hw]
    exact k x h hz
  | succ j ih =>
    intro x hj h hz
    have e0 : ((j + 1 : Nat) : Int) - 1 = (j : Int) := by omega
    rw [e0]
    obtain ⟨h1, h2, h3, h4⟩ := h
    have hi1 : w64 ((i : Int) + 1) = ((i + 1 : Nat) : Int) := up1 (by omega)
    have hj1 : w64 ((j : Int) + 1) = ((j + 1 : Nat) : Int) := up1 (by omega)
    have hj2 : w64 ((j : Int) - 1) = (j : Int) - 1 := w64_id (by omega) (by omega)
    have hrow := h2 (i + 1) (by omega) (by omega)
    have g1 : (trow a b (i + 1)).getD j 0 = (tv a b (i + 1) j : Int) := trow_get a b (i + 1) (by omega)
    have g2 : (trow a b (i + 1)).getD (j + 1) 0 = (tv a b (i + 1) (j + 1) : Int) := trow_get a b (i + 1) (by omega)
    have g3 := h4 (j + 1) (by omega) (by omega)
    have hl := trow_len a b (i + 1)
    have hb1 := tv_le a b (i + 1) (j + 1)
    have hv : w64 ((tv a b (i + 1) (j + 1) : Int) + 1) = (tv a b (i + 1) (j + 1) : Int) + 1 := w64_id (by omega) (by omega)
    have hs := tv_step (a := a) (b := b) (i := i) (j := j) (by omega) (by omega)
    have hn := tv_near (a := a) (b := b) (i := i) (j := j) (by omega) (by omega)
    have hset : ∀ v : Int, (x.set i ((x.getD i []).set j v)).getD i [] = (x.getD i []).set j v := fun v => set_same (by omega) _ _
    have hset1 : ∀ v : Int, (x.set i ((x.getD i []).set j v)).getD (i + 1) [] = trow a b (i + 1) := fun v => by rw [set_else (by omega)]; exact hrow
    have hsame : ∀ v : Int, ((x.getD i []).set j v).getD j 0 = v := fun v => set_same (by omega) _ _
    have fin : spec_l3Table.l22 a b (x.set i ((x.getD i []).set j (tv a b i j : Int))) (i : Int) ((j : Int) - 1) = some R := by
      refine ih _ (by omega) (inv_put a b ⟨h1, h2, h3, h4⟩ (by omega) (by omega)) (fun r hr => ?_)
      rw [set_else (by omega)]; exact hz r hr
    rw [spec_l3Table.l22_eq]
    simp only [hi1, hj1, hj2, Int.toNat_natCast, hrow, g1, g3, hl, List.length_set, hset, hset1, hsame, g2, hv, toList_beq]
    clear hi1 hj1 hj2
    simp (disch := omega) only [bifT, bif2T, most, sB]
    by_cases e : a.getD i em = b.getD j em
    · rw [if_pos e] at hs
      rw [bifT e, List.set_set, List.set_set]
      rw [show max (max (tv a b (i + 1) j : Int) (tv a b i (j + 1) : Int)) ((tv a b (i + 1) (j + 1) : Int) + 1) = (tv a b i j : Int) by omega]
      exact fin
    · rw [if_neg e] at hs
      rw [bifF e]
      rw [show max (tv a b (i + 1) j : Int) (tv a b i (j + 1) : Int) = (tv a b i j : Int) by omega]
      exact fin
theorem sT_l1 : ∀ (d : Nat) (x : Tb), d ≤ a.length → x.length = a.length + 1 → (∀ r, d ≤ r → r ≤ a.length → x.getD r [] = trow a b r) → (∀ r, r < d → (x.getD r []).length = b.length + 1 ∧ (x.getD r []).getD b.length 0 = 0) →
    spec_l3Table.l16 a b x ((d : Int) - 1) = some (tbl a b) := by
  intro d
  induction d with
  | zero =>
    intro x hd h1 h2 hz
    rw [spec_l3Table.l16_eq, bifF (by omega), tbl_eq a b x h1 (fun r hr => h2 r (Nat.zero_le _) hr)]
  | succ d ih =>
    intro x hd h1 h2 hz
    have e0 : ((d + 1 : Nat) : Int) - 1 = (d : Int) := by omega
    have hw : w64 ((b.length : Int) - 1) = (b.length : Int) - 1 := w64_id (by omega) (by omega)
    rw [e0, spec_l3Table.l16_eq, bifT (by omega), hw]
    refine sT_l2 a b ha hb _ d (by omega) (fun y hy hyz => ?_) b.length x (Nat.le_refl _) ⟨h1, fun r hr hr2 => h2 r (by omega) hr2, (hz d (by omega)).1, fun c hc hc2 => ?_⟩ (fun r hr => hz r (by omega))
    · exact ih y (by omega) hy.1 (fun r hr hr2 => inv_row a b hy r hr hr2) hyz
    · have e : c = b.length := by omega
      subst e
      rw [(hz d (by omega)).2, tv_j (Nat.le_refl _)]; rfl
theorem sTable : spec_l3Table.f a b = some (tbl a b) := by
  have w1 : w64 ((a.length : Int) + 1) = ((a.length + 1 : Nat) : Int) := up1 (by omega)
  have w2 : w64 ((b.length : Int) + 1) = ((b.length + 1 : Nat) : Int) := up1 (by omega)
  have w3 : w64 ((a.length : Int) - 1) = (a.length : Int) - 1 := w64_id (by omega) (by omega)
  have key : ∀ i, i ≤ a.length + 1 → ∀ x : Tb, x.length = a.length + 1 → (∀ r, r < i → x.getD r [] = List.replicate (b.length + 1) 0) → spec_l3Table.l6 a b x ((a.length + 1 : Nat) : Int) (i : Int) = some (tbl a b) := by
    apply downTo
    · intro x h1 h2
      rw [spec_l3Table.l6_eq, bifF (by omega), w3]
      refine sT_l1 a b ha hb a.length x (Nat.le_refl _) h1 (fun r hr hr2 => ?_) (fun r hr => ?_)
      · have e : r = a.length := by omega
        subst e
        rw [h2 _ (by omega)]
        refine row_eq a b _ _ (by simp) (fun c hc => ?_)
        rw [zeros_get, tv_i (Nat.le_refl _)]; rfl
      · rw [h2 r (by omega)]
        exact ⟨by simp, zeros_get _ _⟩
    · intro i hi ih x h1 h2
      have hi1 := up1 (i := i) (by omega)
      rw [spec_l3Table.l6_eq]
      simp only [w2, hi1, Int.toNat_natCast, room8]
      rw [bifT (by omega), bif2T (by omega) (by omega), bif2T (by omega) (by omega)]
      refine ih _ (by rw [List.length_set]; exact h1) fun r hr => ?_
      by_cases e : r = i
      · subst e; exact set_same (by omega) _ _
      · rw [set_else (by omega)]; exact h2 r (by omega)
  rw [spec_l3Table.f_eq]
  simp only [w1, Int.toNat_natCast, room24, List.length_replicate]
  rw [bif2T (by omega) (by omega)]
  exact key 0 (by omega) _ (by simp) (fun r hr => absurd hr (Nat.not_lt_zero r))
theorem iT_l1 (R : Tb) (i : Nat) (hi : i < a.length) (k : ∀ x : Tb, RowInv a b x i 0 → impl_common.l8 a b x ((i : Int) - 1) = some R) :
    ∀ (j : Nat) (x : Tb), j ≤ b.length → RowInv a b x i j → impl_common.l16 a b x (i : Int) ((j : Int) - 1) = some R := by
  intro j
  induction j with
  | zero =>
    intro x hj h
    have hw : w64 ((i : Int) - 1) = (i : Int) - 1 := w64_id (by omega) (by omega)
    rw [impl_common.l16_eq, bifF (by omega), hw]
    exact k x h
  | succ j ih =>
    intro x hj h
    have e0 : ((j + 1 : Nat) : Int) - 1 = (j : Int) := by omega
    rw [e0]
    have fin : impl_common.l16 a b (x.set i ((x.getD i []).set j (tv a b i j : Int))) (i : Int) ((j : Int) - 1) = some R := ih _ (by omega) (inv_put a b h (by omega) (by omega))
    obtain ⟨h1, h2, h3, h4⟩ := h
    have hi1 : w64 ((i : Int) + 1) = ((i + 1 : Nat) : Int) := up1 (by omega)
    have hj1 : w64 ((j : Int) + 1) = ((j + 1 : Nat) : Int) := up1 (by omega)
    have hj2 : w64 ((j : Int) - 1) = (j : Int) - 1 := w64_id (by omega) (by omega)
    have hrow := h2 (i + 1) (by omega) (by omega)
    have g1 : (trow a b (i + 1)).getD j 0 = (tv a b (i + 1) j : Int) := trow_get a b (i + 1) (by omega)
    have g2 : (trow a b (i + 1)).getD (j + 1) 0 = (tv a b (i + 1) (j + 1) : Int) := trow_get a b (i + 1) (by omega)
    have g3 := h4 (j + 1) (by omega) (by omega)
    have hl := trow_len a b (i + 1)
    have hb1 := tv_le a b (i + 1) (j + 1)
    have hv : w64 ((tv a b (i + 1) (j + 1) : Int) + 1) = (tv a b (i + 1) (j + 1) : Int) + 1 := w64_id (by omega) (by omega)
    have hs := tv_step (a := a) (b := b) (i := i) (j := j) (by omega) (by omega)
    rw [impl_common.l16_eq]
    simp only [hi1, hj1, hj2, Int.toNat_natCast, toList_beq, hrow, g1, g2, g3, hv, hl]
    clear hi1 hj1 hj2
    simp (disch := omega) only [bifT, bif2T]
    by_cases e : a.getD i em = b.getD j em
    · rw [if_pos e] at hs
      rw [bifT e, show (tv a b (i + 1) (j + 1) : Int) + 1 = (tv a b i j : Int) by omega]
      exact fin
    · rw [if_neg e] at hs
      rw [bifF e, show max (tv a b (i + 1) j : Int) (tv a b i (j + 1) : Int) = (tv a b i j : Int) by omega]
      exact fin
theorem iT_l0 : ∀ (d : Nat) (x : Tb), d ≤ a.length → x.length = a.length + 1 → (∀ r, d ≤ r → r ≤ a.length → x.getD r [] = trow a b r) → impl_common.l8 a b x ((d : Int) - 1) = some (tbl a b) := by
  intro d
  induction d with
  | zero =>
    intro x hd h1 h2
    rw [impl_common.l8_eq, bifF (by omega), tbl_eq a b x h1 (fun r hr => h2 r (Nat.zero_le _) hr)]
  | succ d ih =>
    intro x hd h1 h2
    have e0 : ((d + 1 : Nat) : Int) - 1 = (d : Int) := by omega
    have hw : w64 ((b.length : Int) - 1) = (b.length : Int) - 1 := w64_id (by omega) (by omega)
    have w2 : w64 ((b.length : Int) + 1) = ((b.length + 1 : Nat) : Int) := up1 (by omega)
    have hs : (x.set d (List.replicate (b.length + 1) (0 : Int))).getD d [] = List.replicate (b.length + 1) 0 := set_same (by omega) _ _
    rw [e0, impl_common.l8_eq]
    simp only [hw, w2, Int.toNat_natCast, room8]
    rw [bifT (by omega), bif2T (by omega) (by omega), bif2T (by omega) (by omega)]
    refine iT_l1 a b ha hb _ d (by omega) (fun y hy => ?_) b.length _ (Nat.le_refl _) ⟨by rw [List.length_set]; exact h1, fun r hr hr2 => ?_, by rw [hs]; simp, fun c hc hc2 => ?_⟩
    · exact ih y (by omega) hy.1 (fun r hr hr2 => inv_row a b hy r hr hr2)
    · rw [set_else (by omega)]; exact h2 r (by omega) hr2
    · have e : c = b.length := by omega
      subst e
      rw [hs, zeros_get, tv_j (Nat.le_refl _)]; rfl
theorem iTable : impl_common.f a b = some (tbl a b) := by
  have w1 : w64 ((a.length : Int) + 1) = ((a.length + 1 : Nat) : Int) := up1 (by omega)
  have w2 : w64 ((b.length : Int) + 1) = ((b.length + 1 : Nat) : Int) := up1 (by omega)
  have w3 : w64 ((a.length : Int) - 1) = (a.length : Int) - 1 := w64_id (by omega) (by omega)
  rw [impl_common.f_eq]
  simp only [w1, w2, w3, Int.toNat_natCast, List.length_replicate, room8, room24]
  rw [bif2T (by omega) (by omega), bif2T (by omega) (by omega), bif2T (by omega) (by omega)]
  refine iT_l0 a b ha hb a.length _ (Nat.le_refl _) (by rw [List.length_set, List.length_replicate]) (fun r hr hr2 => ?_)
  have e : r = a.length := by omega
  subst e
  rw [set_same (by rw [List.length_replicate]; omega)]
  refine row_eq a b _ _ (by simp) (fun c hc => ?_)
  rw [zeros_get, tv_i (Nat.le_refl _)]; rfl
end
abbrev P2 := Int × Int
def cvS (l : List (Nat × Nat)) : List P2 := l.map fun p => ((p.1 : Int), (p.2 : Int))
def cvI (l : List (Nat × Nat)) : Tb := l.map fun p => [(p.1 : Int), (p.2 : Int)]
theorem tb_row (a b : T) {i : Nat} (h : i ≤ a.length) : (tbl a b).getD i [] = trow a b i := tbl_get a b h
section
variable (a b : T) (ha : a.length ≤ 1000) (hb : b.length ≤ 1000) (i j : Nat) (hi : i ≤ a.length) (hj : j ≤ b.length) (acc : List P2) (R : List P2)
include ha hb hi hj
theorem sp_end (r c : Nat) (hr : i ≤ r) (hr2 : r < a.length) (x y : Int) (h : c < j ∨ c = j) (k : spec_l3Pairs.l14 a b (tbl a b) acc (i : Int) (j : Int) x y ((r : Int) - 1) = some R) :
    spec_l3Pairs.l20 a b (tbl a b) acc (i : Int) (j : Int) x y (r : Int) ((c : Int) - 1) = some R := by
  have _ := hb
  have _ := hi
  have _ := hj
  have hw : w64 ((r : Int) - 1) = (r : Int) - 1 := w64_id (by omega) (by omega)
  rw [spec_l3Pairs.l20_eq]
  rw [bifF (by omega), hw]
  exact k
theorem sp_step (r c : Nat) (hr : i ≤ r) (hr2 : r < a.length) (hc : j ≤ c) (hc2 : c < b.length) (x y : Int)
    (k1 : Mt a b i j r c → spec_l3Pairs.l20 a b (tbl a b) acc (i : Int) (j : Int) (r : Int) (c : Int) (r : Int) ((c : Int) - 1) = some R)
    (k0 : ¬ Mt a b i j r c → spec_l3Pairs.l20 a b (tbl a b) acc (i : Int) (j : Int) x y (r : Int) ((c : Int) - 1) = some R) :
    spec_l3Pairs.l20 a b (tbl a b) acc (i : Int) (j : Int) x y (r : Int) (((c + 1 : Nat) : Int) - 1) = some R := by
  have e0 : ((c + 1 : Nat) : Int) - 1 = (c : Int) := by omega
  rw [e0]
  have hr1 : w64 ((r : Int) + 1) = ((r + 1 : Nat) : Int) := up1 (by omega)
  have hc1 : w64 ((c : Int) + 1) = ((c + 1 : Nat) : Int) := up1 (by omega)
  have hc3 : w64 ((c : Int) - 1) = (c : Int) - 1 := w64_id (by omega) (by omega)
  have hb1 := tv_le a b (r + 1) (c + 1)
  have hv : w64 ((tv a b (r + 1) (c + 1) : Int) + 1) = (tv a b (r + 1) (c + 1) : Int) + 1 := w64_id (by omega) (by omega)
  have L1 := tbl_len a b
  have L2 := trow_len a b (r + 1)
  have L3 := trow_len a b i
  have g1 := trow_get a b (r + 1) (j := c + 1) (by omega)
  have g2 := trow_get a b i (j := j) hj
  rw [spec_l3Pairs.l20_eq]
  simp only [hr1, hc1, hc3, Int.toNat_natCast, toList_beq, tb_row a b (show r + 1 ≤ a.length by omega), tb_row a b hi, g1, g2, hv, L1, L2, L3]
  clear hr1 hc1 hc3 hv
  simp (disch := omega) only [bifT, bif2T]
  by_cases e : a.getD r em = b.getD c em
  · rw [bifT e]
    by_cases m : tv a b (r + 1) (c + 1) + 1 = tv a b i j
    · rw [bifT (by omega)]; exact k1 ⟨e, m⟩
    · rw [bifF (by omega)]; exact k0 (fun h => m h.2)
  · rw [bifF e]; exact k0 (fun h => e h.1)
theorem sp_any (r : Nat) (hr : i ≤ r) (hr2 : r < a.length) (k : ∀ x y, spec_l3Pairs.l14 a b (tbl a b) acc (i : Int) (j : Int) x y ((r : Int) - 1) = some R) :
    ∀ (c : Nat), c ≤ b.length → ∀ x y, spec_l3Pairs.l20 a b (tbl a b) acc (i : Int) (j : Int) x y (r : Int) ((c : Int) - 1) = some R := by
  intro c
  induction c with
  | zero => intro hc x y; exact sp_end a b ha hb i j hi hj acc R r 0 hr hr2 x y (by omega) (k x y)
  | succ c ih =>
    intro hc x y
    by_cases g : j ≤ c
    · exact sp_step a b ha hb i j hi hj acc R r c hr hr2 g (by omega) x y (fun _ => ih (by omega) _ _) (fun _ => ih (by omega) _ _)
    · exact sp_end a b ha hb i j hi hj acc R r (c + 1) hr hr2 x y (by omega) (k x y)
theorem sp_no (r : Nat) (hr : i ≤ r) (hr2 : r < a.length) (x y : Int) (k : spec_l3Pairs.l14 a b (tbl a b) acc (i : Int) (j : Int) x y ((r : Int) - 1) = some R) :
    ∀ (c : Nat), c ≤ b.length → (∀ q, j ≤ q → q < c → ¬ Mt a b i j r q) → spec_l3Pairs.l20 a b (tbl a b) acc (i : Int) (j : Int) x y (r : Int) ((c : Int) - 1) = some R := by
  intro c
  induction c with
  | zero => intro hc hn; exact sp_end a b ha hb i j hi hj acc R r 0 hr hr2 x y (by omega) k
  | succ c ih =>
    intro hc hn
    by_cases g : j ≤ c
    · exact sp_step a b ha hb i j hi hj acc R r c hr hr2 g (by omega) x y (fun h => absurd h (hn c g (by omega))) (fun _ => ih (by omega) (fun q h1 h2 => hn q h1 (by omega)))
    · exact sp_end a b ha hb i j hi hj acc R r (c + 1) hr hr2 x y (by omega) k
theorem sp_l1 (r : Nat) (hr : i ≤ r) (hr2 : r < a.length) (x y : Int) (k : spec_l3Pairs.l20 a b (tbl a b) acc (i : Int) (j : Int) x y (r : Int) ((b.length : Int) - 1) = some R) :
    spec_l3Pairs.l14 a b (tbl a b) acc (i : Int) (j : Int) x y (((r + 1 : Nat) : Int) - 1) = some R := by
  have _ := ha
  have _ := hi
  have _ := hj
  have e0 : ((r + 1 : Nat) : Int) - 1 = (r : Int) := by omega
  rw [e0]
  have hw : w64 ((b.length : Int) - 1) = (b.length : Int) - 1 := w64_id (by omega) (by omega)
  rw [spec_l3Pairs.l14_eq, bifT (by omega), hw]
  exact k
theorem sp_pair (p q : Nat) (hL : Lst a b i j p q) (hacc : acc.length ≤ 100000) (k : spec_l3Pairs.l8 a b (tbl a b) (acc ++ [((p : Int), (q : Int))]) ((p + 1 : Nat) : Int) ((q + 1 : Nat) : Int) = some R) :
    spec_l3Pairs.l8 a b (tbl a b) acc (i : Int) (j : Int) = some R := by
  obtain ⟨hip, hpa, hjq, hqb, hm, hrow, hcol⟩ := hL
  have st3 : ∀ d, d ≤ p → i ≤ d → spec_l3Pairs.l14 a b (tbl a b) acc (i : Int) (j : Int) (p : Int) (q : Int) ((d : Int) - 1) = some R := by
    intro d
    induction d with
    | zero =>
      intro h1 h2
      have hp1 := up1 (i := p) (by omega)
      have hq1 := up1 (i := q) (by omega)
      rw [spec_l3Pairs.l14_eq]
      simp only [hp1, hq1, room16]
      rw [bifF (by omega), bifT (by simp; omega)]
      exact k
    | succ d ih =>
      intro h1 h2
      by_cases g : i ≤ d
      · exact sp_l1 a b ha hb i j hi hj acc R d g (by omega) _ _ (sp_no a b ha hb i j hi hj acc R d g (by omega) _ _ (ih (by omega) g) b.length (Nat.le_refl _) (fun q' h3 h4 => hrow d q' g (by omega) h3 h4))
      · have hp1 := up1 (i := p) (by omega)
        have hq1 := up1 (i := q) (by omega)
        rw [spec_l3Pairs.l14_eq]
        simp only [hp1, hq1, room16]
        rw [bifF (by omega), bifT (by simp; omega)]
        exact k
  have st2 : ∀ c, q + 1 ≤ c → c ≤ b.length → ∀ x y, spec_l3Pairs.l20 a b (tbl a b) acc (i : Int) (j : Int) x y (p : Int) ((c : Int) - 1) = some R := by
    intro c
    induction c with
    | zero => intro h1; omega
    | succ c ih =>
      intro h1 h2 x y
      by_cases g : c = q
      · subst g
        exact sp_step a b ha hb i j hi hj acc R p c hip hpa hjq hqb x y (fun _ => sp_no a b ha hb i j hi hj acc R p hip hpa _ _ (st3 p (Nat.le_refl _) hip) c (by omega) (fun q' h3 h4 => hcol q' h3 h4)) (fun h => absurd hm h)
      · exact sp_step a b ha hb i j hi hj acc R p c hip hpa (by omega) (by omega) x y (fun _ => ih (by omega) (by omega) _ _) (fun _ => ih (by omega) (by omega) _ _)
  have st1 : ∀ d, p + 1 ≤ d → d ≤ a.length → ∀ x y, spec_l3Pairs.l14 a b (tbl a b) acc (i : Int) (j : Int) x y ((d : Int) - 1) = some R := by
    intro d
    induction d with
    | zero => intro h1; omega
    | succ d ih =>
      intro h1 h2 x y
      by_cases g : d = p
      · subst g
        exact sp_l1 a b ha hb i j hi hj acc R d hip hpa x y (st2 b.length (by omega) (Nat.le_refl _) x y)
      · exact sp_l1 a b ha hb i j hi hj acc R d (by omega) (by omega) x y (sp_any a b ha hb i j hi hj acc R d (by omega) (by omega) (fun x y => ih (by omega) (by omega) x y) b.length (Nat.le_refl _) x y)
  have hw : w64 ((a.length : Int) - 1) = (a.length : Int) - 1 := w64_id (by omega) (by omega)
  have L1 := tbl_len a b
  have L3 := trow_len a b i
  have hpos : 0 < tv a b i j := by have := hm.2; omega
  have g2 := trow_get a b i (j := j) hj
  rw [spec_l3Pairs.l8_eq]
  simp only [hw, Int.toNat_natCast, tb_row a b hi, g2, L1, L3]
  rw [bif2T (by omega) (by omega), bif2T (by omega) (by omega), bifT (by omega)]
  exact st1 a.length (by omega) (Nat.le_refl _) _ _
end
theorem sPairs (a b : T) (ha : a.length ≤ 1000) (hb : b.length ≤ 1000) : ∀ (l : List (Nat × Nat)) (i j : Nat) (acc : List P2), i ≤ a.length → j ≤ b.length → acc.length + l.length ≤ 10000 → PR a b i j l →
    spec_l3Pairs.l8 a b (tbl a b) acc (i : Int) (j : Int) = some (acc ++ cvS l) := by
  intro l
  induction l with
  | nil =>
    intro i j acc hi hj hl h
    have h0 : tv a b i j = 0 := h
    have L1 := tbl_len a b
    have L3 := trow_len a b i
    have g2 := trow_get a b i (j := j) hj
    rw [spec_l3Pairs.l8_eq]
    simp only [Int.toNat_natCast, tb_row a b hi, g2, L1, L3]
    rw [bif2T (by omega) (by omega), bif2T (by omega) (by omega), bifF (by omega)]
    simp [cvS]
  | cons p l ih =>
    obtain ⟨p, q⟩ := p
    intro i j acc hi hj hl h
    rw [List.length_cons] at hl
    have h1 := h.1.hpa
    have h2 := h.1.hqb
    refine sp_pair a b ha hb i j hi hj acc _ p q h.1 (by omega) ?_
    rw [ih (p + 1) (q + 1) (acc ++ [((p : Int), (q : Int))]) (by omega) (by omega) (by simp; omega) h.2, List.append_assoc]; rfl
section
variable (a b : T) (ha : a.length ≤ 1000) (hb : b.length ≤ 1000) (i j : Nat) (hi : i ≤ a.length) (hj : j ≤ b.length) (acc : Tb) (R : Tb)
include ha hb hi hj
theorem ip_step (r c : Nat) (hr : i ≤ r) (hr2 : r < a.length) (hc : j ≤ c) (hc2 : c < b.length) (hpos : 0 < tv a b i j) (hacc : acc.length ≤ 100000)
    (k1 : Mt a b i j r c → impl_commonLines.l8 a b (tbl a b) (acc ++ [[(r : Int), (c : Int)]]) ((c + 1 : Nat) : Int) ((tv a b i j : Int) - 1) (a.length : Int) ((r + 1 : Nat) : Int) = some R)
    (k0 : ¬ Mt a b i j r c → impl_commonLines.l14 a b (tbl a b) acc (j : Int) (tv a b i j : Int) (r : Int) ((c + 1 : Nat) : Int) (a.length : Int) (r : Int) = some R) :
    impl_commonLines.l14 a b (tbl a b) acc (j : Int) (tv a b i j : Int) (r : Int) (c : Int) (a.length : Int) (r : Int) = some R := by
  have _ := hi
  have _ := hj
  have hr1 : w64 ((r : Int) + 1) = ((r + 1 : Nat) : Int) := up1 (by omega)
  have hc1 : w64 ((c : Int) + 1) = ((c + 1 : Nat) : Int) := up1 (by omega)
  have hb1 := tv_le a b i j
  have hv : w64 ((tv a b i j : Int) - 1) = (tv a b i j : Int) - 1 := w64_id (by omega) (by omega)
  have L1 := tbl_len a b
  have L2 := trow_len a b (r + 1)
  have g1 := trow_get a b (r + 1) (j := c + 1) (by omega)
  rw [impl_commonLines.l14_eq, bifT (by omega), bifT (by omega), impl_commonLines.l19_eq]
  simp only [hr1, hc1, hv, Int.toNat_natCast, toList_beq, tb_row a b (show r + 1 ≤ a.length by omega), g1, L1, L2, room24]
  clear hr1 hc1 hv
  rw [bif2T (by omega) (by omega), bif2T (by omega) (by omega)]
  by_cases e : a.getD r em = b.getD c em
  · rw [bifT e, bif2T (by omega) (by omega), bif2T (by omega) (by omega)]
    by_cases m : tv a b (r + 1) (c + 1) + 1 = tv a b i j
    · rw [bifT (by omega), bifT (by simp; omega)]; exact k1 ⟨e, m⟩
    · rw [bifF (by omega)]; exact k0 (fun h => m h.2)
  · rw [bifF e]; exact k0 (fun h => e h.1)
theorem ip_next (r : Nat) (hr2 : r < a.length) (k : impl_commonLines.l8 a b (tbl a b) acc (j : Int) (tv a b i j : Int) (a.length : Int) ((r + 1 : Nat) : Int) = some R) :
    impl_commonLines.l14 a b (tbl a b) acc (j : Int) (tv a b i j : Int) (r : Int) (b.length : Int) (a.length : Int) (r : Int) = some R := by
  have _ := hb
  have _ := hi
  have _ := hj
  have hr1 : w64 ((r : Int) + 1) = ((r + 1 : Nat) : Int) := up1 (by omega)
  rw [impl_commonLines.l14_eq, bifF (by omega), hr1]; exact k
theorem ip_no (r : Nat) (hr : i ≤ r) (hr2 : r < a.length) (hpos : 0 < tv a b i j) (hacc : acc.length ≤ 100000) (k : impl_commonLines.l8 a b (tbl a b) acc (j : Int) (tv a b i j : Int) (a.length : Int) ((r + 1 : Nat) : Int) = some R)
    (hn : ∀ q, j ≤ q → q < b.length → ¬ Mt a b i j r q) : ∀ (d c : Nat), b.length - c = d → j ≤ c → c ≤ b.length → impl_commonLines.l14 a b (tbl a b) acc (j : Int) (tv a b i j : Int) (r : Int) (c : Int) (a.length : Int) (r : Int) = some R := by
  intro d
  induction d with
  | zero =>
    intro c hd h1 h2
    obtain rfl : c = b.length := by omega
    exact ip_next a b ha hb i j hi hj acc R r hr2 k
  | succ d ih =>
    intro c hd h1 h2
    exact ip_step a b ha hb i j hi hj acc R r c hr hr2 h1 (by omega) hpos hacc (fun h => absurd h (hn c h1 (by omega))) (fun _ => ih (c + 1) (by omega) (by omega) (by omega))
theorem ip_hit (p q : Nat) (hL : Lst a b i j p q) (hpos : 0 < tv a b i j) (hacc : acc.length ≤ 100000)
    (k : impl_commonLines.l8 a b (tbl a b) (acc ++ [[(p : Int), (q : Int)]]) ((q + 1 : Nat) : Int) ((tv a b i j : Int) - 1) (a.length : Int) ((p + 1 : Nat) : Int) = some R) :
    ∀ (d c : Nat), q - c = d → j ≤ c → c ≤ q → impl_commonLines.l14 a b (tbl a b) acc (j : Int) (tv a b i j : Int) (p : Int) (c : Int) (a.length : Int) (p : Int) = some R := by
  intro d
  have h5 := hL.hqb
  induction d with
  | zero =>
    intro c hd h1 h2
    obtain rfl : c = q := by omega
    exact ip_step a b ha hb i j hi hj acc R p c hL.hip hL.hpa h1 h5 hpos hacc (fun _ => k) (fun h => absurd hL.hm h)
  | succ d ih =>
    intro c hd h1 h2
    exact ip_step a b ha hb i j hi hj acc R p c hL.hip hL.hpa h1 (by omega) hpos hacc (fun h => absurd h (hL.hcol c h1 (by omega))) (fun _ => ih (c + 1) (by omega) (by omega) (by omega))
theorem ip_rows (p q : Nat) (hL : Lst a b i j p q) (hpos : 0 < tv a b i j) (hacc : acc.length ≤ 100000)
    (k : impl_commonLines.l8 a b (tbl a b) (acc ++ [[(p : Int), (q : Int)]]) ((q + 1 : Nat) : Int) ((tv a b i j : Int) - 1) (a.length : Int) ((p + 1 : Nat) : Int) = some R) :
    ∀ (d r : Nat), p - r = d → i ≤ r → r ≤ p → impl_commonLines.l8 a b (tbl a b) acc (j : Int) (tv a b i j : Int) (a.length : Int) (r : Int) = some R := by
  intro d
  have h5 := hL.hpa
  have h6 := hL.hjq
  induction d with
  | zero =>
    intro r hd h1 h2
    obtain rfl : r = p := by omega
    rw [impl_commonLines.l8_eq, bifT (by omega)]
    exact ip_hit a b ha hb i j hi hj acc R r q hL hpos hacc k (q - j) j rfl (Nat.le_refl _) h6
  | succ d ih =>
    intro r hd h1 h2
    rw [impl_commonLines.l8_eq, bifT (by omega)]
    exact ip_no a b ha hb i j hi hj acc R r h1 (by omega) hpos hacc (ih (r + 1) (by omega) (by omega) (by omega)) (fun q' h3 h4 => hL.hrow r q' h1 (by omega) h3 h4) (b.length - j) j rfl (Nat.le_refl _) hj
theorem ip_zero (h0 : tv a b i j = 0) : ∀ (d r : Nat), a.length - r = d → r ≤ a.length → impl_commonLines.l8 a b (tbl a b) acc (j : Int) (tv a b i j : Int) (a.length : Int) (r : Int) = some acc := by
  have _ := hb
  have _ := hi
  have _ := hj
  intro d
  induction d with
  | zero =>
    intro r hd h1
    rw [impl_commonLines.l8_eq]
    rw [bifF (by omega)]
  | succ d ih =>
    intro r hd h1
    have hr1 : w64 ((r : Int) + 1) = ((r + 1 : Nat) : Int) := up1 (by omega)
    have h := ih (r + 1) (by omega) (by omega)
    rw [impl_commonLines.l8_eq, bifT (by omega), impl_commonLines.l14_eq]
    by_cases hjb : (j : Int) < (b.length : Int)
    · rw [bifT hjb, bifF (by omega), hr1]; exact h
    · rw [bifF hjb, hr1]; exact h
end
theorem iPairs (a b : T) (ha : a.length ≤ 1000) (hb : b.length ≤ 1000) : ∀ (l : List (Nat × Nat)) (i j : Nat) (acc : Tb), i ≤ a.length → j ≤ b.length → acc.length + l.length ≤ 10000 → PR a b i j l →
    impl_commonLines.l8 a b (tbl a b) acc (j : Int) (tv a b i j : Int) (a.length : Int) (i : Int) = some (acc ++ cvI l) := by
  intro l
  induction l with
  | nil =>
    intro i j acc hi hj hl h
    rw [ip_zero a b ha hb i j hi hj acc h (a.length - i) i rfl hi]; simp [cvI]
  | cons p l ih =>
    obtain ⟨p, q⟩ := p
    intro i j acc hi hj hl h
    rw [List.length_cons] at hl
    have h1 := h.1.hpa
    have h2 := h.1.hqb
    have h3 := h.1.hm.2
    have kk := ih (p + 1) (q + 1) (acc ++ [[(p : Int), (q : Int)]]) (by omega) (by omega) (by simp; omega) h.2
    rw [show (tv a b (p + 1) (q + 1) : Int) = (tv a b i j : Int) - 1 by omega] at kk
    rw [ip_rows a b ha hb i j hi hj acc _ p q h.1 (by omega) (by omega) kk (p - i) i rfl (Nat.le_refl _) h.1.hip, List.append_assoc]; rfl
theorem pairs_both (a b : T) (ha : a.length ≤ 1000) (hb : b.length ≤ 1000) : ∃ l, PR a b 0 0 l ∧ l.length ≤ 1000 ∧ spec_l3Pairs.f a b = some (cvS l) ∧ impl_commonLines.f a b = some (cvI l) := by
  obtain ⟨l, hl, hn⟩ := ex_PR a b a.length 0 0 (by omega)
  refine ⟨l, hl, by omega, ?_, ?_⟩
  · rw [spec_l3Pairs.f_eq, sTable a b ha hb, sB]
    have := sPairs a b ha hb l 0 0 [] (by omega) (by omega) (by simp; omega) hl
    simpa using this
  · have L1 := tbl_len a b
    have L2 := trow_len a b 0
    have e1 : (tbl a b).getD 0 [] = trow a b 0 := tb_row a b (Nat.zero_le _)
    have e2 : (trow a b 0).getD 0 0 = (tv a b 0 0 : Int) := trow_get a b 0 (Nat.zero_le _)
    rw [impl_commonLines.f_eq, iTable a b ha hb, sB, e1, e2, bifT (by omega), bifT (by omega)]
    have := iPairs a b ha hb l 0 0 [] (by omega) (by omega) (by simp; omega) hl
    simpa using this
theorem cloneI (l : Tb) (h : l.length ≤ 1048576) : slices_Clone_LLint_Lint.f l = some l := by
  show clone1 24 l = _
  rw [clone1, room24, bifT (by omega)]
/-- Hunks between pairs of places. -/
def jm (b : T) : Nat → Nat → List (Nat × Nat) → List Hk
  | _, _, [] => []
  | i, j, (p, q) :: l => (if i < p ∨ j < q then [((i : Int), (p : Int) - (i : Int), (b.take q).drop j)] else []) ++ jm b (p + 1) (q + 1) l
theorem jm_cons (b : T) (i j p q : Nat) (l : List (Nat × Nat)) : jm b i j ((p, q) :: l) = (if i < p ∨ j < q then [((i : Int), (p : Int) - (i : Int), (b.take q).drop j)] else []) ++ jm b (p + 1) (q + 1) l := rfl
theorem jm_bound (b : T) : ∀ (l : List (Nat × Nat)) (i j : Nat), (jm b i j l).length ≤ l.length ∧ ∀ h ∈ jm b i j l, h.2.2.length ≤ b.length
  | [], _, _ => ⟨Nat.le_refl _, fun h hh => by simp [jm] at hh⟩
  | (p, q) :: l, i, j => by
    obtain ⟨h1, h2⟩ := jm_bound b l (p + 1) (q + 1)
    rw [jm_cons]
    split
    · refine ⟨by simp; omega, fun h hh => ?_⟩
      simp only [List.singleton_append, List.mem_cons] at hh
      rcases hh with rfl | hh
      · simp only [List.length_drop, List.length_take]; omega
      · exact h2 h hh
    · refine ⟨by simp; omega, fun h hh => ?_⟩
      simp only [List.nil_append] at hh
      exact h2 h hh
theorem jm_mem (b : T) : ∀ (l : List (Nat × Nat)) (i j : Nat), ∀ h ∈ jm b i j l, ∀ s ∈ h.2.2, s ∈ b
  | [], _, _, h, hh => by simp [jm] at hh
  | (p, q) :: l, i, j, h, hh => by
    rw [jm_cons] at hh
    rcases List.mem_append.1 hh with hh | hh
    · split at hh
      · simp only [List.mem_singleton] at hh
        subst hh
        exact fun s hs => List.mem_of_mem_take (List.mem_of_mem_drop hs)
      · simp at hh
    · exact jm_mem b l _ _ h hh
def Ch (la lb : Nat) : Nat → Nat → List (Nat × Nat) → Prop
  | _, _, [] => True
  | i, j, (p, q) :: l => i ≤ p ∧ j ≤ q ∧ p ≤ la ∧ q ≤ lb ∧ Ch la lb (p + 1) (q + 1) l
theorem ch_of (a b : T) : ∀ (l : List (Nat × Nat)) (i j : Nat), i ≤ a.length → j ≤ b.length → PR a b i j l → Ch a.length b.length i j (l ++ [(a.length, b.length)]) := by
  intro l
  induction l with
  | nil => intro i j hi hj h; exact ⟨hi, hj, Nat.le_refl _, Nat.le_refl _, trivial⟩
  | cons p l ih =>
    obtain ⟨p, q⟩ := p
    intro i j hi hj h
    have h1 := h.1.hpa
    have h2 := h.1.hqb
    exact ⟨h.1.hip, h.1.hjq, by omega, by omega, ih (p + 1) (q + 1) (by omega) (by omega) h.2⟩
theorem cvS_get (pre : List (Nat × Nat)) (p q : Nat) (l : List (Nat × Nat)) : (cvS (pre ++ (p, q) :: l)).getD pre.length (0, 0) = ((p : Int), (q : Int)) := by
  unfold cvS
  simp [List.getD_eq_getElem?_getD]
theorem cvI_get (pre : List (Nat × Nat)) (p q : Nat) (l : List (Nat × Nat)) : (cvI (pre ++ (p, q) :: l)).getD pre.length [] = [(p : Int), (q : Int)] := by
  unfold cvI
  simp [List.getD_eq_getElem?_getD]
theorem cvS_len (l : List (Nat × Nat)) : (cvS l).length = l.length := by simp [cvS]
theorem cvI_len (l : List (Nat × Nat)) : (cvI l).length = l.length := by simp [cvI]
section
variable (b : T) (la : Nat) (hla : la ≤ 1000) (hb : b.length ≤ 1000) (full : List (Nat × Nat)) (hf : full.length ≤ 10000)
include hla hb hf
theorem sJoin_l0 : ∀ (rest pre : List (Nat × Nat)) (acc : List Hk) (i j : Nat), full = pre ++ rest → Ch la b.length i j rest → acc.length + rest.length ≤ 100000 → i ≤ la + 1 → j ≤ b.length + 1 →
    spec_l2Join.l8 b acc (i : Int) (j : Int) (cvS full) (full.length : Int) (pre.length : Int) = some (acc ++ jm b i j rest) := by
  intro rest
  induction rest with
  | nil =>
    intro pre acc i j hfull hc ha hi hj
    have e : full.length = pre.length := by rw [hfull]; simp
    rw [spec_l2Join.l8_eq, bifF (by omega)]
    simp [jm]
  | cons p rest ih =>
    obtain ⟨p, q⟩ := p
    intro pre acc i j hfull hc ha hi hj
    obtain ⟨h1, h2, h3, h4, hc⟩ := hc
    have e : full.length = pre.length + (rest.length + 1) := by rw [hfull]; simp
    rw [List.length_cons] at ha
    have hg := cvS_get pre p q rest
    rw [← hfull] at hg
    have nx : ∀ acc2 : List Hk, acc2.length ≤ acc.length + 1 → spec_l2Join.l17 b acc2 ((p : Int), (q : Int)) (cvS full) (full.length : Int) (pre.length : Int) = some (acc2 ++ jm b (p + 1) (q + 1) rest) := by
      intro acc2 h5
      have := ih (pre ++ [(p, q)]) acc2 (p + 1) (q + 1) (by rw [hfull, List.append_assoc]; rfl) hc (by omega) (by omega) (by omega)
      rw [List.length_append, List.length_singleton] at this
      rw [spec_l2Join.l17_eq]
      simp only
      rw [up1 (by omega), up1 (by omega), up1 (by omega)]
      exact this
    have ho := ownT ((b.take q).drop j) (by rw [List.length_drop, List.length_take]; omega)
    have hL := cvS_len full
    have w : w64 ((p : Int) - (i : Int)) = (p : Int) - (i : Int) := w64_id (by omega) (by omega)
    rw [spec_l2Join.l8_eq]
    simp only [Int.toNat_natCast, hg, w, hL, room40, ho, sB, List.length_append, List.length_singleton]
    rw [bifT (by omega), bif2T (by omega) (by omega)]
    by_cases c1 : i < p
    · rw [bifT (by omega), bif3T (by omega) (by omega) (by omega), bifT (by omega), nx _ (by simp), List.append_assoc, jm_cons, if_pos (Or.inl c1)]
    · rw [bifF (by omega)]
      by_cases c2 : j < q
      · rw [bifT (by omega), bif3T (by omega) (by omega) (by omega), bifT (by omega), nx _ (by simp), List.append_assoc, jm_cons, if_pos (Or.inr c2)]
      · rw [bifF (by omega), nx _ (by omega), jm_cons, if_neg (show ¬ (i < p ∨ j < q) by omega), List.nil_append]
theorem iJoin_l0 : ∀ (rest pre : List (Nat × Nat)) (acc : List Hk) (i j : Nat), full = pre ++ rest → Ch la b.length i j rest → acc.length + rest.length ≤ 100000 → i ≤ la + 1 → j ≤ b.length + 1 →
    impl_between.l6 b acc (i : Int) (j : Int) (cvI full) (full.length : Int) (pre.length : Int) = some (acc ++ jm b i j rest) := by
  intro rest
  induction rest with
  | nil =>
    intro pre acc i j hfull hc ha hi hj
    have e : full.length = pre.length := by rw [hfull]; simp
    rw [impl_between.l6_eq, bifF (by omega)]
    simp [jm]
  | cons p rest ih =>
    obtain ⟨p, q⟩ := p
    intro pre acc i j hfull hc ha hi hj
    obtain ⟨h1, h2, h3, h4, hc⟩ := hc
    have e : full.length = pre.length + (rest.length + 1) := by rw [hfull]; simp
    rw [List.length_cons] at ha
    have hg := cvI_get pre p q rest
    rw [← hfull] at hg
    have g0 : ([(p : Int), (q : Int)] : List Int).getD 0 0 = (p : Int) := rfl
    have g1 : ([(p : Int), (q : Int)] : List Int).getD 1 0 = (q : Int) := rfl
    have g2 : (([(p : Int), (q : Int)] : List Int).length : Int) = 2 := rfl
    have nx : ∀ acc2 : List Hk, acc2.length ≤ acc.length + 1 → impl_between.l15 b acc2 [(p : Int), (q : Int)] (cvI full) (full.length : Int) (pre.length : Int) = some (acc2 ++ jm b (p + 1) (q + 1) rest) := by
      intro acc2 h5
      have := ih (pre ++ [(p, q)]) acc2 (p + 1) (q + 1) (by rw [hfull, List.append_assoc]; rfl) hc (by omega) (by omega) (by omega)
      rw [List.length_append, List.length_singleton] at this
      rw [impl_between.l15_eq, g0, g1, g2, bifT (by omega), bifT (by omega), up1 (by omega), up1 (by omega), up1 (by omega)]
      exact this
    have ho := cloneT ((b.take q).drop j) (by rw [List.length_drop, List.length_take]; omega)
    have hL := cvI_len full
    have w : w64 ((p : Int) - (i : Int)) = (p : Int) - (i : Int) := w64_id (by omega) (by omega)
    rw [impl_between.l6_eq]
    simp only [Int.toNat_natCast, hg, g0, g1, g2, w, hL, room40, ho, sB, List.length_append, List.length_singleton]
    rw [bifT (by omega), bif2T (by omega) (by omega), bifT (by omega)]
    by_cases c1 : i < p
    · rw [bifT (by omega), bifT (by omega), bifT (by omega), bif3T (by omega) (by omega) (by omega), bifT (by omega), nx _ (by simp), List.append_assoc, jm_cons, if_pos (Or.inl c1)]
    · rw [bifF (by omega), bifT (by omega)]
      by_cases c2 : j < q
      · rw [bifT (by omega), bifT (by omega), bifT (by omega), bif3T (by omega) (by omega) (by omega), bifT (by omega), nx _ (by simp), List.append_assoc, jm_cons, if_pos (Or.inr c2)]
      · rw [bifF (by omega), nx _ (by omega), jm_cons, if_neg (show ¬ (i < p ∨ j < q) by omega), List.nil_append]
end
theorem diff_jm (a b : T) (ha : a.length ≤ 1000) (hb : b.length ≤ 1000) : ∃ l : List (Nat × Nat), PR a b 0 0 l ∧ l.length ≤ 1000 ∧ spec_l3Diff.f a b = some (jm b 0 0 (l ++ [(a.length, b.length)])) ∧ impl_diff.f a b = some (jm b 0 0 (l ++ [(a.length, b.length)])) := by
  obtain ⟨l, hl, hn, hs, hi⟩ := pairs_both a b ha hb
  have hc := ch_of a b l 0 0 (by omega) (by omega) hl
  have hlen : (l ++ [(a.length, b.length)]).length = l.length + 1 := by simp
  have hf : (l ++ [(a.length, b.length)]).length ≤ 10000 := by omega
  have L1 := cvS_len l
  have L2 := cvI_len l
  refine ⟨l, hl, hn, ?_, ?_⟩
  · have e : cvS l ++ [((a.length : Int), (b.length : Int))] = cvS (l ++ [(a.length, b.length)]) := by simp [cvS]
    rw [spec_l3Diff.f_eq, hs, sB, spec_l2Join.f_eq, e, room16, bifT (by simp only [List.length_singleton]; omega), cvS_len]
    exact bindEq (sJoin_l0 b a.length ha hb _ hf (l ++ [(a.length, b.length)]) [] [] 0 0 rfl hc (by rw [List.length_nil]; omega) (by omega) (by omega)) rfl
  · have e : cvI l ++ [([(a.length : Int), (b.length : Int)] : List Int)] = cvI (l ++ [(a.length, b.length)]) := by simp [cvI]
    rw [impl_diff.f_eq, hi, sB, impl_between.f_eq, cloneI (cvI l) (by omega), sB, e, room24, bifT (by simp only [List.length_singleton]; omega), cvI_len]
    exact bindEq (iJoin_l0 b a.length ha hb _ hf (l ++ [(a.length, b.length)]) [] [] 0 0 rfl hc (by rw [List.length_nil]; omega) (by omega) (by omega)) rfl
/-- the hunks between two lists of lines -/
noncomputable def dif (a b : T) : List Hk := (spec_l3Diff.f a b).getD []
theorem dif_eq (a b : T) (ha : a.length ≤ 1000) (hb : b.length ≤ 1000) : ∃ l : List (Nat × Nat), PR a b 0 0 l ∧ l.length ≤ 1000 ∧ dif a b = jm b 0 0 (l ++ [(a.length, b.length)]) ∧ spec_l3Diff.f a b = some (dif a b) ∧ impl_diff.f a b = some (dif a b) := by
  obtain ⟨l, hl, hn, hs, hi⟩ := diff_jm a b ha hb
  have e : dif a b = jm b 0 0 (l ++ [(a.length, b.length)]) := by unfold dif; rw [hs]; rfl
  exact ⟨l, hl, hn, e, by rw [e]; exact hs, by rw [e]; exact hi⟩
/-- one hunk stands within -/
def okP (many : Int) (x : Hk) : Prop := 0 ≤ x.1 ∧ 0 ≤ x.2.1 ∧ x.1 + x.2.1 ≤ many
instance (many : Int) (x : Hk) : Decidable (okP many x) := by unfold okP; exact inferInstance
def oneB (many pe : Int) (x : Hk) : Bool := decide (okP many x ∧ ¬ (x.2.1 = 0 ∧ x.2.2.length = 0) ∧ x.2.2.length ≤ 40 ∧ pe < x.1) && allLines x.2.2
def hunksB (many : Int) : Int → List Hk → Bool
  | _, [] => true
  | pe, x :: r => oneB many pe x && hunksB many (x.1 + x.2.1) r
def peOf (h : List Hk) (i : Nat) : Int := if i = 0 then -1 else (h.getD (i - 1) hz).1 + (h.getD (i - 1) hz).2.1
/-- of a size that is let through -/
def HkSm (g : List Hk) : Prop := g.length ≤ 1048576 ∧ ∀ h ∈ g, Sm h.2.2
theorem pe_succ (h : List Hk) (i : Nat) : peOf h (i + 1) = (h.getD i hz).1 + (h.getD i hz).2.1 := by unfold peOf; rw [if_neg (by omega)]; rfl
theorem hB_step (many : Int) (h : List Hk) {i : Nat} (hi : i < h.length) : hunksB many (peOf h i) (h.drop i) = (oneB many (peOf h i) (h.getD i hz) && hunksB many (peOf h (i + 1)) (h.drop (i + 1))) := by
  rw [drop_at hi hz, pe_succ]; rfl
theorem sHunks (many : Int) (h : List Hk) (h0 : 0 ≤ many) (h1 : many ≤ 1048576) (hs : HkSm h) : spec_l2Hunks.f many h = some (hunksB many (-1) h && (decide (h.length ≤ 20) && decide (many ≤ 40))) := by
  have hL := hs.1
  have lines : ∀ (l : T), Sm l → ∀ (i : Nat) (R : Bool), i < h.length → spec_l2Hunks.l4 many h h (h.length : Int) ((i + 1 : Nat) : Int) = some R → ∀ k, k ≤ l.length → spec_l2Hunks.l14 many h h (h.length : Int) (i : Int) l (l.length : Int) (k : Int) = some (allLines (l.drop k) && R) := by
    intro l hl i R hi hR
    have hl1 := hl.1
    apply downTo
    · rw [spec_l2Hunks.l14_eq, bifF (by omega), up1 (by omega), hR, List.drop_eq_nil_of_le (by omega)]; rfl
    · intro k hk ih
      rw [spec_l2Hunks.l14_eq, bifT (by omega), bif2T (by omega) (by omega), up1 (i := k) (by omega)]
      simp only [Int.toNat_natCast]
      rw [sLine _ (hl.2 _ (getD_mem hk em)), sB, ih, drop_at hk em, allLines_cons]
      by_cases hp : lineP (l.getD k em)
      · rw [bifNF hp, decide_eq_true hp, Bool.true_and]
      · rw [bifNT hp, decide_eq_false hp, Bool.false_and, Bool.false_and]
  have key : ∀ i, i ≤ h.length → (0 < i → okP many (h.getD (i - 1) hz)) → spec_l2Hunks.l4 many h h (h.length : Int) (i : Int) = some (hunksB many (peOf h i) (h.drop i) && (decide (h.length ≤ 20) && decide (many ≤ 40))) := by
    apply downTo
    · intro _
      rw [spec_l2Hunks.l4_eq, bifF (by omega), List.drop_eq_nil_of_le (by omega)]
      show _ = some (true && _)
      rw [Bool.true_and]
      by_cases hl : h.length ≤ 20
      · rw [bifT (by omega), sIn, sB, decide_eq_true hl, Bool.true_and]
        congr 1; rw [decide_eq_decide]; omega
      · rw [bifF (by omega), decide_eq_false hl]; rfl
    · intro i hi ih hprev
      have hsm := hs.2 _ (getD_mem hi hz)
      have hsl := hsm.1
      rw [hB_step many h hi, spec_l2Hunks.l4_eq, bifT (by omega), bif2T (by omega) (by omega)]
      obtain ⟨⟨x1, x2, x3⟩, hx⟩ : ∃ x : Hk, h.getD i (0, 0, []) = x := ⟨_, rfl⟩
      simp only [Int.toNat_natCast, hx]
      rw [show h.getD i hz = (x1, x2, x3) from hx] at hsm hsl
      simp only at hsm hsl
      have fl : ∀ {P : Prop}, ¬ (okP many (x1, x2, x3) ∧ ¬ (x2 = 0 ∧ x3.length = 0) ∧ x3.length ≤ 40 ∧ peOf h i < x1) → some false = some (oneB many (peOf h i) (x1, x2, x3) && hunksB many (peOf h (i + 1)) (h.drop (i + 1)) && (decide (h.length ≤ 20) && decide (many ≤ 40))) := by
        intro P hn
        unfold oneB
        rw [decide_eq_false hn, Bool.false_and, Bool.false_and, Bool.false_and]
      by_cases c1 : x1 < 0
      · rw [bifT c1]; exact fl (P := True) (by unfold okP; simp only; omega)
      rw [bifF c1]
      by_cases c2 : x2 < 0
      · rw [bifT c2]; exact fl (P := True) (by unfold okP; simp only; omega)
      rw [bifF c2]
      by_cases c3 : x2 > many
      · rw [bifT c3]; exact fl (P := True) (by unfold okP; simp only; omega)
      rw [bifF c3, w64_id (x := many - x2) (by omega) (by omega)]
      by_cases c4 : x1 > many - x2
      · rw [bifT c4]; exact fl (P := True) (by unfold okP; simp only; omega)
      rw [bifF c4, w64_id (x := x2 + (x3.length : Int)) (by omega) (by omega)]
      by_cases c5 : x2 + (x3.length : Int) = 0
      · rw [bifT c5]; exact fl (P := True) (by omega)
      rw [bifF c5]
      by_cases c6 : (x3.length : Int) > 40
      · rw [bifT c6]; exact fl (P := True) (by omega)
      rw [bifF c6]
      have hok : okP many (x1, x2, x3) := by unfold okP; simp only; omega
      have nxt := ih (fun _ => by rw [Nat.add_sub_cancel, show h.getD i hz = (x1, x2, x3) from hx]; exact hok)
      have go : peOf h i < x1 → spec_l2Hunks.l13 many h (x1, x2, x3) h (h.length : Int) (i : Int) = some (oneB many (peOf h i) (x1, x2, x3) && hunksB many (peOf h (i + 1)) (h.drop (i + 1)) && (decide (h.length ≤ 20) && decide (many ≤ 40))) := by
        intro hp
        rw [spec_l2Hunks.l13_eq]
        have := lines x3 hsm i _ hi nxt 0 (by omega)
        rw [List.drop_zero] at this
        refine this.trans ?_
        unfold oneB
        rw [decide_eq_true (show okP many (x1, x2, x3) ∧ ¬ (x2 = 0 ∧ x3.length = 0) ∧ x3.length ≤ 40 ∧ peOf h i < x1 from ⟨hok, by omega, by omega, hp⟩), Bool.true_and, Bool.and_assoc]
      by_cases c7 : (i : Int) > 0
      · have hpr := hprev (by omega)
        unfold okP at hpr
        have hd : w64 ((i : Int) - 1) = ((i - 1 : Nat) : Int) := dn1 (by omega) (by omega)
        have hpe : peOf h i = (h.getD (i - 1) hz).1 + (h.getD (i - 1) hz).2.1 := by unfold peOf; rw [if_neg (by omega)]
        have hw9 : w64 ((h.getD (i - 1) ((0, 0, []) : Hk)).1 + (h.getD (i - 1) ((0, 0, []) : Hk)).2.1) = peOf h i := by
          show w64 ((h.getD (i - 1) hz).1 + (h.getD (i - 1) hz).2.1) = _
          rw [hpe]; exact w64_id (by omega) (by omega)
        simp only [hd, Int.toNat_natCast, hw9]
        rw [bifT c7, bif2T (by omega) (by omega), bif2T (by omega) (by omega)]
        by_cases c8 : x1 ≤ peOf h i
        · rw [bifT c8]; exact fl (P := True) (by omega)
        · rw [bifF c8]; exact go (by omega)
      · rw [bifF c7]
        have : i = 0 := by omega
        exact go (by unfold peOf; rw [if_pos this]; omega)
  rw [spec_l2Hunks.f_eq]
  exact key 0 (by omega) (fun h => absurd h (Nat.lt_irrefl 0))
theorem iHunks (many : Int) (h : List Hk) (h0 : 0 ≤ many) (h1 : many ≤ 1048576) (hs : HkSm h) : impl_goodHunks.f many h = some (hunksB many (-1) h && (decide (h.length ≤ 20) && decide (many ≤ 40))) := by
  have hL := hs.1
  have key : ∀ i, i ≤ h.length → (0 < i → okP many (h.getD (i - 1) hz)) → impl_goodHunks.l8 many h h (h.length : Int) (i : Int) = some (hunksB many (peOf h i) (h.drop i)) := by
    apply downTo
    · intro _
      rw [impl_goodHunks.l8_eq, bifF (by omega), List.drop_eq_nil_of_le (by omega)]; rfl
    · intro i hi ih hprev
      have hsm := hs.2 _ (getD_mem hi hz)
      have hsl := hsm.1
      rw [hB_step many h hi, impl_goodHunks.l8_eq, bifT (by omega), bif2T (by omega) (by omega)]
      obtain ⟨⟨x1, x2, x3⟩, hx⟩ : ∃ x : Hk, h.getD i (0, 0, []) = x := ⟨_, rfl⟩
      simp only [Int.toNat_natCast, hx]
      rw [show h.getD i hz = (x1, x2, x3) from hx] at hsm hsl
      simp only at hsm hsl
      have fl : ∀ {P : Prop}, ¬ (okP many (x1, x2, x3) ∧ ¬ (x2 = 0 ∧ x3.length = 0) ∧ x3.length ≤ 40 ∧ peOf h i < x1) → some false = some (oneB many (peOf h i) (x1, x2, x3) && hunksB many (peOf h (i + 1)) (h.drop (i + 1))) := by
        intro P hn
        unfold oneB
        rw [decide_eq_false hn, Bool.false_and, Bool.false_and]
      rw [iIn, sB]
      by_cases c1 : 0 ≤ x1 ∧ x1 ≤ many
      case neg => rw [bifNT c1]; exact fl (P := True) (by unfold okP; simp only; omega)
      rw [bifNF c1, w64_id (x := many - x1) (by omega) (by omega), iIn, sB]
      by_cases c2 : 0 ≤ x2 ∧ x2 ≤ many - x1
      case neg => rw [bifNT c2]; exact fl (P := True) (by unfold okP; simp only; omega)
      rw [bifNF c2, iAre _ hsm, sB]
      have hok : okP many (x1, x2, x3) := by unfold okP; simp only; omega
      have nxt := ih (fun _ => by rw [Nat.add_sub_cancel, show h.getD i hz = (x1, x2, x3) from hx]; exact hok)
      by_cases c6 : x3.length ≤ 40
      case neg => rw [decide_eq_false c6, Bool.false_and, notF]; exact fl (P := True) (by omega)
      rw [decide_eq_true c6, Bool.true_and]
      cases hal : allLines x3 with
      | false => rw [notF]; unfold oneB; rw [hal, Bool.and_false, Bool.false_and]
      | true =>
        rw [notT]
        have one : ∀ (hp : ¬ (x2 = 0 ∧ x3.length = 0)), impl_goodHunks.l17 many h (i : Int) (x1, x2, x3) h (h.length : Int) (i : Int) = some (oneB many (peOf h i) (x1, x2, x3) && hunksB many (peOf h (i + 1)) (h.drop (i + 1))) := by
          intro hp
          rw [impl_goodHunks.l17_eq]
          by_cases c7 : (i : Int) > 0
          · have hpr := hprev (by omega)
            unfold okP at hpr
            have hd : w64 ((i : Int) - 1) = ((i - 1 : Nat) : Int) := dn1 (by omega) (by omega)
            have hpe : peOf h i = (h.getD (i - 1) hz).1 + (h.getD (i - 1) hz).2.1 := by unfold peOf; rw [if_neg (by omega)]
            have hw9 : w64 ((h.getD (i - 1) ((0, 0, []) : Hk)).1 + (h.getD (i - 1) ((0, 0, []) : Hk)).2.1) = peOf h i := by
              show w64 ((h.getD (i - 1) hz).1 + (h.getD (i - 1) hz).2.1) = _
              rw [hpe]; exact w64_id (by omega) (by omega)
            simp only [hd, Int.toNat_natCast, hw9]
            rw [bifT c7, bif2T (by omega) (by omega), bif2T (by omega) (by omega)]
            by_cases c8 : x1 ≤ peOf h i
            · rw [bifT c8]; exact fl (P := True) (by omega)
            · rw [bifF c8, up1 (by omega), nxt]
              unfold oneB
              rw [hal, decide_eq_true (show okP many (x1, x2, x3) ∧ ¬ (x2 = 0 ∧ x3.length = 0) ∧ x3.length ≤ 40 ∧ peOf h i < x1 from ⟨hok, hp, c6, by omega⟩)]; rfl
          · have hi0 : i = 0 := by omega
            have hp2 : peOf h i < x1 := by unfold peOf; rw [if_pos hi0]; omega
            rw [bifF c7, up1 (by omega), nxt]
            unfold oneB
            rw [hal, decide_eq_true (show okP many (x1, x2, x3) ∧ ¬ (x2 = 0 ∧ x3.length = 0) ∧ x3.length ≤ 40 ∧ peOf h i < x1 from ⟨hok, hp, c6, hp2⟩)]; rfl
        by_cases c9 : x2 = 0
        · rw [bifT c9]
          by_cases c10 : (x3.length : Int) = 0
          · rw [bifT c10]; exact fl (P := True) (by omega)
          · rw [bifF c10]; exact one (by omega)
        · rw [bifF c9]; exact one (by omega)
  rw [impl_goodHunks.f_eq, iIn, sB]
  by_cases hm : 0 ≤ many ∧ many ≤ 40
  · rw [bifNF hm, decide_eq_true (show many ≤ 40 from hm.2), Bool.and_true]
    by_cases hl : (h.length : Int) > 20
    · rw [bifT hl, decide_eq_false (show ¬ h.length ≤ 20 by omega), Bool.and_false]
    · rw [bifF hl, decide_eq_true (show h.length ≤ 20 by omega), Bool.and_true, impl_goodHunks.l7_eq]
      exact key 0 (by omega) (fun h => absurd h (Nat.lt_irrefl 0))
  · rw [bifNT hm, decide_eq_false (show ¬ many ≤ 40 by omega), Bool.and_false, Bool.and_false]
/-- what stands behind hunks, from a place on -/
def pat (l : T) : Nat → List Hk → T
  | k, [] => l.drop k
  | k, x :: r => ((l.take x.1.toNat).drop k ++ x.2.2) ++ pat l (x.1 + x.2.1).toNat r
/-- hunks are good for so many lines -/
def hunksG (many : Int) (h : List Hk) : Bool := hunksB many (-1) h && (decide (h.length ≤ 20) && decide (many ≤ 40))
def patchB (l : T) (h : List Hk) : T × Bool :=
  if goodB l = true ∧ hunksG (l.length : Int) h = true ∧ goodB (pat l 0 h) = true then (pat l 0 h, true) else ([], false)
theorem oneB_in {many pe : Int} {x : Hk} (h : oneB many pe x = true) : okP many x ∧ ¬ (x.2.1 = 0 ∧ x.2.2.length = 0) ∧ x.2.2.length ≤ 40 ∧ pe < x.1 ∧ allLines x.2.2 = true := by
  unfold oneB at h
  simp only [Bool.and_eq_true, decide_eq_true_eq] at h
  exact ⟨h.1.1, h.1.2.1, h.1.2.2.1, h.1.2.2.2, h.2⟩
theorem hunksB_cons {many pe : Int} {x : Hk} {r : List Hk} (h : hunksB many pe (x :: r) = true) : oneB many pe x = true ∧ hunksB many (x.1 + x.2.1) r = true := by
  have : (oneB many pe x && hunksB many (x.1 + x.2.1) r) = true := h
  rwa [Bool.and_eq_true] at this
theorem pat_len (l : T) (hl : l.length ≤ 40) : ∀ (r : List Hk) (k : Nat) (pe : Int), hunksB (l.length : Int) pe r = true → (pat l k r).length ≤ 40 + 80 * r.length
  | [], k, pe, _ => by rw [pat, List.length_drop]; simp only [List.length_nil]; omega
  | x :: r, k, pe, h => by
    obtain ⟨h1, h2⟩ := hunksB_cons h
    have h3 := oneB_in h1
    have := pat_len l hl r (x.1 + x.2.1).toNat _ h2
    rw [pat]
    simp only [List.length_append, List.length_drop, List.length_take, List.length_cons]
    omega
theorem pat_mem (l : T) : ∀ (r : List Hk) (k : Nat), ∀ s ∈ pat l k r, s ∈ l ∨ ∃ x ∈ r, s ∈ x.2.2
  | [], k, s, h => .inl (List.mem_of_mem_drop h)
  | x :: r, k, s, h => by
    rw [pat] at h
    rcases List.mem_append.1 h with h | h
    · rcases List.mem_append.1 h with h | h
      · exact .inl (List.mem_of_mem_take (List.mem_of_mem_drop h))
      · exact .inr ⟨x, by simp, h⟩
    · rcases pat_mem l r _ s h with h | ⟨y, hy, h⟩
      · exact .inl h
      · exact .inr ⟨y, by simp [hy], h⟩
theorem sPat (l : T) (hl : l.length ≤ 40) (h : List Hk) (hh : hunksB (l.length : Int) (-1) h = true) (h20 : h.length ≤ 20) : spec_l2Patch.f l h = some (pat l 0 h) := by
  have key : ∀ (rest pre : List Hk) (out : T) (k : Nat) (pe : Int), h = pre ++ rest → hunksB (l.length : Int) pe rest = true → (pe = -1 ∧ k = 0 ∨ pe = (k : Int)) → k ≤ l.length → out.length ≤ 80 * pre.length →
      spec_l2Patch.l8 l out (k : Int) h (h.length : Int) (pre.length : Int) = some (out ++ pat l k rest) := by
    intro rest
    induction rest with
    | nil =>
      intro pre out k pe hf hb hk hkl ho
      have hpl : h.length = pre.length := by rw [hf]; simp
      rw [spec_l2Patch.l8_eq, bifF (by omega), bif2T (by omega) (by omega), room16]
      simp only [Int.toNat_natCast]
      rw [bifT (by rw [List.length_drop]; omega)]; rfl
    | cons x r ih =>
      intro pre out k pe hf hb hk hkl ho
      obtain ⟨h1, h2⟩ := hunksB_cons hb
      obtain ⟨⟨q1, q2, q3⟩, q4, q5, q6, _⟩ := oneB_in h1
      have hpl : h.length = pre.length + (r.length + 1) := by rw [hf]; simp
      have hg : h.getD pre.length (0, 0, []) = x := by rw [hf]; exact getD_mid pre x r _
      rw [spec_l2Patch.l8_eq, bifT (by omega), bif2T (by omega) (by omega), up1 (by omega), room16]
      simp only [Int.toNat_natCast, hg]
      rw [bif3T (by omega) (by omega) (by omega), bifT (by simp only [List.length_drop, List.length_take]; omega), bifT (by simp only [List.length_append, List.length_drop, List.length_take]; omega), w64_id (by omega) (by omega)]
      have := ih (pre ++ [x]) ((out ++ (l.take x.1.toNat).drop k) ++ x.2.2) (x.1 + x.2.1).toNat (x.1 + x.2.1) (by rw [hf]; simp) h2 (.inr (by omega)) (by omega) (by simp only [List.length_append, List.length_drop, List.length_take, List.length_singleton]; omega)
      rw [Int.toNat_of_nonneg (by omega), List.length_append, List.length_singleton] at this
      rw [this, pat]
      simp only [List.append_assoc]
  rw [spec_l2Patch.f_eq]
  exact key h [] [] 0 (-1) rfl hh (.inl ⟨rfl, rfl⟩) (by omega) (by simp)
theorem iPat (l : T) (hl : l.length ≤ 40) (h : List Hk) (hh : hunksB (l.length : Int) (-1) h = true) (h20 : h.length ≤ 20) : impl_patched.f l h = some (pat l 0 h) := by
  have key : ∀ (rest pre : List Hk) (out : T) (k : Nat) (pe : Int), h = pre ++ rest → hunksB (l.length : Int) pe rest = true → (pe = -1 ∧ k = 0 ∨ pe = (k : Int)) → k ≤ l.length → out.length ≤ 80 * pre.length →
      impl_patched.l6 l out (k : Int) h (h.length : Int) (pre.length : Int) = some (out ++ pat l k rest) := by
    intro rest
    induction rest with
    | nil =>
      intro pre out k pe hf hb hk hkl ho
      have hpl : h.length = pre.length := by rw [hf]; simp
      rw [impl_patched.l6_eq, bifF (by omega), bif2T (by omega) (by omega), room16]
      simp only [Int.toNat_natCast]
      rw [bifT (by rw [List.length_drop]; omega)]; rfl
    | cons x r ih =>
      intro pre out k pe hf hb hk hkl ho
      obtain ⟨h1, h2⟩ := hunksB_cons hb
      obtain ⟨⟨q1, q2, q3⟩, q4, q5, q6, _⟩ := oneB_in h1
      have hpl : h.length = pre.length + (r.length + 1) := by rw [hf]; simp
      have hg : h.getD pre.length (0, 0, []) = x := by rw [hf]; exact getD_mid pre x r _
      rw [impl_patched.l6_eq, bifT (by omega), bif2T (by omega) (by omega), up1 (by omega), room16]
      simp only [Int.toNat_natCast, hg]
      rw [bif3T (by omega) (by omega) (by omega), bifT (by simp only [List.length_drop, List.length_take]; omega), bifT (by simp only [List.length_append, List.length_drop, List.length_take]; omega), w64_id (by omega) (by omega)]
      have := ih (pre ++ [x]) ((out ++ (l.take x.1.toNat).drop k) ++ x.2.2) (x.1 + x.2.1).toNat (x.1 + x.2.1) (by rw [hf]; simp) h2 (.inr (by omega)) (by omega) (by simp only [List.length_append, List.length_drop, List.length_take, List.length_singleton]; omega)
      rw [Int.toNat_of_nonneg (by omega), List.length_append, List.length_singleton] at this
      rw [this, pat]
      simp only [List.append_assoc]
  rw [impl_patched.f_eq]
  exact key h [] [] 0 (-1) rfl hh (.inl ⟨rfl, rfl⟩) (by omega) (by simp)
theorem pat_sm {l : T} {h : List Hk} (hl : Sm l) (hh : HkSm h) (hg : goodB l = true) (hb : hunksG (l.length : Int) h = true) : Sm (pat l 0 h) := by
  unfold hunksG at hb
  simp only [Bool.and_eq_true, decide_eq_true_eq] at hb
  have h40 := good_len hg
  refine ⟨by have := pat_len l h40 h 0 (-1) hb.1; omega, fun s hs => ?_⟩
  rcases pat_mem l h 0 s hs with hs | ⟨x, hx, hs⟩
  · exact hl.2 s hs
  · exact (hh.2 x hx).2 s hs
theorem sPatch (l : T) (h : List Hk) (hl : Sm l) (hh : HkSm h) : spec_Patch.f l h = some (patchB l h) := by
  have hL := hl.1
  rw [spec_Patch.f_eq, spec_l2Asked.f_eq, sGood l hl, sB]
  unfold patchB
  cases g1 : goodB l with
  | false => rfl
  | true =>
    rw [cond_true, sHunks _ h (by omega) (by omega) hh, sB]
    show ((some (hunksG (l.length : Int) h)).bind _) = _
    rw [sB]
    cases g2 : hunksG (l.length : Int) h with
    | false => rfl
    | true =>
      have hb := g2
      unfold hunksG at hb
      simp only [Bool.and_eq_true, decide_eq_true_eq] at hb
      rw [notT, sPat l (good_len g1) h hb.1 hb.2.1, sB, sGood _ (pat_sm hl hh g1 g2), sB]
      cases g3 : goodB (pat l 0 h) with
      | false => rfl
      | true => rfl
theorem iPatch (l : T) (h : List Hk) (hl : Sm l) (hh : HkSm h) : impl_Patch.f l h = some (patchB l h) := by
  have hL := hl.1
  rw [impl_Patch.f_eq, iGood l hl, sB]
  unfold patchB
  cases g1 : goodB l with
  | false => rfl
  | true =>
    rw [notT, iHunks _ h (by omega) (by omega) hh, sB]
    show (bif !(hunksG (l.length : Int) h) then _ else _) = _
    cases g2 : hunksG (l.length : Int) h with
    | false => rfl
    | true =>
      have hb := g2
      unfold hunksG at hb
      simp only [Bool.and_eq_true, decide_eq_true_eq] at hb
      rw [notT, impl_Patch.l7_eq, iPat l (good_len g1) h hb.1 hb.2.1, sB, iGood _ (pat_sm hl hh g1 g2), sB]
      cases g3 : goodB (pat l 0 h) with
      | false => rfl
      | true => rfl
theorem patchB_ok {l : T} {h : List Hk} (k : (patchB l h).2 = true) : goodB l = true ∧ hunksG (l.length : Int) h = true ∧ goodB (pat l 0 h) = true ∧ (patchB l h).1 = pat l 0 h := by
  unfold patchB at k ⊢
  split at k
  · rename_i hc; rw [if_pos hc]; exact ⟨hc.1, hc.2.1, hc.2.2, rfl⟩
  · cases k
theorem allLines_of {l : T} (h : ∀ s ∈ l, lineP s) : allLines l = true := by
  unfold allLines; rw [List.all_eq_true]; intro s hs; exact decide_eq_true (h s hs)
theorem allLines_mem {l : T} (h : allLines l = true) : ∀ s ∈ l, lineP s := by
  unfold allLines at h; rw [List.all_eq_true] at h; exact fun s hs => of_decide_eq_true (h s hs)
theorem good_lines {l : T} (h : goodB l = true) : allLines l = true := by
  unfold goodB at h
  simp only [Bool.and_eq_true] at h
  exact h.1.2
theorem jm_good (b : T) (la : Nat) (hb : goodB b = true) : ∀ (l : List (Nat × Nat)) (i j : Nat) (pe : Int), Ch la b.length i j l → pe < (i : Int) → hunksB (la : Int) pe (jm b i j l) = true
  | [], _, _, _, _, _ => rfl
  | (p, q) :: l, i, j, pe, hc, hp => by
    obtain ⟨h1, h2, h3, h4, h5⟩ := hc
    have h40 := good_len hb
    rw [jm_cons]
    by_cases c : i < p ∨ j < q
    · rw [if_pos c]
      show (oneB _ _ _ && hunksB _ _ (jm b (p + 1) (q + 1) l)) = true
      rw [Bool.and_eq_true]
      refine ⟨?_, ?_⟩
      · unfold oneB
        rw [Bool.and_eq_true]
        refine ⟨decide_eq_true ⟨⟨by show (0 : Int) ≤ i; omega, by show (0 : Int) ≤ (p : Int) - i; omega, by show (i : Int) + ((p : Int) - i) ≤ la; omega⟩, ?_, ?_, hp⟩, allLines_of fun s hs => allLines_mem (good_lines hb) s (List.mem_of_mem_take (List.mem_of_mem_drop hs))⟩
        · show ¬ ((p : Int) - i = 0 ∧ ((b.take q).drop j).length = 0)
          rw [List.length_drop, List.length_take]; omega
        · show ((b.take q).drop j).length ≤ 40
          rw [List.length_drop, List.length_take]; omega
      · exact jm_good b la hb l (p + 1) (q + 1) _ h5 (by show (i : Int) + ((p : Int) - i) < _; omega)
    · rw [if_neg c, List.nil_append]
      exact jm_good b la hb l (p + 1) (q + 1) pe h5 (by omega)
theorem dif_good (a b : T) (ga : goodB a = true) (gb : goodB b = true) : hunksB (a.length : Int) (-1) (dif a b) = true := by
  have la := good_len ga
  have lb := good_len gb
  obtain ⟨l, hl, _, e, _, _⟩ := dif_eq a b (by omega) (by omega)
  rw [e]
  exact jm_good b a.length gb _ 0 0 (-1) (ch_of a b l 0 0 (by omega) (by omega) hl) (by omega)
theorem dif_sm (a b : T) (ha : a.length ≤ 1000) (hb : Sm b) (hb2 : b.length ≤ 1000) : HkSm (dif a b) := by
  obtain ⟨l, hl, hn, e, _, _⟩ := dif_eq a b ha hb2
  rw [e]
  have h1 := jm_bound b (l ++ [(a.length, b.length)]) 0 0
  have hlen : (l ++ [(a.length, b.length)]).length = l.length + 1 := by simp
  exact ⟨by omega, fun h hh => ⟨by have := h1.2 h hh; omega, fun s hs => hb.2 s (jm_mem b _ 0 0 h hh s hs)⟩⟩
noncomputable def diffB (a b : T) : List Hk × Bool := if goodB a = true ∧ goodB b = true ∧ (dif a b).length ≤ 20 then (dif a b, true) else ([], false)
theorem diff_both (a b : T) (ha : Sm a) (hb : Sm b) : spec_DiffHunks.f a b = some (diffB a b) ∧ impl_DiffHunks.f a b = some (diffB a b) := by
  rw [spec_DiffHunks.f_eq, impl_DiffHunks.f_eq, sGood a ha, iGood a ha, sB, sB]
  unfold diffB
  cases ga : goodB a with
  | false => exact ⟨rfl, rfl⟩
  | true =>
    rw [notT, notT, sGood b hb, iGood b hb, sB, sB]
    cases gb : goodB b with
    | false => exact ⟨rfl, rfl⟩
    | true =>
      have la := good_len ga
      have lb := good_len gb
      obtain ⟨l, _, _, _, hs, hi⟩ := dif_eq a b (by omega) (by omega)
      have hsm := dif_sm a b (by omega) hb (by omega)
      have hg := dif_good a b ga gb
      rw [notT, notT, impl_DiffHunks.l7_eq, hs, hi, sB, sB, sHunks _ _ (by omega) (by omega) hsm, iHunks _ _ (by omega) (by omega) hsm, sB, sB, hg, Bool.true_and, decide_eq_true (show (a.length : Int) ≤ 40 by omega), Bool.and_true]
      by_cases h20 : (dif a b).length ≤ 20
      · rw [bifNF h20, bifNF h20, spec_DiffHunks.l7_eq, hs, sB, if_pos ⟨rfl, rfl, h20⟩]; exact ⟨rfl, rfl⟩
      · rw [bifNT h20, bifNT h20, if_neg (fun h => h20 h.2.2)]; exact ⟨rfl, rfl⟩
noncomputable def needB (a b : T) : Int × Bool := if goodB a = true ∧ goodB b = true then (((dif a b).length : Int), true) else (0, false)
theorem need_both (a b : T) (ha : Sm a) (hb : Sm b) : spec_NeedsHunks.f a b = some (needB a b) ∧ impl_NeedsHunks.f a b = some (needB a b) := by
  rw [spec_NeedsHunks.f_eq, impl_NeedsHunks.f_eq, sGood a ha, iGood a ha, sB, sB]
  unfold needB
  cases ga : goodB a with
  | false => exact ⟨rfl, rfl⟩
  | true =>
    rw [notT, notT, sGood b hb, iGood b hb, sB, sB]
    cases gb : goodB b with
    | false => exact ⟨rfl, rfl⟩
    | true =>
      have la := good_len ga
      have lb := good_len gb
      obtain ⟨l, _, _, _, hs, hi⟩ := dif_eq a b (by omega) (by omega)
      rw [notT, notT, hs, hi, sB]; exact ⟨rfl, rfl⟩
theorem jm_pat (a b : T) : ∀ (l : List (Nat × Nat)) (i j k : Nat), PR a b i j l → i ≤ a.length → j ≤ b.length → k ≤ i → pat a k (jm b i j (l ++ [(a.length, b.length)])) = (a.take i).drop k ++ b.drop j
  | [], i, j, k, _, hi, hj, hk => by
    rw [List.nil_append, jm_cons]
    by_cases c : i < a.length ∨ j < b.length
    · rw [if_pos c]
      show pat a k [((i : Int), (a.length : Int) - (i : Int), (b.take b.length).drop j)] = _
      have e : ((i : Int) + ((a.length : Int) - (i : Int))).toNat = a.length := by omega
      simp only [pat, Int.toNat_natCast, e, List.take_length, List.drop_length, List.append_nil]
    · rw [if_neg c]
      have e1 : i = a.length := by omega
      have e2 : j = b.length := by omega
      subst e1; subst e2
      simp only [List.nil_append, jm, pat, List.take_length, List.drop_length, List.append_nil]
  | (p, q) :: l, i, j, k, hP, hi, hj, hk => by
    obtain ⟨hL, hP⟩ := hP
    have h1 := hL.hip
    have h2 := hL.hpa
    have h3 := hL.hjq
    have h4 := hL.hqb
    have h5 := hL.hm.1
    have ea : ∀ m, m ≤ p → (a.take (p + 1)).drop m = (a.take p).drop m ++ [b.getD q em] := by
      intro m hm
      have : a[p] = b.getD q em := by rw [← h5]; simp [List.getD, h2]
      rw [List.take_succ_eq_append_getElem h2, List.drop_append_of_le_length (by rw [List.length_take]; omega), this]
    have eb : b.drop j = (b.take q).drop j ++ b.getD q em :: b.drop (q + 1) := by
      rw [← drop_at h4 em]
      conv => lhs; rw [← List.take_append_drop q b]
      rw [List.drop_append_of_le_length (by rw [List.length_take]; omega)]
    rw [List.cons_append, jm_cons]
    by_cases c : i < p ∨ j < q
    · rw [if_pos c]
      show pat a k (((i : Int), (p : Int) - (i : Int), (b.take q).drop j) :: jm b (p + 1) (q + 1) (l ++ [(a.length, b.length)])) = _
      have e : ((i : Int) + ((p : Int) - (i : Int))).toNat = p := by omega
      rw [pat]
      simp only [Int.toNat_natCast, e]
      rw [jm_pat a b l (p + 1) (q + 1) p hP (by omega) (by omega) (by omega), ea p (by omega), show (a.take p).drop p = [] from List.drop_eq_nil_of_le (by rw [List.length_take]; omega), eb]
      simp only [List.nil_append, List.append_assoc, List.singleton_append]
    · rw [if_neg c, List.nil_append]
      have eb2 : b.drop j = b.getD q em :: b.drop (q + 1) := by rw [show j = q by omega]; exact drop_at h4 em
      have e1 : a.take i = a.take p := by rw [show i = p by omega]
      rw [jm_pat a b l (p + 1) (q + 1) k hP (by omega) (by omega) (by omega), ea k (by omega), e1, eb2]
      simp only [List.append_assoc, List.singleton_append]
theorem dif_pat (a b : T) (ha : a.length ≤ 1000) (hb : b.length ≤ 1000) : pat a 0 (dif a b) = b := by
  obtain ⟨l, hl, _, e, _, _⟩ := dif_eq a b ha hb
  rw [e, jm_pat a b l 0 0 0 hl (by omega) (by omega) (Nat.le_refl _)]; rfl
theorem PR_len (a b : T) : ∀ (l : List (Nat × Nat)) (i j : Nat), PR a b i j l → tv a b i j = l.length
  | [], _, _, h => h
  | (p, q) :: l, i, j, h => by
    have := PR_len a b l _ _ h.2
    have := h.1.hm.2
    rw [List.length_cons]; omega
/-- how many lines go, and how many come -/
def cG : List Hk → Int
  | [] => 0
  | x :: r => x.2.1 + cG r
def cC : List Hk → Int
  | [] => 0
  | x :: r => (x.2.2.length : Int) + cC r
theorem cG_append : ∀ a b : List Hk, cG (a ++ b) = cG a + cG b
  | [], b => by simp [cG]
  | x :: a, b => by rw [List.cons_append, cG, cG, cG_append a b]; omega
theorem cC_append : ∀ a b : List Hk, cC (a ++ b) = cC a + cC b
  | [], b => by simp [cC]
  | x :: a, b => by rw [List.cons_append, cC, cC, cC_append a b]; omega
theorem jm_cnt (a b : T) : ∀ (l : List (Nat × Nat)) (i j : Nat), PR a b i j l → i ≤ a.length → j ≤ b.length → cG (jm b i j (l ++ [(a.length, b.length)])) = (a.length : Int) - i - l.length ∧ cC (jm b i j (l ++ [(a.length, b.length)])) = (b.length : Int) - j - l.length
  | [], i, j, _, hi, hj => by
    rw [List.nil_append, jm_cons, cG_append, cC_append]
    simp only [jm, cG, cC, List.length_nil]
    split
    · simp only [cG, cC, List.length_drop, List.length_take]; omega
    · simp only [cG, cC]; omega
  | (p, q) :: l, i, j, hP, hi, hj => by
    obtain ⟨hL, hP⟩ := hP
    have h1 := hL.hip
    have h2 := hL.hpa
    have h3 := hL.hjq
    have h4 := hL.hqb
    have ih := jm_cnt a b l (p + 1) (q + 1) hP (by omega) (by omega)
    rw [List.cons_append, jm_cons, cG_append, cC_append, ih.1, ih.2, List.length_cons]
    split
    · simp only [cG, cC, List.length_drop, List.length_take]; omega
    · simp only [cG, cC]; omega
theorem dif_cnt (a b : T) (ha : a.length ≤ 1000) (hb : b.length ≤ 1000) : cG (dif a b) = (a.length : Int) - tv a b 0 0 ∧ cC (dif a b) = (b.length : Int) - tv a b 0 0 := by
  obtain ⟨l, hl, _, e, _, _⟩ := dif_eq a b ha hb
  have h := jm_cnt a b l 0 0 hl (by omega) (by omega)
  have h2 := PR_len a b l 0 0 hl
  rw [e]; omega
theorem lcs_self : ∀ a : T, lcs a a = a.length
  | [] => rfl
  | x :: a => by rw [lcs_cons, if_pos rfl, lcs_self a, List.length_cons]
theorem cnt_pos : ∀ {h : List Hk} {many pe : Int}, hunksB many pe h = true → 0 ≤ cG h ∧ 0 ≤ cC h ∧ (h ≠ [] → 0 < cG h + cC h)
  | [], _, _, _ => ⟨Int.le_refl _, Int.le_refl _, fun h => absurd rfl h⟩
  | x :: r, many, pe, h => by
    obtain ⟨h1, h2⟩ := hunksB_cons h
    obtain ⟨⟨q1, q2, q3⟩, q4, q5, q6, _⟩ := oneB_in h1
    obtain ⟨k1, k2, _⟩ := cnt_pos h2
    simp only [cG, cC]
    refine ⟨by omega, by omega, fun _ => ?_⟩
    omega
theorem dif_nil (a b : T) (ga : goodB a = true) (gb : goodB b = true) : dif a b = [] ↔ a = b := by
  have la := good_len ga
  have lb := good_len gb
  constructor
  · intro h
    have := dif_pat a b (by omega) (by omega)
    rw [h, pat, List.drop_zero] at this
    exact this
  · intro h
    subst h
    have h1 := dif_cnt a a (by omega) (by omega)
    have h2 : tv a a 0 0 = a.length := lcs_self a
    have h3 := cnt_pos (dif_good a a ga ga)
    by_cases hn : dif a a = []
    · exact hn
    · have := h3.2.2 hn; omega
theorem sameT (a b : T) (ha : a.length ≤ 140737488351232) (hb : b.length ≤ 140737488351232) : laws_sameTexts.f a b = some (decide (a = b)) := by
  rw [laws_sameTexts.f_eq]
  by_cases hl : a.length = b.length
  · rw [bifNF (by omega)]
    have key : ∀ i, i ≤ a.length → laws_sameTexts.l8 a b (a.length : Int) (i : Int) = some (decide (a.drop i = b.drop i)) := by
      apply downTo
      · rw [laws_sameTexts.l8_eq, bifF (by omega)]
        simp [List.drop_eq_nil_of_le, hl]
      · intro i hi ih
        rw [laws_sameTexts.l8_eq, bifT (by omega), bif2T (by omega) (by omega), bif2T (by omega) (by omega), up1 (by omega)]
        simp only [Int.toNat_natCast, toList_beq]
        rw [drop_at hi em, drop_at (l := b) (by omega) em]
        by_cases h : a.getD i em = b.getD i em
        · rw [bifNF h, ih]; simp only [List.cons.injEq, h, true_and]
        · rw [bifNT h]; simp only [List.cons.injEq, h, false_and, decide_false]
    have := key 0 (by omega)
    simpa using this
  · rw [bifNT (by omega)]
    rw [decide_eq_false (fun e => hl (by rw [e]))]
theorem sameT_self (a : T) (ha : a.length ≤ 140737488351232) : laws_sameTexts.f a a = some true := by rw [sameT a a ha ha, decide_eq_true rfl]
theorem sameH_self (a : List Hk) (ha : a.length ≤ 1048576) (hb : ∀ x ∈ a, x.2.2.length ≤ 1048576) : laws_sameHunks.f a a = some true := by
  rw [laws_sameHunks.f_eq, bifNF rfl]
  have key : ∀ i, i ≤ a.length → laws_sameHunks.l8 a a (a.length : Int) (i : Int) = some true := by
    apply downTo
    · rw [laws_sameHunks.l8_eq, bifF (by omega)]
    · intro i hi ih
      have hm := hb _ (getD_mem hi (0, 0, []))
      rw [laws_sameHunks.l8_eq, bifT (by omega), bif2T (by omega) (by omega), bif2T (by omega) (by omega), up1 (by omega)]
      simp only [Int.toNat_natCast]
      rw [bifNF trivial, bifNF trivial, sameT_self _ (by omega), sB, notT, bif2T (by omega) (by omega), bif2T (by omega) (by omega), ih]
  exact key 0 (by omega)
/-- hunks that can be counted -/
def CB (h : List Hk) : Prop := h.length ≤ 1000 ∧ ∀ x ∈ h, 0 ≤ x.2.1 ∧ x.2.1 ≤ 1000000 ∧ x.2.2.length ≤ 1048576
theorem cnt_le : ∀ {h : List Hk}, (∀ x ∈ h, 0 ≤ x.2.1 ∧ x.2.1 ≤ 1000000 ∧ x.2.2.length ≤ 1048576) → 0 ≤ cG h ∧ cG h ≤ 1048576 * h.length ∧ 0 ≤ cC h ∧ cC h ≤ 1048576 * h.length
  | [], _ => by simp [cG, cC]
  | x :: r, hb => by
    have h1 := hb x (by simp)
    have h2 := cnt_le (h := r) fun y hy => hb y (by simp [hy])
    simp only [cG, cC, List.length_cons]
    omega
theorem iCounts (h : List Hk) (hb : CB h) : impl_counts.f h = some (cG h, cC h) := by
  have key : ∀ (rest pre : List Hk) (g c : Int), h = pre ++ rest → 0 ≤ g → g ≤ 1048576 * pre.length → 0 ≤ c → c ≤ 1048576 * pre.length → impl_counts.l6 g c h (h.length : Int) (pre.length : Int) = some (g + cG rest, c + cC rest) := by
    intro rest
    induction rest with
    | nil =>
      intro pre g c hf _ _ _ _
      have hpl : h.length = pre.length := by rw [hf]; simp
      rw [impl_counts.l6_eq, bifF (by omega)]; simp [cG, cC]
    | cons x r ih =>
      intro pre g c hf g0 g1 c0 c1
      have hpl : h.length = pre.length + (r.length + 1) := by rw [hf]; simp
      have hg : h.getD pre.length (0, 0, []) = x := by rw [hf]; exact getD_mid pre x r _
      have hx := hb.2 x (by rw [hf]; simp)
      have hL := hb.1
      rw [impl_counts.l6_eq, bifT (by omega), bif2T (by omega) (by omega), up1 (by omega)]
      simp only [Int.toNat_natCast, hg]
      rw [w64_id (by omega) (by omega), w64_id (by omega) (by omega)]
      have := ih (pre ++ [x]) (g + x.2.1) (c + (x.2.2.length : Int)) (by rw [hf]; simp) (by omega) (by rw [List.length_append, List.length_singleton]; omega) (by omega) (by rw [List.length_append, List.length_singleton]; omega)
      rw [List.length_append, List.length_singleton] at this
      rw [this]
      simp only [cG, cC, Option.some.injEq, Prod.mk.injEq]
      omega
  rw [impl_counts.f_eq]
  have := key h [] 0 0 rfl (by omega) (by simp) (by omega) (by simp)
  simpa using this
theorem sCounts (h : List Hk) (hb : CB h) (h20 : h.length ≤ 20) : spec_CountHunks.f h = some (cG h, cC h, true) := by
  have key : ∀ (rest pre : List Hk) (g c : Int), h = pre ++ rest → 0 ≤ g → g ≤ 1048576 * pre.length → 0 ≤ c → c ≤ 1048576 * pre.length → spec_CountHunks.l6 h g c h (h.length : Int) (pre.length : Int) = some (g + cG rest, c + cC rest, true) := by
    intro rest
    induction rest with
    | nil =>
      intro pre g c hf _ _ _ _
      have hpl : h.length = pre.length := by rw [hf]; simp
      rw [spec_CountHunks.l6_eq, bifF (by omega), bifF (by omega)]; simp [cG, cC]
    | cons x r ih =>
      intro pre g c hf g0 g1 c0 c1
      have hpl : h.length = pre.length + (r.length + 1) := by rw [hf]; simp
      have hg : h.getD pre.length (0, 0, []) = x := by rw [hf]; exact getD_mid pre x r _
      have hx := hb.2 x (by rw [hf]; simp)
      have hL := hb.1
      rw [spec_CountHunks.l6_eq, bifT (by omega), bif2T (by omega) (by omega), up1 (by omega)]
      simp only [Int.toNat_natCast, hg]
      rw [sIn, sB, bifNF ⟨hx.1, hx.2.1⟩, w64_id (by omega) (by omega), w64_id (by omega) (by omega)]
      have := ih (pre ++ [x]) (g + x.2.1) (c + (x.2.2.length : Int)) (by rw [hf]; simp) (by omega) (by rw [List.length_append, List.length_singleton]; omega) (by omega) (by rw [List.length_append, List.length_singleton]; omega)
      rw [List.length_append, List.length_singleton] at this
      rw [this]
      simp only [cG, cC, Option.some.injEq, Prod.mk.injEq, and_true]
      omega
  rw [spec_CountHunks.f_eq]
  have := key h [] 0 0 rfl (by omega) (by simp) (by omega) (by simp)
  simpa using this
theorem iCountHunks (h : List Hk) (hb : CB h) (h20 : h.length ≤ 20) : impl_CountHunks.f h = some (cG h, cC h, true) := by
  have key : ∀ i, i ≤ h.length → slices_IndexFunc_Limpl_Hunk_impl_Hunk__impl_CountHunks_1.l4 h (h.length : Int) (i : Int) = some (-1) := by
    apply downTo
    · rw [slices_IndexFunc_Limpl_Hunk_impl_Hunk__impl_CountHunks_1.l4_eq, bifF (by omega)]
    · intro i hi ih
      have hx := hb.2 _ (getD_mem hi (0, 0, []))
      rw [slices_IndexFunc_Limpl_Hunk_impl_Hunk__impl_CountHunks_1.l4_eq, bifT (by omega), bif2T (by omega) (by omega), up1 (by omega)]
      simp only [Int.toNat_natCast]
      rw [impl_CountHunks_1.f_eq, sB, bifF (by omega), ih]
  rw [impl_CountHunks.f_eq, bifF (by omega), slices_ContainsFunc_Limpl_Hunk_impl_Hunk__impl_CountHunks_1.f_eq, slices_IndexFunc_Limpl_Hunk_impl_Hunk__impl_CountHunks_1.f_eq, (show slices_IndexFunc_Limpl_Hunk_impl_Hunk__impl_CountHunks_1.l4 h (h.length : Int) 0 = some (-1) from key 0 (by omega)), sB, sB, bifF (by omega), impl_CountHunks.l7_eq, iCounts h hb, sB]
def farB (a b : T) : Int := (a.length : Int) + b.length - 2 * tv a b 0 0
theorem sFar (a b : T) (ha : a.length ≤ 1000) (hb : b.length ≤ 1000) : spec_l3Apart.f a b = some (farB a b) := by
  have h1 := tbl_len a b
  have h2 := tv_le a b 0 0
  rw [spec_l3Apart.f_eq, sTable a b ha hb, sB, bifT (by omega), tbl_get a b (Nat.zero_le _), bifT (by rw [trow_len]; omega), trow_get a b 0 (Nat.zero_le _), w64_id (x := (a.length : Int) + b.length) (by omega) (by omega), w64_id (x := 2 * (tv a b 0 0 : Int)) (by omega) (by omega), w64_id (by omega) (by omega)]
  rfl
theorem iFar (a b : T) (ha : a.length ≤ 1000) (hb : b.length ≤ 1000) : impl_farApart.f a b = some (farB a b) := by
  have h1 := tbl_len a b
  have h2 := tv_le a b 0 0
  rw [impl_farApart.f_eq, iTable a b ha hb, sB, bifT (by omega), tbl_get a b (Nat.zero_le _), bifT (by rw [trow_len]; omega), trow_get a b 0 (Nat.zero_le _), w64_id (x := (a.length : Int) + b.length) (by omega) (by omega), w64_id (x := 2 * (tv a b 0 0 : Int)) (by omega) (by omega), w64_id (by omega) (by omega)]
  rfl
theorem hunksB_CB : ∀ {h : List Hk} {many pe : Int}, hunksB many pe h = true → many ≤ 40 → ∀ x ∈ h, 0 ≤ x.2.1 ∧ x.2.1 ≤ 1000000 ∧ x.2.2.length ≤ 1048576
  | y :: r, many, pe, h, hm, x, hx => by
    obtain ⟨h1, h2⟩ := hunksB_cons h
    obtain ⟨⟨q1, q2, q3⟩, q4, q5, q6, _⟩ := oneB_in h1
    rcases List.mem_cons.1 hx with rfl | hx
    · omega
    · exact hunksB_CB h2 hm x hx
theorem hunksG_CB {h : List Hk} {many : Int} (k : hunksG many h = true) : CB h ∧ h.length ≤ 20 := by
  unfold hunksG at k
  simp only [Bool.and_eq_true, decide_eq_true_eq] at k
  exact ⟨⟨by omega, hunksB_CB k.1 k.2.2⟩, k.2.1⟩
def leastB (a : T) (h : List Hk) : Bool × Bool := if (patchB a h).2 = true then (decide (cG h + cC h = farB a (pat a 0 h)), true) else (false, false)
theorem least_both (a : T) (h : List Hk) (ha : Sm a) (hh : HkSm h) : spec_IsLeast.f a h = some (leastB a h) ∧ impl_IsLeast.f a h = some (leastB a h) := by
  rw [spec_IsLeast.f_eq, impl_IsLeast.f_eq, sPatch a h ha hh, iPatch a h ha hh, sB, sB]
  unfold leastB
  cases hp : (patchB a h).2 with
  | false => exact ⟨rfl, rfl⟩
  | true =>
    obtain ⟨g1, g2, g3, g4⟩ := patchB_ok hp
    obtain ⟨k1, k2⟩ := hunksG_CB g2
    have la := good_len g1
    have lb := good_len g3
    have hc := cnt_le k1.2
    rw [notT, notT, sCounts h k1 k2, iCounts h k1, sB, sB, g4, sFar a _ (by omega) (by omega), iFar a _ (by omega) (by omega), sB]
    have hw : w64 (cG h + cC h) = cG h + cC h := w64_id (by omega) (by omega)
    simp only [hw]
    exact ⟨rfl, rfl⟩
/-- bytes that came in -/
theorem cok_of {code : List Int} (g : Bd (.list (.int .u8)) code) (h : code.length ≤ 1048576) : Cok 1000000000 (code, 0, 0) := by
  refine ⟨h, fun x hx => ?_, Int.le_refl _, by show (0 : Int) + _ ≤ _; omega⟩
  have := g.2 x hx
  have h2 : (decide (IntKind.u8.min ≤ x) && decide (x ≤ IntKind.u8.max)) = true := this
  rw [Bool.and_eq_true, decide_eq_true_eq, decide_eq_true_eq] at h2
  exact h2
theorem big_ok {code more : List Int} (h1 : code.length ≤ 140737488351232) (h2 : more.length ≤ 140737488351232) : ∃ b : Bool, laws_big.f code more = some b ∧ (b = false → code.length ≤ 1048576 ∧ more.length ≤ 1048576) := by
  rw [laws_big.f_eq]
  by_cases h : (code.length : Int) > 1048576
  · rw [bifT h]; exact ⟨true, rfl, fun h => by cases h⟩
  · rw [bifF h, w64_id (by omega) (by omega)]
    refine ⟨_, rfl, fun k => ?_⟩
    rw [decide_eq_false_iff_not] at k
    omega
theorem smA {r : T} (h1 : r.length ≤ 9) (h2 : ∀ s ∈ r, s.size ≤ 9) : Sm r := ⟨by omega, fun s hs => by have := h2 s hs; omega⟩
theorem good_TB {r : T} {m : Nat} (h1 : r.length ≤ 9) (h2 : ∀ s ∈ r, s.size ≤ m) (hg : goodB r = true) : TB 9 m r :=
  ⟨h1, fun s hs => ⟨(allLines_mem (good_lines hg) s hs).1, h2 s hs⟩⟩
theorem drawSame {code : List Int} (g : Bd (.list (.int .u8)) code) (h : code.length ≤ 1048576) : ∃ a b : T, spec_DrawSameAhead.f code = some (a, b) ∧ Sm a ∧ Sm b := by
  rw [spec_DrawSameAhead.f_eq]
  obtain ⟨r, c1, e1, r1, r2, r3, k1⟩ := anyText_ok (n := 900000000) ((cok_of g h).le (by omega))
  rw [e1, sB]
  simp only
  have hr := smA r1 r2
  obtain ⟨x, c2, e2, k2⟩ := one_ok (n := 800000000) (k1.le (by omega)) 2
  rw [e2, sB]
  simp only
  obtain ⟨u, c3, e3, hu, _⟩ := text_ok (n := 700000000) (k2.le (by omega))
  cases x with
  | false => rw [cond_false, e3, sB]; exact ⟨r, u, rfl, hr, hu.sm (by omega) (by omega)⟩
  | true =>
    rw [cond_true, sGood r hr, sB]
    cases hg : goodB r with
    | false => rw [cond_false, e3, sB]; exact ⟨r, u, rfl, hr, hu.sm (by omega) (by omega)⟩
    | true =>
      obtain ⟨v, c4, e4, hv, _⟩ := other_ok (n := 700000000) (k2.le (by omega)) r 9 9 (good_TB r1 r2 hg) (by omega) (by omega) (by omega)
      rw [cond_true, e4, sB]; exact ⟨r, v, rfl, hr, hv.sm (by omega) (by omega)⟩
theorem ah_sm {r : List Hk} (h1 : r.length ≤ 6) (h2 : ∀ x ∈ r, AH x) : HkSm r :=
  ⟨by omega, fun x hx => by obtain ⟨_, _, _, _, q1, q2⟩ := h2 x hx; exact ⟨by omega, fun s hs => by have := q2 s hs; omega⟩⟩
theorem drawLeast {code : List Int} (g : Bd (.list (.int .u8)) code) (h : code.length ≤ 1048576) : ∃ (a : T) (b : List Hk), spec_DrawIsLeast.f code = some (a, b) ∧ Sm a ∧ HkSm b := by
  rw [spec_DrawIsLeast.f_eq]
  obtain ⟨r, c1, e1, r1, r2, r3, k1⟩ := anyText_ok (n := 900000000) ((cok_of g h).le (by omega))
  rw [e1, sB]
  simp only
  have hr := smA r1 r2
  have hlast : 0 < r.length → 1 ≤ (r.getD (r.length - 1) em).size ∧ (r.getD (r.length - 1) em).size ≤ 1048576 := fun h0 => by
    have := r2 _ (getD_mem (l := r) (i := r.length - 1) (by omega) em)
    exact ⟨r3 h0, by omega⟩
  rw [sGood r hr, sB]
  cases hg : goodB r with
  | false =>
    obtain ⟨u, c3, e3, u1, u2, _⟩ := anyHunks_ok (n := 700000000) (k1.le (by omega)) r (by omega) hlast
    rw [cond_false, e3, sB]; exact ⟨r, u, rfl, hr, ah_sm u1 u2⟩
  | true =>
    rw [cond_true]
    obtain ⟨x, c2, e2, k2⟩ := one_ok (n := 800000000) (k1.le (by omega)) 2
    rw [e2, sB]
    simp only
    cases x with
    | false =>
      obtain ⟨u, c3, e3, u1, u2, _⟩ := anyHunks_ok (n := 700000000) (k2.le (by omega)) r (by omega) hlast
      rw [cond_false, e3, sB]; exact ⟨r, u, rfl, hr, ah_sm u1 u2⟩
    | true =>
      obtain ⟨v, c4, e4, hv, _⟩ := other_ok (n := 700000000) (k2.le (by omega)) r 9 9 (good_TB r1 r2 hg) (by omega) (by omega) (by omega)
      have hv2 := hv.sm (by omega) (by omega)
      rw [cond_true, e4, sB, (diff_both r v hr hv2).1, sB]
      refine ⟨r, _, rfl, hr, ?_⟩
      have := hv.1
      unfold diffB
      split
      · exact dif_sm r v (by omega) hv2 (by omega)
      · exact ⟨by simp, fun x hx => by cases hx⟩
theorem FnDiffs (l0 l1 : List Int) (g0 : Bd (.list (.int .u8)) l0) (g1 : Bd (.list (.int .u8)) l1) : laws_FnDiffs.f l0 l1 = some true := by
  obtain ⟨bb, hb, hb2⟩ := big_ok g0.1 g1.1
  rw [laws_FnDiffs.f_eq, hb, sB]
  cases bb with
  | true => rfl
  | false =>
    obtain ⟨n0, n1⟩ := hb2 rfl
    obtain ⟨a, b, e1, ha, hb⟩ := drawSame g0 n0
    have tail : laws_FnDiffs.l35 l1 = some true := by
      obtain ⟨x, h, e2, hx, hh⟩ := drawLeast g1 n1
      rw [laws_FnDiffs.l35_eq, e2, sB]
      simp only
      rw [(least_both x h hx hh).1, (least_both x h hx hh).2, sB, sB]
      simp
    obtain ⟨d1, d2⟩ := diff_both a b ha hb
    obtain ⟨d3, d4⟩ := need_both a b ha hb
    rw [cond_false, spec_DrawDiffHunks.f_eq, e1, sB, sB]
    simp only
    rw [d1, d2, d3, d4, sB, sB, sB, sB]
    have hdl : (diffB a b).1.length ≤ 1048576 ∧ ∀ x ∈ (diffB a b).1, x.2.2.length ≤ 1048576 := by
      unfold diffB
      split
      · rename_i hc
        have la := good_len hc.1
        have lb := good_len hc.2.1
        have := dif_sm a b (by omega) hb (by omega)
        exact ⟨this.1, fun x hx => (this.2 x hx).1⟩
      · exact ⟨by simp, fun x hx => by cases hx⟩
    rw [sameH_self _ hdl.1 hdl.2, sB]
    simp only [beq_self_eq_true, Bool.not_true, cond_false, decide_true]
    by_cases hg : goodB a = true ∧ goodB b = true
    case neg =>
      have e3 : needB a b = (0, false) := if_neg hg
      have e4 : diffB a b = ([], false) := if_neg fun h => hg ⟨h.1, h.2.1⟩
      rw [e3, e4]
      simp only [cond_false, beq_self_eq_true, Bool.not_true]
      rw [laws_FnDiffs.l21_eq]
      exact tail
    obtain ⟨ga, gb⟩ := hg
    have la := good_len ga
    have lb := good_len gb
    have e3 : needB a b = (((dif a b).length : Int), true) := if_pos ⟨ga, gb⟩
    rw [e3]
    simp only [cond_true]
    by_cases h20 : (dif a b).length ≤ 20
    case neg =>
      have e4 : diffB a b = ([], false) := if_neg fun h => h20 h.2.2
      rw [e4]
      simp only
      rw [decide_eq_false (show ¬ ((dif a b).length : Int) ≤ 20 by omega)]
      simp only [beq_self_eq_true, Bool.not_true, cond_false]
      rw [laws_FnDiffs.l21_eq]
      exact tail
    have e4 : diffB a b = (dif a b, true) := if_pos ⟨ga, gb, h20⟩
    have hsm := dif_sm a b (by omega) hb (by omega)
    have hhg : hunksG (a.length : Int) (dif a b) = true := by
      unfold hunksG
      rw [dif_good a b ga gb, decide_eq_true h20, decide_eq_true (show (a.length : Int) ≤ 40 by omega)]; rfl
    have hpat := dif_pat a b (by omega) (by omega)
    have hpb : patchB a (dif a b) = (b, true) := by
      unfold patchB
      rw [hpat, if_pos ⟨ga, hhg, gb⟩]
    obtain ⟨k1, k2⟩ := hunksG_CB hhg
    have hcnt := dif_cnt a b (by omega) (by omega)
    have htl := tv_le a b 0 0
    have hfar : cG (dif a b) + cC (dif a b) = farB a b := by unfold farB; omega
    have hle : leastB a (dif a b) = (true, true) := by
      unfold leastB
      rw [hpb, hpat, if_pos rfl, decide_eq_true hfar]
    have hcl := cnt_le k1.2
    rw [e4]
    simp only
    rw [decide_eq_true (show ((dif a b).length : Int) ≤ 20 by omega)]
    simp only [beq_self_eq_true, Bool.not_true, cond_false]
    rw [laws_FnDiffs.l21_eq, cond_true, iPatch a _ ha hsm, sB, (least_both a _ ha hsm).2, sB, impl_FarApart.f_eq, iGood a ha, sB, ga, notT, iGood b hb, sB, gb, notT, iFar a b (by omega) (by omega), sB, sB, iCountHunks _ k1 k2, sB, hpb, hle]
    simp only
    rw [notT, sameT_self b (by omega), sB, notT, notT, notT, notT, w64_id (by omega) (by omega), bifNF hfar, notT, bifNF trivial, sameT a b (by omega) (by omega), sB]
    have hz : decide (((dif a b).length : Int) = 0) = decide (a = b) := by
      rw [decide_eq_decide, ← dif_nil a b ga gb]
      exact ⟨fun h => List.length_eq_zero_iff.1 (by omega), fun h => by rw [h]; rfl⟩
    rw [hz]
    simp only [beq_self_eq_true, Bool.not_true, cond_false]
    exact tail
end Go.Abs.G
