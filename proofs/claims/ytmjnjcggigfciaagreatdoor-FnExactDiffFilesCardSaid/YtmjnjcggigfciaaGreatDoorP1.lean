import Derived.Test.YtmjnjcggigfciaaGreatDoorG
import Derived.Test.YtmjnjcggigfciaaGreatDoorPA
import Derived.Lib.IndexAny
set_option linter.unusedVariables false
set_option linter.unusedSimpArgs false
set_option linter.unusedSectionVars false
namespace Go.Abs.G
open Go Go.Abs
/-- the text of a mark: that there is one is all that is asked -/
theorem markText (k : Int) (h : k ≤ 8796093022208) : ∃ t : ByteArray, laws_markText.f k = some t := by
  rw [laws_markText.f_eq]
  by_cases h0 : k ≤ 0
  · exact ⟨_, bifT h0⟩
  · rw [bifF h0]
    have key : ∀ (n : Nat) (k : Nat) (out : ByteArray), k ≤ n → out.size + k ≤ 17592186044416 → ∃ t, laws_markText.l8 (k : Int) out = some t := by
      intro n
      induction n with
      | zero =>
        intro k out hk ho
        rw [laws_markText.l8_eq, bifF (by omega)]
        exact ⟨_, bifT (by show 1 + out.size ≤ _; omega)⟩
      | succ n ih =>
        intro k out hk ho
        rw [laws_markText.l8_eq]
        by_cases hk0 : (k : Int) > 0
        · rw [bifT hk0]
          have e : ((k : Int).tdiv 10) = ((k / 10 : Nat) : Int) := by rw [Int.tdiv_eq_ediv_of_nonneg (by omega)]; omega
          rw [e, w64_id (x := ((k / 10 : Nat) : Int)) (by omega) (by omega)]
          have hs : (strOf [IntKind.wrap .u8 (w64 (48 + (k : Int).tmod 10))]).size = 1 := rfl
          rw [bifT (by rw [hs]; omega)]
          exact ih _ _ (by omega) (by rw [ByteArray.size_append, hs]; omega)
        · rw [bifF hk0]
          exact ⟨_, bifT (by show 1 + out.size ≤ _; omega)⟩
    obtain ⟨t, ht⟩ := key k.toNat k.toNat em (Nat.le_refl _) (by show 0 + k.toNat ≤ _; omega)
    rw [Int.toNat_of_nonneg (by omega)] at ht
    exact ⟨t, ht⟩
/-- the mark of a number -/
noncomputable def mk (k : Int) : ByteArray := (laws_markText.f k).getD em
theorem mk_eq {k : Int} (h : k ≤ 8796093022208) : laws_markText.f k = some (mk k) := by
  obtain ⟨t, ht⟩ := markText k h
  rw [mk, ht]; rfl
def cString (_ : ByteArray) : Nat := 1
def zString (_ : ByteArray) : Nat := 1
abbrev T := List ByteArray
abbrev YString := ByteArray
abbrev yString : ByteArray := em
abbrev YStringS := List YString
def mStringS (a : YStringS) : Nat := a.length + tot ByteArray.size a
def cStringS (a : YStringS) : Nat := tot cString a
def zStringS (a : YStringS) : Nat := a.length + tot zString a
def BgStringS (a : YStringS) : Prop := a.length ≤ 140737488351232 ∧ ∀ x ∈ a, x.size ≤ 140737488351232
theorem czStringS (a : YStringS) : cStringS a ≤ zStringS a := by
  have h := tot_mono cString zString (fun x => Nat.le_refl _) a
  unfold cStringS zStringS
  omega
theorem zmStringS (a : YStringS) : zStringS a ≤ 8 * mStringS a := by
  have h := tot_seven zString ByteArray.size (fun x => by unfold zString; omega) a
  unfold zStringS mStringS
  omega
theorem bdStringS (x : YStringS) (h : Bd (.list .str) x) : BgStringS x := h
theorem szStringS (a : YStringS) (left : Int) (hb : BgStringS a) (h0 : 0 ≤ left) (h1 : left ≤ 1048576) : laws_szStringS.f a left = some (szR (mStringS a) left) := by
  obtain ⟨hb1, hb2⟩ := hb
  rw [laws_szStringS.f_eq]
  refine szTop hb1 h0 h1 (fun l => laws_szStringS.l10 a l 0) fun l h0 h1 => ?_
  refine szGo yString ByteArray.size a (fun l i => laws_szStringS.l10 a l i) (fun l => by show laws_szStringS.l10 a l _ = _; rw [laws_szStringS.l10_eq, bifF (by omega)]) (fun i l hi h2 h3 => ?_) l h0 h1
  have hm := hb2 _ (getD_mem hi yString)
  show laws_szStringS.l10 a l _ = _
  rw [laws_szStringS.l10_eq, bifT (by omega), bif2T (by omega) (by omega), up1 (by omega)]
  simp only [Int.toNat_natCast]
  exact szLeaf _ l hm h2 h3 (fun l => laws_szStringS.l10 a l ((i + 1 : Nat) : Int)) (some (-1))
theorem toStringS (a : YStringS) (hb : mStringS a ≤ 1048576) : laws_toStringS.f a = some a := by
  have hb2 : a.length + tot ByteArray.size a ≤ 1048576 := hb
  rw [laws_toStringS.f_eq, show room 16 = 8796093022208 from by decide, bif2T (by omega) (by omega)]
  refine toGo yString a (fun out i => laws_toStringS.l6 a out i) (fun out => by show laws_toStringS.l6 a out _ = _; rw [laws_toStringS.l6_eq, bifF (by omega)]) (fun i out hi hl => ?_) _ (by simp)
  show laws_toStringS.l6 a out _ = _
  rw [laws_toStringS.l6_eq, bifT (by omega), bif2T (by omega) (by omega)]
  simp only [Int.toNat_natCast]
  rw [bif2T (by omega) (by omega), up1 (by omega)]
theorem eqStringS (a : YStringS) (hb : zStringS a ≤ 4398046511104) : laws_eqStringS.f a a = some true := by
  have hb2 : a.length + tot zString a ≤ 4398046511104 := hb
  rw [laws_eqStringS.f_eq, bifNF rfl]
  refine eqGo (n := a.length) (fun i => laws_eqStringS.l8 a a i) (by show laws_eqStringS.l8 a a _ = _; rw [laws_eqStringS.l8_eq, bifF (by omega)]) fun i hi => ?_
  show laws_eqStringS.l8 a a _ = _
  rw [laws_eqStringS.l8_eq, bifT (by omega), bif2T (by omega) (by omega), bif2T (by omega) (by omega), up1 (by omega)]
  simp only [Int.toNat_natCast]
  rw [toList_beq, bifNF rfl]
noncomputable def mkString (_ : ByteArray) (k : Int) : ByteArray := mk k
noncomputable def mkStringS : YStringS → Int → YStringS := mkL cString mkString
theorem markStringS (a : YStringS) (k : Int) (h0 : 0 ≤ k) (hk : k + cStringS a ≤ 8796093022208) (hb : zStringS a ≤ 4398046511104) : laws_markStringS.f a k = some (k + cStringS a, mkStringS a k) := by
  have hb2 : a.length + tot zString a ≤ 4398046511104 := hb
  rw [laws_markStringS.f_eq]
  refine markGo (fun x => zString x ≤ 4398046511104) cString mkString (fun a k i => laws_markStringS.l4 a k i) (fun a k => by show laws_markStringS.l4 a k _ = _; rw [laws_markStringS.l4_eq, bifF (by omega)]) (fun pre x r k hp hk hc hl => ?_) a [] k (fun x hx => by have := tot_mem zString hx; omega) h0 hk (by simp; omega)
  have hc2 : k + 1 ≤ 8796093022208 := hc
  have e0 : w64 (k + 1) = k + 1 := by rw [w64_id (by omega) (by omega)]
  have f0 : laws_markText.f k = some (mk k) := mk_eq (by omega)
  have eu := up1 (i := pre.length) (by omega)
  show laws_markStringS.l4 _ k _ = laws_markStringS.l4 _ (k + (cString x : Int)) _
  rw [laws_markStringS.l4_eq]
  simp only [List.length_append, List.length_cons, List.length_nil, in0, inMid2, Bool.and_true, cond_true, Int.toNat_natCast, getD_mid, set_mid, eu, sB, e0, f0, mkString]
  rfl
/-- of a size that is let through -/
def Sm (l : T) : Prop := l.length ≤ 1048576 ∧ ∀ s ∈ l, s.size ≤ 1048576
def bl (s : ByteArray) : List UInt8 := s.data.toList
theorem bl_len (s : ByteArray) : (bl s).length = s.size := rfl
theorem bl_inj {a b : ByteArray} (h : bl a = bl b) : a = b := ByteArray.ext (Array.toList_inj.1 h)
theorem bl_ext (s : ByteArray) (a b : Nat) : bl (s.extract a b) = ((bl s).drop a).take (b - a) := by
  unfold bl; rw [ByteArray.data_extract, Array.toList_extract]
theorem bt_bl (s : ByteArray) (i : Nat) : bt s (i : Int) = (((bl s).getD i 0).toNat : Int) := by
  unfold bt bl
  rw [Int.toNat_natCast]
theorem sIn (a b c : Int) : spec_l1In.f a b c = some (decide (b ≤ a ∧ a ≤ c)) := by
  rw [spec_l1In.f_eq]
  by_cases h : a ≥ b
  · rw [bifT h]; congr 1; rw [decide_eq_decide]; omega
  · rw [bifF h]; congr 1; rw [eq_comm, decide_eq_false_iff_not]; omega
theorem iIn (a b c : Int) : impl_in.f a b c = some (decide (b ≤ a ∧ a ≤ c)) := by
  rw [impl_in.f_eq]
  by_cases h : a ≥ b
  · rw [bifT h]; congr 1; rw [decide_eq_decide]; omega
  · rw [bifF h]; congr 1; rw [eq_comm, decide_eq_false_iff_not]; omega
/-- A line. -/
def lineP (s : ByteArray) : Prop := 1 ≤ s.size ∧ s.size ≤ 30 ∧ (10 : UInt8) ∉ (bl s).take (s.size - 1)
instance (s : ByteArray) : Decidable (lineP s) := by unfold lineP; exact inferInstance
/-- It ends. -/
def endP (s : ByteArray) : Prop := 1 ≤ s.size ∧ (bl s).getD (s.size - 1) 0 = 10
instance (s : ByteArray) : Decidable (endP s) := by unfold endP; exact inferInstance
theorem toNat10 (b : UInt8) : ((b.toNat : Nat) : Int) = 10 ↔ b = 10 := by
  constructor
  · intro h; exact UInt8.toNat_inj.1 (by have : (10 : UInt8).toNat = 10 := rfl; omega)
  · rintro rfl; rfl
theorem sLine (s : ByteArray) (hs : s.size ≤ 1048576) : spec_l1Line.f s = some (decide (lineP s)) := by
  have hL : ((bl s).take (s.size - 1)).length = s.size - 1 := by rw [List.length_take, bl_len]; omega
  have hw : w64 ((s.size : Int) - 1) = (s.size : Int) - 1 := w64_id (by omega) (by omega)
  have key : ∀ i, i ≤ s.size - 1 → spec_l1Line.l4 s (i : Int) = some (decide (1 ≤ s.size ∧ s.size ≤ 30 ∧ (10 : UInt8) ∉ ((bl s).take (s.size - 1)).drop i)) := by
    apply downTo
    · rw [spec_l1Line.l4_eq, hw, bifF (by omega), sIn, sB]
      congr 1
      rw [decide_eq_decide, List.drop_eq_nil_of_le (by omega)]
      constructor
      · intro h; exact ⟨by omega, by omega, List.not_mem_nil⟩
      · intro h; omega
    · intro i hi ih
      have hi1 := up1 (i := i) (by omega)
      rw [spec_l1Line.l4_eq]
      simp only [hw, hi1]
      rw [bifT (by omega), bif2T (by omega) (by omega)]
      have hb : bt s (i : Int) = 10 ↔ ((bl s).take (s.size - 1)).getD i 0 = 10 := by
        rw [bt_bl, toNat10, List.getD_eq_getElem?_getD, List.getD_eq_getElem?_getD, List.getElem?_take_of_lt hi]
      have hd := drop_at (l := (bl s).take (s.size - 1)) (i := i) (by omega) 0
      by_cases h : bt s (i : Int) = 10
      · rw [bifT h]; congr 1
        rw [eq_comm, decide_eq_false_iff_not, hd, hb.1 h]
        rintro ⟨_, _, h3⟩
        exact h3 List.mem_cons_self
      · rw [bifF h, ih]; congr 1
        rw [decide_eq_decide, hd, List.mem_cons, not_or]
        have : ¬ (10 : UInt8) = ((bl s).take (s.size - 1)).getD i 0 := fun g => h (hb.2 g.symm)
        exact ⟨fun ⟨a, b, c⟩ => ⟨a, b, this, c⟩, fun ⟨a, b, _, c⟩ => ⟨a, b, c⟩⟩
  have := key 0 (by omega)
  rw [spec_l1Line.f_eq]
  rw [List.drop_zero] at this
  exact this
theorem iLine (s : ByteArray) (hs : s.size ≤ 1048576) : impl_isLine.f s = some (decide (lineP s)) := by
  have hw : w64 ((s.size : Int) - 1) = (s.size : Int) - 1 := w64_id (by omega) (by omega)
  rw [impl_isLine.f_eq, iIn, sB, hw]
  by_cases h : (1 : Int) ≤ (s.size : Int) ∧ (s.size : Int) ≤ 30
  · rw [bifT h, bif2T (by omega) (by omega)]
    show (contains1 _ _).bind _ = _
    unfold contains1
    have h1 : Nat.beq (⟨#[10]⟩ : ByteArray).size 1 = true := rfl
    rw [h1, cond_true, sB]
    congr 1
    show (!decide (0 ≤ Go.Lib.indexByte _ 10)) = _
    rw [← Go.Lib.contains_iff_indexByte]
    have he : (s.extract 0 ((s.size : Int) - 1).toNat).data.toList = (bl s).take (s.size - 1) := by
      show bl _ = _
      rw [bl_ext, List.drop_zero]; congr 1; omega
    rw [he]
    by_cases hm : (10 : UInt8) ∈ (bl s).take (s.size - 1)
    · rw [List.contains_iff_mem.2 hm]; exact (decide_eq_false (fun g : lineP s => g.2.2 hm)).symm
    · have : ((bl s).take (s.size - 1)).contains 10 = false := by rw [← Bool.not_eq_true, List.contains_iff_mem]; exact hm
      rw [this]; exact (decide_eq_true (show lineP s from ⟨by omega, by omega, hm⟩)).symm
  · rw [bifF h]
    congr 1
    rw [eq_comm, decide_eq_false_iff_not]
    unfold lineP
    omega
theorem sEnds1 (s : ByteArray) (h1 : 1 ≤ s.size) (hs : s.size ≤ 1048577) : spec_l1Ends.f s = some (decide (endP s)) := by
  have hw : w64 ((s.size : Int) - 1) = ((s.size - 1 : Nat) : Int) := by rw [w64_id (by omega) (by omega)]; omega
  rw [spec_l1Ends.f_eq, hw, bif2T (by omega) (by omega), bt_bl]
  congr 1
  rw [decide_eq_decide, toNat10]
  exact ⟨fun h => ⟨h1, h⟩, fun h => h.2⟩
theorem sEnds (s : ByteArray) (h1 : 1 ≤ s.size) (hs : s.size ≤ 1048576) : spec_l1Ends.f s = some (decide (endP s)) := sEnds1 s h1 (by omega)
theorem iEnds1 (s : ByteArray) (hs : s.size ≤ 1048577) : impl_isEnded.f s = some (decide (endP s)) := by
  rw [impl_isEnded.f_eq, strings_HasSuffix.f_eq, internal_stringslite_HasSuffix.f_eq]
  have h10 : (⟨#[10]⟩ : ByteArray).size = 1 := rfl
  have hw : w64 ((s.size : Int) - 1) = (s.size : Int) - 1 := w64_id (by omega) (by omega)
  simp only [h10, Int.ofNat_one]
  by_cases h : (s.size : Int) ≥ 1
  · rw [hw, bifT h, bif2T (by omega) (by omega), sB, sB]
    congr 1
    rw [toList_beq, decide_eq_decide]
    have hb : bl (s.extract ((s.size : Int) - 1).toNat s.size) = [(bl s).getD (s.size - 1) 0] := by
      rw [bl_ext]
      have e : ((s.size : Int) - 1).toNat = s.size - 1 := by omega
      rw [e, drop_at (l := bl s) (i := s.size - 1) (by rw [bl_len]; omega) 0, show s.size - (s.size - 1) = 1 by omega]
      rfl
    constructor
    · intro g
      rw [g] at hb
      refine ⟨by omega, ?_⟩
      have : [(10 : UInt8)] = [(bl s).getD (s.size - 1) 0] := hb
      exact ((List.cons.inj this).1).symm
    · intro g
      refine bl_inj ?_
      rw [hb, g.2]; rfl
  · rw [bifF (by omega), sB, sB]
    congr 1
    rw [eq_comm, decide_eq_false_iff_not]
    unfold endP
    omega
theorem iEnds (s : ByteArray) (hs : s.size ≤ 1048576) : impl_isEnded.f s = some (decide (endP s)) := iEnds1 s (by omega)
def endsT : T → Bool
  | [] => true
  | s :: t => (t.isEmpty || decide (endP s)) && endsT t
def allLines (l : T) : Bool := l.all fun s => decide (lineP s)
theorem allLines_cons (s : ByteArray) (l : T) : allLines (s :: l) = (decide (lineP s) && allLines l) := rfl
def goodB (l : T) : Bool := decide (l.length ≤ 40) && allLines l && endsT l
theorem drop_empty {l : T} {i : Nat} (h : i < l.length) : (l.drop (i + 1)).isEmpty = decide (¬ (i : Int) < (l.length : Int) - 1) := by
  rw [Bool.eq_iff_iff, List.isEmpty_iff, List.drop_eq_nil_iff, decide_eq_true_eq]; omega
theorem iAre (l : T) (hl : Sm l) : impl_areLines.f l = some (decide (l.length ≤ 40) && allLines l) := by
  have hL := hl.1
  have idx : ∀ i, i ≤ l.length → ∃ r : Int, slices_IndexFunc_Lstring_string__impl_areLines_1.l4 l (l.length : Int) (i : Int) = some r ∧ (decide (r ≥ 0) = !(allLines (l.drop i))) := by
    apply downTo
    · refine ⟨-1, by rw [slices_IndexFunc_Lstring_string__impl_areLines_1.l4_eq, bifF (by omega)], ?_⟩
      rw [List.drop_eq_nil_of_le (by omega)]; rfl
    · intro i hlt ⟨r, hr, hp⟩
      have hi1 := up1 (i := i) (by omega)
      have hsz := hl.2 _ (getD_mem hlt em)
      rw [slices_IndexFunc_Lstring_string__impl_areLines_1.l4_eq, bifT (by omega), bif2T (by omega) (by omega), hi1]
      simp only [Int.toNat_natCast]
      rw [impl_areLines_1.f_eq, iLine _ hsz, sB, sB]
      by_cases h : lineP (l.getD i em)
      · refine ⟨r, by rw [bifNF h]; exact hr, ?_⟩
        rw [hp, drop_at hlt em, allLines_cons, decide_eq_true h, Bool.true_and]
      · refine ⟨(i : Int), by rw [bifNT h], ?_⟩
        rw [drop_at hlt em, allLines_cons, decide_eq_false h, Bool.false_and]; exact decide_eq_true (by omega)
  obtain ⟨r, hr, hp⟩ := idx 0 (by omega)
  rw [impl_areLines.f_eq, slices_ContainsFunc_Lstring_string__impl_areLines_1.f_eq, slices_IndexFunc_Lstring_string__impl_areLines_1.f_eq]
  by_cases h : l.length ≤ 40
  · rw [bifT (by omega)]
    refine bindEq (bindEq hr rfl) ?_
    rw [hp, decide_eq_true h]; simp
  · rw [bifF (by omega), decide_eq_false h]; rfl
theorem iGood (l : T) (hl : Sm l) : impl_goodLines.f l = some (goodB l) := by
  have hL := hl.1
  rw [impl_goodLines.f_eq, iAre l hl, sB]
  unfold goodB
  cases hg : (decide (l.length ≤ 40) && allLines l) with
  | false => rw [Bool.false_and, notF]
  | true =>
    rw [Bool.true_and, notT]
    have hw : w64 ((l.length : Int) - 1) = (l.length : Int) - 1 := w64_id (by omega) (by omega)
    have key : ∀ i, i ≤ l.length → impl_goodLines.l8 l l (l.length : Int) (i : Int) = some (endsT (l.drop i)) := by
      apply downTo
      · rw [impl_goodLines.l8_eq, bifF (by omega), List.drop_eq_nil_of_le (by omega)]; rfl
      · intro i hi ih
        have hi1 := up1 (i := i) (by omega)
        have hsz := hl.2 _ (getD_mem hi em)
        have he := drop_empty hi
        have hR : endsT (l.drop i) = ((decide (¬ (i : Int) < (l.length : Int) - 1) || decide (endP (l.getD i em))) && endsT (l.drop (i + 1))) := by
          rw [drop_at hi em]; simp only [endsT, he]
        rw [hR, impl_goodLines.l8_eq, hw, hi1, bifT (by omega), bif2T (by omega) (by omega)]
        simp only [Int.toNat_natCast]
        rw [iEnds _ hsz, sB, ih]
        by_cases h2 : (i : Int) < (l.length : Int) - 1
        · rw [bifT h2, decide_eq_false (show ¬ ¬ (i : Int) < (l.length : Int) - 1 from fun g => g h2), Bool.false_or]
          by_cases h3 : endP (l.getD i em)
          · rw [bifNF h3, decide_eq_true h3, Bool.true_and]
          · rw [bifNT h3, decide_eq_false h3, Bool.false_and]
        · rw [bifF h2, decide_eq_true h2, Bool.true_or, Bool.true_and]
    have := key 0 (by omega)
    rw [List.drop_zero] at this
    exact this
theorem sGood (l : T) (hl : Sm l) : spec_l1Good.f l = some (goodB l) := by
  have hL := hl.1
  have hw : w64 ((l.length : Int) - 1) = (l.length : Int) - 1 := w64_id (by omega) (by omega)
  have key : ∀ i, i ≤ l.length → spec_l1Good.l4 l l (l.length : Int) (i : Int) = some (decide (l.length ≤ 40) && allLines (l.drop i) && endsT (l.drop i)) := by
    apply downTo
    · rw [spec_l1Good.l4_eq, bifF (by omega), List.drop_eq_nil_of_le (by omega)]
      simp [allLines, endsT]
      omega
    · intro i hi ih
      have hi1 := up1 (i := i) (by omega)
      have hd := drop_at hi em
      have hsz := hl.2 _ (getD_mem hi em)
      have he := drop_empty hi
      have hR : (decide (l.length ≤ 40) && allLines (l.drop i) && endsT (l.drop i)) = (decide (lineP (l.getD i em)) && ((decide (¬ (i : Int) < (l.length : Int) - 1) || decide (endP (l.getD i em))) && (decide (l.length ≤ 40) && allLines (l.drop (i + 1)) && endsT (l.drop (i + 1))))) := by
        rw [hd]
        simp only [allLines, endsT, List.all_cons, he]
        generalize decide (l.length ≤ 40) = a1
        generalize decide (lineP (l.getD i em)) = a2
        generalize (l.drop (i + 1)).all (fun s => decide (lineP s)) = a3
        generalize (decide (¬ (i : Int) < (l.length : Int) - 1) || decide (endP (l.getD i em))) = a4
        generalize endsT (l.drop (i + 1)) = a5
        cases a1 <;> cases a2 <;> cases a3 <;> cases a4 <;> cases a5 <;> rfl
      rw [hR, spec_l1Good.l4_eq, hw, hi1, bifT (by omega), bif2T (by omega) (by omega)]
      simp only [Int.toNat_natCast]
      rw [sLine _ hsz, sB, ih]
      by_cases h1 : lineP (l.getD i em)
      · rw [bifNF h1, decide_eq_true h1, Bool.true_and]
        by_cases h2 : (i : Int) < (l.length : Int) - 1
        · rw [bifT h2, decide_eq_false (show ¬ ¬ (i : Int) < (l.length : Int) - 1 from fun g => g h2), Bool.false_or, sEnds _ h1.1 hsz, sB]
          by_cases h3 : endP (l.getD i em)
          · rw [bifNF h3, decide_eq_true h3, Bool.true_and]
          · rw [bifNT h3, decide_eq_false h3, Bool.false_and]
        · rw [bifF h2, decide_eq_true h2, Bool.true_or, Bool.true_and]
      · rw [bifNT h1, decide_eq_false h1, Bool.false_and]
  have := key 0 (by omega)
  rw [List.drop_zero] at this
  rw [spec_l1Good.f_eq]
  exact this
theorem good_len {l : T} (h : goodB l = true) : l.length ≤ 40 := by
  unfold goodB at h
  simp only [Bool.and_eq_true, decide_eq_true_eq] at h
  exact h.1.1
def nmcI (x : Int) : Bool := !((decide (x < 97) || decide (x > 122)) && ((decide (x < 48) || decide (x > 57)) && ((!decide (x = 46)) && (!decide (x = 47)))))
def CS : ByteArray := ⟨#[97, 98, 99, 100, 101, 102, 103, 104, 105, 106, 107, 108, 109, 110, 111, 112, 113, 114, 115, 116, 117, 118, 119, 120, 121, 122, 48, 49, 50, 51, 52, 53, 54, 55, 56, 57, 46, 47]⟩
def nmc (b : UInt8) : Bool := nmcI (b.toNat : Int)
def nameB (s : ByteArray) : Bool := (bl s).all nmc && decide (1 ≤ (s.size : Int) ∧ (s.size : Int) ≤ 12)
theorem cs_all : (List.range 256).all (fun n => CS.data.toList.contains (UInt8.ofNat n) == nmcI ((n : Nat) : Int)) = true := by decide +kernel
theorem cs_nmc (b : UInt8) : CS.data.toList.contains b = nmc b := by
  have h := List.all_eq_true.1 cs_all b.toNat (by rw [List.mem_range]; exact b.toNat_lt)
  rw [beq_iff_eq] at h
  rw [UInt8.ofNat_toNat] at h
  exact h
theorem dropWhile_nil (p : UInt8 → Bool) : ∀ l : List UInt8, (l.dropWhile p).isEmpty = l.all p
  | [] => rfl
  | b :: l => by
    rw [List.dropWhile, List.all_cons]
    cases h : p b with
    | true => exact dropWhile_nil p l
    | false => rfl
theorem all_rev (p : UInt8 → Bool) (l : List UInt8) : l.reverse.all p = l.all p := by
  rw [Bool.eq_iff_iff, List.all_eq_true, List.all_eq_true]
  exact ⟨fun h x hx => h x (List.mem_reverse.2 hx), fun h x hx => h x (List.mem_reverse.1 hx)⟩
theorem dropWhile_head (p : UInt8 → Bool) : ∀ (l : List UInt8) (b : UInt8) (r : List UInt8), l.dropWhile p = b :: r → p b = false
  | c :: l, b, r, h => by
    rw [List.dropWhile] at h
    cases hc : p c with
    | true => rw [hc] at h; exact dropWhile_head p l b r h
    | false => rw [hc] at h; injection h with h1 _; rw [← h1]; exact hc
/-- what is left of a text without its ends is nothing just where all bytes are in the set -/
theorem trim_nil (l cs : List UInt8) : (Go.Lib.trimS l cs).isEmpty = l.all (cs.contains ·) := by
  unfold Go.Lib.trimS Go.Lib.trimLeftS
  rw [dropWhile_nil]
  unfold Go.Lib.trimRightS
  rw [all_rev, ← dropWhile_nil, ← all_rev]
  cases h : l.reverse.dropWhile (cs.contains ·) with
  | nil => rw [← dropWhile_nil, h]; rfl
  | cons b r =>
    have := dropWhile_head _ _ _ _ h
    have e : (b :: r).dropWhile (cs.contains ·) = b :: r := by rw [List.dropWhile, this]
    rw [e, ← dropWhile_nil, h]
theorem iName (s : ByteArray) (hs : s.size ≤ 1048576) : impl_isName.f s = some (nameB s) := by
  rw [impl_isName.f_eq, iIn, sB]
  unfold nameB
  by_cases h : 1 ≤ (s.size : Int) ∧ (s.size : Int) ≤ 12
  case neg => rw [bifF h, decide_eq_false h, Bool.and_false]
  have e : strings_Trim.f s CS = some ⟨(Go.Lib.trimS s.data.toList CS.data.toList).toArray⟩ := by
    show trim1 s CS = _
    unfold trim1
    rw [decide_eq_true (show s.size ≤ 1099511627776 by omega), show (decide (CS.size < 4294967281) && CS.data.toList.all (fun b => decide (b.toNat < 128))) = true by decide +kernel]; rfl
  rw [bifT h, decide_eq_true h, Bool.and_true]
  refine bindEq e ?_
  congr 1
  have hn := trim_nil s.data.toList CS.data.toList
  have e2 : (fun b => CS.data.toList.contains b) = nmc := funext cs_nmc
  rw [show (bl s).all nmc = s.data.toList.all (fun b => CS.data.toList.contains b) by rw [e2]; rfl, ← hn, toList_data, toList_data]
  cases Go.Lib.trimS s.data.toList CS.data.toList with
  | nil => rfl
  | cons b r => rfl
theorem sName (s : ByteArray) (hs : s.size ≤ 1048576) : spec_l15Name.f s = some (nameB s) := by
  have hbl := bl_len s
  have key : ∀ i, i ≤ s.size → spec_l15Name.l4 s (i : Int) = some (((bl s).drop i).all nmc && decide (1 ≤ (s.size : Int) ∧ (s.size : Int) ≤ 12)) := by
    apply downTo
    · rw [spec_l15Name.l4_eq, bifF (by omega), sIn, sB, List.drop_eq_nil_of_le (by omega)]; rfl
    · intro i hi ih
      rw [spec_l15Name.l4_eq, bifT (by omega), bif2T (by omega) (by omega), drop_at (by omega) 0, List.all_cons]
      have h7 : spec_l15Name.l7 s (i : Int) = some (((bl s).drop (i + 1)).all nmc && decide (1 ≤ (s.size : Int) ∧ (s.size : Int) ≤ 12)) := by
        rw [spec_l15Name.l7_eq, up1 (by omega), ih]
      rw [h7, bt_bl]
      unfold nmc nmcI
      generalize ((((bl s).getD i 0).toNat : Nat) : Int) = x
      cases decide (x < 97) <;> cases decide (x > 122) <;> cases decide (x < 48) <;> cases decide (x > 57) <;> cases decide (x = 46) <;> cases decide (x = 47) <;> simp
  rw [spec_l15Name.f_eq]
  exact key 0 (by omega)
theorem less_tri : ∀ a b : List UInt8, (!Op.bytesLess a b) = (Op.bytesLess b a || b == a)
  | [], [] => rfl
  | [], b :: y => by simp [Op.bytesLess]
  | a :: x, [] => by simp [Op.bytesLess]
  | a :: x, b :: y => by
    have ih := less_tri x y
    simp only [Op.bytesLess]
    by_cases h1 : a < b
    · have h2 : ¬ b < a := by rw [UInt8.lt_iff_toNat_lt] at h1 ⊢; omega
      have h3 : ¬ b = a := by intro e; rw [e, UInt8.lt_iff_toNat_lt] at h1; omega
      have h4 : ¬ a = b := fun e => h3 e.symm
      simp [h1, h2, h3, h4]
    · by_cases h2 : b < a
      · have h4 : ¬ a = b := by intro e; rw [e, UInt8.lt_iff_toNat_lt] at h2; omega
        simp [h1, h2, h4]
      · have h3 : a = b := by
          rw [UInt8.lt_iff_toNat_lt] at h1 h2
          exact UInt8.toNat_inj.1 (by omega)
        subst h3
        simp only [h1, decide_false, Bool.false_or, beq_self_eq_true, Bool.true_and, ih]
        simp
def ordB (a b : ByteArray) : Bool := Op.bytesLess a.toList b.toList
theorem leq_ord (a b : ByteArray) : (Op.bytesLess b.toList a.toList || b.toList == a.toList) = !ordB a b := (less_tri a.toList b.toList).symm
def prevOk (p : Option ByteArray) (s : ByteArray) : Bool := match p with
  | none => true
  | some q => ordB q s
theorem less_lt : ∀ x y : List UInt8, Op.bytesLess x y = decide (x < y)
  | [], [] => by simp [Op.bytesLess]
  | a :: x, [] => by simp [Op.bytesLess]
  | [], b :: y => by simp [Op.bytesLess]
  | a :: x, b :: y => by
    have ih := less_lt x y
    rw [Op.bytesLess, ih]
    simp only [List.cons_lt_cons_iff]
    by_cases h1 : a < b <;> by_cases h2 : a = b <;> by_cases h3 : x < y <;> simp [h1, h2, h3]
theorem ord_lt (a b : ByteArray) : ordB a b = true ↔ listOf a < listOf b := by
  unfold ordB
  rw [toList_data, toList_data, less_lt, decide_eq_true_eq]; rfl
theorem ord_trans {a b c : ByteArray} (h : ordB a b = true) (k : ordB b c = true) : ordB a c = true := by
  rw [ord_lt] at h k ⊢
  exact List.lt_trans h k
theorem ord_irrefl (a : ByteArray) : ¬ ordB a a = true := by
  rw [ord_lt]
  exact List.lt_irrefl _
theorem ord_asymm {a b : ByteArray} (h : ordB a b = true) : ¬ ordB b a = true := fun k => ord_irrefl a (ord_trans h k)
theorem ord_tri {a b : ByteArray} (h : ¬ ordB a b = true) : ordB b a = true ∨ b = a := by
  have := leq_ord a b
  rw [show ordB a b = false by cases hh : ordB a b with | true => exact absurd hh h | false => rfl] at this
  rw [Bool.not_false, Bool.or_eq_true] at this
  rcases this with h | h
  · exact .inl h
  · exact .inr (by rw [toList_beq] at h; exact of_decide_eq_true h)
/-- what stands in order has one form -/
theorem sorted_eq {α : Type} (key : α → ByteArray) : ∀ {l m : List α}, List.Pairwise (fun x y => ordB (key x) (key y) = true) l → List.Pairwise (fun x y => ordB (key x) (key y) = true) m → (∀ x, x ∈ l ↔ x ∈ m) → l = m
  | [], [], _, _, _ => rfl
  | [], y :: m, _, _, h => by have := (h y).2 (by simp); cases this
  | x :: l, [], _, _, h => by have := (h x).1 (by simp); cases this
  | x :: l, y :: m, h1, h2, h => by
    have hx : ∀ {z}, z ∈ l → ordB (key x) (key z) = true := fun hz => List.rel_of_pairwise_cons h1 hz
    have hy : ∀ {z}, z ∈ m → ordB (key y) (key z) = true := fun hz => List.rel_of_pairwise_cons h2 hz
    have e : x = y := by
      rcases List.mem_cons.1 ((h x).1 (by simp)) with e | e
      · exact e
      · rcases List.mem_cons.1 ((h y).2 (by simp)) with e' | e'
        · exact e'.symm
        · exact absurd (hx e') (ord_asymm (hy e))
    subst e
    rw [sorted_eq key (List.Pairwise.of_cons h1) (List.Pairwise.of_cons h2) fun z => by
      constructor
      · intro hz
        rcases List.mem_cons.1 ((h z).1 (List.mem_cons_of_mem _ hz)) with e | e
        · subst e; exact absurd (hx hz) (ord_irrefl _)
        · exact e
      · intro hz
        rcases List.mem_cons.1 ((h z).2 (List.mem_cons_of_mem _ hz)) with e | e
        · subst e; exact absurd (hy hz) (ord_irrefl _)
        · exact e]
/-- sorted, each once: the names in order -/
def uniqB (xs : T) : T := compactB (sortB xs)
theorem compact_mem (zs : List (List UInt8)) (x : List UInt8) : x ∈ Lib.compact zs ↔ x ∈ zs := by
  unfold Lib.compact Lib.compactUpTo
  rw [List.mem_map]
  have hg : ∀ j, j < zs.length → zs.toArray[j]! = zs.getD j [] := by
    intro j hj
    rw [getElem!_pos zs.toArray j (by simpa using hj), List.getD_eq_getElem?_getD, List.getElem?_eq_getElem hj]
    simp
  constructor
  · rintro ⟨j, hj, rfl⟩
    have hj' := List.mem_range.1 (List.mem_filter.1 hj).1
    rw [hg j hj']
    exact getD_mem hj' _
  · intro hx
    obtain ⟨j, hj, rfl⟩ := List.getElem_of_mem hx
    have key : ∀ j, j < zs.length → ∃ a, a ∈ (List.range zs.length).filter (Lib.keeps zs.toArray) ∧ zs.toArray[a]! = zs.toArray[j]! := by
      intro j
      induction j with
      | zero =>
        intro hj
        exact ⟨0, List.mem_filter.2 ⟨List.mem_range.2 hj, by simp [Lib.keeps]⟩, rfl⟩
      | succ j ih =>
        intro hj
        by_cases hk : Lib.keeps zs.toArray (j + 1) = true
        · exact ⟨j + 1, List.mem_filter.2 ⟨List.mem_range.2 hj, hk⟩, rfl⟩
        · obtain ⟨a, h1, h2⟩ := ih (by omega)
          refine ⟨a, h1, ?_⟩
          rw [h2]
          unfold Lib.keeps at hk
          have hk := fun h => hk (decide_eq_true h)
          have : zs.toArray[j + 1]! = zs.toArray[j + 1 - 1]! := by
            apply Classical.byContradiction
            intro hne
            exact hk (.inr hne)
          rw [this, Nat.add_sub_cancel]
    obtain ⟨a, h1, h2⟩ := key j hj
    refine ⟨a, h1, ?_⟩
    rw [h2, hg j hj, List.getD_eq_getElem?_getD, List.getElem?_eq_getElem hj]; rfl
theorem compact_sorted (zs : List (List UInt8)) (h : List.Pairwise (fun a b => a ≤ b) zs) : List.Pairwise (fun a b => a < b) (Lib.compact zs) := by
  unfold Lib.compact Lib.compactUpTo
  rw [List.pairwise_map]
  refine List.Pairwise.imp_of_mem ?_ (List.Pairwise.filter _ (List.pairwise_lt_range (n := zs.length)))
  intro i j hi hj hij
  have hi' := List.mem_range.1 (List.mem_filter.1 hi).1
  have hj' := List.mem_range.1 (List.mem_filter.1 hj).1
  have hk := (List.mem_filter.1 hj).2
  have hg : ∀ j, (hj : j < zs.length) → zs.toArray[j]! = zs[j] := by
    intro j hj
    rw [getElem!_pos zs.toArray j (by simpa using hj)]
    simp
  have hle : ∀ a b (ha : a < zs.length) (hb : b < zs.length), a ≤ b → zs[a] ≤ zs[b] := by
    intro a b ha hb hab
    rcases Nat.lt_or_eq_of_le hab with hlt | rfl
    · exact List.pairwise_iff_getElem.1 h a b ha hb hlt
    · exact List.le_refl _
  unfold Lib.keeps at hk
  have hk := of_decide_eq_true hk
  have hne : zs.toArray[j]! ≠ zs.toArray[j - 1]! := hk.resolve_left (by omega)
  rw [hg j hj', hg (j - 1) (by omega)] at hne
  rw [hg i hi', hg j hj']
  exact List.lt_of_le_of_lt (hle i (j - 1) hi' (by omega) (by omega)) (Std.lt_of_le_of_ne (hle (j - 1) j (by omega) hj' (by omega)) (Ne.symm hne))
theorem uniq_mem (xs : T) (x : ByteArray) : x ∈ uniqB xs ↔ x ∈ xs := by
  unfold uniqB compactB sortB
  have e : ((((xs.map listOf).mergeSort fun x y => decide (x ≤ y)).map strOfL).map listOf) = (xs.map listOf).mergeSort fun x y => decide (x ≤ y) := by
    rw [List.map_map]
    exact List.map_id _
  rw [e, List.mem_map]
  constructor
  · rintro ⟨y, hy, rfl⟩
    rw [compact_mem, (List.mergeSort_perm _ _).mem_iff, List.mem_map] at hy
    obtain ⟨z, hz, rfl⟩ := hy
    rw [strOf_list]; exact hz
  · intro hx
    refine ⟨listOf x, ?_, strOf_list x⟩
    rw [compact_mem, (List.mergeSort_perm _ _).mem_iff, List.mem_map]
    exact ⟨x, hx, rfl⟩
theorem uniq_sorted (xs : T) : List.Pairwise (fun x y => ordB x y = true) (uniqB xs) := by
  unfold uniqB compactB sortB
  have e : ((((xs.map listOf).mergeSort fun x y => decide (x ≤ y)).map strOfL).map listOf) = (xs.map listOf).mergeSort fun x y => decide (x ≤ y) := by
    rw [List.map_map]
    exact List.map_id _
  rw [e, List.pairwise_map]
  have hs := List.pairwise_mergeSort (le := fun x y : List UInt8 => decide (x ≤ y)) (fun a b c h k => decide_eq_true (List.le_trans (of_decide_eq_true h) (of_decide_eq_true k))) (fun a b => by
    rcases List.le_total a b with h | h
    · rw [decide_eq_true h]; rfl
    · rw [decide_eq_true h, Bool.or_true]) (xs.map listOf)
  refine List.Pairwise.imp ?_ (compact_sorted _ (List.Pairwise.imp (fun h => of_decide_eq_true h) hs))
  intro a b hab
  rw [ord_lt]
  exact hab
theorem uniq_len (xs : T) : (uniqB xs).length ≤ xs.length := by
  unfold uniqB compactB
  rw [List.length_map]
  refine Nat.le_trans (compact_le _) ?_
  rw [List.length_map, sortB_len]; exact Nat.le_refl _
theorem iSort (xs : T) (h : xs.length ≤ 1048576) : slices_Sort_Lstring_string.f xs = some (sortB xs) := by
  show sort1 xs = _
  unfold sort1
  rw [bifT (by omega)]
theorem iCompact (xs : T) (h : xs.length ≤ 1048576) : slices_Compact_Lstring_string.f xs = some (compactB xs) := by
  show compact1 xs = _
  unfold compact1
  rw [bifT (by omega)]
theorem iConcat (a b : List (ByteArray × T)) (h : a.length + b.length ≤ 1048576) : slices_Concat_Limpl_File_impl_File.f [a, b] = some (a ++ b) := by
  unfold slices_Concat_Limpl_File_impl_File.f catOk
  rw [decide_eq_true (show [a, b].length = 2 from rfl), decide_eq_true (show ([a, b].getD 0 []).length + ([a, b].getD 1 []).length ≤ 1048576 from h)]; rfl
abbrev YFile := ByteArray × List (ByteArray)
abbrev yFile : YFile := (em, [])
/-- what it takes of what is left -/
def mFile (x : YFile) : Nat := x.1.size + mStringS x.2
/-- how many marks -/
def cFile (x : YFile) : Nat := 1 + cStringS x.2
/-- how large -/
def zFile (x : YFile) : Nat := 1 + zStringS x.2
def BgFile (x : YFile) : Prop := x.1.size ≤ 140737488351232 ∧ BgStringS x.2
noncomputable def mkFile (x : YFile) (k : Int) : YFile := (mk (k), mkStringS x.2 (k + 1))
theorem czFile (x : YFile) : cFile x ≤ zFile x := by
  unfold cFile zFile
  have h0 := czStringS x.2
  omega
theorem zmFile (x : YFile) : zFile x ≤ 7 + 8 * mFile x := by
  unfold zFile mFile
  have h0 := zmStringS x.2
  omega
theorem bdFile (x : YFile) (h : Bd (.pair .str (.one (.list .str))) x) : BgFile x := ⟨h.1, bdStringS _ h.2⟩
theorem szFile (x : YFile) (left : Int) (hb : BgFile x) (h0 : 0 ≤ left) (h1 : left ≤ 1048576) : laws_szFile.f x left = some (szR (mFile x) left) := by
  rw [laws_szFile.f_eq]
  refine (szLeaf _ left hb.1 h0 h1 (fun l => (laws_szStringS.f x.2 l).bind fun y1 => bif decide (y1 < 0) then some (-1) else some y1) (some (-1))).trans ?_
  rw [show mFile x = x.1.size + mStringS x.2 from rfl]
  by_cases g : szR (x.1.size) left < 0
  · rw [bifT g]; rw [szR_lt _ _ h0] at g; rw [szR_neg (by omega)]
  have g1 := szR_le (x.1.size) left h0
  rw [bifF g, szStringS _ _ hb.2 (by omega) (by omega), sB]
  rw [← szR_add (x.1.size) (mStringS x.2) left, bifF g]
  by_cases g2 : szR (mStringS x.2) (szR (x.1.size) left) < 0
  · rw [bifT g2]; rw [szR_lt _ _ (by omega)] at g2; rw [szR_neg g2]
  · rw [bifF g2]
theorem toFile (x : YFile) (hb : mFile x ≤ 1048576) : laws_toFile.f x = some x := by
  have hb2 : x.1.size + mStringS x.2 ≤ 1048576 := hb
  rw [laws_toFile.f_eq]
  rw [toStringS _ (by omega), sB]
theorem eqFile (x : YFile) (hb : zFile x ≤ 4398046511104) : laws_eqFile.f x x = some true := by
  have hb2 : 1 + zStringS x.2 ≤ 4398046511104 := hb
  rw [laws_eqFile.f_eq]
  rw [toList_beq, bifNF rfl]
  rw [eqStringS _ (by omega), sB, notT]
abbrev YFileS := List YFile
def mFileS (a : YFileS) : Nat := a.length + tot mFile a
def cFileS (a : YFileS) : Nat := tot cFile a
def zFileS (a : YFileS) : Nat := a.length + tot zFile a
def BgFileS (a : YFileS) : Prop := a.length ≤ 140737488351232 ∧ ∀ x ∈ a, BgFile x
theorem czFileS (a : YFileS) : cFileS a ≤ zFileS a := by
  have h := tot_mono cFile zFile (fun x => czFile x) a
  unfold cFileS zFileS
  omega
theorem zmFileS (a : YFileS) : zFileS a ≤ 8 * mFileS a := by
  have h := tot_seven zFile mFile (fun x => zmFile x) a
  unfold zFileS mFileS
  omega
theorem bdFileS (x : YFileS) (h : Bd (.list (.pair .str (.one (.list .str)))) x) : BgFileS x := ⟨h.1, fun y hy => bdFile y (h.2 y hy)⟩
theorem szFileS (a : YFileS) (left : Int) (hb : BgFileS a) (h0 : 0 ≤ left) (h1 : left ≤ 1048576) : laws_szFileS.f a left = some (szR (mFileS a) left) := by
  obtain ⟨hb1, hb2⟩ := hb
  rw [laws_szFileS.f_eq]
  refine szTop hb1 h0 h1 (fun l => laws_szFileS.l10 a l 0) fun l h0 h1 => ?_
  refine szGo yFile mFile a (fun l i => laws_szFileS.l10 a l i) (fun l => by show laws_szFileS.l10 a l _ = _; rw [laws_szFileS.l10_eq, bifF (by omega)]) (fun i l hi h2 h3 => ?_) l h0 h1
  have hm := hb2 _ (getD_mem hi yFile)
  show laws_szFileS.l10 a l _ = _
  rw [laws_szFileS.l10_eq, bifT (by omega), bif2T (by omega) (by omega), up1 (by omega)]
  simp only [Int.toNat_natCast]
  rw [szFile _ l hm h2 h3, sB]
theorem toFileS (a : YFileS) (hb : mFileS a ≤ 1048576) : laws_toFileS.f a = some a := by
  have hb2 : a.length + tot mFile a ≤ 1048576 := hb
  rw [laws_toFileS.f_eq, show room 40 = 3518437208883 from by decide, bif2T (by omega) (by omega)]
  refine toGo yFile a (fun out i => laws_toFileS.l6 a out i) (fun out => by show laws_toFileS.l6 a out _ = _; rw [laws_toFileS.l6_eq, bifF (by omega)]) (fun i out hi hl => ?_) _ (by simp)
  show laws_toFileS.l6 a out _ = _
  rw [laws_toFileS.l6_eq, bifT (by omega), bif2T (by omega) (by omega)]
  simp only [Int.toNat_natCast]
  have hm : mFile (a.getD i (em, [])) ≤ tot mFile a := tot_mem mFile (getD_mem hi _)
  rw [toFile _ (by omega), sB]
  rw [bif2T (by omega) (by omega), up1 (by omega)]
theorem eqFileS (a : YFileS) (hb : zFileS a ≤ 4398046511104) : laws_eqFileS.f a a = some true := by
  have hb2 : a.length + tot zFile a ≤ 4398046511104 := hb
  rw [laws_eqFileS.f_eq, bifNF rfl]
  refine eqGo (n := a.length) (fun i => laws_eqFileS.l8 a a i) (by show laws_eqFileS.l8 a a _ = _; rw [laws_eqFileS.l8_eq, bifF (by omega)]) fun i hi => ?_
  show laws_eqFileS.l8 a a _ = _
  rw [laws_eqFileS.l8_eq, bifT (by omega), bif2T (by omega) (by omega), bif2T (by omega) (by omega), up1 (by omega)]
  simp only [Int.toNat_natCast]
  have hm : zFile (a.getD i (em, [])) ≤ tot zFile a := tot_mem zFile (getD_mem hi _)
  rw [eqFile _ (by omega), sB, notT]
noncomputable def mkFileS : YFileS → Int → YFileS := mkL cFile mkFile
theorem markFileS (a : YFileS) (k : Int) (h0 : 0 ≤ k) (hk : k + cFileS a ≤ 8796093022208) (hb : zFileS a ≤ 4398046511104) : laws_markFileS.f a k = some (k + cFileS a, mkFileS a k) := by
  have hb2 : a.length + tot zFile a ≤ 4398046511104 := hb
  rw [laws_markFileS.f_eq]
  refine markGo (fun x => zFile x ≤ 4398046511104) cFile mkFile (fun a k i => laws_markFileS.l4 a k i) (fun a k => by show laws_markFileS.l4 a k _ = _; rw [laws_markFileS.l4_eq, bifF (by omega)]) (fun pre x r k hp hk hc hl => ?_) a [] k (fun x hx => by have := tot_mem zFile hx; omega) h0 hk (by simp; omega)
  have hz : 1 + zStringS x.2 ≤ 4398046511104 := hp
  have hc2 : k + ((1 + cStringS x.2 : Nat) : Int) ≤ 8796093022208 := hc
  have e0 : w64 (k + 1) = k + 1 := by rw [w64_id (by omega) (by omega)]
  have f0 : laws_markText.f (k) = some (mk (k)) := mk_eq (by omega)
  have f1 : laws_markStringS.f x.2 (k + 1) = some (k + 1 + cStringS x.2, mkStringS x.2 (k + 1)) := markStringS _ _ (by omega) (by omega) (by omega)
  have eu := up1 (i := pre.length) (by omega)
  show laws_markFileS.l4 _ k _ = laws_markFileS.l4 _ (k + (cFile x : Int)) _
  rw [laws_markFileS.l4_eq]
  simp only [List.length_append, List.length_cons, List.length_nil, in0, inMid2, Bool.and_true, cond_true, Int.toNat_natCast, getD_mid, set_mid, eu, sB, e0, f0, f1, mkFile]
  all_goals (
    have ec : (cFile x : Int) = 1 + (cStringS x.2 : Int) := by simp only [cFile]; omega
    rw [ec]
    congr 1 <;> omega)
def fileOk (x : YFile) : Bool := nameB x.1 && goodB x.2
def fsB : Option ByteArray → YFileS → Bool
  | _, [] => true
  | p, x :: r => fileOk x && (prevOk p x.1 && fsB (some x.1) r)
def goodF (f : YFileS) : Bool := fsB none f && decide ((f.length : Int) ≤ 8)
def SmF (f : YFileS) : Prop := f.length ≤ 1048576 ∧ ∀ x ∈ f, x.1.size ≤ 1048576 ∧ Sm x.2
def pvF (f : YFileS) (i : Nat) : Option ByteArray := if i = 0 then none else some (f.getD (i - 1) (em, [])).1
theorem fs_step (f : YFileS) {i : Nat} (hi : i < f.length) : fsB (pvF f i) (f.drop i) = (fileOk (f.getD i (em, [])) && (prevOk (pvF f i) (f.getD i (em, [])).1 && fsB (pvF f (i + 1)) (f.drop (i + 1)))) := by
  have : pvF f (i + 1) = some (f.getD i (em, [])).1 := by unfold pvF; rw [if_neg (by omega)]; rfl
  rw [this, drop_at hi (em, [])]; rfl
theorem sFiles (f : YFileS) (hd : SmF f) : spec_l15Files.f f = some (goodF f) := by
  have hL := hd.1
  have key : ∀ i, i ≤ f.length → spec_l15Files.l4 f f (f.length : Int) (i : Int) = some (fsB (pvF f i) (f.drop i) && decide ((f.length : Int) ≤ 8)) := by
    apply downTo
    · rw [spec_l15Files.l4_eq, bifF (by omega), List.drop_eq_nil_of_le (by omega)]; rfl
    · intro i hi ih
      obtain ⟨h1, h2⟩ := hd.2 _ (getD_mem hi (em, []))
      rw [spec_l15Files.l4_eq, bifT (by omega), bif2T (by omega) (by omega), up1 (by omega), ih, fs_step f hi]
      simp only [Int.toNat_natCast]
      rw [sName _ h1, sB, sGood _ h2, sB]
      unfold fileOk
      cases nameB (f.getD i (em, [])).1 with
      | false => rfl
      | true =>
        cases goodB (f.getD i (em, [])).2 with
        | false => rfl
        | true =>
          rw [notT, notT, Bool.true_and, Bool.true_and]
          by_cases h0 : (i : Int) > 0
          · have hp : pvF f i = some (f.getD (i - 1) (em, [])).1 := by unfold pvF; rw [if_neg (by omega)]
            have hw : w64 ((i : Int) - 1) = ((i - 1 : Nat) : Int) := by rw [w64_id (by omega) (by omega)]; omega
            rw [bifT h0, hw, bif2T (by omega) (by omega), hp]
            simp only [Int.toNat_natCast, prevOk]
            show (bif !(ordB (f.getD (i - 1) (em, [])).1 (f.getD i (em, [])).1) then some false else _) = _
            cases ordB (f.getD (i - 1) (em, [])).1 (f.getD i (em, [])).1 <;> simp
          · have hp : pvF f i = none := by unfold pvF; rw [if_pos (by omega)]
            rw [bifF h0, hp]; rfl
  rw [spec_l15Files.f_eq]
  exact key 0 (by omega)
theorem iFiles (f : YFileS) (hd : SmF f) : impl_goodFiles.f f = some (goodF f) := by
  have hL := hd.1
  have key : ∀ i, i ≤ f.length → impl_goodFiles.l4 f f (f.length : Int) (i : Int) = some (fsB (pvF f i) (f.drop i) && decide ((f.length : Int) ≤ 8)) := by
    apply downTo
    · rw [impl_goodFiles.l4_eq, bifF (by omega), List.drop_eq_nil_of_le (by omega)]; rfl
    · intro i hi ih
      obtain ⟨h1, h2⟩ := hd.2 _ (getD_mem hi (em, []))
      rw [impl_goodFiles.l4_eq, bifT (by omega), bif2T (by omega) (by omega), up1 (by omega), ih, fs_step f hi]
      simp only [Int.toNat_natCast]
      rw [iName _ h1, sB, iGood _ h2, sB]
      unfold fileOk
      cases nameB (f.getD i (em, [])).1 with
      | false => rfl
      | true =>
        cases goodB (f.getD i (em, [])).2 with
        | false => rfl
        | true =>
          rw [notT, notT, Bool.true_and, Bool.true_and]
          by_cases h0 : (i : Int) > 0
          · have hp : pvF f i = some (f.getD (i - 1) (em, [])).1 := by unfold pvF; rw [if_neg (by omega)]
            have hw : w64 ((i : Int) - 1) = ((i - 1 : Nat) : Int) := by rw [w64_id (by omega) (by omega)]; omega
            rw [bifT h0, hw, bif2T (by omega) (by omega), hp]
            simp only [Int.toNat_natCast, prevOk]
            rw [leq_ord]
            cases ordB (f.getD (i - 1) (em, [])).1 (f.getD i (em, [])).1 <;> simp
          · have hp : pvF f i = none := by unfold pvF; rw [if_pos (by omega)]
            rw [bifF h0, hp]; rfl
  rw [impl_goodFiles.f_eq]
  exact key 0 (by omega)
theorem smF_of {f : YFileS} (h : mFileS f ≤ 1048576) : SmF f := by
  have h2 : f.length + tot mFile f ≤ 1048576 := h
  refine ⟨by omega, fun x hx => ?_⟩
  have h3 : mFile x ≤ tot mFile f := tot_mem mFile hx
  have h4 : mFile x = x.1.size + mStringS x.2 := rfl
  have h5 : mStringS x.2 = x.2.length + tot ByteArray.size x.2 := rfl
  exact ⟨by omega, by omega, fun s hs => by have := tot_mem ByteArray.size hs; omega⟩
abbrev Hk := Int × Int × T
abbrev hz : Hk := (0, 0, [])
/-- one hunk stands within -/
def okP (many : Int) (x : Hk) : Prop := 0 ≤ x.1 ∧ 0 ≤ x.2.1 ∧ x.1 + x.2.1 ≤ many
instance (many : Int) (x : Hk) : Decidable (okP many x) := by unfold okP; exact inferInstance
def oneB (many pe : Int) (x : Hk) : Bool := decide (okP many x ∧ ¬ (x.2.1 = 0 ∧ x.2.2.length = 0) ∧ x.2.2.length ≤ 40 ∧ pe < x.1) && allLines x.2.2
def hunksB (many : Int) : Int → List Hk → Bool
  | _, [] => true
  | pe, x :: r => oneB many pe x && hunksB many (x.1 + x.2.1) r
def peOf (h : List Hk) (i : Nat) : Int := if i = 0 then -1 else (h.getD (i - 1) hz).1 + (h.getD (i - 1) hz).2.1
/-- of a size that is let through -/
def HkSm (g : List Hk) : Prop := g.length ≤ 1048576 ∧ ∀ h ∈ g, Sm h.2.2
theorem pe_succ (h : List Hk) (i : Nat) : peOf h (i + 1) = (h.getD i hz).1 + (h.getD i hz).2.1 := by unfold peOf; rw [if_neg (by omega)]; rfl
theorem hB_step (many : Int) (h : List Hk) {i : Nat} (hi : i < h.length) : hunksB many (peOf h i) (h.drop i) = (oneB many (peOf h i) (h.getD i hz) && hunksB many (peOf h (i + 1)) (h.drop (i + 1))) := by
  rw [drop_at hi hz, pe_succ]; rfl
theorem sHunks (many : Int) (h : List Hk) (h0 : 0 ≤ many) (h1 : many ≤ 1048576) (hs : HkSm h) : spec_l2Hunks.f many h = some (hunksB many (-1) h && (decide (h.length ≤ 20) && decide (many ≤ 40))) := by
  have hL := hs.1
  have lines : ∀ (l : T), Sm l → ∀ (i : Nat) (R : Bool), i < h.length → spec_l2Hunks.l4 many h h (h.length : Int) ((i + 1 : Nat) : Int) = some R → ∀ k, k ≤ l.length → spec_l2Hunks.l14 many h h (h.length : Int) (i : Int) l (l.length : Int) (k : Int) = some (allLines (l.drop k) && R) := by
    intro l hl i R hi hR
    have hl1 := hl.1
    apply downTo
    · rw [spec_l2Hunks.l14_eq, bifF (by omega), up1 (by omega), hR, List.drop_eq_nil_of_le (by omega)]; rfl
    · intro k hk ih
      rw [spec_l2Hunks.l14_eq, bifT (by omega), bif2T (by omega) (by omega), up1 (i := k) (by omega)]
      simp only [Int.toNat_natCast]
      rw [sLine _ (hl.2 _ (getD_mem hk em)), sB, ih, drop_at hk em, allLines_cons]
      by_cases hp : lineP (l.getD k em)
      · rw [bifNF hp, decide_eq_true hp, Bool.true_and]
      · rw [bifNT hp, decide_eq_false hp, Bool.false_and, Bool.false_and]
  have key : ∀ i, i ≤ h.length → (0 < i → okP many (h.getD (i - 1) hz)) → spec_l2Hunks.l4 many h h (h.length : Int) (i : Int) = some (hunksB many (peOf h i) (h.drop i) && (decide (h.length ≤ 20) && decide (many ≤ 40))) := by
    apply downTo
    · intro _
      rw [spec_l2Hunks.l4_eq, bifF (by omega), List.drop_eq_nil_of_le (by omega)]
      show _ = some (true && _)
      rw [Bool.true_and]
      by_cases hl : h.length ≤ 20
      · rw [bifT (by omega), sIn, sB, decide_eq_true hl, Bool.true_and]
        congr 1; rw [decide_eq_decide]; omega
      · rw [bifF (by omega), decide_eq_false hl]; rfl
    · intro i hi ih hprev
      have hsm := hs.2 _ (getD_mem hi hz)
      have hsl := hsm.1
      rw [hB_step many h hi, spec_l2Hunks.l4_eq, bifT (by omega), bif2T (by omega) (by omega)]
      obtain ⟨⟨x1, x2, x3⟩, hx⟩ : ∃ x : Hk, h.getD i (0, 0, []) = x := ⟨_, rfl⟩
      simp only [Int.toNat_natCast, hx]
      rw [show h.getD i hz = (x1, x2, x3) from hx] at hsm hsl
      simp only at hsm hsl
      have fl : ∀ {P : Prop}, ¬ (okP many (x1, x2, x3) ∧ ¬ (x2 = 0 ∧ x3.length = 0) ∧ x3.length ≤ 40 ∧ peOf h i < x1) → some false = some (oneB many (peOf h i) (x1, x2, x3) && hunksB many (peOf h (i + 1)) (h.drop (i + 1)) && (decide (h.length ≤ 20) && decide (many ≤ 40))) := by
        intro P hn
        unfold oneB
        rw [decide_eq_false hn, Bool.false_and, Bool.false_and, Bool.false_and]
      by_cases c1 : x1 < 0
      · rw [bifT c1]; exact fl (P := True) (by unfold okP; simp only; omega)
      rw [bifF c1]
      by_cases c2 : x2 < 0
      · rw [bifT c2]; exact fl (P := True) (by unfold okP; simp only; omega)
      rw [bifF c2]
      by_cases c3 : x2 > many
      · rw [bifT c3]; exact fl (P := True) (by unfold okP; simp only; omega)
      rw [bifF c3, w64_id (x := many - x2) (by omega) (by omega)]
      by_cases c4 : x1 > many - x2
      · rw [bifT c4]; exact fl (P := True) (by unfold okP; simp only; omega)
      rw [bifF c4, w64_id (x := x2 + (x3.length : Int)) (by omega) (by omega)]
      by_cases c5 : x2 + (x3.length : Int) = 0
      · rw [bifT c5]; exact fl (P := True) (by omega)
      rw [bifF c5]
      by_cases c6 : (x3.length : Int) > 40
      · rw [bifT c6]; exact fl (P := True) (by omega)
      rw [bifF c6]
      have hok : okP many (x1, x2, x3) := by unfold okP; simp only; omega
      have nxt := ih (fun _ => by rw [Nat.add_sub_cancel, show h.getD i hz = (x1, x2, x3) from hx]; exact hok)
      have go : peOf h i < x1 → spec_l2Hunks.l13 many h (x1, x2, x3) h (h.length : Int) (i : Int) = some (oneB many (peOf h i) (x1, x2, x3) && hunksB many (peOf h (i + 1)) (h.drop (i + 1)) && (decide (h.length ≤ 20) && decide (many ≤ 40))) := by
        intro hp
        rw [spec_l2Hunks.l13_eq]
        have := lines x3 hsm i _ hi nxt 0 (by omega)
        rw [List.drop_zero] at this
        refine this.trans ?_
        unfold oneB
        rw [decide_eq_true (show okP many (x1, x2, x3) ∧ ¬ (x2 = 0 ∧ x3.length = 0) ∧ x3.length ≤ 40 ∧ peOf h i < x1 from ⟨hok, by omega, by omega, hp⟩), Bool.true_and, Bool.and_assoc]
      by_cases c7 : (i : Int) > 0
      · have hpr := hprev (by omega)
        unfold okP at hpr
        have hd : w64 ((i : Int) - 1) = ((i - 1 : Nat) : Int) := dn1 (by omega) (by omega)
        have hpe : peOf h i = (h.getD (i - 1) hz).1 + (h.getD (i - 1) hz).2.1 := by unfold peOf; rw [if_neg (by omega)]
        have hw9 : w64 ((h.getD (i - 1) ((0, 0, []) : Hk)).1 + (h.getD (i - 1) ((0, 0, []) : Hk)).2.1) = peOf h i := by
          show w64 ((h.getD (i - 1) hz).1 + (h.getD (i - 1) hz).2.1) = _
          rw [hpe]; exact w64_id (by omega) (by omega)
        simp only [hd, Int.toNat_natCast, hw9]
        rw [bifT c7, bif2T (by omega) (by omega), bif2T (by omega) (by omega)]
        by_cases c8 : x1 ≤ peOf h i
        · rw [bifT c8]; exact fl (P := True) (by omega)
        · rw [bifF c8]; exact go (by omega)
      · rw [bifF c7]
        have : i = 0 := by omega
        exact go (by unfold peOf; rw [if_pos this]; omega)
  rw [spec_l2Hunks.f_eq]
  exact key 0 (by omega) (fun h => absurd h (Nat.lt_irrefl 0))
theorem iHunks (many : Int) (h : List Hk) (h0 : 0 ≤ many) (h1 : many ≤ 1048576) (hs : HkSm h) : impl_goodHunks.f many h = some (hunksB many (-1) h && (decide (h.length ≤ 20) && decide (many ≤ 40))) := by
  have hL := hs.1
  have key : ∀ i, i ≤ h.length → (0 < i → okP many (h.getD (i - 1) hz)) → impl_goodHunks.l8 many h h (h.length : Int) (i : Int) = some (hunksB many (peOf h i) (h.drop i)) := by
    apply downTo
    · intro _
      rw [impl_goodHunks.l8_eq, bifF (by omega), List.drop_eq_nil_of_le (by omega)]; rfl
    · intro i hi ih hprev
      have hsm := hs.2 _ (getD_mem hi hz)
      have hsl := hsm.1
      rw [hB_step many h hi, impl_goodHunks.l8_eq, bifT (by omega), bif2T (by omega) (by omega)]
      obtain ⟨⟨x1, x2, x3⟩, hx⟩ : ∃ x : Hk, h.getD i (0, 0, []) = x := ⟨_, rfl⟩
      simp only [Int.toNat_natCast, hx]
      rw [show h.getD i hz = (x1, x2, x3) from hx] at hsm hsl
      simp only at hsm hsl
      have fl : ∀ {P : Prop}, ¬ (okP many (x1, x2, x3) ∧ ¬ (x2 = 0 ∧ x3.length = 0) ∧ x3.length ≤ 40 ∧ peOf h i < x1) → some false = some (oneB many (peOf h i) (x1, x2, x3) && hunksB many (peOf h (i + 1)) (h.drop (i + 1))) := by
        intro P hn
        unfold oneB
        rw [decide_eq_false hn, Bool.false_and, Bool.false_and]
      rw [iIn, sB]
      by_cases c1 : 0 ≤ x1 ∧ x1 ≤ many
      case neg => rw [bifNT c1]; exact fl (P := True) (by unfold okP; simp only; omega)
      rw [bifNF c1, w64_id (x := many - x1) (by omega) (by omega), iIn, sB]
      by_cases c2 : 0 ≤ x2 ∧ x2 ≤ many - x1
      case neg => rw [bifNT c2]; exact fl (P := True) (by unfold okP; simp only; omega)
      rw [bifNF c2, iAre _ hsm, sB]
      have hok : okP many (x1, x2, x3) := by unfold okP; simp only; omega
      have nxt := ih (fun _ => by rw [Nat.add_sub_cancel, show h.getD i hz = (x1, x2, x3) from hx]; exact hok)
      by_cases c6 : x3.length ≤ 40
      case neg => rw [decide_eq_false c6, Bool.false_and, notF]; exact fl (P := True) (by omega)
      rw [decide_eq_true c6, Bool.true_and]
      cases hal : allLines x3 with
      | false => rw [notF]; unfold oneB; rw [hal, Bool.and_false, Bool.false_and]
      | true =>
        rw [notT]
        have one : ∀ (hp : ¬ (x2 = 0 ∧ x3.length = 0)), impl_goodHunks.l17 many h (i : Int) (x1, x2, x3) h (h.length : Int) (i : Int) = some (oneB many (peOf h i) (x1, x2, x3) && hunksB many (peOf h (i + 1)) (h.drop (i + 1))) := by
          intro hp
          rw [impl_goodHunks.l17_eq]
          by_cases c7 : (i : Int) > 0
          · have hpr := hprev (by omega)
            unfold okP at hpr
            have hd : w64 ((i : Int) - 1) = ((i - 1 : Nat) : Int) := dn1 (by omega) (by omega)
            have hpe : peOf h i = (h.getD (i - 1) hz).1 + (h.getD (i - 1) hz).2.1 := by unfold peOf; rw [if_neg (by omega)]
            have hw9 : w64 ((h.getD (i - 1) ((0, 0, []) : Hk)).1 + (h.getD (i - 1) ((0, 0, []) : Hk)).2.1) = peOf h i := by
              show w64 ((h.getD (i - 1) hz).1 + (h.getD (i - 1) hz).2.1) = _
              rw [hpe]; exact w64_id (by omega) (by omega)
            simp only [hd, Int.toNat_natCast, hw9]
            rw [bifT c7, bif2T (by omega) (by omega), bif2T (by omega) (by omega)]
            by_cases c8 : x1 ≤ peOf h i
            · rw [bifT c8]; exact fl (P := True) (by omega)
            · rw [bifF c8, up1 (by omega), nxt]
              unfold oneB
              rw [hal, decide_eq_true (show okP many (x1, x2, x3) ∧ ¬ (x2 = 0 ∧ x3.length = 0) ∧ x3.length ≤ 40 ∧ peOf h i < x1 from ⟨hok, hp, c6, by omega⟩)]; rfl
          · have hi0 : i = 0 := by omega
            have hp2 : peOf h i < x1 := by unfold peOf; rw [if_pos hi0]; omega
            rw [bifF c7, up1 (by omega), nxt]
            unfold oneB
            rw [hal, decide_eq_true (show okP many (x1, x2, x3) ∧ ¬ (x2 = 0 ∧ x3.length = 0) ∧ x3.length ≤ 40 ∧ peOf h i < x1 from ⟨hok, hp, c6, hp2⟩)]; rfl
        by_cases c9 : x2 = 0
        · rw [bifT c9]
          by_cases c10 : (x3.length : Int) = 0
          · rw [bifT c10]; exact fl (P := True) (by omega)
          · rw [bifF c10]; exact one (by omega)
        · rw [bifF c9]; exact one (by omega)
  rw [impl_goodHunks.f_eq, iIn, sB]
  by_cases hm : 0 ≤ many ∧ many ≤ 40
  · rw [bifNF hm, decide_eq_true (show many ≤ 40 from hm.2), Bool.and_true]
    by_cases hl : (h.length : Int) > 20
    · rw [bifT hl, decide_eq_false (show ¬ h.length ≤ 20 by omega), Bool.and_false]
    · rw [bifF hl, decide_eq_true (show h.length ≤ 20 by omega), Bool.and_true, impl_goodHunks.l7_eq]
      exact key 0 (by omega) (fun h => absurd h (Nat.lt_irrefl 0))
  · rw [bifNT hm, decide_eq_false (show ¬ many ≤ 40 by omega), Bool.and_false, Bool.and_false]
/-- what stands behind hunks, from a place on -/
def pat (l : T) : Nat → List Hk → T
  | k, [] => l.drop k
  | k, x :: r => ((l.take x.1.toNat).drop k ++ x.2.2) ++ pat l (x.1 + x.2.1).toNat r
/-- hunks are good for so many lines -/
def hunksG (many : Int) (h : List Hk) : Bool := hunksB many (-1) h && (decide (h.length ≤ 20) && decide (many ≤ 40))
def patchB (l : T) (h : List Hk) : T × Bool :=
  if goodB l = true ∧ hunksG (l.length : Int) h = true ∧ goodB (pat l 0 h) = true then (pat l 0 h, true) else ([], false)
theorem oneB_in {many pe : Int} {x : Hk} (h : oneB many pe x = true) : okP many x ∧ ¬ (x.2.1 = 0 ∧ x.2.2.length = 0) ∧ x.2.2.length ≤ 40 ∧ pe < x.1 ∧ allLines x.2.2 = true := by
  unfold oneB at h
  simp only [Bool.and_eq_true, decide_eq_true_eq] at h
  exact ⟨h.1.1, h.1.2.1, h.1.2.2.1, h.1.2.2.2, h.2⟩
theorem hunksB_cons {many pe : Int} {x : Hk} {r : List Hk} (h : hunksB many pe (x :: r) = true) : oneB many pe x = true ∧ hunksB many (x.1 + x.2.1) r = true := by
  have : (oneB many pe x && hunksB many (x.1 + x.2.1) r) = true := h
  rwa [Bool.and_eq_true] at this
theorem patchB_ok {l : T} {h : List Hk} (k : (patchB l h).2 = true) : goodB l = true ∧ hunksG (l.length : Int) h = true ∧ goodB (pat l 0 h) = true ∧ (patchB l h).1 = pat l 0 h := by
  unfold patchB at k ⊢
  split at k
  · rename_i hc; rw [if_pos hc]; exact ⟨hc.1, hc.2.1, hc.2.2, rfl⟩
  · cases k
theorem ownT (l : T) (h : l.length ≤ 1048576) : spec_l1OwnT.f l = some l := by
  rw [spec_l1OwnT.f_eq, room16, bifT (by simp; omega), List.nil_append]
theorem cloneT (l : T) (h : l.length ≤ 1048576) : slices_Clone_Lstring_string.f l = some l := by
  show clone1 16 l = _
  rw [clone1, room16, bifT (by omega)]
theorem sLeast (a b : Int) : spec_l1Least.f a b = some (min a b) := by
  rw [spec_l1Least.f_eq]
  by_cases h : a < b
  · rw [bifT h]; congr 1; omega
  · rw [bifF h]; congr 1; omega
abbrev YRow := Int × ByteArray
/-- how many marks -/
def cRow (x : YRow) : Nat := 1 + 1
/-- how large -/
def zRow (x : YRow) : Nat := 1 + 1
noncomputable def mkRow (x : YRow) (k : Int) : YRow := (k, mk (k + 1))
theorem czRow (x : YRow) : cRow x ≤ zRow x := by
  unfold cRow zRow
  exact Nat.le_refl _
theorem eqRow (x : YRow) (hb : zRow x ≤ 4398046511104) : laws_eqRow.f x x = some true := by
  have hb2 : 1 + 1 ≤ 4398046511104 := hb
  rw [laws_eqRow.f_eq]
  rw [bifNF rfl]
  rw [toList_beq, bifNF rfl]
abbrev YRowS := List YRow
def cRowS (a : YRowS) : Nat := tot cRow a
def zRowS (a : YRowS) : Nat := a.length + tot zRow a
theorem czRowS (a : YRowS) : cRowS a ≤ zRowS a := by
  have h := tot_mono cRow zRow (fun x => czRow x) a
  unfold cRowS zRowS
  omega
theorem eqRowS (a : YRowS) (hb : zRowS a ≤ 4398046511104) : laws_eqRowS.f a a = some true := by
  have hb2 : a.length + tot zRow a ≤ 4398046511104 := hb
  rw [laws_eqRowS.f_eq, bifNF rfl]
  refine eqGo (n := a.length) (fun i => laws_eqRowS.l8 a a i) (by show laws_eqRowS.l8 a a _ = _; rw [laws_eqRowS.l8_eq, bifF (by omega)]) fun i hi => ?_
  show laws_eqRowS.l8 a a _ = _
  rw [laws_eqRowS.l8_eq, bifT (by omega), bif2T (by omega) (by omega), bif2T (by omega) (by omega), up1 (by omega)]
  simp only [Int.toNat_natCast]
  have hm : zRow (a.getD i (0, em)) ≤ tot zRow a := tot_mem zRow (getD_mem hi _)
  rw [eqRow _ (by omega), sB, notT]
noncomputable def mkRowS : YRowS → Int → YRowS := mkL cRow mkRow
theorem markRowS (a : YRowS) (k : Int) (h0 : 0 ≤ k) (hk : k + cRowS a ≤ 8796093022208) (hb : zRowS a ≤ 4398046511104) : laws_markRowS.f a k = some (k + cRowS a, mkRowS a k) := by
  have hb2 : a.length + tot zRow a ≤ 4398046511104 := hb
  rw [laws_markRowS.f_eq]
  refine markGo (fun x => zRow x ≤ 4398046511104) cRow mkRow (fun a k i => laws_markRowS.l4 a k i) (fun a k => by show laws_markRowS.l4 a k _ = _; rw [laws_markRowS.l4_eq, bifF (by omega)]) (fun pre x r k hp hk hc hl => ?_) a [] k (fun x hx => by have := tot_mem zRow hx; omega) h0 hk (by simp; omega)
  have hz : 1 + 1 ≤ 4398046511104 := hp
  have hc2 : k + ((1 + 1 : Nat) : Int) ≤ 8796093022208 := hc
  have e0 : w64 (k + 1) = k + 1 := by rw [w64_id (by omega) (by omega)]
  have e1 : w64 (k + 1 + 1) = k + 2 := by rw [w64_id (by omega) (by omega)]; omega
  have f1 : laws_markText.f (k + 1) = some (mk (k + 1)) := mk_eq (by omega)
  have eu := up1 (i := pre.length) (by omega)
  show laws_markRowS.l4 _ k _ = laws_markRowS.l4 _ (k + (cRow x : Int)) _
  rw [laws_markRowS.l4_eq]
  simp only [List.length_append, List.length_cons, List.length_nil, in0, inMid2, Bool.and_true, cond_true, Int.toNat_natCast, getD_mid, set_mid, eu, sB, e0, e1, f1, mkRow]
  all_goals (
    have ec : (cRow x : Int) = 1 + 1 := by simp only [cRow]; omega
    rw [ec]
    congr 1 <;> omega)
theorem heldRowS (a : YRowS) (k : Int) (h0 : 0 ≤ k) (hk : k + cRowS a ≤ 8796093022208) (hb : zRowS a ≤ 4398046511104) : laws_heldRowS.f (mkRowS a k) k = some (k + cRowS a) := by
  have hb2 : a.length + tot zRow a ≤ 4398046511104 := hb
  rw [laws_heldRowS.f_eq]
  generalize hF : mkRowS a k = full
  refine heldGo (fun x => zRow x ≤ 4398046511104) cRow mkRow full (fun k i => laws_heldRowS.l4 full k i) (fun k => by show laws_heldRowS.l4 _ k _ = _; rw [laws_heldRowS.l4_eq, bifF (by omega)]) (fun pre x r k hf hp hk hc hl => ?_) a [] k hF.symm (fun x hx => by have := tot_mem zRow hx; omega) h0 hk (by simp; omega)
  have hz : 1 + 1 ≤ 4398046511104 := hp
  have hc2 : k + ((1 + 1 : Nat) : Int) ≤ 8796093022208 := hc
  have e0 : w64 (k + 1) = k + 1 := by rw [w64_id (by omega) (by omega)]
  have e1 : w64 (k + 1 + 1) = k + 2 := by rw [w64_id (by omega) (by omega)]; omega
  have f1 : laws_markText.f (k + 1) = some (mk (k + 1)) := mk_eq (by omega)
  have eu := up1 (i := pre.length) (by omega)
  show laws_heldRowS.l4 _ k _ = laws_heldRowS.l4 _ (k + (cRow x : Int)) _
  rw [laws_heldRowS.l4_eq, hf]
  simp only [mkRow]
  simp only [List.length_append, List.length_cons, List.length_nil, in0, inMid2, Bool.and_true, cond_true, Int.toNat_natCast, getD_mid, eu, sB, e0, e1, f1, toList_beq, decide_true, Bool.not_true, cond_false]
  all_goals (
    have ec : (cRow x : Int) = 1 + 1 := by simp only [cRow]; omega
    rw [ec]
    congr 1 <;> omega)
abbrev YGroup := Int × Int × List (Int × ByteArray)
/-- how many marks -/
def cGroup (x : YGroup) : Nat := 1 + 1 + cRowS x.2.2
/-- how large -/
def zGroup (x : YGroup) : Nat := 1 + 1 + zRowS x.2.2
noncomputable def mkGroup (x : YGroup) (k : Int) : YGroup := (k, k + 1, mkRowS x.2.2 (k + 2))
theorem czGroup (x : YGroup) : cGroup x ≤ zGroup x := by
  unfold cGroup zGroup
  have h0 := czRowS x.2.2
  omega
theorem eqGroup (x : YGroup) (hb : zGroup x ≤ 4398046511104) : laws_eqGroup.f x x = some true := by
  have hb2 : 1 + 1 + zRowS x.2.2 ≤ 4398046511104 := hb
  rw [laws_eqGroup.f_eq]
  rw [bifNF rfl]
  rw [bifNF rfl]
  rw [eqRowS _ (by omega), sB, notT]
def side (c : Int) : YRowS → T
  | [] => []
  | r :: l => if r.1 = c then side c l else r.2 :: side c l
theorem side_cons (c : Int) (r : YRow) (l : YRowS) : side c (r :: l) = if r.1 = c then side c l else r.2 :: side c l := rfl
theorem side_append (c : Int) : ∀ a b : YRowS, side c (a ++ b) = side c a ++ side c b
  | [], b => rfl
  | r :: a, b => by rw [List.cons_append, side_cons, side_cons, side_append c a b]; split <;> rfl
def rowsB : Int → YRowS → Bool
  | _, [] => true
  | p, r :: l => decide (1 ≤ r.1 ∧ r.1 ≤ 3) && (decide (lineP r.2) && (decide (¬ (r.1 = 2 ∧ p = 3)) && rowsB r.1 l))
def anyB : YRowS → Bool
  | [] => false
  | r :: l => (!decide (r.1 = 1)) || anyB l
/-- What is asked behind the rows. -/
def tl (g : YGroup) (s : Bool) : Bool :=
  s && (decide ((0 ≤ g.1 ∧ g.1 ≤ 999) ∧ (0 ≤ g.2.1 ∧ g.2.1 ≤ 999) ∧ g.1 + ((side 3 g.2.2).length : Int) ≤ 1000 ∧ g.2.1 + ((side 2 g.2.2).length : Int) ≤ 1000 ∧ g.2.2.length ≤ 80) && (goodB (side 3 g.2.2) && goodB (side 2 g.2.2)))
def groupB (g : YGroup) : Bool := rowsB 0 g.2.2 && tl g (anyB g.2.2)
theorem group_in {g : YGroup} (h : groupB g = true) : (0 ≤ g.1 ∧ g.1 ≤ 999) ∧ (0 ≤ g.2.1 ∧ g.2.1 ≤ 999) ∧ g.1 + ((side 3 g.2.2).length : Int) ≤ 1000 ∧ g.2.1 + ((side 2 g.2.2).length : Int) ≤ 1000 ∧ g.2.2.length ≤ 80 := by
  unfold groupB tl at h
  simp only [Bool.and_eq_true, decide_eq_true_eq] at h
  exact h.2.2.1
abbrev YGroupS := List YGroup
def cGroupS (a : YGroupS) : Nat := tot cGroup a
def zGroupS (a : YGroupS) : Nat := a.length + tot zGroup a
theorem czGroupS (a : YGroupS) : cGroupS a ≤ zGroupS a := by
  have h := tot_mono cGroup zGroup (fun x => czGroup x) a
  unfold cGroupS zGroupS
  omega
theorem eqGroupS (a : YGroupS) (hb : zGroupS a ≤ 4398046511104) : laws_eqGroupS.f a a = some true := by
  have hb2 : a.length + tot zGroup a ≤ 4398046511104 := hb
  rw [laws_eqGroupS.f_eq, bifNF rfl]
  refine eqGo (n := a.length) (fun i => laws_eqGroupS.l8 a a i) (by show laws_eqGroupS.l8 a a _ = _; rw [laws_eqGroupS.l8_eq, bifF (by omega)]) fun i hi => ?_
  show laws_eqGroupS.l8 a a _ = _
  rw [laws_eqGroupS.l8_eq, bifT (by omega), bif2T (by omega) (by omega), bif2T (by omega) (by omega), up1 (by omega)]
  simp only [Int.toNat_natCast]
  have hm : zGroup (a.getD i (0, 0, [])) ≤ tot zGroup a := tot_mem zGroup (getD_mem hi _)
  rw [eqGroup _ (by omega), sB, notT]
noncomputable def mkGroupS : YGroupS → Int → YGroupS := mkL cGroup mkGroup
theorem markGroupS (a : YGroupS) (k : Int) (h0 : 0 ≤ k) (hk : k + cGroupS a ≤ 8796093022208) (hb : zGroupS a ≤ 4398046511104) : laws_markGroupS.f a k = some (k + cGroupS a, mkGroupS a k) := by
  have hb2 : a.length + tot zGroup a ≤ 4398046511104 := hb
  rw [laws_markGroupS.f_eq]
  refine markGo (fun x => zGroup x ≤ 4398046511104) cGroup mkGroup (fun a k i => laws_markGroupS.l4 a k i) (fun a k => by show laws_markGroupS.l4 a k _ = _; rw [laws_markGroupS.l4_eq, bifF (by omega)]) (fun pre x r k hp hk hc hl => ?_) a [] k (fun x hx => by have := tot_mem zGroup hx; omega) h0 hk (by simp; omega)
  have hz : 1 + 1 + zRowS x.2.2 ≤ 4398046511104 := hp
  have hc2 : k + ((1 + 1 + cRowS x.2.2 : Nat) : Int) ≤ 8796093022208 := hc
  have e0 : w64 (k + 1) = k + 1 := by rw [w64_id (by omega) (by omega)]
  have e1 : w64 (k + 1 + 1) = k + 2 := by rw [w64_id (by omega) (by omega)]; omega
  have f2 : laws_markRowS.f x.2.2 (k + 2) = some (k + 2 + cRowS x.2.2, mkRowS x.2.2 (k + 2)) := markRowS _ _ (by omega) (by omega) (by omega)
  have eu := up1 (i := pre.length) (by omega)
  show laws_markGroupS.l4 _ k _ = laws_markGroupS.l4 _ (k + (cGroup x : Int)) _
  rw [laws_markGroupS.l4_eq]
  simp only [List.length_append, List.length_cons, List.length_nil, in0, inMid2, Bool.and_true, cond_true, Int.toNat_natCast, getD_mid, set_mid, eu, sB, e0, e1, f2, mkGroup]
  all_goals (
    have ec : (cGroup x : Int) = 1 + 1 + (cRowS x.2.2 : Int) := by simp only [cGroup]; omega
    rw [ec]
    congr 1 <;> omega)
theorem heldGroupS (a : YGroupS) (k : Int) (h0 : 0 ≤ k) (hk : k + cGroupS a ≤ 8796093022208) (hb : zGroupS a ≤ 4398046511104) : laws_heldGroupS.f (mkGroupS a k) k = some (k + cGroupS a) := by
  have hb2 : a.length + tot zGroup a ≤ 4398046511104 := hb
  rw [laws_heldGroupS.f_eq]
  generalize hF : mkGroupS a k = full
  refine heldGo (fun x => zGroup x ≤ 4398046511104) cGroup mkGroup full (fun k i => laws_heldGroupS.l4 full k i) (fun k => by show laws_heldGroupS.l4 _ k _ = _; rw [laws_heldGroupS.l4_eq, bifF (by omega)]) (fun pre x r k hf hp hk hc hl => ?_) a [] k hF.symm (fun x hx => by have := tot_mem zGroup hx; omega) h0 hk (by simp; omega)
  have hz : 1 + 1 + zRowS x.2.2 ≤ 4398046511104 := hp
  have hc2 : k + ((1 + 1 + cRowS x.2.2 : Nat) : Int) ≤ 8796093022208 := hc
  have e0 : w64 (k + 1) = k + 1 := by rw [w64_id (by omega) (by omega)]
  have e1 : w64 (k + 1 + 1) = k + 2 := by rw [w64_id (by omega) (by omega)]; omega
  have f2 : laws_heldRowS.f (mkRowS x.2.2 (k + 2)) (k + 2) = some (k + 2 + cRowS x.2.2) := heldRowS _ _ (by omega) (by omega) (by omega)
  have eu := up1 (i := pre.length) (by omega)
  show laws_heldGroupS.l4 _ k _ = laws_heldGroupS.l4 _ (k + (cGroup x : Int)) _
  rw [laws_heldGroupS.l4_eq, hf]
  simp only [mkGroup]
  have n2 : decide (k + 2 + (cRowS x.2.2 : Int) < 0) = false := decide_eq_false (by omega)
  simp only [List.length_append, List.length_cons, List.length_nil, in0, inMid2, Bool.and_true, cond_true, Int.toNat_natCast, getD_mid, eu, sB, e0, e1, f2, toList_beq, decide_true, Bool.not_true, cond_false, n2]
  all_goals (
    have ec : (cGroup x : Int) = 1 + 1 + (cRowS x.2.2 : Int) := by simp only [cGroup]; omega
    rw [ec]
    congr 1 <;> omega)
def gA (x : YGroup) : Int := x.1 + ((side 3 x.2.2).length : Int)
def gB (x : YGroup) : Int := x.2.1 + ((side 2 x.2.2).length : Int)
def groupsB : Int → Int → YGroupS → Bool
  | _, _, [] => true
  | a, b, x :: r => groupB x && (decide (a ≤ x.1 ∧ b ≤ x.2.1) && groupsB (gA x) (gB x) r)
def gsB (g : YGroupS) : Bool := groupsB 0 0 g && decide (g.length ≤ 20)
theorem groups_in : ∀ {g : YGroupS} {a b : Int}, groupsB a b g = true → ∀ x ∈ g, groupB x = true
  | y :: r, a, b, h, x, hx => by
    simp only [groupsB, Bool.and_eq_true] at h
    rcases List.mem_cons.1 hx with rfl | hx
    · exact h.1
    · exact groups_in h.2.2 x hx
theorem gs_len {g : YGroupS} (h : gsB g = true) : g.length ≤ 20 := by
  unfold gsB at h
  simp only [Bool.and_eq_true, decide_eq_true_eq] at h
  exact h.2
theorem gs_in {g : YGroupS} (h : gsB g = true) : ∀ x ∈ g, groupB x = true := by
  unfold gsB at h
  simp only [Bool.and_eq_true] at h
  exact groups_in h.1
theorem zRowS_le (l : YRowS) : zRowS l ≤ 3 * l.length := by
  have h : tot zRow l ≤ l.length * 2 := tot_le zRow 2 fun _ _ => Nat.le_refl _
  unfold zRowS; omega
theorem zGroupS_le (l : YGroupS) (n m : Nat) (h1 : l.length ≤ n) (h2 : ∀ x ∈ l, x.2.2.length ≤ m) : zGroupS l ≤ n + n * (2 + 3 * m) := by
  have h : tot zGroup l ≤ l.length * (2 + 3 * m) := tot_le zGroup (2 + 3 * m) fun x hx => by
    have := zRowS_le x.2.2
    have := h2 x hx
    unfold zGroup; omega
  have h3 : l.length * (2 + 3 * m) ≤ n * (2 + 3 * m) := Nat.mul_le_mul_right _ h1
  unfold zGroupS; omega
def rowsOf (k : Int) (l : T) : YRowS := l.map fun s => (k, s)
theorem rowsOf_len (k : Int) (l : T) : (rowsOf k l).length = l.length := by simp [rowsOf]
theorem sRows (k : Int) (l : T) (h : l.length ≤ 1048576) : spec_l6Rows.f k l = some (rowsOf k l) := by
  have key : ∀ i, i ≤ l.length → ∀ out : YRowS, out.length = i → spec_l6Rows.l6 k out l (l.length : Int) (i : Int) = some (out ++ rowsOf k (l.drop i)) := by
    apply downTo
    · intro out ho
      rw [spec_l6Rows.l6_eq, bifF (by omega), List.drop_eq_nil_of_le (by omega)]; simp [rowsOf]
    · intro i hi ih out ho
      rw [spec_l6Rows.l6_eq, bifT (by omega), bif2T (by omega) (by omega), up1 (by omega), room24]
      simp only [Int.toNat_natCast]
      rw [bifT (by simp only [List.length_singleton]; omega), ih _ (by rw [List.length_append, List.length_singleton, ho]), drop_at hi em]
      simp [rowsOf]
  rw [spec_l6Rows.f_eq]
  exact key 0 (by omega) [] rfl
/-- the rows of hunks, from a place on, up to another one -/
def body (l : T) (e : Nat) : Nat → List Hk → YRowS
  | k, [] => rowsOf 1 ((l.take e).drop k)
  | k, x :: r => ((rowsOf 1 ((l.take x.1.toNat).drop k) ++ rowsOf 2 ((l.take (x.1 + x.2.1).toNat).drop x.1.toNat)) ++ rowsOf 3 x.2.2) ++ body l e (x.1 + x.2.1).toNat r
def lastE (e : Int) : List Hk → Int
  | [] => e
  | x :: r => lastE (x.1 + x.2.1) r
def endG (l : T) (w : Int) (hs : List Hk) : Nat := (min (l.length : Int) (lastE 0 hs + w)).toNat
def fromG (w : Int) : List Hk → Int
  | [] => 0
  | x :: _ => max 0 (x.1 - w)
/-- one group of hunks -/
def oneG (l : T) (w m : Int) (hs : List Hk) : YGroup := (fromG w hs, fromG w hs + m, body l (endG l w hs) (fromG w hs).toNat hs)
theorem hunksB_last : ∀ {h : List Hk} {many pe : Int}, hunksB many pe h = true → pe ≤ many → pe ≤ lastE pe h ∧ lastE pe h ≤ many
  | [], many, pe, _, hm => ⟨Int.le_refl _, hm⟩
  | x :: r, many, pe, h, hm => by
    obtain ⟨h1, h2⟩ := hunksB_cons h
    obtain ⟨⟨q1, q2, q3⟩, q4, q5, q6, _⟩ := oneB_in h1
    have := hunksB_last h2 (by omega)
    simp only [lastE]; omega
theorem lastE_get : ∀ (h : List Hk) (e : Int), h ≠ [] → lastE e h = (h.getD (h.length - 1) (0, 0, [])).1 + (h.getD (h.length - 1) (0, 0, [])).2.1
  | [x], e, _ => rfl
  | x :: y :: r, e, _ => by
    have := lastE_get (y :: r) (x.1 + x.2.1) (by simp)
    rw [lastE, this]
    simp [List.getD]
theorem sOne (l : T) (hl : l.length ≤ 40) (w m : Int) (hw : 0 ≤ w ∧ w ≤ 20) (hm : -10000 ≤ m ∧ m ≤ 10000) (pe : Int) (hs : List Hk) (hn : hs ≠ []) (h20 : hs.length ≤ 20) (hb : hunksB (l.length : Int) pe hs = true) :
    spec_l6One.f l hs w m = some (oneG l w m hs) := by
  obtain ⟨x0, r0, rfl⟩ : ∃ x r, hs = x :: r := by cases hs with
    | nil => exact absurd rfl hn
    | cons x r => exact ⟨x, r, rfl⟩
  obtain ⟨b1, b2⟩ := hunksB_cons hb
  obtain ⟨⟨q1, q2, q3⟩, _, _, q6, _⟩ := oneB_in b1
  have hlast := lastE_get (x0 :: r0) 0 (by simp)
  have hle : 0 ≤ lastE 0 (x0 :: r0) ∧ lastE 0 (x0 :: r0) ≤ (l.length : Int) := by
    have := hunksB_last b2 (by omega)
    simp only [lastE]; omega
  have key : ∀ (rest pre : List Hk) (g : YGroup) (k : Nat) (pe : Int), x0 :: r0 = pre ++ rest → hunksB (l.length : Int) pe rest = true → (k : Int) ≤ lastE 0 (x0 :: r0) → (∀ x ∈ rest.head?, (k : Int) ≤ x.1) → (rest = [] → (k : Int) ≤ endG l w (x0 :: r0)) → g.2.2.length ≤ 120 * pre.length →
      spec_l6One.l12 l w (0, 0, []) ((x0 :: r0).getD ((x0 :: r0).length - 1) (0, 0, [])) g (k : Int) (x0 :: r0) ((x0 :: r0).length : Int) (pre.length : Int) = some (g.1, g.2.1, g.2.2 ++ body l (endG l w (x0 :: r0)) k rest) := by
    intro rest
    induction rest with
    | nil =>
      intro pre g k pe hf _ hk _ hke hg
      have hpl : (x0 :: r0).length = pre.length := by rw [hf]; simp
      have he : ((endG l w (x0 :: r0) : Nat) : Int) = min (l.length : Int) (lastE 0 (x0 :: r0) + w) := by unfold endG; omega
      rw [spec_l6One.l12_eq, bifF (by omega), ← hlast]
      rw [w64_id (x := lastE 0 (x0 :: r0)) (by omega) (by omega), w64_id (by omega) (by omega), sLeast, sB, ← he, bif3T (by omega) (by have := hke rfl; omega) (by omega)]
      simp only [Int.toNat_natCast]
      rw [sRows _ _ (by rw [List.length_drop, List.length_take]; omega), sB, room24, bifT (by rw [rowsOf_len, List.length_drop, List.length_take]; omega)]
      rfl
    | cons x r ih =>
      intro pre g k pe hf hb hk hx hke hg
      obtain ⟨c1, c2⟩ := hunksB_cons hb
      obtain ⟨⟨p1, p2, p3⟩, _, p5, p6, _⟩ := oneB_in c1
      have hkx : (k : Int) ≤ x.1 := hx x (by simp)
      have hpl : (x0 :: r0).length = pre.length + (r.length + 1) := by rw [hf]; simp
      have hg0 : (x0 :: r0).getD pre.length (0, 0, []) = x := by rw [hf]; exact getD_mid pre x r _
      have hxe : x.1 + x.2.1 ≤ lastE 0 (x0 :: r0) := by
        have e : ∀ (a b : List Hk) (e : Int), lastE e (a ++ b) = lastE (lastE e a) b := by
          intro a; induction a with
          | nil => intro b e; rfl
          | cons y a iha => intro b e; exact iha b _
        rw [hf, e]
        exact (hunksB_last c2 p3).1
      rw [spec_l6One.l12_eq, bifT (by omega), bif2T (by omega) (by omega), up1 (by omega), room24]
      simp only [Int.toNat_natCast, hg0]
      rw [bif3T (by omega) hkx (by omega), sRows _ _ (by rw [List.length_drop, List.length_take]; omega), sB, w64_id (x := x.1 + x.2.1) (by omega) (by omega)]
      rw [bifT (by rw [rowsOf_len, List.length_drop, List.length_take]; omega), bif3T p1 (by omega) p3, sRows _ _ (by rw [List.length_drop, List.length_take]; omega), sB]
      rw [bifT (by simp only [List.length_append, rowsOf_len, List.length_drop, List.length_take]; omega), sRows _ _ (by omega), sB]
      rw [bifT (by simp only [List.length_append, rowsOf_len, List.length_drop, List.length_take]; omega)]
      have := ih (pre ++ [x]) (g.1, g.2.1, ((g.2.2 ++ rowsOf 1 ((l.take x.1.toNat).drop k)) ++ rowsOf 2 ((l.take (x.1 + x.2.1).toNat).drop x.1.toNat)) ++ rowsOf 3 x.2.2) (x.1 + x.2.1).toNat (x.1 + x.2.1) (by rw [hf]; simp) c2 (by omega)
        (by
          intro y hy
          cases r with
          | nil => cases hy
          | cons z r =>
            simp only [List.head?_cons, Option.mem_def, Option.some.injEq] at hy
            subst hy
            have := oneB_in (hunksB_cons c2).1
            omega)
        (by
          intro hr
          subst hr
          have : lastE 0 (x0 :: r0) = x.1 + x.2.1 := by
            have e : ∀ (a b : List Hk) (e : Int), lastE e (a ++ b) = lastE (lastE e a) b := by
              intro a; induction a with
              | nil => intro b e; rfl
              | cons y a iha => intro b e; exact iha b _
            rw [hf, e]; rfl
          unfold endG; omega)
        (by simp only [List.length_append, rowsOf_len, List.length_drop, List.length_take, List.length_singleton]; omega)
      rw [Int.toNat_of_nonneg (by omega), List.length_append, List.length_singleton] at this
      rw [this]
      simp only [body, List.append_assoc]
  have hfr : fromG w (x0 :: r0) = max 0 (x0.1 - w) := rfl
  rw [spec_l6One.f_eq, bifT (by simp only [List.length_cons]; omega)]
  have hg0 : (x0 :: r0).getD 0 (0, 0, []) = x0 := rfl
  have hpos : 0 < (x0 :: r0).length := by simp
  have e1 : spec_l1Most.f 0 (x0.1 - w) = some (max 0 (x0.1 - w)) := by
    rw [spec_l1Most.f_eq]
    by_cases h : (0 : Int) > x0.1 - w
    · rw [bifT h]; congr 1; omega
    · rw [bifF h]; congr 1; omega
  rw [hg0, w64_id (by omega) (by omega), e1, sB, dn1 (i := (x0 :: r0).length) hpos (by omega), bif2T (by omega) (by omega)]
  simp only [Int.toNat_natCast]
  rw [w64_id (by omega) (by omega)]
  have hx0 : x0.1 + x0.2.1 ≤ lastE 0 (x0 :: r0) := (hunksB_last b2 q3).1
  have := key (x0 :: r0) [] (max 0 (x0.1 - w), max 0 (x0.1 - w) + m, []) (max 0 (x0.1 - w)).toNat pe rfl hb
    (by omega) (by intro y hy; simp only [List.head?_cons, Option.mem_def, Option.some.injEq] at hy; subst hy; omega) (by simp) (by simp)
  rw [Int.toNat_of_nonneg (by omega)] at this
  simp only [List.length_nil, List.nil_append] at this
  exact this
/-- how many hunks more stand near -/
def near (w : Int) : Int → List Hk → Nat
  | _, [] => 0
  | e, y :: r => if y.1 - e ≤ 2 * w then near w (y.1 + y.2.1) r + 1 else 0
def delta : List Hk → Int
  | [] => 0
  | x :: r => ((x.2.2.length : Int) - x.2.1) + delta r
theorem near_le (w : Int) : ∀ (r : List Hk) (e : Int), near w e r ≤ r.length
  | [], _ => Nat.le_refl _
  | y :: r, e => by
    have := near_le w r (y.1 + y.2.1)
    unfold near
    split
    · rw [List.length_cons]; omega
    · omega
/-- the groups -/
def grp (l : T) (w : Int) : Nat → Int → List Hk → YGroupS
  | 0, _, _ => []
  | _ + 1, _, [] => []
  | n + 1, m, x :: r => oneG l w m (x :: r.take (near w (x.1 + x.2.1) r)) :: grp l w n (m + delta (x :: r.take (near w (x.1 + x.2.1) r))) (r.drop (near w (x.1 + x.2.1) r))
theorem hunksB_split : ∀ {a b : List Hk} {many pe : Int}, hunksB many pe (a ++ b) = true → hunksB many pe a = true ∧ hunksB many (lastE pe a) b = true
  | [], b, many, pe, h => ⟨rfl, h⟩
  | x :: a, b, many, pe, h => by
    obtain ⟨h1, h2⟩ := hunksB_cons (x := x) (r := a ++ b) h
    obtain ⟨h3, h4⟩ := hunksB_split h2
    refine ⟨?_, h4⟩
    show (oneB many pe x && hunksB many (x.1 + x.2.1) a) = true
    rw [h1, h3]; rfl
theorem hunksB_mem : ∀ {h : List Hk} {many pe : Int}, hunksB many pe h = true → ∀ x ∈ h, 0 ≤ x.1 ∧ 0 ≤ x.2.1 ∧ x.1 + x.2.1 ≤ many ∧ x.2.2.length ≤ 40 ∧ allLines x.2.2 = true
  | y :: r, many, pe, h, x, hx => by
    obtain ⟨h1, h2⟩ := hunksB_cons h
    obtain ⟨⟨q1, q2, q3⟩, q4, q5, q6, q7⟩ := oneB_in h1
    rcases List.mem_cons.1 hx with rfl | hx
    · exact ⟨q1, q2, q3, q5, q7⟩
    · exact hunksB_mem h2 x hx
theorem delta_le : ∀ {h : List Hk}, (∀ x ∈ h, 0 ≤ x.2.1 ∧ x.2.1 ≤ 40 ∧ x.2.2.length ≤ 40) → -(40 * (h.length : Int)) ≤ delta h ∧ delta h ≤ 40 * (h.length : Int)
  | [], _ => by simp [delta]
  | x :: r, hb => by
    have h1 := hb x (by simp)
    have h2 := delta_le (h := r) fun y hy => hb y (by simp [hy])
    simp only [delta, List.length_cons]; omega
section
variable (l : T) (hl : l.length ≤ 40) (w : Int) (hw : 0 ≤ w ∧ w ≤ 20) (h : List Hk) (h20 : h.length ≤ 20) (hb : hunksB (l.length : Int) (-1) h = true)
include hl hw h20 hb
theorem sG12 (out : YGroupS) (m : Int) (pre : List Hk) : ∀ (s c : List Hk) (y : Hk), h = (pre ++ c) ++ y :: s →
    spec_l6Groups.l12 l h w out m (pre.length : Int) (((pre ++ c).length + 1 : Nat) : Int) = spec_l6Groups.l17 l h w out m (pre.length : Int) (((pre ++ c).length + 1 + near w (y.1 + y.2.1) s : Nat) : Int) := by
  intro s
  induction s with
  | nil =>
    intro c y hf
    have hlen : h.length = (pre ++ c).length + 1 := by rw [hf, List.length_append, List.length_singleton]
    rw [spec_l6Groups.l12_eq, bifF (by omega)]; rfl
  | cons z s ih =>
    intro c y hf
    have hlen : h.length = (pre ++ c).length + 1 + (s.length + 1) := by rw [hf, List.length_append, List.length_cons, List.length_cons]; omega
    have hy : h.getD (pre ++ c).length (0, 0, []) = y := by rw [hf]; exact getD_mid _ _ _ _
    have hz : h.getD ((pre ++ c).length + 1) (0, 0, []) = z := by
      have e : h = ((pre ++ c) ++ [y]) ++ z :: s := by rw [hf]; simp
      have e2 : (pre ++ c).length + 1 = ((pre ++ c) ++ [y]).length := by simp only [List.length_append, List.length_singleton]
      rw [e2, e]; exact getD_mid _ _ _ _
    have my := hunksB_mem hb y (by rw [hf]; simp)
    have mz := hunksB_mem hb z (by rw [hf]; simp)
    rw [spec_l6Groups.l12_eq, bifT (by omega), bif2T (by omega) (by omega), dn1 (by omega) (by omega), bif2T (by omega) (by omega), bif2T (by omega) (by omega), up1 (by omega)]
    simp only [Int.toNat_natCast, Nat.add_sub_cancel, hy, hz]
    rw [w64_id (x := y.1 + y.2.1) (by omega) (by omega), w64_id (x := z.1 - (y.1 + y.2.1)) (by omega) (by omega), w64_id (x := 2 * w) (by omega) (by omega)]
    by_cases c1 : z.1 - (y.1 + y.2.1) ≤ 2 * w
    · rw [bifT c1]
      have := ih (c ++ [y]) z (by rw [hf]; simp)
      have e2 : (pre ++ (c ++ [y])).length = (pre ++ c).length + 1 := by simp; omega
      rw [e2] at this
      rw [this, near, if_pos c1]
      congr 1 <;> omega
    · rw [bifF c1, near, if_neg c1]
theorem sG20 (out : YGroupS) (j : Nat) (c : List Hk) (hc : ∀ x ∈ c, 0 ≤ x.2.1 ∧ x.2.1 ≤ 40 ∧ x.2.2.length ≤ 40) (hcl : c.length ≤ 20) : ∀ (rest pre : List Hk) (m : Int), c = pre ++ rest → -10000 ≤ m - 40 * (rest.length : Int) → m + 40 * (rest.length : Int) ≤ 10000 →
    spec_l6Groups.l20 l h w out m (j : Int) c (c.length : Int) (pre.length : Int) = spec_l6Groups.l8 l h w out (m + delta rest) (j : Int) := by
  intro rest
  induction rest with
  | nil =>
    intro pre m hf _ _
    have : c.length = pre.length := by rw [hf]; simp
    rw [spec_l6Groups.l20_eq, bifF (by omega)]
    congr 1; simp [delta]
  | cons x r ih =>
    intro pre m hf h1 h2
    have hlen : c.length = pre.length + (r.length + 1) := by rw [hf]; simp
    have hg : c.getD pre.length (0, 0, []) = x := by rw [hf]; exact getD_mid _ _ _ _
    have hx := hc x (by rw [hf]; simp)
    rw [List.length_cons] at h1 h2
    rw [spec_l6Groups.l20_eq, bifT (by omega), bif2T (by omega) (by omega), up1 (by omega)]
    simp only [Int.toNat_natCast, hg]
    rw [w64_id (x := (x.2.2.length : Int) - x.2.1) (by omega) (by omega), w64_id (by omega) (by omega)]
    have := ih (pre ++ [x]) (m + ((x.2.2.length : Int) - x.2.1)) (by rw [hf]; simp) (by omega) (by omega)
    rw [List.length_append, List.length_singleton] at this
    rw [this]
    congr 1; simp only [delta]; omega
theorem sG8 : ∀ (n : Nat) (rest pre : List Hk) (out : YGroupS) (m : Int), rest.length ≤ n → h = pre ++ rest → out.length ≤ pre.length → -(40 * (pre.length : Int)) ≤ m ∧ m ≤ 40 * (pre.length : Int) →
    spec_l6Groups.l8 l h w out m (pre.length : Int) = some (out ++ grp l w n m rest) := by
  intro n
  induction n with
  | zero =>
    intro rest pre out m hn hf ho hm
    have hr : rest = [] := List.length_eq_zero_iff.1 (by omega)
    have : h.length = pre.length := by rw [hf, hr]; simp
    rw [spec_l6Groups.l8_eq, bifF (by omega)]; simp [grp]
  | succ n ih =>
    intro rest pre out m hn hf ho hm
    cases rest with
    | nil =>
      have : h.length = pre.length := by rw [hf]; simp
      rw [spec_l6Groups.l8_eq, bifF (by omega)]; simp [grp]
    | cons x r =>
      have hlen : h.length = pre.length + (r.length + 1) := by rw [hf]; simp
      have hK := near_le w r (x.1 + x.2.1)
      have h12 := sG12 l hl w hw h h20 hb out m pre r [] x (by rw [hf]; simp)
      rw [List.append_nil] at h12
      rw [spec_l6Groups.l8_eq, bifT (by omega), up1 (by omega), h12]
      unfold grp
      generalize near w (x.1 + x.2.1) r = K at hK
      have hchunk : ((h.take (pre.length + 1 + K)).drop pre.length) = x :: r.take K := by
        have e : h = (pre ++ (x :: r.take K)) ++ r.drop K := by rw [hf, List.append_assoc, List.cons_append, List.take_append_drop]
        have e3 : (pre ++ (x :: r.take K)).length = pre.length + 1 + K := by rw [List.length_append, List.length_cons, List.length_take]; omega
        rw [e, List.take_left' e3, List.drop_left' rfl]
      have hall := hunksB_mem hb
      have hsub : ∀ y ∈ x :: r.take K, y ∈ h := fun y hy => by
        rw [hf]
        rcases List.mem_cons.1 hy with rfl | hy
        · simp
        · have := List.mem_of_mem_take hy; simp [this]
      have hcb : ∃ pe, hunksB (l.length : Int) pe (x :: r.take K) = true := by
        have e : h = pre ++ ((x :: r.take K) ++ r.drop K) := by rw [hf, List.cons_append, List.take_append_drop]
        rw [e] at hb
        exact ⟨_, (hunksB_split (hunksB_split hb).2).1⟩
      obtain ⟨pe, hcb⟩ := hcb
      have hcl : (x :: r.take K).length = K + 1 := by rw [List.length_cons, List.length_take]; omega
      have hone := sOne l hl w m hw (by omega) pe (x :: r.take K) (by simp) (by omega) hcb
      have hcd : ∀ y ∈ x :: r.take K, 0 ≤ y.2.1 ∧ y.2.1 ≤ 40 ∧ y.2.2.length ≤ 40 := fun y hy => by
        have := hall y (hsub y hy); omega
      have hdl := delta_le hcd
      rw [spec_l6Groups.l17_eq, bif3T (by omega) (by omega) (by omega)]
      simp only [Int.toNat_natCast]
      rw [hchunk, hone, sB, room40, bifT (by simp only [List.length_singleton]; omega), bif3T (by omega) (by omega) (by omega)]
      have h20' := sG20 l hl w hw h h20 hb (out ++ [oneG l w m (x :: r.take K)]) (pre.length + 1 + K) (x :: r.take K) hcd (by omega) (x :: r.take K) [] m rfl (by omega) (by omega)
      have hnx := ih (r.drop K) (pre ++ (x :: r.take K)) (out ++ [oneG l w m (x :: r.take K)]) (m + delta (x :: r.take K)) (by rw [List.length_drop]; rw [List.length_cons] at hn; omega) (by rw [hf, List.append_assoc, List.cons_append, List.take_append_drop]) (by rw [List.length_append, List.length_append, List.length_singleton]; omega) (by rw [List.length_append]; omega)
      rw [List.length_append, hcl, show pre.length + (K + 1) = pre.length + 1 + K by omega] at hnx
      refine (h20'.trans hnx).trans ?_
      rw [List.append_assoc]; rfl
end
/-- change the last hunk -/
def modL (f : Hk → Hk) (o : List Hk) : List Hk := o.set (o.length - 1) (f (o.getD (o.length - 1) hz))
def incH (x : Hk) : Hk := (x.1, x.2.1 + 1, x.2.2)
def addH (s : ByteArray) (x : Hk) : Hk := (x.1, x.2.1, x.2.2 ++ [s])
def opn (k : Int) (o : List Hk) (b : Bool) : List Hk := if b = true then o else o ++ [(k, 0, [])]
def ghk : YRowS → Int → List Hk → Bool → List Hk
  | [], _, o, _ => o
  | r :: l, k, o, b => if r.1 = 1 then ghk l (k + 1) o false else if r.1 = 2 then ghk l (k + 1) (modL incH (opn k o b)) true else ghk l k (modL (addH r.2) (opn k o b)) true
theorem iEqT (a b : T) (ha : a.length ≤ 140737488351232) (hb : b.length ≤ 140737488351232) : slices_Equal_Lstring_string.f a b = some (decide (a = b)) := by
  rw [slices_Equal_Lstring_string.f_eq]
  by_cases hl : a.length = b.length
  · rw [bifNF (by omega)]
    have key : ∀ i, i ≤ a.length → slices_Equal_Lstring_string.l8 a b (a.length : Int) (i : Int) = some (decide (a.drop i = b.drop i)) := by
      apply downTo
      · rw [slices_Equal_Lstring_string.l8_eq, bifF (by omega)]
        simp [List.drop_eq_nil_of_le, hl]
      · intro i hi ih
        rw [slices_Equal_Lstring_string.l8_eq, bifT (by omega), bif2T (by omega) (by omega), bif2T (by omega) (by omega), up1 (by omega)]
        simp only [Int.toNat_natCast, toList_beq]
        rw [drop_at hi em, drop_at (l := b) (by omega) em]
        by_cases h : a.getD i em = b.getD i em
        · rw [bifNF h, ih]; simp only [List.cons.injEq, h, true_and]
        · rw [bifNT h]; simp only [List.cons.injEq, h, false_and, decide_false]
    have := key 0 (by omega)
    simpa using this
  · rw [bifNT (by omega)]
    rw [decide_eq_false (fun e => hl (by rw [e]))]
/-- the hunks of groups, one behind the other -/
def ghL (l : T) : YGroupS → List Hk → Int → List Hk × Int × Bool
  | [], o, _ => (o, 0, true)
  | x :: r, o, m => if ¬ side 3 x.2.2 = (l.take (gA x).toNat).drop x.1.toNat then ([], 2, true) else if ¬ x.2.1 = x.1 + m then ([], 2, true) else
    ghL l r (o ++ ghk x.2.2 x.1 [] false) (m + (((side 2 x.2.2).length : Int) - ((side 3 x.2.2).length : Int)))
def farGB (l : T) (g : YGroupS) : Bool := g.any fun x => decide (gA x > (l.length : Int))
def ghB (l : T) (g : YGroupS) : List Hk × Int × Bool :=
  if goodB l = true ∧ gsB g = true then (if farGB l g = true then ([], 3, true) else ghL l g [] 0) else ([], 0, false)
def inn (x : ByteArray) (f : T → Nat) : T → Nat
  | [] => 0
  | y :: ys => if x = y then f ys + 1 else max (f (y :: ys)) (inn x f ys)
def lcs : T → T → Nat
  | [], _ => 0
  | x :: xs, ys => inn x (lcs xs) ys
theorem lcs_nil (xs : T) : lcs xs [] = 0 := by cases xs <;> rfl
theorem lcs_cons (x : ByteArray) (xs : T) (y : ByteArray) (ys : T) : lcs (x :: xs) (y :: ys) = if x = y then lcs xs ys + 1 else max (lcs xs (y :: ys)) (lcs (x :: xs) ys) := rfl
theorem lcs_step : ∀ (n : Nat) (xs ys : T), xs.length + ys.length ≤ n →
    (∀ x, lcs xs ys ≤ lcs (x :: xs) ys ∧ lcs (x :: xs) ys ≤ lcs xs ys + 1) ∧ (∀ y, lcs xs ys ≤ lcs xs (y :: ys) ∧ lcs xs (y :: ys) ≤ lcs xs ys + 1) := by
  intro n
  induction n with
  | zero =>
    intro xs ys h
    have h1 : xs.length = 0 := by omega
    have h2 : ys.length = 0 := by omega
    obtain rfl := List.length_eq_zero_iff.1 h1
    obtain rfl := List.length_eq_zero_iff.1 h2
    exact ⟨fun x => ⟨Nat.le_refl _, Nat.le_succ _⟩, fun y => ⟨Nat.le_refl _, Nat.le_succ _⟩⟩
  | succ n ih =>
    intro xs ys h
    refine ⟨fun x => ?_, fun y => ?_⟩
    · cases ys with
      | nil => rw [lcs_nil, lcs_nil]; omega
      | cons y ys =>
        have hI := ih xs ys (by simp at h; omega)
        have h1 := hI.1 x
        have h2 := hI.2 y
        rw [lcs_cons]
        split
        · omega
        · omega
    · cases xs with
      | nil => exact ⟨Nat.le_refl _, Nat.zero_le _⟩
      | cons x xs =>
        have hI := ih xs ys (by simp at h; omega)
        have h1 := hI.1 x
        have h2 := hI.2 y
        rw [lcs_cons]
        split
        · omega
        · omega
theorem lcs_le : ∀ xs ys : T, lcs xs ys ≤ xs.length
  | [], _ => Nat.le_refl _
  | x :: xs, ys => by
    have h1 := lcs_le xs ys
    have h2 := ((lcs_step _ xs ys (Nat.le_refl _)).1 x).2
    rw [List.length_cons]; omega
def tv (a b : T) (i j : Nat) : Nat := lcs (a.drop i) (b.drop j)
theorem tv_i {a b : T} {i j : Nat} (h : a.length ≤ i) : tv a b i j = 0 := by unfold tv; rw [List.drop_eq_nil_of_le h]; rfl
theorem tv_j {a b : T} {i j : Nat} (h : b.length ≤ j) : tv a b i j = 0 := by unfold tv; rw [List.drop_eq_nil_of_le h, lcs_nil]
theorem tv_le (a b : T) (i j : Nat) : tv a b i j ≤ a.length := by
  unfold tv
  have := lcs_le (a.drop i) (b.drop j)
  rw [List.length_drop] at this; omega
theorem tv_step {a b : T} {i j : Nat} (hi : i < a.length) (hj : j < b.length) : tv a b i j = if a.getD i em = b.getD j em then tv a b (i + 1) (j + 1) + 1 else max (tv a b (i + 1) j) (tv a b i (j + 1)) := by
  unfold tv
  rw [drop_at hi em, drop_at hj em]
  exact lcs_cons _ _ _ _
theorem tv_near {a b : T} {i j : Nat} (hi : i < a.length) (hj : j < b.length) : tv a b (i + 1) j ≤ tv a b (i + 1) (j + 1) + 1 ∧ tv a b i (j + 1) ≤ tv a b (i + 1) (j + 1) + 1 := by
  unfold tv
  have h := lcs_step _ (a.drop (i + 1)) (b.drop (j + 1)) (Nat.le_refl _)
  have h1 := (h.1 (a.getD i em)).2
  have h2 := (h.2 (b.getD j em)).2
  rw [← drop_at hi em] at h1
  rw [← drop_at hj em] at h2
  exact ⟨h2, h1⟩
def Mt (a b : T) (i j p q : Nat) : Prop := a.getD p em = b.getD q em ∧ tv a b (p + 1) (q + 1) + 1 = tv a b i j
theorem ex_match (a b : T) : ∀ (n i j : Nat), (a.length - i) + (b.length - j) ≤ n → 0 < tv a b i j → ∃ p q, i ≤ p ∧ p < a.length ∧ j ≤ q ∧ q < b.length ∧ Mt a b i j p q := by
  intro n
  induction n with
  | zero => intro i j h h0; rw [tv_i (by omega)] at h0; omega
  | succ n ih =>
    intro i j h h0
    by_cases hi : i < a.length
    · by_cases hj : j < b.length
      · have hs := tv_step hi hj
        by_cases e : a.getD i em = b.getD j em
        · rw [if_pos e] at hs
          exact ⟨i, j, Nat.le_refl _, hi, Nat.le_refl _, hj, e, hs.symm⟩
        · rw [if_neg e] at hs
          by_cases c : tv a b i (j + 1) ≤ tv a b (i + 1) j
          · have e2 : tv a b i j = tv a b (i + 1) j := by omega
            obtain ⟨p, q, h1, h2, h3, h4, h5⟩ := ih (i + 1) j (by omega) (by omega)
            exact ⟨p, q, by omega, h2, h3, h4, h5.1, by rw [e2]; exact h5.2⟩
          · have e2 : tv a b i j = tv a b i (j + 1) := by omega
            obtain ⟨p, q, h1, h2, h3, h4, h5⟩ := ih i (j + 1) (by omega) (by omega)
            exact ⟨p, q, h1, h2, by omega, h4, h5.1, by rw [e2]; exact h5.2⟩
      · rw [tv_j (by omega)] at h0; omega
    · rw [tv_i (by omega)] at h0; omega
theorem least {P : Nat → Prop} (h : ∃ n, P n) : ∃ n, P n ∧ ∀ m, m < n → ¬ P m := by
  obtain ⟨n, hn⟩ := h
  induction n using Nat.strongRecOn with
  | _ n ih =>
    by_cases g : ∃ m, m < n ∧ P m
    · obtain ⟨m, hm, hp⟩ := g
      exact ih m hm hp
    · exact ⟨n, hn, fun m hm hp => g ⟨m, hm, hp⟩⟩
structure Lst (a b : T) (i j p q : Nat) : Prop where
  hip : i ≤ p
  hpa : p < a.length
  hjq : j ≤ q
  hqb : q < b.length
  hm : Mt a b i j p q
  hrow : ∀ p' q', i ≤ p' → p' < p → j ≤ q' → q' < b.length → ¬ Mt a b i j p' q'
  hcol : ∀ q', j ≤ q' → q' < q → ¬ Mt a b i j p q'
theorem ex_least (a b : T) (i j : Nat) (h : 0 < tv a b i j) : ∃ p q, Lst a b i j p q := by
  obtain ⟨p0, q0, h1, h2, h3, h4, h5⟩ := ex_match a b _ i j (Nat.le_refl _) h
  obtain ⟨p, ⟨hp1, hp2, hp3⟩, hp4⟩ := least (P := fun p => i ≤ p ∧ p < a.length ∧ ∃ q, j ≤ q ∧ q < b.length ∧ Mt a b i j p q) ⟨p0, h1, h2, q0, h3, h4, h5⟩
  obtain ⟨q, ⟨hq1, hq2, hq3⟩, hq4⟩ := least (P := fun q => j ≤ q ∧ q < b.length ∧ Mt a b i j p q) hp3
  exact ⟨p, q, hp1, hp2, hq1, hq2, hq3, fun p' q' g1 g2 g3 g4 g5 => hp4 p' g2 ⟨g1, by omega, q', g3, g4, g5⟩, fun q' g1 g2 g3 => hq4 q' g2 ⟨g1, by omega, g3⟩⟩
def PR (a b : T) : Nat → Nat → List (Nat × Nat) → Prop
  | i, j, [] => tv a b i j = 0
  | i, j, (p, q) :: l => Lst a b i j p q ∧ PR a b (p + 1) (q + 1) l
theorem ex_PR (a b : T) : ∀ (n i j : Nat), a.length - i ≤ n → ∃ l, PR a b i j l ∧ l.length ≤ n := by
  intro n
  induction n with
  | zero => intro i j h; exact ⟨[], tv_i (by omega), Nat.le_refl _⟩
  | succ n ih =>
    intro i j h
    by_cases h0 : 0 < tv a b i j
    · obtain ⟨p, q, hL⟩ := ex_least a b i j h0
      have h1 := hL.hip
      have h2 := hL.hpa
      obtain ⟨l, hl, hn⟩ := ih (p + 1) (q + 1) (by omega)
      exact ⟨(p, q) :: l, ⟨hL, hl⟩, by rw [List.length_cons]; omega⟩
    · exact ⟨[], (by show tv a b i j = 0; omega), Nat.zero_le _⟩
def trow (a b : T) (i : Nat) : List Int := (List.range (b.length + 1)).map fun j => (tv a b i j : Int)
def tbl (a b : T) : List (List Int) := (List.range (a.length + 1)).map (trow a b)
theorem trow_len (a b : T) (i : Nat) : (trow a b i).length = b.length + 1 := by simp [trow]
theorem tbl_len (a b : T) : (tbl a b).length = a.length + 1 := by simp [tbl]
theorem trow_get (a b : T) (i : Nat) {j : Nat} (h : j ≤ b.length) : (trow a b i).getD j 0 = (tv a b i j : Int) := by
  unfold trow
  simp [List.getD_eq_getElem?_getD, List.getElem?_map, List.getElem?_range (show j < b.length + 1 by omega)]
theorem tbl_get (a b : T) {i : Nat} (h : i ≤ a.length) : (tbl a b).getD i [] = trow a b i := by
  unfold tbl
  simp [List.getD_eq_getElem?_getD, List.getElem?_map, List.getElem?_range (show i < a.length + 1 by omega)]
theorem row_eq (a b : T) (i : Nat) (y : List Int) (h : y.length = b.length + 1) (h2 : ∀ c, c ≤ b.length → y.getD c 0 = (tv a b i c : Int)) : y = trow a b i := by
  apply List.ext_getElem
  · rw [h, trow_len]
  · intro c hc hc2
    have h3 := h2 c (by omega)
    have h4 := trow_get a b i (j := c) (by omega)
    rw [List.getD_eq_getElem?_getD, List.getElem?_eq_getElem hc] at h3
    rw [List.getD_eq_getElem?_getD, List.getElem?_eq_getElem hc2] at h4
    simp at h3 h4
    rw [h3, h4]
theorem tbl_eq (a b : T) (x : List (List Int)) (h : x.length = a.length + 1) (h2 : ∀ r, r ≤ a.length → x.getD r [] = trow a b r) : x = tbl a b := by
  apply List.ext_getElem
  · rw [h, tbl_len]
  · intro c hc hc2
    have h3 := h2 c (by omega)
    have h4 := tbl_get a b (i := c) (by omega)
    rw [List.getD_eq_getElem?_getD, List.getElem?_eq_getElem hc] at h3
    rw [List.getD_eq_getElem?_getD, List.getElem?_eq_getElem hc2] at h4
    simp at h3 h4
    rw [h3, h4]
abbrev Tb := List (List Int)
theorem zeros_get (n c : Nat) : (List.replicate n (0 : Int)).getD c 0 = 0 := by
  rw [List.getD_eq_getElem?_getD, List.getElem?_replicate]; split <;> rfl
theorem most (a b : Int) : spec_l1Most.f a b = some (max a b) := by
  rw [spec_l1Most.f_eq]
  by_cases h : a > b
  · rw [bifT h]; congr 1; omega
  · rw [bifF h]; congr 1; omega
/-- Row i is known behind place j. -/
def RowInv (a b : T) (x : Tb) (i j : Nat) : Prop := x.length = a.length + 1 ∧ (∀ r, i < r → r ≤ a.length → x.getD r [] = trow a b r) ∧ (x.getD i []).length = b.length + 1 ∧ ∀ c, j ≤ c → c ≤ b.length → (x.getD i []).getD c 0 = (tv a b i c : Int)
theorem inv_put (a b : T) {x : Tb} {i j : Nat} (h : RowInv a b x i (j + 1)) (hi : i < a.length) (hj : j < b.length) : RowInv a b (x.set i ((x.getD i []).set j (tv a b i j : Int))) i j := by
  obtain ⟨h1, h2, h3, h4⟩ := h
  have hs : (x.set i ((x.getD i []).set j (tv a b i j : Int))).getD i [] = (x.getD i []).set j (tv a b i j : Int) := set_same (by omega) _ _
  refine ⟨by rw [List.length_set]; exact h1, fun r hr hr2 => ?_, ?_, fun c hc hc2 => ?_⟩
  · rw [set_else (by omega)]; exact h2 r hr hr2
  · rw [hs, List.length_set]; exact h3
  · rw [hs]
    by_cases e : c = j
    · subst e; exact set_same (by omega) _ _
    · rw [set_else (by omega)]; exact h4 c (by omega) hc2
theorem inv_row (a b : T) {x : Tb} {i : Nat} (h : RowInv a b x i 0) : ∀ r, i ≤ r → r ≤ a.length → x.getD r [] = trow a b r := by
  intro r hr hr2
  by_cases e : r = i
  · subst e; exact row_eq a b r _ h.2.2.1 (fun c hc => h.2.2.2 c (Nat.zero_le _) hc)
  · exact h.2.1 r (by omega) hr2
section
variable (a b : T) (ha : a.length ≤ 1000) (hb : b.length ≤ 1000)
include ha hb
theorem sT_l2 (R : Tb) (i : Nat) (hi : i < a.length) (k : ∀ x : Tb, RowInv a b x i 0 → (∀ r, r < i → (x.getD r []).length = b.length + 1 ∧ (x.getD r []).getD b.length 0 = 0) → spec_l3Table.l16 a b x ((i : Int) - 1) = some R) :
    ∀ (j : Nat) (x : Tb), j ≤ b.length → RowInv a b x i j → (∀ r, r < i → (x.getD r []).length = b.length + 1 ∧ (x.getD r []).getD b.length 0 = 0) → spec_l3Table.l22 a b x (i : Int) ((j : Int) - 1) = some R := by
  intro j
  induction j with
  | zero =>
    intro x hj h hz
    have hw : w64 ((i : Int) - 1) = (i : Int) - 1 := w64_id (by omega) (by omega)
    rw [spec_l3Table.l22_eq, bifF (by omega), hw]
    exact k x h hz
  | succ j ih =>
    intro x hj h hz
    have e0 : ((j + 1 : Nat) : Int) - 1 = (j : Int) := by omega
    rw [e0]
    obtain ⟨h1, h2, h3, h4⟩ := h
    have hi1 : w64 ((i : Int) + 1) = ((i + 1 : Nat) : Int) := up1 (by omega)
    have hj1 : w64 ((j : Int) + 1) = ((j + 1 : Nat) : Int) := up1 (by omega)
    have hj2 : w64 ((j : Int) - 1) = (j : Int) - 1 := w64_id (by omega) (by omega)
    have hrow := h2 (i + 1) (by omega) (by omega)
    have g1 : (trow a b (i + 1)).getD j 0 = (tv a b (i + 1) j : Int) := trow_get a b (i + 1) (by omega)
    have g2 : (trow a b (i + 1)).getD (j + 1) 0 = (tv a b (i + 1) (j + 1) : Int) := trow_get a b (i + 1) (by omega)
    have g3 := h4 (j + 1) (by omega) (by omega)
    have hl := trow_len a b (i + 1)
    have hb1 := tv_le a b (i + 1) (j + 1)
    have hv : w64 ((tv a b (i + 1) (j + 1) : Int) + 1) = (tv a b (i + 1) (j + 1) : Int) + 1 := w64_id (by omega) (by omega)
    have hs := tv_step (a := a) (b := b) (i := i) (j := j) (by omega) (by omega)
    have hn := tv_near (a := a) (b := b) (i := i) (j := j) (by omega) (by omega)
    have hset : ∀ v : Int, (x.set i ((x.getD i []).set j v)).getD i [] = (x.getD i []).set j v := fun v => set_same (by omega) _ _
    have hset1 : ∀ v : Int, (x.set i ((x.getD i []).set j v)).getD (i + 1) [] = trow a b (i + 1) := fun v => by rw [set_else (by omega)]; exact hrow
    have hsame : ∀ v : Int, ((x.getD i []).set j v).getD j 0 = v := fun v => set_same (by omega) _ _
    have fin : spec_l3Table.l22 a b (x.set i ((x.getD i []).set j (tv a b i j : Int))) (i : Int) ((j : Int) - 1) = some R := by
      refine ih _ (by omega) (inv_put a b ⟨h1, h2, h3, h4⟩ (by omega) (by omega)) (fun r hr => ?_)
      rw [set_else (by omega)]; exact hz r hr
    rw [spec_l3Table.l22_eq]
    simp only [hi1, hj1, hj2, Int.toNat_natCast, hrow, g1, g3, hl, List.length_set, hset, hset1, hsame, g2, hv, toList_beq]
    clear hi1 hj1 hj2
    simp (disch := omega) only [bifT, bif2T, most, sB]
    by_cases e : a.getD i em = b.getD j em
    · rw [if_pos e] at hs
      rw [bifT e, List.set_set, List.set_set]
      rw [show max (max (tv a b (i + 1) j : Int) (tv a b i (j + 1) : Int)) ((tv a b (i + 1) (j + 1) : Int) + 1) = (tv a b i j : Int) by omega]
      exact fin
    · rw [if_neg e] at hs
      rw [bifF e]
      rw [show max (tv a b (i + 1) j : Int) (tv a b i (j + 1) : Int) = (tv a b i j : Int) by omega]
      exact fin
theorem sT_l1 : ∀ (d : Nat) (x : Tb), d ≤ a.length → x.length = a.length + 1 → (∀ r, d ≤ r → r ≤ a.length → x.getD r [] = trow a b r) → (∀ r, r < d → (x.getD r []).length = b.length + 1 ∧ (x.getD r []).getD b.length 0 = 0) →
    spec_l3Table.l16 a b x ((d : Int) - 1) = some (tbl a b) := by
  intro d
  induction d with
  | zero =>
    intro x hd h1 h2 hz
    rw [spec_l3Table.l16_eq, bifF (by omega), tbl_eq a b x h1 (fun r hr => h2 r (Nat.zero_le _) hr)]
  | succ d ih =>
    intro x hd h1 h2 hz
    have e0 : ((d + 1 : Nat) : Int) - 1 = (d : Int) := by omega
    have hw : w64 ((b.length : Int) - 1) = (b.length : Int) - 1 := w64_id (by omega) (by omega)
    rw [e0, spec_l3Table.l16_eq, bifT (by omega), hw]
    refine sT_l2 a b ha hb _ d (by omega) (fun y hy hyz => ?_) b.length x (Nat.le_refl _) ⟨h1, fun r hr hr2 => h2 r (by omega) hr2, (hz d (by omega)).1, fun c hc hc2 => ?_⟩ (fun r hr => hz r (by omega))
    · exact ih y (by omega) hy.1 (fun r hr hr2 => inv_row a b hy r hr hr2) hyz
    · have e : c = b.length := by omega
      subst e
      rw [(hz d (by omega)).2, tv_j (Nat.le_refl _)]; rfl
theorem sTable : spec_l3Table.f a b = some (tbl a b) := by
  have w1 : w64 ((a.length : Int) + 1) = ((a.length + 1 : Nat) : Int) := up1 (by omega)
  have w2 : w64 ((b.length : Int) + 1) = ((b.length + 1 : Nat) : Int) := up1 (by omega)
  have w3 : w64 ((a.length : Int) - 1) = (a.length : Int) - 1 := w64_id (by omega) (by omega)
  have key : ∀ i, i ≤ a.length + 1 → ∀ x : Tb, x.length = a.length + 1 → (∀ r, r < i → x.getD r [] = List.replicate (b.length + 1) 0) → spec_l3Table.l6 a b x ((a.length + 1 : Nat) : Int) (i : Int) = some (tbl a b) := by
    apply downTo
    · intro x h1 h2
      rw [spec_l3Table.l6_eq, bifF (by omega), w3]
      refine sT_l1 a b ha hb a.length x (Nat.le_refl _) h1 (fun r hr hr2 => ?_) (fun r hr => ?_)
      · have e : r = a.length := by omega
        subst e
        rw [h2 _ (by omega)]
        refine row_eq a b _ _ (by simp) (fun c hc => ?_)
        rw [zeros_get, tv_i (Nat.le_refl _)]; rfl
      · rw [h2 r (by omega)]
        exact ⟨by simp, zeros_get _ _⟩
    · intro i hi ih x h1 h2
      have hi1 := up1 (i := i) (by omega)
      rw [spec_l3Table.l6_eq]
      simp only [w2, hi1, Int.toNat_natCast, room8]
      rw [bifT (by omega), bif2T (by omega) (by omega), bif2T (by omega) (by omega)]
      refine ih _ (by rw [List.length_set]; exact h1) fun r hr => ?_
      by_cases e : r = i
      · subst e; exact set_same (by omega) _ _
      · rw [set_else (by omega)]; exact h2 r (by omega)
  rw [spec_l3Table.f_eq]
  simp only [w1, Int.toNat_natCast, room24, List.length_replicate]
  rw [bif2T (by omega) (by omega)]
  exact key 0 (by omega) _ (by simp) (fun r hr => absurd hr (Nat.not_lt_zero r))
theorem iT_l1 (R : Tb) (i : Nat) (hi : i < a.length) (k : ∀ x : Tb, RowInv a b x i 0 → impl_common.l8 a b x ((i : Int) - 1) = some R) :
    ∀ (j : Nat) (x : Tb), j ≤ b.length → RowInv a b x i j → impl_common.l16 a b x (i : Int) ((j : Int) - 1) = some R := by
  intro j
  induction j with
  | zero =>
    intro x hj h
    have hw : w64 ((i : Int) - 1) = (i : Int) - 1 := w64_id (by omega) (by omega)
    rw [impl_common.l16_eq, bifF (by omega), hw]
    exact k x h
  | succ j ih =>
    intro x hj h
    have e0 : ((j + 1 : Nat) : Int) - 1 = (j : Int) := by omega
    rw [e0]
    have fin : impl_common.l16 a b (x.set i ((x.getD i []).set j (tv a b i j : Int))) (i : Int) ((j : Int) - 1) = some R := ih _ (by omega) (inv_put a b h (by omega) (by omega))
    obtain ⟨h1, h2, h3, h4⟩ := h
    have hi1 : w64 ((i : Int) + 1) = ((i + 1 : Nat) : Int) := up1 (by omega)
    have hj1 : w64 ((j : Int) + 1) = ((j + 1 : Nat) : Int) := up1 (by omega)
    have hj2 : w64 ((j : Int) - 1) = (j : Int) - 1 := w64_id (by omega) (by omega)
    have hrow := h2 (i + 1) (by omega) (by omega)
    have g1 : (trow a b (i + 1)).getD j 0 = (tv a b (i + 1) j : Int) := trow_get a b (i + 1) (by omega)
    have g2 : (trow a b (i + 1)).getD (j + 1) 0 = (tv a b (i + 1) (j + 1) : Int) := trow_get a b (i + 1) (by omega)
    have g3 := h4 (j + 1) (by omega) (by omega)
    have hl := trow_len a b (i + 1)
    have hb1 := tv_le a b (i + 1) (j + 1)
    have hv : w64 ((tv a b (i + 1) (j + 1) : Int) + 1) = (tv a b (i + 1) (j + 1) : Int) + 1 := w64_id (by omega) (by omega)
    have hs := tv_step (a := a) (b := b) (i := i) (j := j) (by omega) (by omega)
    rw [impl_common.l16_eq]
    simp only [hi1, hj1, hj2, Int.toNat_natCast, toList_beq, hrow, g1, g2, g3, hv, hl]
    clear hi1 hj1 hj2
    simp (disch := omega) only [bifT, bif2T]
    by_cases e : a.getD i em = b.getD j em
    · rw [if_pos e] at hs
      rw [bifT e, show (tv a b (i + 1) (j + 1) : Int) + 1 = (tv a b i j : Int) by omega]
      exact fin
    · rw [if_neg e] at hs
      rw [bifF e, show max (tv a b (i + 1) j : Int) (tv a b i (j + 1) : Int) = (tv a b i j : Int) by omega]
      exact fin
theorem iT_l0 : ∀ (d : Nat) (x : Tb), d ≤ a.length → x.length = a.length + 1 → (∀ r, d ≤ r → r ≤ a.length → x.getD r [] = trow a b r) → impl_common.l8 a b x ((d : Int) - 1) = some (tbl a b) := by
  intro d
  induction d with
  | zero =>
    intro x hd h1 h2
    rw [impl_common.l8_eq, bifF (by omega), tbl_eq a b x h1 (fun r hr => h2 r (Nat.zero_le _) hr)]
  | succ d ih =>
    intro x hd h1 h2
    have e0 : ((d + 1 : Nat) : Int) - 1 = (d : Int) := by omega
    have hw : w64 ((b.length : Int) - 1) = (b.length : Int) - 1 := w64_id (by omega) (by omega)
    have w2 : w64 ((b.length : Int) + 1) = ((b.length + 1 : Nat) : Int) := up1 (by omega)
    have hs : (x.set d (List.replicate (b.length + 1) (0 : Int))).getD d [] = List.replicate (b.length + 1) 0 := set_same (by omega) _ _
    rw [e0, impl_common.l8_eq]
    simp only [hw, w2, Int.toNat_natCast, room8]
    rw [bifT (by omega), bif2T (by omega) (by omega), bif2T (by omega) (by omega)]
    refine iT_l1 a b ha hb _ d (by omega) (fun y hy => ?_) b.length _ (Nat.le_refl _) ⟨by rw [List.length_set]; exact h1, fun r hr hr2 => ?_, by rw [hs]; simp, fun c hc hc2 => ?_⟩
    · exact ih y (by omega) hy.1 (fun r hr hr2 => inv_row a b hy r hr hr2)
    · rw [set_else (by omega)]; exact h2 r (by omega) hr2
    · have e : c = b.length := by omega
      subst e
      rw [hs, zeros_get, tv_j (Nat.le_refl _)]; rfl
theorem iTable : impl_common.f a b = some (tbl a b) := by
  have w1 : w64 ((a.length : Int) + 1) = ((a.length + 1 : Nat) : Int) := up1 (by omega)
  have w2 : w64 ((b.length : Int) + 1) = ((b.length + 1 : Nat) : Int) := up1 (by omega)
  have w3 : w64 ((a.length : Int) - 1) = (a.length : Int) - 1 := w64_id (by omega) (by omega)
  rw [impl_common.f_eq]
  simp only [w1, w2, w3, Int.toNat_natCast, List.length_replicate, room8, room24]
  rw [bif2T (by omega) (by omega), bif2T (by omega) (by omega), bif2T (by omega) (by omega)]
  refine iT_l0 a b ha hb a.length _ (Nat.le_refl _) (by rw [List.length_set, List.length_replicate]) (fun r hr hr2 => ?_)
  have e : r = a.length := by omega
  subst e
  rw [set_same (by rw [List.length_replicate]; omega)]
  refine row_eq a b _ _ (by simp) (fun c hc => ?_)
  rw [zeros_get, tv_i (Nat.le_refl _)]; rfl
end
abbrev P2 := Int × Int
def cvS (l : List (Nat × Nat)) : List P2 := l.map fun p => ((p.1 : Int), (p.2 : Int))
def cvI (l : List (Nat × Nat)) : Tb := l.map fun p => [(p.1 : Int), (p.2 : Int)]
theorem tb_row (a b : T) {i : Nat} (h : i ≤ a.length) : (tbl a b).getD i [] = trow a b i := tbl_get a b h
section
variable (a b : T) (ha : a.length ≤ 1000) (hb : b.length ≤ 1000) (i j : Nat) (hi : i ≤ a.length) (hj : j ≤ b.length) (acc : List P2) (R : List P2)
include ha hb hi hj
theorem sp_end (r c : Nat) (hr : i ≤ r) (hr2 : r < a.length) (x y : Int) (h : c < j ∨ c = j) (k : spec_l3Pairs.l14 a b (tbl a b) acc (i : Int) (j : Int) x y ((r : Int) - 1) = some R) :
    spec_l3Pairs.l20 a b (tbl a b) acc (i : Int) (j : Int) x y (r : Int) ((c : Int) - 1) = some R := by
  have _ := hb
  have _ := hi
  have _ := hj
  have hw : w64 ((r : Int) - 1) = (r : Int) - 1 := w64_id (by omega) (by omega)
  rw [spec_l3Pairs.l20_eq]
  rw [bifF (by omega), hw]
  exact k
theorem sp_step (r c : Nat) (hr : i ≤ r) (hr2 : r < a.length) (hc : j ≤ c) (hc2 : c < b.length) (x y : Int)
    (k1 : Mt a b i j r c → spec_l3Pairs.l20 a b (tbl a b) acc (i : Int) (j : Int) (r : Int) (c : Int) (r : Int) ((c : Int) - 1) = some R)
    (k0 : ¬ Mt a b i j r c → spec_l3Pairs.l20 a b (tbl a b) acc (i : Int) (j : Int) x y (r : Int) ((c : Int) - 1) = some R) :
    spec_l3Pairs.l20 a b (tbl a b) acc (i : Int) (j : Int) x y (r : Int) (((c + 1 : Nat) : Int) - 1) = some R := by
  have e0 : ((c + 1 : Nat) : Int) - 1 = (c : Int) := by omega
  rw [e0]
  have hr1 : w64 ((r : Int) + 1) = ((r + 1 : Nat) : Int) := up1 (by omega)
  have hc1 : w64 ((c : Int) + 1) = ((c + 1 : Nat) : Int) := up1 (by omega)
  have hc3 : w64 ((c : Int) - 1) = (c : Int) - 1 := w64_id (by omega) (by omega)
  have hb1 := tv_le a b (r + 1) (c + 1)
  have hv : w64 ((tv a b (r + 1) (c + 1) : Int) + 1) = (tv a b (r + 1) (c + 1) : Int) + 1 := w64_id (by omega) (by omega)
  have L1 := tbl_len a b
  have L2 := trow_len a b (r + 1)
  have L3 := trow_len a b i
  have g1 := trow_get a b (r + 1) (j := c + 1) (by omega)
  have g2 := trow_get a b i (j := j) hj
  rw [spec_l3Pairs.l20_eq]
  simp only [hr1, hc1, hc3, Int.toNat_natCast, toList_beq, tb_row a b (show r + 1 ≤ a.length by omega), tb_row a b hi, g1, g2, hv, L1, L2, L3]
  clear hr1 hc1 hc3 hv
  simp (disch := omega) only [bifT, bif2T]
  by_cases e : a.getD r em = b.getD c em
  · rw [bifT e]
    by_cases m : tv a b (r + 1) (c + 1) + 1 = tv a b i j
    · rw [bifT (by omega)]; exact k1 ⟨e, m⟩
    · rw [bifF (by omega)]; exact k0 (fun h => m h.2)
  · rw [bifF e]; exact k0 (fun h => e h.1)
theorem sp_any (r : Nat) (hr : i ≤ r) (hr2 : r < a.length) (k : ∀ x y, spec_l3Pairs.l14 a b (tbl a b) acc (i : Int) (j : Int) x y ((r : Int) - 1) = some R) :
    ∀ (c : Nat), c ≤ b.length → ∀ x y, spec_l3Pairs.l20 a b (tbl a b) acc (i : Int) (j : Int) x y (r : Int) ((c : Int) - 1) = some R := by
  intro c
  induction c with
  | zero => intro hc x y; exact sp_end a b ha hb i j hi hj acc R r 0 hr hr2 x y (by omega) (k x y)
  | succ c ih =>
    intro hc x y
    by_cases g : j ≤ c
    · exact sp_step a b ha hb i j hi hj acc R r c hr hr2 g (by omega) x y (fun _ => ih (by omega) _ _) (fun _ => ih (by omega) _ _)
    · exact sp_end a b ha hb i j hi hj acc R r (c + 1) hr hr2 x y (by omega) (k x y)
theorem sp_no (r : Nat) (hr : i ≤ r) (hr2 : r < a.length) (x y : Int) (k : spec_l3Pairs.l14 a b (tbl a b) acc (i : Int) (j : Int) x y ((r : Int) - 1) = some R) :
    ∀ (c : Nat), c ≤ b.length → (∀ q, j ≤ q → q < c → ¬ Mt a b i j r q) → spec_l3Pairs.l20 a b (tbl a b) acc (i : Int) (j : Int) x y (r : Int) ((c : Int) - 1) = some R := by
  intro c
  induction c with
  | zero => intro hc hn; exact sp_end a b ha hb i j hi hj acc R r 0 hr hr2 x y (by omega) k
  | succ c ih =>
    intro hc hn
    by_cases g : j ≤ c
    · exact sp_step a b ha hb i j hi hj acc R r c hr hr2 g (by omega) x y (fun h => absurd h (hn c g (by omega))) (fun _ => ih (by omega) (fun q h1 h2 => hn q h1 (by omega)))
    · exact sp_end a b ha hb i j hi hj acc R r (c + 1) hr hr2 x y (by omega) k
theorem sp_l1 (r : Nat) (hr : i ≤ r) (hr2 : r < a.length) (x y : Int) (k : spec_l3Pairs.l20 a b (tbl a b) acc (i : Int) (j : Int) x y (r : Int) ((b.length : Int) - 1) = some R) :
    spec_l3Pairs.l14 a b (tbl a b) acc (i : Int) (j : Int) x y (((r + 1 : Nat) : Int) - 1) = some R := by
  have _ := ha
  have _ := hi
  have _ := hj
  have e0 : ((r + 1 : Nat) : Int) - 1 = (r : Int) := by omega
  rw [e0]
  have hw : w64 ((b.length : Int) - 1) = (b.length : Int) - 1 := w64_id (by omega) (by omega)
  rw [spec_l3Pairs.l14_eq, bifT (by omega), hw]
  exact k
theorem sp_pair (p q : Nat) (hL : Lst a b i j p q) (hacc : acc.length ≤ 100000) (k : spec_l3Pairs.l8 a b (tbl a b) (acc ++ [((p : Int), (q : Int))]) ((p + 1 : Nat) : Int) ((q + 1 : Nat) : Int) = some R) :
    spec_l3Pairs.l8 a b (tbl a b) acc (i : Int) (j : Int) = some R := by
  obtain ⟨hip, hpa, hjq, hqb, hm, hrow, hcol⟩ := hL
  have st3 : ∀ d, d ≤ p → i ≤ d → spec_l3Pairs.l14 a b (tbl a b) acc (i : Int) (j : Int) (p : Int) (q : Int) ((d : Int) - 1) = some R := by
    intro d
    induction d with
    | zero =>
      intro h1 h2
      have hp1 := up1 (i := p) (by omega)
      have hq1 := up1 (i := q) (by omega)
      rw [spec_l3Pairs.l14_eq]
      simp only [hp1, hq1, room16]
      rw [bifF (by omega), bifT (by simp; omega)]
      exact k
    | succ d ih =>
      intro h1 h2
      by_cases g : i ≤ d
      · exact sp_l1 a b ha hb i j hi hj acc R d g (by omega) _ _ (sp_no a b ha hb i j hi hj acc R d g (by omega) _ _ (ih (by omega) g) b.length (Nat.le_refl _) (fun q' h3 h4 => hrow d q' g (by omega) h3 h4))
      · have hp1 := up1 (i := p) (by omega)
        have hq1 := up1 (i := q) (by omega)
        rw [spec_l3Pairs.l14_eq]
        simp only [hp1, hq1, room16]
        rw [bifF (by omega), bifT (by simp; omega)]
        exact k
  have st2 : ∀ c, q + 1 ≤ c → c ≤ b.length → ∀ x y, spec_l3Pairs.l20 a b (tbl a b) acc (i : Int) (j : Int) x y (p : Int) ((c : Int) - 1) = some R := by
    intro c
    induction c with
    | zero => intro h1; omega
    | succ c ih =>
      intro h1 h2 x y
      by_cases g : c = q
      · subst g
        exact sp_step a b ha hb i j hi hj acc R p c hip hpa hjq hqb x y (fun _ => sp_no a b ha hb i j hi hj acc R p hip hpa _ _ (st3 p (Nat.le_refl _) hip) c (by omega) (fun q' h3 h4 => hcol q' h3 h4)) (fun h => absurd hm h)
      · exact sp_step a b ha hb i j hi hj acc R p c hip hpa (by omega) (by omega) x y (fun _ => ih (by omega) (by omega) _ _) (fun _ => ih (by omega) (by omega) _ _)
  have st1 : ∀ d, p + 1 ≤ d → d ≤ a.length → ∀ x y, spec_l3Pairs.l14 a b (tbl a b) acc (i : Int) (j : Int) x y ((d : Int) - 1) = some R := by
    intro d
    induction d with
    | zero => intro h1; omega
    | succ d ih =>
      intro h1 h2 x y
      by_cases g : d = p
      · subst g
        exact sp_l1 a b ha hb i j hi hj acc R d hip hpa x y (st2 b.length (by omega) (Nat.le_refl _) x y)
      · exact sp_l1 a b ha hb i j hi hj acc R d (by omega) (by omega) x y (sp_any a b ha hb i j hi hj acc R d (by omega) (by omega) (fun x y => ih (by omega) (by omega) x y) b.length (Nat.le_refl _) x y)
  have hw : w64 ((a.length : Int) - 1) = (a.length : Int) - 1 := w64_id (by omega) (by omega)
  have L1 := tbl_len a b
  have L3 := trow_len a b i
  have hpos : 0 < tv a b i j := by have := hm.2; omega
  have g2 := trow_get a b i (j := j) hj
  rw [spec_l3Pairs.l8_eq]
  simp only [hw, Int.toNat_natCast, tb_row a b hi, g2, L1, L3]
  rw [bif2T (by omega) (by omega), bif2T (by omega) (by omega), bifT (by omega)]
  exact st1 a.length (by omega) (Nat.le_refl _) _ _
end
theorem sPairs (a b : T) (ha : a.length ≤ 1000) (hb : b.length ≤ 1000) : ∀ (l : List (Nat × Nat)) (i j : Nat) (acc : List P2), i ≤ a.length → j ≤ b.length → acc.length + l.length ≤ 10000 → PR a b i j l →
    spec_l3Pairs.l8 a b (tbl a b) acc (i : Int) (j : Int) = some (acc ++ cvS l) := by
  intro l
  induction l with
  | nil =>
    intro i j acc hi hj hl h
    have h0 : tv a b i j = 0 := h
    have L1 := tbl_len a b
    have L3 := trow_len a b i
    have g2 := trow_get a b i (j := j) hj
    rw [spec_l3Pairs.l8_eq]
    simp only [Int.toNat_natCast, tb_row a b hi, g2, L1, L3]
    rw [bif2T (by omega) (by omega), bif2T (by omega) (by omega), bifF (by omega)]
    simp [cvS]
  | cons p l ih =>
    obtain ⟨p, q⟩ := p
    intro i j acc hi hj hl h
    rw [List.length_cons] at hl
    have h1 := h.1.hpa
    have h2 := h.1.hqb
    refine sp_pair a b ha hb i j hi hj acc _ p q h.1 (by omega) ?_
    rw [ih (p + 1) (q + 1) (acc ++ [((p : Int), (q : Int))]) (by omega) (by omega) (by simp; omega) h.2, List.append_assoc]; rfl
section
variable (a b : T) (ha : a.length ≤ 1000) (hb : b.length ≤ 1000) (i j : Nat) (hi : i ≤ a.length) (hj : j ≤ b.length) (acc : Tb) (R : Tb)
include ha hb hi hj
theorem ip_step (r c : Nat) (hr : i ≤ r) (hr2 : r < a.length) (hc : j ≤ c) (hc2 : c < b.length) (hpos : 0 < tv a b i j) (hacc : acc.length ≤ 100000)
    (k1 : Mt a b i j r c → impl_commonLines.l8 a b (tbl a b) (acc ++ [[(r : Int), (c : Int)]]) ((c + 1 : Nat) : Int) ((tv a b i j : Int) - 1) (a.length : Int) ((r + 1 : Nat) : Int) = some R)
    (k0 : ¬ Mt a b i j r c → impl_commonLines.l14 a b (tbl a b) acc (j : Int) (tv a b i j : Int) (r : Int) ((c + 1 : Nat) : Int) (a.length : Int) (r : Int) = some R) :
    impl_commonLines.l14 a b (tbl a b) acc (j : Int) (tv a b i j : Int) (r : Int) (c : Int) (a.length : Int) (r : Int) = some R := by
  have _ := hi
  have _ := hj
  have hr1 : w64 ((r : Int) + 1) = ((r + 1 : Nat) : Int) := up1 (by omega)
  have hc1 : w64 ((c : Int) + 1) = ((c + 1 : Nat) : Int) := up1 (by omega)
  have hb1 := tv_le a b i j
  have hv : w64 ((tv a b i j : Int) - 1) = (tv a b i j : Int) - 1 := w64_id (by omega) (by omega)
  have L1 := tbl_len a b
  have L2 := trow_len a b (r + 1)
  have g1 := trow_get a b (r + 1) (j := c + 1) (by omega)
  rw [impl_commonLines.l14_eq, bifT (by omega), bifT (by omega), impl_commonLines.l19_eq]
  simp only [hr1, hc1, hv, Int.toNat_natCast, toList_beq, tb_row a b (show r + 1 ≤ a.length by omega), g1, L1, L2, room24]
  clear hr1 hc1 hv
  rw [bif2T (by omega) (by omega), bif2T (by omega) (by omega)]
  by_cases e : a.getD r em = b.getD c em
  · rw [bifT e, bif2T (by omega) (by omega), bif2T (by omega) (by omega)]
    by_cases m : tv a b (r + 1) (c + 1) + 1 = tv a b i j
    · rw [bifT (by omega), bifT (by simp; omega)]; exact k1 ⟨e, m⟩
    · rw [bifF (by omega)]; exact k0 (fun h => m h.2)
  · rw [bifF e]; exact k0 (fun h => e h.1)
theorem ip_next (r : Nat) (hr2 : r < a.length) (k : impl_commonLines.l8 a b (tbl a b) acc (j : Int) (tv a b i j : Int) (a.length : Int) ((r + 1 : Nat) : Int) = some R) :
    impl_commonLines.l14 a b (tbl a b) acc (j : Int) (tv a b i j : Int) (r : Int) (b.length : Int) (a.length : Int) (r : Int) = some R := by
  have _ := hb
  have _ := hi
  have _ := hj
  have hr1 : w64 ((r : Int) + 1) = ((r + 1 : Nat) : Int) := up1 (by omega)
  rw [impl_commonLines.l14_eq, bifF (by omega), hr1]; exact k
theorem ip_no (r : Nat) (hr : i ≤ r) (hr2 : r < a.length) (hpos : 0 < tv a b i j) (hacc : acc.length ≤ 100000) (k : impl_commonLines.l8 a b (tbl a b) acc (j : Int) (tv a b i j : Int) (a.length : Int) ((r + 1 : Nat) : Int) = some R)
    (hn : ∀ q, j ≤ q → q < b.length → ¬ Mt a b i j r q) : ∀ (d c : Nat), b.length - c = d → j ≤ c → c ≤ b.length → impl_commonLines.l14 a b (tbl a b) acc (j : Int) (tv a b i j : Int) (r : Int) (c : Int) (a.length : Int) (r : Int) = some R := by
  intro d
  induction d with
  | zero =>
    intro c hd h1 h2
    obtain rfl : c = b.length := by omega
    exact ip_next a b ha hb i j hi hj acc R r hr2 k
  | succ d ih =>
    intro c hd h1 h2
    exact ip_step a b ha hb i j hi hj acc R r c hr hr2 h1 (by omega) hpos hacc (fun h => absurd h (hn c h1 (by omega))) (fun _ => ih (c + 1) (by omega) (by omega) (by omega))
theorem ip_hit (p q : Nat) (hL : Lst a b i j p q) (hpos : 0 < tv a b i j) (hacc : acc.length ≤ 100000)
    (k : impl_commonLines.l8 a b (tbl a b) (acc ++ [[(p : Int), (q : Int)]]) ((q + 1 : Nat) : Int) ((tv a b i j : Int) - 1) (a.length : Int) ((p + 1 : Nat) : Int) = some R) :
    ∀ (d c : Nat), q - c = d → j ≤ c → c ≤ q → impl_commonLines.l14 a b (tbl a b) acc (j : Int) (tv a b i j : Int) (p : Int) (c : Int) (a.length : Int) (p : Int) = some R := by
  intro d
  have h5 := hL.hqb
  induction d with
  | zero =>
    intro c hd h1 h2
    obtain rfl : c = q := by omega
    exact ip_step a b ha hb i j hi hj acc R p c hL.hip hL.hpa h1 h5 hpos hacc (fun _ => k) (fun h => absurd hL.hm h)
  | succ d ih =>
    intro c hd h1 h2
    exact ip_step a b ha hb i j hi hj acc R p c hL.hip hL.hpa h1 (by omega) hpos hacc (fun h => absurd h (hL.hcol c h1 (by omega))) (fun _ => ih (c + 1) (by omega) (by omega) (by omega))
theorem ip_rows (p q : Nat) (hL : Lst a b i j p q) (hpos : 0 < tv a b i j) (hacc : acc.length ≤ 100000)
    (k : impl_commonLines.l8 a b (tbl a b) (acc ++ [[(p : Int), (q : Int)]]) ((q + 1 : Nat) : Int) ((tv a b i j : Int) - 1) (a.length : Int) ((p + 1 : Nat) : Int) = some R) :
    ∀ (d r : Nat), p - r = d → i ≤ r → r ≤ p → impl_commonLines.l8 a b (tbl a b) acc (j : Int) (tv a b i j : Int) (a.length : Int) (r : Int) = some R := by
  intro d
  have h5 := hL.hpa
  have h6 := hL.hjq
  induction d with
  | zero =>
    intro r hd h1 h2
    obtain rfl : r = p := by omega
    rw [impl_commonLines.l8_eq, bifT (by omega)]
    exact ip_hit a b ha hb i j hi hj acc R r q hL hpos hacc k (q - j) j rfl (Nat.le_refl _) h6
  | succ d ih =>
    intro r hd h1 h2
    rw [impl_commonLines.l8_eq, bifT (by omega)]
    exact ip_no a b ha hb i j hi hj acc R r h1 (by omega) hpos hacc (ih (r + 1) (by omega) (by omega) (by omega)) (fun q' h3 h4 => hL.hrow r q' h1 (by omega) h3 h4) (b.length - j) j rfl (Nat.le_refl _) hj
theorem ip_zero (h0 : tv a b i j = 0) : ∀ (d r : Nat), a.length - r = d → r ≤ a.length → impl_commonLines.l8 a b (tbl a b) acc (j : Int) (tv a b i j : Int) (a.length : Int) (r : Int) = some acc := by
  have _ := hb
  have _ := hi
  have _ := hj
  intro d
  induction d with
  | zero =>
    intro r hd h1
    rw [impl_commonLines.l8_eq]
    rw [bifF (by omega)]
  | succ d ih =>
    intro r hd h1
    have hr1 : w64 ((r : Int) + 1) = ((r + 1 : Nat) : Int) := up1 (by omega)
    have h := ih (r + 1) (by omega) (by omega)
    rw [impl_commonLines.l8_eq, bifT (by omega), impl_commonLines.l14_eq]
    by_cases hjb : (j : Int) < (b.length : Int)
    · rw [bifT hjb, bifF (by omega), hr1]; exact h
    · rw [bifF hjb, hr1]; exact h
end
theorem iPairs (a b : T) (ha : a.length ≤ 1000) (hb : b.length ≤ 1000) : ∀ (l : List (Nat × Nat)) (i j : Nat) (acc : Tb), i ≤ a.length → j ≤ b.length → acc.length + l.length ≤ 10000 → PR a b i j l →
    impl_commonLines.l8 a b (tbl a b) acc (j : Int) (tv a b i j : Int) (a.length : Int) (i : Int) = some (acc ++ cvI l) := by
  intro l
  induction l with
  | nil =>
    intro i j acc hi hj hl h
    rw [ip_zero a b ha hb i j hi hj acc h (a.length - i) i rfl hi]; simp [cvI]
  | cons p l ih =>
    obtain ⟨p, q⟩ := p
    intro i j acc hi hj hl h
    rw [List.length_cons] at hl
    have h1 := h.1.hpa
    have h2 := h.1.hqb
    have h3 := h.1.hm.2
    have kk := ih (p + 1) (q + 1) (acc ++ [[(p : Int), (q : Int)]]) (by omega) (by omega) (by simp; omega) h.2
    rw [show (tv a b (p + 1) (q + 1) : Int) = (tv a b i j : Int) - 1 by omega] at kk
    rw [ip_rows a b ha hb i j hi hj acc _ p q h.1 (by omega) (by omega) kk (p - i) i rfl (Nat.le_refl _) h.1.hip, List.append_assoc]; rfl
theorem pairs_both (a b : T) (ha : a.length ≤ 1000) (hb : b.length ≤ 1000) : ∃ l, PR a b 0 0 l ∧ l.length ≤ 1000 ∧ spec_l3Pairs.f a b = some (cvS l) ∧ impl_commonLines.f a b = some (cvI l) := by
  obtain ⟨l, hl, hn⟩ := ex_PR a b a.length 0 0 (by omega)
  refine ⟨l, hl, by omega, ?_, ?_⟩
  · rw [spec_l3Pairs.f_eq, sTable a b ha hb, sB]
    have := sPairs a b ha hb l 0 0 [] (by omega) (by omega) (by simp; omega) hl
    simpa using this
  · have L1 := tbl_len a b
    have L2 := trow_len a b 0
    have e1 : (tbl a b).getD 0 [] = trow a b 0 := tb_row a b (Nat.zero_le _)
    have e2 : (trow a b 0).getD 0 0 = (tv a b 0 0 : Int) := trow_get a b 0 (Nat.zero_le _)
    rw [impl_commonLines.f_eq, iTable a b ha hb, sB, e1, e2, bifT (by omega), bifT (by omega)]
    have := iPairs a b ha hb l 0 0 [] (by omega) (by omega) (by simp; omega) hl
    simpa using this
theorem cloneI (l : Tb) (h : l.length ≤ 1048576) : slices_Clone_LLint_Lint.f l = some l := by
  show clone1 24 l = _
  rw [clone1, room24, bifT (by omega)]
/-- Hunks between pairs of places. -/
def jm (b : T) : Nat → Nat → List (Nat × Nat) → List Hk
  | _, _, [] => []
  | i, j, (p, q) :: l => (if i < p ∨ j < q then [((i : Int), (p : Int) - (i : Int), (b.take q).drop j)] else []) ++ jm b (p + 1) (q + 1) l
theorem jm_cons (b : T) (i j p q : Nat) (l : List (Nat × Nat)) : jm b i j ((p, q) :: l) = (if i < p ∨ j < q then [((i : Int), (p : Int) - (i : Int), (b.take q).drop j)] else []) ++ jm b (p + 1) (q + 1) l := rfl
theorem jm_bound (b : T) : ∀ (l : List (Nat × Nat)) (i j : Nat), (jm b i j l).length ≤ l.length ∧ ∀ h ∈ jm b i j l, h.2.2.length ≤ b.length
  | [], _, _ => ⟨Nat.le_refl _, fun h hh => by simp [jm] at hh⟩
  | (p, q) :: l, i, j => by
    obtain ⟨h1, h2⟩ := jm_bound b l (p + 1) (q + 1)
    rw [jm_cons]
    split
    · refine ⟨by simp; omega, fun h hh => ?_⟩
      simp only [List.singleton_append, List.mem_cons] at hh
      rcases hh with rfl | hh
      · simp only [List.length_drop, List.length_take]; omega
      · exact h2 h hh
    · refine ⟨by simp; omega, fun h hh => ?_⟩
      simp only [List.nil_append] at hh
      exact h2 h hh
theorem jm_mem (b : T) : ∀ (l : List (Nat × Nat)) (i j : Nat), ∀ h ∈ jm b i j l, ∀ s ∈ h.2.2, s ∈ b
  | [], _, _, h, hh => by simp [jm] at hh
  | (p, q) :: l, i, j, h, hh => by
    rw [jm_cons] at hh
    rcases List.mem_append.1 hh with hh | hh
    · split at hh
      · simp only [List.mem_singleton] at hh
        subst hh
        exact fun s hs => List.mem_of_mem_take (List.mem_of_mem_drop hs)
      · simp at hh
    · exact jm_mem b l _ _ h hh
def Ch (la lb : Nat) : Nat → Nat → List (Nat × Nat) → Prop
  | _, _, [] => True
  | i, j, (p, q) :: l => i ≤ p ∧ j ≤ q ∧ p ≤ la ∧ q ≤ lb ∧ Ch la lb (p + 1) (q + 1) l
theorem ch_of (a b : T) : ∀ (l : List (Nat × Nat)) (i j : Nat), i ≤ a.length → j ≤ b.length → PR a b i j l → Ch a.length b.length i j (l ++ [(a.length, b.length)]) := by
  intro l
  induction l with
  | nil => intro i j hi hj h; exact ⟨hi, hj, Nat.le_refl _, Nat.le_refl _, trivial⟩
  | cons p l ih =>
    obtain ⟨p, q⟩ := p
    intro i j hi hj h
    have h1 := h.1.hpa
    have h2 := h.1.hqb
    exact ⟨h.1.hip, h.1.hjq, by omega, by omega, ih (p + 1) (q + 1) (by omega) (by omega) h.2⟩
theorem cvS_get (pre : List (Nat × Nat)) (p q : Nat) (l : List (Nat × Nat)) : (cvS (pre ++ (p, q) :: l)).getD pre.length (0, 0) = ((p : Int), (q : Int)) := by
  unfold cvS
  simp [List.getD_eq_getElem?_getD]
theorem cvI_get (pre : List (Nat × Nat)) (p q : Nat) (l : List (Nat × Nat)) : (cvI (pre ++ (p, q) :: l)).getD pre.length [] = [(p : Int), (q : Int)] := by
  unfold cvI
  simp [List.getD_eq_getElem?_getD]
theorem cvS_len (l : List (Nat × Nat)) : (cvS l).length = l.length := by simp [cvS]
theorem cvI_len (l : List (Nat × Nat)) : (cvI l).length = l.length := by simp [cvI]
section
variable (b : T) (la : Nat) (hla : la ≤ 1000) (hb : b.length ≤ 1000) (full : List (Nat × Nat)) (hf : full.length ≤ 10000)
include hla hb hf
theorem sJoin_l0 : ∀ (rest pre : List (Nat × Nat)) (acc : List Hk) (i j : Nat), full = pre ++ rest → Ch la b.length i j rest → acc.length + rest.length ≤ 100000 → i ≤ la + 1 → j ≤ b.length + 1 →
    spec_l2Join.l8 b acc (i : Int) (j : Int) (cvS full) (full.length : Int) (pre.length : Int) = some (acc ++ jm b i j rest) := by
  intro rest
  induction rest with
  | nil =>
    intro pre acc i j hfull hc ha hi hj
    have e : full.length = pre.length := by rw [hfull]; simp
    rw [spec_l2Join.l8_eq, bifF (by omega)]
    simp [jm]
  | cons p rest ih =>
    obtain ⟨p, q⟩ := p
    intro pre acc i j hfull hc ha hi hj
    obtain ⟨h1, h2, h3, h4, hc⟩ := hc
    have e : full.length = pre.length + (rest.length + 1) := by rw [hfull]; simp
    rw [List.length_cons] at ha
    have hg := cvS_get pre p q rest
    rw [← hfull] at hg
    have nx : ∀ acc2 : List Hk, acc2.length ≤ acc.length + 1 → spec_l2Join.l17 b acc2 ((p : Int), (q : Int)) (cvS full) (full.length : Int) (pre.length : Int) = some (acc2 ++ jm b (p + 1) (q + 1) rest) := by
      intro acc2 h5
      have := ih (pre ++ [(p, q)]) acc2 (p + 1) (q + 1) (by rw [hfull, List.append_assoc]; rfl) hc (by omega) (by omega) (by omega)
      rw [List.length_append, List.length_singleton] at this
      rw [spec_l2Join.l17_eq]
      simp only
      rw [up1 (by omega), up1 (by omega), up1 (by omega)]
      exact this
    have ho := ownT ((b.take q).drop j) (by rw [List.length_drop, List.length_take]; omega)
    have hL := cvS_len full
    have w : w64 ((p : Int) - (i : Int)) = (p : Int) - (i : Int) := w64_id (by omega) (by omega)
    rw [spec_l2Join.l8_eq]
    simp only [Int.toNat_natCast, hg, w, hL, room40, ho, sB, List.length_append, List.length_singleton]
    rw [bifT (by omega), bif2T (by omega) (by omega)]
    by_cases c1 : i < p
    · rw [bifT (by omega), bif3T (by omega) (by omega) (by omega), bifT (by omega), nx _ (by simp), List.append_assoc, jm_cons, if_pos (Or.inl c1)]
    · rw [bifF (by omega)]
      by_cases c2 : j < q
      · rw [bifT (by omega), bif3T (by omega) (by omega) (by omega), bifT (by omega), nx _ (by simp), List.append_assoc, jm_cons, if_pos (Or.inr c2)]
      · rw [bifF (by omega), nx _ (by omega), jm_cons, if_neg (show ¬ (i < p ∨ j < q) by omega), List.nil_append]
theorem iJoin_l0 : ∀ (rest pre : List (Nat × Nat)) (acc : List Hk) (i j : Nat), full = pre ++ rest → Ch la b.length i j rest → acc.length + rest.length ≤ 100000 → i ≤ la + 1 → j ≤ b.length + 1 →
    impl_between.l6 b acc (i : Int) (j : Int) (cvI full) (full.length : Int) (pre.length : Int) = some (acc ++ jm b i j rest) := by
  intro rest
  induction rest with
  | nil =>
    intro pre acc i j hfull hc ha hi hj
    have e : full.length = pre.length := by rw [hfull]; simp
    rw [impl_between.l6_eq, bifF (by omega)]
    simp [jm]
  | cons p rest ih =>
    obtain ⟨p, q⟩ := p
    intro pre acc i j hfull hc ha hi hj
    obtain ⟨h1, h2, h3, h4, hc⟩ := hc
    have e : full.length = pre.length + (rest.length + 1) := by rw [hfull]; simp
    rw [List.length_cons] at ha
    have hg := cvI_get pre p q rest
    rw [← hfull] at hg
    have g0 : ([(p : Int), (q : Int)] : List Int).getD 0 0 = (p : Int) := rfl
    have g1 : ([(p : Int), (q : Int)] : List Int).getD 1 0 = (q : Int) := rfl
    have g2 : (([(p : Int), (q : Int)] : List Int).length : Int) = 2 := rfl
    have nx : ∀ acc2 : List Hk, acc2.length ≤ acc.length + 1 → impl_between.l15 b acc2 [(p : Int), (q : Int)] (cvI full) (full.length : Int) (pre.length : Int) = some (acc2 ++ jm b (p + 1) (q + 1) rest) := by
      intro acc2 h5
      have := ih (pre ++ [(p, q)]) acc2 (p + 1) (q + 1) (by rw [hfull, List.append_assoc]; rfl) hc (by omega) (by omega) (by omega)
      rw [List.length_append, List.length_singleton] at this
      rw [impl_between.l15_eq, g0, g1, g2, bifT (by omega), bifT (by omega), up1 (by omega), up1 (by omega), up1 (by omega)]
      exact this
    have ho := cloneT ((b.take q).drop j) (by rw [List.length_drop, List.length_take]; omega)
    have hL := cvI_len full
    have w : w64 ((p : Int) - (i : Int)) = (p : Int) - (i : Int) := w64_id (by omega) (by omega)
    rw [impl_between.l6_eq]
    simp only [Int.toNat_natCast, hg, g0, g1, g2, w, hL, room40, ho, sB, List.length_append, List.length_singleton]
    rw [bifT (by omega), bif2T (by omega) (by omega), bifT (by omega)]
    by_cases c1 : i < p
    · rw [bifT (by omega), bifT (by omega), bifT (by omega), bif3T (by omega) (by omega) (by omega), bifT (by omega), nx _ (by simp), List.append_assoc, jm_cons, if_pos (Or.inl c1)]
    · rw [bifF (by omega), bifT (by omega)]
      by_cases c2 : j < q
      · rw [bifT (by omega), bifT (by omega), bifT (by omega), bif3T (by omega) (by omega) (by omega), bifT (by omega), nx _ (by simp), List.append_assoc, jm_cons, if_pos (Or.inr c2)]
      · rw [bifF (by omega), nx _ (by omega), jm_cons, if_neg (show ¬ (i < p ∨ j < q) by omega), List.nil_append]
end
theorem diff_jm (a b : T) (ha : a.length ≤ 1000) (hb : b.length ≤ 1000) : ∃ l : List (Nat × Nat), PR a b 0 0 l ∧ l.length ≤ 1000 ∧ spec_l3Diff.f a b = some (jm b 0 0 (l ++ [(a.length, b.length)])) ∧ impl_diff.f a b = some (jm b 0 0 (l ++ [(a.length, b.length)])) := by
  obtain ⟨l, hl, hn, hs, hi⟩ := pairs_both a b ha hb
  have hc := ch_of a b l 0 0 (by omega) (by omega) hl
  have hlen : (l ++ [(a.length, b.length)]).length = l.length + 1 := by simp
  have hf : (l ++ [(a.length, b.length)]).length ≤ 10000 := by omega
  have L1 := cvS_len l
  have L2 := cvI_len l
  refine ⟨l, hl, hn, ?_, ?_⟩
  · have e : cvS l ++ [((a.length : Int), (b.length : Int))] = cvS (l ++ [(a.length, b.length)]) := by simp [cvS]
    rw [spec_l3Diff.f_eq, hs, sB, spec_l2Join.f_eq, e, room16, bifT (by simp only [List.length_singleton]; omega), cvS_len]
    exact bindEq (sJoin_l0 b a.length ha hb _ hf (l ++ [(a.length, b.length)]) [] [] 0 0 rfl hc (by rw [List.length_nil]; omega) (by omega) (by omega)) rfl
  · have e : cvI l ++ [([(a.length : Int), (b.length : Int)] : List Int)] = cvI (l ++ [(a.length, b.length)]) := by simp [cvI]
    rw [impl_diff.f_eq, hi, sB, impl_between.f_eq, cloneI (cvI l) (by omega), sB, e, room24, bifT (by simp only [List.length_singleton]; omega), cvI_len]
    exact bindEq (iJoin_l0 b a.length ha hb _ hf (l ++ [(a.length, b.length)]) [] [] 0 0 rfl hc (by rw [List.length_nil]; omega) (by omega) (by omega)) rfl
/-- the hunks between two lists of lines -/
noncomputable def dif (a b : T) : List Hk := (spec_l3Diff.f a b).getD []
theorem dif_eq (a b : T) (ha : a.length ≤ 1000) (hb : b.length ≤ 1000) : ∃ l : List (Nat × Nat), PR a b 0 0 l ∧ l.length ≤ 1000 ∧ dif a b = jm b 0 0 (l ++ [(a.length, b.length)]) ∧ spec_l3Diff.f a b = some (dif a b) ∧ impl_diff.f a b = some (dif a b) := by
  obtain ⟨l, hl, hn, hs, hi⟩ := diff_jm a b ha hb
  have e : dif a b = jm b 0 0 (l ++ [(a.length, b.length)]) := by unfold dif; rw [hs]; rfl
  exact ⟨l, hl, hn, e, by rw [e]; exact hs, by rw [e]; exact hi⟩
theorem allLines_of {l : T} (h : ∀ s ∈ l, lineP s) : allLines l = true := by
  unfold allLines; rw [List.all_eq_true]; intro s hs; exact decide_eq_true (h s hs)
theorem allLines_mem {l : T} (h : allLines l = true) : ∀ s ∈ l, lineP s := by
  unfold allLines at h; rw [List.all_eq_true] at h; exact fun s hs => of_decide_eq_true (h s hs)
theorem good_lines {l : T} (h : goodB l = true) : allLines l = true := by
  unfold goodB at h
  simp only [Bool.and_eq_true] at h
  exact h.1.2
theorem jm_good (b : T) (la : Nat) (hb : goodB b = true) : ∀ (l : List (Nat × Nat)) (i j : Nat) (pe : Int), Ch la b.length i j l → pe < (i : Int) → hunksB (la : Int) pe (jm b i j l) = true
  | [], _, _, _, _, _ => rfl
  | (p, q) :: l, i, j, pe, hc, hp => by
    obtain ⟨h1, h2, h3, h4, h5⟩ := hc
    have h40 := good_len hb
    rw [jm_cons]
    by_cases c : i < p ∨ j < q
    · rw [if_pos c]
      show (oneB _ _ _ && hunksB _ _ (jm b (p + 1) (q + 1) l)) = true
      rw [Bool.and_eq_true]
      refine ⟨?_, ?_⟩
      · unfold oneB
        rw [Bool.and_eq_true]
        refine ⟨decide_eq_true ⟨⟨by show (0 : Int) ≤ i; omega, by show (0 : Int) ≤ (p : Int) - i; omega, by show (i : Int) + ((p : Int) - i) ≤ la; omega⟩, ?_, ?_, hp⟩, allLines_of fun s hs => allLines_mem (good_lines hb) s (List.mem_of_mem_take (List.mem_of_mem_drop hs))⟩
        · show ¬ ((p : Int) - i = 0 ∧ ((b.take q).drop j).length = 0)
          rw [List.length_drop, List.length_take]; omega
        · show ((b.take q).drop j).length ≤ 40
          rw [List.length_drop, List.length_take]; omega
      · exact jm_good b la hb l (p + 1) (q + 1) _ h5 (by show (i : Int) + ((p : Int) - i) < _; omega)
    · rw [if_neg c, List.nil_append]
      exact jm_good b la hb l (p + 1) (q + 1) pe h5 (by omega)
theorem dif_good (a b : T) (ga : goodB a = true) (gb : goodB b = true) : hunksB (a.length : Int) (-1) (dif a b) = true := by
  have la := good_len ga
  have lb := good_len gb
  obtain ⟨l, hl, _, e, _, _⟩ := dif_eq a b (by omega) (by omega)
  rw [e]
  exact jm_good b a.length gb _ 0 0 (-1) (ch_of a b l 0 0 (by omega) (by omega) hl) (by omega)
theorem dif_sm (a b : T) (ha : a.length ≤ 1000) (hb : Sm b) (hb2 : b.length ≤ 1000) : HkSm (dif a b) := by
  obtain ⟨l, hl, hn, e, _, _⟩ := dif_eq a b ha hb2
  rw [e]
  have h1 := jm_bound b (l ++ [(a.length, b.length)]) 0 0
  have hlen : (l ++ [(a.length, b.length)]).length = l.length + 1 := by simp
  exact ⟨by omega, fun h hh => ⟨by have := h1.2 h hh; omega, fun s hs => hb.2 s (jm_mem b _ 0 0 h hh s hs)⟩⟩
noncomputable def diffB (a b : T) : List Hk × Bool := if goodB a = true ∧ goodB b = true ∧ (dif a b).length ≤ 20 then (dif a b, true) else ([], false)
theorem diff_both (a b : T) (ha : Sm a) (hb : Sm b) : spec_DiffHunks.f a b = some (diffB a b) ∧ impl_DiffHunks.f a b = some (diffB a b) := by
  rw [spec_DiffHunks.f_eq, impl_DiffHunks.f_eq, sGood a ha, iGood a ha, sB, sB]
  unfold diffB
  cases ga : goodB a with
  | false => exact ⟨rfl, rfl⟩
  | true =>
    rw [notT, notT, sGood b hb, iGood b hb, sB, sB]
    cases gb : goodB b with
    | false => exact ⟨rfl, rfl⟩
    | true =>
      have la := good_len ga
      have lb := good_len gb
      obtain ⟨l, _, _, _, hs, hi⟩ := dif_eq a b (by omega) (by omega)
      have hsm := dif_sm a b (by omega) hb (by omega)
      have hg := dif_good a b ga gb
      rw [notT, notT, impl_DiffHunks.l7_eq, hs, hi, sB, sB, sHunks _ _ (by omega) (by omega) hsm, iHunks _ _ (by omega) (by omega) hsm, sB, sB, hg, Bool.true_and, decide_eq_true (show (a.length : Int) ≤ 40 by omega), Bool.and_true]
      by_cases h20 : (dif a b).length ≤ 20
      · rw [bifNF h20, bifNF h20, spec_DiffHunks.l7_eq, hs, sB, if_pos ⟨rfl, rfl, h20⟩]; exact ⟨rfl, rfl⟩
      · rw [bifNT h20, bifNT h20, if_neg (fun h => h20 h.2.2)]; exact ⟨rfl, rfl⟩
theorem jm_pat (a b : T) : ∀ (l : List (Nat × Nat)) (i j k : Nat), PR a b i j l → i ≤ a.length → j ≤ b.length → k ≤ i → pat a k (jm b i j (l ++ [(a.length, b.length)])) = (a.take i).drop k ++ b.drop j
  | [], i, j, k, _, hi, hj, hk => by
    rw [List.nil_append, jm_cons]
    by_cases c : i < a.length ∨ j < b.length
    · rw [if_pos c]
      show pat a k [((i : Int), (a.length : Int) - (i : Int), (b.take b.length).drop j)] = _
      have e : ((i : Int) + ((a.length : Int) - (i : Int))).toNat = a.length := by omega
      simp only [pat, Int.toNat_natCast, e, List.take_length, List.drop_length, List.append_nil]
    · rw [if_neg c]
      have e1 : i = a.length := by omega
      have e2 : j = b.length := by omega
      subst e1; subst e2
      simp only [List.nil_append, jm, pat, List.take_length, List.drop_length, List.append_nil]
  | (p, q) :: l, i, j, k, hP, hi, hj, hk => by
    obtain ⟨hL, hP⟩ := hP
    have h1 := hL.hip
    have h2 := hL.hpa
    have h3 := hL.hjq
    have h4 := hL.hqb
    have h5 := hL.hm.1
    have ea : ∀ m, m ≤ p → (a.take (p + 1)).drop m = (a.take p).drop m ++ [b.getD q em] := by
      intro m hm
      have : a[p] = b.getD q em := by rw [← h5]; simp [List.getD, h2]
      rw [List.take_succ_eq_append_getElem h2, List.drop_append_of_le_length (by rw [List.length_take]; omega), this]
    have eb : b.drop j = (b.take q).drop j ++ b.getD q em :: b.drop (q + 1) := by
      rw [← drop_at h4 em]
      conv => lhs; rw [← List.take_append_drop q b]
      rw [List.drop_append_of_le_length (by rw [List.length_take]; omega)]
    rw [List.cons_append, jm_cons]
    by_cases c : i < p ∨ j < q
    · rw [if_pos c]
      show pat a k (((i : Int), (p : Int) - (i : Int), (b.take q).drop j) :: jm b (p + 1) (q + 1) (l ++ [(a.length, b.length)])) = _
      have e : ((i : Int) + ((p : Int) - (i : Int))).toNat = p := by omega
      rw [pat]
      simp only [Int.toNat_natCast, e]
      rw [jm_pat a b l (p + 1) (q + 1) p hP (by omega) (by omega) (by omega), ea p (by omega), show (a.take p).drop p = [] from List.drop_eq_nil_of_le (by rw [List.length_take]; omega), eb]
      simp only [List.nil_append, List.append_assoc, List.singleton_append]
    · rw [if_neg c, List.nil_append]
      have eb2 : b.drop j = b.getD q em :: b.drop (q + 1) := by rw [show j = q by omega]; exact drop_at h4 em
      have e1 : a.take i = a.take p := by rw [show i = p by omega]
      rw [jm_pat a b l (p + 1) (q + 1) k hP (by omega) (by omega) (by omega), ea k (by omega), e1, eb2]
      simp only [List.append_assoc, List.singleton_append]
theorem dif_pat (a b : T) (ha : a.length ≤ 1000) (hb : b.length ≤ 1000) : pat a 0 (dif a b) = b := by
  obtain ⟨l, hl, _, e, _, _⟩ := dif_eq a b ha hb
  rw [e, jm_pat a b l 0 0 0 hl (by omega) (by omega) (Nat.le_refl _)]; rfl
theorem PR_len (a b : T) : ∀ (l : List (Nat × Nat)) (i j : Nat), PR a b i j l → tv a b i j = l.length
  | [], _, _, h => h
  | (p, q) :: l, i, j, h => by
    have := PR_len a b l _ _ h.2
    have := h.1.hm.2
    rw [List.length_cons]; omega
/-- how many lines go, and how many come -/
def cG : List Hk → Int
  | [] => 0
  | x :: r => x.2.1 + cG r
def cC : List Hk → Int
  | [] => 0
  | x :: r => (x.2.2.length : Int) + cC r
theorem cG_append : ∀ a b : List Hk, cG (a ++ b) = cG a + cG b
  | [], b => by simp [cG]
  | x :: a, b => by rw [List.cons_append, cG, cG, cG_append a b]; omega
theorem cC_append : ∀ a b : List Hk, cC (a ++ b) = cC a + cC b
  | [], b => by simp [cC]
  | x :: a, b => by rw [List.cons_append, cC, cC, cC_append a b]; omega
theorem jm_cnt (a b : T) : ∀ (l : List (Nat × Nat)) (i j : Nat), PR a b i j l → i ≤ a.length → j ≤ b.length → cG (jm b i j (l ++ [(a.length, b.length)])) = (a.length : Int) - i - l.length ∧ cC (jm b i j (l ++ [(a.length, b.length)])) = (b.length : Int) - j - l.length
  | [], i, j, _, hi, hj => by
    rw [List.nil_append, jm_cons, cG_append, cC_append]
    simp only [jm, cG, cC, List.length_nil]
    split
    · simp only [cG, cC, List.length_drop, List.length_take]; omega
    · simp only [cG, cC]; omega
  | (p, q) :: l, i, j, hP, hi, hj => by
    obtain ⟨hL, hP⟩ := hP
    have h1 := hL.hip
    have h2 := hL.hpa
    have h3 := hL.hjq
    have h4 := hL.hqb
    have ih := jm_cnt a b l (p + 1) (q + 1) hP (by omega) (by omega)
    rw [List.cons_append, jm_cons, cG_append, cC_append, ih.1, ih.2, List.length_cons]
    split
    · simp only [cG, cC, List.length_drop, List.length_take]; omega
    · simp only [cG, cC]; omega
theorem dif_cnt (a b : T) (ha : a.length ≤ 1000) (hb : b.length ≤ 1000) : cG (dif a b) = (a.length : Int) - tv a b 0 0 ∧ cC (dif a b) = (b.length : Int) - tv a b 0 0 := by
  obtain ⟨l, hl, _, e, _, _⟩ := dif_eq a b ha hb
  have h := jm_cnt a b l 0 0 hl (by omega) (by omega)
  have h2 := PR_len a b l 0 0 hl
  rw [e]; omega
theorem lcs_self : ∀ a : T, lcs a a = a.length
  | [] => rfl
  | x :: a => by rw [lcs_cons, if_pos rfl, lcs_self a, List.length_cons]
theorem cnt_pos : ∀ {h : List Hk} {many pe : Int}, hunksB many pe h = true → 0 ≤ cG h ∧ 0 ≤ cC h ∧ (h ≠ [] → 0 < cG h + cC h)
  | [], _, _, _ => ⟨Int.le_refl _, Int.le_refl _, fun h => absurd rfl h⟩
  | x :: r, many, pe, h => by
    obtain ⟨h1, h2⟩ := hunksB_cons h
    obtain ⟨⟨q1, q2, q3⟩, q4, q5, q6, _⟩ := oneB_in h1
    obtain ⟨k1, k2, _⟩ := cnt_pos h2
    simp only [cG, cC]
    refine ⟨by omega, by omega, fun _ => ?_⟩
    omega
theorem dif_nil (a b : T) (ga : goodB a = true) (gb : goodB b = true) : dif a b = [] ↔ a = b := by
  have la := good_len ga
  have lb := good_len gb
  constructor
  · intro h
    have := dif_pat a b (by omega) (by omega)
    rw [h, pat, List.drop_zero] at this
    exact this
  · intro h
    subst h
    have h1 := dif_cnt a a (by omega) (by omega)
    have h2 : tv a a 0 0 = a.length := lcs_self a
    have h3 := cnt_pos (dif_good a a ga ga)
    by_cases hn : dif a a = []
    · exact hn
    · have := h3.2.2 hn; omega
theorem side_rows (c k : Int) (t : T) : side c (rowsOf k t) = if k = c then [] else t := by
  induction t with
  | nil => split <;> rfl
  | cons s t ih =>
    rw [show rowsOf k (s :: t) = (k, s) :: rowsOf k t from rfl, side_cons, ih]
    split <;> rfl
theorem seg_app (l : T) {k a b : Nat} (h1 : k ≤ a) (h2 : a ≤ b) : (l.take a).drop k ++ (l.take b).drop a = (l.take b).drop k := by
  by_cases hl : a ≤ l.length
  · have e : l.take b = l.take a ++ (l.take b).drop a := by
      have h := List.take_append_drop a (l.take b)
      rw [List.take_take, Nat.min_eq_left h2] at h
      exact h.symm
    have h3 : (l.take b).drop k = (l.take a).drop k ++ (l.take b).drop a := by
      conv => lhs; rw [e]
      rw [List.drop_append_of_le_length (by rw [List.length_take]; omega)]
    exact h3.symm
  · rw [List.take_of_length_le (show l.length ≤ a by omega), List.take_of_length_le (show l.length ≤ b by omega), List.drop_eq_nil_of_le (show l.length ≤ a by omega), List.append_nil]
/-- the first hunk does not begin ahead of a place -/
def KB (k : Nat) : List Hk → Prop
  | [] => True
  | x :: _ => (k : Int) ≤ x.1
theorem KB_of {k : Nat} {many pe : Int} {h : List Hk} (hb : hunksB many pe h = true) (hk : (k : Int) ≤ pe + 1) : KB k h := by
  cases h with
  | nil => trivial
  | cons x r =>
    obtain ⟨b1, _⟩ := hunksB_cons hb
    have := (oneB_in b1).2.2.2.1
    show (k : Int) ≤ x.1
    omega
/-- what was -/
theorem body_old (l : T) (e : Nat) : ∀ (h : List Hk) (k : Nat) (pe : Int), hunksB (l.length : Int) pe h = true → KB k h → lastE (k : Int) h ≤ (e : Int) → side 3 (body l e k h) = (l.take e).drop k
  | [], k, pe, _, _, _ => by rw [body, side_rows, if_neg (by decide)]
  | x :: r, k, pe, hb, hk, he => by
    obtain ⟨b1, b2⟩ := hunksB_cons hb
    obtain ⟨⟨q1, q2, q3⟩, q4, q5, q6, _⟩ := oneB_in b1
    have hk' : (k : Int) ≤ x.1 := hk
    have e1 : (((x.1 + x.2.1).toNat : Nat) : Int) = x.1 + x.2.1 := by omega
    have he2 : lastE (((x.1 + x.2.1).toNat : Nat) : Int) r ≤ (e : Int) := by rw [e1]; exact he
    have hl := (hunksB_last b2 q3).1
    rw [lastE] at he
    have ih := body_old l e r (x.1 + x.2.1).toNat (x.1 + x.2.1) b2 (KB_of b2 (by omega)) he2
    rw [body, side_append, side_append, side_append, side_rows, side_rows, side_rows, ih, if_neg (by decide), if_neg (by decide), if_pos rfl, List.append_nil, seg_app l (by omega) (by omega), seg_app l (by omega) (by omega)]
theorem pat_from (l : T) {k e : Nat} (h : List Hk) (h1 : k ≤ e) (h2 : KB e h) : pat l k h = (l.take e).drop k ++ pat l e h := by
  cases h with
  | nil =>
    rw [pat, pat]
    by_cases he : e ≤ l.length
    · have := seg_app l (k := k) (a := e) (b := l.length) h1 he
      rw [List.take_length] at this
      exact this.symm
    · rw [List.take_of_length_le (show l.length ≤ e by omega), List.drop_eq_nil_of_le (show l.length ≤ e by omega), List.append_nil]
  | cons x r =>
    have h2' : (e : Int) ≤ x.1 := h2
    rw [pat, pat, ← seg_app l (k := k) (a := e) (b := x.1.toNat) h1 (by omega)]
    simp only [List.append_assoc]
/-- what is -/
theorem body_new (l : T) (e : Nat) (t : List Hk) (ht : KB e t) : ∀ (h : List Hk) (k : Nat) (pe : Int), hunksB (l.length : Int) pe h = true → KB k h → lastE (k : Int) h ≤ (e : Int) → k ≤ e → pat l k (h ++ t) = side 2 (body l e k h) ++ pat l e t
  | [], k, pe, _, _, _, hke => by rw [List.nil_append, body, side_rows, if_neg (by decide)]; exact pat_from l t hke ht
  | x :: r, k, pe, hb, hk, he, hke => by
    obtain ⟨b1, b2⟩ := hunksB_cons hb
    obtain ⟨⟨q1, q2, q3⟩, q4, q5, q6, _⟩ := oneB_in b1
    have hk' : (k : Int) ≤ x.1 := hk
    have e1 : (((x.1 + x.2.1).toNat : Nat) : Int) = x.1 + x.2.1 := by omega
    have he2 : lastE (((x.1 + x.2.1).toNat : Nat) : Int) r ≤ (e : Int) := by rw [e1]; exact he
    have hl := (hunksB_last b2 q3).1
    rw [lastE] at he
    have ih := body_new l e t ht r (x.1 + x.2.1).toNat (x.1 + x.2.1) b2 (KB_of b2 (by omega)) he2 (by omega)
    rw [List.cons_append, pat, ih, body, side_append, side_append, side_append, side_rows, side_rows, side_rows, if_neg (by decide), if_pos rfl, if_neg (by decide), List.append_nil]
    simp only [List.append_assoc]
/-- how many lines are -/
theorem body_cnt (l : T) (e : Nat) (he : e ≤ l.length) : ∀ (h : List Hk) (k : Nat) (pe : Int), hunksB (l.length : Int) pe h = true → KB k h → lastE (k : Int) h ≤ (e : Int) → k ≤ e → ((side 2 (body l e k h)).length : Int) = (e : Int) - k + delta h
  | [], k, pe, _, _, _, hke => by rw [body, side_rows, if_neg (by decide), List.length_drop, List.length_take, delta]; omega
  | x :: r, k, pe, hb, hk, hle, hke => by
    obtain ⟨b1, b2⟩ := hunksB_cons hb
    obtain ⟨⟨q1, q2, q3⟩, q4, q5, q6, _⟩ := oneB_in b1
    have hk' : (k : Int) ≤ x.1 := hk
    have e1 : (((x.1 + x.2.1).toNat : Nat) : Int) = x.1 + x.2.1 := by omega
    have he2 : lastE (((x.1 + x.2.1).toNat : Nat) : Int) r ≤ (e : Int) := by rw [e1]; exact hle
    have hl := (hunksB_last b2 q3).1
    rw [lastE] at hle
    have ih := body_cnt l e he r (x.1 + x.2.1).toNat (x.1 + x.2.1) b2 (KB_of b2 (by omega)) he2 (by omega)
    rw [body, side_append, side_append, side_append, side_rows, side_rows, side_rows, if_neg (by decide), if_pos rfl, if_neg (by decide), delta]
    simp only [List.length_append, List.length_drop, List.length_take, List.length_nil]
    omega
theorem ghk_keep : ∀ (t : T) (R : YRowS) (k : Int) (o : List Hk) (b : Bool), ghk (rowsOf 1 t ++ R) k o b = ghk R (k + t.length) o (b && t.isEmpty)
  | [], R, k, o, b => by simp [rowsOf]
  | s :: t, R, k, o, b => by
    rw [show rowsOf 1 (s :: t) ++ R = (1, s) :: (rowsOf 1 t ++ R) from rfl, ghk, if_pos rfl, ghk_keep t R, Bool.false_and, List.length_cons, show k + 1 + (t.length : Int) = k + ((t.length + 1 : Nat) : Int) by omega]
    simp
theorem modL_app (f : Hk → Hk) (o : List Hk) (x : Hk) : modL f (o ++ [x]) = o ++ [f x] := by
  unfold modL
  have e : (o ++ [x]).length - 1 = o.length := by rw [List.length_append, List.length_singleton]; omega
  rw [e, getD_mid o x []]
  simp
theorem ghk_gone : ∀ (t : T) (R : YRowS) (k a g : Int) (n : T) (o : List Hk), ghk (rowsOf 2 t ++ R) k (o ++ [(a, g, n)]) true = ghk R (k + t.length) (o ++ [(a, g + t.length, n)]) true
  | [], R, k, a, g, n, o => by simp [rowsOf]
  | s :: t, R, k, a, g, n, o => by
    rw [show rowsOf 2 (s :: t) ++ R = (2, s) :: (rowsOf 2 t ++ R) from rfl, ghk, if_neg (by simp), if_pos rfl, show opn k (o ++ [(a, g, n)]) true = o ++ [(a, g, n)] from rfl, modL_app, show incH (a, g, n) = (a, g + 1, n) from rfl, ghk_gone t R]
    rw [List.length_cons, show k + 1 + (t.length : Int) = k + ((t.length + 1 : Nat) : Int) by omega, show g + 1 + (t.length : Int) = g + ((t.length + 1 : Nat) : Int) by omega]
theorem ghk_new : ∀ (t : T) (R : YRowS) (k a g : Int) (n : T) (o : List Hk), ghk (rowsOf 3 t ++ R) k (o ++ [(a, g, n)]) true = ghk R k (o ++ [(a, g, n ++ t)]) true
  | [], R, k, a, g, n, o => by simp [rowsOf]
  | s :: t, R, k, a, g, n, o => by
    rw [show rowsOf 3 (s :: t) ++ R = (3, s) :: (rowsOf 3 t ++ R) from rfl, ghk, if_neg (by simp), if_neg (by simp), show opn k (o ++ [(a, g, n)]) true = o ++ [(a, g, n)] from rfl, modL_app, show addH (3, s).2 (a, g, n) = (a, g, n ++ [s]) from rfl, ghk_new t R]
    simp only [List.append_assoc, List.singleton_append]
theorem ghk_one (t1 t2 : T) (h : ¬ (t1 = [] ∧ t2 = [])) (R : YRowS) (k : Int) (o : List Hk) : ghk (rowsOf 2 t1 ++ (rowsOf 3 t2 ++ R)) k o false = ghk R (k + t1.length) (o ++ [(k, (t1.length : Int), t2)]) true := by
  cases t1 with
  | cons s t =>
    rw [show rowsOf 2 (s :: t) ++ (rowsOf 3 t2 ++ R) = (2, s) :: (rowsOf 2 t ++ (rowsOf 3 t2 ++ R)) from rfl, ghk, if_neg (by simp), if_pos rfl, show opn k o false = o ++ [(k, 0, [])] from rfl, modL_app, show incH (k, 0, []) = (k, 1, []) from rfl, ghk_gone, ghk_new]
    rw [List.length_cons, List.nil_append, show k + 1 + (t.length : Int) = k + ((t.length + 1 : Nat) : Int) by omega, show 1 + (t.length : Int) = ((t.length + 1 : Nat) : Int) by omega]
  | nil =>
    cases t2 with
    | nil => exact absurd ⟨rfl, rfl⟩ h
    | cons s t =>
      rw [show rowsOf 2 [] ++ (rowsOf 3 (s :: t) ++ R) = (3, s) :: (rowsOf 3 t ++ R) from rfl, ghk, if_neg (by simp), if_neg (by simp), show opn k o false = o ++ [(k, 0, [])] from rfl, modL_app, show addH (3, s).2 (k, 0, []) = (k, 0, [s]) from rfl, ghk_new]
      simp
theorem ghk_body (l : T) (e : Nat) : ∀ (h : List Hk) (k : Nat) (pe : Int) (o : List Hk) (b : Bool), hunksB (l.length : Int) pe h = true → (b = true → (k : Int) ≤ pe) → KB k h → k ≤ l.length → ghk (body l e k h) (k : Int) o b = o ++ h
  | [], k, pe, o, b, _, _, _, _ => by
    have := ghk_keep ((l.take e).drop k) [] (k : Int) o b
    rw [List.append_nil] at this
    rw [body, this, ghk, List.append_nil]
  | x :: r, k, pe, o, b, hb, hbk, hk, hkl => by
    obtain ⟨b1, b2⟩ := hunksB_cons hb
    obtain ⟨⟨q1, q2, q3⟩, q4, q5, q6, _⟩ := oneB_in b1
    have hk' : (k : Int) ≤ x.1 := hk
    have hlen : ((l.take x.1.toNat).drop k).length = x.1.toNat - k := by rw [List.length_drop, List.length_take]; omega
    have hlen2 : ((l.take (x.1 + x.2.1).toNat).drop x.1.toNat).length = x.2.1.toNat := by rw [List.length_drop, List.length_take]; omega
    have hf : (b && ((l.take x.1.toNat).drop k).isEmpty) = false := by
      cases b with
      | false => rfl
      | true =>
        have := hbk rfl
        rw [Bool.true_and, List.isEmpty_eq_false_iff]
        intro e0
        rw [e0] at hlen
        simp only [List.length_nil] at hlen
        omega
    have e1 : (((x.1 + x.2.1).toNat : Nat) : Int) = x.1 + x.2.1 := by omega
    rw [body]
    simp only [List.append_assoc]
    rw [ghk_keep, hf, ghk_one _ _ (fun h => q4 ⟨by have := congrArg List.length h.1; rw [hlen2] at this; simp only [List.length_nil] at this; omega, by rw [h.2]; rfl⟩), hlen, hlen2]
    have ih := ghk_body l e r (x.1 + x.2.1).toNat (x.1 + x.2.1) (o ++ [x]) true b2 (fun _ => by omega) (KB_of b2 (by omega)) (by omega)
    rw [show (k : Int) + ((x.1.toNat - k : Nat) : Int) = x.1 by omega, show ((x.2.1.toNat : Nat) : Int) = x.2.1 by omega]
    rw [e1] at ih
    rw [show (((x.1, x.2.1, x.2.2) : Hk)) = x from rfl, ih]
    simp
theorem rows_len2 : ∀ l : YRowS, l.length ≤ (side 3 l).length + (side 2 l).length
  | [] => by simp
  | r :: l => by
    have := rows_len2 l
    rw [side_cons, side_cons]
    by_cases h3 : r.1 = 3
    · rw [if_pos h3, if_neg (by omega)]; simp only [List.length_cons]; omega
    · rw [if_neg h3]
      split <;> simp only [List.length_cons] <;> omega
def lastK (p : Int) (l : YRowS) : Int := match l.getLast? with | none => p | some r => r.1
theorem rowsB_app : ∀ (a b : YRowS) (p : Int), rowsB p (a ++ b) = (rowsB p a && rowsB (lastK p a) b)
  | [], b, p => by simp [lastK, rowsB]
  | r :: a, b, p => by
    have e : lastK p (r :: a) = lastK r.1 a := by
      unfold lastK
      cases a with
      | nil => rfl
      | cons q a => simp [List.getLast?_cons_cons, List.getLast?_cons]
    rw [List.cons_append, rowsB, rowsB, rowsB_app a b, e]
    simp only [Bool.and_assoc]
theorem rowsB_rows (k p : Int) (t : T) (hk : 1 ≤ k ∧ k ≤ 3) (hp : ¬ (k = 2 ∧ p = 3)) (ht : allLines t = true) : rowsB p (rowsOf k t) = true := by
  induction t generalizing p with
  | nil => rfl
  | cons s t ih =>
    rw [allLines_cons, Bool.and_eq_true] at ht
    rw [show rowsOf k (s :: t) = (k, s) :: rowsOf k t from rfl, rowsB, ht.1, ih k (by omega) ht.2, decide_eq_true hk, decide_eq_true hp]; rfl
theorem lastK_rows (k p : Int) (t : T) : lastK p (rowsOf k t) = if t = [] then p else k := by
  unfold lastK rowsOf
  rw [List.getLast?_map]
  cases h : t.getLast? with
  | none => rw [if_pos (List.getLast?_eq_none_iff.1 h)]; rfl
  | some s => rw [if_neg (by rintro rfl; cases h)]; rfl
theorem lines_take {l : T} (h : allLines l = true) (n : Nat) : allLines (l.take n) = true := allLines_of fun s hs => allLines_mem h s (List.mem_of_mem_take hs)
theorem lines_drop {l : T} (h : allLines l = true) (n : Nat) : allLines (l.drop n) = true := allLines_of fun s hs => allLines_mem h s (List.mem_of_mem_drop hs)
theorem body_rows (l : T) (hl : allLines l = true) (e : Nat) : ∀ (h : List Hk) (k : Nat) (pe p : Int), hunksB (l.length : Int) pe h = true → KB k h → (p = 3 → (k : Int) ≤ pe) → rowsB p (body l e k h) = true
  | [], k, pe, p, _, _, _ => rowsB_rows 1 p _ (by omega) (by omega) (lines_drop (lines_take hl e) k)
  | x :: r, k, pe, p, hb, hk, hp => by
    obtain ⟨b1, b2⟩ := hunksB_cons hb
    obtain ⟨⟨q1, q2, q3⟩, q4, q5, q6, q7⟩ := oneB_in b1
    have hk' : (k : Int) ≤ x.1 := hk
    have hlen : ((l.take x.1.toNat).drop k).length = x.1.toNat - k := by rw [List.length_drop, List.length_take]; omega
    rw [body, rowsB_app, rowsB_app, rowsB_app, rowsB_rows 1 p _ (by omega) (by omega) (lines_drop (lines_take hl _) k), Bool.true_and]
    rw [body_rows l hl e r _ (x.1 + x.2.1) _ b2 (KB_of b2 (by omega)) (fun _ => by omega), Bool.and_true, rowsB_rows 3 _ _ (by omega) (by omega) q7, Bool.and_true]
    refine rowsB_rows 2 _ _ (by omega) (fun hh => ?_) (lines_drop (lines_take hl _) _)
    obtain ⟨_, h3⟩ := hh
    rw [lastK_rows] at h3
    split at h3
    · rename_i e0
      rw [e0] at hlen
      simp only [List.length_nil] at hlen
      have := hp h3
      omega
    · cases h3
theorem any_app : ∀ a b : YRowS, anyB (a ++ b) = (anyB a || anyB b)
  | [], b => rfl
  | r :: a, b => by rw [List.cons_append, anyB, anyB, any_app a b, Bool.or_assoc]
theorem any_rows (k : Int) (t : T) : anyB (rowsOf k t) = (decide (t ≠ []) && !decide (k = 1)) := by
  induction t with
  | nil => rfl
  | cons s t ih =>
    rw [show rowsOf k (s :: t) = (k, s) :: rowsOf k t from rfl, anyB, ih]
    by_cases h : k = 1 <;> simp [h]
theorem body_any (l : T) (e k : Nat) (pe : Int) (x : Hk) (r : List Hk) (hb : hunksB (l.length : Int) pe (x :: r) = true) : anyB (body l e k (x :: r)) = true := by
  obtain ⟨b1, b2⟩ := hunksB_cons hb
  obtain ⟨⟨q1, q2, q3⟩, q4, q5, q6, q7⟩ := oneB_in b1
  have hlen2 : ((l.take (x.1 + x.2.1).toNat).drop x.1.toNat).length = x.2.1.toNat := by rw [List.length_drop, List.length_take]; omega
  rw [body, any_app, any_app, any_app, any_rows, any_rows, any_rows]
  by_cases hn : x.2.2 = []
  · have h1 : (l.take (x.1 + x.2.1).toNat).drop x.1.toNat ≠ [] := fun h0 => q4 ⟨by rw [h0] at hlen2; simp only [List.length_nil] at hlen2; omega, by rw [hn]; rfl⟩
    simp [h1]
  · simp [hn]
theorem ends_app : ∀ a b : T, endsT (a ++ b) = true → endsT a = true ∧ endsT b = true
  | [], b, h => ⟨rfl, h⟩
  | s :: a, b, h => by
    rw [List.cons_append, endsT, Bool.and_eq_true] at h
    obtain ⟨h1, h2⟩ := ends_app a b h.2
    refine ⟨?_, h2⟩
    rw [endsT, h1, Bool.and_true]
    cases a with
    | nil => rfl
    | cons q a => simpa using h.1
theorem good_mid {a b c : T} (h : goodB (a ++ b ++ c) = true) : goodB b = true := by
  unfold goodB at h ⊢
  simp only [Bool.and_eq_true, decide_eq_true_eq] at h ⊢
  refine ⟨⟨?_, allLines_of fun s hs => allLines_mem h.1.2 s (by simp [hs])⟩, (ends_app _ _ (ends_app _ _ h.2).1).2⟩
  have := h.1.1
  simp only [List.length_append] at this
  omega
theorem near_rest (w : Int) : ∀ (r : List Hk) (e : Int) (y : Hk) (s : List Hk), r.drop (near w e r) = y :: s → 2 * w < y.1 - lastE e (r.take (near w e r))
  | [], e, y, s, h => by simp at h
  | x :: r, e, y, s, h => by
    unfold near at h ⊢
    split at h
    · rename_i hc
      rw [if_pos hc]
      exact near_rest w r _ y s h
    · rename_i hc
      rw [if_neg hc]
      simp only [List.drop_zero, List.cons.injEq] at h
      obtain ⟨rfl, rfl⟩ := h
      simp only [List.take_zero, lastE]
      omega
/-- what is known of one group -/
structure OneG (l : T) (w m : Int) (pe : Int) (hs : List Hk) : Prop where
  f0 : 0 ≤ fromG w hs
  fe : fromG w hs ≤ (endG l w hs : Int)
  el : endG l w hs ≤ l.length
  le : lastE ((fromG w hs).toNat : Int) hs ≤ (endG l w hs : Int)
  kb : KB (fromG w hs).toNat hs
  ew : (endG l w hs : Int) ≤ lastE 0 hs + w
  s3 : side 3 (oneG l w m hs).2.2 = (l.take (endG l w hs)).drop (fromG w hs).toNat
  c2 : ((side 2 (oneG l w m hs).2.2).length : Int) = (endG l w hs : Int) - fromG w hs + delta hs
  gA : gA (oneG l w m hs) = (endG l w hs : Int)
  gB : gB (oneG l w m hs) = (endG l w hs : Int) + m + delta hs
  hk : ghk (oneG l w m hs).2.2 (oneG l w m hs).1 [] false = hs
theorem oneG_of (l : T) (w m : Int) (hw : 0 ≤ w) (pe : Int) (hs : List Hk) (hn : hs ≠ []) (hp : pe ≤ (l.length : Int)) (hb : hunksB (l.length : Int) pe hs = true) : OneG l w m pe hs := by
  obtain ⟨x, r, rfl⟩ : ∃ x r, hs = x :: r := by
    cases hs with
    | nil => exact absurd rfl hn
    | cons x r => exact ⟨x, r, rfl⟩
  obtain ⟨b1, b2⟩ := hunksB_cons hb
  obtain ⟨⟨q1, q2, q3⟩, q4, q5, q6, q7⟩ := oneB_in b1
  have hl := hunksB_last b2 q3
  have f0 : 0 ≤ fromG w (x :: r) := by show 0 ≤ max 0 (x.1 - w); omega
  have fx : fromG w (x :: r) ≤ x.1 := by show max 0 (x.1 - w) ≤ x.1; omega
  have e0 : (endG l w (x :: r) : Int) = min (l.length : Int) (lastE (x.1 + x.2.1) r + w) := by
    show (((min (l.length : Int) (lastE (x.1 + x.2.1) r + w)).toNat : Nat) : Int) = _
    omega
  have tn : (((fromG w (x :: r)).toNat : Nat) : Int) = fromG w (x :: r) := by omega
  have fe : fromG w (x :: r) ≤ (endG l w (x :: r) : Int) := by omega
  have el : endG l w (x :: r) ≤ l.length := by omega
  have le : lastE ((fromG w (x :: r)).toNat : Int) (x :: r) ≤ (endG l w (x :: r) : Int) := by rw [lastE]; omega
  have kb : KB (fromG w (x :: r)).toNat (x :: r) := by show (((fromG w (x :: r)).toNat : Nat) : Int) ≤ x.1; omega
  have s3 : side 3 (oneG l w m (x :: r)).2.2 = (l.take (endG l w (x :: r))).drop (fromG w (x :: r)).toNat := body_old l _ _ _ pe hb kb le
  have c2 : ((side 2 (oneG l w m (x :: r)).2.2).length : Int) = (endG l w (x :: r) : Int) - fromG w (x :: r) + delta (x :: r) := by
    have := body_cnt l (endG l w (x :: r)) el _ _ pe hb kb le (by omega)
    rw [tn] at this
    exact this
  refine ⟨f0, fe, el, le, kb, by rw [e0, lastE]; omega, s3, c2, ?_, ?_, ?_⟩
  · unfold Go.Abs.G.gA
    rw [s3, List.length_drop, List.length_take]
    show fromG w (x :: r) + _ = _
    omega
  · unfold Go.Abs.G.gB
    rw [c2]
    show fromG w (x :: r) + m + _ = _
    omega
  · have := ghk_body l (endG l w (x :: r)) _ _ pe [] false hb (fun h => by cases h) kb (by omega)
    rw [tn, List.nil_append] at this
    exact this
section
variable (l : T) (gl : goodB l = true) (w : Int) (hw : 0 ≤ w ∧ w ≤ 20)
include gl hw
theorem grp_good (h0 : List Hk) (gp : goodB (pat l 0 h0) = true) : ∀ (n : Nat) (h : List Hk) (m pe : Int) (k : Nat) (pre : T), h.length ≤ n → hunksB (l.length : Int) pe h = true → pe ≤ (l.length : Int) → pat l 0 h0 = pre ++ pat l k h → (pre.length : Int) = k + m → (∀ x r, h = x :: r → (k : Int) ≤ fromG w h) → groupsB k ((k : Int) + m) (grp l w n m h) = true
  | 0, h, m, pe, k, pre, _, _, _, _, _, _ => rfl
  | n + 1, [], m, pe, k, pre, _, _, _, _, _, _ => rfl
  | n + 1, x :: r, m, pe, k, pre, hn, hb, hpe, hp, hpl, hk => by
    have hks := hk x r rfl
    have hll := good_len gl
    have hpl40 := good_len gp
    obtain ⟨b1, b2⟩ := hunksB_cons hb
    obtain ⟨⟨q1, q2, q3⟩, q4, q5, q6, q7⟩ := oneB_in b1
    rw [grp]
    generalize hj : near w (x.1 + x.2.1) r = j
    have hjr := near_le w r (x.1 + x.2.1)
    have hsplit : (x :: r.take j) ++ r.drop j = x :: r := by rw [List.cons_append, List.take_append_drop]
    have hbs := hb
    rw [← hsplit] at hbs
    obtain ⟨hb1, hb2⟩ := hunksB_split hbs
    have O := oneG_of l w m hw.1 pe (x :: r.take j) (by simp) hpe hb1
    have hfx : fromG w (x :: r.take j) = fromG w (x :: r) := rfl
    generalize hf : fromG w (x :: r.take j) = f at *
    generalize he : endG l w (x :: r.take j) = e at *
    have hle := hunksB_last hb1 hpe
    have ekb : ∀ y s, r.drop j = y :: s → (e : Int) ≤ y.1 - w := by
      intro y s hy
      have h1 := near_rest w r (x.1 + x.2.1) y s (by rw [hj]; exact hy)
      rw [hj] at h1
      have h2 := O.ew
      rw [he, lastE] at h2
      omega
    have eKB : KB e (r.drop j) := by
      cases hd : r.drop j with
      | nil => trivial
      | cons y s => have := ekb y s hd; show (e : Int) ≤ y.1; omega
    have o1 := O.f0
    have o2 := O.fe
    have o3 := O.el
    have o6 := O.kb
    have o7 := O.s3
    have o8 := O.c2
    have oA := O.gA
    have oB := O.gB
    have o5 := O.le
    rw [hf] at o1 o2 o5 o6 o7 o8
    rw [he] at o2 o3 o5 o7 o8 oA oB
    have tn : ((f.toNat : Nat) : Int) = f := by omega
    have hsid := body_new l e (r.drop j) eKB (x :: r.take j) f.toNat pe hb1 o6 o5 (by omega)
    rw [hsplit] at hsid
    have hpf := pat_from l (k := k) (e := f.toNat) (x :: r) (by omega) o6
    have hrow : (oneG l w m (x :: r.take j)).2.2 = body l e f.toNat (x :: r.take j) := by unfold oneG; rw [hf, he]
    have hat : (oneG l w m (x :: r.take j)).1 = f := hf
    have hto : (oneG l w m (x :: r.take j)).2.1 = f + m := by unfold oneG; rw [hf]
    have hpat : pat l 0 h0 = (pre ++ (l.take f.toNat).drop k) ++ side 2 (oneG l w m (x :: r.take j)).2.2 ++ pat l e (r.drop j) := by
      rw [hp, hpf, hsid, hrow]
      simp only [List.append_assoc]
    have hplen := congrArg List.length hpat
    simp only [List.length_append, List.length_drop, List.length_take] at hplen
    have s3len := congrArg List.length o7
    simp only [List.length_drop, List.length_take] at s3len
    have r2 := rows_len2 (oneG l w m (x :: r.take j)).2.2
    have hrows : rowsB 0 (oneG l w m (x :: r.take j)).2.2 = true := by
      rw [hrow]; exact body_rows l (good_lines gl) e _ _ pe 0 hb1 o6 (fun h => by cases h)
    have hany : anyB (oneG l w m (x :: r.take j)).2.2 = true := by
      rw [hrow]; exact body_any l e _ pe x _ hb1
    have hg3 : goodB (side 3 (oneG l w m (x :: r.take j)).2.2) = true := by
      rw [o7]
      refine good_mid (a := l.take f.toNat) (c := l.drop e) ?_
      have e1 := seg_app l (k := 0) (a := f.toNat) (b := e) (by omega) (by omega)
      simp only [List.drop_zero] at e1
      rw [e1, List.take_append_drop]; exact gl
    have hg2 : goodB (side 2 (oneG l w m (x :: r.take j)).2.2) = true := by
      rw [hpat] at gp; exact good_mid gp
    have hgrp : groupB (oneG l w m (x :: r.take j)) = true := by
      unfold groupB tl
      rw [hrows, hany, hg3, hg2, Bool.true_and, Bool.true_and, Bool.and_true, Bool.and_true, decide_eq_true_eq, hat, hto]
      refine ⟨by omega, by omega, by omega, by omega, by omega⟩
    rw [groupsB, hgrp, Bool.true_and, oA, oB, hat, hto, decide_eq_true (show (k : Int) ≤ f ∧ (k : Int) + m ≤ f + m by omega), Bool.true_and]
    have ih := grp_good h0 gp n (r.drop j) (m + delta (x :: r.take j)) (lastE pe (x :: r.take j)) e ((pre ++ (l.take f.toNat).drop k) ++ side 2 (oneG l w m (x :: r.take j)).2.2) (by rw [List.length_drop]; rw [List.length_cons] at hn; omega) hb2 hle.2 hpat (by simp only [List.length_append, List.length_drop, List.length_take]; omega) (fun y s hy => by
      have := ekb y s hy
      rw [hy]
      show (e : Int) ≤ max 0 (y.1 - w)
      omega)
    rw [show (e : Int) + m + delta (x :: r.take j) = (e : Int) + (m + delta (x :: r.take j)) by omega]
    exact ih
end
theorem ghL_grp (l : T) (w : Int) (hw : 0 ≤ w) : ∀ (n : Nat) (h : List Hk) (m pe : Int) (o : List Hk), h.length ≤ n → hunksB (l.length : Int) pe h = true → pe ≤ (l.length : Int) → ghL l (grp l w n m h) o m = (o ++ h, 0, true)
  | 0, h, m, pe, o, hn, _, _ => by
    have : h = [] := List.length_eq_zero_iff.1 (by omega)
    subst this
    rw [grp, ghL, List.append_nil]
  | n + 1, [], m, pe, o, _, _, _ => by rw [grp, ghL, List.append_nil]
  | n + 1, x :: r, m, pe, o, hn, hb, hpe => by
    rw [grp]
    generalize hj : near w (x.1 + x.2.1) r = j
    have hsplit : (x :: r.take j) ++ r.drop j = x :: r := by rw [List.cons_append, List.take_append_drop]
    have hbs := hb
    rw [← hsplit] at hbs
    obtain ⟨hb1, hb2⟩ := hunksB_split hbs
    have O := oneG_of l w m hw pe (x :: r.take j) (by simp) hpe hb1
    have hle := hunksB_last hb1 hpe
    have s3len := congrArg List.length O.s3
    have o1 := O.f0
    have o2 := O.fe
    have o3 := O.el
    have o8 := O.c2
    simp only [List.length_drop, List.length_take] at s3len
    rw [ghL, if_neg (fun hh => hh (by rw [O.s3, O.gA]; rfl)), if_neg (fun hh => hh rfl), O.hk]
    rw [show m + (((side 2 (oneG l w m (x :: r.take j)).2.2).length : Int) - ((side 3 (oneG l w m (x :: r.take j)).2.2).length : Int)) = m + delta (x :: r.take j) by omega]
    rw [ghL_grp l w hw n (r.drop j) _ _ _ (by rw [List.length_drop]; rw [List.length_cons] at hn; omega) hb2 hle.2, List.append_assoc, hsplit]
theorem grp_each (l : T) (w : Int) (hw : 0 ≤ w) : ∀ (n : Nat) (h : List Hk) (m pe : Int), hunksB (l.length : Int) pe h = true → pe ≤ (l.length : Int) → ∀ y ∈ grp l w n m h, ∃ m' pe' hs, y = oneG l w m' hs ∧ hs ≠ [] ∧ hunksB (l.length : Int) pe' hs = true ∧ OneG l w m' pe' hs ∧ hs.length ≤ h.length
  | 0, h, m, pe, _, _, y, hy => by cases hy
  | n + 1, [], m, pe, _, _, y, hy => by cases hy
  | n + 1, x :: r, m, pe, hb, hpe, y, hy => by
    rw [grp] at hy
    generalize hj : near w (x.1 + x.2.1) r = j at hy
    have hsplit : (x :: r.take j) ++ r.drop j = x :: r := by rw [List.cons_append, List.take_append_drop]
    have hbs := hb
    rw [← hsplit] at hbs
    obtain ⟨hb1, hb2⟩ := hunksB_split hbs
    have hle := hunksB_last hb1 hpe
    rcases List.mem_cons.1 hy with rfl | hy
    · exact ⟨m, pe, _, rfl, by simp, hb1, oneG_of l w m hw pe _ (by simp) hpe hb1, by simp only [List.length_cons, List.length_take]; omega⟩
    · obtain ⟨m', pe', hs, h1, h2, h3, h4, h5⟩ := grp_each l w hw n (r.drop j) _ _ hb2 hle.2 y hy
      exact ⟨m', pe', hs, h1, h2, h3, h4, by rw [List.length_drop] at h5; rw [List.length_cons]; omega⟩
theorem grp_len (l : T) (w : Int) : ∀ (n : Nat) (h : List Hk) (m : Int), (grp l w n m h).length ≤ h.length
  | 0, h, m => by rw [grp]; simp
  | n + 1, [], m => by rw [grp]; simp
  | n + 1, x :: r, m => by
    have := grp_len l w n (r.drop (near w (x.1 + x.2.1) r)) (m + delta (x :: r.take (near w (x.1 + x.2.1) r)))
    rw [grp, List.length_cons, List.length_cons]
    rw [List.length_drop] at this
    omega
/-- groups of what can be done are good, and their hunks are what can be done -/
theorem grp_gs {l : T} {h : List Hk} (hp : (patchB l h).2 = true) {w : Int} (hw : 0 ≤ w ∧ w ≤ 20) : gsB (grp l w h.length 0 h) = true ∧ ghB l (grp l w h.length 0 h) = (h, 0, true) := by
  obtain ⟨q1, q2, q3, q4⟩ := patchB_ok hp
  unfold hunksG at q2
  simp only [Bool.and_eq_true, decide_eq_true_eq] at q2
  have h1 := grp_good l q1 w hw h q3 h.length h 0 (-1) 0 [] (Nat.le_refl _) q2.1 (by omega) rfl rfl (fun x r e => by rw [e]; show ((0 : Nat) : Int) ≤ max 0 (x.1 - w); omega)
  have h2 := grp_len l w h.length h 0
  have gs : gsB (grp l w h.length 0 h) = true := by
    unfold gsB
    rw [decide_eq_true (by omega), Bool.and_true]
    exact h1
  refine ⟨gs, ?_⟩
  have hf : farGB l (grp l w h.length 0 h) = false := by
    unfold farGB
    rw [List.any_eq_false]
    intro y hy
    obtain ⟨m', pe', hs, e1, e2, e3, O, _⟩ := grp_each l w hw.1 _ _ _ (-1) q2.1 (by omega) y hy
    have := O.el
    rw [e1, O.gA, decide_eq_true_eq]
    omega
  unfold ghB
  rw [if_pos ⟨q1, gs⟩, hf, if_neg (by simp), ghL_grp l w hw.1 _ _ _ (-1) _ (Nat.le_refl _) q2.1 (by omega), List.nil_append]
theorem iRow (k : Int) (t : T) (x : YGroup) (h : x.2.2.length + t.length ≤ 1048576) : impl_groupsOf_1.f k t x = some (x.1, x.2.1, x.2.2 ++ rowsOf k t) := by
  obtain ⟨a, b, rs⟩ := x
  simp only at h ⊢
  have key : ∀ i, i ≤ t.length → ∀ (r : YRowS), r.length + (t.length - i) ≤ 1048576 → impl_groupsOf_1.l2 k t (a, b, r) t (t.length : Int) (i : Int) = some (a, b, r ++ rowsOf k (t.drop i)) := by
    apply downTo
    · intro r _
      rw [impl_groupsOf_1.l2_eq, bifF (by omega), List.drop_eq_nil_of_le (by omega)]
      simp [rowsOf]
    · intro i hi ih r hr
      rw [impl_groupsOf_1.l2_eq, bifT (by omega), bif2T (by omega) (by omega), up1 (by omega), room24]
      simp only [Int.toNat_natCast]
      rw [bifT (by simp only [List.length_singleton]; omega), ih _ (by rw [List.length_append, List.length_singleton]; omega), drop_at hi em]
      simp [rowsOf]
  rw [impl_groupsOf_1.f_eq]
  exact key 0 (by omega) rs (by omega)
section
variable (l : T) (hl : l.length ≤ 40) (w : Int) (hw : 0 ≤ w ∧ w ≤ 20) (h : List Hk) (h20 : h.length ≤ 20) (hb : hunksB (l.length : Int) (-1) h = true)
include hl hw h20 hb
theorem iG10 (out : YGroupS) (m : Int) (i : Nat) : ∀ (s c : List Hk) (y : Hk), h = c ++ y :: s →
    impl_groupsOf.l10 l h w out m (i : Int) (c.length : Int) = impl_groupsOf.l15 l h w out m (i : Int) ((c.length + near w (y.1 + y.2.1) s : Nat) : Int) := by
  intro s
  induction s with
  | nil =>
    intro c y hf
    have hlen : h.length = c.length + 1 := by rw [hf, List.length_append, List.length_singleton]
    rw [impl_groupsOf.l10_eq, w64_id (x := (c.length : Int) + 1) (by omega) (by omega), bifF (by omega)]; rfl
  | cons z s ih =>
    intro c y hf
    have hlen : h.length = c.length + 1 + (s.length + 1) := by rw [hf, List.length_append, List.length_cons, List.length_cons]; omega
    have hy : h.getD c.length (0, 0, []) = y := by rw [hf]; exact getD_mid _ _ _ _
    have hz : h.getD (c.length + 1) (0, 0, []) = z := by
      have e : h = (c ++ [y]) ++ z :: s := by rw [hf]; simp
      have e2 : c.length + 1 = (c ++ [y]).length := by simp only [List.length_append, List.length_singleton]
      rw [e2, e]; exact getD_mid _ _ _ _
    have my := hunksB_mem hb y (by rw [hf]; simp)
    have mz := hunksB_mem hb z (by rw [hf]; simp)
    rw [impl_groupsOf.l10_eq, up1 (by omega), bifT (by omega), bif2T (by omega) (by omega), bif2T (by omega) (by omega), bif2T (by omega) (by omega)]
    simp only [Int.toNat_natCast, hy, hz]
    rw [w64_id (x := y.1 + y.2.1) (by omega) (by omega), w64_id (x := z.1 - (y.1 + y.2.1)) (by omega) (by omega), w64_id (x := 2 * w) (by omega) (by omega)]
    by_cases c1 : z.1 - (y.1 + y.2.1) ≤ 2 * w
    · rw [bifT c1]
      have := ih (c ++ [y]) z (by rw [hf]; simp)
      have e2 : (c ++ [y]).length = c.length + 1 := by simp
      rw [e2] at this
      rw [this, near, if_pos c1]
      congr 1; omega
    · rw [bifF c1, near, if_neg c1]; rfl
theorem iG22 (out : YGroupS) (ho : out.length ≤ 20) (a b : Int) (e : Nat) (he : e ≤ l.length) (last : Nat) : ∀ (cr pre rest : List Hk) (k : Nat) (pe m : Int) (rs : YRowS), h = pre ++ (cr ++ rest) → last + 1 = pre.length + cr.length → hunksB (l.length : Int) pe cr = true → KB k cr → lastE (k : Int) cr ≤ (e : Int) →
    rs.length + 200 * cr.length ≤ 10000 → -10000 ≤ m - 40 * (cr.length : Int) → m + 40 * (cr.length : Int) ≤ 10000 →
    impl_groupsOf.l22 l h w out m (pre.length : Int) (last : Int) (k : Int) (e : Int) (a, b, rs) = impl_groupsOf.l6 l h w (out ++ [(a, b, rs ++ body l e k cr)]) (m + delta cr) ((pre.length + cr.length : Nat) : Int) := by
  intro cr
  induction cr with
  | nil =>
    intro pre rest k pe m rs hf hla hcb hk hle h1 h2 h3
    simp only [List.length_nil] at hla h1 ⊢
    have hke : (k : Int) ≤ (e : Int) := hle
    rw [impl_groupsOf.l22_eq, bifF (by omega), bif3T (by omega) (by omega) (by omega)]
    simp only [Int.toNat_natCast]
    rw [iRow 1 _ (a, b, rs) (by simp only [List.length_drop, List.length_take]; omega), sB, room40]
    simp only
    rw [bifT (by simp only [List.length_singleton]; omega), body, delta]
    simp
  | cons x r ih =>
    intro pre rest k pe m rs hf hla hcb hk hle h1 h2 h3
    obtain ⟨b1, b2⟩ := hunksB_cons hcb
    obtain ⟨⟨q1, q2, q3⟩, q4, q5, q6, q7⟩ := oneB_in b1
    have hk' : (k : Int) ≤ x.1 := hk
    have hlen : h.length = pre.length + (r.length + 1 + rest.length) := by rw [hf]; simp only [List.length_append, List.length_cons]
    have hg : h.getD pre.length (0, 0, []) = x := by rw [hf]; exact getD_mid pre x (r ++ rest) _
    rw [List.length_cons] at hla h1 h2 h3
    have e1 : (((x.1 + x.2.1).toNat : Nat) : Int) = x.1 + x.2.1 := by omega
    have hle2 : lastE (((x.1 + x.2.1).toNat : Nat) : Int) r ≤ (e : Int) := by rw [e1]; exact hle
    rw [impl_groupsOf.l22_eq, bifT (by omega), bif2T (by omega) (by omega)]
    simp only [Int.toNat_natCast, hg]
    rw [bif3T (by omega) (by omega) (by omega), iRow 1 _ (a, b, rs) (by simp only [List.length_drop, List.length_take]; omega), sB]
    simp only
    rw [w64_id (x := x.1 + x.2.1) (by omega) (by omega), bif3T (by omega) (by omega) (by omega), iRow 2 _ _ (by simp only [List.length_append, rowsOf_len, List.length_drop, List.length_take]; omega), sB]
    simp only
    rw [iRow 3 _ _ (by simp only [List.length_append, rowsOf_len, List.length_drop, List.length_take]; omega), sB, up1 (by omega), w64_id (x := (x.2.2.length : Int) - x.2.1) (by omega) (by omega), w64_id (x := m + ((x.2.2.length : Int) - x.2.1)) (by omega) (by omega)]
    have := ih (pre ++ [x]) rest (x.1 + x.2.1).toNat (x.1 + x.2.1) (m + ((x.2.2.length : Int) - x.2.1)) (((rs ++ rowsOf 1 ((l.take x.1.toNat).drop k)) ++ rowsOf 2 ((l.take (x.1 + x.2.1).toNat).drop x.1.toNat)) ++ rowsOf 3 x.2.2) (by rw [hf]; simp) (by rw [List.length_append, List.length_singleton]; omega) b2 (KB_of b2 (by omega)) hle2 (by simp only [List.length_append, rowsOf_len, List.length_drop, List.length_take]; omega) (by omega) (by omega)
    rw [List.length_append, List.length_singleton, e1] at this
    refine this.trans ?_
    rw [body, delta, List.length_cons]
    congr 1
    · simp only [List.append_assoc]
    · omega
    · omega
theorem iG6 : ∀ (n : Nat) (rest pre : List Hk) (out : YGroupS) (m : Int), rest.length ≤ n → h = pre ++ rest → out.length ≤ pre.length → -(40 * (pre.length : Int)) ≤ m ∧ m ≤ 40 * (pre.length : Int) →
    impl_groupsOf.l6 l h w out m (pre.length : Int) = some (out ++ grp l w n m rest) := by
  intro n
  induction n with
  | zero =>
    intro rest pre out m hn hf ho hm
    have hr : rest = [] := List.length_eq_zero_iff.1 (by omega)
    have : h.length = pre.length := by rw [hf, hr]; simp
    rw [impl_groupsOf.l6_eq, bifF (by omega)]; simp [grp]
  | succ n ih =>
    intro rest pre out m hn hf ho hm
    cases rest with
    | nil =>
      have : h.length = pre.length := by rw [hf]; simp
      rw [impl_groupsOf.l6_eq, bifF (by omega)]; simp [grp]
    | cons x r =>
      have hlen : h.length = pre.length + (r.length + 1) := by rw [hf]; simp
      have hK := near_le w r (x.1 + x.2.1)
      have h10 := iG10 l hl w hw h h20 hb out m pre.length r pre x hf
      rw [impl_groupsOf.l6_eq, bifT (by omega), h10]
      unfold grp
      generalize near w (x.1 + x.2.1) r = K at hK
      have e0 : h = pre ++ ((x :: r.take K) ++ r.drop K) := by rw [hf, List.cons_append, List.take_append_drop]
      have hcl : (x :: r.take K).length = K + 1 := by rw [List.length_cons, List.length_take]; omega
      have hall := hunksB_mem hb
      have hsub : ∀ y ∈ x :: r.take K, y ∈ h := fun y hy => by rw [e0]; simp only [List.mem_append]; exact .inr (.inl hy)
      have hbb := hb
      rw [e0] at hbb
      obtain ⟨hb1, hb2⟩ := hunksB_split hbb
      obtain ⟨hb3, hb4⟩ := hunksB_split hb2
      have hpel := (hunksB_last hb1 (by omega)).2
      generalize hpe : lastE (-1) pre = pe at hb2 hb3 hb4 hpel
      have O := oneG_of l w m hw.1 pe (x :: r.take K) (by simp) hpel hb3
      have hcd : ∀ y ∈ x :: r.take K, 0 ≤ y.2.1 ∧ y.2.1 ≤ 40 ∧ y.2.2.length ≤ 40 := fun y hy => by
        have := hall y (hsub y hy); omega
      have hdl := delta_le hcd
      have hx := hall x (hsub x (by simp))
      have hgx : h.getD pre.length (0, 0, []) = x := by rw [hf]; exact getD_mid _ _ _ _
      have hly : h.getD (pre.length + K) (0, 0, []) = (x :: r.take K).getD K (0, 0, []) := by
        rw [e0]
        simp only [List.getD, List.getElem?_append_right (show pre.length ≤ pre.length + K by omega), Nat.add_sub_cancel_left]
        rw [List.getElem?_append_left (by omega)]
      have hmy := hall _ (hsub _ (getD_mem (l := x :: r.take K) (i := K) (by omega) (0, 0, [])))
      have hle := lastE_get (x :: r.take K) 0 (by simp)
      rw [hcl, Nat.add_sub_cancel] at hle
      have hend : (endG l w (x :: r.take K) : Int) = min (l.length : Int) (lastE 0 (x :: r.take K) + w) := by
        unfold endG
        omega
      have hfrom : fromG w (x :: r.take K) = max 0 (x.1 - w) := rfl
      have o1 := O.f0
      have o3 := O.el
      have tn : (((fromG w (x :: r.take K)).toNat : Nat) : Int) = fromG w (x :: r.take K) := by omega
      rw [impl_groupsOf.l15_eq, bif2T (by omega) (by omega), bif2T (by omega) (by omega), bif2T (by omega) (by omega)]
      simp only [Int.toNat_natCast, hgx, hly]
      rw [w64_id (x := x.1 - w) (by omega) (by omega), w64_id (x := ((x :: r.take K).getD K (0, 0, [])).1 + ((x :: r.take K).getD K (0, 0, [])).2.1) (by omega) (by omega), ← hle, w64_id (x := lastE 0 (x :: r.take K) + w) (by omega) (by omega)]
      rw [show min (lastE 0 (x :: r.take K) + w) (l.length : Int) = (endG l w (x :: r.take K) : Int) by rw [hend]; omega, show max (x.1 - w) 0 = fromG w (x :: r.take K) by rw [hfrom]; omega, w64_id (x := fromG w (x :: r.take K) + m) (by omega) (by omega), ← tn]
      have h22 := iG22 l hl w hw h h20 hb out (by omega) (fromG w (x :: r.take K)) (fromG w (x :: r.take K) + m) (endG l w (x :: r.take K)) o3 (pre.length + K) (x :: r.take K) pre (r.drop K) (fromG w (x :: r.take K)).toNat pe m [] e0 (by omega) hb3 O.kb O.le (by simp only [List.length_nil]; omega) (by omega) (by omega)
      have hnx := ih (r.drop K) (pre ++ (x :: r.take K)) (out ++ [oneG l w m (x :: r.take K)]) (m + delta (x :: r.take K)) (by rw [List.length_drop]; rw [List.length_cons] at hn; omega) (by rw [hf, List.append_assoc, List.cons_append, List.take_append_drop]) (by rw [List.length_append, List.length_append, List.length_singleton]; omega) (by rw [List.length_append]; omega)
      rw [List.length_append] at hnx
      rw [tn] at h22 ⊢
      refine (h22.trans hnx).trans ?_
      rw [List.append_assoc]; rfl
end
abbrev YFileDiff := ByteArray × Int × List (Int × Int × List (Int × ByteArray))
/-- how many marks -/
def cFileDiff (x : YFileDiff) : Nat := 1 + 1 + cGroupS x.2.2
/-- how large -/
def zFileDiff (x : YFileDiff) : Nat := 1 + 1 + zGroupS x.2.2
noncomputable def mkFileDiff (x : YFileDiff) (k : Int) : YFileDiff := (mk (k), k + 1, mkGroupS x.2.2 (k + 2))
theorem czFileDiff (x : YFileDiff) : cFileDiff x ≤ zFileDiff x := by
  unfold cFileDiff zFileDiff
  have h0 := czGroupS x.2.2
  omega
theorem eqFileDiff (x : YFileDiff) (hb : zFileDiff x ≤ 4398046511104) : laws_eqFileDiff.f x x = some true := by
  have hb2 : 1 + 1 + zGroupS x.2.2 ≤ 4398046511104 := hb
  rw [laws_eqFileDiff.f_eq]
  rw [toList_beq, bifNF rfl]
  rw [bifNF rfl]
  rw [eqGroupS _ (by omega), sB, notT]
abbrev YFileDiffS := List YFileDiff
def cFileDiffS (a : YFileDiffS) : Nat := tot cFileDiff a
def zFileDiffS (a : YFileDiffS) : Nat := a.length + tot zFileDiff a
theorem czFileDiffS (a : YFileDiffS) : cFileDiffS a ≤ zFileDiffS a := by
  have h := tot_mono cFileDiff zFileDiff (fun x => czFileDiff x) a
  unfold cFileDiffS zFileDiffS
  omega
theorem eqFileDiffS (a : YFileDiffS) (hb : zFileDiffS a ≤ 4398046511104) : laws_eqFileDiffS.f a a = some true := by
  have hb2 : a.length + tot zFileDiff a ≤ 4398046511104 := hb
  rw [laws_eqFileDiffS.f_eq, bifNF rfl]
  refine eqGo (n := a.length) (fun i => laws_eqFileDiffS.l8 a a i) (by show laws_eqFileDiffS.l8 a a _ = _; rw [laws_eqFileDiffS.l8_eq, bifF (by omega)]) fun i hi => ?_
  show laws_eqFileDiffS.l8 a a _ = _
  rw [laws_eqFileDiffS.l8_eq, bifT (by omega), bif2T (by omega) (by omega), bif2T (by omega) (by omega), up1 (by omega)]
  simp only [Int.toNat_natCast]
  have hm : zFileDiff (a.getD i (em, 0, [])) ≤ tot zFileDiff a := tot_mem zFileDiff (getD_mem hi _)
  rw [eqFileDiff _ (by omega), sB, notT]
noncomputable def mkFileDiffS : YFileDiffS → Int → YFileDiffS := mkL cFileDiff mkFileDiff
theorem markFileDiffS (a : YFileDiffS) (k : Int) (h0 : 0 ≤ k) (hk : k + cFileDiffS a ≤ 8796093022208) (hb : zFileDiffS a ≤ 4398046511104) : laws_markFileDiffS.f a k = some (k + cFileDiffS a, mkFileDiffS a k) := by
  have hb2 : a.length + tot zFileDiff a ≤ 4398046511104 := hb
  rw [laws_markFileDiffS.f_eq]
  refine markGo (fun x => zFileDiff x ≤ 4398046511104) cFileDiff mkFileDiff (fun a k i => laws_markFileDiffS.l4 a k i) (fun a k => by show laws_markFileDiffS.l4 a k _ = _; rw [laws_markFileDiffS.l4_eq, bifF (by omega)]) (fun pre x r k hp hk hc hl => ?_) a [] k (fun x hx => by have := tot_mem zFileDiff hx; omega) h0 hk (by simp; omega)
  have hz : 1 + 1 + zGroupS x.2.2 ≤ 4398046511104 := hp
  have hc2 : k + ((1 + 1 + cGroupS x.2.2 : Nat) : Int) ≤ 8796093022208 := hc
  have e0 : w64 (k + 1) = k + 1 := by rw [w64_id (by omega) (by omega)]
  have e1 : w64 (k + 1 + 1) = k + 2 := by rw [w64_id (by omega) (by omega)]; omega
  have f0 : laws_markText.f (k) = some (mk (k)) := mk_eq (by omega)
  have f2 : laws_markGroupS.f x.2.2 (k + 2) = some (k + 2 + cGroupS x.2.2, mkGroupS x.2.2 (k + 2)) := markGroupS _ _ (by omega) (by omega) (by omega)
  have eu := up1 (i := pre.length) (by omega)
  show laws_markFileDiffS.l4 _ k _ = laws_markFileDiffS.l4 _ (k + (cFileDiff x : Int)) _
  rw [laws_markFileDiffS.l4_eq]
  simp only [List.length_append, List.length_cons, List.length_nil, in0, inMid2, Bool.and_true, cond_true, Int.toNat_natCast, getD_mid, set_mid, eu, sB, e0, e1, f0, f2, mkFileDiff]
  all_goals (
    have ec : (cFileDiff x : Int) = 1 + 1 + (cGroupS x.2.2 : Int) := by simp only [cFileDiff]; omega
    rw [ec]
    congr 1 <;> omega)
theorem heldFileDiffS (a : YFileDiffS) (k : Int) (h0 : 0 ≤ k) (hk : k + cFileDiffS a ≤ 8796093022208) (hb : zFileDiffS a ≤ 4398046511104) : laws_heldFileDiffS.f (mkFileDiffS a k) k = some (k + cFileDiffS a) := by
  have hb2 : a.length + tot zFileDiff a ≤ 4398046511104 := hb
  rw [laws_heldFileDiffS.f_eq]
  generalize hF : mkFileDiffS a k = full
  refine heldGo (fun x => zFileDiff x ≤ 4398046511104) cFileDiff mkFileDiff full (fun k i => laws_heldFileDiffS.l4 full k i) (fun k => by show laws_heldFileDiffS.l4 _ k _ = _; rw [laws_heldFileDiffS.l4_eq, bifF (by omega)]) (fun pre x r k hf hp hk hc hl => ?_) a [] k hF.symm (fun x hx => by have := tot_mem zFileDiff hx; omega) h0 hk (by simp; omega)
  have hz : 1 + 1 + zGroupS x.2.2 ≤ 4398046511104 := hp
  have hc2 : k + ((1 + 1 + cGroupS x.2.2 : Nat) : Int) ≤ 8796093022208 := hc
  have e0 : w64 (k + 1) = k + 1 := by rw [w64_id (by omega) (by omega)]
  have e1 : w64 (k + 1 + 1) = k + 2 := by rw [w64_id (by omega) (by omega)]; omega
  have f0 : laws_markText.f (k) = some (mk (k)) := mk_eq (by omega)
  have f2 : laws_heldGroupS.f (mkGroupS x.2.2 (k + 2)) (k + 2) = some (k + 2 + cGroupS x.2.2) := heldGroupS _ _ (by omega) (by omega) (by omega)
  have eu := up1 (i := pre.length) (by omega)
  show laws_heldFileDiffS.l4 _ k _ = laws_heldFileDiffS.l4 _ (k + (cFileDiff x : Int)) _
  rw [laws_heldFileDiffS.l4_eq, hf]
  simp only [mkFileDiff]
  have n2 : decide (k + 2 + (cGroupS x.2.2 : Int) < 0) = false := decide_eq_false (by omega)
  simp only [List.length_append, List.length_cons, List.length_nil, in0, inMid2, Bool.and_true, cond_true, Int.toNat_natCast, getD_mid, eu, sB, e0, e1, f0, f2, toList_beq, decide_true, Bool.not_true, cond_false, n2]
  all_goals (
    have ec : (cFileDiff x : Int) = 1 + 1 + (cGroupS x.2.2 : Int) := by simp only [cFileDiff]; omega
    rw [ec]
    congr 1 <;> omega)
theorem sL6 (l : T) (h : List Hk) (w : Int) (hl : l.length ≤ 40) (hw : 0 ≤ w ∧ w ≤ 20) (h20 : h.length ≤ 20) (hb : hunksB (l.length : Int) (-1) h = true) : spec_l6Groups.f l h w = some (grp l w h.length 0 h) := by
  rw [spec_l6Groups.f_eq]
  exact sG8 l hl w hw h h20 hb h.length h [] [] 0 (Nat.le_refl _) rfl (by simp) (by simp)
theorem iL6 (l : T) (h : List Hk) (w : Int) (hl : l.length ≤ 40) (hw : 0 ≤ w ∧ w ≤ 20) (h20 : h.length ≤ 20) (hb : hunksB (l.length : Int) (-1) h = true) : impl_groupsOf.f l h w = some (grp l w h.length 0 h) := by
  rw [impl_groupsOf.f_eq]
  exact iG6 l hl w hw h h20 hb h.length h [] [] 0 (Nat.le_refl _) rfl (by simp) (by simp)
/-- the lines of a name -/
def lnF : YFileS → ByteArray → Option T
  | [], _ => none
  | x :: r, n => if x.1 = n then some x.2 else lnF r n
theorem lnF_mem : ∀ {f : YFileS} {n : ByteArray} {l : T}, lnF f n = some l → (n, l) ∈ f
  | [], _, _, h => by cases h
  | x :: r, n, l, h => by
    rw [lnF] at h
    by_cases e : x.1 = n
    · rw [if_pos e] at h
      cases h
      subst e
      exact List.mem_cons_self
    · rw [if_neg e] at h
      exact List.mem_cons_of_mem _ (lnF_mem h)
theorem lnF_none : ∀ {f : YFileS} {n : ByteArray}, lnF f n = none ↔ n ∉ f.map (·.1)
  | [], n => by simp [lnF]
  | x :: r, n => by
    have ih := lnF_none (f := r) (n := n)
    rw [lnF]
    by_cases e : x.1 = n
    · rw [if_pos e]; simp [e]
    · rw [if_neg e, ih]
      simp only [List.map_cons, List.mem_cons, not_or]
      exact ⟨fun h => ⟨fun h' => e h'.symm, h⟩, fun h => h.2⟩
theorem lnF_self : ∀ {f : YFileS}, List.Pairwise (fun x y => ordB x.1 y.1 = true) f → ∀ x ∈ f, lnF f x.1 = some x.2
  | [], _, x, h => by cases h
  | y :: r, hs, x, h => by
    rw [lnF]
    rcases List.mem_cons.1 h with rfl | h
    · rw [if_pos rfl]
    · have h1 : ordB y.1 x.1 = true := List.rel_of_pairwise_cons hs h
      rw [if_neg (fun e => by rw [e] at h1; exact ord_irrefl _ h1)]
      exact lnF_self (List.Pairwise.of_cons hs) x h
theorem iLin (f : YFileS) (n : ByteArray) (hf : f.length ≤ 1048576) : impl_linesIn.f f n = some ((lnF f n).getD [], (lnF f n).isSome) := by
  have idx : ∀ i, i ≤ f.length → ∃ r : Int, slices_IndexFunc_Limpl_File_impl_File__impl_linesIn_1.l4 f n (f.length : Int) (i : Int) = some (r, n) ∧ ((r < 0 ∧ lnF (f.drop i) n = none) ∨ ∃ k : Nat, r = (k : Int) ∧ k < f.length ∧ lnF (f.drop i) n = some (f.getD k (em, [])).2) := by
    apply downTo
    · refine ⟨-1, by rw [slices_IndexFunc_Limpl_File_impl_File__impl_linesIn_1.l4_eq, bifF (by omega)], .inl ⟨by omega, ?_⟩⟩
      rw [List.drop_eq_nil_of_le (by omega)]; rfl
    · intro i hi ih
      obtain ⟨r, h1, h2⟩ := ih
      rw [slices_IndexFunc_Limpl_File_impl_File__impl_linesIn_1.l4_eq, bifT (by omega), bif2T (by omega) (by omega), up1 (by omega)]
      simp only [Int.toNat_natCast]
      rw [impl_linesIn_1.f_eq, sB, drop_at hi (em, []), lnF]
      simp only [toList_beq]
      by_cases e : (f.getD i (em, [])).1 = n
      · refine ⟨(i : Int), by rw [bifT e], .inr ⟨i, rfl, hi, by rw [if_pos e]⟩⟩
      · rw [bifF e, if_neg e]
        exact ⟨r, h1, h2⟩
  obtain ⟨r, h1, h2⟩ := idx 0 (by omega)
  rw [List.drop_zero] at h2
  rw [impl_linesIn.f_eq, slices_IndexFunc_Limpl_File_impl_File__impl_linesIn_1.f_eq, show (0 : Int) = ((0 : Nat) : Int) from rfl, h1, sB]
  rcases h2 with ⟨h2, h3⟩ | ⟨k, rfl, h2, h3⟩
  · simp only
    rw [bifT (by omega), h3]; rfl
  · simp only
    rw [bifF (by omega), bif2T (by omega) (by omega), h3]; rfl
theorem sAt (f : YFileS) (n : ByteArray) (hf : f.length ≤ 1048576) : ∃ r : Int, spec_l15At.f f n = some r ∧ ((r < 0 ∧ lnF f n = none) ∨ ∃ k : Nat, r = (k : Int) ∧ k < f.length ∧ lnF f n = some (f.getD k (em, [])).2) := by
  have idx : ∀ i, i ≤ f.length → ∃ r : Int, spec_l15At.l4 n f (f.length : Int) (i : Int) = some r ∧ ((r < 0 ∧ lnF (f.drop i) n = none) ∨ ∃ k : Nat, r = (k : Int) ∧ k < f.length ∧ lnF (f.drop i) n = some (f.getD k (em, [])).2) := by
    apply downTo
    · refine ⟨-1, by rw [spec_l15At.l4_eq, bifF (by omega)], .inl ⟨by omega, ?_⟩⟩
      rw [List.drop_eq_nil_of_le (by omega)]; rfl
    · intro i hi ih
      obtain ⟨r, h1, h2⟩ := ih
      rw [spec_l15At.l4_eq, bifT (by omega), bif2T (by omega) (by omega), up1 (by omega)]
      simp only [Int.toNat_natCast]
      rw [drop_at hi (em, []), lnF, toList_beq]
      by_cases e : (f.getD i (em, [])).1 = n
      · refine ⟨(i : Int), by rw [bifT e], .inr ⟨i, rfl, hi, by rw [if_pos e]⟩⟩
      · rw [bifF e, if_neg e]
        exact ⟨r, h1, h2⟩
  obtain ⟨r, h1, h2⟩ := idx 0 (by omega)
  rw [List.drop_zero] at h2
  exact ⟨r, by rw [spec_l15At.f_eq]; exact h1, h2⟩
/-- the diff of a name, where there is one -/
noncomputable def mkE (w : Int) (n : ByteArray) (k : Int) (l m : T) : YFileDiff := (n, k, grp l w (dif l m).length 0 (dif l m))
noncomputable def entB (a b : YFileS) (w : Int) (n : ByteArray) : Option YFileDiff :=
  match lnF a n, lnF b n with
  | none, none => none
  | none, some m => some (mkE w n 1 [] m)
  | some l, none => some (mkE w n 2 l [])
  | some l, some m => if l = m then none else some (mkE w n 3 l m)
noncomputable def okE (a b : YFileS) (n : ByteArray) : Bool := decide ((dif ((lnF a n).getD []) ((lnF b n).getD [])).length ≤ 20)
theorem entB_name {a b : YFileS} {w : Int} {n : ByteArray} {x : YFileDiff} (h : entB a b w n = some x) : x.1 = n := by
  unfold entB at h
  split at h
  · cases h
  · cases h; rfl
  · cases h; rfl
  · split at h
    · cases h
    · cases h; rfl
theorem goodB_nil : goodB [] = true := by decide
theorem dif_none {m : T} (hm : goodB m = true) : (dif [] m).length ≤ 1 := by
  have h := dif_good [] m goodB_nil hm
  match hd : dif [] m with
  | [] => exact Nat.zero_le _
  | [x] => exact Nat.le_refl _
  | x :: y :: r =>
    rw [hd] at h
    obtain ⟨h1, h2⟩ := hunksB_cons h
    obtain ⟨h3, _⟩ := hunksB_cons h2
    obtain ⟨⟨q1, q2, q3⟩, _⟩ := oneB_in h1
    obtain ⟨⟨p1, p2, p3⟩, _, _, p4, _⟩ := oneB_in h3
    simp only [List.length_nil] at q3 p3
    omega
theorem dif_self {l : T} (hl : goodB l = true) : dif l l = [] := (dif_nil l l hl hl).2 rfl
structure FF (f : YFileS) : Prop where
  sm : SmF f
  len : f.length ≤ 8
  srt : List.Pairwise (fun x y => ordB x.1 y.1 = true) f
  good : ∀ x ∈ f, goodB x.2 = true
theorem fs_ok : ∀ {f : YFileS} {p : Option ByteArray}, fsB p f = true → (∀ x ∈ f, goodB x.2 = true) ∧ List.Pairwise (fun x y => ordB x.1 y.1 = true) f ∧ (∀ q, p = some q → ∀ x ∈ f, ordB q x.1 = true)
  | [], _, _ => ⟨fun _ h => (by cases h), List.Pairwise.nil, fun _ _ _ h => (by cases h)⟩
  | x :: r, p, h => by
    rw [fsB, Bool.and_eq_true, Bool.and_eq_true] at h
    obtain ⟨h1, h2, h3⟩ := h
    obtain ⟨k1, k2, k3⟩ := fs_ok h3
    unfold fileOk at h1
    rw [Bool.and_eq_true] at h1
    refine ⟨fun y hy => ?_, List.Pairwise.cons (k3 _ rfl) k2, fun q hq y hy => ?_⟩
    · rcases List.mem_cons.1 hy with rfl | hy
      · exact h1.2
      · exact k1 y hy
    · subst hq
      rcases List.mem_cons.1 hy with rfl | hy
      · exact h2
      · exact ord_trans h2 (k3 _ rfl y hy)
theorem ff_of {f : YFileS} (hs : SmF f) (h : goodF f = true) : FF f := by
  unfold goodF at h
  rw [Bool.and_eq_true] at h
  obtain ⟨k1, k2, _⟩ := fs_ok h.1
  have := of_decide_eq_true h.2
  exact ⟨hs, by omega, k2, k1⟩
theorem ln_good {f : YFileS} (hf : FF f) (n : ByteArray) : goodB ((lnF f n).getD []) = true ∧ Sm ((lnF f n).getD []) := by
  cases h : lnF f n with
  | none => exact ⟨goodB_nil, by decide, fun _ h => by cases h⟩
  | some l =>
    have := lnF_mem h
    exact ⟨hf.good _ this, (hf.sm.2 _ this).2⟩
/-- one name, by the program -/
theorem i_step (a b : YFileS) (w : Int) (ha : FF a) (hb : FF b) (hw : 0 ≤ w ∧ w ≤ 20) (U : T) (hU : U.length ≤ 16) (hn : ∀ n ∈ U, (lnF a n).isSome = true ∨ (lnF b n).isSome = true) :
    ∀ i, i ≤ U.length → ∀ out : YFileDiffS, out.length ≤ i → impl_DiffFiles.l24 a b w out U (U.length : Int) (i : Int) = some (if (U.drop i).all (okE a b) = true then (out ++ (U.drop i).filterMap (entB a b w), true) else ([], false)) := by
  apply downTo
  · intro out ho
    rw [impl_DiffFiles.l24_eq, bifF (by omega), List.drop_eq_nil_of_le (Nat.le_refl _)]
    simp
  · intro i hi ih out ho
    have hm := getD_mem hi em
    rw [impl_DiffFiles.l24_eq, bifT (by omega), bif2T (by omega) (by omega), up1 (by omega), drop_at hi em, List.all_cons]
    simp only [Int.toNat_natCast]
    generalize U.getD i em = n at hm ⊢
    have hn := hn n hm
    obtain ⟨ga, sa⟩ := ln_good ha n
    obtain ⟨gb, sb⟩ := ln_good hb n
    have hla := good_len ga
    have hlb := good_len gb
    rw [iLin a n ha.sm.1, iLin b n hb.sm.1, sB, sB]
    -- what is done where there is something to tell
    have tell : ∀ k : Int, entB a b w n = some (mkE w n k ((lnF a n).getD []) ((lnF b n).getD [])) →
        impl_DiffFiles.l45 a b w out ((lnF a n).getD []) ((lnF b n).getD []) (n, k, []) U (U.length : Int) (i : Int) = some (if (okE a b n && (U.drop (i + 1)).all (okE a b)) = true then (out ++ (n :: U.drop (i + 1)).filterMap (entB a b w), true) else ([], false)) := by
      intro k hk
      obtain ⟨_, d2⟩ := diff_both _ _ sa sb
      rw [impl_DiffFiles.l45_eq, d2, sB, List.filterMap_cons, hk]
      unfold diffB
      by_cases h20 : (dif ((lnF a n).getD []) ((lnF b n).getD [])).length ≤ 20
      · rw [if_pos ⟨ga, gb, h20⟩, show okE a b n = true from decide_eq_true h20, Bool.true_and]
        simp only [Bool.not_true, cond_false]
        rw [iL6 _ _ w hla hw h20 (dif_good _ _ ga gb), sB, bifT (by show out.length + 1 ≤ room 48; unfold room; omega), up1 (by omega)]
        have := ih (out ++ [mkE w n k ((lnF a n).getD []) ((lnF b n).getD [])]) (by rw [List.length_append]; simp; omega)
        rw [List.append_assoc] at this
        exact this
      · rw [if_neg (fun h => h20 h.2.2), show okE a b n = false from decide_eq_false h20, Bool.false_and]
        simp
    cases h1 : lnF a n with
    | none =>
      cases h2 : lnF b n with
      | none => rw [h1, h2] at hn; rcases hn with h | h <;> cases h
      | some m =>
        have hE : entB a b w n = some (mkE w n 1 [] m) := by unfold entB; rw [h1, h2]
        have := tell 1 (by rw [h1, h2]; exact hE)
        rw [h1, h2] at this
        exact this
    | some l =>
      cases h2 : lnF b n with
      | none =>
        have hE : entB a b w n = some (mkE w n 2 l []) := by unfold entB; rw [h1, h2]
        have := tell 2 (by rw [h1, h2]; exact hE)
        rw [h1, h2] at this
        exact this
      | some m =>
        rw [h1] at ga sa hla
        rw [h2] at gb sb hlb
        show (slices_Equal_Lstring_string.f l m).bind _ = _
        rw [iEqT l m (by have := sa.1; simp only [Option.getD_some] at this; omega) (by have := sb.1; simp only [Option.getD_some] at this; omega), sB]
        by_cases e : l = m
        · subst e
          have hE : entB a b w n = none := by unfold entB; rw [h1, h2]; exact if_pos rfl
          have hk : okE a b n = true := by
            unfold okE
            rw [h1, h2]
            show decide ((dif l l).length ≤ 20) = true
            rw [dif_self (l := l) ga]; rfl
          rw [bifT rfl, hk, Bool.true_and, List.filterMap_cons, hE]
          exact ih out (by omega)
        · have hE : entB a b w n = some (mkE w n 3 l m) := by unfold entB; rw [h1, h2]; exact if_neg e
          have := tell 3 (by rw [h1, h2]; exact hE)
          rw [h1, h2] at this
          rw [bifF e]
          exact this
theorem dif_patch {a b : T} (ga : goodB a = true) (gb : goodB b = true) (h : (dif a b).length ≤ 20) : (patchB a (dif a b)).2 = true := by
  have la := good_len ga
  have lb := good_len gb
  have e := dif_pat a b (by omega) (by omega)
  unfold patchB
  rw [if_pos]
  refine ⟨ga, ?_, by rw [e]; exact gb⟩
  unfold hunksG
  rw [dif_good a b ga gb, Bool.true_and, Bool.and_eq_true, decide_eq_true_eq, decide_eq_true_eq]
  exact ⟨h, by omega⟩
theorem sIn3 (x lo hi : Int) : spec_l1In.f x lo hi = some (decide (lo ≤ x) && decide (x ≤ hi)) := by
  rw [spec_l1In.f_eq]
  by_cases h : x ≥ lo
  · rw [bifT h, decide_eq_true (show lo ≤ x from h)]; rfl
  · rw [bifF h, decide_eq_false (show ¬ lo ≤ x from h)]; rfl
theorem iIn3 (x lo hi : Int) : impl_in.f x lo hi = some (decide (lo ≤ x) && decide (x ≤ hi)) := by
  rw [impl_in.f_eq]
  by_cases h : x ≥ lo
  · first | rw [bifT h, decide_eq_true (show lo ≤ x from h)]; rfl | rw [bifF (by omega), decide_eq_true (show lo ≤ x from h)]; rfl
  · first | rw [bifF h, decide_eq_false (show ¬ lo ≤ x from h)]; rfl | rw [bifT (by omega), decide_eq_false (show ¬ lo ≤ x from h)]; rfl
/-- a diff put among diffs in order -/
theorem sPut (d : YFileDiffS) (n : ByteArray) (k : Int) (g : YGroupS) (hd : d.length ≤ 1000) (hs : List.Pairwise (fun x y => ordB x.1 y.1 = true) d) (hn : ∀ y ∈ d, y.1 ≠ n) :
    ∃ r, spec_l15Put.f d n k g = some r ∧ r.length = d.length + 1 ∧ List.Pairwise (fun x y => ordB x.1 y.1 = true) r ∧ ∀ z, z ∈ r ↔ z = (n, k, g) ∨ z ∈ d := by
  have fin : ∀ i : Nat, i ≤ d.length → (∀ y ∈ d.drop i, ordB n y.1 = true) → (∀ y ∈ d.take i, ordB y.1 n = true) →
      ∃ r, spec_l15Put.l9 d (n, k, g) (i : Int) = some r ∧ r.length = d.length + 1 ∧ List.Pairwise (fun x y => ordB x.1 y.1 = true) r ∧ ∀ z, z ∈ r ↔ z = (n, k, g) ∨ z ∈ d := by
    intro i hi h1 h2
    have r48 : room 48 = 2932031007402 := by decide
    refine ⟨d.take i ++ [(n, k, g)] ++ d.drop i, ?_, ?_, ?_, ?_⟩
    · rw [spec_l15Put.l9_eq, bif2T (by omega) (by omega)]
      simp only [Int.toNat_natCast, List.nil_append]
      have e1 : (d.drop i).length = d.length - i := List.length_drop
      have e2 : (d.take i).length = i := by rw [List.length_take]; omega
      have e3 : (d.take i ++ [(n, k, g)]).length = i + 1 := by rw [List.length_append, e2]; rfl
      rw [bifT (by rw [e1, r48]; simp only [List.length_nil]; omega), bif2T (by omega) (by omega), bifT (by rw [e2, r48]; simp only [List.length_nil]; omega), bifT (by rw [e2, r48]; simp only [List.length_cons, List.length_nil]; omega), bifT (by rw [e3, e1, r48]; omega)]
    · simp only [List.length_append, List.length_cons, List.length_nil, List.length_take, List.length_drop]; omega
    · have hs' := hs
      rw [← List.take_append_drop i d, List.pairwise_append] at hs'
      obtain ⟨q1, q2, q3⟩ := hs'
      rw [List.append_assoc, List.pairwise_append]
      refine ⟨q1, ?_, ?_⟩
      · exact List.Pairwise.cons (fun y hy => h1 y hy) q2
      · intro x hx y hy
        rcases List.mem_cons.1 hy with rfl | hy
        · exact h2 x hx
        · exact q3 x hx y hy
    · intro z
      have : z ∈ d ↔ z ∈ d.take i ∨ z ∈ d.drop i := by
        rw [← List.mem_append, List.take_append_drop]
      rw [this]
      simp only [List.mem_append, List.mem_cons, List.not_mem_nil, or_false]
      constructor
      · rintro ((h | h) | h)
        · exact .inr (.inl h)
        · exact .inl h
        · exact .inr (.inr h)
      · rintro (h | h | h)
        · exact .inl (.inr h)
        · exact .inl (.inl h)
        · exact .inr h
  have loop : ∀ i : Nat, i ≤ d.length → (∀ y ∈ d.drop i, ordB n y.1 = true) →
      ∃ r, spec_l15Put.l4 d (n, k, g) (i : Int) = some r ∧ r.length = d.length + 1 ∧ List.Pairwise (fun x y => ordB x.1 y.1 = true) r ∧ ∀ z, z ∈ r ↔ z = (n, k, g) ∨ z ∈ d := by
    intro i
    induction i with
    | zero =>
      intro hi h1
      rw [spec_l15Put.l4_eq, bifF (by omega)]
      exact fin 0 hi h1 (fun y hy => by rw [List.take_zero] at hy; cases hy)
    | succ i ih =>
      intro hi h1
      have hw : w64 (((i + 1 : Nat) : Int) - 1) = (i : Int) := by rw [w64_id (by omega) (by omega)]; omega
      have hm := getD_mem (show i < d.length by omega) (em, (0 : Int), ([] : YGroupS))
      have hne := hn _ hm
      rw [spec_l15Put.l4_eq, bifT (by omega), hw, bif2T (by omega) (by omega)]
      simp only [Int.toNat_natCast]
      rw [toList_beq, decide_eq_false hne]
      show ∃ r, (bif (!ordB (d.getD i (em, (0 : Int), ([] : YGroupS))).1 n) && !false then _ else _) = some r ∧ _
      cases ho : ordB (d.getD i (em, (0 : Int), ([] : YGroupS))).1 n with
      | true =>
        refine fin (i + 1) hi h1 fun y hy => ?_
        rw [List.take_succ_eq_append_getElem (by omega), List.mem_append] at hy
        rcases hy with hy | hy
        · have h3 := hs
          rw [← List.take_append_drop i d, List.pairwise_append] at h3
          refine ord_trans (h3.2.2 y hy (d.getD i (em, (0 : Int), ([] : YGroupS))) ?_) ho
          rw [drop_at (show i < d.length by omega) (em, (0 : Int), ([] : YGroupS))]
          exact List.mem_cons_self
        · rw [List.mem_singleton] at hy
          subst hy
          rw [List.getD_eq_getElem?_getD, List.getElem?_eq_getElem (by omega)] at ho
          exact ho
      | false =>
        refine ih (by omega) fun y hy => ?_
        rw [drop_at (show i < d.length by omega) (em, (0 : Int), ([] : YGroupS))] at hy
        rcases List.mem_cons.1 hy with rfl | hy
        · rcases ord_tri (show ¬ ordB (d.getD i (em, (0 : Int), ([] : YGroupS))).1 n = true by rw [ho]; simp) with h | h
          · exact h
          · exact absurd h.symm hne
        · exact h1 y hy
  rw [spec_l15Put.f_eq]
  exact loop d.length (Nat.le_refl _) (fun y hy => by rw [List.drop_eq_nil_of_le (Nat.le_refl _)] at hy; cases hy)
/-- the names that only the second has -/
theorem s42 (a b : YFileS) (w : Int) (ha : FF a) (hb : FF b) (hw : 0 ≤ w ∧ w ≤ 20) :
    ∀ j, j ≤ b.length → ∀ out : YFileDiffS, out.length ≤ 8 + j → List.Pairwise (fun x y => ordB x.1 y.1 = true) out → (∀ y ∈ out, ∀ x ∈ b.drop j, lnF a x.1 = none → y.1 ≠ x.1) →
      ∃ r, spec_DiffFiles.l42 a w out b (b.length : Int) (j : Int) = some (r, true) ∧ List.Pairwise (fun x y => ordB x.1 y.1 = true) r ∧ ∀ z, z ∈ r ↔ z ∈ out ∨ ∃ x ∈ b.drop j, lnF a x.1 = none ∧ entB a b w x.1 = some z := by
  have hL := hb.len
  apply downTo
  · intro out ho hs hd
    refine ⟨out, by rw [spec_DiffFiles.l42_eq, bifF (by omega)], hs, fun z => ?_⟩
    rw [List.drop_eq_nil_of_le (Nat.le_refl _)]
    simp
  · intro j hj ih out ho hs hd
    have hm := getD_mem hj (em, ([] : T))
    have hself := lnF_self hb.srt _ hm
    have hsp := hb.srt
    have hdr := drop_at hj (em, ([] : T))
    rw [← List.take_append_drop j b, List.pairwise_append, hdr] at hsp
    have hlt : ∀ x ∈ b.drop (j + 1), ordB (b.getD j (em, ([] : T))).1 x.1 = true := fun x hx => List.rel_of_pairwise_cons hsp.2.1 hx
    obtain ⟨y1, q1, q2⟩ := sAt a (b.getD j (em, ([] : T))).1 ha.sm.1
    rw [spec_DiffFiles.l42_eq, bifT (by omega), bif2T (by omega) (by omega), up1 (by omega)]
    simp only [Int.toNat_natCast]
    rw [q1, sB]
    rcases q2 with ⟨q2, q3⟩ | ⟨m, rfl, q2, q3⟩
    · rw [bifT (by omega)]
      have gm := hb.good _ hm
      have sm := (hb.sm.2 _ hm).2
      obtain ⟨d1, _⟩ := diff_both [] (b.getD j (em, ([] : T))).2 ⟨by decide, fun _ h => by cases h⟩ sm
      have h1 := dif_none gm
      have hdb : diffB [] (b.getD j (em, ([] : T))).2 = (dif [] (b.getD j (em, ([] : T))).2, true) := if_pos ⟨goodB_nil, gm, by omega⟩
      rw [d1, sB, hdb]
      simp only
      rw [sL6 [] _ w (by simp) hw (by omega) (dif_good _ _ goodB_nil gm), sB]
      have hE : entB a b w (b.getD j (em, ([] : T))).1 = some (mkE w (b.getD j (em, ([] : T))).1 1 [] (b.getD j (em, ([] : T))).2) := by
        unfold entB; rw [q3, hself]
      obtain ⟨r, p1, p2, p3, p4⟩ := sPut out (b.getD j (em, ([] : T))).1 1 (grp [] w (dif [] (b.getD j (em, ([] : T))).2).length 0 (dif [] (b.getD j (em, ([] : T))).2)) (by omega) hs fun y hy => hd y hy _ (by rw [hdr]; exact List.mem_cons_self) q3
      rw [p1, sB]
      obtain ⟨r2, k1, k2, k3⟩ := ih r (by omega) p3 (fun y hy x hx hxn => by
        rcases (p4 y).1 hy with rfl | hy
        · intro e
          have := hlt x hx
          rw [← e] at this
          exact ord_irrefl _ this
        · exact hd y hy x (by rw [hdr]; exact List.mem_cons_of_mem _ hx) hxn)
      refine ⟨r2, k1, k2, fun z => ?_⟩
      rw [k3, p4, hdr]
      constructor
      · rintro ((h | h) | ⟨x, hx, h⟩)
        · exact .inr ⟨_, List.mem_cons_self, q3, by rw [hE, h]; rfl⟩
        · exact .inl h
        · exact .inr ⟨x, List.mem_cons_of_mem _ hx, h⟩
      · rintro (h | ⟨x, hx, h1, h2⟩)
        · exact .inl (.inr h)
        · rcases List.mem_cons.1 hx with rfl | hx
          · rw [hE] at h2
            exact .inl (.inl (Option.some.inj h2).symm)
          · exact .inr ⟨x, hx, h1, h2⟩
    · rw [bifF (by omega)]
      obtain ⟨r2, k1, k2, k3⟩ := ih out (by omega) hs (fun y hy x hx hxn => hd y hy x (by rw [hdr]; exact List.mem_cons_of_mem _ hx) hxn)
      refine ⟨r2, k1, k2, fun z => ?_⟩
      rw [k3, hdr]
      constructor
      · rintro (h | ⟨x, hx, h⟩)
        · exact .inl h
        · exact .inr ⟨x, List.mem_cons_of_mem _ hx, h⟩
      · rintro (h | ⟨x, hx, h1, h2⟩)
        · exact .inl h
        · rcases List.mem_cons.1 hx with rfl | hx
          · rw [q3] at h1; cases h1
          · exact .inr ⟨x, hx, h1, h2⟩
/-- the names of the first -/
theorem s10 (a b : YFileS) (w : Int) (ha : FF a) (hb : FF b) (hw : 0 ≤ w ∧ w ≤ 20) :
    ∀ i, i ≤ a.length → ∀ out : YFileDiffS, out.length ≤ i → spec_DiffFiles.l10 a b w out a (a.length : Int) (i : Int) =
      if ((a.drop i).map (·.1)).all (okE a b) = true then spec_DiffFiles.l42 a w (out ++ ((a.drop i).map (·.1)).filterMap (entB a b w)) b (b.length : Int) 0 else some ([], false) := by
  have hL := ha.len
  apply downTo
  · intro out ho
    rw [spec_DiffFiles.l10_eq, bifF (by omega), List.drop_eq_nil_of_le (Nat.le_refl _)]
    simp
  · intro i hi ih out ho
    have hm := getD_mem hi (em, ([] : T))
    have hself := lnF_self ha.srt _ hm
    have ga := ha.good _ hm
    have sa := (ha.sm.2 _ hm).2
    have r48 : room 48 = 2932031007402 := by decide
    obtain ⟨y1, q1, q2⟩ := sAt b (a.getD i (em, ([] : T))).1 hb.sm.1
    rw [spec_DiffFiles.l10_eq, bifT (by omega), bif2T (by omega) (by omega), drop_at hi (em, ([] : T)), List.map_cons, List.all_cons, List.filterMap_cons]
    simp only [Int.toNat_natCast]
    rw [q1, sB]
    generalize hx : a.getD i (em, ([] : T)) = x at *
    have hla := good_len ga
    rcases q2 with ⟨q2, q3⟩ | ⟨m, rfl, q2, q3⟩
    · rw [bifF (by omega), spec_DiffFiles.l27_eq]
      obtain ⟨d1, _⟩ := diff_both x.2 [] sa ⟨by decide, fun _ h => by cases h⟩
      have hok : okE a b x.1 = decide ((dif x.2 []).length ≤ 20) := by unfold okE; rw [hself, q3]; rfl
      have hE : entB a b w x.1 = some (mkE w x.1 2 x.2 []) := by unfold entB; rw [hself, q3]
      rw [d1, sB, hE, hok]
      unfold diffB
      by_cases h20 : (dif x.2 []).length ≤ 20
      · rw [if_pos ⟨ga, goodB_nil, h20⟩, decide_eq_true h20, Bool.true_and]
        simp only [Bool.not_true, cond_false]
        rw [sL6 _ _ w hla hw h20 (dif_good _ _ ga goodB_nil), sB, bifT (by decide), bifT (by rw [r48]; simp only [List.length_cons, List.length_nil]; omega), up1 (by omega)]
        have := ih (out ++ [mkE w x.1 2 x.2 []]) (by rw [List.length_append]; simp; omega)
        rw [List.append_assoc] at this
        exact this
      · rw [if_neg (fun h => h20 h.2.2), decide_eq_false h20, Bool.false_and]
        simp
    · rw [bifT (by omega), bif2T (by omega) (by omega), spec_DiffFiles.l27_eq]
      simp only [Int.toNat_natCast]
      have hmb := lnF_mem q3
      generalize (b.getD m (em, ([] : T))).2 = l2 at *
      have gb := hb.good _ hmb
      have sb := (hb.sm.2 _ hmb).2
      obtain ⟨d1, _⟩ := diff_both x.2 l2 sa sb
      have hok : okE a b x.1 = decide ((dif x.2 l2).length ≤ 20) := by unfold okE; rw [hself, q3]; rfl
      have hE : entB a b w x.1 = if x.2 = l2 then none else some (mkE w x.1 3 x.2 l2) := by unfold entB; rw [hself, q3]
      rw [d1, sB, hE, hok]
      unfold diffB
      by_cases h20 : (dif x.2 l2).length ≤ 20
      · rw [if_pos ⟨ga, gb, h20⟩, decide_eq_true h20, Bool.true_and]
        simp only [Bool.not_true, cond_false]
        rw [sL6 _ _ w hla hw h20 (dif_good _ _ ga gb), sB, bifF (by decide)]
        by_cases e : x.2 = l2
        · have h0 := (dif_nil x.2 l2 ga gb).2 e
          rw [bifF (by rw [h0]; decide), if_pos e, up1 (by omega)]
          exact ih out (by omega)
        · have h0 : dif x.2 l2 ≠ [] := fun h => e ((dif_nil x.2 l2 ga gb).1 h)
          have h1 := List.length_pos_iff.2 h0
          rw [bifT (by omega), if_neg e, bifT (by rw [r48]; simp only [List.length_cons, List.length_nil]; omega), up1 (by omega)]
          have := ih (out ++ [mkE w x.1 3 x.2 l2]) (by rw [List.length_append]; simp; omega)
          rw [List.append_assoc] at this
          exact this
      · rw [if_neg (fun h => h20 h.2.2), decide_eq_false h20, Bool.false_and]
        simp
/-- the names of both -/
theorem i10 (a b : YFileS) (w : Int) (c : YFileS) (hc : c.length ≤ 16) : ∀ i, i ≤ c.length → impl_DiffFiles.l10 a b w ((c.take i).map (·.1)) c (c.length : Int) (i : Int) =
    impl_DiffFiles.l24 a b w [] (uniqB (c.map (·.1))) ((uniqB (c.map (·.1))).length : Int) 0 := by
  apply downTo
  · rw [impl_DiffFiles.l10_eq, bifF (by omega), List.take_length, iSort _ (by rw [List.length_map]; omega), sB, iCompact _ (by rw [sortB_len, List.length_map]; omega), sB]
    rfl
  · intro i hi ih
    have r16 : room 16 = 8796093022208 := by decide
    rw [impl_DiffFiles.l10_eq, bifT (by omega), bif2T (by omega) (by omega), up1 (by omega)]
    simp only [Int.toNat_natCast]
    rw [bifT (by rw [r16, List.length_map, List.length_take]; simp only [List.length_cons, List.length_nil]; omega)]
    have e : (c.take i).map (·.1) ++ [(c.getD i (em, ([] : T))).1] = (c.take (i + 1)).map (·.1) := by
      rw [List.take_succ_eq_append_getElem hi, List.map_append, List.getD_eq_getElem?_getD, List.getElem?_eq_getElem hi]; rfl
    rw [e]
    exact ih
noncomputable def allN (a b : YFileS) : T := uniqB ((a ++ b).map (·.1))
noncomputable def dfB (a b : YFileS) (w : Int) : YFileDiffS × Bool :=
  if goodF a = true ∧ goodF b = true ∧ (0 ≤ w ∧ w ≤ 20) ∧ (allN a b).all (okE a b) = true then ((allN a b).filterMap (entB a b w), true) else ([], false)
theorem mem_allN {a b : YFileS} {n : ByteArray} : n ∈ allN a b ↔ (lnF a n).isSome = true ∨ (lnF b n).isSome = true := by
  unfold allN
  rw [uniq_mem, List.map_append, List.mem_append]
  have : ∀ f : YFileS, n ∈ f.map (·.1) ↔ (lnF f n).isSome = true := by
    intro f
    have := lnF_none (f := f) (n := n)
    cases h : lnF f n with
    | none => simp [this.1 h]
    | some l =>
      rw [h] at this
      have hh : ¬ n ∉ f.map (·.1) := fun k => by have := this.2 k; cases this
      simp only [Option.isSome_some, iff_true]
      exact Classical.not_not.1 hh
  rw [this, this]
theorem fm_sorted (a b : YFileS) (w : Int) : ∀ U : T, List.Pairwise (fun x y => ordB x y = true) U → List.Pairwise (fun x y => ordB x.1 y.1 = true) (U.filterMap (entB a b w)) := by
  intro U h
  rw [List.pairwise_filterMap]
  refine List.Pairwise.imp ?_ h
  intro x y hxy p hp q hq
  rw [entB_name hp, entB_name hq]
  exact hxy
theorem iDf (a b : YFileS) (w : Int) (sa : SmF a) (sb : SmF b) : impl_DiffFiles.f a b w = some (dfB a b w) := by
  rw [impl_DiffFiles.f_eq, iFiles a sa, sB]
  unfold dfB
  by_cases ga : goodF a = true
  case neg => rw [Bool.eq_false_iff.2 ga, if_neg (by simp)]; rfl
  rw [ga, notT, iFiles b sb, sB]
  by_cases gb : goodF b = true
  case neg => rw [Bool.eq_false_iff.2 gb, if_neg (by simp)]; rfl
  rw [gb, notT, impl_isWidth.f_eq, iIn3, sB, sB]
  by_cases hw : 0 ≤ w ∧ w ≤ 20
  case neg =>
    rw [if_neg (fun h => hw h.2.2.1)]
    by_cases h0 : 0 ≤ w
    · rw [decide_eq_true h0, decide_eq_false (fun h => hw ⟨h0, h⟩)]; rfl
    · rw [decide_eq_false h0]; rfl
  rw [decide_eq_true hw.1, decide_eq_true hw.2]
  have ha := ff_of sa ga
  have hb := ff_of sb gb
  have l1 := ha.len
  have l2 := hb.len
  show impl_DiffFiles.l7 a b w = _
  rw [impl_DiffFiles.l7_eq, iConcat a b (by omega), sB]
  have hc : (a ++ b).length ≤ 16 := by rw [List.length_append]; omega
  have h0 := i10 a b w (a ++ b) hc 0 (Nat.zero_le _)
  rw [List.take_zero] at h0
  refine h0.trans ?_
  have hU : (allN a b).length ≤ 16 := by
    have := uniq_len ((a ++ b).map (·.1))
    rw [List.length_map] at this
    unfold allN
    omega
  have h1 := i_step a b w ha hb hw (allN a b) hU (fun n hn => mem_allN.1 hn) 0 (Nat.zero_le _) [] (Nat.le_refl _)
  rw [List.drop_zero, List.nil_append] at h1
  refine h1.trans ?_
  by_cases hk : (allN a b).all (okE a b) = true
  · rw [if_pos hk, if_pos ⟨rfl, rfl, hw, hk⟩]
  · rw [if_neg hk, if_neg (fun h => hk h.2.2.2)]
theorem sDf (a b : YFileS) (w : Int) (sa : SmF a) (sb : SmF b) : spec_DiffFiles.f a b w = some (dfB a b w) := by
  rw [spec_DiffFiles.f_eq, sFiles a sa, sB]
  unfold dfB
  by_cases ga : goodF a = true
  case neg => rw [Bool.eq_false_iff.2 ga, if_neg (by simp)]; rfl
  rw [ga, notT, sFiles b sb, sB]
  by_cases gb : goodF b = true
  case neg => rw [Bool.eq_false_iff.2 gb, if_neg (by simp)]; rfl
  rw [gb, notT, sIn3, sB]
  by_cases hw : 0 ≤ w ∧ w ≤ 20
  case neg =>
    rw [if_neg (fun h => hw h.2.2.1)]
    by_cases h0 : 0 ≤ w
    · rw [decide_eq_true h0, decide_eq_false (fun h => hw ⟨h0, h⟩)]; rfl
    · rw [decide_eq_false h0]; rfl
  rw [decide_eq_true hw.1, decide_eq_true hw.2]
  have ha := ff_of sa ga
  have hb := ff_of sb gb
  have l1 := ha.len
  have l2 := hb.len
  show spec_DiffFiles.l7 a b w = _
  rw [spec_DiffFiles.l7_eq]
  have h1 := s10 a b w ha hb hw 0 (Nat.zero_le _) [] (Nat.le_refl _)
  rw [List.drop_zero, List.nil_append] at h1
  refine h1.trans ?_
  have hself : ∀ x ∈ a, lnF a x.1 = some x.2 := lnF_self ha.srt
  have hall : (a.map (·.1)).all (okE a b) = (allN a b).all (okE a b) := by
    rw [Bool.eq_iff_iff, List.all_eq_true, List.all_eq_true]
    constructor
    · intro h n hn
      cases hl : lnF a n with
      | some l =>
        exact h n (List.mem_map.2 ⟨(n, l), lnF_mem hl, rfl⟩)
      | none =>
        have := dif_none (ln_good hb n).1
        unfold okE
        rw [hl]
        exact decide_eq_true (by show (dif [] _).length ≤ 20; omega)
    · intro h n hn
      obtain ⟨x, hx, rfl⟩ := List.mem_map.1 hn
      refine h _ (mem_allN.2 (.inl ?_))
      rw [hself x hx]; rfl
  rw [hall]
  by_cases hk : (allN a b).all (okE a b) = true
  case neg => rw [if_neg hk, if_neg (fun h => hk h.2.2.2)]
  rw [if_pos hk, if_pos ⟨rfl, rfl, hw, hk⟩]
  have hsa : List.Pairwise (fun x y => ordB x y = true) (a.map (·.1)) := by rw [List.pairwise_map]; exact ha.srt
  have hlen : ((a.map (·.1)).filterMap (entB a b w)).length ≤ 8 := by
    have := List.length_filterMap_le (entB a b w) (a.map (·.1))
    rw [List.length_map] at this
    omega
  obtain ⟨r, k1, k2, k3⟩ := s42 a b w ha hb hw 0 (Nat.zero_le _) ((a.map (·.1)).filterMap (entB a b w)) hlen (fm_sorted a b w _ hsa) (fun y hy x hx hxn => by
    obtain ⟨n, hn, hE⟩ := List.mem_filterMap.1 hy
    rw [entB_name hE]
    intro e
    obtain ⟨z, hz, rfl⟩ := List.mem_map.1 hn
    rw [← e, hself z hz] at hxn
    cases hxn)
  refine k1.trans ?_
  have : r = (allN a b).filterMap (entB a b w) := by
    refine sorted_eq (·.1) k2 (fm_sorted a b w _ (uniq_sorted _)) fun z => ?_
    rw [k3, List.mem_filterMap, List.mem_filterMap, List.drop_zero]
    constructor
    · rintro (⟨n, hn, h⟩ | ⟨x, hx, h1, h2⟩)
      · obtain ⟨y, hy, rfl⟩ := List.mem_map.1 hn
        exact ⟨y.1, mem_allN.2 (.inl (by rw [hself y hy]; rfl)), h⟩
      · exact ⟨x.1, mem_allN.2 (.inr (by rw [lnF_self hb.srt x hx]; rfl)), h2⟩
    · rintro ⟨n, hn, h⟩
      cases hl : lnF a n with
      | some l => exact .inl ⟨n, List.mem_map.2 ⟨(n, l), lnF_mem hl, rfl⟩, h⟩
      | none =>
        rcases mem_allN.1 hn with hh | hh
        · rw [hl] at hh; cases hh
        · obtain ⟨m, hm⟩ := Option.isSome_iff_exists.1 hh
          exact .inr ⟨(n, m), lnF_mem hm, hl, h⟩
  rw [this]
theorem DiffFiles_ex (a b : YFileS) (w : Int) (h1 : mFileS a ≤ 1048576) (h2 : mFileS b ≤ 1048576) : ∃ r : YFileDiffS × Bool, spec_DiffFiles.f a b w = some r ∧ impl_DiffFiles.f a b w = some r ∧ zFileDiffS r.1 ≤ 1099511627776 := by
  have sa := smF_of h1
  have sb := smF_of h2
  refine ⟨dfB a b w, sDf a b w sa sb, iDf a b w sa sb, ?_⟩
  unfold dfB
  split
  · rename_i hg
    obtain ⟨ga, gb, hw, hk⟩ := hg
    have ha := ff_of sa ga
    have hb := ff_of sb gb
    have l1 := ha.len
    have l2 := hb.len
    have hU : (allN a b).length ≤ 16 := by
      have := uniq_len ((a ++ b).map (·.1))
      rw [List.length_map, List.length_append] at this
      unfold allN
      omega
    have hl : ((allN a b).filterMap (entB a b w)).length ≤ 16 := by
      have := List.length_filterMap_le (entB a b w) (allN a b)
      omega
    have hz : tot zFileDiff ((allN a b).filterMap (entB a b w)) ≤ ((allN a b).filterMap (entB a b w)).length * 10000 := tot_le zFileDiff 10000 fun x hx => by
      obtain ⟨n, hn, hE⟩ := List.mem_filterMap.1 hx
      have hok := List.all_eq_true.1 hk n hn
      obtain ⟨g1, _⟩ := ln_good ha n
      obtain ⟨g2, _⟩ := ln_good hb n
      have hgen : ∀ (k : Int) (l m : T), goodB l = true → goodB m = true → (dif l m).length ≤ 20 → zFileDiff (mkE w n k l m) ≤ 10000 := by
        intro k l m gl gm h20
        obtain ⟨hgs, _⟩ := grp_gs (dif_patch gl gm h20) hw
        have := zGroupS_le (grp l w (dif l m).length 0 (dif l m)) 20 80 (gs_len hgs) fun q hq => (group_in (gs_in hgs q hq)).2.2.2.2
        have e : zFileDiff (mkE w n k l m) = 1 + 1 + zGroupS (grp l w (dif l m).length 0 (dif l m)) := rfl
        omega
      have hok := of_decide_eq_true hok
      unfold entB at hE
      cases e1 : lnF a n with
      | none =>
        cases e2 : lnF b n with
        | none => rw [e1, e2] at hE; cases hE
        | some m =>
          rw [e1, e2] at hE hok
          rw [e1] at g1
          rw [e2] at g2
          cases hE
          exact hgen _ _ _ g1 g2 hok
      | some l =>
        cases e2 : lnF b n with
        | none =>
          rw [e1, e2] at hE hok
          rw [e1] at g1
          rw [e2] at g2
          cases hE
          exact hgen _ _ _ g1 g2 hok
        | some m =>
          rw [e1, e2] at hE hok
          rw [e1] at g1
          rw [e2] at g2
          simp only at hE
          split at hE
          · cases hE
          · cases hE
            exact hgen _ _ _ g1 g2 hok
    have e : zFileDiffS ((allN a b).filterMap (entB a b w)) = ((allN a b).filterMap (entB a b w)).length + tot zFileDiff ((allN a b).filterMap (entB a b w)) := rfl
    show zFileDiffS ((allN a b).filterMap (entB a b w)) ≤ _
    omega
  · show zFileDiffS [] ≤ _
    decide
theorem FnExactDiffFiles (l0 : YFileS) (l1 : YFileS) (l2 : Int) (g0 : Bd (.list (.pair .str (.one (.list .str)))) l0) (g1 : Bd (.list (.pair .str (.one (.list .str)))) l1) (g2 : Bd (.int .i64) l2) : laws_FnExactDiffFiles.f l0 l1 l2 = some true := by
  rw [laws_FnExactDiffFiles.f_eq]
  rw [szFileS l0 (1048576) (bdFileS _ g0) (by omega) (by omega), sB]
  by_cases c0 : ((mFileS l0 : Nat) : Int) ≤ 1048576
  case neg => rw [szR_neg c0, bifT (by omega)]
  rw [szR_pos c0, bifF (by omega)]
  rw [szFileS l1 (1048576 - ((mFileS l0 : Nat) : Int)) (bdFileS _ g1) (by omega) (by omega), sB]
  by_cases c1 : ((mFileS l1 : Nat) : Int) ≤ 1048576 - ((mFileS l0 : Nat) : Int)
  case neg => rw [szR_neg c1, bifT (by omega)]
  rw [szR_pos c1, bifF (by omega)]
  obtain ⟨r, hs, hi, z0⟩ := DiffFiles_ex l0 l1 l2 (by omega) (by omega)
  have u0 := zmFileS l0
  have v0 := czFileS l0
  have t0 := toFileS l0 (by omega)
  have q0 := eqFileS l0 (by omega)
  have k0 := markFileS l0 (1) (by omega) (by omega) (by omega)
  have u1 := zmFileS l1
  have v1 := czFileS l1
  have t1 := toFileS l1 (by omega)
  have q1 := eqFileS l1 (by omega)
  have k1 := markFileS l1 (1 + ((cFileS l0 : Nat) : Int)) (by omega) (by omega) (by omega)
  have n0 : decide (1 + ((cFileS l0 : Nat) : Int) + ((cFileS l1 : Nat) : Int) < 0) = false := decide_eq_false (by omega)
  have y0 := czFileDiffS r.1
  have e0 := eqFileDiffS r.1 (by omega)
  have m0 := markFileDiffS r.1 (1) (by omega) (by omega) (by omega)
  have h0 := heldFileDiffS r.1 (1) (by omega) (by omega) (by omega)
  have p0 : decide (1 + ((cFileDiffS r.1 : Nat) : Int) < 0) = false := decide_eq_false (by omega)
  simp only [hs, hi, t0, q0, k0, t1, q1, k1, n0, e0, m0, h0, p0, sB, notT, cond_false, cond_true, Bool.not_true, Bool.not_false, beq_self_eq_true, decide_true, laws_FnExactDiffFiles.l29_eq, laws_FnExactDiffFiles.l47_eq, laws_FnExactDiffFiles.l69_eq]
end Go.Abs.G
