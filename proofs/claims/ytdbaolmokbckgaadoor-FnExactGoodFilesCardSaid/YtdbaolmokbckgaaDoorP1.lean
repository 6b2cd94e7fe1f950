import Derived.Test.YtdbaolmokbckgaaDoorG
import Derived.Test.YtdbaolmokbckgaaDoorPA
import Derived.Lib.IndexAny
set_option linter.unusedVariables false
set_option linter.unusedSimpArgs false
set_option linter.unusedSectionVars false
namespace Go.Abs.G
open Go Go.Abs
def cString (_ : ByteArray) : Nat := 1
def zString (_ : ByteArray) : Nat := 1
abbrev T := List ByteArray
abbrev YString := ByteArray
abbrev yString : ByteArray := em
abbrev YStringS := List YString
def mStringS (a : YStringS) : Nat := a.length + tot ByteArray.size a
def cStringS (a : YStringS) : Nat := tot cString a
def zStringS (a : YStringS) : Nat := a.length + tot zString a
def BgStringS (a : YStringS) : Prop := a.length ≤ 140737488351232 ∧ ∀ x ∈ a, x.size ≤ 140737488351232
theorem czStringS (a : YStringS) : cStringS a ≤ zStringS a := by
  have h := tot_mono cString zString (fun x => Nat.le_refl _) a
  unfold cStringS zStringS
  omega
theorem zmStringS (a : YStringS) : zStringS a ≤ 8 * mStringS a := by
  have h := tot_seven zString ByteArray.size (fun x => by unfold zString; omega) a
  unfold zStringS mStringS
  omega
theorem bdStringS (x : YStringS) (h : Bd (.list .str) x) : BgStringS x := h
theorem szStringS (a : YStringS) (left : Int) (hb : BgStringS a) (h0 : 0 ≤ left) (h1 : left ≤ 1048576) : laws_szStringS.f a left = some (szR (mStringS a) left) := by
  obtain ⟨hb1, hb2⟩ := hb
  rw [laws_szStringS.f_eq]
  refine szTop hb1 h0 h1 (fun l => laws_szStringS.l10 a l 0) fun l h0 h1 => ?_
  refine szGo yString ByteArray.size a (fun l i => laws_szStringS.l10 a l i) (fun l => by show laws_szStringS.l10 a l _ = _; rw [laws_szStringS.l10_eq, bifF (by omega)]) (fun i l hi h2 h3 => ?_) l h0 h1
  have hm := hb2 _ (getD_mem hi yString)
  show laws_szStringS.l10 a l _ = _
  rw [laws_szStringS.l10_eq, bifT (by omega), bif2T (by omega) (by omega), up1 (by omega)]
  simp only [Int.toNat_natCast]
  exact szLeaf _ l hm h2 h3 (fun l => laws_szStringS.l10 a l ((i + 1 : Nat) : Int)) (some (-1))
theorem toStringS (a : YStringS) (hb : mStringS a ≤ 1048576) : laws_toStringS.f a = some a := by
  have hb2 : a.length + tot ByteArray.size a ≤ 1048576 := hb
  rw [laws_toStringS.f_eq, show room 16 = 8796093022208 from by decide, bif2T (by omega) (by omega)]
  refine toGo yString a (fun out i => laws_toStringS.l6 a out i) (fun out => by show laws_toStringS.l6 a out _ = _; rw [laws_toStringS.l6_eq, bifF (by omega)]) (fun i out hi hl => ?_) _ (by simp)
  show laws_toStringS.l6 a out _ = _
  rw [laws_toStringS.l6_eq, bifT (by omega), bif2T (by omega) (by omega)]
  simp only [Int.toNat_natCast]
  rw [bif2T (by omega) (by omega), up1 (by omega)]
theorem eqStringS (a : YStringS) (hb : zStringS a ≤ 4398046511104) : laws_eqStringS.f a a = some true := by
  have hb2 : a.length + tot zString a ≤ 4398046511104 := hb
  rw [laws_eqStringS.f_eq, bifNF rfl]
  refine eqGo (n := a.length) (fun i => laws_eqStringS.l8 a a i) (by show laws_eqStringS.l8 a a _ = _; rw [laws_eqStringS.l8_eq, bifF (by omega)]) fun i hi => ?_
  show laws_eqStringS.l8 a a _ = _
  rw [laws_eqStringS.l8_eq, bifT (by omega), bif2T (by omega) (by omega), bif2T (by omega) (by omega), up1 (by omega)]
  simp only [Int.toNat_natCast]
  rw [toList_beq, bifNF rfl]
abbrev YFile := ByteArray × List (ByteArray)
abbrev yFile : YFile := (em, [])
/-- what it takes of what is left -/
def mFile (x : YFile) : Nat := x.1.size + mStringS x.2
/-- how many marks -/
def cFile (x : YFile) : Nat := 1 + cStringS x.2
/-- how large -/
def zFile (x : YFile) : Nat := 1 + zStringS x.2
def BgFile (x : YFile) : Prop := x.1.size ≤ 140737488351232 ∧ BgStringS x.2
theorem czFile (x : YFile) : cFile x ≤ zFile x := by
  unfold cFile zFile
  have h0 := czStringS x.2
  omega
theorem zmFile (x : YFile) : zFile x ≤ 7 + 8 * mFile x := by
  unfold zFile mFile
  have h0 := zmStringS x.2
  omega
theorem bdFile (x : YFile) (h : Bd (.pair .str (.one (.list .str))) x) : BgFile x := ⟨h.1, bdStringS _ h.2⟩
theorem szFile (x : YFile) (left : Int) (hb : BgFile x) (h0 : 0 ≤ left) (h1 : left ≤ 1048576) : laws_szFile.f x left = some (szR (mFile x) left) := by
  rw [laws_szFile.f_eq]
  refine (szLeaf _ left hb.1 h0 h1 (fun l => (laws_szStringS.f x.2 l).bind fun y1 => bif decide (y1 < 0) then some (-1) else some y1) (some (-1))).trans ?_
  rw [show mFile x = x.1.size + mStringS x.2 from rfl]
  by_cases g : szR (x.1.size) left < 0
  · rw [bifT g]; rw [szR_lt _ _ h0] at g; rw [szR_neg (by omega)]
  have g1 := szR_le (x.1.size) left h0
  rw [bifF g, szStringS _ _ hb.2 (by omega) (by omega), sB]
  rw [← szR_add (x.1.size) (mStringS x.2) left, bifF g]
  by_cases g2 : szR (mStringS x.2) (szR (x.1.size) left) < 0
  · rw [bifT g2]; rw [szR_lt _ _ (by omega)] at g2; rw [szR_neg g2]
  · rw [bifF g2]
theorem toFile (x : YFile) (hb : mFile x ≤ 1048576) : laws_toFile.f x = some x := by
  have hb2 : x.1.size + mStringS x.2 ≤ 1048576 := hb
  rw [laws_toFile.f_eq]
  rw [toStringS _ (by omega), sB]
theorem eqFile (x : YFile) (hb : zFile x ≤ 4398046511104) : laws_eqFile.f x x = some true := by
  have hb2 : 1 + zStringS x.2 ≤ 4398046511104 := hb
  rw [laws_eqFile.f_eq]
  rw [toList_beq, bifNF rfl]
  rw [eqStringS _ (by omega), sB, notT]
abbrev YFileS := List YFile
def mFileS (a : YFileS) : Nat := a.length + tot mFile a
def cFileS (a : YFileS) : Nat := tot cFile a
def zFileS (a : YFileS) : Nat := a.length + tot zFile a
def BgFileS (a : YFileS) : Prop := a.length ≤ 140737488351232 ∧ ∀ x ∈ a, BgFile x
theorem czFileS (a : YFileS) : cFileS a ≤ zFileS a := by
  have h := tot_mono cFile zFile (fun x => czFile x) a
  unfold cFileS zFileS
  omega
theorem zmFileS (a : YFileS) : zFileS a ≤ 8 * mFileS a := by
  have h := tot_seven zFile mFile (fun x => zmFile x) a
  unfold zFileS mFileS
  omega
theorem bdFileS (x : YFileS) (h : Bd (.list (.pair .str (.one (.list .str)))) x) : BgFileS x := ⟨h.1, fun y hy => bdFile y (h.2 y hy)⟩
theorem szFileS (a : YFileS) (left : Int) (hb : BgFileS a) (h0 : 0 ≤ left) (h1 : left ≤ 1048576) : laws_szFileS.f a left = some (szR (mFileS a) left) := by
  obtain ⟨hb1, hb2⟩ := hb
  rw [laws_szFileS.f_eq]
  refine szTop hb1 h0 h1 (fun l => laws_szFileS.l10 a l 0) fun l h0 h1 => ?_
  refine szGo yFile mFile a (fun l i => laws_szFileS.l10 a l i) (fun l => by show laws_szFileS.l10 a l _ = _; rw [laws_szFileS.l10_eq, bifF (by omega)]) (fun i l hi h2 h3 => ?_) l h0 h1
  have hm := hb2 _ (getD_mem hi yFile)
  show laws_szFileS.l10 a l _ = _
  rw [laws_szFileS.l10_eq, bifT (by omega), bif2T (by omega) (by omega), up1 (by omega)]
  simp only [Int.toNat_natCast]
  rw [szFile _ l hm h2 h3, sB]
theorem toFileS (a : YFileS) (hb : mFileS a ≤ 1048576) : laws_toFileS.f a = some a := by
  have hb2 : a.length + tot mFile a ≤ 1048576 := hb
  rw [laws_toFileS.f_eq, show room 40 = 3518437208883 from by decide, bif2T (by omega) (by omega)]
  refine toGo yFile a (fun out i => laws_toFileS.l6 a out i) (fun out => by show laws_toFileS.l6 a out _ = _; rw [laws_toFileS.l6_eq, bifF (by omega)]) (fun i out hi hl => ?_) _ (by simp)
  show laws_toFileS.l6 a out _ = _
  rw [laws_toFileS.l6_eq, bifT (by omega), bif2T (by omega) (by omega)]
  simp only [Int.toNat_natCast]
  have hm : mFile (a.getD i (em, [])) ≤ tot mFile a := tot_mem mFile (getD_mem hi _)
  rw [toFile _ (by omega), sB]
  rw [bif2T (by omega) (by omega), up1 (by omega)]
theorem eqFileS (a : YFileS) (hb : zFileS a ≤ 4398046511104) : laws_eqFileS.f a a = some true := by
  have hb2 : a.length + tot zFile a ≤ 4398046511104 := hb
  rw [laws_eqFileS.f_eq, bifNF rfl]
  refine eqGo (n := a.length) (fun i => laws_eqFileS.l8 a a i) (by show laws_eqFileS.l8 a a _ = _; rw [laws_eqFileS.l8_eq, bifF (by omega)]) fun i hi => ?_
  show laws_eqFileS.l8 a a _ = _
  rw [laws_eqFileS.l8_eq, bifT (by omega), bif2T (by omega) (by omega), bif2T (by omega) (by omega), up1 (by omega)]
  simp only [Int.toNat_natCast]
  have hm : zFile (a.getD i (em, [])) ≤ tot zFile a := tot_mem zFile (getD_mem hi _)
  rw [eqFile _ (by omega), sB, notT]
/-- of a size that is let through -/
def Sm (l : T) : Prop := l.length ≤ 1048576 ∧ ∀ s ∈ l, s.size ≤ 1048576
def bl (s : ByteArray) : List UInt8 := s.data.toList
theorem bl_len (s : ByteArray) : (bl s).length = s.size := rfl
theorem bl_inj {a b : ByteArray} (h : bl a = bl b) : a = b := ByteArray.ext (Array.toList_inj.1 h)
theorem bl_ext (s : ByteArray) (a b : Nat) : bl (s.extract a b) = ((bl s).drop a).take (b - a) := by
  unfold bl; rw [ByteArray.data_extract, Array.toList_extract]
theorem bt_bl (s : ByteArray) (i : Nat) : bt s (i : Int) = (((bl s).getD i 0).toNat : Int) := by
  unfold bt bl
  rw [Int.toNat_natCast]
theorem sIn (a b c : Int) : spec_l1In.f a b c = some (decide (b ≤ a ∧ a ≤ c)) := by
  rw [spec_l1In.f_eq]
  by_cases h : a ≥ b
  · rw [bifT h]; congr 1; rw [decide_eq_decide]; omega
  · rw [bifF h]; congr 1; rw [eq_comm, decide_eq_false_iff_not]; omega
theorem iIn (a b c : Int) : impl_in.f a b c = some (decide (b ≤ a ∧ a ≤ c)) := by
  rw [impl_in.f_eq]
  by_cases h : a ≥ b
  · rw [bifT h]; congr 1; rw [decide_eq_decide]; omega
  · rw [bifF h]; congr 1; rw [eq_comm, decide_eq_false_iff_not]; omega
/-- A line. -/
def lineP (s : ByteArray) : Prop := 1 ≤ s.size ∧ s.size ≤ 30 ∧ (10 : UInt8) ∉ (bl s).take (s.size - 1)
instance (s : ByteArray) : Decidable (lineP s) := by unfold lineP; exact inferInstance
/-- It ends. -/
def endP (s : ByteArray) : Prop := 1 ≤ s.size ∧ (bl s).getD (s.size - 1) 0 = 10
instance (s : ByteArray) : Decidable (endP s) := by unfold endP; exact inferInstance
theorem toNat10 (b : UInt8) : ((b.toNat : Nat) : Int) = 10 ↔ b = 10 := by
  constructor
  · intro h; exact UInt8.toNat_inj.1 (by have : (10 : UInt8).toNat = 10 := rfl; omega)
  · rintro rfl; rfl
theorem sLine (s : ByteArray) (hs : s.size ≤ 1048576) : spec_l1Line.f s = some (decide (lineP s)) := by
  have hL : ((bl s).take (s.size - 1)).length = s.size - 1 := by rw [List.length_take, bl_len]; omega
  have hw : w64 ((s.size : Int) - 1) = (s.size : Int) - 1 := w64_id (by omega) (by omega)
  have key : ∀ i, i ≤ s.size - 1 → spec_l1Line.l4 s (i : Int) = some (decide (1 ≤ s.size ∧ s.size ≤ 30 ∧ (10 : UInt8) ∉ ((bl s).take (s.size - 1)).drop i)) := by
    apply downTo
    · rw [spec_l1Line.l4_eq, hw, bifF (by omega), sIn, sB]
      congr 1
      rw [decide_eq_decide, List.drop_eq_nil_of_le (by omega)]
      constructor
      · intro h; exact ⟨by omega, by omega, List.not_mem_nil⟩
      · intro h; omega
    · intro i hi ih
      have hi1 := up1 (i := i) (by omega)
      rw [spec_l1Line.l4_eq]
      simp only [hw, hi1]
      rw [bifT (by omega), bif2T (by omega) (by omega)]
      have hb : bt s (i : Int) = 10 ↔ ((bl s).take (s.size - 1)).getD i 0 = 10 := by
        rw [bt_bl, toNat10, List.getD_eq_getElem?_getD, List.getD_eq_getElem?_getD, List.getElem?_take_of_lt hi]
      have hd := drop_at (l := (bl s).take (s.size - 1)) (i := i) (by omega) 0
      by_cases h : bt s (i : Int) = 10
      · rw [bifT h]; congr 1
        rw [eq_comm, decide_eq_false_iff_not, hd, hb.1 h]
        rintro ⟨_, _, h3⟩
        exact h3 List.mem_cons_self
      · rw [bifF h, ih]; congr 1
        rw [decide_eq_decide, hd, List.mem_cons, not_or]
        have : ¬ (10 : UInt8) = ((bl s).take (s.size - 1)).getD i 0 := fun g => h (hb.2 g.symm)
        exact ⟨fun ⟨a, b, c⟩ => ⟨a, b, this, c⟩, fun ⟨a, b, _, c⟩ => ⟨a, b, c⟩⟩
  have := key 0 (by omega)
  rw [spec_l1Line.f_eq]
  rw [List.drop_zero] at this
  exact this
theorem iLine (s : ByteArray) (hs : s.size ≤ 1048576) : impl_isLine.f s = some (decide (lineP s)) := by
  have hw : w64 ((s.size : Int) - 1) = (s.size : Int) - 1 := w64_id (by omega) (by omega)
  rw [impl_isLine.f_eq, iIn, sB, hw]
  by_cases h : (1 : Int) ≤ (s.size : Int) ∧ (s.size : Int) ≤ 30
  · rw [bifT h, bif2T (by omega) (by omega)]
    show (contains1 _ _).bind _ = _
    unfold contains1
    have h1 : Nat.beq (⟨#[10]⟩ : ByteArray).size 1 = true := rfl
    rw [h1, cond_true, sB]
    congr 1
    show (!decide (0 ≤ Go.Lib.indexByte _ 10)) = _
    rw [← Go.Lib.contains_iff_indexByte]
    have he : (s.extract 0 ((s.size : Int) - 1).toNat).data.toList = (bl s).take (s.size - 1) := by
      show bl _ = _
      rw [bl_ext, List.drop_zero]; congr 1; omega
    rw [he]
    by_cases hm : (10 : UInt8) ∈ (bl s).take (s.size - 1)
    · rw [List.contains_iff_mem.2 hm]; exact (decide_eq_false (fun g : lineP s => g.2.2 hm)).symm
    · have : ((bl s).take (s.size - 1)).contains 10 = false := by rw [← Bool.not_eq_true, List.contains_iff_mem]; exact hm
      rw [this]; exact (decide_eq_true (show lineP s from ⟨by omega, by omega, hm⟩)).symm
  · rw [bifF h]
    congr 1
    rw [eq_comm, decide_eq_false_iff_not]
    unfold lineP
    omega
theorem sEnds (s : ByteArray) (h1 : 1 ≤ s.size) (hs : s.size ≤ 1048576) : spec_l1Ends.f s = some (decide (endP s)) := by
  have hw : w64 ((s.size : Int) - 1) = ((s.size - 1 : Nat) : Int) := by rw [w64_id (by omega) (by omega)]; omega
  rw [spec_l1Ends.f_eq, hw, bif2T (by omega) (by omega), bt_bl]
  congr 1
  rw [decide_eq_decide, toNat10]
  exact ⟨fun h => ⟨h1, h⟩, fun h => h.2⟩
theorem iEnds (s : ByteArray) (hs : s.size ≤ 1048576) : impl_isEnded.f s = some (decide (endP s)) := by
  rw [impl_isEnded.f_eq, strings_HasSuffix.f_eq, internal_stringslite_HasSuffix.f_eq]
  have h10 : (⟨#[10]⟩ : ByteArray).size = 1 := rfl
  have hw : w64 ((s.size : Int) - 1) = (s.size : Int) - 1 := w64_id (by omega) (by omega)
  simp only [h10, Int.ofNat_one]
  by_cases h : (s.size : Int) ≥ 1
  · rw [hw, bifT h, bif2T (by omega) (by omega), sB, sB]
    congr 1
    rw [toList_beq, decide_eq_decide]
    have hb : bl (s.extract ((s.size : Int) - 1).toNat s.size) = [(bl s).getD (s.size - 1) 0] := by
      rw [bl_ext]
      have e : ((s.size : Int) - 1).toNat = s.size - 1 := by omega
      rw [e, drop_at (l := bl s) (i := s.size - 1) (by rw [bl_len]; omega) 0, show s.size - (s.size - 1) = 1 by omega]
      rfl
    constructor
    · intro g
      rw [g] at hb
      refine ⟨by omega, ?_⟩
      have : [(10 : UInt8)] = [(bl s).getD (s.size - 1) 0] := hb
      exact ((List.cons.inj this).1).symm
    · intro g
      refine bl_inj ?_
      rw [hb, g.2]; rfl
  · rw [bifF (by omega), sB, sB]
    congr 1
    rw [eq_comm, decide_eq_false_iff_not]
    unfold endP
    omega
def endsT : T → Bool
  | [] => true
  | s :: t => (t.isEmpty || decide (endP s)) && endsT t
def allLines (l : T) : Bool := l.all fun s => decide (lineP s)
theorem allLines_cons (s : ByteArray) (l : T) : allLines (s :: l) = (decide (lineP s) && allLines l) := rfl
def goodB (l : T) : Bool := decide (l.length ≤ 40) && allLines l && endsT l
theorem drop_empty {l : T} {i : Nat} (h : i < l.length) : (l.drop (i + 1)).isEmpty = decide (¬ (i : Int) < (l.length : Int) - 1) := by
  rw [Bool.eq_iff_iff, List.isEmpty_iff, List.drop_eq_nil_iff, decide_eq_true_eq]; omega
theorem iAre (l : T) (hl : Sm l) : impl_areLines.f l = some (decide (l.length ≤ 40) && allLines l) := by
  have hL := hl.1
  have idx : ∀ i, i ≤ l.length → ∃ r : Int, slices_IndexFunc_Lstring_string__impl_areLines_1.l4 l (l.length : Int) (i : Int) = some r ∧ (decide (r ≥ 0) = !(allLines (l.drop i))) := by
    apply downTo
    · refine ⟨-1, by rw [slices_IndexFunc_Lstring_string__impl_areLines_1.l4_eq, bifF (by omega)], ?_⟩
      rw [List.drop_eq_nil_of_le (by omega)]; rfl
    · intro i hlt ⟨r, hr, hp⟩
      have hi1 := up1 (i := i) (by omega)
      have hsz := hl.2 _ (getD_mem hlt em)
      rw [slices_IndexFunc_Lstring_string__impl_areLines_1.l4_eq, bifT (by omega), bif2T (by omega) (by omega), hi1]
      simp only [Int.toNat_natCast]
      rw [impl_areLines_1.f_eq, iLine _ hsz, sB, sB]
      by_cases h : lineP (l.getD i em)
      · refine ⟨r, by rw [bifNF h]; exact hr, ?_⟩
        rw [hp, drop_at hlt em, allLines_cons, decide_eq_true h, Bool.true_and]
      · refine ⟨(i : Int), by rw [bifNT h], ?_⟩
        rw [drop_at hlt em, allLines_cons, decide_eq_false h, Bool.false_and]; exact decide_eq_true (by omega)
  obtain ⟨r, hr, hp⟩ := idx 0 (by omega)
  rw [impl_areLines.f_eq, slices_ContainsFunc_Lstring_string__impl_areLines_1.f_eq, slices_IndexFunc_Lstring_string__impl_areLines_1.f_eq]
  by_cases h : l.length ≤ 40
  · rw [bifT (by omega)]
    refine bindEq (bindEq hr rfl) ?_
    rw [hp, decide_eq_true h]; simp
  · rw [bifF (by omega), decide_eq_false h]; rfl
theorem iGood (l : T) (hl : Sm l) : impl_goodLines.f l = some (goodB l) := by
  have hL := hl.1
  rw [impl_goodLines.f_eq, iAre l hl, sB]
  unfold goodB
  cases hg : (decide (l.length ≤ 40) && allLines l) with
  | false => rw [Bool.false_and, notF]
  | true =>
    rw [Bool.true_and, notT]
    have hw : w64 ((l.length : Int) - 1) = (l.length : Int) - 1 := w64_id (by omega) (by omega)
    have key : ∀ i, i ≤ l.length → impl_goodLines.l8 l l (l.length : Int) (i : Int) = some (endsT (l.drop i)) := by
      apply downTo
      · rw [impl_goodLines.l8_eq, bifF (by omega), List.drop_eq_nil_of_le (by omega)]; rfl
      · intro i hi ih
        have hi1 := up1 (i := i) (by omega)
        have hsz := hl.2 _ (getD_mem hi em)
        have he := drop_empty hi
        have hR : endsT (l.drop i) = ((decide (¬ (i : Int) < (l.length : Int) - 1) || decide (endP (l.getD i em))) && endsT (l.drop (i + 1))) := by
          rw [drop_at hi em]; simp only [endsT, he]
        rw [hR, impl_goodLines.l8_eq, hw, hi1, bifT (by omega), bif2T (by omega) (by omega)]
        simp only [Int.toNat_natCast]
        rw [iEnds _ hsz, sB, ih]
        by_cases h2 : (i : Int) < (l.length : Int) - 1
        · rw [bifT h2, decide_eq_false (show ¬ ¬ (i : Int) < (l.length : Int) - 1 from fun g => g h2), Bool.false_or]
          by_cases h3 : endP (l.getD i em)
          · rw [bifNF h3, decide_eq_true h3, Bool.true_and]
          · rw [bifNT h3, decide_eq_false h3, Bool.false_and]
        · rw [bifF h2, decide_eq_true h2, Bool.true_or, Bool.true_and]
    have := key 0 (by omega)
    rw [List.drop_zero] at this
    exact this
theorem sGood (l : T) (hl : Sm l) : spec_l1Good.f l = some (goodB l) := by
  have hL := hl.1
  have hw : w64 ((l.length : Int) - 1) = (l.length : Int) - 1 := w64_id (by omega) (by omega)
  have key : ∀ i, i ≤ l.length → spec_l1Good.l4 l l (l.length : Int) (i : Int) = some (decide (l.length ≤ 40) && allLines (l.drop i) && endsT (l.drop i)) := by
    apply downTo
    · rw [spec_l1Good.l4_eq, bifF (by omega), List.drop_eq_nil_of_le (by omega)]
      simp [allLines, endsT]
      omega
    · intro i hi ih
      have hi1 := up1 (i := i) (by omega)
      have hd := drop_at hi em
      have hsz := hl.2 _ (getD_mem hi em)
      have he := drop_empty hi
      have hR : (decide (l.length ≤ 40) && allLines (l.drop i) && endsT (l.drop i)) = (decide (lineP (l.getD i em)) && ((decide (¬ (i : Int) < (l.length : Int) - 1) || decide (endP (l.getD i em))) && (decide (l.length ≤ 40) && allLines (l.drop (i + 1)) && endsT (l.drop (i + 1))))) := by
        rw [hd]
        simp only [allLines, endsT, List.all_cons, he]
        generalize decide (l.length ≤ 40) = a1
        generalize decide (lineP (l.getD i em)) = a2
        generalize (l.drop (i + 1)).all (fun s => decide (lineP s)) = a3
        generalize (decide (¬ (i : Int) < (l.length : Int) - 1) || decide (endP (l.getD i em))) = a4
        generalize endsT (l.drop (i + 1)) = a5
        cases a1 <;> cases a2 <;> cases a3 <;> cases a4 <;> cases a5 <;> rfl
      rw [hR, spec_l1Good.l4_eq, hw, hi1, bifT (by omega), bif2T (by omega) (by omega)]
      simp only [Int.toNat_natCast]
      rw [sLine _ hsz, sB, ih]
      by_cases h1 : lineP (l.getD i em)
      · rw [bifNF h1, decide_eq_true h1, Bool.true_and]
        by_cases h2 : (i : Int) < (l.length : Int) - 1
        · rw [bifT h2, decide_eq_false (show ¬ ¬ (i : Int) < (l.length : Int) - 1 from fun g => g h2), Bool.false_or, sEnds _ h1.1 hsz, sB]
          by_cases h3 : endP (l.getD i em)
          · rw [bifNF h3, decide_eq_true h3, Bool.true_and]
          · rw [bifNT h3, decide_eq_false h3, Bool.false_and]
        · rw [bifF h2, decide_eq_true h2, Bool.true_or, Bool.true_and]
      · rw [bifNT h1, decide_eq_false h1, Bool.false_and]
  have := key 0 (by omega)
  rw [List.drop_zero] at this
  rw [spec_l1Good.f_eq]
  exact this
def nmcI (x : Int) : Bool := !((decide (x < 97) || decide (x > 122)) && ((decide (x < 48) || decide (x > 57)) && ((!decide (x = 46)) && (!decide (x = 47)))))
def CS : ByteArray := ⟨#[97, 98, 99, 100, 101, 102, 103, 104, 105, 106, 107, 108, 109, 110, 111, 112, 113, 114, 115, 116, 117, 118, 119, 120, 121, 122, 48, 49, 50, 51, 52, 53, 54, 55, 56, 57, 46, 47]⟩
def nmc (b : UInt8) : Bool := nmcI (b.toNat : Int)
def nameB (s : ByteArray) : Bool := (bl s).all nmc && decide (1 ≤ (s.size : Int) ∧ (s.size : Int) ≤ 12)
theorem cs_all : (List.range 256).all (fun n => CS.data.toList.contains (UInt8.ofNat n) == nmcI ((n : Nat) : Int)) = true := by decide +kernel
theorem cs_nmc (b : UInt8) : CS.data.toList.contains b = nmc b := by
  have h := List.all_eq_true.1 cs_all b.toNat (by rw [List.mem_range]; exact b.toNat_lt)
  rw [beq_iff_eq] at h
  rw [UInt8.ofNat_toNat] at h
  exact h
theorem dropWhile_nil (p : UInt8 → Bool) : ∀ l : List UInt8, (l.dropWhile p).isEmpty = l.all p
  | [] => rfl
  | b :: l => by
    rw [List.dropWhile, List.all_cons]
    cases h : p b with
    | true => exact dropWhile_nil p l
    | false => rfl
theorem all_rev (p : UInt8 → Bool) (l : List UInt8) : l.reverse.all p = l.all p := by
  rw [Bool.eq_iff_iff, List.all_eq_true, List.all_eq_true]
  exact ⟨fun h x hx => h x (List.mem_reverse.2 hx), fun h x hx => h x (List.mem_reverse.1 hx)⟩
theorem dropWhile_head (p : UInt8 → Bool) : ∀ (l : List UInt8) (b : UInt8) (r : List UInt8), l.dropWhile p = b :: r → p b = false
  | c :: l, b, r, h => by
    rw [List.dropWhile] at h
    cases hc : p c with
    | true => rw [hc] at h; exact dropWhile_head p l b r h
    | false => rw [hc] at h; injection h with h1 _; rw [← h1]; exact hc
/-- what is left of a text without its ends is nothing just where all bytes are in the set -/
theorem trim_nil (l cs : List UInt8) : (Go.Lib.trimS l cs).isEmpty = l.all (cs.contains ·) := by
  unfold Go.Lib.trimS Go.Lib.trimLeftS
  rw [dropWhile_nil]
  unfold Go.Lib.trimRightS
  rw [all_rev, ← dropWhile_nil, ← all_rev]
  cases h : l.reverse.dropWhile (cs.contains ·) with
  | nil => rw [← dropWhile_nil, h]; rfl
  | cons b r =>
    have := dropWhile_head _ _ _ _ h
    have e : (b :: r).dropWhile (cs.contains ·) = b :: r := by rw [List.dropWhile, this]
    rw [e, ← dropWhile_nil, h]
theorem iName (s : ByteArray) (hs : s.size ≤ 1048576) : impl_isName.f s = some (nameB s) := by
  rw [impl_isName.f_eq, iIn, sB]
  unfold nameB
  by_cases h : 1 ≤ (s.size : Int) ∧ (s.size : Int) ≤ 12
  case neg => rw [bifF h, decide_eq_false h, Bool.and_false]
  have e : strings_Trim.f s CS = some ⟨(Go.Lib.trimS s.data.toList CS.data.toList).toArray⟩ := by
    show trim1 s CS = _
    unfold trim1
    rw [decide_eq_true (show s.size ≤ 1099511627776 by omega), show (decide (CS.size < 4294967281) && CS.data.toList.all (fun b => decide (b.toNat < 128))) = true by decide +kernel]; rfl
  rw [bifT h, decide_eq_true h, Bool.and_true]
  refine bindEq e ?_
  congr 1
  have hn := trim_nil s.data.toList CS.data.toList
  have e2 : (fun b => CS.data.toList.contains b) = nmc := funext cs_nmc
  rw [show (bl s).all nmc = s.data.toList.all (fun b => CS.data.toList.contains b) by rw [e2]; rfl, ← hn, toList_data, toList_data]
  cases Go.Lib.trimS s.data.toList CS.data.toList with
  | nil => rfl
  | cons b r => rfl
theorem sName (s : ByteArray) (hs : s.size ≤ 1048576) : spec_l15Name.f s = some (nameB s) := by
  have hbl := bl_len s
  have key : ∀ i, i ≤ s.size → spec_l15Name.l4 s (i : Int) = some (((bl s).drop i).all nmc && decide (1 ≤ (s.size : Int) ∧ (s.size : Int) ≤ 12)) := by
    apply downTo
    · rw [spec_l15Name.l4_eq, bifF (by omega), sIn, sB, List.drop_eq_nil_of_le (by omega)]; rfl
    · intro i hi ih
      rw [spec_l15Name.l4_eq, bifT (by omega), bif2T (by omega) (by omega), drop_at (by omega) 0, List.all_cons]
      have h7 : spec_l15Name.l7 s (i : Int) = some (((bl s).drop (i + 1)).all nmc && decide (1 ≤ (s.size : Int) ∧ (s.size : Int) ≤ 12)) := by
        rw [spec_l15Name.l7_eq, up1 (by omega), ih]
      rw [h7, bt_bl]
      unfold nmc nmcI
      generalize ((((bl s).getD i 0).toNat : Nat) : Int) = x
      cases decide (x < 97) <;> cases decide (x > 122) <;> cases decide (x < 48) <;> cases decide (x > 57) <;> cases decide (x = 46) <;> cases decide (x = 47) <;> simp
  rw [spec_l15Name.f_eq]
  exact key 0 (by omega)
theorem less_tri : ∀ a b : List UInt8, (!Op.bytesLess a b) = (Op.bytesLess b a || b == a)
  | [], [] => rfl
  | [], b :: y => by simp [Op.bytesLess]
  | a :: x, [] => by simp [Op.bytesLess]
  | a :: x, b :: y => by
    have ih := less_tri x y
    simp only [Op.bytesLess]
    by_cases h1 : a < b
    · have h2 : ¬ b < a := by rw [UInt8.lt_iff_toNat_lt] at h1 ⊢; omega
      have h3 : ¬ b = a := by intro e; rw [e, UInt8.lt_iff_toNat_lt] at h1; omega
      have h4 : ¬ a = b := fun e => h3 e.symm
      simp [h1, h2, h3, h4]
    · by_cases h2 : b < a
      · have h4 : ¬ a = b := by intro e; rw [e, UInt8.lt_iff_toNat_lt] at h2; omega
        simp [h1, h2, h4]
      · have h3 : a = b := by
          rw [UInt8.lt_iff_toNat_lt] at h1 h2
          exact UInt8.toNat_inj.1 (by omega)
        subst h3
        simp only [h1, decide_false, Bool.false_or, beq_self_eq_true, Bool.true_and, ih]
        simp
def ordB (a b : ByteArray) : Bool := Op.bytesLess a.toList b.toList
theorem leq_ord (a b : ByteArray) : (Op.bytesLess b.toList a.toList || b.toList == a.toList) = !ordB a b := (less_tri a.toList b.toList).symm
def prevOk (p : Option ByteArray) (s : ByteArray) : Bool := match p with
  | none => true
  | some q => ordB q s
def fileOk (x : YFile) : Bool := nameB x.1 && goodB x.2
def fsB : Option ByteArray → YFileS → Bool
  | _, [] => true
  | p, x :: r => fileOk x && (prevOk p x.1 && fsB (some x.1) r)
def goodF (f : YFileS) : Bool := fsB none f && decide ((f.length : Int) ≤ 8)
def SmF (f : YFileS) : Prop := f.length ≤ 1048576 ∧ ∀ x ∈ f, x.1.size ≤ 1048576 ∧ Sm x.2
def pvF (f : YFileS) (i : Nat) : Option ByteArray := if i = 0 then none else some (f.getD (i - 1) (em, [])).1
theorem fs_step (f : YFileS) {i : Nat} (hi : i < f.length) : fsB (pvF f i) (f.drop i) = (fileOk (f.getD i (em, [])) && (prevOk (pvF f i) (f.getD i (em, [])).1 && fsB (pvF f (i + 1)) (f.drop (i + 1)))) := by
  have : pvF f (i + 1) = some (f.getD i (em, [])).1 := by unfold pvF; rw [if_neg (by omega)]; rfl
  rw [this, drop_at hi (em, [])]; rfl
theorem sFiles (f : YFileS) (hd : SmF f) : spec_l15Files.f f = some (goodF f) := by
  have hL := hd.1
  have key : ∀ i, i ≤ f.length → spec_l15Files.l4 f f (f.length : Int) (i : Int) = some (fsB (pvF f i) (f.drop i) && decide ((f.length : Int) ≤ 8)) := by
    apply downTo
    · rw [spec_l15Files.l4_eq, bifF (by omega), List.drop_eq_nil_of_le (by omega)]; rfl
    · intro i hi ih
      obtain ⟨h1, h2⟩ := hd.2 _ (getD_mem hi (em, []))
      rw [spec_l15Files.l4_eq, bifT (by omega), bif2T (by omega) (by omega), up1 (by omega), ih, fs_step f hi]
      simp only [Int.toNat_natCast]
      rw [sName _ h1, sB, sGood _ h2, sB]
      unfold fileOk
      cases nameB (f.getD i (em, [])).1 with
      | false => rfl
      | true =>
        cases goodB (f.getD i (em, [])).2 with
        | false => rfl
        | true =>
          rw [notT, notT, Bool.true_and, Bool.true_and]
          by_cases h0 : (i : Int) > 0
          · have hp : pvF f i = some (f.getD (i - 1) (em, [])).1 := by unfold pvF; rw [if_neg (by omega)]
            have hw : w64 ((i : Int) - 1) = ((i - 1 : Nat) : Int) := by rw [w64_id (by omega) (by omega)]; omega
            rw [bifT h0, hw, bif2T (by omega) (by omega), hp]
            simp only [Int.toNat_natCast, prevOk]
            show (bif !(ordB (f.getD (i - 1) (em, [])).1 (f.getD i (em, [])).1) then some false else _) = _
            cases ordB (f.getD (i - 1) (em, [])).1 (f.getD i (em, [])).1 <;> simp
          · have hp : pvF f i = none := by unfold pvF; rw [if_pos (by omega)]
            rw [bifF h0, hp]; rfl
  rw [spec_l15Files.f_eq]
  exact key 0 (by omega)
theorem iFiles (f : YFileS) (hd : SmF f) : impl_goodFiles.f f = some (goodF f) := by
  have hL := hd.1
  have key : ∀ i, i ≤ f.length → impl_goodFiles.l4 f f (f.length : Int) (i : Int) = some (fsB (pvF f i) (f.drop i) && decide ((f.length : Int) ≤ 8)) := by
    apply downTo
    · rw [impl_goodFiles.l4_eq, bifF (by omega), List.drop_eq_nil_of_le (by omega)]; rfl
    · intro i hi ih
      obtain ⟨h1, h2⟩ := hd.2 _ (getD_mem hi (em, []))
      rw [impl_goodFiles.l4_eq, bifT (by omega), bif2T (by omega) (by omega), up1 (by omega), ih, fs_step f hi]
      simp only [Int.toNat_natCast]
      rw [iName _ h1, sB, iGood _ h2, sB]
      unfold fileOk
      cases nameB (f.getD i (em, [])).1 with
      | false => rfl
      | true =>
        cases goodB (f.getD i (em, [])).2 with
        | false => rfl
        | true =>
          rw [notT, notT, Bool.true_and, Bool.true_and]
          by_cases h0 : (i : Int) > 0
          · have hp : pvF f i = some (f.getD (i - 1) (em, [])).1 := by unfold pvF; rw [if_neg (by omega)]
            have hw : w64 ((i : Int) - 1) = ((i - 1 : Nat) : Int) := by rw [w64_id (by omega) (by omega)]; omega
            rw [bifT h0, hw, bif2T (by omega) (by omega), hp]
            simp only [Int.toNat_natCast, prevOk]
            rw [leq_ord]
            cases ordB (f.getD (i - 1) (em, [])).1 (f.getD i (em, [])).1 <;> simp
          · have hp : pvF f i = none := by unfold pvF; rw [if_pos (by omega)]
            rw [bifF h0, hp]; rfl
  rw [impl_goodFiles.f_eq]
  exact key 0 (by omega)
theorem smF_of {f : YFileS} (h : mFileS f ≤ 1048576) : SmF f := by
  have h2 : f.length + tot mFile f ≤ 1048576 := h
  refine ⟨by omega, fun x hx => ?_⟩
  have h3 : mFile x ≤ tot mFile f := tot_mem mFile hx
  have h4 : mFile x = x.1.size + mStringS x.2 := rfl
  have h5 : mStringS x.2 = x.2.length + tot ByteArray.size x.2 := rfl
  exact ⟨by omega, by omega, fun s hs => by have := tot_mem ByteArray.size hs; omega⟩
theorem GoodFiles_ex (f : YFileS) (h : mFileS f ≤ 1048576) : ∃ r : Bool, spec_GoodFiles.f f = some r ∧ impl_GoodFiles.f f = some r := by
  have hd := smF_of h
  exact ⟨goodF f, by rw [spec_GoodFiles.f_eq, sFiles f hd, sB], by rw [impl_GoodFiles.f_eq, iFiles f hd, sB]⟩
theorem FnExactGoodFiles (l0 : YFileS) (g0 : Bd (.list (.pair .str (.one (.list .str)))) l0) : laws_FnExactGoodFiles.f l0 = some true := by
  rw [laws_FnExactGoodFiles.f_eq]
  rw [szFileS l0 (1048576) (bdFileS _ g0) (by omega) (by omega), sB]
  by_cases c0 : ((mFileS l0 : Nat) : Int) ≤ 1048576
  case neg => rw [szR_neg c0, bifT (by omega)]
  rw [szR_pos c0, bifF (by omega)]
  obtain ⟨r, hs, hi⟩ := GoodFiles_ex l0 (by omega)
  have u0 := zmFileS l0
  have v0 := czFileS l0
  have t0 := toFileS l0 (by omega)
  have q0 := eqFileS l0 (by omega)
  simp only [hs, hi, t0, q0, sB, notT, cond_false, cond_true, Bool.not_true, Bool.not_false, beq_self_eq_true, decide_true]
end Go.Abs.G
