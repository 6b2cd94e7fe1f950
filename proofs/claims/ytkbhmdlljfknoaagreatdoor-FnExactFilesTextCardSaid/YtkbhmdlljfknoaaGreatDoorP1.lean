import Derived.Test.YtkbhmdlljfknoaaGreatDoorG
import Derived.Test.YtkbhmdlljfknoaaGreatDoorPA
import Derived.Lib.IndexAny
set_option linter.unusedVariables false
set_option linter.unusedSimpArgs false
set_option linter.unusedSectionVars false
namespace Go.Abs.G
open Go Go.Abs
abbrev T := List ByteArray
abbrev YRow := Int × ByteArray
abbrev yRow : YRow := (0, em)
/-- what it takes of what is left -/
def mRow (x : YRow) : Nat := x.2.size
/-- how many marks -/
def cRow (x : YRow) : Nat := 1 + 1
/-- how large -/
def zRow (x : YRow) : Nat := 1 + 1
def BgRow (x : YRow) : Prop := x.2.size ≤ 140737488351232
theorem czRow (x : YRow) : cRow x ≤ zRow x := by
  unfold cRow zRow
  exact Nat.le_refl _
theorem zmRow (x : YRow) : zRow x ≤ 7 + 8 * mRow x := by
  unfold zRow mRow
  omega
theorem bdRow (x : YRow) (h : Bd (.pair (.int .i64) (.one .str)) x) : BgRow x := h.2
theorem szRow (x : YRow) (left : Int) (hb : BgRow x) (h0 : 0 ≤ left) (h1 : left ≤ 1048576) : laws_szRow.f x left = some (szR (mRow x) left) := by
  rw [laws_szRow.f_eq]
  have h : x.2.size ≤ 140737488351232 := hb
  refine (szLeaf _ left h h0 h1 (fun l => some l) (some (-1))).trans ?_
  rw [show mRow x = x.2.size from rfl]
  by_cases g : szR (x.2.size) left < 0
  · rw [bifT g]; rw [szR_lt _ _ h0] at g; rw [szR_neg g]
  · rw [bifF g]
theorem toRow (x : YRow) (hb : mRow x ≤ 1048576) : laws_toRow.f x = some x := by
  have hb2 : x.2.size ≤ 1048576 := hb
  rw [laws_toRow.f_eq]
theorem eqRow (x : YRow) (hb : zRow x ≤ 4398046511104) : laws_eqRow.f x x = some true := by
  have hb2 : 1 + 1 ≤ 4398046511104 := hb
  rw [laws_eqRow.f_eq]
  rw [bifNF rfl]
  rw [toList_beq, bifNF rfl]
abbrev YRowS := List YRow
def mRowS (a : YRowS) : Nat := a.length + tot mRow a
def cRowS (a : YRowS) : Nat := tot cRow a
def zRowS (a : YRowS) : Nat := a.length + tot zRow a
def BgRowS (a : YRowS) : Prop := a.length ≤ 140737488351232 ∧ ∀ x ∈ a, BgRow x
theorem czRowS (a : YRowS) : cRowS a ≤ zRowS a := by
  have h := tot_mono cRow zRow (fun x => czRow x) a
  unfold cRowS zRowS
  omega
theorem zmRowS (a : YRowS) : zRowS a ≤ 8 * mRowS a := by
  have h := tot_seven zRow mRow (fun x => zmRow x) a
  unfold zRowS mRowS
  omega
theorem bdRowS (x : YRowS) (h : Bd (.list (.pair (.int .i64) (.one .str))) x) : BgRowS x := ⟨h.1, fun y hy => bdRow y (h.2 y hy)⟩
theorem szRowS (a : YRowS) (left : Int) (hb : BgRowS a) (h0 : 0 ≤ left) (h1 : left ≤ 1048576) : laws_szRowS.f a left = some (szR (mRowS a) left) := by
  obtain ⟨hb1, hb2⟩ := hb
  rw [laws_szRowS.f_eq]
  refine szTop hb1 h0 h1 (fun l => laws_szRowS.l10 a l 0) fun l h0 h1 => ?_
  refine szGo yRow mRow a (fun l i => laws_szRowS.l10 a l i) (fun l => by show laws_szRowS.l10 a l _ = _; rw [laws_szRowS.l10_eq, bifF (by omega)]) (fun i l hi h2 h3 => ?_) l h0 h1
  have hm := hb2 _ (getD_mem hi yRow)
  show laws_szRowS.l10 a l _ = _
  rw [laws_szRowS.l10_eq, bifT (by omega), bif2T (by omega) (by omega), up1 (by omega)]
  simp only [Int.toNat_natCast]
  rw [szRow _ l hm h2 h3, sB]
theorem toRowS (a : YRowS) (hb : mRowS a ≤ 1048576) : laws_toRowS.f a = some a := by
  have hb2 : a.length + tot mRow a ≤ 1048576 := hb
  rw [laws_toRowS.f_eq, show room 24 = 5864062014805 from by decide, bif2T (by omega) (by omega)]
  refine toGo yRow a (fun out i => laws_toRowS.l6 a out i) (fun out => by show laws_toRowS.l6 a out _ = _; rw [laws_toRowS.l6_eq, bifF (by omega)]) (fun i out hi hl => ?_) _ (by simp)
  show laws_toRowS.l6 a out _ = _
  rw [laws_toRowS.l6_eq, bifT (by omega), bif2T (by omega) (by omega)]
  simp only [Int.toNat_natCast]
  have hm : mRow (a.getD i (0, em)) ≤ tot mRow a := tot_mem mRow (getD_mem hi _)
  rw [toRow _ (by omega), sB]
  rw [bif2T (by omega) (by omega), up1 (by omega)]
theorem eqRowS (a : YRowS) (hb : zRowS a ≤ 4398046511104) : laws_eqRowS.f a a = some true := by
  have hb2 : a.length + tot zRow a ≤ 4398046511104 := hb
  rw [laws_eqRowS.f_eq, bifNF rfl]
  refine eqGo (n := a.length) (fun i => laws_eqRowS.l8 a a i) (by show laws_eqRowS.l8 a a _ = _; rw [laws_eqRowS.l8_eq, bifF (by omega)]) fun i hi => ?_
  show laws_eqRowS.l8 a a _ = _
  rw [laws_eqRowS.l8_eq, bifT (by omega), bif2T (by omega) (by omega), bif2T (by omega) (by omega), up1 (by omega)]
  simp only [Int.toNat_natCast]
  have hm : zRow (a.getD i (0, em)) ≤ tot zRow a := tot_mem zRow (getD_mem hi _)
  rw [eqRow _ (by omega), sB, notT]
abbrev YGroup := Int × Int × List (Int × ByteArray)
abbrev yGroup : YGroup := (0, 0, [])
/-- what it takes of what is left -/
def mGroup (x : YGroup) : Nat := mRowS x.2.2
/-- how many marks -/
def cGroup (x : YGroup) : Nat := 1 + 1 + cRowS x.2.2
/-- how large -/
def zGroup (x : YGroup) : Nat := 1 + 1 + zRowS x.2.2
def BgGroup (x : YGroup) : Prop := BgRowS x.2.2
theorem czGroup (x : YGroup) : cGroup x ≤ zGroup x := by
  unfold cGroup zGroup
  have h0 := czRowS x.2.2
  omega
theorem zmGroup (x : YGroup) : zGroup x ≤ 7 + 8 * mGroup x := by
  unfold zGroup mGroup
  have h0 := zmRowS x.2.2
  omega
theorem bdGroup (x : YGroup) (h : Bd (.pair (.int .i64) (.pair (.int .i64) (.one (.list (.pair (.int .i64) (.one .str)))))) x) : BgGroup x := bdRowS _ h.2.2
theorem szGroup (x : YGroup) (left : Int) (hb : BgGroup x) (h0 : 0 ≤ left) (h1 : left ≤ 1048576) : laws_szGroup.f x left = some (szR (mGroup x) left) := by
  rw [laws_szGroup.f_eq]
  rw [szRowS _ left hb h0 h1, sB, show mGroup x = mRowS x.2.2 from rfl]
  by_cases g : szR (mRowS x.2.2) left < 0
  · rw [bifT g]; rw [szR_lt _ _ h0] at g; rw [szR_neg g]
  · rw [bifF g]
theorem toGroup (x : YGroup) (hb : mGroup x ≤ 1048576) : laws_toGroup.f x = some x := by
  have hb2 : mRowS x.2.2 ≤ 1048576 := hb
  rw [laws_toGroup.f_eq]
  rw [toRowS _ (by omega), sB]
theorem eqGroup (x : YGroup) (hb : zGroup x ≤ 4398046511104) : laws_eqGroup.f x x = some true := by
  have hb2 : 1 + 1 + zRowS x.2.2 ≤ 4398046511104 := hb
  rw [laws_eqGroup.f_eq]
  rw [bifNF rfl]
  rw [bifNF rfl]
  rw [eqRowS _ (by omega), sB, notT]
abbrev YGroupS := List YGroup
def mGroupS (a : YGroupS) : Nat := a.length + tot mGroup a
def cGroupS (a : YGroupS) : Nat := tot cGroup a
def zGroupS (a : YGroupS) : Nat := a.length + tot zGroup a
def BgGroupS (a : YGroupS) : Prop := a.length ≤ 140737488351232 ∧ ∀ x ∈ a, BgGroup x
theorem czGroupS (a : YGroupS) : cGroupS a ≤ zGroupS a := by
  have h := tot_mono cGroup zGroup (fun x => czGroup x) a
  unfold cGroupS zGroupS
  omega
theorem zmGroupS (a : YGroupS) : zGroupS a ≤ 8 * mGroupS a := by
  have h := tot_seven zGroup mGroup (fun x => zmGroup x) a
  unfold zGroupS mGroupS
  omega
theorem bdGroupS (x : YGroupS) (h : Bd (.list (.pair (.int .i64) (.pair (.int .i64) (.one (.list (.pair (.int .i64) (.one .str))))))) x) : BgGroupS x := ⟨h.1, fun y hy => bdGroup y (h.2 y hy)⟩
theorem szGroupS (a : YGroupS) (left : Int) (hb : BgGroupS a) (h0 : 0 ≤ left) (h1 : left ≤ 1048576) : laws_szGroupS.f a left = some (szR (mGroupS a) left) := by
  obtain ⟨hb1, hb2⟩ := hb
  rw [laws_szGroupS.f_eq]
  refine szTop hb1 h0 h1 (fun l => laws_szGroupS.l10 a l 0) fun l h0 h1 => ?_
  refine szGo yGroup mGroup a (fun l i => laws_szGroupS.l10 a l i) (fun l => by show laws_szGroupS.l10 a l _ = _; rw [laws_szGroupS.l10_eq, bifF (by omega)]) (fun i l hi h2 h3 => ?_) l h0 h1
  have hm := hb2 _ (getD_mem hi yGroup)
  show laws_szGroupS.l10 a l _ = _
  rw [laws_szGroupS.l10_eq, bifT (by omega), bif2T (by omega) (by omega), up1 (by omega)]
  simp only [Int.toNat_natCast]
  rw [szGroup _ l hm h2 h3, sB]
theorem toGroupS (a : YGroupS) (hb : mGroupS a ≤ 1048576) : laws_toGroupS.f a = some a := by
  have hb2 : a.length + tot mGroup a ≤ 1048576 := hb
  rw [laws_toGroupS.f_eq, show room 40 = 3518437208883 from by decide, bif2T (by omega) (by omega)]
  refine toGo yGroup a (fun out i => laws_toGroupS.l6 a out i) (fun out => by show laws_toGroupS.l6 a out _ = _; rw [laws_toGroupS.l6_eq, bifF (by omega)]) (fun i out hi hl => ?_) _ (by simp)
  show laws_toGroupS.l6 a out _ = _
  rw [laws_toGroupS.l6_eq, bifT (by omega), bif2T (by omega) (by omega)]
  simp only [Int.toNat_natCast]
  have hm : mGroup (a.getD i (0, 0, [])) ≤ tot mGroup a := tot_mem mGroup (getD_mem hi _)
  rw [toGroup _ (by omega), sB]
  rw [bif2T (by omega) (by omega), up1 (by omega)]
theorem eqGroupS (a : YGroupS) (hb : zGroupS a ≤ 4398046511104) : laws_eqGroupS.f a a = some true := by
  have hb2 : a.length + tot zGroup a ≤ 4398046511104 := hb
  rw [laws_eqGroupS.f_eq, bifNF rfl]
  refine eqGo (n := a.length) (fun i => laws_eqGroupS.l8 a a i) (by show laws_eqGroupS.l8 a a _ = _; rw [laws_eqGroupS.l8_eq, bifF (by omega)]) fun i hi => ?_
  show laws_eqGroupS.l8 a a _ = _
  rw [laws_eqGroupS.l8_eq, bifT (by omega), bif2T (by omega) (by omega), bif2T (by omega) (by omega), up1 (by omega)]
  simp only [Int.toNat_natCast]
  have hm : zGroup (a.getD i (0, 0, [])) ≤ tot zGroup a := tot_mem zGroup (getD_mem hi _)
  rw [eqGroup _ (by omega), sB, notT]
abbrev YFileDiff := ByteArray × Int × List (Int × Int × List (Int × ByteArray))
abbrev yFileDiff : YFileDiff := (em, 0, [])
/-- what it takes of what is left -/
def mFileDiff (x : YFileDiff) : Nat := x.1.size + mGroupS x.2.2
/-- how many marks -/
def cFileDiff (x : YFileDiff) : Nat := 1 + 1 + cGroupS x.2.2
/-- how large -/
def zFileDiff (x : YFileDiff) : Nat := 1 + 1 + zGroupS x.2.2
def BgFileDiff (x : YFileDiff) : Prop := x.1.size ≤ 140737488351232 ∧ BgGroupS x.2.2
theorem czFileDiff (x : YFileDiff) : cFileDiff x ≤ zFileDiff x := by
  unfold cFileDiff zFileDiff
  have h0 := czGroupS x.2.2
  omega
theorem zmFileDiff (x : YFileDiff) : zFileDiff x ≤ 7 + 8 * mFileDiff x := by
  unfold zFileDiff mFileDiff
  have h0 := zmGroupS x.2.2
  omega
theorem bdFileDiff (x : YFileDiff) (h : Bd (.pair .str (.pair (.int .i64) (.one (.list (.pair (.int .i64) (.pair (.int .i64) (.one (.list (.pair (.int .i64) (.one .str)))))))))) x) : BgFileDiff x := ⟨h.1, bdGroupS _ h.2.2⟩
theorem szFileDiff (x : YFileDiff) (left : Int) (hb : BgFileDiff x) (h0 : 0 ≤ left) (h1 : left ≤ 1048576) : laws_szFileDiff.f x left = some (szR (mFileDiff x) left) := by
  rw [laws_szFileDiff.f_eq]
  refine (szLeaf _ left hb.1 h0 h1 (fun l => (laws_szGroupS.f x.2.2 l).bind fun y1 => bif decide (y1 < 0) then some (-1) else some y1) (some (-1))).trans ?_
  rw [show mFileDiff x = x.1.size + mGroupS x.2.2 from rfl]
  by_cases g : szR (x.1.size) left < 0
  · rw [bifT g]; rw [szR_lt _ _ h0] at g; rw [szR_neg (by omega)]
  have g1 := szR_le (x.1.size) left h0
  rw [bifF g, szGroupS _ _ hb.2 (by omega) (by omega), sB]
  rw [← szR_add (x.1.size) (mGroupS x.2.2) left, bifF g]
  by_cases g2 : szR (mGroupS x.2.2) (szR (x.1.size) left) < 0
  · rw [bifT g2]; rw [szR_lt _ _ (by omega)] at g2; rw [szR_neg g2]
  · rw [bifF g2]
theorem toFileDiff (x : YFileDiff) (hb : mFileDiff x ≤ 1048576) : laws_toFileDiff.f x = some x := by
  have hb2 : x.1.size + mGroupS x.2.2 ≤ 1048576 := hb
  rw [laws_toFileDiff.f_eq]
  rw [toGroupS _ (by omega), sB]
theorem eqFileDiff (x : YFileDiff) (hb : zFileDiff x ≤ 4398046511104) : laws_eqFileDiff.f x x = some true := by
  have hb2 : 1 + 1 + zGroupS x.2.2 ≤ 4398046511104 := hb
  rw [laws_eqFileDiff.f_eq]
  rw [toList_beq, bifNF rfl]
  rw [bifNF rfl]
  rw [eqGroupS _ (by omega), sB, notT]
abbrev YFileDiffS := List YFileDiff
def mFileDiffS (a : YFileDiffS) : Nat := a.length + tot mFileDiff a
def cFileDiffS (a : YFileDiffS) : Nat := tot cFileDiff a
def zFileDiffS (a : YFileDiffS) : Nat := a.length + tot zFileDiff a
def BgFileDiffS (a : YFileDiffS) : Prop := a.length ≤ 140737488351232 ∧ ∀ x ∈ a, BgFileDiff x
theorem czFileDiffS (a : YFileDiffS) : cFileDiffS a ≤ zFileDiffS a := by
  have h := tot_mono cFileDiff zFileDiff (fun x => czFileDiff x) a
  unfold cFileDiffS zFileDiffS
  omega
theorem zmFileDiffS (a : YFileDiffS) : zFileDiffS a ≤ 8 * mFileDiffS a := by
  have h := tot_seven zFileDiff mFileDiff (fun x => zmFileDiff x) a
  unfold zFileDiffS mFileDiffS
  omega
theorem bdFileDiffS (x : YFileDiffS) (h : Bd (.list (.pair .str (.pair (.int .i64) (.one (.list (.pair (.int .i64) (.pair (.int .i64) (.one (.list (.pair (.int .i64) (.one .str))))))))))) x) : BgFileDiffS x := ⟨h.1, fun y hy => bdFileDiff y (h.2 y hy)⟩
theorem szFileDiffS (a : YFileDiffS) (left : Int) (hb : BgFileDiffS a) (h0 : 0 ≤ left) (h1 : left ≤ 1048576) : laws_szFileDiffS.f a left = some (szR (mFileDiffS a) left) := by
  obtain ⟨hb1, hb2⟩ := hb
  rw [laws_szFileDiffS.f_eq]
  refine szTop hb1 h0 h1 (fun l => laws_szFileDiffS.l10 a l 0) fun l h0 h1 => ?_
  refine szGo yFileDiff mFileDiff a (fun l i => laws_szFileDiffS.l10 a l i) (fun l => by show laws_szFileDiffS.l10 a l _ = _; rw [laws_szFileDiffS.l10_eq, bifF (by omega)]) (fun i l hi h2 h3 => ?_) l h0 h1
  have hm := hb2 _ (getD_mem hi yFileDiff)
  show laws_szFileDiffS.l10 a l _ = _
  rw [laws_szFileDiffS.l10_eq, bifT (by omega), bif2T (by omega) (by omega), up1 (by omega)]
  simp only [Int.toNat_natCast]
  rw [szFileDiff _ l hm h2 h3, sB]
theorem toFileDiffS (a : YFileDiffS) (hb : mFileDiffS a ≤ 1048576) : laws_toFileDiffS.f a = some a := by
  have hb2 : a.length + tot mFileDiff a ≤ 1048576 := hb
  rw [laws_toFileDiffS.f_eq, show room 48 = 2932031007402 from by decide, bif2T (by omega) (by omega)]
  refine toGo yFileDiff a (fun out i => laws_toFileDiffS.l6 a out i) (fun out => by show laws_toFileDiffS.l6 a out _ = _; rw [laws_toFileDiffS.l6_eq, bifF (by omega)]) (fun i out hi hl => ?_) _ (by simp)
  show laws_toFileDiffS.l6 a out _ = _
  rw [laws_toFileDiffS.l6_eq, bifT (by omega), bif2T (by omega) (by omega)]
  simp only [Int.toNat_natCast]
  have hm : mFileDiff (a.getD i (em, 0, [])) ≤ tot mFileDiff a := tot_mem mFileDiff (getD_mem hi _)
  rw [toFileDiff _ (by omega), sB]
  rw [bif2T (by omega) (by omega), up1 (by omega)]
theorem eqFileDiffS (a : YFileDiffS) (hb : zFileDiffS a ≤ 4398046511104) : laws_eqFileDiffS.f a a = some true := by
  have hb2 : a.length + tot zFileDiff a ≤ 4398046511104 := hb
  rw [laws_eqFileDiffS.f_eq, bifNF rfl]
  refine eqGo (n := a.length) (fun i => laws_eqFileDiffS.l8 a a i) (by show laws_eqFileDiffS.l8 a a _ = _; rw [laws_eqFileDiffS.l8_eq, bifF (by omega)]) fun i hi => ?_
  show laws_eqFileDiffS.l8 a a _ = _
  rw [laws_eqFileDiffS.l8_eq, bifT (by omega), bif2T (by omega) (by omega), bif2T (by omega) (by omega), up1 (by omega)]
  simp only [Int.toNat_natCast]
  have hm : zFileDiff (a.getD i (em, 0, [])) ≤ tot zFileDiff a := tot_mem zFileDiff (getD_mem hi _)
  rw [eqFileDiff _ (by omega), sB, notT]
/-- of a size that is let through -/
def Sm (l : T) : Prop := l.length ≤ 1048576 ∧ ∀ s ∈ l, s.size ≤ 1048576
def bl (s : ByteArray) : List UInt8 := s.data.toList
theorem bl_len (s : ByteArray) : (bl s).length = s.size := rfl
theorem bl_inj {a b : ByteArray} (h : bl a = bl b) : a = b := ByteArray.ext (Array.toList_inj.1 h)
theorem bl_ext (s : ByteArray) (a b : Nat) : bl (s.extract a b) = ((bl s).drop a).take (b - a) := by
  unfold bl; rw [ByteArray.data_extract, Array.toList_extract]
theorem bt_bl (s : ByteArray) (i : Nat) : bt s (i : Int) = (((bl s).getD i 0).toNat : Int) := by
  unfold bt bl
  rw [Int.toNat_natCast]
theorem sIn (a b c : Int) : spec_l1In.f a b c = some (decide (b ≤ a ∧ a ≤ c)) := by
  rw [spec_l1In.f_eq]
  by_cases h : a ≥ b
  · rw [bifT h]; congr 1; rw [decide_eq_decide]; omega
  · rw [bifF h]; congr 1; rw [eq_comm, decide_eq_false_iff_not]; omega
theorem iIn (a b c : Int) : impl_in.f a b c = some (decide (b ≤ a ∧ a ≤ c)) := by
  rw [impl_in.f_eq]
  by_cases h : a ≥ b
  · rw [bifT h]; congr 1; rw [decide_eq_decide]; omega
  · rw [bifF h]; congr 1; rw [eq_comm, decide_eq_false_iff_not]; omega
/-- A line. -/
def lineP (s : ByteArray) : Prop := 1 ≤ s.size ∧ s.size ≤ 30 ∧ (10 : UInt8) ∉ (bl s).take (s.size - 1)
instance (s : ByteArray) : Decidable (lineP s) := by unfold lineP; exact inferInstance
/-- It ends. -/
def endP (s : ByteArray) : Prop := 1 ≤ s.size ∧ (bl s).getD (s.size - 1) 0 = 10
instance (s : ByteArray) : Decidable (endP s) := by unfold endP; exact inferInstance
theorem toNat10 (b : UInt8) : ((b.toNat : Nat) : Int) = 10 ↔ b = 10 := by
  constructor
  · intro h; exact UInt8.toNat_inj.1 (by have : (10 : UInt8).toNat = 10 := rfl; omega)
  · rintro rfl; rfl
theorem sLine (s : ByteArray) (hs : s.size ≤ 1048576) : spec_l1Line.f s = some (decide (lineP s)) := by
  have hL : ((bl s).take (s.size - 1)).length = s.size - 1 := by rw [List.length_take, bl_len]; omega
  have hw : w64 ((s.size : Int) - 1) = (s.size : Int) - 1 := w64_id (by omega) (by omega)
  have key : ∀ i, i ≤ s.size - 1 → spec_l1Line.l4 s (i : Int) = some (decide (1 ≤ s.size ∧ s.size ≤ 30 ∧ (10 : UInt8) ∉ ((bl s).take (s.size - 1)).drop i)) := by
    apply downTo
    · rw [spec_l1Line.l4_eq, hw, bifF (by omega), sIn, sB]
      congr 1
      rw [decide_eq_decide, List.drop_eq_nil_of_le (by omega)]
      constructor
      · intro h; exact ⟨by omega, by omega, List.not_mem_nil⟩
      · intro h; omega
    · intro i hi ih
      have hi1 := up1 (i := i) (by omega)
      rw [spec_l1Line.l4_eq]
      simp only [hw, hi1]
      rw [bifT (by omega), bif2T (by omega) (by omega)]
      have hb : bt s (i : Int) = 10 ↔ ((bl s).take (s.size - 1)).getD i 0 = 10 := by
        rw [bt_bl, toNat10, List.getD_eq_getElem?_getD, List.getD_eq_getElem?_getD, List.getElem?_take_of_lt hi]
      have hd := drop_at (l := (bl s).take (s.size - 1)) (i := i) (by omega) 0
      by_cases h : bt s (i : Int) = 10
      · rw [bifT h]; congr 1
        rw [eq_comm, decide_eq_false_iff_not, hd, hb.1 h]
        rintro ⟨_, _, h3⟩
        exact h3 List.mem_cons_self
      · rw [bifF h, ih]; congr 1
        rw [decide_eq_decide, hd, List.mem_cons, not_or]
        have : ¬ (10 : UInt8) = ((bl s).take (s.size - 1)).getD i 0 := fun g => h (hb.2 g.symm)
        exact ⟨fun ⟨a, b, c⟩ => ⟨a, b, this, c⟩, fun ⟨a, b, _, c⟩ => ⟨a, b, c⟩⟩
  have := key 0 (by omega)
  rw [spec_l1Line.f_eq]
  rw [List.drop_zero] at this
  exact this
theorem iLine (s : ByteArray) (hs : s.size ≤ 1048576) : impl_isLine.f s = some (decide (lineP s)) := by
  have hw : w64 ((s.size : Int) - 1) = (s.size : Int) - 1 := w64_id (by omega) (by omega)
  rw [impl_isLine.f_eq, iIn, sB, hw]
  by_cases h : (1 : Int) ≤ (s.size : Int) ∧ (s.size : Int) ≤ 30
  · rw [bifT h, bif2T (by omega) (by omega)]
    show (contains1 _ _).bind _ = _
    unfold contains1
    have h1 : Nat.beq (⟨#[10]⟩ : ByteArray).size 1 = true := rfl
    rw [h1, cond_true, sB]
    congr 1
    show (!decide (0 ≤ Go.Lib.indexByte _ 10)) = _
    rw [← Go.Lib.contains_iff_indexByte]
    have he : (s.extract 0 ((s.size : Int) - 1).toNat).data.toList = (bl s).take (s.size - 1) := by
      show bl _ = _
      rw [bl_ext, List.drop_zero]; congr 1; omega
    rw [he]
    by_cases hm : (10 : UInt8) ∈ (bl s).take (s.size - 1)
    · rw [List.contains_iff_mem.2 hm]; exact (decide_eq_false (fun g : lineP s => g.2.2 hm)).symm
    · have : ((bl s).take (s.size - 1)).contains 10 = false := by rw [← Bool.not_eq_true, List.contains_iff_mem]; exact hm
      rw [this]; exact (decide_eq_true (show lineP s from ⟨by omega, by omega, hm⟩)).symm
  · rw [bifF h]
    congr 1
    rw [eq_comm, decide_eq_false_iff_not]
    unfold lineP
    omega
theorem sEnds (s : ByteArray) (h1 : 1 ≤ s.size) (hs : s.size ≤ 1048576) : spec_l1Ends.f s = some (decide (endP s)) := by
  have hw : w64 ((s.size : Int) - 1) = ((s.size - 1 : Nat) : Int) := by rw [w64_id (by omega) (by omega)]; omega
  rw [spec_l1Ends.f_eq, hw, bif2T (by omega) (by omega), bt_bl]
  congr 1
  rw [decide_eq_decide, toNat10]
  exact ⟨fun h => ⟨h1, h⟩, fun h => h.2⟩
theorem iEnds (s : ByteArray) (hs : s.size ≤ 1048576) : impl_isEnded.f s = some (decide (endP s)) := by
  rw [impl_isEnded.f_eq, strings_HasSuffix.f_eq, internal_stringslite_HasSuffix.f_eq]
  have h10 : (⟨#[10]⟩ : ByteArray).size = 1 := rfl
  have hw : w64 ((s.size : Int) - 1) = (s.size : Int) - 1 := w64_id (by omega) (by omega)
  simp only [h10, Int.ofNat_one]
  by_cases h : (s.size : Int) ≥ 1
  · rw [hw, bifT h, bif2T (by omega) (by omega), sB, sB]
    congr 1
    rw [toList_beq, decide_eq_decide]
    have hb : bl (s.extract ((s.size : Int) - 1).toNat s.size) = [(bl s).getD (s.size - 1) 0] := by
      rw [bl_ext]
      have e : ((s.size : Int) - 1).toNat = s.size - 1 := by omega
      rw [e, drop_at (l := bl s) (i := s.size - 1) (by rw [bl_len]; omega) 0, show s.size - (s.size - 1) = 1 by omega]
      rfl
    constructor
    · intro g
      rw [g] at hb
      refine ⟨by omega, ?_⟩
      have : [(10 : UInt8)] = [(bl s).getD (s.size - 1) 0] := hb
      exact ((List.cons.inj this).1).symm
    · intro g
      refine bl_inj ?_
      rw [hb, g.2]; rfl
  · rw [bifF (by omega), sB, sB]
    congr 1
    rw [eq_comm, decide_eq_false_iff_not]
    unfold endP
    omega
def endsT : T → Bool
  | [] => true
  | s :: t => (t.isEmpty || decide (endP s)) && endsT t
def allLines (l : T) : Bool := l.all fun s => decide (lineP s)
theorem allLines_cons (s : ByteArray) (l : T) : allLines (s :: l) = (decide (lineP s) && allLines l) := rfl
def goodB (l : T) : Bool := decide (l.length ≤ 40) && allLines l && endsT l
theorem drop_empty {l : T} {i : Nat} (h : i < l.length) : (l.drop (i + 1)).isEmpty = decide (¬ (i : Int) < (l.length : Int) - 1) := by
  rw [Bool.eq_iff_iff, List.isEmpty_iff, List.drop_eq_nil_iff, decide_eq_true_eq]; omega
theorem iAre (l : T) (hl : Sm l) : impl_areLines.f l = some (decide (l.length ≤ 40) && allLines l) := by
  have hL := hl.1
  have idx : ∀ i, i ≤ l.length → ∃ r : Int, slices_IndexFunc_Lstring_string__impl_areLines_1.l4 l (l.length : Int) (i : Int) = some r ∧ (decide (r ≥ 0) = !(allLines (l.drop i))) := by
    apply downTo
    · refine ⟨-1, by rw [slices_IndexFunc_Lstring_string__impl_areLines_1.l4_eq, bifF (by omega)], ?_⟩
      rw [List.drop_eq_nil_of_le (by omega)]; rfl
    · intro i hlt ⟨r, hr, hp⟩
      have hi1 := up1 (i := i) (by omega)
      have hsz := hl.2 _ (getD_mem hlt em)
      rw [slices_IndexFunc_Lstring_string__impl_areLines_1.l4_eq, bifT (by omega), bif2T (by omega) (by omega), hi1]
      simp only [Int.toNat_natCast]
      rw [impl_areLines_1.f_eq, iLine _ hsz, sB, sB]
      by_cases h : lineP (l.getD i em)
      · refine ⟨r, by rw [bifNF h]; exact hr, ?_⟩
        rw [hp, drop_at hlt em, allLines_cons, decide_eq_true h, Bool.true_and]
      · refine ⟨(i : Int), by rw [bifNT h], ?_⟩
        rw [drop_at hlt em, allLines_cons, decide_eq_false h, Bool.false_and]; exact decide_eq_true (by omega)
  obtain ⟨r, hr, hp⟩ := idx 0 (by omega)
  rw [impl_areLines.f_eq, slices_ContainsFunc_Lstring_string__impl_areLines_1.f_eq, slices_IndexFunc_Lstring_string__impl_areLines_1.f_eq]
  by_cases h : l.length ≤ 40
  · rw [bifT (by omega)]
    refine bindEq (bindEq hr rfl) ?_
    rw [hp, decide_eq_true h]; simp
  · rw [bifF (by omega), decide_eq_false h]; rfl
theorem iGood (l : T) (hl : Sm l) : impl_goodLines.f l = some (goodB l) := by
  have hL := hl.1
  rw [impl_goodLines.f_eq, iAre l hl, sB]
  unfold goodB
  cases hg : (decide (l.length ≤ 40) && allLines l) with
  | false => rw [Bool.false_and, notF]
  | true =>
    rw [Bool.true_and, notT]
    have hw : w64 ((l.length : Int) - 1) = (l.length : Int) - 1 := w64_id (by omega) (by omega)
    have key : ∀ i, i ≤ l.length → impl_goodLines.l8 l l (l.length : Int) (i : Int) = some (endsT (l.drop i)) := by
      apply downTo
      · rw [impl_goodLines.l8_eq, bifF (by omega), List.drop_eq_nil_of_le (by omega)]; rfl
      · intro i hi ih
        have hi1 := up1 (i := i) (by omega)
        have hsz := hl.2 _ (getD_mem hi em)
        have he := drop_empty hi
        have hR : endsT (l.drop i) = ((decide (¬ (i : Int) < (l.length : Int) - 1) || decide (endP (l.getD i em))) && endsT (l.drop (i + 1))) := by
          rw [drop_at hi em]; simp only [endsT, he]
        rw [hR, impl_goodLines.l8_eq, hw, hi1, bifT (by omega), bif2T (by omega) (by omega)]
        simp only [Int.toNat_natCast]
        rw [iEnds _ hsz, sB, ih]
        by_cases h2 : (i : Int) < (l.length : Int) - 1
        · rw [bifT h2, decide_eq_false (show ¬ ¬ (i : Int) < (l.length : Int) - 1 from fun g => g h2), Bool.false_or]
          by_cases h3 : endP (l.getD i em)
          · rw [bifNF h3, decide_eq_true h3, Bool.true_and]
          · rw [bifNT h3, decide_eq_false h3, Bool.false_and]
        · rw [bifF h2, decide_eq_true h2, Bool.true_or, Bool.true_and]
    have := key 0 (by omega)
    rw [List.drop_zero] at this
    exact this
/-- rows of a size that is let through -/
def SmR (l : YRowS) : Prop := l.length ≤ 1048576 ∧ ∀ x ∈ l, x.2.size ≤ 1048576
def side (c : Int) : YRowS → T
  | [] => []
  | r :: l => if r.1 = c then side c l else r.2 :: side c l
theorem side_cons (c : Int) (r : YRow) (l : YRowS) : side c (r :: l) = if r.1 = c then side c l else r.2 :: side c l := rfl
theorem side_len (c : Int) : ∀ l, (side c l).length ≤ l.length
  | [] => Nat.le_refl _
  | r :: l => by
    have := side_len c l
    unfold side
    split
    · rw [List.length_cons]; omega
    · rw [List.length_cons, List.length_cons]; omega
theorem side_mem (c : Int) : ∀ l s, s ∈ side c l → ∃ r ∈ l, s = r.2
  | [], s, h => by cases h
  | r :: l, s, h => by
    unfold side at h
    split at h
    · obtain ⟨q, hq, e⟩ := side_mem c l s h
      exact ⟨q, List.mem_cons_of_mem _ hq, e⟩
    · rcases List.mem_cons.1 h with rfl | h
      · exact ⟨r, List.mem_cons_self, rfl⟩
      · obtain ⟨q, hq, e⟩ := side_mem c l s h
        exact ⟨q, List.mem_cons_of_mem _ hq, e⟩
theorem side_sm (c : Int) {l : YRowS} (h : SmR l) : Sm (side c l) := by
  refine ⟨Nat.le_trans (side_len c l) h.1, fun s hs => ?_⟩
  obtain ⟨r, hr, rfl⟩ := side_mem c l s hs
  exact h.2 r hr
theorem side_step (c : Int) (s : T) (l : YRowS) {i : Nat} (hi : i < l.length) : s ++ side c (l.drop i) = (if (l.getD i (0, em)).1 = c then s else s ++ [(l.getD i (0, em)).2]) ++ side c (l.drop (i + 1)) := by
  rw [drop_at hi (0, em), side_cons]
  split
  · rfl
  · rw [List.append_assoc]; rfl
theorem sOld (g : YGroup) (hl : g.2.2.length ≤ 1048576) : spec_l6Old.f g = some (side 3 g.2.2) := by
  obtain ⟨a, b, l⟩ := g
  simp only at hl
  have key : ∀ i, i ≤ l.length → ∀ s : T, s.length ≤ i → spec_l6Old.l6 s l (l.length : Int) (i : Int) = some (s ++ side 3 (l.drop i)) := by
    apply downTo
    · intro s h
      rw [spec_l6Old.l6_eq, bifF (by omega), List.drop_eq_nil_of_le (by omega)]; simp [side]
    · intro i hi ih s h
      rw [side_step 3 s l hi, spec_l6Old.l6_eq, bifT (by omega), bif2T (by omega) (by omega), up1 (by omega), room16]
      simp only [Int.toNat_natCast]
      by_cases h3 : (l.getD i (0, em)).1 = 3
      · rw [if_pos h3, bifNF h3]; exact ih s (by omega)
      · rw [if_neg h3, bifNT h3, bifT (by simp only [List.length_singleton]; omega)]
        exact ih _ (by rw [List.length_append, List.length_singleton]; omega)
  rw [spec_l6Old.f_eq]
  exact key 0 (by omega) [] (by simp)
theorem sNew (g : YGroup) (hl : g.2.2.length ≤ 1048576) : spec_l6New.f g = some (side 2 g.2.2) := by
  obtain ⟨a, b, l⟩ := g
  simp only at hl
  have key : ∀ i, i ≤ l.length → ∀ s : T, s.length ≤ i → spec_l6New.l6 s l (l.length : Int) (i : Int) = some (s ++ side 2 (l.drop i)) := by
    apply downTo
    · intro s h
      rw [spec_l6New.l6_eq, bifF (by omega), List.drop_eq_nil_of_le (by omega)]; simp [side]
    · intro i hi ih s h
      rw [side_step 2 s l hi, spec_l6New.l6_eq, bifT (by omega), bif2T (by omega) (by omega), up1 (by omega), room16]
      simp only [Int.toNat_natCast]
      by_cases h3 : (l.getD i (0, em)).1 = 2
      · rw [if_pos h3, bifNF h3]; exact ih s (by omega)
      · rw [if_neg h3, bifNT h3, bifT (by simp only [List.length_singleton]; omega)]
        exact ih _ (by rw [List.length_append, List.length_singleton]; omega)
  rw [spec_l6New.f_eq]
  exact key 0 (by omega) [] (by simp)
theorem iSide (c : Int) (l : YRowS) (hl : l.length ≤ 1048576) : impl_sideOf.f l c = some (side c l) := by
  have key : ∀ i, i ≤ l.length → ∀ s : T, s.length ≤ i → impl_sideOf.l6 c s l (l.length : Int) (i : Int) = some (s ++ side c (l.drop i)) := by
    apply downTo
    · intro s h
      rw [impl_sideOf.l6_eq, bifF (by omega), List.drop_eq_nil_of_le (by omega)]; simp [side]
    · intro i hi ih s h
      rw [side_step c s l hi, impl_sideOf.l6_eq, bifT (by omega), bif2T (by omega) (by omega), up1 (by omega), room16]
      simp only [Int.toNat_natCast]
      by_cases h3 : (l.getD i (0, em)).1 = c
      · rw [if_pos h3, bifNF h3]; exact ih s (by omega)
      · rw [if_neg h3, bifNT h3, bifT (by simp only [List.length_singleton]; omega)]
        exact ih _ (by rw [List.length_append, List.length_singleton]; omega)
  rw [impl_sideOf.f_eq]
  exact key 0 (by omega) [] (by simp)
theorem iOld (g : YGroup) (hl : g.2.2.length ≤ 1048576) : impl_Group_old.f g = some (side 3 g.2.2) := by
  rw [impl_Group_old.f_eq, iSide 3 _ hl, sB]
theorem iNew (g : YGroup) (hl : g.2.2.length ≤ 1048576) : impl_Group_fresh.f g = some (side 2 g.2.2) := by
  rw [impl_Group_fresh.f_eq, iSide 2 _ hl, sB]
theorem s5 (l : T) (hl : Sm l) : spec_l5Lines.f l = some (goodB l) := by
  have hL := hl.1
  have hw : w64 ((l.length : Int) - 1) = (l.length : Int) - 1 := w64_id (by omega) (by omega)
  have key : ∀ i, i ≤ l.length → spec_l5Lines.l4 l l (l.length : Int) (i : Int) = some (decide (l.length ≤ 40) && allLines (l.drop i) && endsT (l.drop i)) := by
    apply downTo
    · rw [spec_l5Lines.l4_eq, bifF (by omega), List.drop_eq_nil_of_le (by omega)]
      simp [allLines, endsT]
      omega
    · intro i hi ih
      have hi1 := up1 (i := i) (by omega)
      have hd := drop_at hi em
      have hsz := hl.2 _ (getD_mem hi em)
      have he := drop_empty hi
      have hR : (decide (l.length ≤ 40) && allLines (l.drop i) && endsT (l.drop i)) = (decide (lineP (l.getD i em)) && ((decide (¬ (i : Int) < (l.length : Int) - 1) || decide (endP (l.getD i em))) && (decide (l.length ≤ 40) && allLines (l.drop (i + 1)) && endsT (l.drop (i + 1))))) := by
        rw [hd]
        simp only [allLines, endsT, List.all_cons, he]
        generalize decide (l.length ≤ 40) = a1
        generalize decide (lineP (l.getD i em)) = a2
        generalize (l.drop (i + 1)).all (fun s => decide (lineP s)) = a3
        generalize (decide (¬ (i : Int) < (l.length : Int) - 1) || decide (endP (l.getD i em))) = a4
        generalize endsT (l.drop (i + 1)) = a5
        cases a1 <;> cases a2 <;> cases a3 <;> cases a4 <;> cases a5 <;> rfl
      rw [hR, spec_l5Lines.l4_eq, hw, hi1, bifT (by omega), bif2T (by omega) (by omega)]
      simp only [Int.toNat_natCast]
      rw [sLine _ hsz, sB, ih]
      by_cases h1 : lineP (l.getD i em)
      · rw [bifNF h1, decide_eq_true h1, Bool.true_and]
        by_cases h2 : (i : Int) < (l.length : Int) - 1
        · rw [bifT h2, decide_eq_false (show ¬ ¬ (i : Int) < (l.length : Int) - 1 from fun g => g h2), Bool.false_or, sEnds _ h1.1 hsz, sB]
          by_cases h3 : endP (l.getD i em)
          · rw [bifNF h3, decide_eq_true h3, Bool.true_and]
          · rw [bifNT h3, decide_eq_false h3, Bool.false_and]
        · rw [bifF h2, decide_eq_true h2, Bool.true_or, Bool.true_and]
      · rw [bifNT h1, decide_eq_false h1, Bool.false_and]
  have := key 0 (by omega)
  rw [List.drop_zero] at this
  rw [spec_l5Lines.f_eq]
  exact this
def rowsB : Int → YRowS → Bool
  | _, [] => true
  | p, r :: l => decide (1 ≤ r.1 ∧ r.1 ≤ 3) && (decide (lineP r.2) && (decide (¬ (r.1 = 2 ∧ p = 3)) && rowsB r.1 l))
def anyB : YRowS → Bool
  | [] => false
  | r :: l => (!decide (r.1 = 1)) || anyB l
def pv (l : YRowS) (i : Nat) : Int := if i = 0 then 0 else (l.getD (i - 1) (0, em)).1
/-- What is asked behind the rows. -/
def tl (g : YGroup) (s : Bool) : Bool :=
  s && (decide ((0 ≤ g.1 ∧ g.1 ≤ 999) ∧ (0 ≤ g.2.1 ∧ g.2.1 ≤ 999) ∧ g.1 + ((side 3 g.2.2).length : Int) ≤ 1000 ∧ g.2.1 + ((side 2 g.2.2).length : Int) ≤ 1000 ∧ g.2.2.length ≤ 80) && (goodB (side 3 g.2.2) && goodB (side 2 g.2.2)))
def groupB (g : YGroup) : Bool := rowsB 0 g.2.2 && tl g (anyB g.2.2)
theorem rows_step (l : YRowS) {i : Nat} (hi : i < l.length) : rowsB (pv l i) (l.drop i) = (decide (1 ≤ (l.getD i (0, em)).1 ∧ (l.getD i (0, em)).1 ≤ 3) && (decide (lineP (l.getD i (0, em)).2) && (decide (¬ ((l.getD i (0, em)).1 = 2 ∧ pv l i = 3)) && rowsB (pv l (i + 1)) (l.drop (i + 1))))) := by
  have : pv l (i + 1) = (l.getD i (0, em)).1 := by unfold pv; rw [if_neg (by omega)]; rfl
  rw [this, drop_at hi (0, em)]; rfl
theorem any_step (s : Bool) (l : YRowS) {i : Nat} (hi : i < l.length) : (s || anyB (l.drop i)) = ((s || (!decide ((l.getD i (0, em)).1 = 1))) || anyB (l.drop (i + 1))) := by
  rw [drop_at hi (0, em)]
  show (s || (_ || _)) = _
  rw [Bool.or_assoc]
theorem sGroup (g : YGroup) (hl : SmR g.2.2) : spec_l6Group.f g = some (groupB g) := by
  have hL := hl.1
  have n3 := side_len 3 g.2.2
  have n2 := side_len 2 g.2.2
  obtain ⟨l, hlg⟩ : ∃ l, g.2.2 = l := ⟨_, rfl⟩
  have hLl : l.length ≤ 1048576 := by rw [← hlg]; exact hL
  have key : ∀ i, i ≤ l.length → ∀ s : Bool, spec_l6Group.l6 g s l (l.length : Int) (i : Int) = some (rowsB (pv l i) (l.drop i) && tl g (s || anyB (l.drop i))) := by
    apply downTo
    · intro s
      rw [spec_l6Group.l6_eq, bifF (by omega), List.drop_eq_nil_of_le (by omega)]
      show _ = some (true && tl g (s || false))
      rw [Bool.true_and, Bool.or_false]
      cases s with
      | false => rfl
      | true =>
        unfold tl
        rw [Bool.true_and, cond_true, sIn, sB]
        by_cases ha : 0 ≤ g.1 ∧ g.1 ≤ 999
        case neg => rw [bifF ha, decide_eq_false (fun h => ha h.1)]; rfl
        rw [bifT ha, sIn, sB]
        by_cases hb : 0 ≤ g.2.1 ∧ g.2.1 ≤ 999
        case neg => rw [bifF hb, decide_eq_false (fun h => hb h.2.1)]; rfl
        rw [bifT hb, sOld g hL, sB, w64_id (by omega) (by omega)]
        by_cases c1 : g.1 + ((side 3 g.2.2).length : Int) ≤ 1000
        case neg => rw [bifF c1, decide_eq_false (fun h => c1 h.2.2.1)]; rfl
        rw [bifT c1, sNew g hL, sB, w64_id (by omega) (by omega)]
        by_cases c2 : g.2.1 + ((side 2 g.2.2).length : Int) ≤ 1000
        case neg => rw [bifF c2, decide_eq_false (fun h => c2 h.2.2.2.1)]; rfl
        rw [bifT c2]
        by_cases c3 : g.2.2.length ≤ 80
        case neg => rw [bifF (by omega), decide_eq_false (fun h => c3 h.2.2.2.2)]; rfl
        rw [bifT (by omega), sB, s5 _ (side_sm 3 hl), sB, decide_eq_true (⟨ha, hb, c1, c2, c3⟩ : _ ∧ _ ∧ _ ∧ _ ∧ _), Bool.true_and]
        cases goodB (side 3 g.2.2) with
        | false => rfl
        | true => rw [cond_true, sB, s5 _ (side_sm 2 hl), sB]; rfl
    · intro i hi ih s
      have hsz := hl.2 _ (getD_mem (l := g.2.2) (by rw [hlg]; exact hi) (0, em))
      rw [hlg] at hsz
      rw [rows_step l hi, any_step s l hi, spec_l6Group.l6_eq, bifT (by omega), bif2T (by omega) (by omega)]
      simp only [Int.toNat_natCast]
      have fin : spec_l6Group.l15 g s (l.getD i (0, em)) l (l.length : Int) (i : Int) = some (rowsB (pv l (i + 1)) (l.drop (i + 1)) && tl g ((s || (!decide ((l.getD i (0, em)).1 = 1))) || anyB (l.drop (i + 1)))) := by
        rw [spec_l6Group.l15_eq, up1 (by omega)]
        cases s with
        | false => rw [cond_false, ih, Bool.false_or]
        | true => rw [cond_true, ih]; simp only [Bool.true_or]
      rw [sIn, sB]
      by_cases h1 : 1 ≤ (l.getD i (0, em)).1 ∧ (l.getD i (0, em)).1 ≤ 3
      case neg => rw [bifNT h1, decide_eq_false h1, Bool.false_and, Bool.false_and]
      rw [bifNF h1, decide_eq_true h1, Bool.true_and, sLine _ hsz, sB]
      by_cases h2 : lineP (l.getD i (0, em)).2
      case neg => rw [bifNT h2, decide_eq_false h2, Bool.false_and, Bool.false_and]
      rw [bifNF h2, decide_eq_true h2, Bool.true_and]
      by_cases h3 : (i : Int) > 0
      · rw [bifT h3]
        by_cases h4 : (l.getD i (0, em)).1 = 2
        · rw [bifT h4, dn1 (by omega) (by omega), hlg, bif2T (by omega) (by omega)]
          simp only [Int.toNat_natCast]
          have hp : pv l i = (l.getD (i - 1) (0, em)).1 := by unfold pv; rw [if_neg (by omega)]
          by_cases h5 : (l.getD (i - 1) (0, em)).1 = 3
          · have hx : ¬ ¬ ((l.getD i (0, em)).1 = 2 ∧ pv l i = 3) := fun g => g ⟨h4, hp.trans h5⟩
            rw [bifT h5, decide_eq_false hx, Bool.false_and, Bool.false_and]
          · have hx : ¬ ((l.getD i (0, em)).1 = 2 ∧ pv l i = 3) := fun g => h5 (hp.symm.trans g.2)
            rw [bifF h5, decide_eq_true hx, Bool.true_and]; exact fin
        · have hx : ¬ ((l.getD i (0, em)).1 = 2 ∧ pv l i = 3) := fun g => h4 g.1
          rw [bifF h4, decide_eq_true hx, Bool.true_and]; exact fin
      · have hp : pv l i = 0 := by unfold pv; rw [if_pos (by omega)]
        have hx : ¬ ((l.getD i (0, em)).1 = 2 ∧ pv l i = 3) := fun g => by rw [hp] at g; exact absurd g.2 (by decide)
        rw [bifF h3, decide_eq_true hx, Bool.true_and]; exact fin
  have := key 0 (by omega) false
  rw [List.drop_zero, Bool.false_or] at this
  rw [spec_l6Group.f_eq, hlg, groupB, hlg]
  exact this
theorem iGroup_l (g : YGroup) (hl : SmR g.2.2) (ha : 0 ≤ g.1 ∧ g.1 ≤ 999) (hb : 0 ≤ g.2.1 ∧ g.2.1 ≤ 999) (h80 : g.2.2.length ≤ 80) : impl_goodGroup.l10 g false g.2.2 (g.2.2.length : Int) 0 = some (groupB g) := by
  have hL := hl.1
  have n3 := side_len 3 g.2.2
  have n2 := side_len 2 g.2.2
  obtain ⟨l, hlg⟩ : ∃ l, g.2.2 = l := ⟨_, rfl⟩
  have hLl : l.length ≤ 1048576 := by rw [← hlg]; exact hL
  have key : ∀ i, i ≤ l.length → ∀ s : Bool, impl_goodGroup.l10 g s l (l.length : Int) (i : Int) = some (rowsB (pv l i) (l.drop i) && tl g (s || anyB (l.drop i))) := by
    apply downTo
    · intro s
      rw [impl_goodGroup.l10_eq, bifF (by omega), List.drop_eq_nil_of_le (by omega), iOld g hL, iNew g hL, sB, sB]
      show _ = some (true && tl g (s || false))
      rw [Bool.true_and, Bool.or_false]
      cases s with
      | false => rfl
      | true =>
        unfold tl
        rw [Bool.true_and, cond_true, iGood _ (side_sm 3 hl), sB]
        cases goodB (side 3 g.2.2) with
        | false => rw [Bool.false_and, Bool.and_false]; rfl
        | true =>
          rw [cond_true, Bool.true_and, iGood _ (side_sm 2 hl), sB]
          cases goodB (side 2 g.2.2) with
          | false => rw [Bool.and_false]; rfl
          | true =>
            rw [cond_true, Bool.and_true, w64_id (by omega) (by omega), w64_id (by omega) (by omega)]
            by_cases c1 : g.1 + ((side 3 g.2.2).length : Int) ≤ 1000
            · rw [bifT c1]; congr 1; rw [decide_eq_decide]
              exact ⟨fun h => ⟨ha, hb, c1, h, h80⟩, fun h => h.2.2.2.1⟩
            · rw [bifF c1, decide_eq_false (fun h => c1 h.2.2.1)]
    · intro i hi ih s
      have hsz := hl.2 _ (getD_mem (l := g.2.2) (by rw [hlg]; exact hi) (0, em))
      rw [hlg] at hsz
      rw [rows_step l hi, any_step s l hi, impl_goodGroup.l10_eq, bifT (by omega), bif2T (by omega) (by omega)]
      simp only [Int.toNat_natCast]
      have fin : impl_goodGroup.l19 g s (l.getD i (0, em)) l (l.length : Int) (i : Int) = some (rowsB (pv l (i + 1)) (l.drop (i + 1)) && tl g ((s || (!decide ((l.getD i (0, em)).1 = 1))) || anyB (l.drop (i + 1)))) := by
        rw [impl_goodGroup.l19_eq, up1 (by omega)]
        cases s with
        | false => rw [cond_false, ih, Bool.false_or]
        | true => rw [cond_true, ih]; simp only [Bool.true_or]
      rw [iIn, sB]
      by_cases h1 : 1 ≤ (l.getD i (0, em)).1 ∧ (l.getD i (0, em)).1 ≤ 3
      case neg => rw [bifNT h1, decide_eq_false h1, Bool.false_and, Bool.false_and]
      rw [bifNF h1, decide_eq_true h1, Bool.true_and, iLine _ hsz, sB]
      by_cases h2 : lineP (l.getD i (0, em)).2
      case neg => rw [bifNT h2, decide_eq_false h2, Bool.false_and, Bool.false_and]
      rw [bifNF h2, decide_eq_true h2, Bool.true_and]
      by_cases h3 : (i : Int) > 0
      · rw [bifT h3]
        by_cases h4 : (l.getD i (0, em)).1 = 2
        · rw [bifT h4, dn1 (by omega) (by omega), hlg, bif2T (by omega) (by omega)]
          simp only [Int.toNat_natCast]
          have hp : pv l i = (l.getD (i - 1) (0, em)).1 := by unfold pv; rw [if_neg (by omega)]
          by_cases h5 : (l.getD (i - 1) (0, em)).1 = 3
          · have hx : ¬ ¬ ((l.getD i (0, em)).1 = 2 ∧ pv l i = 3) := fun g => g ⟨h4, hp.trans h5⟩
            rw [bifT h5, decide_eq_false hx, Bool.false_and, Bool.false_and]
          · have hx : ¬ ((l.getD i (0, em)).1 = 2 ∧ pv l i = 3) := fun g => h5 (hp.symm.trans g.2)
            rw [bifF h5, decide_eq_true hx, Bool.true_and]; exact fin
        · have hx : ¬ ((l.getD i (0, em)).1 = 2 ∧ pv l i = 3) := fun g => h4 g.1
          rw [bifF h4, decide_eq_true hx, Bool.true_and]; exact fin
      · have hp : pv l i = 0 := by unfold pv; rw [if_pos (by omega)]
        have hx : ¬ ((l.getD i (0, em)).1 = 2 ∧ pv l i = 3) := fun g => by rw [hp] at g; exact absurd g.2 (by decide)
        rw [bifF h3, decide_eq_true hx, Bool.true_and]; exact fin
  have := key 0 (by omega) false
  rw [List.drop_zero, Bool.false_or] at this
  rw [groupB, hlg]
  exact this
theorem group_in {g : YGroup} (h : groupB g = true) : (0 ≤ g.1 ∧ g.1 ≤ 999) ∧ (0 ≤ g.2.1 ∧ g.2.1 ≤ 999) ∧ g.1 + ((side 3 g.2.2).length : Int) ≤ 1000 ∧ g.2.1 + ((side 2 g.2.2).length : Int) ≤ 1000 ∧ g.2.2.length ≤ 80 := by
  unfold groupB tl at h
  simp only [Bool.and_eq_true, decide_eq_true_eq] at h
  exact h.2.2.1
theorem group_any {g : YGroup} (h : groupB g = true) : anyB g.2.2 = true := by
  unfold groupB tl at h
  simp only [Bool.and_eq_true] at h
  exact h.2.1
theorem group_rows {g : YGroup} (h : groupB g = true) : rowsB 0 g.2.2 = true := by
  unfold groupB at h
  simp only [Bool.and_eq_true] at h
  exact h.1
theorem iGroup (g : YGroup) (hl : SmR g.2.2) : impl_goodGroup.f g = some (groupB g) := by
  have hL := hl.1
  have no : ∀ {P : Prop}, (groupB g = true → False) → some false = some (groupB g) := fun h => by
    cases hg : groupB g with
    | true => exact (h hg).elim
    | false => rfl
  rw [impl_goodGroup.f_eq, iIn, sB]
  by_cases ha : 0 ≤ g.1 ∧ g.1 ≤ 999
  case neg => rw [bifNT ha]; exact no (P := True) fun h => ha (group_in h).1
  rw [bifNF ha, iIn, sB]
  by_cases hb : 0 ≤ g.2.1 ∧ g.2.1 ≤ 999
  case neg => rw [bifNT hb]; exact no (P := True) fun h => hb (group_in h).2.1
  rw [bifNF hb, iIn, sB]
  by_cases hc : (1 : Int) ≤ (g.2.2.length : Int) ∧ (g.2.2.length : Int) ≤ 80
  case neg =>
    rw [bifNT hc]
    refine no (P := True) fun h => hc ⟨?_, by have := group_in h; omega⟩
    have ha := group_any h
    cases hg : g.2.2 with
    | nil => rw [hg] at ha; cases ha
    | cons r l => simp only [List.length_cons]; omega
  rw [bifNF hc, impl_goodGroup.l7_eq]
  exact iGroup_l g hl ha hb (by omega)
/-- groups of a size that is let through -/
def SmG (g : YGroupS) : Prop := g.length ≤ 1048576 ∧ ∀ x ∈ g, SmR x.2.2
def gA (x : YGroup) : Int := x.1 + ((side 3 x.2.2).length : Int)
def gB (x : YGroup) : Int := x.2.1 + ((side 2 x.2.2).length : Int)
def groupsB : Int → Int → YGroupS → Bool
  | _, _, [] => true
  | a, b, x :: r => groupB x && (decide (a ≤ x.1 ∧ b ≤ x.2.1) && groupsB (gA x) (gB x) r)
def gsB (g : YGroupS) : Bool := groupsB 0 0 g && decide (g.length ≤ 20)
def pA (g : YGroupS) (i : Nat) : Int := if i = 0 then 0 else gA (g.getD (i - 1) (0, 0, []))
def pB (g : YGroupS) (i : Nat) : Int := if i = 0 then 0 else gB (g.getD (i - 1) (0, 0, []))
theorem groups_step (g : YGroupS) {i : Nat} (hi : i < g.length) : groupsB (pA g i) (pB g i) (g.drop i) = (groupB (g.getD i (0, 0, [])) && (decide (pA g i ≤ (g.getD i (0, 0, [])).1 ∧ pB g i ≤ (g.getD i (0, 0, [])).2.1) && groupsB (pA g (i + 1)) (pB g (i + 1)) (g.drop (i + 1)))) := by
  have h1 : pA g (i + 1) = gA (g.getD i (0, 0, [])) := by unfold pA; rw [if_neg (by omega)]; rfl
  have h2 : pB g (i + 1) = gB (g.getD i (0, 0, [])) := by unfold pB; rw [if_neg (by omega)]; rfl
  rw [h1, h2, drop_at hi (0, 0, [])]; rfl
theorem sGroups (g : YGroupS) (hg : SmG g) : spec_l6Good.f g = some (gsB g) := by
  have hL := hg.1
  have key : ∀ i, i ≤ g.length → (0 < i → groupB (g.getD (i - 1) (0, 0, [])) = true) → spec_l6Good.l4 g g (g.length : Int) (i : Int) = some (groupsB (pA g i) (pB g i) (g.drop i) && decide (g.length ≤ 20)) := by
    apply downTo
    · intro _
      rw [spec_l6Good.l4_eq, bifF (by omega), List.drop_eq_nil_of_le (by omega)]
      show _ = some (true && _)
      rw [Bool.true_and]; congr 1; rw [decide_eq_decide]; omega
    · intro i hi ih hprev
      have hsm := hg.2 _ (getD_mem hi (0, 0, []))
      rw [groups_step g hi, spec_l6Good.l4_eq, bifT (by omega), bif2T (by omega) (by omega), up1 (by omega)]
      simp only [Int.toNat_natCast]
      rw [sGroup _ hsm, sB]
      cases hx : groupB (g.getD i (0, 0, [])) with
      | false => rw [notF, Bool.false_and, Bool.false_and]
      | true =>
        have nxt := ih (fun _ => by rw [Nat.add_sub_cancel]; exact hx)
        obtain ⟨q1, q2, q3, q4, q5⟩ := group_in hx
        rw [notT, Bool.true_and]
        by_cases c7 : (i : Int) > 0
        · have hpr := hprev (by omega)
          obtain ⟨r1, r2, r3, r4, r5⟩ := group_in hpr
          have hsp := hg.2 _ (getD_mem (l := g) (i := i - 1) (by omega) (0, 0, []))
          have e1 : pA g i = gA (g.getD (i - 1) (0, 0, [])) := by unfold pA; rw [if_neg (by omega)]
          have e2 : pB g i = gB (g.getD (i - 1) (0, 0, [])) := by unfold pB; rw [if_neg (by omega)]
          rw [bifT c7, dn1 (by omega) (by omega)]
          simp only [Int.toNat_natCast]
          unfold gA at e1
          unfold gB at e2
          have w1 : w64 ((g.getD (i - 1) (0, 0, [])).1 + ((side 3 (g.getD (i - 1) (0, 0, [])).2.2).length : Int)) = pA g i := by rw [w64_id (by omega) (by omega)]; exact e1.symm
          have w2 : w64 ((g.getD (i - 1) (0, 0, [])).2.1 + ((side 2 (g.getD (i - 1) (0, 0, [])).2.2).length : Int)) = pB g i := by rw [w64_id (by omega) (by omega)]; exact e2.symm
          rw [bif2T (by omega) (by omega), bif2T (by omega) (by omega), sOld _ hsp.1, sB]
          simp only [w1]
          by_cases c1 : (g.getD i (0, 0, [])).1 < pA g i
          · rw [bifT c1, decide_eq_false (show ¬ (pA g i ≤ (g.getD i (0, 0, [])).1 ∧ pB g i ≤ (g.getD i (0, 0, [])).2.1) by omega), Bool.false_and, Bool.false_and]
          rw [bifF c1, bif2T (by omega) (by omega), bif2T (by omega) (by omega), sNew _ hsp.1, sB]
          simp only [w2]
          by_cases c2 : (g.getD i (0, 0, [])).2.1 < pB g i
          · rw [bifT c2, decide_eq_false (show ¬ (pA g i ≤ (g.getD i (0, 0, [])).1 ∧ pB g i ≤ (g.getD i (0, 0, [])).2.1) by omega), Bool.false_and, Bool.false_and]
          rw [bifF c2, decide_eq_true (show pA g i ≤ (g.getD i (0, 0, [])).1 ∧ pB g i ≤ (g.getD i (0, 0, [])).2.1 by omega), Bool.true_and]
          exact nxt
        · have e1 : pA g i = 0 := by unfold pA; rw [if_pos (by omega)]
          have e2 : pB g i = 0 := by unfold pB; rw [if_pos (by omega)]
          rw [bifF c7, decide_eq_true (show pA g i ≤ (g.getD i (0, 0, [])).1 ∧ pB g i ≤ (g.getD i (0, 0, [])).2.1 by omega), Bool.true_and]
          exact nxt
  rw [spec_l6Good.f_eq]
  exact key 0 (by omega) (fun h => absurd h (Nat.lt_irrefl 0))
theorem iGroups (g : YGroupS) (hg : SmG g) : impl_goodGroups.f g = some (gsB g) := by
  have hL := hg.1
  have key : ∀ i, i ≤ g.length → (0 < i → groupB (g.getD (i - 1) (0, 0, [])) = true) → impl_goodGroups.l8 g g (g.length : Int) (i : Int) = some (groupsB (pA g i) (pB g i) (g.drop i)) := by
    apply downTo
    · intro _
      rw [impl_goodGroups.l8_eq, bifF (by omega), List.drop_eq_nil_of_le (by omega)]; rfl
    · intro i hi ih hprev
      have hsm := hg.2 _ (getD_mem hi (0, 0, []))
      rw [groups_step g hi, impl_goodGroups.l8_eq, bifT (by omega), bif2T (by omega) (by omega), up1 (by omega)]
      simp only [Int.toNat_natCast]
      rw [iGroup _ hsm, sB]
      cases hx : groupB (g.getD i (0, 0, [])) with
      | false => rw [notF, Bool.false_and]
      | true =>
        have nxt := ih (fun _ => by rw [Nat.add_sub_cancel]; exact hx)
        obtain ⟨q1, q2, q3, q4, q5⟩ := group_in hx
        rw [notT, Bool.true_and]
        by_cases c7 : (i : Int) > 0
        · have hpr := hprev (by omega)
          obtain ⟨r1, r2, r3, r4, r5⟩ := group_in hpr
          have hsp := hg.2 _ (getD_mem (l := g) (i := i - 1) (by omega) (0, 0, []))
          have e1 : pA g i = gA (g.getD (i - 1) (0, 0, [])) := by unfold pA; rw [if_neg (by omega)]
          have e2 : pB g i = gB (g.getD (i - 1) (0, 0, [])) := by unfold pB; rw [if_neg (by omega)]
          rw [bifT c7, dn1 (by omega) (by omega)]
          simp only [Int.toNat_natCast]
          unfold gA at e1
          unfold gB at e2
          have w1 : w64 ((g.getD (i - 1) (0, 0, [])).1 + ((side 3 (g.getD (i - 1) (0, 0, [])).2.2).length : Int)) = pA g i := by rw [w64_id (by omega) (by omega)]; exact e1.symm
          have w2 : w64 ((g.getD (i - 1) (0, 0, [])).2.1 + ((side 2 (g.getD (i - 1) (0, 0, [])).2.2).length : Int)) = pB g i := by rw [w64_id (by omega) (by omega)]; exact e2.symm
          rw [bif2T (by omega) (by omega), bif2T (by omega) (by omega), iOld _ hsp.1, sB]
          simp only [w1]
          by_cases c1 : (g.getD i (0, 0, [])).1 < pA g i
          · rw [bifT c1, decide_eq_false (show ¬ (pA g i ≤ (g.getD i (0, 0, [])).1 ∧ pB g i ≤ (g.getD i (0, 0, [])).2.1) by omega), Bool.false_and]
          rw [bifF c1, bif2T (by omega) (by omega), bif2T (by omega) (by omega), iNew _ hsp.1, sB]
          simp only [w2]
          by_cases c2 : (g.getD i (0, 0, [])).2.1 < pB g i
          · rw [bifT c2, decide_eq_false (show ¬ (pA g i ≤ (g.getD i (0, 0, [])).1 ∧ pB g i ≤ (g.getD i (0, 0, [])).2.1) by omega), Bool.false_and]
          rw [bifF c2, decide_eq_true (show pA g i ≤ (g.getD i (0, 0, [])).1 ∧ pB g i ≤ (g.getD i (0, 0, [])).2.1 by omega), Bool.true_and]
          exact nxt
        · have e1 : pA g i = 0 := by unfold pA; rw [if_pos (by omega)]
          have e2 : pB g i = 0 := by unfold pB; rw [if_pos (by omega)]
          rw [bifF c7, decide_eq_true (show pA g i ≤ (g.getD i (0, 0, [])).1 ∧ pB g i ≤ (g.getD i (0, 0, [])).2.1 by omega), Bool.true_and]
          exact nxt
  rw [impl_goodGroups.f_eq, gsB]
  by_cases h : (g.length : Int) > 20
  · rw [bifT h, decide_eq_false (show ¬ g.length ≤ 20 by omega), Bool.and_false]
  · rw [bifF h, decide_eq_true (show g.length ≤ 20 by omega), Bool.and_true]
    exact key 0 (by omega) (fun h => absurd h (Nat.lt_irrefl 0))
theorem groups_in : ∀ {g : YGroupS} {a b : Int}, groupsB a b g = true → ∀ x ∈ g, groupB x = true
  | y :: r, a, b, h, x, hx => by
    simp only [groupsB, Bool.and_eq_true] at h
    rcases List.mem_cons.1 hx with rfl | hx
    · exact h.1
    · exact groups_in h.2.2 x hx
theorem gs_len {g : YGroupS} (h : gsB g = true) : g.length ≤ 20 := by
  unfold gsB at h
  simp only [Bool.and_eq_true, decide_eq_true_eq] at h
  exact h.2
theorem gs_in {g : YGroupS} (h : gsB g = true) : ∀ x ∈ g, groupB x = true := by
  unfold gsB at h
  simp only [Bool.and_eq_true] at h
  exact groups_in h.1
theorem smR_of {a : YRowS} (h : mRowS a ≤ 1048576) : SmR a := by
  have h2 : a.length + tot mRow a ≤ 1048576 := h
  exact ⟨by omega, fun s hs => by have h3 : mRow s ≤ tot mRow a := tot_mem mRow hs; have h4 : s.2.size ≤ mRow s := Nat.le_refl _; omega⟩
theorem smG_of {a : YGroupS} (h : mGroupS a ≤ 1048576) : SmG a := by
  have h2 : a.length + tot mGroup a ≤ 1048576 := h
  exact ⟨by omega, fun s hs => smR_of (by have h3 : mGroup s ≤ tot mGroup a := tot_mem mGroup hs; have h4 : mRowS s.2.2 ≤ mGroup s := Nat.le_refl _; omega)⟩
def nmcI (x : Int) : Bool := !((decide (x < 97) || decide (x > 122)) && ((decide (x < 48) || decide (x > 57)) && ((!decide (x = 46)) && (!decide (x = 47)))))
def CS : ByteArray := ⟨#[97, 98, 99, 100, 101, 102, 103, 104, 105, 106, 107, 108, 109, 110, 111, 112, 113, 114, 115, 116, 117, 118, 119, 120, 121, 122, 48, 49, 50, 51, 52, 53, 54, 55, 56, 57, 46, 47]⟩
def nmc (b : UInt8) : Bool := nmcI (b.toNat : Int)
def nameB (s : ByteArray) : Bool := (bl s).all nmc && decide (1 ≤ (s.size : Int) ∧ (s.size : Int) ≤ 12)
theorem cs_all : (List.range 256).all (fun n => CS.data.toList.contains (UInt8.ofNat n) == nmcI ((n : Nat) : Int)) = true := by decide +kernel
theorem cs_nmc (b : UInt8) : CS.data.toList.contains b = nmc b := by
  have h := List.all_eq_true.1 cs_all b.toNat (by rw [List.mem_range]; exact b.toNat_lt)
  rw [beq_iff_eq] at h
  rw [UInt8.ofNat_toNat] at h
  exact h
theorem dropWhile_nil (p : UInt8 → Bool) : ∀ l : List UInt8, (l.dropWhile p).isEmpty = l.all p
  | [] => rfl
  | b :: l => by
    rw [List.dropWhile, List.all_cons]
    cases h : p b with
    | true => exact dropWhile_nil p l
    | false => rfl
theorem all_rev (p : UInt8 → Bool) (l : List UInt8) : l.reverse.all p = l.all p := by
  rw [Bool.eq_iff_iff, List.all_eq_true, List.all_eq_true]
  exact ⟨fun h x hx => h x (List.mem_reverse.2 hx), fun h x hx => h x (List.mem_reverse.1 hx)⟩
theorem dropWhile_head (p : UInt8 → Bool) : ∀ (l : List UInt8) (b : UInt8) (r : List UInt8), l.dropWhile p = b :: r → p b = false
  | c :: l, b, r, h => by
    rw [List.dropWhile] at h
    cases hc : p c with
    | true => rw [hc] at h; exact dropWhile_head p l b r h
    | false => rw [hc] at h; injection h with h1 _; rw [← h1]; exact hc
/-- what is left of a text without its ends is nothing just where all bytes are in the set -/
theorem trim_nil (l cs : List UInt8) : (Go.Lib.trimS l cs).isEmpty = l.all (cs.contains ·) := by
  unfold Go.Lib.trimS Go.Lib.trimLeftS
  rw [dropWhile_nil]
  unfold Go.Lib.trimRightS
  rw [all_rev, ← dropWhile_nil, ← all_rev]
  cases h : l.reverse.dropWhile (cs.contains ·) with
  | nil => rw [← dropWhile_nil, h]; rfl
  | cons b r =>
    have := dropWhile_head _ _ _ _ h
    have e : (b :: r).dropWhile (cs.contains ·) = b :: r := by rw [List.dropWhile, this]
    rw [e, ← dropWhile_nil, h]
theorem iName (s : ByteArray) (hs : s.size ≤ 1048576) : impl_isName.f s = some (nameB s) := by
  rw [impl_isName.f_eq, iIn, sB]
  unfold nameB
  by_cases h : 1 ≤ (s.size : Int) ∧ (s.size : Int) ≤ 12
  case neg => rw [bifF h, decide_eq_false h, Bool.and_false]
  have e : strings_Trim.f s CS = some ⟨(Go.Lib.trimS s.data.toList CS.data.toList).toArray⟩ := by
    show trim1 s CS = _
    unfold trim1
    rw [decide_eq_true (show s.size ≤ 1099511627776 by omega), show (decide (CS.size < 4294967281) && CS.data.toList.all (fun b => decide (b.toNat < 128))) = true by decide +kernel]; rfl
  rw [bifT h, decide_eq_true h, Bool.and_true]
  refine bindEq e ?_
  congr 1
  have hn := trim_nil s.data.toList CS.data.toList
  have e2 : (fun b => CS.data.toList.contains b) = nmc := funext cs_nmc
  rw [show (bl s).all nmc = s.data.toList.all (fun b => CS.data.toList.contains b) by rw [e2]; rfl, ← hn, toList_data, toList_data]
  cases Go.Lib.trimS s.data.toList CS.data.toList with
  | nil => rfl
  | cons b r => rfl
theorem sName (s : ByteArray) (hs : s.size ≤ 1048576) : spec_l15Name.f s = some (nameB s) := by
  have hbl := bl_len s
  have key : ∀ i, i ≤ s.size → spec_l15Name.l4 s (i : Int) = some (((bl s).drop i).all nmc && decide (1 ≤ (s.size : Int) ∧ (s.size : Int) ≤ 12)) := by
    apply downTo
    · rw [spec_l15Name.l4_eq, bifF (by omega), sIn, sB, List.drop_eq_nil_of_le (by omega)]; rfl
    · intro i hi ih
      rw [spec_l15Name.l4_eq, bifT (by omega), bif2T (by omega) (by omega), drop_at (by omega) 0, List.all_cons]
      have h7 : spec_l15Name.l7 s (i : Int) = some (((bl s).drop (i + 1)).all nmc && decide (1 ≤ (s.size : Int) ∧ (s.size : Int) ≤ 12)) := by
        rw [spec_l15Name.l7_eq, up1 (by omega), ih]
      rw [h7, bt_bl]
      unfold nmc nmcI
      generalize ((((bl s).getD i 0).toNat : Nat) : Int) = x
      cases decide (x < 97) <;> cases decide (x > 122) <;> cases decide (x < 48) <;> cases decide (x > 57) <;> cases decide (x = 46) <;> cases decide (x = 47) <;> simp
  rw [spec_l15Name.f_eq]
  exact key 0 (by omega)
theorem less_tri : ∀ a b : List UInt8, (!Op.bytesLess a b) = (Op.bytesLess b a || b == a)
  | [], [] => rfl
  | [], b :: y => by simp [Op.bytesLess]
  | a :: x, [] => by simp [Op.bytesLess]
  | a :: x, b :: y => by
    have ih := less_tri x y
    simp only [Op.bytesLess]
    by_cases h1 : a < b
    · have h2 : ¬ b < a := by rw [UInt8.lt_iff_toNat_lt] at h1 ⊢; omega
      have h3 : ¬ b = a := by intro e; rw [e, UInt8.lt_iff_toNat_lt] at h1; omega
      have h4 : ¬ a = b := fun e => h3 e.symm
      simp [h1, h2, h3, h4]
    · by_cases h2 : b < a
      · have h4 : ¬ a = b := by intro e; rw [e, UInt8.lt_iff_toNat_lt] at h2; omega
        simp [h1, h2, h4]
      · have h3 : a = b := by
          rw [UInt8.lt_iff_toNat_lt] at h1 h2
          exact UInt8.toNat_inj.1 (by omega)
        subst h3
        simp only [h1, decide_false, Bool.false_or, beq_self_eq_true, Bool.true_and, ih]
        simp
def ordB (a b : ByteArray) : Bool := Op.bytesLess a.toList b.toList
theorem leq_ord (a b : ByteArray) : (Op.bytesLess b.toList a.toList || b.toList == a.toList) = !ordB a b := (less_tri a.toList b.toList).symm
def prevOk (p : Option ByteArray) (s : ByteArray) : Bool := match p with
  | none => true
  | some q => ordB q s
def allB (k : Int) (g : YGroupS) : Bool := (g.all fun x => (x.2.2.all fun r => decide (r.1 = k)) && (decide (x.1 = 0) && decide (x.2.1 = 0))) && decide ((g.length : Int) ≤ 1)
def kindB (x : YFileDiff) : Bool := if x.2.1 = 1 then allB 3 x.2.2 else if x.2.1 = 2 then allB 2 x.2.2 else if x.2.1 = 3 then decide ((x.2.2.length : Int) > 0) else false
def diffOk (x : YFileDiff) : Bool := nameB x.1 && (gsB x.2.2 && kindB x)
def dsB : Option ByteArray → YFileDiffS → Bool
  | _, [] => true
  | p, x :: r => diffOk x && (prevOk p x.1 && dsB (some x.1) r)
def goodD (d : YFileDiffS) : Bool := dsB none d && decide ((d.length : Int) ≤ 16)
def SmD (d : YFileDiffS) : Prop := d.length ≤ 1048576 ∧ ∀ x ∈ d, x.1.size ≤ 1048576 ∧ SmG x.2.2
def pvD (d : YFileDiffS) (i : Nat) : Option ByteArray := if i = 0 then none else some (d.getD (i - 1) (em, 0, [])).1
theorem ds_step (d : YFileDiffS) {i : Nat} (hi : i < d.length) : dsB (pvD d i) (d.drop i) = (diffOk (d.getD i (em, 0, [])) && (prevOk (pvD d i) (d.getD i (em, 0, [])).1 && dsB (pvD d (i + 1)) (d.drop (i + 1)))) := by
  have : pvD d (i + 1) = some (d.getD i (em, 0, [])).1 := by unfold pvD; rw [if_neg (by omega)]; rfl
  rw [this, drop_at hi (em, 0, [])]; rfl
theorem sAll (k : Int) (g : YGroupS) (hg : SmG g) : spec_l15All.f g k = some (allB k g) := by
  have hL := hg.1
  have key : ∀ i, i ≤ g.length → spec_l15All.l4 g k g (g.length : Int) (i : Int) = some (((g.drop i).all fun x => (x.2.2.all fun r => decide (r.1 = k)) && (decide (x.1 = 0) && decide (x.2.1 = 0))) && decide ((g.length : Int) ≤ 1)) := by
    apply downTo
    · rw [spec_l15All.l4_eq, bifF (by omega), List.drop_eq_nil_of_le (by omega)]; rfl
    · intro i hi ih
      rw [spec_l15All.l4_eq, bifT (by omega), bif2T (by omega) (by omega), drop_at hi (0, 0, []), List.all_cons]
      simp only [Int.toNat_natCast]
      have hx := (hg.2 _ (getD_mem hi (0, 0, []))).1
      generalize g.getD i (0, 0, []) = x at hx
      have inner : ∀ j, j ≤ x.2.2.length → spec_l15All.l10 g k x g (g.length : Int) (i : Int) x.2.2 (x.2.2.length : Int) (j : Int) = some ((((x.2.2.drop j).all fun r => decide (r.1 = k)) && (decide (x.1 = 0) && decide (x.2.1 = 0)) && ((g.drop (i + 1)).all fun x => (x.2.2.all fun r => decide (r.1 = k)) && (decide (x.1 = 0) && decide (x.2.1 = 0)))) && decide ((g.length : Int) ≤ 1)) := by
        apply downTo
        · rw [spec_l15All.l10_eq, bifF (by omega), List.drop_eq_nil_of_le (by omega), up1 (by omega), ih]
          cases decide (x.1 = 0) <;> cases decide (x.2.1 = 0) <;> simp
        · intro j hj ihj
          rw [spec_l15All.l10_eq, bifT (by omega), bif2T (by omega) (by omega), up1 (by omega), ihj, drop_at hj (0, em), List.all_cons]
          simp only [Int.toNat_natCast]
          cases decide ((x.2.2.getD j (0, em)).1 = k) <;> simp
      have := inner 0 (by omega)
      rw [List.drop_zero] at this
      exact this
  rw [spec_l15All.f_eq]
  have := key 0 (by omega)
  rw [List.drop_zero] at this
  exact this
theorem iAll (k : Int) (g : YGroupS) (hg : SmG g) : impl_isAll.f g k = some (allB k g) := by
  rw [impl_isAll.f_eq]
  unfold allB
  match g, hg with
  | [], _ => rfl
  | [x], hg =>
    have hx := (hg.2 x (by simp)).1
    have idx : ∀ i, i ≤ x.2.2.length → ∃ r : Int, slices_IndexFunc_Limpl_Row_impl_Row__impl_isAll_1.l4 x.2.2 k (x.2.2.length : Int) (i : Int) = some (r, k) ∧ (decide (r ≥ 0) = !((x.2.2.drop i).all fun r => decide (r.1 = k))) := by
      apply downTo
      · exact ⟨-1, by rw [slices_IndexFunc_Limpl_Row_impl_Row__impl_isAll_1.l4_eq, bifF (by omega)], by rw [List.drop_eq_nil_of_le (by omega)]; rfl⟩
      · intro i hi ⟨r, hr, hp⟩
        rw [slices_IndexFunc_Limpl_Row_impl_Row__impl_isAll_1.l4_eq, bifT (by omega), bif2T (by omega) (by omega), up1 (by omega), impl_isAll_1.f_eq, sB, drop_at hi (0, em), List.all_cons]
        simp only [Int.toNat_natCast]
        by_cases e : (x.2.2.getD i (0, em)).1 = k
        · rw [decide_eq_true e]
          exact ⟨r, hr, by rw [hp, Bool.true_and]⟩
        · rw [decide_eq_false e]
          exact ⟨(i : Int), rfl, by rw [Bool.false_and]; exact decide_eq_true (by omega)⟩
    obtain ⟨r, hr, hp⟩ := idx 0 (by omega)
    rw [List.drop_zero] at hp
    have hc : slices_ContainsFunc_Limpl_Row_impl_Row__impl_isAll_1.f x.2.2 k = some (!(x.2.2.all fun r => decide (r.1 = k)), k) := by
      rw [slices_ContainsFunc_Limpl_Row_impl_Row__impl_isAll_1.f_eq, slices_IndexFunc_Limpl_Row_impl_Row__impl_isAll_1.f_eq]
      refine bindEq hr ?_
      rw [← hp]
    have e : (([x].all fun x : YGroup => (x.2.2.all fun r => decide (r.1 = k)) && (decide (x.1 = 0) && decide (x.2.1 = 0))) && decide ((([x] : YGroupS).length : Int) ≤ 1)) = ((x.2.2.all fun r => decide (r.1 = k)) && (decide (x.1 = 0) && decide (x.2.1 = 0))) := by
      rw [List.all_cons, List.all_nil, Bool.and_true, decide_eq_true (show (([x] : YGroupS).length : Int) ≤ 1 by simp), Bool.and_true]
    rw [e, bifF (by simp), bifT (by simp), bifT (by simp)]
    simp only [List.getD_cons_zero]
    by_cases h1 : x.1 = 0
    · rw [bifT h1, bifT (by simp), decide_eq_true h1]
      by_cases h2 : x.2.1 = 0
      · rw [bifT h2, bifT (by simp), hc, sB, decide_eq_true h2, Bool.and_true, Bool.and_true, Bool.not_not]
      · rw [bifF h2, decide_eq_false h2, Bool.and_false, Bool.and_false]
    · rw [bifF h1, decide_eq_false h1, Bool.false_and, Bool.and_false]
  | x :: y :: r, hg =>
    rw [bifF (by simp only [List.length_cons]; omega), bifF (by simp only [List.length_cons]; omega), decide_eq_false (show ¬ (((x :: y :: r).length : Nat) : Int) ≤ 1 by simp only [List.length_cons]; omega), Bool.and_false]
theorem sDiff (x : YFileDiff) (hn : x.1.size ≤ 1048576) (hg : SmG x.2.2) : spec_l15Diff.f x = some (diffOk x) := by
  rw [spec_l15Diff.f_eq, sName _ hn, sB, sGroups _ hg, sB, spec_l15Diff.l7_eq, sAll 3 _ hg, sAll 2 _ hg, sB, sB]
  unfold diffOk kindB
  cases nameB x.1 with
  | false => rfl
  | true =>
    rw [notT, Bool.true_and]
    cases gsB x.2.2 with
    | false => rfl
    | true =>
      rw [notT, Bool.true_and]
      by_cases k1 : x.2.1 = 1
      · rw [bifT k1, if_pos k1]
      rw [bifF k1, if_neg k1]
      by_cases k2 : x.2.1 = 2
      · rw [bifT k2, if_pos k2]
      rw [bifF k2, if_neg k2]
      by_cases k3 : x.2.1 = 3
      · rw [bifT k3, if_pos k3]
      · rw [bifF k3, if_neg k3]
theorem sDs (d : YFileDiffS) (hd : SmD d) : spec_l15Diffs.f d = some (goodD d) := by
  have hL := hd.1
  have key : ∀ i, i ≤ d.length → spec_l15Diffs.l4 d d (d.length : Int) (i : Int) = some (dsB (pvD d i) (d.drop i) && decide ((d.length : Int) ≤ 16)) := by
    apply downTo
    · rw [spec_l15Diffs.l4_eq, bifF (by omega), List.drop_eq_nil_of_le (by omega)]; rfl
    · intro i hi ih
      obtain ⟨h1, h2⟩ := hd.2 _ (getD_mem hi (em, 0, []))
      rw [spec_l15Diffs.l4_eq, bifT (by omega), bif2T (by omega) (by omega), up1 (by omega), ih, ds_step d hi]
      simp only [Int.toNat_natCast]
      rw [sDiff _ h1 h2, sB]
      cases diffOk (d.getD i (em, 0, [])) with
      | false => rfl
      | true =>
        rw [notT, Bool.true_and]
        by_cases h0 : (i : Int) > 0
        · have hp : pvD d i = some (d.getD (i - 1) (em, 0, [])).1 := by unfold pvD; rw [if_neg (by omega)]
          have hw : w64 ((i : Int) - 1) = ((i - 1 : Nat) : Int) := by rw [w64_id (by omega) (by omega)]; omega
          rw [bifT h0, hw, bif2T (by omega) (by omega), hp]
          simp only [Int.toNat_natCast, prevOk]
          show (bif !(ordB (d.getD (i - 1) (em, 0, [])).1 (d.getD i (em, 0, [])).1) then some false else _) = _
          cases ordB (d.getD (i - 1) (em, 0, [])).1 (d.getD i (em, 0, [])).1 <;> simp
        · have hp : pvD d i = none := by unfold pvD; rw [if_pos (by omega)]
          rw [bifF h0, hp]; rfl
  rw [spec_l15Diffs.f_eq]
  exact key 0 (by omega)
theorem iDs (d : YFileDiffS) (hd : SmD d) : impl_goodDiffs.f d = some (goodD d) := by
  have hL := hd.1
  have key : ∀ i, i ≤ d.length → impl_goodDiffs.l4 d d (d.length : Int) (i : Int) = some (dsB (pvD d i) (d.drop i) && decide ((d.length : Int) ≤ 16)) := by
    apply downTo
    · rw [impl_goodDiffs.l4_eq, bifF (by omega), List.drop_eq_nil_of_le (by omega)]; rfl
    · intro i hi ih
      obtain ⟨h1, h2⟩ := hd.2 _ (getD_mem hi (em, 0, []))
      rw [impl_goodDiffs.l4_eq, bifT (by omega), bif2T (by omega) (by omega), ds_step d hi]
      simp only [Int.toNat_natCast]
      rw [iName _ h1, sB, iGroups _ h2, sB]
      have h13 : impl_goodDiffs.l13 d (d.getD i (em, 0, [])) d (d.length : Int) (i : Int) = some ((kindB (d.getD i (em, 0, [])) && dsB (pvD d (i + 1)) (d.drop (i + 1))) && decide ((d.length : Int) ≤ 16)) := by
        have h29 : ∀ b : Bool, impl_goodDiffs.l29 d b d (d.length : Int) (i : Int) = some ((b && dsB (pvD d (i + 1)) (d.drop (i + 1))) && decide ((d.length : Int) ≤ 16)) := by
          intro b
          rw [impl_goodDiffs.l29_eq, up1 (by omega), ih]
          cases b <;> rfl
        rw [impl_goodDiffs.l13_eq, iAll 3 _ h2, iAll 2 _ h2, sB, sB, h29, h29, h29, h29]
        unfold kindB
        by_cases k1 : (d.getD i (em, 0, [])).2.1 = 1
        · rw [bifT k1, if_pos k1]
        rw [bifF k1, if_neg k1]
        by_cases k2 : (d.getD i (em, 0, [])).2.1 = 2
        · rw [bifT k2, if_pos k2]
        rw [bifF k2, if_neg k2]
        by_cases k3 : (d.getD i (em, 0, [])).2.1 = 3
        · rw [bifT k3, if_pos k3]
        · rw [bifF k3, if_neg k3]
      unfold diffOk
      cases nameB (d.getD i (em, 0, [])).1 with
      | false => rfl
      | true =>
        cases gsB (d.getD i (em, 0, [])).2.2 with
        | false => rfl
        | true =>
          rw [notT, notT, Bool.true_and, Bool.true_and]
          by_cases h0 : (i : Int) > 0
          · have hp : pvD d i = some (d.getD (i - 1) (em, 0, [])).1 := by unfold pvD; rw [if_neg (by omega)]
            have hw : w64 ((i : Int) - 1) = ((i - 1 : Nat) : Int) := by rw [w64_id (by omega) (by omega)]; omega
            rw [bifT h0, hw, bif2T (by omega) (by omega), hp, h13]
            simp only [Int.toNat_natCast, prevOk]
            rw [leq_ord]
            cases ordB (d.getD (i - 1) (em, 0, [])).1 (d.getD i (em, 0, [])).1 <;> simp
          · have hp : pvD d i = none := by unfold pvD; rw [if_pos (by omega)]
            rw [bifF h0, hp, h13]; rfl
  rw [impl_goodDiffs.f_eq]
  exact key 0 (by omega)
theorem smD_of {d : YFileDiffS} (h : mFileDiffS d ≤ 1048576) : SmD d := by
  have h2 : d.length + tot mFileDiff d ≤ 1048576 := h
  refine ⟨by omega, fun x hx => ?_⟩
  have h3 : mFileDiff x ≤ tot mFileDiff d := tot_mem mFileDiff hx
  have h4 : mFileDiff x = x.1.size + mGroupS x.2.2 := rfl
  exact ⟨by omega, smG_of (by omega)⟩
theorem ds_mem : ∀ {d : YFileDiffS} {p : Option ByteArray}, dsB p d = true → ∀ x ∈ d, diffOk x = true
  | x :: d, p, h, y, hy => by
    rw [dsB, Bool.and_eq_true, Bool.and_eq_true] at h
    rcases List.mem_cons.1 hy with rfl | hy
    · exact h.1
    · exact ds_mem h.2.2 y hy
theorem goodD_in {d : YFileDiffS} (h : goodD d = true) : d.length ≤ 16 ∧ ∀ x ∈ d, gsB x.2.2 = true := by
  unfold goodD at h
  rw [Bool.and_eq_true, decide_eq_true_eq] at h
  refine ⟨by omega, fun x hx => ?_⟩
  have := ds_mem h.1 x hx
  unfold diffOk at this
  rw [Bool.and_eq_true, Bool.and_eq_true] at this
  exact this.2.1
def num (n : Nat) : ByteArray := ⟨(Go.Lib.decDigits n).toArray⟩
def dig (n : Nat) : ByteArray := ⟨#[UInt8.ofNat (48 + n)]⟩
theorem dig_eq {n : Nat} (h : n < 10) : strOf [IntKind.wrap .u8 (w64 (48 + (n : Int)))] = dig n := by
  have h1 : w64 (48 + (n : Int)) = ((48 + n : Nat) : Int) := by rw [w64_id (by omega) (by omega)]; omega
  have h2 : IntKind.wrap .u8 ((48 + n : Nat) : Int) = ((48 + n : Nat) : Int) := by
    show (((48 + n : Nat) : Int)) % 256 = _
    omega
  rw [h1, h2]
  rfl
theorem num_small {n : Nat} (h : n < 10) : num n = dig n := by
  unfold num
  rw [Go.Lib.decDigits, dif_pos h]; rfl
theorem num_step {n : Nat} (h : ¬ n < 10) : num n = num (n / 10) ++ dig (n % 10) := by
  apply ByteArray.ext
  rw [ByteArray.data_append]
  unfold num dig
  rw [Go.Lib.decDigits, dif_neg h]
  simp
theorem num_size : ∀ (k n : Nat), n < 10 ^ (k + 1) → (num n).size ≤ k + 1
  | 0, n, h => by rw [num_small (by omega)]; exact Nat.le_refl _
  | k + 1, n, h => by
    by_cases h1 : n < 10
    · rw [num_small h1]; show 1 ≤ _; omega
    · rw [num_step h1, ByteArray.size_append]
      have := num_size k (n / 10) (by rw [Nat.pow_succ] at h; omega)
      have h2 : (dig (n % 10)).size = 1 := rfl
      omega
theorem numLv {f g : Int → Option ByteArray} {N : Nat} (hf : ∀ n : Int, f n = (bif (decide (n < 10)) then (some (strOf [(IntKind.wrap .u8 (w64 (48 + n)))])) else
    ((g (w64 (n.tdiv 10))).bind fun y1 =>
    bif (decide ((y1.size + (strOf [(IntKind.wrap .u8 (w64 (48 + (n.tmod 10))))]).size) ≤ 9223372036854775807)) then (some (y1 ++ (strOf [(IntKind.wrap .u8 (w64 (48 + (n.tmod 10))))]))) else none)))
    (hN : N ≤ 100000000) (hg : ∀ n : Nat, 1 ≤ n → n < N → g (n : Int) = some (num n)) : ∀ n : Nat, n < 10 * N → 10 ≤ 10 * N → f (n : Int) = some (num n) := by
  intro n hn _
  rw [hf]
  by_cases h : n < 10
  · rw [bifT (by omega), dig_eq h, num_small h]
  · have h1 : (n : Int).tdiv 10 = ((n / 10 : Nat) : Int) := rfl
    have h2 : (n : Int).tmod 10 = ((n % 10 : Nat) : Int) := rfl
    rw [bifF (by omega), h1, h2, w64_id (by omega) (by omega), hg _ (by omega) (by omega), sB, dig_eq (by omega)]
    have hs := num_size 8 (n / 10) (by omega)
    have hd : (dig (n % 10)).size = 1 := rfl
    rw [bifT (by omega), num_step h]
theorem sNum (n : Nat) (h : n < 100000000) : spec_l1Num.f (n : Int) = some (num n) := by
  have k0 := numLv (N := 1) spec_l1Num_0.f_eq (by decide) (fun n h1 h2 => absurd h2 (by omega))
  have k1 := numLv (N := 10) spec_l1Num_1.f_eq (by decide) (fun n _ h2 => k0 n (by omega) (by omega))
  have k2 := numLv (N := 100) spec_l1Num_2.f_eq (by decide) (fun n _ h2 => k1 n (by omega) (by omega))
  have k3 := numLv (N := 1000) spec_l1Num_3.f_eq (by decide) (fun n _ h2 => k2 n (by omega) (by omega))
  have k4 := numLv (N := 10000) spec_l1Num_4.f_eq (by decide) (fun n _ h2 => k3 n (by omega) (by omega))
  have k5 := numLv (N := 100000) spec_l1Num_5.f_eq (by decide) (fun n _ h2 => k4 n (by omega) (by omega))
  have k6 := numLv (N := 1000000) spec_l1Num_6.f_eq (by decide) (fun n _ h2 => k5 n (by omega) (by omega))
  exact numLv (N := 10000000) spec_l1Num.f_eq (by decide) (fun n _ h2 => k6 n (by omega) (by omega)) n (by omega) (by omega)
theorem iItoa (n : Nat) (h : n < 100000000) : strconv_Itoa.f (n : Int) = some (num n) := by
  show itoa1 (n : Int) = _
  unfold itoa1
  have h1 : itoaOk (n : Int) = true := by
    unfold itoaOk
    rw [decide_eq_true (by omega), decide_eq_true (by omega)]; rfl
  rw [h1, cond_true]
  unfold Go.Lib.itoa num
  rw [if_neg (by omega), Int.toNat_natCast]
theorem rowsB_kind : ∀ {l : YRowS} {p : Int}, rowsB p l = true → ∀ r ∈ l, 1 ≤ r.1 ∧ r.1 ≤ 3
  | [], _, _, r, hr => by cases hr
  | x :: l, p, h, r, hr => by
    rw [rowsB, Bool.and_eq_true, Bool.and_eq_true, Bool.and_eq_true] at h
    rcases List.mem_cons.1 hr with rfl | hr
    · exact of_decide_eq_true h.1
    · exact rowsB_kind h.2.2.2 r hr
theorem baA (a b c : ByteArray) : a ++ b ++ c = a ++ (b ++ c) := by
  apply ByteArray.ext
  simp only [ByteArray.data_append, Array.append_assoc]
theorem baE (a : ByteArray) : em ++ a = a := by
  apply ByteArray.ext
  rw [ByteArray.data_append]
  exact Array.empty_append
theorem baN (a : ByteArray) : a ++ em = a := by
  apply ByteArray.ext
  rw [ByteArray.data_append]
  exact Array.append_empty
theorem rowsB_line : ∀ {l : YRowS} {p : Int}, rowsB p l = true → ∀ r ∈ l, lineP r.2
  | [], _, _, r, hr => by cases hr
  | x :: l, p, h, r, hr => by
    rw [rowsB, Bool.and_eq_true, Bool.and_eq_true, Bool.and_eq_true] at h
    rcases List.mem_cons.1 hr with rfl | hr
    · exact of_decide_eq_true h.2.1
    · exact rowsB_line h.2.2.2 r hr
def numO (a : Int) (m : Nat) : Nat := if m = 0 then a.toNat else a.toNat + 1
def cntT (a : Int) (m : Nat) : ByteArray := if m = 1 then num (numO a m) else num (numO a m) ++ (⟨#[44]⟩ ++ num m)
theorem cntT_size {a : Int} {m : Nat} (h1 : a ≤ 10000) (h2 : m ≤ 10000) : (cntT a m).size ≤ 17 := by
  have hs1 := num_size 7 (numO a m) (by unfold numO; split <;> omega)
  have hs2 := num_size 7 m (by omega)
  have e : (⟨#[44]⟩ : ByteArray).size = 1 := rfl
  unfold cntT
  split
  · omega
  · simp only [ByteArray.size_append, e]; omega
theorem sCount {a : Int} {m : Nat} (h0 : 0 ≤ a) (h1 : a ≤ 10000) (h2 : m ≤ 10000) : spec_l4Count.f a (m : Int) = some (cntT a m) := by
  have hn : spec_l4Number.f a (m : Int) = some ((numO a m : Nat) : Int) := by
    rw [spec_l4Number.f_eq]
    unfold numO
    by_cases h : m = 0
    · rw [bifF (by omega), if_pos h, Int.toNat_of_nonneg h0]
    · rw [bifT (by omega), if_neg h, w64_id (by omega) (by omega)]
      congr 1
      omega
  have hs1 := num_size 7 (numO a m) (by unfold numO; split <;> omega)
  have hs2 := num_size 7 m (by omega)
  have e : (⟨#[44]⟩ : ByteArray).size = 1 := rfl
  rw [spec_l4Count.f_eq, hn, sB, sNum _ (by unfold numO; split <;> omega), sB]
  unfold cntT
  by_cases h : m = 1
  · rw [bifNF (by omega), if_pos h]
  · rw [bifNT (by omega), if_neg h, sNum _ (by omega), sB, bifT (by omega), bifT (by simp only [ByteArray.size_append, e]; omega)]
theorem iCount {a : Int} {m : Nat} (h0 : 0 ≤ a) (h1 : a ≤ 10000) (h2 : m ≤ 10000) : impl_countOf.f a (m : Int) = some (cntT a m) := by
  have hn : impl_numberOf.f a (m : Int) = some ((numO a m : Nat) : Int) := by
    rw [impl_numberOf.f_eq]
    unfold numO
    by_cases h : m = 0
    · rw [bifF (by omega), if_pos h, Int.toNat_of_nonneg h0]
    · rw [bifT (by omega), if_neg h, w64_id (by omega) (by omega)]
      congr 1
      omega
  have hs1 := num_size 7 (numO a m) (by unfold numO; split <;> omega)
  have hs2 := num_size 7 m (by omega)
  have e : (⟨#[44]⟩ : ByteArray).size = 1 := rfl
  rw [impl_countOf.f_eq, hn, sB, iItoa _ (by unfold numO; split <;> omega), sB]
  unfold cntT
  by_cases h : m = 1
  · rw [bifNF (by omega), if_pos h]
  · rw [bifNT (by omega), if_neg h, iItoa _ (by omega), sB, bifT (by omega), bifT (by simp only [ByteArray.size_append, e]; omega)]
def signT (k : Int) : ByteArray := (⟨#[63, 32, 45, 43]⟩ : ByteArray).extract k.toNat (k + 1).toNat
def shownT (g s : ByteArray) : ByteArray := if endP s then g ++ s else g ++ s ++ ⟨#[10, 92, 32, 110, 111, 110, 101, 10]⟩
theorem signT_size {k : Int} (h : 1 ≤ k ∧ k ≤ 3) : (signT k).size = 1 := by
  have : k = 1 ∨ k = 2 ∨ k = 3 := by omega
  rcases this with rfl | rfl | rfl <;> rfl
theorem shownT_size {g s : ByteArray} (hg : g.size = 1) (hs : s.size ≤ 30) : (shownT g s).size ≤ 40 := by
  have e : (⟨#[10, 92, 32, 110, 111, 110, 101, 10]⟩ : ByteArray).size = 8 := rfl
  unfold shownT
  split <;> simp only [ByteArray.size_append, e] <;> omega
theorem sSign {k : Int} (h : 1 ≤ k ∧ k ≤ 3) : spec_l7Sign.f k = some (signT k) := by
  have hw : w64 (k + 1) = k + 1 := w64_id (by omega) (by omega)
  rw [spec_l7Sign.f_eq, hw, bif3T (by omega) (by omega) (by omega)]; rfl
theorem iSign {r : YRow} (h : 1 ≤ r.1 ∧ r.1 ≤ 3) : impl_Row_sign.f r = some (signT r.1) := by
  have hw : w64 (r.1 + 1) = r.1 + 1 := w64_id (by omega) (by omega)
  rw [impl_Row_sign.f_eq, hw, bif3T (by omega) (by omega) (by omega)]; rfl
theorem sShown {g s : ByteArray} (hg : g.size = 1) (hs : lineP s) : spec_l5Shown.f g s = some (shownT g s) := by
  obtain ⟨h1, h2, _⟩ := hs
  have e : (⟨#[10, 92, 32, 110, 111, 110, 101, 10]⟩ : ByteArray).size = 8 := rfl
  rw [spec_l5Shown.f_eq, sEnds s h1 (by omega), sB]
  unfold shownT
  by_cases h : endP s
  · rw [bifT h, if_pos h, bifT (by omega)]
  · rw [bifF h, if_neg h, bifT (by omega), bifT (by simp only [ByteArray.size_append, e]; omega)]
theorem iShown {g s : ByteArray} (hg : g.size = 1) (hs : lineP s) : impl_shown.f g s = some (shownT g s) := by
  obtain ⟨h1, h2, _⟩ := hs
  have e1 : (⟨#[10]⟩ : ByteArray).size = 1 := rfl
  have e2 : (⟨#[92, 32, 110, 111, 110, 101, 10]⟩ : ByteArray).size = 7 := rfl
  rw [impl_shown.f_eq, iEnds s (by omega), sB]
  unfold shownT
  by_cases h : endP s
  · rw [bifT h, if_pos h, bifT (by omega)]
  · rw [bifF h, if_neg h, bifT (by omega), bifT (by simp only [ByteArray.size_append, e1]; omega), bifT (by simp only [ByteArray.size_append, e1, e2]; omega), baA (g ++ s)]
    rfl
def rowsT : YRowS → ByteArray
  | [] => em
  | r :: l => shownT (signT r.1) r.2 ++ rowsT l
def okL (l : YRowS) : Prop := ∀ r ∈ l, (1 ≤ r.1 ∧ r.1 ≤ 3) ∧ lineP r.2
theorem rowsT_size : ∀ {l : YRowS}, okL l → (rowsT l).size ≤ 40 * l.length
  | [], _ => Nat.zero_le _
  | r :: l, h => by
    have h1 := rowsT_size (l := l) fun x hx => h x (by simp [hx])
    have h2 := h r (by simp)
    have := shownT_size (signT_size h2.1) h2.2.2.1
    rw [rowsT, List.length_cons, ByteArray.size_append]; omega
theorem iRowsT (l : YRowS) (h : okL l) (hl : l.length ≤ 1048576) : impl_rowsText.f l = some (rowsT l) := by
  have key : ∀ i, i ≤ l.length → ∀ o : ByteArray, o.size ≤ 40 * i → impl_rowsText.l6 o l (l.length : Int) (i : Int) = some (o ++ rowsT (l.drop i)) := by
    apply downTo
    · intro o _
      rw [impl_rowsText.l6_eq, bifF (by omega), List.drop_eq_nil_of_le (by omega), rowsT, baN]
    · intro i hi ih o ho
      have hm := h _ (getD_mem hi (0, em))
      have hz := shownT_size (signT_size hm.1) hm.2.2.1
      rw [impl_rowsText.l6_eq, bifT (by omega), bif2T (by omega) (by omega), up1 (by omega), drop_at hi (0, em), rowsT]
      simp only [Int.toNat_natCast]
      rw [iSign hm.1, sB, iShown (signT_size hm.1) hm.2, sB, bifT (by omega), ih _ (by rw [ByteArray.size_append]; omega), baA]
  rw [impl_rowsText.f_eq]
  have := key 0 (by omega) em (by decide)
  rw [baE, List.drop_zero] at this
  exact this
def ghT (x : YGroup) : ByteArray := (((⟨#[64, 64, 32, 45]⟩ ++ cntT x.1 (side 3 x.2.2).length) ++ ⟨#[32, 43]⟩) ++ cntT x.2.1 (side 2 x.2.2).length) ++ ⟨#[32, 64, 64, 10]⟩
def grpsT : YGroupS → ByteArray
  | [] => em
  | x :: g => (ghT x ++ rowsT x.2.2) ++ grpsT g
def okX (x : YGroup) : Prop := okL x.2.2 ∧ x.2.2.length ≤ 80 ∧ (0 ≤ x.1 ∧ x.1 ≤ 999) ∧ (0 ≤ x.2.1 ∧ x.2.1 ≤ 999)
theorem okX_of {x : YGroup} (h : groupB x = true) : okX x := by
  have h1 := group_in h
  have h2 := group_rows h
  exact ⟨fun r hr => ⟨rowsB_kind h2 r hr, rowsB_line h2 r hr⟩, h1.2.2.2.2, h1.1, h1.2.1⟩
theorem ghT_size {x : YGroup} (h : okX x) : (ghT x).size ≤ 44 := by
  have s3 := side_len 3 x.2.2
  have s2 := side_len 2 x.2.2
  obtain ⟨_, h80, h1, h2⟩ := h
  have c1 := cntT_size (a := x.1) (m := (side 3 x.2.2).length) (by omega) (by omega)
  have c2 := cntT_size (a := x.2.1) (m := (side 2 x.2.2).length) (by omega) (by omega)
  have e1 : (⟨#[64, 64, 32, 45]⟩ : ByteArray).size = 4 := rfl
  have e2 : (⟨#[32, 43]⟩ : ByteArray).size = 2 := rfl
  have e3 : (⟨#[32, 64, 64, 10]⟩ : ByteArray).size = 4 := rfl
  simp only [ghT, ByteArray.size_append, e1, e2, e3]; omega
theorem grpsT_size : ∀ {g : YGroupS}, (∀ x ∈ g, okX x) → (grpsT g).size ≤ 3300 * g.length
  | [], _ => Nat.zero_le _
  | x :: g, h => by
    have h1 := grpsT_size (g := g) fun y hy => h y (by simp [hy])
    have h2 := h x (by simp)
    have h3 := ghT_size h2
    have h4 := rowsT_size h2.1
    have := h2.2.1
    rw [grpsT, List.length_cons, ByteArray.size_append, ByteArray.size_append]; omega
theorem iGrpsT (g : YGroupS) (h : ∀ x ∈ g, okX x) (hl : g.length ≤ 1048576) : impl_groupsText.f g = some (grpsT g) := by
  have key : ∀ i, i ≤ g.length → ∀ o : ByteArray, o.size ≤ 3300 * i → impl_groupsText.l6 o g (g.length : Int) (i : Int) = some (o ++ grpsT (g.drop i)) := by
    apply downTo
    · intro o _
      rw [impl_groupsText.l6_eq, bifF (by omega), List.drop_eq_nil_of_le (by omega), grpsT, baN]
    · intro i hi ih o ho
      have hm := h _ (getD_mem hi (0, 0, []))
      rw [impl_groupsText.l6_eq, bifT (by omega), bif2T (by omega) (by omega), up1 (by omega), drop_at hi (0, 0, []), grpsT]
      simp only [Int.toNat_natCast]
      generalize g.getD i (0, 0, []) = x at hm
      have hz := ghT_size hm
      have hr := rowsT_size hm.1
      have s3 := side_len 3 x.2.2
      have s2 := side_len 2 x.2.2
      have hh : impl_headText.f (cntT x.1 (side 3 x.2.2).length) (cntT x.2.1 (side 2 x.2.2).length) = some (ghT x) := by
        have c1 := cntT_size (a := x.1) (m := (side 3 x.2.2).length) (by have := hm.2.2.1; omega) (by have := hm.2.1; omega)
        have c2 := cntT_size (a := x.2.1) (m := (side 2 x.2.2).length) (by have := hm.2.2.2; omega) (by have := hm.2.1; omega)
        have e1 : (⟨#[64, 64, 32, 45]⟩ : ByteArray).size = 4 := rfl
        have e2 : (⟨#[32, 43]⟩ : ByteArray).size = 2 := rfl
        have e3 : (⟨#[32, 64, 64, 10]⟩ : ByteArray).size = 4 := rfl
        rw [impl_headText.f_eq]
        simp only [ByteArray.size_append, e1, e2, e3]
        rw [bifT (by omega), bifT (by omega), bifT (by omega), bifT (by omega)]
        rfl
      obtain ⟨k1, k2, k3, k4⟩ := hm
      rw [iOld x (by omega), sB, iCount (by omega) (by omega) (by omega), sB, iNew x (by omega), sB, iCount (by omega) (by omega) (by omega), sB, hh, sB, iRowsT _ k1 (by omega), sB, bifT (by omega), bifT (by rw [ByteArray.size_append]; omega),
        ih _ (by rw [ByteArray.size_append, ByteArray.size_append]; omega), baA]
  rw [impl_groupsText.f_eq]
  have := key 0 (by omega) em (by decide)
  rw [baE, List.drop_zero] at this
  exact this
theorem sGrpsT (g : YGroupS) (h : ∀ x ∈ g, okX x) (hl : g.length ≤ 1048576) : spec_l7Text.f g = some (grpsT g) := by
  have key : ∀ i, i ≤ g.length → ∀ o : ByteArray, o.size ≤ 3300 * i → spec_l7Text.l6 o g (g.length : Int) (i : Int) = some (o ++ grpsT (g.drop i)) := by
    apply downTo
    · intro o _
      rw [spec_l7Text.l6_eq, bifF (by omega), List.drop_eq_nil_of_le (by omega), grpsT, baN]
    · intro i hi ih o ho
      have hm := h _ (getD_mem hi (0, 0, []))
      rw [spec_l7Text.l6_eq, bifT (by omega), bif2T (by omega) (by omega), drop_at hi (0, 0, []), grpsT]
      simp only [Int.toNat_natCast]
      generalize g.getD i (0, 0, []) = x at hm
      have hz := ghT_size hm
      have hr := rowsT_size hm.1
      have s3 := side_len 3 x.2.2
      have s2 := side_len 2 x.2.2
      obtain ⟨k1, k2, k3, k4⟩ := hm
      have c1 := cntT_size (a := x.1) (m := (side 3 x.2.2).length) (by omega) (by omega)
      have c2 := cntT_size (a := x.2.1) (m := (side 2 x.2.2).length) (by omega) (by omega)
      have e1 : (⟨#[64, 64, 32, 45]⟩ : ByteArray).size = 4 := rfl
      have e2 : (⟨#[32, 43]⟩ : ByteArray).size = 2 := rfl
      have e3 : (⟨#[32, 64, 64, 10]⟩ : ByteArray).size = 4 := rfl
      have rows : ∀ j, j ≤ x.2.2.length → ∀ t : ByteArray, t.size ≤ 3300 * i + 44 + 40 * j → spec_l7Text.l14 t g (g.length : Int) (i : Int) x.2.2 (x.2.2.length : Int) (j : Int) = spec_l7Text.l6 (t ++ rowsT (x.2.2.drop j)) g (g.length : Int) ((i + 1 : Nat) : Int) := by
        apply downTo
        · intro t _
          rw [spec_l7Text.l14_eq, bifF (by omega), List.drop_eq_nil_of_le (by omega), rowsT, baN, up1 (by omega)]
        · intro j hj ihj t ht
          have hq := k1 _ (getD_mem hj (0, em))
          have hz2 := shownT_size (signT_size hq.1) hq.2.2.1
          rw [spec_l7Text.l14_eq, bifT (by omega), bif2T (by omega) (by omega), up1 (by omega), drop_at hj (0, em), rowsT]
          simp only [Int.toNat_natCast]
          rw [sSign hq.1, sB, sShown (signT_size hq.1) hq.2, sB, bifT (by omega), ihj _ (by rw [ByteArray.size_append]; omega), baA]
      rw [sOld x (by omega), sB, sCount (by omega) (by omega) (by omega), sB]
      simp only [ByteArray.size_append, e1, e2, e3]
      rw [bifT (by omega), bifT (by omega), sNew x (by omega), sB, sCount (by omega) (by omega) (by omega), sB]
      rw [bifT (by omega), bifT (by omega), bifT (by omega)]
      have hgh : ((((⟨#[64, 64, 32, 45]⟩ : ByteArray) ++ cntT x.1 (side 3 x.2.2).length) ++ (⟨#[32, 43]⟩ : ByteArray)) ++ cntT x.2.1 (side 2 x.2.2).length) ++ (⟨#[32, 64, 64, 10]⟩ : ByteArray) = ghT x := rfl
      rw [hgh]
      have := rows 0 (by omega) (o ++ ghT x) (by rw [ByteArray.size_append]; omega)
      rw [List.drop_zero, show ((0 : Nat) : Int) = 0 from rfl] at this
      rw [this, ih _ (by rw [ByteArray.size_append, ByteArray.size_append]; omega), baA, baA, baA]
  rw [spec_l7Text.f_eq]
  have := key 0 (by omega) em (by decide)
  rw [baE, List.drop_zero] at this
  exact this
def noneT : ByteArray := ⟨#[110, 111, 110, 101]⟩
def fh2 (a b : ByteArray) : ByteArray := (((⟨#[45, 45, 45, 32]⟩ ++ a) ++ ⟨#[10, 43, 43, 43, 32]⟩) ++ b) ++ ⟨#[10]⟩
def fhT (x : YFileDiff) : ByteArray := if x.2.1 = 1 then fh2 noneT x.1 else if x.2.1 = 2 then fh2 x.1 noneT else fh2 x.1 x.1
def filesT : YFileDiffS → ByteArray
  | [] => em
  | x :: d => (fhT x ++ grpsT x.2.2) ++ filesT d
theorem fh2_size {a b : ByteArray} (ha : a.size ≤ 1048576) (hb : b.size ≤ 1048576) : (fh2 a b).size ≤ 2097200 := by
  have e1 : (⟨#[45, 45, 45, 32]⟩ : ByteArray).size = 4 := rfl
  have e2 : (⟨#[10, 43, 43, 43, 32]⟩ : ByteArray).size = 5 := rfl
  have e3 : (⟨#[10]⟩ : ByteArray).size = 1 := rfl
  simp only [fh2, ByteArray.size_append, e1, e2, e3]; omega
theorem noneT_size : noneT.size ≤ 1048576 := by decide
theorem fhT_size {x : YFileDiff} (hn : x.1.size ≤ 1048576) : (fhT x).size ≤ 2097200 := by
  unfold fhT
  split
  · exact fh2_size noneT_size hn
  · split
    · exact fh2_size hn noneT_size
    · exact fh2_size hn hn
theorem iFh2 {a b : ByteArray} (ha : a.size ≤ 1048576) (hb : b.size ≤ 1048576) : impl_fileHead.l15 a b = some (fh2 a b) := by
  have e1 : (⟨#[45, 45, 45, 32]⟩ : ByteArray).size = 4 := rfl
  have e2 : (⟨#[10, 43, 43, 43, 32]⟩ : ByteArray).size = 5 := rfl
  have e3 : (⟨#[10]⟩ : ByteArray).size = 1 := rfl
  rw [impl_fileHead.l15_eq]
  simp only [ByteArray.size_append, e1, e2, e3]
  rw [bifT (by omega), bifT (by omega), bifT (by omega), bifT (by omega)]
  rfl
theorem sFh2 {a b : ByteArray} (ha : a.size ≤ 1048576) (hb : b.size ≤ 1048576) : spec_l15Heads.l15 a b = some (fh2 a b) := by
  have e1 : (⟨#[45, 45, 45, 32]⟩ : ByteArray).size = 4 := rfl
  have e2 : (⟨#[10, 43, 43, 43, 32]⟩ : ByteArray).size = 5 := rfl
  have e3 : (⟨#[10]⟩ : ByteArray).size = 1 := rfl
  rw [spec_l15Heads.l15_eq]
  simp only [ByteArray.size_append, e1, e2, e3]
  rw [bifT (by omega), bifT (by omega), bifT (by omega), bifT (by omega)]
  rfl
theorem iFh {x : YFileDiff} (hn : x.1.size ≤ 1048576) : impl_fileHead.f x = some (fhT x) := by
  rw [impl_fileHead.f_eq]
  unfold fhT
  by_cases h1 : x.2.1 = 1
  · rw [bifT h1, if_pos h1]; exact iFh2 noneT_size hn
  · rw [bifF h1, if_neg h1]
    by_cases h2 : x.2.1 = 2
    · rw [bifT h2, if_pos h2]; exact iFh2 hn noneT_size
    · rw [bifF h2, if_neg h2]; exact iFh2 hn hn
theorem sFh {x : YFileDiff} (hn : x.1.size ≤ 1048576) : spec_l15Heads.f x = some (fhT x) := by
  rw [spec_l15Heads.f_eq]
  unfold fhT
  by_cases h1 : x.2.1 = 1
  · rw [bifT h1, if_pos h1]; exact sFh2 noneT_size hn
  · rw [bifF h1, if_neg h1]
    by_cases h2 : x.2.1 = 2
    · rw [bifT h2, if_pos h2]; exact sFh2 hn noneT_size
    · rw [bifF h2, if_neg h2]; exact sFh2 hn hn
def okF (d : YFileDiffS) : Prop := d.length ≤ 16 ∧ ∀ x ∈ d, x.1.size ≤ 1048576 ∧ x.2.2.length ≤ 20 ∧ ∀ y ∈ x.2.2, okX y
theorem okF_of {d : YFileDiffS} (hd : SmD d) (h : goodD d = true) : okF d := by
  obtain ⟨h1, h2⟩ := goodD_in h
  exact ⟨h1, fun x hx => ⟨(hd.2 x hx).1, gs_len (h2 x hx), fun y hy => okX_of (gs_in (h2 x hx) y hy)⟩⟩
def namedB (d : YFileDiffS) : Bool := d.all fun x => !decide (x.1 = noneT)
theorem sText (d : YFileDiffS) (h : okF d) : spec_l15Text.f d = some (filesT d) := by
  have hl := h.1
  have key : ∀ i, i ≤ d.length → ∀ o : ByteArray, o.size ≤ 3000000 * i → spec_l15Text.l6 o d (d.length : Int) (i : Int) = some (o ++ filesT (d.drop i)) := by
    apply downTo
    · intro o _
      rw [spec_l15Text.l6_eq, bifF (by omega), List.drop_eq_nil_of_le (by omega), filesT, baN]
    · intro i hi ih o ho
      have hm := h.2 _ (getD_mem hi (em, 0, []))
      have z1 := fhT_size hm.1
      have z2 := grpsT_size hm.2.2
      rw [spec_l15Text.l6_eq, bifT (by omega), bif2T (by omega) (by omega), up1 (by omega), drop_at hi (em, 0, []), filesT]
      simp only [Int.toNat_natCast]
      rw [sFh hm.1, sB, sGrpsT _ hm.2.2 (by omega), sB, bifT (by omega), bifT (by rw [ByteArray.size_append]; omega), ih _ (by rw [ByteArray.size_append, ByteArray.size_append]; omega), baA]
  rw [spec_l15Text.f_eq]
  have := key 0 (by omega) em (by decide)
  rw [baE, List.drop_zero] at this
  exact this
theorem iText (d : YFileDiffS) (h : okF d) : impl_FilesText.l10 em d (d.length : Int) 0 = impl_short.f (filesT d) := by
  have hl := h.1
  have key : ∀ i, i ≤ d.length → ∀ o : ByteArray, o.size ≤ 3000000 * i → impl_FilesText.l10 o d (d.length : Int) (i : Int) = impl_short.f (o ++ filesT (d.drop i)) := by
    apply downTo
    · intro o _
      rw [impl_FilesText.l10_eq, bifF (by omega), List.drop_eq_nil_of_le (by omega), filesT, baN, impl_short.f_eq]
      by_cases h3 : ((o.size : Nat) : Int) > 3000
      · rw [bifT h3, sB]
      · rw [bifF h3, sB]
    · intro i hi ih o ho
      have hm := h.2 _ (getD_mem hi (em, 0, []))
      have z1 := fhT_size hm.1
      have z2 := grpsT_size hm.2.2
      rw [impl_FilesText.l10_eq, bifT (by omega), bif2T (by omega) (by omega), up1 (by omega), drop_at hi (em, 0, []), filesT]
      simp only [Int.toNat_natCast]
      rw [iFh hm.1, sB, iGrpsT _ hm.2.2 (by omega), sB, bifT (by omega), bifT (by rw [ByteArray.size_append]; omega), ih _ (by rw [ByteArray.size_append, ByteArray.size_append]; omega), baA]
  have := key 0 (by omega) em (by decide)
  rw [baE, List.drop_zero] at this
  exact this
def textR (d : YFileDiffS) : ByteArray × Bool := if goodD d && namedB d then (if ((filesT d).size : Int) > 3000 then (em, false) else (filesT d, true)) else (em, false)
theorem sNamed (d : YFileDiffS) (hd : SmD d) : spec_l15Named.f d = some (goodD d && namedB d) := by
  have hl := hd.1
  have key : ∀ i, i ≤ d.length → spec_l15Named.l4 d d (d.length : Int) (i : Int) = some (goodD d && (d.drop i).all fun x => !decide (x.1 = noneT)) := by
    apply downTo
    · rw [spec_l15Named.l4_eq, bifF (by omega), sDs d hd, sB, List.drop_eq_nil_of_le (by omega), List.all_nil, Bool.and_true]
    · intro i hi ih
      rw [spec_l15Named.l4_eq, bifT (by omega), bif2T (by omega) (by omega), up1 (by omega), drop_at hi (em, 0, []), List.all_cons, toList_beq]
      simp only [Int.toNat_natCast]
      by_cases h : (d.getD i (em, 0, [])).1 = noneT
      · have e2 : (d.getD i (em, 0, [])).1 = (⟨#[110, 111, 110, 101]⟩ : ByteArray) := h
        rw [bifT e2, decide_eq_true h, Bool.not_true, Bool.false_and, Bool.and_false]
      · have e2 : ¬ (d.getD i (em, 0, [])).1 = (⟨#[110, 111, 110, 101]⟩ : ByteArray) := h
        rw [bifF e2, decide_eq_false h, Bool.not_false, Bool.true_and, ih]
  rw [spec_l15Named.f_eq]
  exact key 0 (by omega)
theorem iNamed (d : YFileDiffS) (hd : SmD d) : impl_areNamed.f d = some (namedB d) := by
  have hl := hd.1
  have idx : ∀ i, i ≤ d.length → ∃ r : Int, slices_IndexFunc_Limpl_FileDiff_impl_FileDiff__impl_areNamed_1.l4 d (d.length : Int) (i : Int) = some r ∧ (decide (r ≥ 0) = !((d.drop i).all fun x => !decide (x.1 = noneT))) := by
    apply downTo
    · exact ⟨-1, by rw [slices_IndexFunc_Limpl_FileDiff_impl_FileDiff__impl_areNamed_1.l4_eq, bifF (by omega)], by rw [List.drop_eq_nil_of_le (by omega)]; rfl⟩
    · intro i hi ⟨r, hr, hp⟩
      rw [slices_IndexFunc_Limpl_FileDiff_impl_FileDiff__impl_areNamed_1.l4_eq, bifT (by omega), bif2T (by omega) (by omega), up1 (by omega), impl_areNamed_1.f_eq, sB, drop_at hi (em, 0, []), List.all_cons, toList_beq]
      simp only [Int.toNat_natCast]
      by_cases e : (d.getD i (em, 0, [])).1 = noneT
      · have e2 : (d.getD i (em, 0, [])).1 = (⟨#[110, 111, 110, 101]⟩ : ByteArray) := e
        rw [bifT e2]
        exact ⟨(i : Int), rfl, by rw [decide_eq_true e, Bool.not_true, Bool.false_and]; exact decide_eq_true (by omega)⟩
      · have e2 : ¬ (d.getD i (em, 0, [])).1 = (⟨#[110, 111, 110, 101]⟩ : ByteArray) := e
        rw [bifF e2]
        exact ⟨r, hr, by rw [decide_eq_false e, Bool.not_false, Bool.true_and]; exact hp⟩
  obtain ⟨r, hr, hp⟩ := idx 0 (by omega)
  rw [List.drop_zero] at hp
  rw [impl_areNamed.f_eq, slices_ContainsFunc_Limpl_FileDiff_impl_FileDiff__impl_areNamed_1.f_eq, slices_IndexFunc_Limpl_FileDiff_impl_FileDiff__impl_areNamed_1.f_eq]
  rw [show ((0 : Nat) : Int) = 0 from rfl] at hr
  rw [hr, sB, sB, hp, Bool.not_not]
  rfl
theorem sFt (d : YFileDiffS) (hd : SmD d) : spec_FilesText.f d = some (textR d) := by
  rw [spec_FilesText.f_eq, sNamed d hd, sB]
  unfold textR
  cases hg : goodD d && namedB d with
  | false => rfl
  | true =>
    rw [notT, if_pos rfl]
    have ho := okF_of hd (Bool.and_eq_true _ _ ▸ hg).1
    rw [sText d ho, sB]
    by_cases h3 : (((filesT d).size : Nat) : Int) > 3000
    · rw [bifT h3, if_pos h3]
    · rw [bifF h3, if_neg h3, sB]
theorem iFt (d : YFileDiffS) (hd : SmD d) : impl_FilesText.f d = some (textR d) := by
  rw [impl_FilesText.f_eq, iDs d hd, sB]
  unfold textR
  cases hg : goodD d with
  | false => rfl
  | true =>
    rw [notT, iNamed d hd, sB]
    cases hn : namedB d with
    | false => rfl
    | true =>
      rw [notT, impl_FilesText.l7_eq, iText d (okF_of hd hg), Bool.and_self, if_pos rfl, impl_short.f_eq]
      by_cases h3 : (((filesT d).size : Nat) : Int) > 3000
      · rw [bifT h3, if_pos h3]
      · rw [bifF h3, if_neg h3]
theorem FilesText_ex (d : YFileDiffS) (h : mFileDiffS d ≤ 1048576) : ∃ r : ByteArray × Bool, spec_FilesText.f d = some r ∧ impl_FilesText.f d = some r :=
  ⟨_, sFt d (smD_of h), iFt d (smD_of h)⟩
theorem FnExactFilesText (l0 : YFileDiffS) (g0 : Bd (.list (.pair .str (.pair (.int .i64) (.one (.list (.pair (.int .i64) (.pair (.int .i64) (.one (.list (.pair (.int .i64) (.one .str))))))))))) l0) : laws_FnExactFilesText.f l0 = some true := by
  rw [laws_FnExactFilesText.f_eq]
  rw [szFileDiffS l0 (1048576) (bdFileDiffS _ g0) (by omega) (by omega), sB]
  by_cases c0 : ((mFileDiffS l0 : Nat) : Int) ≤ 1048576
  case neg => rw [szR_neg c0, bifT (by omega)]
  rw [szR_pos c0, bifF (by omega)]
  obtain ⟨r, hs, hi⟩ := FilesText_ex l0 (by omega)
  have u0 := zmFileDiffS l0
  have v0 := czFileDiffS l0
  have t0 := toFileDiffS l0 (by omega)
  have q0 := eqFileDiffS l0 (by omega)
  simp only [hs, hi, t0, q0, sB, notT, cond_false, cond_true, Bool.not_true, Bool.not_false, beq_self_eq_true, decide_true, laws_FnExactFilesText.l21_eq]
end Go.Abs.G
