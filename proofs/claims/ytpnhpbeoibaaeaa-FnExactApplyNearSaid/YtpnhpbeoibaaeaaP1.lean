import Derived.Test.YtpnhpbeoibaaeaaG
import Derived.Test.YtpnhpbeoibaaeaaPA
import Derived.Lib.IndexAny
set_option linter.unusedVariables false
set_option linter.unusedSimpArgs false
set_option linter.unusedSectionVars false
namespace Go.Abs.G
open Go Go.Abs
/-- the text of a mark: that there is one is all that is asked -/
theorem markText (k : Int) (h : k ≤ 8796093022208) : ∃ t : ByteArray, laws_markText.f k = some t := by
  rw [laws_markText.f_eq]
  by_cases h0 : k ≤ 0
  · exact ⟨_, bifT h0⟩
  · rw [bifF h0]
    have key : ∀ (n : Nat) (k : Nat) (out : ByteArray), k ≤ n → out.size + k ≤ 17592186044416 → ∃ t, laws_markText.l8 (k : Int) out = some t := by
      intro n
      induction n with
      | zero =>
        intro k out hk ho
        rw [laws_markText.l8_eq, bifF (by omega)]
        exact ⟨_, bifT (by show 1 + out.size ≤ _; omega)⟩
      | succ n ih =>
        intro k out hk ho
        rw [laws_markText.l8_eq]
        by_cases hk0 : (k : Int) > 0
        · rw [bifT hk0]
          have e : ((k : Int).tdiv 10) = ((k / 10 : Nat) : Int) := by rw [Int.tdiv_eq_ediv_of_nonneg (by omega)]; omega
          rw [e, w64_id (x := ((k / 10 : Nat) : Int)) (by omega) (by omega)]
          have hs : (strOf [IntKind.wrap .u8 (w64 (48 + (k : Int).tmod 10))]).size = 1 := rfl
          rw [bifT (by rw [hs]; omega)]
          exact ih _ _ (by omega) (by rw [ByteArray.size_append, hs]; omega)
        · rw [bifF hk0]
          exact ⟨_, bifT (by show 1 + out.size ≤ _; omega)⟩
    obtain ⟨t, ht⟩ := key k.toNat k.toNat em (Nat.le_refl _) (by show 0 + k.toNat ≤ _; omega)
    rw [Int.toNat_of_nonneg (by omega)] at ht
    exact ⟨t, ht⟩
/-- the mark of a number -/
noncomputable def mk (k : Int) : ByteArray := (laws_markText.f k).getD em
theorem mk_eq {k : Int} (h : k ≤ 8796093022208) : laws_markText.f k = some (mk k) := by
  obtain ⟨t, ht⟩ := markText k h
  rw [mk, ht]; rfl
def cString (_ : ByteArray) : Nat := 1
def zString (_ : ByteArray) : Nat := 1
abbrev T := List ByteArray
abbrev YString := ByteArray
abbrev yString : ByteArray := em
abbrev YStringS := List YString
def mStringS (a : YStringS) : Nat := a.length + tot ByteArray.size a
def cStringS (a : YStringS) : Nat := tot cString a
def zStringS (a : YStringS) : Nat := a.length + tot zString a
def BgStringS (a : YStringS) : Prop := a.length ≤ 140737488351232 ∧ ∀ x ∈ a, x.size ≤ 140737488351232
theorem czStringS (a : YStringS) : cStringS a ≤ zStringS a := by
  have h := tot_mono cString zString (fun x => Nat.le_refl _) a
  unfold cStringS zStringS
  omega
theorem zmStringS (a : YStringS) : zStringS a ≤ 8 * mStringS a := by
  have h := tot_seven zString ByteArray.size (fun x => by unfold zString; omega) a
  unfold zStringS mStringS
  omega
theorem bdStringS (x : YStringS) (h : Bd (.list .str) x) : BgStringS x := h
theorem szStringS (a : YStringS) (left : Int) (hb : BgStringS a) (h0 : 0 ≤ left) (h1 : left ≤ 1048576) : laws_szStringS.f a left = some (szR (mStringS a) left) := by
  obtain ⟨hb1, hb2⟩ := hb
  rw [laws_szStringS.f_eq]
  refine szTop hb1 h0 h1 (fun l => laws_szStringS.l10 a l 0) fun l h0 h1 => ?_
  refine szGo yString ByteArray.size a (fun l i => laws_szStringS.l10 a l i) (fun l => by show laws_szStringS.l10 a l _ = _; rw [laws_szStringS.l10_eq, bifF (by omega)]) (fun i l hi h2 h3 => ?_) l h0 h1
  have hm := hb2 _ (getD_mem hi yString)
  show laws_szStringS.l10 a l _ = _
  rw [laws_szStringS.l10_eq, bifT (by omega), bif2T (by omega) (by omega), up1 (by omega)]
  simp only [Int.toNat_natCast]
  exact szLeaf _ l hm h2 h3 (fun l => laws_szStringS.l10 a l ((i + 1 : Nat) : Int)) (some (-1))
theorem toStringS (a : YStringS) (hb : mStringS a ≤ 1048576) : laws_toStringS.f a = some a := by
  have hb2 : a.length + tot ByteArray.size a ≤ 1048576 := hb
  rw [laws_toStringS.f_eq, show room 16 = 8796093022208 from by decide, bif2T (by omega) (by omega)]
  refine toGo yString a (fun out i => laws_toStringS.l6 a out i) (fun out => by show laws_toStringS.l6 a out _ = _; rw [laws_toStringS.l6_eq, bifF (by omega)]) (fun i out hi hl => ?_) _ (by simp)
  show laws_toStringS.l6 a out _ = _
  rw [laws_toStringS.l6_eq, bifT (by omega), bif2T (by omega) (by omega)]
  simp only [Int.toNat_natCast]
  rw [bif2T (by omega) (by omega), up1 (by omega)]
theorem eqStringS (a : YStringS) (hb : zStringS a ≤ 4398046511104) : laws_eqStringS.f a a = some true := by
  have hb2 : a.length + tot zString a ≤ 4398046511104 := hb
  rw [laws_eqStringS.f_eq, bifNF rfl]
  refine eqGo (n := a.length) (fun i => laws_eqStringS.l8 a a i) (by show laws_eqStringS.l8 a a _ = _; rw [laws_eqStringS.l8_eq, bifF (by omega)]) fun i hi => ?_
  show laws_eqStringS.l8 a a _ = _
  rw [laws_eqStringS.l8_eq, bifT (by omega), bif2T (by omega) (by omega), bif2T (by omega) (by omega), up1 (by omega)]
  simp only [Int.toNat_natCast]
  rw [toList_beq, bifNF rfl]
noncomputable def mkString (_ : ByteArray) (k : Int) : ByteArray := mk k
noncomputable def mkStringS : YStringS → Int → YStringS := mkL cString mkString
theorem markStringS (a : YStringS) (k : Int) (h0 : 0 ≤ k) (hk : k + cStringS a ≤ 8796093022208) (hb : zStringS a ≤ 4398046511104) : laws_markStringS.f a k = some (k + cStringS a, mkStringS a k) := by
  have hb2 : a.length + tot zString a ≤ 4398046511104 := hb
  rw [laws_markStringS.f_eq]
  refine markGo (fun x => zString x ≤ 4398046511104) cString mkString (fun a k i => laws_markStringS.l4 a k i) (fun a k => by show laws_markStringS.l4 a k _ = _; rw [laws_markStringS.l4_eq, bifF (by omega)]) (fun pre x r k hp hk hc hl => ?_) a [] k (fun x hx => by have := tot_mem zString hx; omega) h0 hk (by simp; omega)
  have hc2 : k + 1 ≤ 8796093022208 := hc
  have e0 : w64 (k + 1) = k + 1 := by rw [w64_id (by omega) (by omega)]
  have f0 : laws_markText.f k = some (mk k) := mk_eq (by omega)
  have eu := up1 (i := pre.length) (by omega)
  show laws_markStringS.l4 _ k _ = laws_markStringS.l4 _ (k + (cString x : Int)) _
  rw [laws_markStringS.l4_eq]
  simp only [List.length_append, List.length_cons, List.length_nil, in0, inMid2, Bool.and_true, cond_true, Int.toNat_natCast, getD_mid, set_mid, eu, sB, e0, f0, mkString]
  rfl
theorem heldStringS (a : YStringS) (k : Int) (h0 : 0 ≤ k) (hk : k + cStringS a ≤ 8796093022208) (hb : zStringS a ≤ 4398046511104) : laws_heldStringS.f (mkStringS a k) k = some (k + cStringS a) := by
  have hb2 : a.length + tot zString a ≤ 4398046511104 := hb
  rw [laws_heldStringS.f_eq]
  generalize hF : mkStringS a k = full
  refine heldGo (fun x => zString x ≤ 4398046511104) cString mkString full (fun k i => laws_heldStringS.l4 full k i) (fun k => by show laws_heldStringS.l4 _ k _ = _; rw [laws_heldStringS.l4_eq, bifF (by omega)]) (fun pre x r k hf hp hk hc hl => ?_) a [] k hF.symm (fun x hx => by have := tot_mem zString hx; omega) h0 hk (by simp; omega)
  have hc2 : k + 1 ≤ 8796093022208 := hc
  have e0 : w64 (k + 1) = k + 1 := by rw [w64_id (by omega) (by omega)]
  have f0 : laws_markText.f k = some (mk k) := mk_eq (by omega)
  have eu := up1 (i := pre.length) (by omega)
  show laws_heldStringS.l4 _ k _ = laws_heldStringS.l4 _ (k + (cString x : Int)) _
  rw [laws_heldStringS.l4_eq, hf]
  simp only [mkString]
  simp only [List.length_append, List.length_cons, List.length_nil, in0, inMid2, Bool.and_true, cond_true, Int.toNat_natCast, getD_mid, eu, sB, e0, f0, toList_beq, decide_true, Bool.not_true, cond_false]
  rfl
def cInt (_ : Int) : Nat := 1
def zInt (_ : Int) : Nat := 1
abbrev YInt := Int
abbrev YIntS := List YInt
def cIntS (a : YIntS) : Nat := tot cInt a
def zIntS (a : YIntS) : Nat := a.length + tot zInt a
theorem czIntS (a : YIntS) : cIntS a ≤ zIntS a := by
  have h := tot_mono cInt zInt (fun x => Nat.le_refl _) a
  unfold cIntS zIntS
  omega
theorem eqIntS (a : YIntS) (hb : zIntS a ≤ 4398046511104) : laws_eqIntS.f a a = some true := by
  have hb2 : a.length + tot zInt a ≤ 4398046511104 := hb
  rw [laws_eqIntS.f_eq, bifNF rfl]
  refine eqGo (n := a.length) (fun i => laws_eqIntS.l8 a a i) (by show laws_eqIntS.l8 a a _ = _; rw [laws_eqIntS.l8_eq, bifF (by omega)]) fun i hi => ?_
  show laws_eqIntS.l8 a a _ = _
  rw [laws_eqIntS.l8_eq, bifT (by omega), bif2T (by omega) (by omega), bif2T (by omega) (by omega), up1 (by omega)]
  rw [bifNF rfl]
def mkInt (_ : Int) (k : Int) : Int := k
noncomputable def mkIntS : YIntS → Int → YIntS := mkL cInt mkInt
theorem markIntS (a : YIntS) (k : Int) (h0 : 0 ≤ k) (hk : k + cIntS a ≤ 8796093022208) (hb : zIntS a ≤ 4398046511104) : laws_markIntS.f a k = some (k + cIntS a, mkIntS a k) := by
  have hb2 : a.length + tot zInt a ≤ 4398046511104 := hb
  rw [laws_markIntS.f_eq]
  refine markGo (fun x => zInt x ≤ 4398046511104) cInt mkInt (fun a k i => laws_markIntS.l4 a k i) (fun a k => by show laws_markIntS.l4 a k _ = _; rw [laws_markIntS.l4_eq, bifF (by omega)]) (fun pre x r k hp hk hc hl => ?_) a [] k (fun x hx => by have := tot_mem zInt hx; omega) h0 hk (by simp; omega)
  have hc2 : k + 1 ≤ 8796093022208 := hc
  have e0 : w64 (k + 1) = k + 1 := by rw [w64_id (by omega) (by omega)]
  have eu := up1 (i := pre.length) (by omega)
  show laws_markIntS.l4 _ k _ = laws_markIntS.l4 _ (k + (cInt x : Int)) _
  rw [laws_markIntS.l4_eq]
  simp only [List.length_append, List.length_cons, List.length_nil, in0, inMid2, Bool.and_true, cond_true, Int.toNat_natCast, getD_mid, set_mid, eu, sB, e0, mkInt]
  rfl
theorem heldIntS (a : YIntS) (k : Int) (h0 : 0 ≤ k) (hk : k + cIntS a ≤ 8796093022208) (hb : zIntS a ≤ 4398046511104) : laws_heldIntS.f (mkIntS a k) k = some (k + cIntS a) := by
  have hb2 : a.length + tot zInt a ≤ 4398046511104 := hb
  rw [laws_heldIntS.f_eq]
  generalize hF : mkIntS a k = full
  refine heldGo (fun x => zInt x ≤ 4398046511104) cInt mkInt full (fun k i => laws_heldIntS.l4 full k i) (fun k => by show laws_heldIntS.l4 _ k _ = _; rw [laws_heldIntS.l4_eq, bifF (by omega)]) (fun pre x r k hf hp hk hc hl => ?_) a [] k hF.symm (fun x hx => by have := tot_mem zInt hx; omega) h0 hk (by simp; omega)
  have hc2 : k + 1 ≤ 8796093022208 := hc
  have e0 : w64 (k + 1) = k + 1 := by rw [w64_id (by omega) (by omega)]
  have eu := up1 (i := pre.length) (by omega)
  show laws_heldIntS.l4 _ k _ = laws_heldIntS.l4 _ (k + (cInt x : Int)) _
  rw [laws_heldIntS.l4_eq, hf]
  simp only [mkInt]
  simp only [List.length_append, List.length_cons, List.length_nil, in0, inMid2, Bool.and_true, cond_true, Int.toNat_natCast, getD_mid, eu, sB, e0, toList_beq, decide_true, Bool.not_true, cond_false]
  rfl
abbrev YRow := Int × ByteArray
abbrev yRow : YRow := (0, em)
/-- what it takes of what is left -/
def mRow (x : YRow) : Nat := x.2.size
/-- how many marks -/
def cRow (x : YRow) : Nat := 1 + 1
/-- how large -/
def zRow (x : YRow) : Nat := 1 + 1
def BgRow (x : YRow) : Prop := x.2.size ≤ 140737488351232
noncomputable def mkRow (x : YRow) (k : Int) : YRow := (k, mk (k + 1))
theorem czRow (x : YRow) : cRow x ≤ zRow x := by
  unfold cRow zRow
  exact Nat.le_refl _
theorem zmRow (x : YRow) : zRow x ≤ 7 + 8 * mRow x := by
  unfold zRow mRow
  omega
theorem bdRow (x : YRow) (h : Bd (.pair (.int .i64) (.one .str)) x) : BgRow x := h.2
theorem szRow (x : YRow) (left : Int) (hb : BgRow x) (h0 : 0 ≤ left) (h1 : left ≤ 1048576) : laws_szRow.f x left = some (szR (mRow x) left) := by
  rw [laws_szRow.f_eq]
  have h : x.2.size ≤ 140737488351232 := hb
  refine (szLeaf _ left h h0 h1 (fun l => some l) (some (-1))).trans ?_
  rw [show mRow x = x.2.size from rfl]
  by_cases g : szR (x.2.size) left < 0
  · rw [bifT g]; rw [szR_lt _ _ h0] at g; rw [szR_neg g]
  · rw [bifF g]
theorem toRow (x : YRow) (hb : mRow x ≤ 1048576) : laws_toRow.f x = some x := by
  have hb2 : x.2.size ≤ 1048576 := hb
  rw [laws_toRow.f_eq]
theorem eqRow (x : YRow) (hb : zRow x ≤ 4398046511104) : laws_eqRow.f x x = some true := by
  have hb2 : 1 + 1 ≤ 4398046511104 := hb
  rw [laws_eqRow.f_eq]
  rw [bifNF rfl]
  rw [toList_beq, bifNF rfl]
abbrev YRowS := List YRow
def mRowS (a : YRowS) : Nat := a.length + tot mRow a
def cRowS (a : YRowS) : Nat := tot cRow a
def zRowS (a : YRowS) : Nat := a.length + tot zRow a
def BgRowS (a : YRowS) : Prop := a.length ≤ 140737488351232 ∧ ∀ x ∈ a, BgRow x
theorem czRowS (a : YRowS) : cRowS a ≤ zRowS a := by
  have h := tot_mono cRow zRow (fun x => czRow x) a
  unfold cRowS zRowS
  omega
theorem zmRowS (a : YRowS) : zRowS a ≤ 8 * mRowS a := by
  have h := tot_seven zRow mRow (fun x => zmRow x) a
  unfold zRowS mRowS
  omega
theorem bdRowS (x : YRowS) (h : Bd (.list (.pair (.int .i64) (.one .str))) x) : BgRowS x := ⟨h.1, fun y hy => bdRow y (h.2 y hy)⟩
theorem szRowS (a : YRowS) (left : Int) (hb : BgRowS a) (h0 : 0 ≤ left) (h1 : left ≤ 1048576) : laws_szRowS.f a left = some (szR (mRowS a) left) := by
  obtain ⟨hb1, hb2⟩ := hb
  rw [laws_szRowS.f_eq]
  refine szTop hb1 h0 h1 (fun l => laws_szRowS.l10 a l 0) fun l h0 h1 => ?_
  refine szGo yRow mRow a (fun l i => laws_szRowS.l10 a l i) (fun l => by show laws_szRowS.l10 a l _ = _; rw [laws_szRowS.l10_eq, bifF (by omega)]) (fun i l hi h2 h3 => ?_) l h0 h1
  have hm := hb2 _ (getD_mem hi yRow)
  show laws_szRowS.l10 a l _ = _
  rw [laws_szRowS.l10_eq, bifT (by omega), bif2T (by omega) (by omega), up1 (by omega)]
  simp only [Int.toNat_natCast]
  rw [szRow _ l hm h2 h3, sB]
theorem toRowS (a : YRowS) (hb : mRowS a ≤ 1048576) : laws_toRowS.f a = some a := by
  have hb2 : a.length + tot mRow a ≤ 1048576 := hb
  rw [laws_toRowS.f_eq, show room 24 = 5864062014805 from by decide, bif2T (by omega) (by omega)]
  refine toGo yRow a (fun out i => laws_toRowS.l6 a out i) (fun out => by show laws_toRowS.l6 a out _ = _; rw [laws_toRowS.l6_eq, bifF (by omega)]) (fun i out hi hl => ?_) _ (by simp)
  show laws_toRowS.l6 a out _ = _
  rw [laws_toRowS.l6_eq, bifT (by omega), bif2T (by omega) (by omega)]
  simp only [Int.toNat_natCast]
  have hm : mRow (a.getD i (0, em)) ≤ tot mRow a := tot_mem mRow (getD_mem hi _)
  rw [toRow _ (by omega), sB]
  rw [bif2T (by omega) (by omega), up1 (by omega)]
theorem eqRowS (a : YRowS) (hb : zRowS a ≤ 4398046511104) : laws_eqRowS.f a a = some true := by
  have hb2 : a.length + tot zRow a ≤ 4398046511104 := hb
  rw [laws_eqRowS.f_eq, bifNF rfl]
  refine eqGo (n := a.length) (fun i => laws_eqRowS.l8 a a i) (by show laws_eqRowS.l8 a a _ = _; rw [laws_eqRowS.l8_eq, bifF (by omega)]) fun i hi => ?_
  show laws_eqRowS.l8 a a _ = _
  rw [laws_eqRowS.l8_eq, bifT (by omega), bif2T (by omega) (by omega), bif2T (by omega) (by omega), up1 (by omega)]
  simp only [Int.toNat_natCast]
  have hm : zRow (a.getD i (0, em)) ≤ tot zRow a := tot_mem zRow (getD_mem hi _)
  rw [eqRow _ (by omega), sB, notT]
noncomputable def mkRowS : YRowS → Int → YRowS := mkL cRow mkRow
theorem markRowS (a : YRowS) (k : Int) (h0 : 0 ≤ k) (hk : k + cRowS a ≤ 8796093022208) (hb : zRowS a ≤ 4398046511104) : laws_markRowS.f a k = some (k + cRowS a, mkRowS a k) := by
  have hb2 : a.length + tot zRow a ≤ 4398046511104 := hb
  rw [laws_markRowS.f_eq]
  refine markGo (fun x => zRow x ≤ 4398046511104) cRow mkRow (fun a k i => laws_markRowS.l4 a k i) (fun a k => by show laws_markRowS.l4 a k _ = _; rw [laws_markRowS.l4_eq, bifF (by omega)]) (fun pre x r k hp hk hc hl => ?_) a [] k (fun x hx => by have := tot_mem zRow hx; omega) h0 hk (by simp; omega)
  have hz : 1 + 1 ≤ 4398046511104 := hp
  have hc2 : k + ((1 + 1 : Nat) : Int) ≤ 8796093022208 := hc
  have e0 : w64 (k + 1) = k + 1 := by rw [w64_id (by omega) (by omega)]
  have e1 : w64 (k + 1 + 1) = k + 2 := by rw [w64_id (by omega) (by omega)]; omega
  have f1 : laws_markText.f (k + 1) = some (mk (k + 1)) := mk_eq (by omega)
  have eu := up1 (i := pre.length) (by omega)
  show laws_markRowS.l4 _ k _ = laws_markRowS.l4 _ (k + (cRow x : Int)) _
  rw [laws_markRowS.l4_eq]
  simp only [List.length_append, List.length_cons, List.length_nil, in0, inMid2, Bool.and_true, cond_true, Int.toNat_natCast, getD_mid, set_mid, eu, sB, e0, e1, f1, mkRow]
  all_goals (
    have ec : (cRow x : Int) = 1 + 1 := by simp only [cRow]; omega
    rw [ec]
    congr 1 <;> omega)
abbrev YGroup := Int × Int × List (Int × ByteArray)
abbrev yGroup : YGroup := (0, 0, [])
/-- what it takes of what is left -/
def mGroup (x : YGroup) : Nat := mRowS x.2.2
/-- how many marks -/
def cGroup (x : YGroup) : Nat := 1 + 1 + cRowS x.2.2
/-- how large -/
def zGroup (x : YGroup) : Nat := 1 + 1 + zRowS x.2.2
def BgGroup (x : YGroup) : Prop := BgRowS x.2.2
noncomputable def mkGroup (x : YGroup) (k : Int) : YGroup := (k, k + 1, mkRowS x.2.2 (k + 2))
theorem czGroup (x : YGroup) : cGroup x ≤ zGroup x := by
  unfold cGroup zGroup
  have h0 := czRowS x.2.2
  omega
theorem zmGroup (x : YGroup) : zGroup x ≤ 7 + 8 * mGroup x := by
  unfold zGroup mGroup
  have h0 := zmRowS x.2.2
  omega
theorem bdGroup (x : YGroup) (h : Bd (.pair (.int .i64) (.pair (.int .i64) (.one (.list (.pair (.int .i64) (.one .str)))))) x) : BgGroup x := bdRowS _ h.2.2
theorem szGroup (x : YGroup) (left : Int) (hb : BgGroup x) (h0 : 0 ≤ left) (h1 : left ≤ 1048576) : laws_szGroup.f x left = some (szR (mGroup x) left) := by
  rw [laws_szGroup.f_eq]
  rw [szRowS _ left hb h0 h1, sB, show mGroup x = mRowS x.2.2 from rfl]
  by_cases g : szR (mRowS x.2.2) left < 0
  · rw [bifT g]; rw [szR_lt _ _ h0] at g; rw [szR_neg g]
  · rw [bifF g]
theorem toGroup (x : YGroup) (hb : mGroup x ≤ 1048576) : laws_toGroup.f x = some x := by
  have hb2 : mRowS x.2.2 ≤ 1048576 := hb
  rw [laws_toGroup.f_eq]
  rw [toRowS _ (by omega), sB]
theorem eqGroup (x : YGroup) (hb : zGroup x ≤ 4398046511104) : laws_eqGroup.f x x = some true := by
  have hb2 : 1 + 1 + zRowS x.2.2 ≤ 4398046511104 := hb
  rw [laws_eqGroup.f_eq]
  rw [bifNF rfl]
  rw [bifNF rfl]
  rw [eqRowS _ (by omega), sB, notT]
abbrev YGroupS := List YGroup
def mGroupS (a : YGroupS) : Nat := a.length + tot mGroup a
def cGroupS (a : YGroupS) : Nat := tot cGroup a
def zGroupS (a : YGroupS) : Nat := a.length + tot zGroup a
def BgGroupS (a : YGroupS) : Prop := a.length ≤ 140737488351232 ∧ ∀ x ∈ a, BgGroup x
theorem czGroupS (a : YGroupS) : cGroupS a ≤ zGroupS a := by
  have h := tot_mono cGroup zGroup (fun x => czGroup x) a
  unfold cGroupS zGroupS
  omega
theorem zmGroupS (a : YGroupS) : zGroupS a ≤ 8 * mGroupS a := by
  have h := tot_seven zGroup mGroup (fun x => zmGroup x) a
  unfold zGroupS mGroupS
  omega
theorem bdGroupS (x : YGroupS) (h : Bd (.list (.pair (.int .i64) (.pair (.int .i64) (.one (.list (.pair (.int .i64) (.one .str))))))) x) : BgGroupS x := ⟨h.1, fun y hy => bdGroup y (h.2 y hy)⟩
theorem szGroupS (a : YGroupS) (left : Int) (hb : BgGroupS a) (h0 : 0 ≤ left) (h1 : left ≤ 1048576) : laws_szGroupS.f a left = some (szR (mGroupS a) left) := by
  obtain ⟨hb1, hb2⟩ := hb
  rw [laws_szGroupS.f_eq]
  refine szTop hb1 h0 h1 (fun l => laws_szGroupS.l10 a l 0) fun l h0 h1 => ?_
  refine szGo yGroup mGroup a (fun l i => laws_szGroupS.l10 a l i) (fun l => by show laws_szGroupS.l10 a l _ = _; rw [laws_szGroupS.l10_eq, bifF (by omega)]) (fun i l hi h2 h3 => ?_) l h0 h1
  have hm := hb2 _ (getD_mem hi yGroup)
  show laws_szGroupS.l10 a l _ = _
  rw [laws_szGroupS.l10_eq, bifT (by omega), bif2T (by omega) (by omega), up1 (by omega)]
  simp only [Int.toNat_natCast]
  rw [szGroup _ l hm h2 h3, sB]
theorem toGroupS (a : YGroupS) (hb : mGroupS a ≤ 1048576) : laws_toGroupS.f a = some a := by
  have hb2 : a.length + tot mGroup a ≤ 1048576 := hb
  rw [laws_toGroupS.f_eq, show room 40 = 3518437208883 from by decide, bif2T (by omega) (by omega)]
  refine toGo yGroup a (fun out i => laws_toGroupS.l6 a out i) (fun out => by show laws_toGroupS.l6 a out _ = _; rw [laws_toGroupS.l6_eq, bifF (by omega)]) (fun i out hi hl => ?_) _ (by simp)
  show laws_toGroupS.l6 a out _ = _
  rw [laws_toGroupS.l6_eq, bifT (by omega), bif2T (by omega) (by omega)]
  simp only [Int.toNat_natCast]
  have hm : mGroup (a.getD i (0, 0, [])) ≤ tot mGroup a := tot_mem mGroup (getD_mem hi _)
  rw [toGroup _ (by omega), sB]
  rw [bif2T (by omega) (by omega), up1 (by omega)]
theorem eqGroupS (a : YGroupS) (hb : zGroupS a ≤ 4398046511104) : laws_eqGroupS.f a a = some true := by
  have hb2 : a.length + tot zGroup a ≤ 4398046511104 := hb
  rw [laws_eqGroupS.f_eq, bifNF rfl]
  refine eqGo (n := a.length) (fun i => laws_eqGroupS.l8 a a i) (by show laws_eqGroupS.l8 a a _ = _; rw [laws_eqGroupS.l8_eq, bifF (by omega)]) fun i hi => ?_
  show laws_eqGroupS.l8 a a _ = _
  rw [laws_eqGroupS.l8_eq, bifT (by omega), bif2T (by omega) (by omega), bif2T (by omega) (by omega), up1 (by omega)]
  simp only [Int.toNat_natCast]
  have hm : zGroup (a.getD i (0, 0, [])) ≤ tot zGroup a := tot_mem zGroup (getD_mem hi _)
  rw [eqGroup _ (by omega), sB, notT]
noncomputable def mkGroupS : YGroupS → Int → YGroupS := mkL cGroup mkGroup
theorem markGroupS (a : YGroupS) (k : Int) (h0 : 0 ≤ k) (hk : k + cGroupS a ≤ 8796093022208) (hb : zGroupS a ≤ 4398046511104) : laws_markGroupS.f a k = some (k + cGroupS a, mkGroupS a k) := by
  have hb2 : a.length + tot zGroup a ≤ 4398046511104 := hb
  rw [laws_markGroupS.f_eq]
  refine markGo (fun x => zGroup x ≤ 4398046511104) cGroup mkGroup (fun a k i => laws_markGroupS.l4 a k i) (fun a k => by show laws_markGroupS.l4 a k _ = _; rw [laws_markGroupS.l4_eq, bifF (by omega)]) (fun pre x r k hp hk hc hl => ?_) a [] k (fun x hx => by have := tot_mem zGroup hx; omega) h0 hk (by simp; omega)
  have hz : 1 + 1 + zRowS x.2.2 ≤ 4398046511104 := hp
  have hc2 : k + ((1 + 1 + cRowS x.2.2 : Nat) : Int) ≤ 8796093022208 := hc
  have e0 : w64 (k + 1) = k + 1 := by rw [w64_id (by omega) (by omega)]
  have e1 : w64 (k + 1 + 1) = k + 2 := by rw [w64_id (by omega) (by omega)]; omega
  have f2 : laws_markRowS.f x.2.2 (k + 2) = some (k + 2 + cRowS x.2.2, mkRowS x.2.2 (k + 2)) := markRowS _ _ (by omega) (by omega) (by omega)
  have eu := up1 (i := pre.length) (by omega)
  show laws_markGroupS.l4 _ k _ = laws_markGroupS.l4 _ (k + (cGroup x : Int)) _
  rw [laws_markGroupS.l4_eq]
  simp only [List.length_append, List.length_cons, List.length_nil, in0, inMid2, Bool.and_true, cond_true, Int.toNat_natCast, getD_mid, set_mid, eu, sB, e0, e1, f2, mkGroup]
  all_goals (
    have ec : (cGroup x : Int) = 1 + 1 + (cRowS x.2.2 : Int) := by simp only [cGroup]; omega
    rw [ec]
    congr 1 <;> omega)
/-- of a size that is let through -/
def Sm (l : T) : Prop := l.length ≤ 1048576 ∧ ∀ s ∈ l, s.size ≤ 1048576
def bl (s : ByteArray) : List UInt8 := s.data.toList
theorem bl_len (s : ByteArray) : (bl s).length = s.size := rfl
theorem bl_inj {a b : ByteArray} (h : bl a = bl b) : a = b := ByteArray.ext (Array.toList_inj.1 h)
theorem bl_ext (s : ByteArray) (a b : Nat) : bl (s.extract a b) = ((bl s).drop a).take (b - a) := by
  unfold bl; rw [ByteArray.data_extract, Array.toList_extract]
theorem bt_bl (s : ByteArray) (i : Nat) : bt s (i : Int) = (((bl s).getD i 0).toNat : Int) := by
  unfold bt bl
  rw [Int.toNat_natCast]
theorem sIn (a b c : Int) : spec_l1In.f a b c = some (decide (b ≤ a ∧ a ≤ c)) := by
  rw [spec_l1In.f_eq]
  by_cases h : a ≥ b
  · rw [bifT h]; congr 1; rw [decide_eq_decide]; omega
  · rw [bifF h]; congr 1; rw [eq_comm, decide_eq_false_iff_not]; omega
theorem iIn (a b c : Int) : impl_in.f a b c = some (decide (b ≤ a ∧ a ≤ c)) := by
  rw [impl_in.f_eq]
  by_cases h : a ≥ b
  · rw [bifT h]; congr 1; rw [decide_eq_decide]; omega
  · rw [bifF h]; congr 1; rw [eq_comm, decide_eq_false_iff_not]; omega
/-- A line. -/
def lineP (s : ByteArray) : Prop := 1 ≤ s.size ∧ s.size ≤ 30 ∧ (10 : UInt8) ∉ (bl s).take (s.size - 1)
instance (s : ByteArray) : Decidable (lineP s) := by unfold lineP; exact inferInstance
/-- It ends. -/
def endP (s : ByteArray) : Prop := 1 ≤ s.size ∧ (bl s).getD (s.size - 1) 0 = 10
instance (s : ByteArray) : Decidable (endP s) := by unfold endP; exact inferInstance
theorem toNat10 (b : UInt8) : ((b.toNat : Nat) : Int) = 10 ↔ b = 10 := by
  constructor
  · intro h; exact UInt8.toNat_inj.1 (by have : (10 : UInt8).toNat = 10 := rfl; omega)
  · rintro rfl; rfl
theorem sLine (s : ByteArray) (hs : s.size ≤ 1048576) : spec_l1Line.f s = some (decide (lineP s)) := by
  have hL : ((bl s).take (s.size - 1)).length = s.size - 1 := by rw [List.length_take, bl_len]; omega
  have hw : w64 ((s.size : Int) - 1) = (s.size : Int) - 1 := w64_id (by omega) (by omega)
  have key : ∀ i, i ≤ s.size - 1 → spec_l1Line.l4 s (i : Int) = some (decide (1 ≤ s.size ∧ s.size ≤ 30 ∧ (10 : UInt8) ∉ ((bl s).take (s.size - 1)).drop i)) := by
    apply downTo
    · rw [spec_l1Line.l4_eq, hw, bifF (by omega), sIn, sB]
      congr 1
      rw [decide_eq_decide, List.drop_eq_nil_of_le (by omega)]
      constructor
      · intro h; exact ⟨by omega, by omega, List.not_mem_nil⟩
      · intro h; omega
    · intro i hi ih
      have hi1 := up1 (i := i) (by omega)
      rw [spec_l1Line.l4_eq]
      simp only [hw, hi1]
      rw [bifT (by omega), bif2T (by omega) (by omega)]
      have hb : bt s (i : Int) = 10 ↔ ((bl s).take (s.size - 1)).getD i 0 = 10 := by
        rw [bt_bl, toNat10, List.getD_eq_getElem?_getD, List.getD_eq_getElem?_getD, List.getElem?_take_of_lt hi]
      have hd := drop_at (l := (bl s).take (s.size - 1)) (i := i) (by omega) 0
      by_cases h : bt s (i : Int) = 10
      · rw [bifT h]; congr 1
        rw [eq_comm, decide_eq_false_iff_not, hd, hb.1 h]
        rintro ⟨_, _, h3⟩
        exact h3 List.mem_cons_self
      · rw [bifF h, ih]; congr 1
        rw [decide_eq_decide, hd, List.mem_cons, not_or]
        have : ¬ (10 : UInt8) = ((bl s).take (s.size - 1)).getD i 0 := fun g => h (hb.2 g.symm)
        exact ⟨fun ⟨a, b, c⟩ => ⟨a, b, this, c⟩, fun ⟨a, b, _, c⟩ => ⟨a, b, c⟩⟩
  have := key 0 (by omega)
  rw [spec_l1Line.f_eq]
  rw [List.drop_zero] at this
  exact this
theorem iLine (s : ByteArray) (hs : s.size ≤ 1048576) : impl_isLine.f s = some (decide (lineP s)) := by
  have hw : w64 ((s.size : Int) - 1) = (s.size : Int) - 1 := w64_id (by omega) (by omega)
  rw [impl_isLine.f_eq, iIn, sB, hw]
  by_cases h : (1 : Int) ≤ (s.size : Int) ∧ (s.size : Int) ≤ 30
  · rw [bifT h, bif2T (by omega) (by omega)]
    show (contains1 _ _).bind _ = _
    unfold contains1
    have h1 : Nat.beq (⟨#[10]⟩ : ByteArray).size 1 = true := rfl
    rw [h1, cond_true, sB]
    congr 1
    show (!decide (0 ≤ Go.Lib.indexByte _ 10)) = _
    rw [← Go.Lib.contains_iff_indexByte]
    have he : (s.extract 0 ((s.size : Int) - 1).toNat).data.toList = (bl s).take (s.size - 1) := by
      show bl _ = _
      rw [bl_ext, List.drop_zero]; congr 1; omega
    rw [he]
    by_cases hm : (10 : UInt8) ∈ (bl s).take (s.size - 1)
    · rw [List.contains_iff_mem.2 hm]; exact (decide_eq_false (fun g : lineP s => g.2.2 hm)).symm
    · have : ((bl s).take (s.size - 1)).contains 10 = false := by rw [← Bool.not_eq_true, List.contains_iff_mem]; exact hm
      rw [this]; exact (decide_eq_true (show lineP s from ⟨by omega, by omega, hm⟩)).symm
  · rw [bifF h]
    congr 1
    rw [eq_comm, decide_eq_false_iff_not]
    unfold lineP
    omega
theorem sEnds (s : ByteArray) (h1 : 1 ≤ s.size) (hs : s.size ≤ 1048576) : spec_l1Ends.f s = some (decide (endP s)) := by
  have hw : w64 ((s.size : Int) - 1) = ((s.size - 1 : Nat) : Int) := by rw [w64_id (by omega) (by omega)]; omega
  rw [spec_l1Ends.f_eq, hw, bif2T (by omega) (by omega), bt_bl]
  congr 1
  rw [decide_eq_decide, toNat10]
  exact ⟨fun h => ⟨h1, h⟩, fun h => h.2⟩
theorem iEnds (s : ByteArray) (hs : s.size ≤ 1048576) : impl_isEnded.f s = some (decide (endP s)) := by
  rw [impl_isEnded.f_eq, strings_HasSuffix.f_eq, internal_stringslite_HasSuffix.f_eq]
  have h10 : (⟨#[10]⟩ : ByteArray).size = 1 := rfl
  have hw : w64 ((s.size : Int) - 1) = (s.size : Int) - 1 := w64_id (by omega) (by omega)
  simp only [h10, Int.ofNat_one]
  by_cases h : (s.size : Int) ≥ 1
  · rw [hw, bifT h, bif2T (by omega) (by omega), sB, sB]
    congr 1
    rw [toList_beq, decide_eq_decide]
    have hb : bl (s.extract ((s.size : Int) - 1).toNat s.size) = [(bl s).getD (s.size - 1) 0] := by
      rw [bl_ext]
      have e : ((s.size : Int) - 1).toNat = s.size - 1 := by omega
      rw [e, drop_at (l := bl s) (i := s.size - 1) (by rw [bl_len]; omega) 0, show s.size - (s.size - 1) = 1 by omega]
      rfl
    constructor
    · intro g
      rw [g] at hb
      refine ⟨by omega, ?_⟩
      have : [(10 : UInt8)] = [(bl s).getD (s.size - 1) 0] := hb
      exact ((List.cons.inj this).1).symm
    · intro g
      refine bl_inj ?_
      rw [hb, g.2]; rfl
  · rw [bifF (by omega), sB, sB]
    congr 1
    rw [eq_comm, decide_eq_false_iff_not]
    unfold endP
    omega
def endsT : T → Bool
  | [] => true
  | s :: t => (t.isEmpty || decide (endP s)) && endsT t
def allLines (l : T) : Bool := l.all fun s => decide (lineP s)
theorem allLines_cons (s : ByteArray) (l : T) : allLines (s :: l) = (decide (lineP s) && allLines l) := rfl
def goodB (l : T) : Bool := decide (l.length ≤ 40) && allLines l && endsT l
theorem drop_empty {l : T} {i : Nat} (h : i < l.length) : (l.drop (i + 1)).isEmpty = decide (¬ (i : Int) < (l.length : Int) - 1) := by
  rw [Bool.eq_iff_iff, List.isEmpty_iff, List.drop_eq_nil_iff, decide_eq_true_eq]; omega
theorem iAre (l : T) (hl : Sm l) : impl_areLines.f l = some (decide (l.length ≤ 40) && allLines l) := by
  have hL := hl.1
  have idx : ∀ i, i ≤ l.length → ∃ r : Int, slices_IndexFunc_Lstring_string__impl_areLines_1.l4 l (l.length : Int) (i : Int) = some r ∧ (decide (r ≥ 0) = !(allLines (l.drop i))) := by
    apply downTo
    · refine ⟨-1, by rw [slices_IndexFunc_Lstring_string__impl_areLines_1.l4_eq, bifF (by omega)], ?_⟩
      rw [List.drop_eq_nil_of_le (by omega)]; rfl
    · intro i hlt ⟨r, hr, hp⟩
      have hi1 := up1 (i := i) (by omega)
      have hsz := hl.2 _ (getD_mem hlt em)
      rw [slices_IndexFunc_Lstring_string__impl_areLines_1.l4_eq, bifT (by omega), bif2T (by omega) (by omega), hi1]
      simp only [Int.toNat_natCast]
      rw [impl_areLines_1.f_eq, iLine _ hsz, sB, sB]
      by_cases h : lineP (l.getD i em)
      · refine ⟨r, by rw [bifNF h]; exact hr, ?_⟩
        rw [hp, drop_at hlt em, allLines_cons, decide_eq_true h, Bool.true_and]
      · refine ⟨(i : Int), by rw [bifNT h], ?_⟩
        rw [drop_at hlt em, allLines_cons, decide_eq_false h, Bool.false_and]; exact decide_eq_true (by omega)
  obtain ⟨r, hr, hp⟩ := idx 0 (by omega)
  rw [impl_areLines.f_eq, slices_ContainsFunc_Lstring_string__impl_areLines_1.f_eq, slices_IndexFunc_Lstring_string__impl_areLines_1.f_eq]
  by_cases h : l.length ≤ 40
  · rw [bifT (by omega)]
    refine bindEq (bindEq hr rfl) ?_
    rw [hp, decide_eq_true h]; simp
  · rw [bifF (by omega), decide_eq_false h]; rfl
theorem iGood (l : T) (hl : Sm l) : impl_goodLines.f l = some (goodB l) := by
  have hL := hl.1
  rw [impl_goodLines.f_eq, iAre l hl, sB]
  unfold goodB
  cases hg : (decide (l.length ≤ 40) && allLines l) with
  | false => rw [Bool.false_and, notF]
  | true =>
    rw [Bool.true_and, notT]
    have hw : w64 ((l.length : Int) - 1) = (l.length : Int) - 1 := w64_id (by omega) (by omega)
    have key : ∀ i, i ≤ l.length → impl_goodLines.l8 l l (l.length : Int) (i : Int) = some (endsT (l.drop i)) := by
      apply downTo
      · rw [impl_goodLines.l8_eq, bifF (by omega), List.drop_eq_nil_of_le (by omega)]; rfl
      · intro i hi ih
        have hi1 := up1 (i := i) (by omega)
        have hsz := hl.2 _ (getD_mem hi em)
        have he := drop_empty hi
        have hR : endsT (l.drop i) = ((decide (¬ (i : Int) < (l.length : Int) - 1) || decide (endP (l.getD i em))) && endsT (l.drop (i + 1))) := by
          rw [drop_at hi em]; simp only [endsT, he]
        rw [hR, impl_goodLines.l8_eq, hw, hi1, bifT (by omega), bif2T (by omega) (by omega)]
        simp only [Int.toNat_natCast]
        rw [iEnds _ hsz, sB, ih]
        by_cases h2 : (i : Int) < (l.length : Int) - 1
        · rw [bifT h2, decide_eq_false (show ¬ ¬ (i : Int) < (l.length : Int) - 1 from fun g => g h2), Bool.false_or]
          by_cases h3 : endP (l.getD i em)
          · rw [bifNF h3, decide_eq_true h3, Bool.true_and]
          · rw [bifNT h3, decide_eq_false h3, Bool.false_and]
        · rw [bifF h2, decide_eq_true h2, Bool.true_or, Bool.true_and]
    have := key 0 (by omega)
    rw [List.drop_zero] at this
    exact this
theorem sGood (l : T) (hl : Sm l) : spec_l1Good.f l = some (goodB l) := by
  have hL := hl.1
  have hw : w64 ((l.length : Int) - 1) = (l.length : Int) - 1 := w64_id (by omega) (by omega)
  have key : ∀ i, i ≤ l.length → spec_l1Good.l4 l l (l.length : Int) (i : Int) = some (decide (l.length ≤ 40) && allLines (l.drop i) && endsT (l.drop i)) := by
    apply downTo
    · rw [spec_l1Good.l4_eq, bifF (by omega), List.drop_eq_nil_of_le (by omega)]
      simp [allLines, endsT]
      omega
    · intro i hi ih
      have hi1 := up1 (i := i) (by omega)
      have hd := drop_at hi em
      have hsz := hl.2 _ (getD_mem hi em)
      have he := drop_empty hi
      have hR : (decide (l.length ≤ 40) && allLines (l.drop i) && endsT (l.drop i)) = (decide (lineP (l.getD i em)) && ((decide (¬ (i : Int) < (l.length : Int) - 1) || decide (endP (l.getD i em))) && (decide (l.length ≤ 40) && allLines (l.drop (i + 1)) && endsT (l.drop (i + 1))))) := by
        rw [hd]
        simp only [allLines, endsT, List.all_cons, he]
        generalize decide (l.length ≤ 40) = a1
        generalize decide (lineP (l.getD i em)) = a2
        generalize (l.drop (i + 1)).all (fun s => decide (lineP s)) = a3
        generalize (decide (¬ (i : Int) < (l.length : Int) - 1) || decide (endP (l.getD i em))) = a4
        generalize endsT (l.drop (i + 1)) = a5
        cases a1 <;> cases a2 <;> cases a3 <;> cases a4 <;> cases a5 <;> rfl
      rw [hR, spec_l1Good.l4_eq, hw, hi1, bifT (by omega), bif2T (by omega) (by omega)]
      simp only [Int.toNat_natCast]
      rw [sLine _ hsz, sB, ih]
      by_cases h1 : lineP (l.getD i em)
      · rw [bifNF h1, decide_eq_true h1, Bool.true_and]
        by_cases h2 : (i : Int) < (l.length : Int) - 1
        · rw [bifT h2, decide_eq_false (show ¬ ¬ (i : Int) < (l.length : Int) - 1 from fun g => g h2), Bool.false_or, sEnds _ h1.1 hsz, sB]
          by_cases h3 : endP (l.getD i em)
          · rw [bifNF h3, decide_eq_true h3, Bool.true_and]
          · rw [bifNT h3, decide_eq_false h3, Bool.false_and]
        · rw [bifF h2, decide_eq_true h2, Bool.true_or, Bool.true_and]
      · rw [bifNT h1, decide_eq_false h1, Bool.false_and]
  have := key 0 (by omega)
  rw [List.drop_zero] at this
  rw [spec_l1Good.f_eq]
  exact this
theorem good_len {l : T} (h : goodB l = true) : l.length ≤ 40 := by
  unfold goodB at h
  simp only [Bool.and_eq_true, decide_eq_true_eq] at h
  exact h.1.1
/-- rows of a size that is let through -/
def SmR (l : YRowS) : Prop := l.length ≤ 1048576 ∧ ∀ x ∈ l, x.2.size ≤ 1048576
def side (c : Int) : YRowS → T
  | [] => []
  | r :: l => if r.1 = c then side c l else r.2 :: side c l
theorem side_cons (c : Int) (r : YRow) (l : YRowS) : side c (r :: l) = if r.1 = c then side c l else r.2 :: side c l := rfl
theorem side_len (c : Int) : ∀ l, (side c l).length ≤ l.length
  | [] => Nat.le_refl _
  | r :: l => by
    have := side_len c l
    unfold side
    split
    · rw [List.length_cons]; omega
    · rw [List.length_cons, List.length_cons]; omega
theorem side_mem (c : Int) : ∀ l s, s ∈ side c l → ∃ r ∈ l, s = r.2
  | [], s, h => by cases h
  | r :: l, s, h => by
    unfold side at h
    split at h
    · obtain ⟨q, hq, e⟩ := side_mem c l s h
      exact ⟨q, List.mem_cons_of_mem _ hq, e⟩
    · rcases List.mem_cons.1 h with rfl | h
      · exact ⟨r, List.mem_cons_self, rfl⟩
      · obtain ⟨q, hq, e⟩ := side_mem c l s h
        exact ⟨q, List.mem_cons_of_mem _ hq, e⟩
theorem side_sm (c : Int) {l : YRowS} (h : SmR l) : Sm (side c l) := by
  refine ⟨Nat.le_trans (side_len c l) h.1, fun s hs => ?_⟩
  obtain ⟨r, hr, rfl⟩ := side_mem c l s hs
  exact h.2 r hr
theorem side_step (c : Int) (s : T) (l : YRowS) {i : Nat} (hi : i < l.length) : s ++ side c (l.drop i) = (if (l.getD i (0, em)).1 = c then s else s ++ [(l.getD i (0, em)).2]) ++ side c (l.drop (i + 1)) := by
  rw [drop_at hi (0, em), side_cons]
  split
  · rfl
  · rw [List.append_assoc]; rfl
theorem sOld (g : YGroup) (hl : g.2.2.length ≤ 1048576) : spec_l6Old.f g = some (side 3 g.2.2) := by
  obtain ⟨a, b, l⟩ := g
  simp only at hl
  have key : ∀ i, i ≤ l.length → ∀ s : T, s.length ≤ i → spec_l6Old.l6 s l (l.length : Int) (i : Int) = some (s ++ side 3 (l.drop i)) := by
    apply downTo
    · intro s h
      rw [spec_l6Old.l6_eq, bifF (by omega), List.drop_eq_nil_of_le (by omega)]; simp [side]
    · intro i hi ih s h
      rw [side_step 3 s l hi, spec_l6Old.l6_eq, bifT (by omega), bif2T (by omega) (by omega), up1 (by omega), room16]
      simp only [Int.toNat_natCast]
      by_cases h3 : (l.getD i (0, em)).1 = 3
      · rw [if_pos h3, bifNF h3]; exact ih s (by omega)
      · rw [if_neg h3, bifNT h3, bifT (by simp only [List.length_singleton]; omega)]
        exact ih _ (by rw [List.length_append, List.length_singleton]; omega)
  rw [spec_l6Old.f_eq]
  exact key 0 (by omega) [] (by simp)
theorem sNew (g : YGroup) (hl : g.2.2.length ≤ 1048576) : spec_l6New.f g = some (side 2 g.2.2) := by
  obtain ⟨a, b, l⟩ := g
  simp only at hl
  have key : ∀ i, i ≤ l.length → ∀ s : T, s.length ≤ i → spec_l6New.l6 s l (l.length : Int) (i : Int) = some (s ++ side 2 (l.drop i)) := by
    apply downTo
    · intro s h
      rw [spec_l6New.l6_eq, bifF (by omega), List.drop_eq_nil_of_le (by omega)]; simp [side]
    · intro i hi ih s h
      rw [side_step 2 s l hi, spec_l6New.l6_eq, bifT (by omega), bif2T (by omega) (by omega), up1 (by omega), room16]
      simp only [Int.toNat_natCast]
      by_cases h3 : (l.getD i (0, em)).1 = 2
      · rw [if_pos h3, bifNF h3]; exact ih s (by omega)
      · rw [if_neg h3, bifNT h3, bifT (by simp only [List.length_singleton]; omega)]
        exact ih _ (by rw [List.length_append, List.length_singleton]; omega)
  rw [spec_l6New.f_eq]
  exact key 0 (by omega) [] (by simp)
theorem iSide (c : Int) (l : YRowS) (hl : l.length ≤ 1048576) : impl_sideOf.f l c = some (side c l) := by
  have key : ∀ i, i ≤ l.length → ∀ s : T, s.length ≤ i → impl_sideOf.l6 c s l (l.length : Int) (i : Int) = some (s ++ side c (l.drop i)) := by
    apply downTo
    · intro s h
      rw [impl_sideOf.l6_eq, bifF (by omega), List.drop_eq_nil_of_le (by omega)]; simp [side]
    · intro i hi ih s h
      rw [side_step c s l hi, impl_sideOf.l6_eq, bifT (by omega), bif2T (by omega) (by omega), up1 (by omega), room16]
      simp only [Int.toNat_natCast]
      by_cases h3 : (l.getD i (0, em)).1 = c
      · rw [if_pos h3, bifNF h3]; exact ih s (by omega)
      · rw [if_neg h3, bifNT h3, bifT (by simp only [List.length_singleton]; omega)]
        exact ih _ (by rw [List.length_append, List.length_singleton]; omega)
  rw [impl_sideOf.f_eq]
  exact key 0 (by omega) [] (by simp)
theorem iOld (g : YGroup) (hl : g.2.2.length ≤ 1048576) : impl_Group_old.f g = some (side 3 g.2.2) := by
  rw [impl_Group_old.f_eq, iSide 3 _ hl, sB]
theorem iNew (g : YGroup) (hl : g.2.2.length ≤ 1048576) : impl_Group_fresh.f g = some (side 2 g.2.2) := by
  rw [impl_Group_fresh.f_eq, iSide 2 _ hl, sB]
theorem s5 (l : T) (hl : Sm l) : spec_l5Lines.f l = some (goodB l) := by
  have hL := hl.1
  have hw : w64 ((l.length : Int) - 1) = (l.length : Int) - 1 := w64_id (by omega) (by omega)
  have key : ∀ i, i ≤ l.length → spec_l5Lines.l4 l l (l.length : Int) (i : Int) = some (decide (l.length ≤ 40) && allLines (l.drop i) && endsT (l.drop i)) := by
    apply downTo
    · rw [spec_l5Lines.l4_eq, bifF (by omega), List.drop_eq_nil_of_le (by omega)]
      simp [allLines, endsT]
      omega
    · intro i hi ih
      have hi1 := up1 (i := i) (by omega)
      have hd := drop_at hi em
      have hsz := hl.2 _ (getD_mem hi em)
      have he := drop_empty hi
      have hR : (decide (l.length ≤ 40) && allLines (l.drop i) && endsT (l.drop i)) = (decide (lineP (l.getD i em)) && ((decide (¬ (i : Int) < (l.length : Int) - 1) || decide (endP (l.getD i em))) && (decide (l.length ≤ 40) && allLines (l.drop (i + 1)) && endsT (l.drop (i + 1))))) := by
        rw [hd]
        simp only [allLines, endsT, List.all_cons, he]
        generalize decide (l.length ≤ 40) = a1
        generalize decide (lineP (l.getD i em)) = a2
        generalize (l.drop (i + 1)).all (fun s => decide (lineP s)) = a3
        generalize (decide (¬ (i : Int) < (l.length : Int) - 1) || decide (endP (l.getD i em))) = a4
        generalize endsT (l.drop (i + 1)) = a5
        cases a1 <;> cases a2 <;> cases a3 <;> cases a4 <;> cases a5 <;> rfl
      rw [hR, spec_l5Lines.l4_eq, hw, hi1, bifT (by omega), bif2T (by omega) (by omega)]
      simp only [Int.toNat_natCast]
      rw [sLine _ hsz, sB, ih]
      by_cases h1 : lineP (l.getD i em)
      · rw [bifNF h1, decide_eq_true h1, Bool.true_and]
        by_cases h2 : (i : Int) < (l.length : Int) - 1
        · rw [bifT h2, decide_eq_false (show ¬ ¬ (i : Int) < (l.length : Int) - 1 from fun g => g h2), Bool.false_or, sEnds _ h1.1 hsz, sB]
          by_cases h3 : endP (l.getD i em)
          · rw [bifNF h3, decide_eq_true h3, Bool.true_and]
          · rw [bifNT h3, decide_eq_false h3, Bool.false_and]
        · rw [bifF h2, decide_eq_true h2, Bool.true_or, Bool.true_and]
      · rw [bifNT h1, decide_eq_false h1, Bool.false_and]
  have := key 0 (by omega)
  rw [List.drop_zero] at this
  rw [spec_l5Lines.f_eq]
  exact this
def rowsB : Int → YRowS → Bool
  | _, [] => true
  | p, r :: l => decide (1 ≤ r.1 ∧ r.1 ≤ 3) && (decide (lineP r.2) && (decide (¬ (r.1 = 2 ∧ p = 3)) && rowsB r.1 l))
def anyB : YRowS → Bool
  | [] => false
  | r :: l => (!decide (r.1 = 1)) || anyB l
def pv (l : YRowS) (i : Nat) : Int := if i = 0 then 0 else (l.getD (i - 1) (0, em)).1
/-- What is asked behind the rows. -/
def tl (g : YGroup) (s : Bool) : Bool :=
  s && (decide ((0 ≤ g.1 ∧ g.1 ≤ 999) ∧ (0 ≤ g.2.1 ∧ g.2.1 ≤ 999) ∧ g.1 + ((side 3 g.2.2).length : Int) ≤ 1000 ∧ g.2.1 + ((side 2 g.2.2).length : Int) ≤ 1000 ∧ g.2.2.length ≤ 80) && (goodB (side 3 g.2.2) && goodB (side 2 g.2.2)))
def groupB (g : YGroup) : Bool := rowsB 0 g.2.2 && tl g (anyB g.2.2)
theorem rows_step (l : YRowS) {i : Nat} (hi : i < l.length) : rowsB (pv l i) (l.drop i) = (decide (1 ≤ (l.getD i (0, em)).1 ∧ (l.getD i (0, em)).1 ≤ 3) && (decide (lineP (l.getD i (0, em)).2) && (decide (¬ ((l.getD i (0, em)).1 = 2 ∧ pv l i = 3)) && rowsB (pv l (i + 1)) (l.drop (i + 1))))) := by
  have : pv l (i + 1) = (l.getD i (0, em)).1 := by unfold pv; rw [if_neg (by omega)]; rfl
  rw [this, drop_at hi (0, em)]; rfl
theorem any_step (s : Bool) (l : YRowS) {i : Nat} (hi : i < l.length) : (s || anyB (l.drop i)) = ((s || (!decide ((l.getD i (0, em)).1 = 1))) || anyB (l.drop (i + 1))) := by
  rw [drop_at hi (0, em)]
  show (s || (_ || _)) = _
  rw [Bool.or_assoc]
theorem sGroup (g : YGroup) (hl : SmR g.2.2) : spec_l6Group.f g = some (groupB g) := by
  have hL := hl.1
  have n3 := side_len 3 g.2.2
  have n2 := side_len 2 g.2.2
  obtain ⟨l, hlg⟩ : ∃ l, g.2.2 = l := ⟨_, rfl⟩
  have hLl : l.length ≤ 1048576 := by rw [← hlg]; exact hL
  have key : ∀ i, i ≤ l.length → ∀ s : Bool, spec_l6Group.l6 g s l (l.length : Int) (i : Int) = some (rowsB (pv l i) (l.drop i) && tl g (s || anyB (l.drop i))) := by
    apply downTo
    · intro s
      rw [spec_l6Group.l6_eq, bifF (by omega), List.drop_eq_nil_of_le (by omega)]
      show _ = some (true && tl g (s || false))
      rw [Bool.true_and, Bool.or_false]
      cases s with
      | false => rfl
      | true =>
        unfold tl
        rw [Bool.true_and, cond_true, sIn, sB]
        by_cases ha : 0 ≤ g.1 ∧ g.1 ≤ 999
        case neg => rw [bifF ha, decide_eq_false (fun h => ha h.1)]; rfl
        rw [bifT ha, sIn, sB]
        by_cases hb : 0 ≤ g.2.1 ∧ g.2.1 ≤ 999
        case neg => rw [bifF hb, decide_eq_false (fun h => hb h.2.1)]; rfl
        rw [bifT hb, sOld g hL, sB, w64_id (by omega) (by omega)]
        by_cases c1 : g.1 + ((side 3 g.2.2).length : Int) ≤ 1000
        case neg => rw [bifF c1, decide_eq_false (fun h => c1 h.2.2.1)]; rfl
        rw [bifT c1, sNew g hL, sB, w64_id (by omega) (by omega)]
        by_cases c2 : g.2.1 + ((side 2 g.2.2).length : Int) ≤ 1000
        case neg => rw [bifF c2, decide_eq_false (fun h => c2 h.2.2.2.1)]; rfl
        rw [bifT c2]
        by_cases c3 : g.2.2.length ≤ 80
        case neg => rw [bifF (by omega), decide_eq_false (fun h => c3 h.2.2.2.2)]; rfl
        rw [bifT (by omega), sB, s5 _ (side_sm 3 hl), sB, decide_eq_true (⟨ha, hb, c1, c2, c3⟩ : _ ∧ _ ∧ _ ∧ _ ∧ _), Bool.true_and]
        cases goodB (side 3 g.2.2) with
        | false => rfl
        | true => rw [cond_true, sB, s5 _ (side_sm 2 hl), sB]; rfl
    · intro i hi ih s
      have hsz := hl.2 _ (getD_mem (l := g.2.2) (by rw [hlg]; exact hi) (0, em))
      rw [hlg] at hsz
      rw [rows_step l hi, any_step s l hi, spec_l6Group.l6_eq, bifT (by omega), bif2T (by omega) (by omega)]
      simp only [Int.toNat_natCast]
      have fin : spec_l6Group.l15 g s (l.getD i (0, em)) l (l.length : Int) (i : Int) = some (rowsB (pv l (i + 1)) (l.drop (i + 1)) && tl g ((s || (!decide ((l.getD i (0, em)).1 = 1))) || anyB (l.drop (i + 1)))) := by
        rw [spec_l6Group.l15_eq, up1 (by omega)]
        cases s with
        | false => rw [cond_false, ih, Bool.false_or]
        | true => rw [cond_true, ih]; simp only [Bool.true_or]
      rw [sIn, sB]
      by_cases h1 : 1 ≤ (l.getD i (0, em)).1 ∧ (l.getD i (0, em)).1 ≤ 3
      case neg => rw [bifNT h1, decide_eq_false h1, Bool.false_and, Bool.false_and]
      rw [bifNF h1, decide_eq_true h1, Bool.true_and, sLine _ hsz, sB]
      by_cases h2 : lineP (l.getD i (0, em)).2
      case neg => rw [bifNT h2, decide_eq_false h2, Bool.false_and, Bool.false_and]
      rw [bifNF h2, decide_eq_true h2, Bool.true_and]
      by_cases h3 : (i : Int) > 0
      · rw [bifT h3]
        by_cases h4 : (l.getD i (0, em)).1 = 2
        · rw [bifT h4, dn1 (by omega) (by omega), hlg, bif2T (by omega) (by omega)]
          simp only [Int.toNat_natCast]
          have hp : pv l i = (l.getD (i - 1) (0, em)).1 := by unfold pv; rw [if_neg (by omega)]
          by_cases h5 : (l.getD (i - 1) (0, em)).1 = 3
          · have hx : ¬ ¬ ((l.getD i (0, em)).1 = 2 ∧ pv l i = 3) := fun g => g ⟨h4, hp.trans h5⟩
            rw [bifT h5, decide_eq_false hx, Bool.false_and, Bool.false_and]
          · have hx : ¬ ((l.getD i (0, em)).1 = 2 ∧ pv l i = 3) := fun g => h5 (hp.symm.trans g.2)
            rw [bifF h5, decide_eq_true hx, Bool.true_and]; exact fin
        · have hx : ¬ ((l.getD i (0, em)).1 = 2 ∧ pv l i = 3) := fun g => h4 g.1
          rw [bifF h4, decide_eq_true hx, Bool.true_and]; exact fin
      · have hp : pv l i = 0 := by unfold pv; rw [if_pos (by omega)]
        have hx : ¬ ((l.getD i (0, em)).1 = 2 ∧ pv l i = 3) := fun g => by rw [hp] at g; exact absurd g.2 (by decide)
        rw [bifF h3, decide_eq_true hx, Bool.true_and]; exact fin
  have := key 0 (by omega) false
  rw [List.drop_zero, Bool.false_or] at this
  rw [spec_l6Group.f_eq, hlg, groupB, hlg]
  exact this
theorem iGroup_l (g : YGroup) (hl : SmR g.2.2) (ha : 0 ≤ g.1 ∧ g.1 ≤ 999) (hb : 0 ≤ g.2.1 ∧ g.2.1 ≤ 999) (h80 : g.2.2.length ≤ 80) : impl_goodGroup.l10 g false g.2.2 (g.2.2.length : Int) 0 = some (groupB g) := by
  have hL := hl.1
  have n3 := side_len 3 g.2.2
  have n2 := side_len 2 g.2.2
  obtain ⟨l, hlg⟩ : ∃ l, g.2.2 = l := ⟨_, rfl⟩
  have hLl : l.length ≤ 1048576 := by rw [← hlg]; exact hL
  have key : ∀ i, i ≤ l.length → ∀ s : Bool, impl_goodGroup.l10 g s l (l.length : Int) (i : Int) = some (rowsB (pv l i) (l.drop i) && tl g (s || anyB (l.drop i))) := by
    apply downTo
    · intro s
      rw [impl_goodGroup.l10_eq, bifF (by omega), List.drop_eq_nil_of_le (by omega), iOld g hL, iNew g hL, sB, sB]
      show _ = some (true && tl g (s || false))
      rw [Bool.true_and, Bool.or_false]
      cases s with
      | false => rfl
      | true =>
        unfold tl
        rw [Bool.true_and, cond_true, iGood _ (side_sm 3 hl), sB]
        cases goodB (side 3 g.2.2) with
        | false => rw [Bool.false_and, Bool.and_false]; rfl
        | true =>
          rw [cond_true, Bool.true_and, iGood _ (side_sm 2 hl), sB]
          cases goodB (side 2 g.2.2) with
          | false => rw [Bool.and_false]; rfl
          | true =>
            rw [cond_true, Bool.and_true, w64_id (by omega) (by omega), w64_id (by omega) (by omega)]
            by_cases c1 : g.1 + ((side 3 g.2.2).length : Int) ≤ 1000
            · rw [bifT c1]; congr 1; rw [decide_eq_decide]
              exact ⟨fun h => ⟨ha, hb, c1, h, h80⟩, fun h => h.2.2.2.1⟩
            · rw [bifF c1, decide_eq_false (fun h => c1 h.2.2.1)]
    · intro i hi ih s
      have hsz := hl.2 _ (getD_mem (l := g.2.2) (by rw [hlg]; exact hi) (0, em))
      rw [hlg] at hsz
      rw [rows_step l hi, any_step s l hi, impl_goodGroup.l10_eq, bifT (by omega), bif2T (by omega) (by omega)]
      simp only [Int.toNat_natCast]
      have fin : impl_goodGroup.l19 g s (l.getD i (0, em)) l (l.length : Int) (i : Int) = some (rowsB (pv l (i + 1)) (l.drop (i + 1)) && tl g ((s || (!decide ((l.getD i (0, em)).1 = 1))) || anyB (l.drop (i + 1)))) := by
        rw [impl_goodGroup.l19_eq, up1 (by omega)]
        cases s with
        | false => rw [cond_false, ih, Bool.false_or]
        | true => rw [cond_true, ih]; simp only [Bool.true_or]
      rw [iIn, sB]
      by_cases h1 : 1 ≤ (l.getD i (0, em)).1 ∧ (l.getD i (0, em)).1 ≤ 3
      case neg => rw [bifNT h1, decide_eq_false h1, Bool.false_and, Bool.false_and]
      rw [bifNF h1, decide_eq_true h1, Bool.true_and, iLine _ hsz, sB]
      by_cases h2 : lineP (l.getD i (0, em)).2
      case neg => rw [bifNT h2, decide_eq_false h2, Bool.false_and, Bool.false_and]
      rw [bifNF h2, decide_eq_true h2, Bool.true_and]
      by_cases h3 : (i : Int) > 0
      · rw [bifT h3]
        by_cases h4 : (l.getD i (0, em)).1 = 2
        · rw [bifT h4, dn1 (by omega) (by omega), hlg, bif2T (by omega) (by omega)]
          simp only [Int.toNat_natCast]
          have hp : pv l i = (l.getD (i - 1) (0, em)).1 := by unfold pv; rw [if_neg (by omega)]
          by_cases h5 : (l.getD (i - 1) (0, em)).1 = 3
          · have hx : ¬ ¬ ((l.getD i (0, em)).1 = 2 ∧ pv l i = 3) := fun g => g ⟨h4, hp.trans h5⟩
            rw [bifT h5, decide_eq_false hx, Bool.false_and, Bool.false_and]
          · have hx : ¬ ((l.getD i (0, em)).1 = 2 ∧ pv l i = 3) := fun g => h5 (hp.symm.trans g.2)
            rw [bifF h5, decide_eq_true hx, Bool.true_and]; exact fin
        · have hx : ¬ ((l.getD i (0, em)).1 = 2 ∧ pv l i = 3) := fun g => h4 g.1
          rw [bifF h4, decide_eq_true hx, Bool.true_and]; exact fin
      · have hp : pv l i = 0 := by unfold pv; rw [if_pos (by omega)]
        have hx : ¬ ((l.getD i (0, em)).1 = 2 ∧ pv l i = 3) := fun g => by rw [hp] at g; exact absurd g.2 (by decide)
        rw [bifF h3, decide_eq_true hx, Bool.true_and]; exact fin
  have := key 0 (by omega) false
  rw [List.drop_zero, Bool.false_or] at this
  rw [groupB, hlg]
  exact this
theorem group_in {g : YGroup} (h : groupB g = true) : (0 ≤ g.1 ∧ g.1 ≤ 999) ∧ (0 ≤ g.2.1 ∧ g.2.1 ≤ 999) ∧ g.1 + ((side 3 g.2.2).length : Int) ≤ 1000 ∧ g.2.1 + ((side 2 g.2.2).length : Int) ≤ 1000 ∧ g.2.2.length ≤ 80 := by
  unfold groupB tl at h
  simp only [Bool.and_eq_true, decide_eq_true_eq] at h
  exact h.2.2.1
theorem group_any {g : YGroup} (h : groupB g = true) : anyB g.2.2 = true := by
  unfold groupB tl at h
  simp only [Bool.and_eq_true] at h
  exact h.2.1
theorem group_sides {g : YGroup} (h : groupB g = true) : goodB (side 3 g.2.2) = true ∧ goodB (side 2 g.2.2) = true := by
  unfold groupB tl at h
  simp only [Bool.and_eq_true] at h
  exact h.2.2.2
theorem iGroup (g : YGroup) (hl : SmR g.2.2) : impl_goodGroup.f g = some (groupB g) := by
  have hL := hl.1
  have no : ∀ {P : Prop}, (groupB g = true → False) → some false = some (groupB g) := fun h => by
    cases hg : groupB g with
    | true => exact (h hg).elim
    | false => rfl
  rw [impl_goodGroup.f_eq, iIn, sB]
  by_cases ha : 0 ≤ g.1 ∧ g.1 ≤ 999
  case neg => rw [bifNT ha]; exact no (P := True) fun h => ha (group_in h).1
  rw [bifNF ha, iIn, sB]
  by_cases hb : 0 ≤ g.2.1 ∧ g.2.1 ≤ 999
  case neg => rw [bifNT hb]; exact no (P := True) fun h => hb (group_in h).2.1
  rw [bifNF hb, iIn, sB]
  by_cases hc : (1 : Int) ≤ (g.2.2.length : Int) ∧ (g.2.2.length : Int) ≤ 80
  case neg =>
    rw [bifNT hc]
    refine no (P := True) fun h => hc ⟨?_, by have := group_in h; omega⟩
    have ha := group_any h
    cases hg : g.2.2 with
    | nil => rw [hg] at ha; cases ha
    | cons r l => simp only [List.length_cons]; omega
  rw [bifNF hc, impl_goodGroup.l7_eq]
  exact iGroup_l g hl ha hb (by omega)
/-- groups of a size that is let through -/
def SmG (g : YGroupS) : Prop := g.length ≤ 1048576 ∧ ∀ x ∈ g, SmR x.2.2
def gA (x : YGroup) : Int := x.1 + ((side 3 x.2.2).length : Int)
def gB (x : YGroup) : Int := x.2.1 + ((side 2 x.2.2).length : Int)
def groupsB : Int → Int → YGroupS → Bool
  | _, _, [] => true
  | a, b, x :: r => groupB x && (decide (a ≤ x.1 ∧ b ≤ x.2.1) && groupsB (gA x) (gB x) r)
def gsB (g : YGroupS) : Bool := groupsB 0 0 g && decide (g.length ≤ 20)
def pA (g : YGroupS) (i : Nat) : Int := if i = 0 then 0 else gA (g.getD (i - 1) (0, 0, []))
def pB (g : YGroupS) (i : Nat) : Int := if i = 0 then 0 else gB (g.getD (i - 1) (0, 0, []))
theorem groups_step (g : YGroupS) {i : Nat} (hi : i < g.length) : groupsB (pA g i) (pB g i) (g.drop i) = (groupB (g.getD i (0, 0, [])) && (decide (pA g i ≤ (g.getD i (0, 0, [])).1 ∧ pB g i ≤ (g.getD i (0, 0, [])).2.1) && groupsB (pA g (i + 1)) (pB g (i + 1)) (g.drop (i + 1)))) := by
  have h1 : pA g (i + 1) = gA (g.getD i (0, 0, [])) := by unfold pA; rw [if_neg (by omega)]; rfl
  have h2 : pB g (i + 1) = gB (g.getD i (0, 0, [])) := by unfold pB; rw [if_neg (by omega)]; rfl
  rw [h1, h2, drop_at hi (0, 0, [])]; rfl
theorem sGroups (g : YGroupS) (hg : SmG g) : spec_l6Good.f g = some (gsB g) := by
  have hL := hg.1
  have key : ∀ i, i ≤ g.length → (0 < i → groupB (g.getD (i - 1) (0, 0, [])) = true) → spec_l6Good.l4 g g (g.length : Int) (i : Int) = some (groupsB (pA g i) (pB g i) (g.drop i) && decide (g.length ≤ 20)) := by
    apply downTo
    · intro _
      rw [spec_l6Good.l4_eq, bifF (by omega), List.drop_eq_nil_of_le (by omega)]
      show _ = some (true && _)
      rw [Bool.true_and]; congr 1; rw [decide_eq_decide]; omega
    · intro i hi ih hprev
      have hsm := hg.2 _ (getD_mem hi (0, 0, []))
      rw [groups_step g hi, spec_l6Good.l4_eq, bifT (by omega), bif2T (by omega) (by omega), up1 (by omega)]
      simp only [Int.toNat_natCast]
      rw [sGroup _ hsm, sB]
      cases hx : groupB (g.getD i (0, 0, [])) with
      | false => rw [notF, Bool.false_and, Bool.false_and]
      | true =>
        have nxt := ih (fun _ => by rw [Nat.add_sub_cancel]; exact hx)
        obtain ⟨q1, q2, q3, q4, q5⟩ := group_in hx
        rw [notT, Bool.true_and]
        by_cases c7 : (i : Int) > 0
        · have hpr := hprev (by omega)
          obtain ⟨r1, r2, r3, r4, r5⟩ := group_in hpr
          have hsp := hg.2 _ (getD_mem (l := g) (i := i - 1) (by omega) (0, 0, []))
          have e1 : pA g i = gA (g.getD (i - 1) (0, 0, [])) := by unfold pA; rw [if_neg (by omega)]
          have e2 : pB g i = gB (g.getD (i - 1) (0, 0, [])) := by unfold pB; rw [if_neg (by omega)]
          rw [bifT c7, dn1 (by omega) (by omega)]
          simp only [Int.toNat_natCast]
          unfold gA at e1
          unfold gB at e2
          have w1 : w64 ((g.getD (i - 1) (0, 0, [])).1 + ((side 3 (g.getD (i - 1) (0, 0, [])).2.2).length : Int)) = pA g i := by rw [w64_id (by omega) (by omega)]; exact e1.symm
          have w2 : w64 ((g.getD (i - 1) (0, 0, [])).2.1 + ((side 2 (g.getD (i - 1) (0, 0, [])).2.2).length : Int)) = pB g i := by rw [w64_id (by omega) (by omega)]; exact e2.symm
          rw [bif2T (by omega) (by omega), bif2T (by omega) (by omega), sOld _ hsp.1, sB]
          simp only [w1]
          by_cases c1 : (g.getD i (0, 0, [])).1 < pA g i
          · rw [bifT c1, decide_eq_false (show ¬ (pA g i ≤ (g.getD i (0, 0, [])).1 ∧ pB g i ≤ (g.getD i (0, 0, [])).2.1) by omega), Bool.false_and, Bool.false_and]
          rw [bifF c1, bif2T (by omega) (by omega), bif2T (by omega) (by omega), sNew _ hsp.1, sB]
          simp only [w2]
          by_cases c2 : (g.getD i (0, 0, [])).2.1 < pB g i
          · rw [bifT c2, decide_eq_false (show ¬ (pA g i ≤ (g.getD i (0, 0, [])).1 ∧ pB g i ≤ (g.getD i (0, 0, [])).2.1) by omega), Bool.false_and, Bool.false_and]
          rw [bifF c2, decide_eq_true (show pA g i ≤ (g.getD i (0, 0, [])).1 ∧ pB g i ≤ (g.getD i (0, 0, [])).2.1 by omega), Bool.true_and]
          exact nxt
        · have e1 : pA g i = 0 := by unfold pA; rw [if_pos (by omega)]
          have e2 : pB g i = 0 := by unfold pB; rw [if_pos (by omega)]
          rw [bifF c7, decide_eq_true (show pA g i ≤ (g.getD i (0, 0, [])).1 ∧ pB g i ≤ (g.getD i (0, 0, [])).2.1 by omega), Bool.true_and]
          exact nxt
  rw [spec_l6Good.f_eq]
  exact key 0 (by omega) (fun h => absurd h (Nat.lt_irrefl 0))
theorem iGroups (g : YGroupS) (hg : SmG g) : impl_goodGroups.f g = some (gsB g) := by
  have hL := hg.1
  have key : ∀ i, i ≤ g.length → (0 < i → groupB (g.getD (i - 1) (0, 0, [])) = true) → impl_goodGroups.l8 g g (g.length : Int) (i : Int) = some (groupsB (pA g i) (pB g i) (g.drop i)) := by
    apply downTo
    · intro _
      rw [impl_goodGroups.l8_eq, bifF (by omega), List.drop_eq_nil_of_le (by omega)]; rfl
    · intro i hi ih hprev
      have hsm := hg.2 _ (getD_mem hi (0, 0, []))
      rw [groups_step g hi, impl_goodGroups.l8_eq, bifT (by omega), bif2T (by omega) (by omega), up1 (by omega)]
      simp only [Int.toNat_natCast]
      rw [iGroup _ hsm, sB]
      cases hx : groupB (g.getD i (0, 0, [])) with
      | false => rw [notF, Bool.false_and]
      | true =>
        have nxt := ih (fun _ => by rw [Nat.add_sub_cancel]; exact hx)
        obtain ⟨q1, q2, q3, q4, q5⟩ := group_in hx
        rw [notT, Bool.true_and]
        by_cases c7 : (i : Int) > 0
        · have hpr := hprev (by omega)
          obtain ⟨r1, r2, r3, r4, r5⟩ := group_in hpr
          have hsp := hg.2 _ (getD_mem (l := g) (i := i - 1) (by omega) (0, 0, []))
          have e1 : pA g i = gA (g.getD (i - 1) (0, 0, [])) := by unfold pA; rw [if_neg (by omega)]
          have e2 : pB g i = gB (g.getD (i - 1) (0, 0, [])) := by unfold pB; rw [if_neg (by omega)]
          rw [bifT c7, dn1 (by omega) (by omega)]
          simp only [Int.toNat_natCast]
          unfold gA at e1
          unfold gB at e2
          have w1 : w64 ((g.getD (i - 1) (0, 0, [])).1 + ((side 3 (g.getD (i - 1) (0, 0, [])).2.2).length : Int)) = pA g i := by rw [w64_id (by omega) (by omega)]; exact e1.symm
          have w2 : w64 ((g.getD (i - 1) (0, 0, [])).2.1 + ((side 2 (g.getD (i - 1) (0, 0, [])).2.2).length : Int)) = pB g i := by rw [w64_id (by omega) (by omega)]; exact e2.symm
          rw [bif2T (by omega) (by omega), bif2T (by omega) (by omega), iOld _ hsp.1, sB]
          simp only [w1]
          by_cases c1 : (g.getD i (0, 0, [])).1 < pA g i
          · rw [bifT c1, decide_eq_false (show ¬ (pA g i ≤ (g.getD i (0, 0, [])).1 ∧ pB g i ≤ (g.getD i (0, 0, [])).2.1) by omega), Bool.false_and]
          rw [bifF c1, bif2T (by omega) (by omega), bif2T (by omega) (by omega), iNew _ hsp.1, sB]
          simp only [w2]
          by_cases c2 : (g.getD i (0, 0, [])).2.1 < pB g i
          · rw [bifT c2, decide_eq_false (show ¬ (pA g i ≤ (g.getD i (0, 0, [])).1 ∧ pB g i ≤ (g.getD i (0, 0, [])).2.1) by omega), Bool.false_and]
          rw [bifF c2, decide_eq_true (show pA g i ≤ (g.getD i (0, 0, [])).1 ∧ pB g i ≤ (g.getD i (0, 0, [])).2.1 by omega), Bool.true_and]
          exact nxt
        · have e1 : pA g i = 0 := by unfold pA; rw [if_pos (by omega)]
          have e2 : pB g i = 0 := by unfold pB; rw [if_pos (by omega)]
          rw [bifF c7, decide_eq_true (show pA g i ≤ (g.getD i (0, 0, [])).1 ∧ pB g i ≤ (g.getD i (0, 0, [])).2.1 by omega), Bool.true_and]
          exact nxt
  rw [impl_goodGroups.f_eq, gsB]
  by_cases h : (g.length : Int) > 20
  · rw [bifT h, decide_eq_false (show ¬ g.length ≤ 20 by omega), Bool.and_false]
  · rw [bifF h, decide_eq_true (show g.length ≤ 20 by omega), Bool.and_true]
    exact key 0 (by omega) (fun h => absurd h (Nat.lt_irrefl 0))
theorem groups_in : ∀ {g : YGroupS} {a b : Int}, groupsB a b g = true → ∀ x ∈ g, groupB x = true
  | y :: r, a, b, h, x, hx => by
    simp only [groupsB, Bool.and_eq_true] at h
    rcases List.mem_cons.1 hx with rfl | hx
    · exact h.1
    · exact groups_in h.2.2 x hx
theorem gs_len {g : YGroupS} (h : gsB g = true) : g.length ≤ 20 := by
  unfold gsB at h
  simp only [Bool.and_eq_true, decide_eq_true_eq] at h
  exact h.2
theorem gs_in {g : YGroupS} (h : gsB g = true) : ∀ x ∈ g, groupB x = true := by
  unfold gsB at h
  simp only [Bool.and_eq_true] at h
  exact groups_in h.1
theorem smT_of {a : YStringS} (h : mStringS a ≤ 1048576) : Sm a := by
  have h2 : a.length + tot ByteArray.size a ≤ 1048576 := h
  exact ⟨by omega, fun s hs => by have := tot_mem ByteArray.size hs; omega⟩
theorem smR_of {a : YRowS} (h : mRowS a ≤ 1048576) : SmR a := by
  have h2 : a.length + tot mRow a ≤ 1048576 := h
  exact ⟨by omega, fun s hs => by have h3 : mRow s ≤ tot mRow a := tot_mem mRow hs; have h4 : s.2.size ≤ mRow s := Nat.le_refl _; omega⟩
theorem smG_of {a : YGroupS} (h : mGroupS a ≤ 1048576) : SmG a := by
  have h2 : a.length + tot mGroup a ≤ 1048576 := h
  exact ⟨by omega, fun s hs => smR_of (by have h3 : mGroup s ≤ tot mGroup a := tot_mem mGroup hs; have h4 : mRowS s.2.2 ≤ mGroup s := Nat.le_refl _; omega)⟩
theorem ownT (l : T) (h : l.length ≤ 1048576) : spec_l1OwnT.f l = some l := by
  rw [spec_l1OwnT.f_eq, room16, bifT (by simp; omega), List.nil_append]
theorem cloneT (l : T) (h : l.length ≤ 1048576) : slices_Clone_Lstring_string.f l = some l := by
  show clone1 16 l = _
  rw [clone1, room16, bifT (by omega)]
theorem sSameT (a b : T) (ha : a.length ≤ 140737488351232) (hb : b.length ≤ 140737488351232) : spec_l1SameT.f a b = some (decide (a = b)) := by
  rw [spec_l1SameT.f_eq]
  by_cases hl : a.length = b.length
  · rw [bifNF (by omega)]
    have key : ∀ i, i ≤ a.length → spec_l1SameT.l8 a b (a.length : Int) (i : Int) = some (decide (a.drop i = b.drop i)) := by
      apply downTo
      · rw [spec_l1SameT.l8_eq, bifF (by omega)]
        simp [List.drop_eq_nil_of_le, hl]
      · intro i hi ih
        rw [spec_l1SameT.l8_eq, bifT (by omega), bif2T (by omega) (by omega), bif2T (by omega) (by omega), up1 (by omega)]
        simp only [Int.toNat_natCast, toList_beq]
        rw [drop_at hi em, drop_at (l := b) (by omega) em]
        by_cases h : a.getD i em = b.getD i em
        · rw [bifNF h, ih]; simp only [List.cons.injEq, h, true_and]
        · rw [bifNT h]; simp only [List.cons.injEq, h, false_and, decide_false]
    have := key 0 (by omega)
    simpa using this
  · rw [bifNT (by omega)]
    rw [decide_eq_false (fun e => hl (by rw [e]))]
theorem iEqT (a b : T) (ha : a.length ≤ 140737488351232) (hb : b.length ≤ 140737488351232) : slices_Equal_Lstring_string.f a b = some (decide (a = b)) := by
  rw [slices_Equal_Lstring_string.f_eq]
  by_cases hl : a.length = b.length
  · rw [bifNF (by omega)]
    have key : ∀ i, i ≤ a.length → slices_Equal_Lstring_string.l8 a b (a.length : Int) (i : Int) = some (decide (a.drop i = b.drop i)) := by
      apply downTo
      · rw [slices_Equal_Lstring_string.l8_eq, bifF (by omega)]
        simp [List.drop_eq_nil_of_le, hl]
      · intro i hi ih
        rw [slices_Equal_Lstring_string.l8_eq, bifT (by omega), bif2T (by omega) (by omega), bif2T (by omega) (by omega), up1 (by omega)]
        simp only [Int.toNat_natCast, toList_beq]
        rw [drop_at hi em, drop_at (l := b) (by omega) em]
        by_cases h : a.getD i em = b.getD i em
        · rw [bifNF h, ih]; simp only [List.cons.injEq, h, true_and]
        · rw [bifNT h]; simp only [List.cons.injEq, h, false_and, decide_false]
    have := key 0 (by omega)
    simpa using this
  · rw [bifNT (by omega)]
    rw [decide_eq_false (fun e => hl (by rw [e]))]
/-- the part stands there -/
def fitsB (l part : T) (k : Int) : Bool := decide ((0 ≤ k ∧ k ≤ (l.length : Int) - part.length) ∧ (l.take (k + part.length).toNat).drop k.toNat = part)
theorem sFits (l part : T) (k : Int) (hl : l.length ≤ 1048576) (hp : part.length ≤ 1048576) : spec_l16Fits.f l part k = some (fitsB l part k) := by
  rw [spec_l16Fits.f_eq, w64_id (x := (l.length : Int) - part.length) (by omega) (by omega), sIn, sB, fitsB]
  by_cases h : 0 ≤ k ∧ k ≤ (l.length : Int) - part.length
  · have hw : w64 (k + (part.length : Int)) = k + part.length := w64_id (by omega) (by omega)
    rw [bifT h]
    simp only [hw]
    rw [bif3T (by omega) (by omega) (by omega), sSameT _ _ (by rw [List.length_drop, List.length_take]; omega) (by omega), sB]
    congr 1; rw [decide_eq_decide]; exact ⟨fun g => ⟨h, g⟩, fun g => g.2⟩
  · rw [bifF h, decide_eq_false (fun g => h g.1)]
theorem iStands (l part : T) (k : Int) (hl : l.length ≤ 1048576) (hp : part.length ≤ 1048576) : impl_stands.f l part k = some (fitsB l part k) := by
  rw [impl_stands.f_eq, w64_id (x := (l.length : Int) - part.length) (by omega) (by omega), iIn, sB, fitsB]
  by_cases h : 0 ≤ k ∧ k ≤ (l.length : Int) - part.length
  · have hw : w64 (k + (part.length : Int)) = k + part.length := w64_id (by omega) (by omega)
    rw [bifT h]
    simp only [hw]
    rw [bif3T (by omega) (by omega) (by omega), iEqT _ _ (by rw [List.length_drop, List.length_take]; omega) (by omega), sB]
    congr 1; rw [decide_eq_decide]; exact ⟨fun g => ⟨h, g⟩, fun g => g.2⟩
  · rw [bifF h, decide_eq_false (fun g => h g.1)]
theorem near_both (l part : T) (a : Int) (far : Nat) (hl : l.length ≤ 1048576) (hp : part.length ≤ 1048576) (ha : -1000000000 ≤ a ∧ a ≤ 1000000000) (hf : far ≤ 40) :
    ∃ r : Int, spec_l16Near.f l part a (far : Int) = some r ∧ impl_near.f l part a (far : Int) = some r ∧ (r < 0 ∨ fitsB l part r = true) := by
  rw [spec_l16Near.f_eq, impl_near.f_eq, up1 (by omega)]
  have key : ∀ i, i ≤ far + 1 → ∃ r : Int, spec_l16Near.l4 l part a (far : Int) (i : Int) = some r ∧ impl_near.l4 l part a ((far + 1 : Nat) : Int) (i : Int) = some r ∧ (r < 0 ∨ fitsB l part r = true) := by
    apply downTo
    · rw [spec_l16Near.l4_eq, impl_near.l4_eq, bifF (by omega), bifF (by omega)]
      exact ⟨-1, rfl, rfl, .inl (by omega)⟩
    · intro i hi ih
      rw [spec_l16Near.l4_eq, impl_near.l4_eq, bifT (by omega), bifT (by omega), w64_id (x := a - (i : Int)) (by omega) (by omega), w64_id (x := a + (i : Int)) (by omega) (by omega), up1 (by omega),
        sFits l part _ hl hp, sFits l part _ hl hp, iStands l part _ hl hp, iStands l part _ hl hp]
      simp only [sB]
      cases h1 : fitsB l part (a - (i : Int)) with
      | true => exact ⟨_, rfl, rfl, .inr h1⟩
      | false =>
        cases h2 : fitsB l part (a + (i : Int)) with
        | true => exact ⟨_, rfl, rfl, .inr h2⟩
        | false => exact ih
  exact key 0 (by omega)
theorem fits_in {l part : T} {r : Int} (h : fitsB l part r = true) : 0 ≤ r ∧ r + (part.length : Int) ≤ (l.length : Int) := by
  have := (of_decide_eq_true h).1
  omega
theorem sides_len : ∀ l : YRowS, l.length ≤ (side 3 l).length + (side 2 l).length
  | [] => Nat.le_refl _
  | r :: l => by
    have ih := sides_len l
    rw [side_cons, side_cons]
    by_cases h3 : r.1 = 3
    · rw [if_pos h3, if_neg (by omega)]; simp only [List.length_cons]; omega
    · rw [if_neg h3]
      by_cases h2 : r.1 = 2
      · rw [if_pos h2]; simp only [List.length_cons]; omega
      · rw [if_neg h2]; simp only [List.length_cons]; omega
theorem group_some {g : YGroup} (h : groupB g = true) : 0 < (side 3 g.2.2).length + (side 2 g.2.2).length := by
  have h1 := group_any h
  have h2 := sides_len g.2.2
  cases hr : g.2.2 with
  | nil => rw [hr] at h1; cases h1
  | cons r l => rw [hr, List.length_cons] at h2; omega
/-- a length of small parts -/
theorem replaceT (l v : T) (a b : Nat) (hab : a ≤ b) (hb : b ≤ l.length) (h0 : a < b ∨ 0 < v.length) (hl : l.length ≤ 1048576) (hv : v.length ≤ 1048576) :
    slices_Replace_Lstring_string.f l (a : Int) (b : Int) v = some (l.take a ++ v ++ l.drop b) := by
  show rep1 l (a : Int) (b : Int) v = _
  have : repOk l (a : Int) (b : Int) v = true := by
    unfold repOk
    rw [decide_eq_true (by omega), decide_eq_true (by omega), decide_eq_true (by omega), decide_eq_true (by omega : l.length + v.length ≤ 8796093022208)]
    rcases h0 with h | h
    · rw [decide_eq_true (by omega : (a : Int) < (b : Int))]; rfl
    · rw [decide_eq_true h, Bool.or_true]; rfl
  rw [rep1, this, cond_true, Int.toNat_natCast, Int.toNat_natCast]
theorem near_loop (g : YGroupS) (far : Nat) (hg : SmG g) (h20 : g.length ≤ 20) (hG : ∀ x ∈ g, groupB x = true) (hf : far ≤ 40) :
    ∀ i, i ≤ g.length → ∀ (out : T) (pl : List Int) (by_ : Int), Sm out → out.length ≤ 40 + 40 * i → pl.length = i → -3000 ≤ by_ → by_ ≤ 3000 →
      ∃ r : T × List Int × Int × Bool, spec_ApplyNear.l14 (far : Int) out pl by_ g (g.length : Int) (i : Int) = some r ∧ impl_ApplyNear.l10 (far : Int) out pl by_ g (g.length : Int) (i : Int) = some r ∧
        (r.2.2.2 = true ∧ (r.1 = [] ∧ r.2.1 = [] ∧ r.2.2.1 = 2 ∨ goodB r.1 = true ∧ r.2.1.length = g.length ∧ r.2.2.1 = 0)) := by
  apply downTo
  · intro out pl by_ ho h1 h2 h3 h4
    rw [spec_ApplyNear.l14_eq, impl_ApplyNear.l10_eq, bifF (by omega), bifF (by omega), sGood out ho, iGood out ho]
    simp only [sB]
    cases h : goodB out with
    | false => exact ⟨_, rfl, rfl, rfl, .inl ⟨rfl, rfl, rfl⟩⟩
    | true => exact ⟨_, rfl, rfl, rfl, .inr ⟨h, h2, rfl⟩⟩
  · intro i hi ih out pl by_ ho h1 h2 h3 h4
    have hm := getD_mem hi ((0, 0, []) : YGroup)
    have hx := hG _ hm
    have hin := group_in hx
    have hsm := hg.2 _ hm
    rw [spec_ApplyNear.l14_eq, impl_ApplyNear.l10_eq, bifT (by omega), bif2T (by omega) (by omega), bifT (by omega), bif2T (by omega) (by omega)]
    simp only [Int.toNat_natCast]
    generalize g.getD i (0, 0, []) = x at hx hin hsm hm ⊢
    have ha := good_len (group_sides hx).1
    have hb := good_len (group_sides hx).2
    have hs := group_some hx
    rw [sOld x hsm.1, sNew x hsm.1, iOld x hsm.1, iNew x hsm.1, w64_id (x := x.1 + by_) (by omega) (by omega)]
    simp only [sB]
    obtain ⟨r, e1, e2, e3⟩ := near_both out (side 3 x.2.2) (x.1 + by_) far (by omega) (by omega) (by omega) hf
    rw [e1, e2]
    simp only [sB]
    by_cases hr : r < 0
    · rw [bifT hr, bifT hr]
      exact ⟨_, rfl, rfl, rfl, .inl ⟨rfl, rfl, rfl⟩⟩
    · have hfit := fits_in (e3.resolve_left hr)
      obtain ⟨k, rfl⟩ : ∃ k : Nat, r = (k : Int) := ⟨r.toNat, by omega⟩
      have hw : w64 ((k : Int) + ((side 3 x.2.2).length : Int)) = ((k + (side 3 x.2.2).length : Nat) : Int) := by rw [w64_id (by omega) (by omega)]; omega
      have hw2 : w64 (w64 (w64 ((k : Int) - x.1) + ((side 2 x.2.2).length : Int)) - ((side 3 x.2.2).length : Int)) = (k : Int) - x.1 + ((side 2 x.2.2).length : Int) - ((side 3 x.2.2).length : Int) := by
        rw [w64_id (x := (k : Int) - x.1) (by omega) (by omega), w64_id (x := (k : Int) - x.1 + _) (by omega) (by omega), w64_id (by omega) (by omega)]
      rw [bifF hr, bifF hr, hw, hw2, replaceT out (side 2 x.2.2) k (k + (side 3 x.2.2).length) (by omega) (by omega) (by omega) (by omega) (by omega), up1 (by omega)]
      simp only [sB, Int.toNat_natCast]
      rw [room8, room16, ownT _ (by rw [List.length_take]; omega)]
      simp only [sB, List.length_append, List.length_take, List.length_drop, List.length_singleton]
      rw [bifT (by omega), bif2T (by omega) (by omega), bifT (by omega), bif2T (by omega) (by omega), bifT (by omega), bifT (by omega)]
      refine ih _ _ _ ⟨?_, fun s hs => ?_⟩ ?_ ?_ (by omega) (by omega)
      · simp only [List.length_append, List.length_take, List.length_drop]; omega
      · rcases List.mem_append.1 hs with hs | hs
        · rcases List.mem_append.1 hs with hs | hs
          · exact ho.2 _ (List.mem_of_mem_take hs)
          · exact (side_sm 2 hsm).2 _ hs
        · exact ho.2 _ (List.mem_of_mem_drop hs)
      · simp only [List.length_append, List.length_take, List.length_drop]; omega
      · rw [List.length_append, h2]; rfl
theorem iFar (f : Int) : impl_isFar.f f = some (decide (0 ≤ f ∧ f ≤ 40)) := by
  rw [impl_isFar.f_eq, iIn, sB]
theorem applyNear_both (l : T) (g : YGroupS) (far : Int) (hl : Sm l) (hg : SmG g) :
    ∃ r : T × List Int × Int × Bool, spec_ApplyNear.f l g far = some r ∧ impl_ApplyNear.f l g far = some r ∧
      (r.2.2.2 = true → goodB l = true ∧ gsB g = true ∧ (r.1 = [] ∧ r.2.1 = [] ∧ r.2.2.1 = 2 ∨ goodB r.1 = true ∧ r.2.1.length = g.length ∧ r.2.2.1 = 0)) ∧ (r.2.2.2 = false → r.1 = [] ∧ r.2.1 = [] ∧ r.2.2.1 = 0) := by
  rw [spec_ApplyNear.f_eq, impl_ApplyNear.f_eq, sGood l hl, iGood l hl, sB, sB]
  cases hgl : goodB l with
  | false => exact ⟨_, rfl, rfl, fun h => (nomatch h), fun _ => ⟨rfl, rfl, rfl⟩⟩
  | true =>
    rw [notT, notT, sGroups g hg, iGroups g hg, sB, sB]
    cases hgg : gsB g with
    | false => exact ⟨_, rfl, rfl, fun h => (nomatch h), fun _ => ⟨rfl, rfl, rfl⟩⟩
    | true =>
      rw [notT, notT, sIn, iFar, sB, sB]
      by_cases hf : 0 ≤ far ∧ far ≤ 40
      · rw [bifNF hf, bifNF hf, spec_ApplyNear.l7_eq, impl_ApplyNear.l7_eq, ownT l hl.1, cloneT l hl.1, sB, sB]
        obtain ⟨k, rfl⟩ : ∃ k : Nat, far = (k : Int) := ⟨far.toNat, by omega⟩
        obtain ⟨r, e1, e2, e3⟩ := near_loop g k hg (gs_len hgg) (gs_in hgg) (by omega) 0 (by omega) l [] 0 hl (by have := good_len hgl; omega) rfl (by omega) (by omega)
        exact ⟨r, e1, e2, fun _ => ⟨rfl, rfl, e3.2⟩, fun h => by rw [e3.1] at h; cases h⟩
      · rw [bifNT hf, bifNT hf]
        exact ⟨_, rfl, rfl, fun h => (nomatch h), fun _ => ⟨rfl, rfl, rfl⟩⟩
theorem zStringS_len (l : T) (h : l.length ≤ 1048576) : zStringS l ≤ 1099511627776 := by
  have := tot_le zString 1 (l := l) fun x _ => Nat.le_refl 1
  unfold zStringS; omega
theorem zIntS_len (l : List Int) (h : l.length ≤ 1048576) : zIntS l ≤ 1099511627776 := by
  have := tot_le zInt 1 (l := l) fun x _ => Nat.le_refl 1
  unfold zIntS; omega
theorem ApplyNear_ex (l : T) (g : YGroupS) (far : Int) (h1 : mStringS l ≤ 1048576) (h2 : mGroupS g ≤ 1048576) :
    ∃ r : T × List Int × Int × Bool, spec_ApplyNear.f l g far = some r ∧ impl_ApplyNear.f l g far = some r ∧ zStringS r.1 ≤ 1099511627776 ∧ zIntS r.2.1 ≤ 1099511627776 := by
  obtain ⟨r, e1, e2, e3, e4⟩ := applyNear_both l g far (smT_of h1) (smG_of h2)
  refine ⟨r, e1, e2, ?_⟩
  cases hr : r.2.2.2 with
  | false =>
    obtain ⟨q1, q2, _⟩ := e4 hr
    rw [q1, q2]; exact ⟨by decide, by decide⟩
  | true =>
    obtain ⟨_, hgg, ⟨q1, q2, _⟩ | ⟨q1, q2, _⟩⟩ := e3 hr
    · rw [q1, q2]; exact ⟨by decide, by decide⟩
    · exact ⟨zStringS_len _ (by have := good_len q1; omega), zIntS_len _ (by have := gs_len hgg; omega)⟩
theorem FnExactApplyNear (l0 : YStringS) (l1 : YGroupS) (l2 : Int) (g0 : Bd (.list .str) l0) (g1 : Bd (.list (.pair (.int .i64) (.pair (.int .i64) (.one (.list (.pair (.int .i64) (.one .str))))))) l1) (g2 : Bd (.int .i64) l2) : laws_FnExactApplyNear.f l0 l1 l2 = some true := by
  rw [laws_FnExactApplyNear.f_eq]
  rw [szStringS l0 (1048576) (bdStringS _ g0) (by omega) (by omega), sB]
  by_cases c0 : ((mStringS l0 : Nat) : Int) ≤ 1048576
  case neg => rw [szR_neg c0, bifT (by omega)]
  rw [szR_pos c0, bifF (by omega)]
  rw [szGroupS l1 (1048576 - ((mStringS l0 : Nat) : Int)) (bdGroupS _ g1) (by omega) (by omega), sB]
  by_cases c1 : ((mGroupS l1 : Nat) : Int) ≤ 1048576 - ((mStringS l0 : Nat) : Int)
  case neg => rw [szR_neg c1, bifT (by omega)]
  rw [szR_pos c1, bifF (by omega)]
  obtain ⟨r, hs, hi, z0, z1⟩ := ApplyNear_ex l0 l1 l2 (by omega) (by omega)
  have u0 := zmStringS l0
  have v0 := czStringS l0
  have t0 := toStringS l0 (by omega)
  have q0 := eqStringS l0 (by omega)
  have k0 := markStringS l0 (1) (by omega) (by omega) (by omega)
  have u1 := zmGroupS l1
  have v1 := czGroupS l1
  have t1 := toGroupS l1 (by omega)
  have q1 := eqGroupS l1 (by omega)
  have k1 := markGroupS l1 (1 + ((cStringS l0 : Nat) : Int)) (by omega) (by omega) (by omega)
  have n0 : decide (1 + ((cStringS l0 : Nat) : Int) + ((cGroupS l1 : Nat) : Int) < 0) = false := decide_eq_false (by omega)
  have y0 := czStringS r.1
  have e0 := eqStringS r.1 (by omega)
  have m0 := markStringS r.1 (1) (by omega) (by omega) (by omega)
  have h0 := heldStringS r.1 (1) (by omega) (by omega) (by omega)
  have p0 : decide (1 + ((cStringS r.1 : Nat) : Int) < 0) = false := decide_eq_false (by omega)
  have y1 := czIntS r.2.1
  have e1 := eqIntS r.2.1 (by omega)
  have m1 := markIntS r.2.1 (1 + ((cStringS r.1 : Nat) : Int)) (by omega) (by omega) (by omega)
  have h1 := heldIntS r.2.1 (1 + ((cStringS r.1 : Nat) : Int)) (by omega) (by omega) (by omega)
  have p1 : decide (1 + ((cStringS r.1 : Nat) : Int) + ((cIntS r.2.1 : Nat) : Int) < 0) = false := decide_eq_false (by omega)
  simp only [hs, hi, t0, q0, k0, t1, q1, k1, n0, e0, m0, h0, p0, e1, m1, h1, p1, sB, notT, cond_false, cond_true, Bool.not_true, Bool.not_false, beq_self_eq_true, decide_true, laws_FnExactApplyNear.l29_eq, laws_FnExactApplyNear.l47_eq, laws_FnExactApplyNear.l77_eq]
end Go.Abs.G
