import Derived.Test.YtpnhpbeoibaaeaaG
import Derived.Test.YtpnhpbeoibaaeaaPA
import Derived.Lib.IndexAny
set_option linter.unusedVariables false
set_option linter.unusedSimpArgs false
set_option linter.unusedSectionVars false
namespace Go.Abs.G
open Go Go.Abs
/-- the text of a mark: that there is one is all that is asked -/
theorem markText (k : Int) (h : k ≤ 8796093022208) : ∃ t : ByteArray, laws_markText.f k = some t := by
  rw [laws_markText.f_eq]
  by_cases h0 : k ≤ 0
  · exact ⟨_, bifT h0⟩
  · rw [bifF h0]
    have key : ∀ (n : Nat) (k : Nat) (out : ByteArray), k ≤ n → out.size + k ≤ 17592186044416 → ∃ t, laws_markText.l8 (k : Int) out = some t := by
      intro n
      induction n with
      | zero =>
        intro k out hk ho
        rw [laws_markText.l8_eq, bifF (by omega)]
        exact ⟨_, bifT (by show 1 + out.size ≤ _; omega)⟩
      | succ n ih =>
        intro k out hk ho
        rw [laws_markText.l8_eq]
        by_cases hk0 : (k : Int) > 0
        · rw [bifT hk0]
          have e : ((k : Int).tdiv 10) = ((k / 10 : Nat) : Int) := by rw [Int.tdiv_eq_ediv_of_nonneg (by omega)]; omega
          rw [e, w64_id (x := ((k / 10 : Nat) : Int)) (by omega) (by omega)]
          have hs : (strOf [IntKind.wrap .u8 (w64 (48 + (k : Int).tmod 10))]).size = 1 := rfl
          rw [bifT (by rw [hs]; omega)]
          exact ih _ _ (by omega) (by rw [ByteArray.size_append, hs]; omega)
        · rw [bifF hk0]
          exact ⟨_, bifT (by show 1 + out.size ≤ _; omega)⟩
    obtain ⟨t, ht⟩ := key k.toNat k.toNat em (Nat.le_refl _) (by show 0 + k.toNat ≤ _; omega)
    rw [Int.toNat_of_nonneg (by omega)] at ht
    exact ⟨t, ht⟩
/-- the mark of a number -/
noncomputable def mk (k : Int) : ByteArray := (laws_markText.f k).getD em
theorem mk_eq {k : Int} (h : k ≤ 8796093022208) : laws_markText.f k = some (mk k) := by
  obtain ⟨t, ht⟩ := markText k h
  rw [mk, ht]; rfl
def cString (_ : ByteArray) : Nat := 1
def zString (_ : ByteArray) : Nat := 1
abbrev T := List ByteArray
abbrev YString := ByteArray
abbrev yString : ByteArray := em
abbrev YStringS := List YString
def mStringS (a : YStringS) : Nat := a.length + tot ByteArray.size a
def cStringS (a : YStringS) : Nat := tot cString a
def zStringS (a : YStringS) : Nat := a.length + tot zString a
def BgStringS (a : YStringS) : Prop := a.length ≤ 140737488351232 ∧ ∀ x ∈ a, x.size ≤ 140737488351232
theorem czStringS (a : YStringS) : cStringS a ≤ zStringS a := by
  have h := tot_mono cString zString (fun x => Nat.le_refl _) a
  unfold cStringS zStringS
  omega
theorem zmStringS (a : YStringS) : zStringS a ≤ 8 * mStringS a := by
  have h := tot_seven zString ByteArray.size (fun x => by unfold zString; omega) a
  unfold zStringS mStringS
  omega
theorem bdStringS (x : YStringS) (h : Bd (.list .str) x) : BgStringS x := h
theorem szStringS (a : YStringS) (left : Int) (hb : BgStringS a) (h0 : 0 ≤ left) (h1 : left ≤ 1048576) : laws_szStringS.f a left = some (szR (mStringS a) left) := by
  obtain ⟨hb1, hb2⟩ := hb
  rw [laws_szStringS.f_eq]
  refine szTop hb1 h0 h1 (fun l => laws_szStringS.l10 a l 0) fun l h0 h1 => ?_
  refine szGo yString ByteArray.size a (fun l i => laws_szStringS.l10 a l i) (fun l => by show laws_szStringS.l10 a l _ = _; rw [laws_szStringS.l10_eq, bifF (by omega)]) (fun i l hi h2 h3 => ?_) l h0 h1
  have hm := hb2 _ (getD_mem hi yString)
  show laws_szStringS.l10 a l _ = _
  rw [laws_szStringS.l10_eq, bifT (by omega), bif2T (by omega) (by omega), up1 (by omega)]
  simp only [Int.toNat_natCast]
  exact szLeaf _ l hm h2 h3 (fun l => laws_szStringS.l10 a l ((i + 1 : Nat) : Int)) (some (-1))
theorem toStringS (a : YStringS) (hb : mStringS a ≤ 1048576) : laws_toStringS.f a = some a := by
  have hb2 : a.length + tot ByteArray.size a ≤ 1048576 := hb
  rw [laws_toStringS.f_eq, show room 16 = 8796093022208 from by decide, bif2T (by omega) (by omega)]
  refine toGo yString a (fun out i => laws_toStringS.l6 a out i) (fun out => by show laws_toStringS.l6 a out _ = _; rw [laws_toStringS.l6_eq, bifF (by omega)]) (fun i out hi hl => ?_) _ (by simp)
  show laws_toStringS.l6 a out _ = _
  rw [laws_toStringS.l6_eq, bifT (by omega), bif2T (by omega) (by omega)]
  simp only [Int.toNat_natCast]
  rw [bif2T (by omega) (by omega), up1 (by omega)]
theorem eqStringS (a : YStringS) (hb : zStringS a ≤ 4398046511104) : laws_eqStringS.f a a = some true := by
  have hb2 : a.length + tot zString a ≤ 4398046511104 := hb
  rw [laws_eqStringS.f_eq, bifNF rfl]
  refine eqGo (n := a.length) (fun i => laws_eqStringS.l8 a a i) (by show laws_eqStringS.l8 a a _ = _; rw [laws_eqStringS.l8_eq, bifF (by omega)]) fun i hi => ?_
  show laws_eqStringS.l8 a a _ = _
  rw [laws_eqStringS.l8_eq, bifT (by omega), bif2T (by omega) (by omega), bif2T (by omega) (by omega), up1 (by omega)]
  simp only [Int.toNat_natCast]
  rw [toList_beq, bifNF rfl]
noncomputable def mkString (_ : ByteArray) (k : Int) : ByteArray := mk k
noncomputable def mkStringS : YStringS → Int → YStringS := mkL cString mkString
theorem markStringS (a : YStringS) (k : Int) (h0 : 0 ≤ k) (hk : k + cStringS a ≤ 8796093022208) (hb : zStringS a ≤ 4398046511104) : laws_markStringS.f a k = some (k + cStringS a, mkStringS a k) := by
  have hb2 : a.length + tot zString a ≤ 4398046511104 := hb
  rw [laws_markStringS.f_eq]
  refine markGo (fun x => zString x ≤ 4398046511104) cString mkString (fun a k i => laws_markStringS.l4 a k i) (fun a k => by show laws_markStringS.l4 a k _ = _; rw [laws_markStringS.l4_eq, bifF (by omega)]) (fun pre x r k hp hk hc hl => ?_) a [] k (fun x hx => by have := tot_mem zString hx; omega) h0 hk (by simp; omega)
  have hc2 : k + 1 ≤ 8796093022208 := hc
  have e0 : w64 (k + 1) = k + 1 := by rw [w64_id (by omega) (by omega)]
  have f0 : laws_markText.f k = some (mk k) := mk_eq (by omega)
  have eu := up1 (i := pre.length) (by omega)
  show laws_markStringS.l4 _ k _ = laws_markStringS.l4 _ (k + (cString x : Int)) _
  rw [laws_markStringS.l4_eq]
  simp only [List.length_append, List.length_cons, List.length_nil, in0, inMid2, Bool.and_true, cond_true, Int.toNat_natCast, getD_mid, set_mid, eu, sB, e0, f0, mkString]
  rfl
theorem heldStringS (a : YStringS) (k : Int) (h0 : 0 ≤ k) (hk : k + cStringS a ≤ 8796093022208) (hb : zStringS a ≤ 4398046511104) : laws_heldStringS.f (mkStringS a k) k = some (k + cStringS a) := by
  have hb2 : a.length + tot zString a ≤ 4398046511104 := hb
  rw [laws_heldStringS.f_eq]
  generalize hF : mkStringS a k = full
  refine heldGo (fun x => zString x ≤ 4398046511104) cString mkString full (fun k i => laws_heldStringS.l4 full k i) (fun k => by show laws_heldStringS.l4 _ k _ = _; rw [laws_heldStringS.l4_eq, bifF (by omega)]) (fun pre x r k hf hp hk hc hl => ?_) a [] k hF.symm (fun x hx => by have := tot_mem zString hx; omega) h0 hk (by simp; omega)
  have hc2 : k + 1 ≤ 8796093022208 := hc
  have e0 : w64 (k + 1) = k + 1 := by rw [w64_id (by omega) (by omega)]
  have f0 : laws_markText.f k = some (mk k) := mk_eq (by omega)
  have eu := up1 (i := pre.length) (by omega)
  show laws_heldStringS.l4 _ k _ = laws_heldStringS.l4 _ (k + (cString x : Int)) _
  rw [laws_heldStringS.l4_eq, hf]
  simp only [mkString]
  simp only [List.length_append, List.length_cons, List.length_nil, in0, inMid2, Bool.and_true, cond_true, Int.toNat_natCast, getD_mid, eu, sB, e0, f0, toList_beq, decide_true, Bool.not_true, cond_false]
  rfl
abbrev YHunk := Int × Int × List (ByteArray)
/-- how many marks -/
def cHunk (x : YHunk) : Nat := 1 + 1 + cStringS x.2.2
/-- how large -/
def zHunk (x : YHunk) : Nat := 1 + 1 + zStringS x.2.2
noncomputable def mkHunk (x : YHunk) (k : Int) : YHunk := (k, k + 1, mkStringS x.2.2 (k + 2))
theorem czHunk (x : YHunk) : cHunk x ≤ zHunk x := by
  unfold cHunk zHunk
  have h0 := czStringS x.2.2
  omega
theorem eqHunk (x : YHunk) (hb : zHunk x ≤ 4398046511104) : laws_eqHunk.f x x = some true := by
  have hb2 : 1 + 1 + zStringS x.2.2 ≤ 4398046511104 := hb
  rw [laws_eqHunk.f_eq]
  rw [bifNF rfl]
  rw [bifNF rfl]
  rw [eqStringS _ (by omega), sB, notT]
abbrev YHunkS := List YHunk
def cHunkS (a : YHunkS) : Nat := tot cHunk a
def zHunkS (a : YHunkS) : Nat := a.length + tot zHunk a
theorem czHunkS (a : YHunkS) : cHunkS a ≤ zHunkS a := by
  have h := tot_mono cHunk zHunk (fun x => czHunk x) a
  unfold cHunkS zHunkS
  omega
theorem eqHunkS (a : YHunkS) (hb : zHunkS a ≤ 4398046511104) : laws_eqHunkS.f a a = some true := by
  have hb2 : a.length + tot zHunk a ≤ 4398046511104 := hb
  rw [laws_eqHunkS.f_eq, bifNF rfl]
  refine eqGo (n := a.length) (fun i => laws_eqHunkS.l8 a a i) (by show laws_eqHunkS.l8 a a _ = _; rw [laws_eqHunkS.l8_eq, bifF (by omega)]) fun i hi => ?_
  show laws_eqHunkS.l8 a a _ = _
  rw [laws_eqHunkS.l8_eq, bifT (by omega), bif2T (by omega) (by omega), bif2T (by omega) (by omega), up1 (by omega)]
  simp only [Int.toNat_natCast]
  have hm : zHunk (a.getD i (0, 0, [])) ≤ tot zHunk a := tot_mem zHunk (getD_mem hi _)
  rw [eqHunk _ (by omega), sB, notT]
noncomputable def mkHunkS : YHunkS → Int → YHunkS := mkL cHunk mkHunk
theorem markHunkS (a : YHunkS) (k : Int) (h0 : 0 ≤ k) (hk : k + cHunkS a ≤ 8796093022208) (hb : zHunkS a ≤ 4398046511104) : laws_markHunkS.f a k = some (k + cHunkS a, mkHunkS a k) := by
  have hb2 : a.length + tot zHunk a ≤ 4398046511104 := hb
  rw [laws_markHunkS.f_eq]
  refine markGo (fun x => zHunk x ≤ 4398046511104) cHunk mkHunk (fun a k i => laws_markHunkS.l4 a k i) (fun a k => by show laws_markHunkS.l4 a k _ = _; rw [laws_markHunkS.l4_eq, bifF (by omega)]) (fun pre x r k hp hk hc hl => ?_) a [] k (fun x hx => by have := tot_mem zHunk hx; omega) h0 hk (by simp; omega)
  have hz : 1 + 1 + zStringS x.2.2 ≤ 4398046511104 := hp
  have hc2 : k + ((1 + 1 + cStringS x.2.2 : Nat) : Int) ≤ 8796093022208 := hc
  have e0 : w64 (k + 1) = k + 1 := by rw [w64_id (by omega) (by omega)]
  have e1 : w64 (k + 1 + 1) = k + 2 := by rw [w64_id (by omega) (by omega)]; omega
  have f2 : laws_markStringS.f x.2.2 (k + 2) = some (k + 2 + cStringS x.2.2, mkStringS x.2.2 (k + 2)) := markStringS _ _ (by omega) (by omega) (by omega)
  have eu := up1 (i := pre.length) (by omega)
  show laws_markHunkS.l4 _ k _ = laws_markHunkS.l4 _ (k + (cHunk x : Int)) _
  rw [laws_markHunkS.l4_eq]
  simp only [List.length_append, List.length_cons, List.length_nil, in0, inMid2, Bool.and_true, cond_true, Int.toNat_natCast, getD_mid, set_mid, eu, sB, e0, e1, f2, mkHunk]
  all_goals (
    have ec : (cHunk x : Int) = 1 + 1 + (cStringS x.2.2 : Int) := by simp only [cHunk]; omega
    rw [ec]
    congr 1 <;> omega)
theorem heldHunkS (a : YHunkS) (k : Int) (h0 : 0 ≤ k) (hk : k + cHunkS a ≤ 8796093022208) (hb : zHunkS a ≤ 4398046511104) : laws_heldHunkS.f (mkHunkS a k) k = some (k + cHunkS a) := by
  have hb2 : a.length + tot zHunk a ≤ 4398046511104 := hb
  rw [laws_heldHunkS.f_eq]
  generalize hF : mkHunkS a k = full
  refine heldGo (fun x => zHunk x ≤ 4398046511104) cHunk mkHunk full (fun k i => laws_heldHunkS.l4 full k i) (fun k => by show laws_heldHunkS.l4 _ k _ = _; rw [laws_heldHunkS.l4_eq, bifF (by omega)]) (fun pre x r k hf hp hk hc hl => ?_) a [] k hF.symm (fun x hx => by have := tot_mem zHunk hx; omega) h0 hk (by simp; omega)
  have hz : 1 + 1 + zStringS x.2.2 ≤ 4398046511104 := hp
  have hc2 : k + ((1 + 1 + cStringS x.2.2 : Nat) : Int) ≤ 8796093022208 := hc
  have e0 : w64 (k + 1) = k + 1 := by rw [w64_id (by omega) (by omega)]
  have e1 : w64 (k + 1 + 1) = k + 2 := by rw [w64_id (by omega) (by omega)]; omega
  have f2 : laws_heldStringS.f (mkStringS x.2.2 (k + 2)) (k + 2) = some (k + 2 + cStringS x.2.2) := heldStringS _ _ (by omega) (by omega) (by omega)
  have eu := up1 (i := pre.length) (by omega)
  show laws_heldHunkS.l4 _ k _ = laws_heldHunkS.l4 _ (k + (cHunk x : Int)) _
  rw [laws_heldHunkS.l4_eq, hf]
  simp only [mkHunk]
  have n2 : decide (k + 2 + (cStringS x.2.2 : Int) < 0) = false := decide_eq_false (by omega)
  simp only [List.length_append, List.length_cons, List.length_nil, in0, inMid2, Bool.and_true, cond_true, Int.toNat_natCast, getD_mid, eu, sB, e0, e1, f2, toList_beq, decide_true, Bool.not_true, cond_false, n2]
  all_goals (
    have ec : (cHunk x : Int) = 1 + 1 + (cStringS x.2.2 : Int) := by simp only [cHunk]; omega
    rw [ec]
    congr 1 <;> omega)
abbrev YOrder := Int × Int × Int × List (ByteArray)
abbrev yOrder : YOrder := (0, 0, 0, [])
/-- what it takes of what is left -/
def mOrder (x : YOrder) : Nat := mStringS x.2.2.2
/-- how many marks -/
def cOrder (x : YOrder) : Nat := 1 + 1 + 1 + cStringS x.2.2.2
/-- how large -/
def zOrder (x : YOrder) : Nat := 1 + 1 + 1 + zStringS x.2.2.2
def BgOrder (x : YOrder) : Prop := BgStringS x.2.2.2
noncomputable def mkOrder (x : YOrder) (k : Int) : YOrder := (k, k + 1, k + 2, mkStringS x.2.2.2 (k + 3))
theorem czOrder (x : YOrder) : cOrder x ≤ zOrder x := by
  unfold cOrder zOrder
  have h0 := czStringS x.2.2.2
  omega
theorem zmOrder (x : YOrder) : zOrder x ≤ 7 + 8 * mOrder x := by
  unfold zOrder mOrder
  have h0 := zmStringS x.2.2.2
  omega
theorem bdOrder (x : YOrder) (h : Bd (.pair (.int .i64) (.pair (.int .i64) (.pair (.int .i64) (.one (.list .str))))) x) : BgOrder x := bdStringS _ h.2.2.2
theorem szOrder (x : YOrder) (left : Int) (hb : BgOrder x) (h0 : 0 ≤ left) (h1 : left ≤ 1048576) : laws_szOrder.f x left = some (szR (mOrder x) left) := by
  rw [laws_szOrder.f_eq]
  rw [szStringS _ left hb h0 h1, sB, show mOrder x = mStringS x.2.2.2 from rfl]
  by_cases g : szR (mStringS x.2.2.2) left < 0
  · rw [bifT g]; rw [szR_lt _ _ h0] at g; rw [szR_neg g]
  · rw [bifF g]
theorem toOrder (x : YOrder) (hb : mOrder x ≤ 1048576) : laws_toOrder.f x = some x := by
  have hb2 : mStringS x.2.2.2 ≤ 1048576 := hb
  rw [laws_toOrder.f_eq]
  rw [toStringS _ (by omega), sB]
theorem eqOrder (x : YOrder) (hb : zOrder x ≤ 4398046511104) : laws_eqOrder.f x x = some true := by
  have hb2 : 1 + 1 + 1 + zStringS x.2.2.2 ≤ 4398046511104 := hb
  rw [laws_eqOrder.f_eq]
  rw [bifNF rfl]
  rw [bifNF rfl]
  rw [bifNF rfl]
  rw [eqStringS _ (by omega), sB, notT]
abbrev YOrderS := List YOrder
def mOrderS (a : YOrderS) : Nat := a.length + tot mOrder a
def cOrderS (a : YOrderS) : Nat := tot cOrder a
def zOrderS (a : YOrderS) : Nat := a.length + tot zOrder a
def BgOrderS (a : YOrderS) : Prop := a.length ≤ 140737488351232 ∧ ∀ x ∈ a, BgOrder x
theorem czOrderS (a : YOrderS) : cOrderS a ≤ zOrderS a := by
  have h := tot_mono cOrder zOrder (fun x => czOrder x) a
  unfold cOrderS zOrderS
  omega
theorem zmOrderS (a : YOrderS) : zOrderS a ≤ 8 * mOrderS a := by
  have h := tot_seven zOrder mOrder (fun x => zmOrder x) a
  unfold zOrderS mOrderS
  omega
theorem bdOrderS (x : YOrderS) (h : Bd (.list (.pair (.int .i64) (.pair (.int .i64) (.pair (.int .i64) (.one (.list .str)))))) x) : BgOrderS x := ⟨h.1, fun y hy => bdOrder y (h.2 y hy)⟩
theorem szOrderS (a : YOrderS) (left : Int) (hb : BgOrderS a) (h0 : 0 ≤ left) (h1 : left ≤ 1048576) : laws_szOrderS.f a left = some (szR (mOrderS a) left) := by
  obtain ⟨hb1, hb2⟩ := hb
  rw [laws_szOrderS.f_eq]
  refine szTop hb1 h0 h1 (fun l => laws_szOrderS.l10 a l 0) fun l h0 h1 => ?_
  refine szGo yOrder mOrder a (fun l i => laws_szOrderS.l10 a l i) (fun l => by show laws_szOrderS.l10 a l _ = _; rw [laws_szOrderS.l10_eq, bifF (by omega)]) (fun i l hi h2 h3 => ?_) l h0 h1
  have hm := hb2 _ (getD_mem hi yOrder)
  show laws_szOrderS.l10 a l _ = _
  rw [laws_szOrderS.l10_eq, bifT (by omega), bif2T (by omega) (by omega), up1 (by omega)]
  simp only [Int.toNat_natCast]
  rw [szOrder _ l hm h2 h3, sB]
theorem toOrderS (a : YOrderS) (hb : mOrderS a ≤ 1048576) : laws_toOrderS.f a = some a := by
  have hb2 : a.length + tot mOrder a ≤ 1048576 := hb
  rw [laws_toOrderS.f_eq, show room 48 = 2932031007402 from by decide, bif2T (by omega) (by omega)]
  refine toGo yOrder a (fun out i => laws_toOrderS.l6 a out i) (fun out => by show laws_toOrderS.l6 a out _ = _; rw [laws_toOrderS.l6_eq, bifF (by omega)]) (fun i out hi hl => ?_) _ (by simp)
  show laws_toOrderS.l6 a out _ = _
  rw [laws_toOrderS.l6_eq, bifT (by omega), bif2T (by omega) (by omega)]
  simp only [Int.toNat_natCast]
  have hm : mOrder (a.getD i (0, 0, 0, [])) ≤ tot mOrder a := tot_mem mOrder (getD_mem hi _)
  rw [toOrder _ (by omega), sB]
  rw [bif2T (by omega) (by omega), up1 (by omega)]
theorem eqOrderS (a : YOrderS) (hb : zOrderS a ≤ 4398046511104) : laws_eqOrderS.f a a = some true := by
  have hb2 : a.length + tot zOrder a ≤ 4398046511104 := hb
  rw [laws_eqOrderS.f_eq, bifNF rfl]
  refine eqGo (n := a.length) (fun i => laws_eqOrderS.l8 a a i) (by show laws_eqOrderS.l8 a a _ = _; rw [laws_eqOrderS.l8_eq, bifF (by omega)]) fun i hi => ?_
  show laws_eqOrderS.l8 a a _ = _
  rw [laws_eqOrderS.l8_eq, bifT (by omega), bif2T (by omega) (by omega), bif2T (by omega) (by omega), up1 (by omega)]
  simp only [Int.toNat_natCast]
  have hm : zOrder (a.getD i (0, 0, 0, [])) ≤ tot zOrder a := tot_mem zOrder (getD_mem hi _)
  rw [eqOrder _ (by omega), sB, notT]
noncomputable def mkOrderS : YOrderS → Int → YOrderS := mkL cOrder mkOrder
theorem markOrderS (a : YOrderS) (k : Int) (h0 : 0 ≤ k) (hk : k + cOrderS a ≤ 8796093022208) (hb : zOrderS a ≤ 4398046511104) : laws_markOrderS.f a k = some (k + cOrderS a, mkOrderS a k) := by
  have hb2 : a.length + tot zOrder a ≤ 4398046511104 := hb
  rw [laws_markOrderS.f_eq]
  refine markGo (fun x => zOrder x ≤ 4398046511104) cOrder mkOrder (fun a k i => laws_markOrderS.l4 a k i) (fun a k => by show laws_markOrderS.l4 a k _ = _; rw [laws_markOrderS.l4_eq, bifF (by omega)]) (fun pre x r k hp hk hc hl => ?_) a [] k (fun x hx => by have := tot_mem zOrder hx; omega) h0 hk (by simp; omega)
  have hz : 1 + 1 + 1 + zStringS x.2.2.2 ≤ 4398046511104 := hp
  have hc2 : k + ((1 + 1 + 1 + cStringS x.2.2.2 : Nat) : Int) ≤ 8796093022208 := hc
  have e0 : w64 (k + 1) = k + 1 := by rw [w64_id (by omega) (by omega)]
  have e1 : w64 (k + 1 + 1) = k + 2 := by rw [w64_id (by omega) (by omega)]; omega
  have e2 : w64 (k + 2 + 1) = k + 3 := by rw [w64_id (by omega) (by omega)]; omega
  have f3 : laws_markStringS.f x.2.2.2 (k + 3) = some (k + 3 + cStringS x.2.2.2, mkStringS x.2.2.2 (k + 3)) := markStringS _ _ (by omega) (by omega) (by omega)
  have eu := up1 (i := pre.length) (by omega)
  show laws_markOrderS.l4 _ k _ = laws_markOrderS.l4 _ (k + (cOrder x : Int)) _
  rw [laws_markOrderS.l4_eq]
  simp only [List.length_append, List.length_cons, List.length_nil, in0, inMid2, Bool.and_true, cond_true, Int.toNat_natCast, getD_mid, set_mid, eu, sB, e0, e1, e2, f3, mkOrder]
  all_goals (
    have ec : (cOrder x : Int) = 1 + 1 + 1 + (cStringS x.2.2.2 : Int) := by simp only [cOrder]; omega
    rw [ec]
    congr 1 <;> omega)
/-- of a size that is let through -/
def Sm (l : T) : Prop := l.length ≤ 1048576 ∧ ∀ s ∈ l, s.size ≤ 1048576
def bl (s : ByteArray) : List UInt8 := s.data.toList
theorem bl_len (s : ByteArray) : (bl s).length = s.size := rfl
theorem bl_inj {a b : ByteArray} (h : bl a = bl b) : a = b := ByteArray.ext (Array.toList_inj.1 h)
theorem bl_ext (s : ByteArray) (a b : Nat) : bl (s.extract a b) = ((bl s).drop a).take (b - a) := by
  unfold bl; rw [ByteArray.data_extract, Array.toList_extract]
theorem bt_bl (s : ByteArray) (i : Nat) : bt s (i : Int) = (((bl s).getD i 0).toNat : Int) := by
  unfold bt bl
  rw [Int.toNat_natCast]
theorem sIn (a b c : Int) : spec_l1In.f a b c = some (decide (b ≤ a ∧ a ≤ c)) := by
  rw [spec_l1In.f_eq]
  by_cases h : a ≥ b
  · rw [bifT h]; congr 1; rw [decide_eq_decide]; omega
  · rw [bifF h]; congr 1; rw [eq_comm, decide_eq_false_iff_not]; omega
theorem iIn (a b c : Int) : impl_in.f a b c = some (decide (b ≤ a ∧ a ≤ c)) := by
  rw [impl_in.f_eq]
  by_cases h : a ≥ b
  · rw [bifT h]; congr 1; rw [decide_eq_decide]; omega
  · rw [bifF h]; congr 1; rw [eq_comm, decide_eq_false_iff_not]; omega
/-- A line. -/
def lineP (s : ByteArray) : Prop := 1 ≤ s.size ∧ s.size ≤ 30 ∧ (10 : UInt8) ∉ (bl s).take (s.size - 1)
instance (s : ByteArray) : Decidable (lineP s) := by unfold lineP; exact inferInstance
/-- It ends. -/
def endP (s : ByteArray) : Prop := 1 ≤ s.size ∧ (bl s).getD (s.size - 1) 0 = 10
instance (s : ByteArray) : Decidable (endP s) := by unfold endP; exact inferInstance
theorem toNat10 (b : UInt8) : ((b.toNat : Nat) : Int) = 10 ↔ b = 10 := by
  constructor
  · intro h; exact UInt8.toNat_inj.1 (by have : (10 : UInt8).toNat = 10 := rfl; omega)
  · rintro rfl; rfl
theorem sLine (s : ByteArray) (hs : s.size ≤ 1048576) : spec_l1Line.f s = some (decide (lineP s)) := by
  have hL : ((bl s).take (s.size - 1)).length = s.size - 1 := by rw [List.length_take, bl_len]; omega
  have hw : w64 ((s.size : Int) - 1) = (s.size : Int) - 1 := w64_id (by omega) (by omega)
  have key : ∀ i, i ≤ s.size - 1 → spec_l1Line.l4 s (i : Int) = some (decide (1 ≤ s.size ∧ s.size ≤ 30 ∧ (10 : UInt8) ∉ ((bl s).take (s.size - 1)).drop i)) := by
    apply downTo
    · rw [spec_l1Line.l4_eq, hw, bifF (by omega), sIn, sB]
      congr 1
      rw [decide_eq_decide, List.drop_eq_nil_of_le (by omega)]
      constructor
      · intro h; exact ⟨by omega, by omega, List.not_mem_nil⟩
      · intro h; omega
    · intro i hi ih
      have hi1 := up1 (i := i) (by omega)
      rw [spec_l1Line.l4_eq]
      simp only [hw, hi1]
      rw [bifT (by omega), bif2T (by omega) (by omega)]
      have hb : bt s (i : Int) = 10 ↔ ((bl s).take (s.size - 1)).getD i 0 = 10 := by
        rw [bt_bl, toNat10, List.getD_eq_getElem?_getD, List.getD_eq_getElem?_getD, List.getElem?_take_of_lt hi]
      have hd := drop_at (l := (bl s).take (s.size - 1)) (i := i) (by omega) 0
      by_cases h : bt s (i : Int) = 10
      · rw [bifT h]; congr 1
        rw [eq_comm, decide_eq_false_iff_not, hd, hb.1 h]
        rintro ⟨_, _, h3⟩
        exact h3 List.mem_cons_self
      · rw [bifF h, ih]; congr 1
        rw [decide_eq_decide, hd, List.mem_cons, not_or]
        have : ¬ (10 : UInt8) = ((bl s).take (s.size - 1)).getD i 0 := fun g => h (hb.2 g.symm)
        exact ⟨fun ⟨a, b, c⟩ => ⟨a, b, this, c⟩, fun ⟨a, b, _, c⟩ => ⟨a, b, c⟩⟩
  have := key 0 (by omega)
  rw [spec_l1Line.f_eq]
  rw [List.drop_zero] at this
  exact this
theorem iLine (s : ByteArray) (hs : s.size ≤ 1048576) : impl_isLine.f s = some (decide (lineP s)) := by
  have hw : w64 ((s.size : Int) - 1) = (s.size : Int) - 1 := w64_id (by omega) (by omega)
  rw [impl_isLine.f_eq, iIn, sB, hw]
  by_cases h : (1 : Int) ≤ (s.size : Int) ∧ (s.size : Int) ≤ 30
  · rw [bifT h, bif2T (by omega) (by omega)]
    show (contains1 _ _).bind _ = _
    unfold contains1
    have h1 : Nat.beq (⟨#[10]⟩ : ByteArray).size 1 = true := rfl
    rw [h1, cond_true, sB]
    congr 1
    show (!decide (0 ≤ Go.Lib.indexByte _ 10)) = _
    rw [← Go.Lib.contains_iff_indexByte]
    have he : (s.extract 0 ((s.size : Int) - 1).toNat).data.toList = (bl s).take (s.size - 1) := by
      show bl _ = _
      rw [bl_ext, List.drop_zero]; congr 1; omega
    rw [he]
    by_cases hm : (10 : UInt8) ∈ (bl s).take (s.size - 1)
    · rw [List.contains_iff_mem.2 hm]; exact (decide_eq_false (fun g : lineP s => g.2.2 hm)).symm
    · have : ((bl s).take (s.size - 1)).contains 10 = false := by rw [← Bool.not_eq_true, List.contains_iff_mem]; exact hm
      rw [this]; exact (decide_eq_true (show lineP s from ⟨by omega, by omega, hm⟩)).symm
  · rw [bifF h]
    congr 1
    rw [eq_comm, decide_eq_false_iff_not]
    unfold lineP
    omega
theorem sEnds1 (s : ByteArray) (h1 : 1 ≤ s.size) (hs : s.size ≤ 1048577) : spec_l1Ends.f s = some (decide (endP s)) := by
  have hw : w64 ((s.size : Int) - 1) = ((s.size - 1 : Nat) : Int) := by rw [w64_id (by omega) (by omega)]; omega
  rw [spec_l1Ends.f_eq, hw, bif2T (by omega) (by omega), bt_bl]
  congr 1
  rw [decide_eq_decide, toNat10]
  exact ⟨fun h => ⟨h1, h⟩, fun h => h.2⟩
theorem sEnds (s : ByteArray) (h1 : 1 ≤ s.size) (hs : s.size ≤ 1048576) : spec_l1Ends.f s = some (decide (endP s)) := sEnds1 s h1 (by omega)
theorem iEnds1 (s : ByteArray) (hs : s.size ≤ 1048577) : impl_isEnded.f s = some (decide (endP s)) := by
  rw [impl_isEnded.f_eq, strings_HasSuffix.f_eq, internal_stringslite_HasSuffix.f_eq]
  have h10 : (⟨#[10]⟩ : ByteArray).size = 1 := rfl
  have hw : w64 ((s.size : Int) - 1) = (s.size : Int) - 1 := w64_id (by omega) (by omega)
  simp only [h10, Int.ofNat_one]
  by_cases h : (s.size : Int) ≥ 1
  · rw [hw, bifT h, bif2T (by omega) (by omega), sB, sB]
    congr 1
    rw [toList_beq, decide_eq_decide]
    have hb : bl (s.extract ((s.size : Int) - 1).toNat s.size) = [(bl s).getD (s.size - 1) 0] := by
      rw [bl_ext]
      have e : ((s.size : Int) - 1).toNat = s.size - 1 := by omega
      rw [e, drop_at (l := bl s) (i := s.size - 1) (by rw [bl_len]; omega) 0, show s.size - (s.size - 1) = 1 by omega]
      rfl
    constructor
    · intro g
      rw [g] at hb
      refine ⟨by omega, ?_⟩
      have : [(10 : UInt8)] = [(bl s).getD (s.size - 1) 0] := hb
      exact ((List.cons.inj this).1).symm
    · intro g
      refine bl_inj ?_
      rw [hb, g.2]; rfl
  · rw [bifF (by omega), sB, sB]
    congr 1
    rw [eq_comm, decide_eq_false_iff_not]
    unfold endP
    omega
theorem iEnds (s : ByteArray) (hs : s.size ≤ 1048576) : impl_isEnded.f s = some (decide (endP s)) := iEnds1 s (by omega)
def endsT : T → Bool
  | [] => true
  | s :: t => (t.isEmpty || decide (endP s)) && endsT t
def allLines (l : T) : Bool := l.all fun s => decide (lineP s)
theorem allLines_cons (s : ByteArray) (l : T) : allLines (s :: l) = (decide (lineP s) && allLines l) := rfl
def goodB (l : T) : Bool := decide (l.length ≤ 40) && allLines l && endsT l
theorem drop_empty {l : T} {i : Nat} (h : i < l.length) : (l.drop (i + 1)).isEmpty = decide (¬ (i : Int) < (l.length : Int) - 1) := by
  rw [Bool.eq_iff_iff, List.isEmpty_iff, List.drop_eq_nil_iff, decide_eq_true_eq]; omega
theorem iAre (l : T) (hl : Sm l) : impl_areLines.f l = some (decide (l.length ≤ 40) && allLines l) := by
  have hL := hl.1
  have idx : ∀ i, i ≤ l.length → ∃ r : Int, slices_IndexFunc_Lstring_string__impl_areLines_1.l4 l (l.length : Int) (i : Int) = some r ∧ (decide (r ≥ 0) = !(allLines (l.drop i))) := by
    apply downTo
    · refine ⟨-1, by rw [slices_IndexFunc_Lstring_string__impl_areLines_1.l4_eq, bifF (by omega)], ?_⟩
      rw [List.drop_eq_nil_of_le (by omega)]; rfl
    · intro i hlt ⟨r, hr, hp⟩
      have hi1 := up1 (i := i) (by omega)
      have hsz := hl.2 _ (getD_mem hlt em)
      rw [slices_IndexFunc_Lstring_string__impl_areLines_1.l4_eq, bifT (by omega), bif2T (by omega) (by omega), hi1]
      simp only [Int.toNat_natCast]
      rw [impl_areLines_1.f_eq, iLine _ hsz, sB, sB]
      by_cases h : lineP (l.getD i em)
      · refine ⟨r, by rw [bifNF h]; exact hr, ?_⟩
        rw [hp, drop_at hlt em, allLines_cons, decide_eq_true h, Bool.true_and]
      · refine ⟨(i : Int), by rw [bifNT h], ?_⟩
        rw [drop_at hlt em, allLines_cons, decide_eq_false h, Bool.false_and]; exact decide_eq_true (by omega)
  obtain ⟨r, hr, hp⟩ := idx 0 (by omega)
  rw [impl_areLines.f_eq, slices_ContainsFunc_Lstring_string__impl_areLines_1.f_eq, slices_IndexFunc_Lstring_string__impl_areLines_1.f_eq]
  by_cases h : l.length ≤ 40
  · rw [bifT (by omega)]
    refine bindEq (bindEq hr rfl) ?_
    rw [hp, decide_eq_true h]; simp
  · rw [bifF (by omega), decide_eq_false h]; rfl
theorem iGood (l : T) (hl : Sm l) : impl_goodLines.f l = some (goodB l) := by
  have hL := hl.1
  rw [impl_goodLines.f_eq, iAre l hl, sB]
  unfold goodB
  cases hg : (decide (l.length ≤ 40) && allLines l) with
  | false => rw [Bool.false_and, notF]
  | true =>
    rw [Bool.true_and, notT]
    have hw : w64 ((l.length : Int) - 1) = (l.length : Int) - 1 := w64_id (by omega) (by omega)
    have key : ∀ i, i ≤ l.length → impl_goodLines.l8 l l (l.length : Int) (i : Int) = some (endsT (l.drop i)) := by
      apply downTo
      · rw [impl_goodLines.l8_eq, bifF (by omega), List.drop_eq_nil_of_le (by omega)]; rfl
      · intro i hi ih
        have hi1 := up1 (i := i) (by omega)
        have hsz := hl.2 _ (getD_mem hi em)
        have he := drop_empty hi
        have hR : endsT (l.drop i) = ((decide (¬ (i : Int) < (l.length : Int) - 1) || decide (endP (l.getD i em))) && endsT (l.drop (i + 1))) := by
          rw [drop_at hi em]; simp only [endsT, he]
        rw [hR, impl_goodLines.l8_eq, hw, hi1, bifT (by omega), bif2T (by omega) (by omega)]
        simp only [Int.toNat_natCast]
        rw [iEnds _ hsz, sB, ih]
        by_cases h2 : (i : Int) < (l.length : Int) - 1
        · rw [bifT h2, decide_eq_false (show ¬ ¬ (i : Int) < (l.length : Int) - 1 from fun g => g h2), Bool.false_or]
          by_cases h3 : endP (l.getD i em)
          · rw [bifNF h3, decide_eq_true h3, Bool.true_and]
          · rw [bifNT h3, decide_eq_false h3, Bool.false_and]
        · rw [bifF h2, decide_eq_true h2, Bool.true_or, Bool.true_and]
    have := key 0 (by omega)
    rw [List.drop_zero] at this
    exact this
theorem sGood (l : T) (hl : Sm l) : spec_l1Good.f l = some (goodB l) := by
  have hL := hl.1
  have hw : w64 ((l.length : Int) - 1) = (l.length : Int) - 1 := w64_id (by omega) (by omega)
  have key : ∀ i, i ≤ l.length → spec_l1Good.l4 l l (l.length : Int) (i : Int) = some (decide (l.length ≤ 40) && allLines (l.drop i) && endsT (l.drop i)) := by
    apply downTo
    · rw [spec_l1Good.l4_eq, bifF (by omega), List.drop_eq_nil_of_le (by omega)]
      simp [allLines, endsT]
      omega
    · intro i hi ih
      have hi1 := up1 (i := i) (by omega)
      have hd := drop_at hi em
      have hsz := hl.2 _ (getD_mem hi em)
      have he := drop_empty hi
      have hR : (decide (l.length ≤ 40) && allLines (l.drop i) && endsT (l.drop i)) = (decide (lineP (l.getD i em)) && ((decide (¬ (i : Int) < (l.length : Int) - 1) || decide (endP (l.getD i em))) && (decide (l.length ≤ 40) && allLines (l.drop (i + 1)) && endsT (l.drop (i + 1))))) := by
        rw [hd]
        simp only [allLines, endsT, List.all_cons, he]
        generalize decide (l.length ≤ 40) = a1
        generalize decide (lineP (l.getD i em)) = a2
        generalize (l.drop (i + 1)).all (fun s => decide (lineP s)) = a3
        generalize (decide (¬ (i : Int) < (l.length : Int) - 1) || decide (endP (l.getD i em))) = a4
        generalize endsT (l.drop (i + 1)) = a5
        cases a1 <;> cases a2 <;> cases a3 <;> cases a4 <;> cases a5 <;> rfl
      rw [hR, spec_l1Good.l4_eq, hw, hi1, bifT (by omega), bif2T (by omega) (by omega)]
      simp only [Int.toNat_natCast]
      rw [sLine _ hsz, sB, ih]
      by_cases h1 : lineP (l.getD i em)
      · rw [bifNF h1, decide_eq_true h1, Bool.true_and]
        by_cases h2 : (i : Int) < (l.length : Int) - 1
        · rw [bifT h2, decide_eq_false (show ¬ ¬ (i : Int) < (l.length : Int) - 1 from fun g => g h2), Bool.false_or, sEnds _ h1.1 hsz, sB]
          by_cases h3 : endP (l.getD i em)
          · rw [bifNF h3, decide_eq_true h3, Bool.true_and]
          · rw [bifNT h3, decide_eq_false h3, Bool.false_and]
        · rw [bifF h2, decide_eq_true h2, Bool.true_or, Bool.true_and]
      · rw [bifNT h1, decide_eq_false h1, Bool.false_and]
  have := key 0 (by omega)
  rw [List.drop_zero] at this
  rw [spec_l1Good.f_eq]
  exact this
theorem good_len {l : T} (h : goodB l = true) : l.length ≤ 40 := by
  unfold goodB at h
  simp only [Bool.and_eq_true, decide_eq_true_eq] at h
  exact h.1.1
def wholeB (l : T) : Bool := match l.getLast? with | none => true | some s => decide (endP s)
theorem sWhole (l : T) (h : l.length ≤ 1048576) (hs : 0 < l.length → 1 ≤ (l.getD (l.length - 1) em).size ∧ (l.getD (l.length - 1) em).size ≤ 1048576) : spec_l1Whole.f l = some (wholeB l) := by
  rw [spec_l1Whole.f_eq, wholeB]
  by_cases h0 : (l.length : Int) = 0
  · rw [bifT h0]
    have : l = [] := List.length_eq_zero_iff.1 (by omega)
    subst this; rfl
  · rw [bifF h0, dn1 (by omega) (by omega), bif2T (by omega) (by omega)]
    simp only [Int.toNat_natCast]
    have hm := hs (by omega)
    rw [sEnds _ hm.1 hm.2, sB]
    have e : l.getLast? = some (l.getD (l.length - 1) em) := by
      rw [List.getLast?_eq_getElem?, List.getD_eq_getElem?_getD, List.getElem?_eq_getElem (by omega)]; rfl
    rw [e]
def plainB (s : ByteArray) : ByteArray := if endP s then s.extract 0 (s.size - 1) else s
theorem iWhole (l : T) (h : l.length ≤ 1048576) (hs : ∀ s ∈ l, s.size ≤ 1048577) : impl_isWhole.f l = some (wholeB l) := by
  rw [impl_isWhole.f_eq, wholeB]
  by_cases h0 : (l.length : Int) = 0
  · rw [bifT h0]
    have : l = [] := List.length_eq_zero_iff.1 (by omega)
    subst this; rfl
  · rw [bifF h0, dn1 (by omega) (by omega), bif2T (by omega) (by omega)]
    simp only [Int.toNat_natCast]
    have hm := hs _ (getD_mem (l := l) (i := l.length - 1) (by omega) em)
    rw [iEnds1 _ hm, sB]
    have e : l.getLast? = some (l.getD (l.length - 1) em) := by
      rw [List.getLast?_eq_getElem?, List.getD_eq_getElem?_getD, List.getElem?_eq_getElem (by omega)]; rfl
    rw [e]
theorem endP_last {s : ByteArray} (h : endP s) : s = s.extract 0 (s.size - 1) ++ ⟨#[10]⟩ := by
  refine bl_inj ?_
  have h1 : bl (s.extract 0 (s.size - 1) ++ ⟨#[10]⟩) = bl (s.extract 0 (s.size - 1)) ++ [10] := by
    simp [bl, ByteArray.data_append]
  rw [h1, bl_ext, List.drop_zero, Nat.sub_zero]
  have h2 := drop_at (l := bl s) (i := s.size - 1) (by rw [bl_len]; have := h.1; omega) 0
  have h3 := h.1
  rw [h.2, List.drop_of_length_le (i := s.size - 1 + 1) (by rw [bl_len]; omega)] at h2
  rw [← h2, List.take_append_drop]
theorem iPlain (s : ByteArray) (h2 : s.size ≤ 1048577) : impl_plain.f s = some (plainB s) := by
  have h10 : (⟨#[10]⟩ : ByteArray).size = 1 := rfl
  have he := iEnds1 s h2
  rw [impl_isEnded.f_eq, strings_HasSuffix.f_eq] at he
  rw [impl_plain.f_eq, strings_TrimSuffix.f_eq, internal_stringslite_TrimSuffix.f_eq, plainB]
  cases hh : internal_stringslite_HasSuffix.f s (⟨#[10]⟩ : ByteArray) with
  | none => rw [hh] at he; cases he
  | some y =>
    rw [hh] at he
    simp only [sB, Option.some.injEq] at he
    subst he
    simp only [sB, h10]
    by_cases h : endP s
    · have := h.1
      rw [if_pos h, bifT h, Int.ofNat_one, w64_id (x := (s.size : Int) - 1) (by omega) (by omega), bif2T (by omega) (by omega), show ((s.size : Int) - 1).toNat = s.size - 1 by omega]; rfl
    · rw [if_neg h, bifF h]; rfl
theorem smT_of {a : YStringS} (h : mStringS a ≤ 1048576) : Sm a := by
  have h2 : a.length + tot ByteArray.size a ≤ 1048576 := h
  exact ⟨by omega, fun s hs => by have := tot_mem ByteArray.size hs; omega⟩
theorem ownT (l : T) (h : l.length ≤ 1048576) : spec_l1OwnT.f l = some l := by
  rw [spec_l1OwnT.f_eq, room16, bifT (by simp; omega), List.nil_append]
theorem cloneT (l : T) (h : l.length ≤ 1048576) : slices_Clone_Lstring_string.f l = some l := by
  show clone1 16 l = _
  rw [clone1, room16, bifT (by omega)]
/-- a length of small parts -/
theorem replaceT (l v : T) (a b : Nat) (hab : a ≤ b) (hb : b ≤ l.length) (h0 : a < b ∨ 0 < v.length) (hl : l.length ≤ 1048576) (hv : v.length ≤ 1048576) :
    slices_Replace_Lstring_string.f l (a : Int) (b : Int) v = some (l.take a ++ v ++ l.drop b) := by
  show rep1 l (a : Int) (b : Int) v = _
  have : repOk l (a : Int) (b : Int) v = true := by
    unfold repOk
    rw [decide_eq_true (by omega), decide_eq_true (by omega), decide_eq_true (by omega), decide_eq_true (by omega : l.length + v.length ≤ 8796093022208)]
    rcases h0 with h | h
    · rw [decide_eq_true (by omega : (a : Int) < (b : Int))]; rfl
    · rw [decide_eq_true h, Bool.or_true]; rfl
  rw [rep1, this, cond_true, Int.toNat_natCast, Int.toNat_natCast]
abbrev dotL : ByteArray := ⟨#[46, 10]⟩
def lineO (s : ByteArray) : Prop := lineP s ∧ endP s ∧ s ≠ dotL
instance (s : ByteArray) : Decidable (lineO s) := by unfold lineO; infer_instance
def allO (l : T) : Bool := l.all fun s => decide (lineO s)
theorem allO_cons (s : ByteArray) (l : T) : allO (s :: l) = (decide (lineO s) && allO l) := rfl
def freshB (l : T) : Bool := decide (1 ≤ l.length ∧ l.length ≤ 40) && allO l
def kindB (x : YOrder) : Bool :=
  if x.1 = 1 then freshB x.2.2.2 && decide (x.2.2.1 = x.2.1) else
  if x.1 = 2 then freshB x.2.2.2 && decide (x.2.2.1 = x.2.1 ∧ 1 ≤ x.2.1) else
  if x.1 = 3 then freshB x.2.2.2 && decide (1 ≤ x.2.1) else
  if x.1 = 4 then decide (x.2.2.2 = [] ∧ 1 ≤ x.2.1) else
  if x.1 = 5 then decide (x.2.2.2 = [] ∧ x.2.2.1 = x.2.1 ∧ 1 ≤ x.2.1) else false
def orderB (x : YOrder) : Bool := decide ((0 ≤ x.2.1 ∧ x.2.1 ≤ 1000) ∧ (x.2.1 ≤ x.2.2.1 ∧ x.2.2.1 ≤ 1000)) && kindB x
def SmO (o : YOrderS) : Prop := o.length ≤ 1048576 ∧ ∀ x ∈ o, Sm x.2.2.2
theorem dot_beq (s : ByteArray) : (s.toList == (⟨#[46, 10]⟩ : ByteArray).toList) = decide (s = dotL) := toList_beq s _
theorem sFresh (l : T) (hl : Sm l) : spec_l9Lines.f l = some (freshB l) := by
  have hL := hl.1
  have key : ∀ i, i ≤ l.length → spec_l9Lines.l4 l l (l.length : Int) (i : Int) = some (decide (1 ≤ l.length ∧ l.length ≤ 40) && allO (l.drop i)) := by
    apply downTo
    · rw [spec_l9Lines.l4_eq, bifF (by omega), sIn, sB, List.drop_eq_nil_of_le (by omega)]
      show some _ = some (_ && true)
      rw [Bool.and_true]
      congr 1; rw [decide_eq_decide]; omega
    · intro i hi ih
      have hz := hl.2 _ (getD_mem hi em)
      rw [spec_l9Lines.l4_eq, bifT (by omega), bif2T (by omega) (by omega), up1 (by omega), drop_at hi em, allO_cons]
      simp only [Int.toNat_natCast]
      rw [sLine _ hz, sB]
      by_cases h1 : lineP (l.getD i em)
      · rw [bifNF h1, sEnds _ h1.1 (by omega), sB]
        by_cases h2 : endP (l.getD i em)
        · rw [bifNF h2, dot_beq]
          by_cases h3 : l.getD i em = dotL
          · rw [bifT h3, decide_eq_false (fun h : lineO _ => h.2.2 h3), Bool.false_and, Bool.and_false]
          · rw [bifF h3, ih, decide_eq_true (show lineO (l.getD i em) from ⟨h1, h2, h3⟩), Bool.true_and]
        · rw [bifNT h2, decide_eq_false (fun h : lineO _ => h2 h.2.1), Bool.false_and, Bool.and_false]
      · rw [bifNT h1, decide_eq_false (fun h : lineO _ => h1 h.1), Bool.false_and, Bool.and_false]
  rw [spec_l9Lines.f_eq]
  have := key 0 (by omega)
  rw [List.drop_zero] at this
  exact this
theorem iBad (s : ByteArray) (hs : s.size ≤ 1048576) : impl_goodOrder_1.f s = some (!(decide (lineO s))) := by
  rw [impl_goodOrder_1.f_eq, iLine s hs, sB]
  by_cases h1 : lineP s
  · rw [bifNF h1, iEnds s hs, sB]
    by_cases h2 : endP s
    · rw [bifNF h2, dot_beq]
      by_cases h3 : s = dotL
      · rw [decide_eq_true h3, decide_eq_false (fun h : lineO _ => h.2.2 h3)]; rfl
      · rw [decide_eq_false h3, decide_eq_true (show lineO s from ⟨h1, h2, h3⟩)]; rfl
    · rw [bifNT h2, decide_eq_false (fun h : lineO _ => h2 h.2.1)]; rfl
  · rw [bifNT h1, decide_eq_false (fun h : lineO _ => h1 h.1)]; rfl
theorem iAllO (l : T) (hl : Sm l) : slices_ContainsFunc_Lstring_string__impl_goodOrder_1.f l = some (!(allO l)) := by
  have hL := hl.1
  have idx : ∀ i, i ≤ l.length → ∃ r : Int, slices_IndexFunc_Lstring_string__impl_goodOrder_1.l4 l (l.length : Int) (i : Int) = some r ∧ (decide (r ≥ 0) = !(allO (l.drop i))) := by
    apply downTo
    · refine ⟨-1, by rw [slices_IndexFunc_Lstring_string__impl_goodOrder_1.l4_eq, bifF (by omega)], ?_⟩
      rw [List.drop_eq_nil_of_le (by omega)]; rfl
    · intro i hlt ⟨r, hr, hp⟩
      have hi1 := up1 (i := i) (by omega)
      have hsz := hl.2 _ (getD_mem hlt em)
      rw [slices_IndexFunc_Lstring_string__impl_goodOrder_1.l4_eq, bifT (by omega), bif2T (by omega) (by omega), hi1]
      simp only [Int.toNat_natCast]
      rw [iBad _ hsz, sB, drop_at hlt em, allO_cons]
      by_cases h : lineO (l.getD i em)
      · refine ⟨r, by rw [bifNF h]; exact hr, ?_⟩
        rw [hp, decide_eq_true h, Bool.true_and]
      · refine ⟨(i : Int), by rw [bifNT h], ?_⟩
        rw [decide_eq_false h, Bool.false_and]; exact decide_eq_true (by omega)
  obtain ⟨r, hr, hp⟩ := idx 0 (by omega)
  rw [slices_ContainsFunc_Lstring_string__impl_goodOrder_1.f_eq, slices_IndexFunc_Lstring_string__impl_goodOrder_1.f_eq]
  refine bindEq hr ?_
  rw [hp, List.drop_zero]
theorem len0 (l : T) : decide ((l.length : Int) = 0) = decide (l = []) := by
  rw [decide_eq_decide]
  exact ⟨fun h => List.length_eq_zero_iff.1 (by omega), fun h => by rw [h]; rfl⟩
theorem sOrder (x : YOrder) (hx : Sm x.2.2.2) : spec_l9Order.f x = some (orderB x) := by
  rw [spec_l9Order.f_eq, sIn, sB, orderB]
  by_cases h1 : 0 ≤ x.2.1 ∧ x.2.1 ≤ 1000
  case neg => rw [bifNT h1, decide_eq_false (fun h => h1 h.1), Bool.false_and]
  rw [bifNF h1, sIn, sB]
  by_cases h2 : x.2.1 ≤ x.2.2.1 ∧ x.2.2.1 ≤ 1000
  case neg => rw [bifNT h2, decide_eq_false (fun h => h2 h.2), Bool.false_and]
  rw [bifNF h2, decide_eq_true ⟨h1, h2⟩, Bool.true_and, spec_l9Order.l7_eq, kindB, sFresh _ hx]
  simp only [sB, len0]
  by_cases k1 : x.1 = 1
  · rw [bifT k1, if_pos k1]
    by_cases a : x.2.2.1 = x.2.1
    · rw [bifT a, decide_eq_true a, Bool.and_true]
    · rw [bifF a, decide_eq_false a, Bool.and_false]
  rw [bifF k1, if_neg k1]
  by_cases k2 : x.1 = 2
  · rw [bifT k2, if_pos k2]
    by_cases a : x.2.2.1 = x.2.1
    · rw [bifT a]
      by_cases b : x.2.1 ≥ 1
      · rw [bifT b, decide_eq_true ⟨a, b⟩, Bool.and_true]
      · rw [bifF b, decide_eq_false (fun h => b h.2), Bool.and_false]
    · rw [bifF a, decide_eq_false (fun h => a h.1), Bool.and_false]
  rw [bifF k2, if_neg k2]
  by_cases k3 : x.1 = 3
  · rw [bifT k3, if_pos k3]
    by_cases b : x.2.1 ≥ 1
    · rw [bifT b, decide_eq_true (show 1 ≤ x.2.1 from b), Bool.and_true]
    · rw [bifF b, decide_eq_false (show ¬ 1 ≤ x.2.1 from b), Bool.and_false]
  rw [bifF k3, if_neg k3]
  by_cases k4 : x.1 = 4
  · rw [bifT k4, if_pos k4]
    by_cases b : x.2.1 ≥ 1
    · rw [bifT b]; congr 1; rw [decide_eq_decide]; exact ⟨fun h => ⟨h, b⟩, fun h => h.1⟩
    · rw [bifF b, decide_eq_false (fun h => b h.2)]
  rw [bifF k4, if_neg k4]
  by_cases k5 : x.1 = 5
  · rw [bifT k5, if_pos k5]
    by_cases b : x.2.1 ≥ 1
    · rw [bifT b]
      by_cases a : x.2.2.1 = x.2.1
      · rw [bifT a]; congr 1; rw [decide_eq_decide]; exact ⟨fun h => ⟨h, a, b⟩, fun h => h.1⟩
      · rw [bifF a, decide_eq_false (fun h => a h.2.1)]
    · rw [bifF b, decide_eq_false (fun h => b h.2.2)]
  · rw [bifF k5, if_neg k5]
theorem iOrder_k (x : YOrder) : impl_goodOrder.l9 x (freshB x.2.2.2) = some (kindB x) := by
  rw [impl_goodOrder.l9_eq, kindB]
  simp only [len0]
  by_cases k1 : x.1 = 1
  · rw [bifT k1, if_pos k1]
    cases freshB x.2.2.2 <;> rfl
  rw [bifF k1, if_neg k1]
  by_cases k2 : x.1 = 2
  · rw [bifT k2, if_pos k2]
    cases freshB x.2.2.2
    · rfl
    · rw [cond_true, Bool.true_and]
      by_cases a : x.2.2.1 = x.2.1
      · rw [bifT a]; congr 1; rw [decide_eq_decide]; exact ⟨fun h => ⟨a, h⟩, fun h => h.2⟩
      · rw [bifF a, decide_eq_false (fun h => a h.1)]
  rw [bifF k2, if_neg k2]
  by_cases k3 : x.1 = 3
  · rw [bifT k3, if_pos k3]
    cases freshB x.2.2.2 <;> rfl
  rw [bifF k3, if_neg k3]
  by_cases k4 : x.1 = 4
  · rw [bifT k4, if_pos k4]
    by_cases a : x.2.2.2 = []
    · rw [bifT a]; congr 1; rw [decide_eq_decide]; exact ⟨fun h => ⟨a, h⟩, fun h => h.2⟩
    · rw [bifF a, decide_eq_false (fun h => a h.1)]
  rw [bifF k4, if_neg k4]
  by_cases k5 : x.1 = 5
  · rw [bifT k5, if_pos k5]
    by_cases a : x.2.2.2 = []
    · rw [bifT a]
      by_cases b : x.2.1 ≥ 1
      · rw [bifT b]; congr 1; rw [decide_eq_decide]; exact ⟨fun h => ⟨a, h, b⟩, fun h => h.2.1⟩
      · rw [bifF b, decide_eq_false (fun h => b h.2.2)]
    · rw [bifF a, decide_eq_false (fun h => a h.1)]
  · rw [bifF k5, if_neg k5]
theorem iOrder (x : YOrder) (hx : Sm x.2.2.2) : impl_goodOrder.f x = some (orderB x) := by
  rw [impl_goodOrder.f_eq, iIn, sB, orderB]
  by_cases h1 : 0 ≤ x.2.1 ∧ x.2.1 ≤ 1000
  case neg => rw [bifNT h1, decide_eq_false (fun h => h1 h.1), Bool.false_and]
  rw [bifNF h1, iIn, sB]
  by_cases h2 : x.2.1 ≤ x.2.2.1 ∧ x.2.2.1 ≤ 1000
  case neg => rw [bifNT h2, decide_eq_false (fun h => h2 h.2), Bool.false_and]
  rw [bifNF h2, decide_eq_true ⟨h1, h2⟩, Bool.true_and, impl_goodOrder.l7_eq, iIn, sB, iAllO _ hx, ← iOrder_k x]
  have e : decide (1 ≤ (x.2.2.2.length : Int) ∧ (x.2.2.2.length : Int) ≤ 40) = decide (1 ≤ x.2.2.2.length ∧ x.2.2.2.length ≤ 40) := by rw [decide_eq_decide]; omega
  rw [e]
  unfold freshB
  cases decide (1 ≤ x.2.2.2.length ∧ x.2.2.2.length ≤ 40)
  · rfl
  · rw [cond_true, sB, Bool.not_not, Bool.true_and]
def ordersB (o : YOrderS) : Bool := decide (o.length ≤ 60) && o.all orderB
theorem sOrders (o : YOrderS) (ho : SmO o) : spec_l9Good.f o = some (ordersB o) := by
  have hL := ho.1
  have key : ∀ i, i ≤ o.length → spec_l9Good.l4 o o (o.length : Int) (i : Int) = some (decide (o.length ≤ 60) && (o.drop i).all orderB) := by
    apply downTo
    · rw [spec_l9Good.l4_eq, bifF (by omega), List.drop_eq_nil_of_le (by omega)]
      show some _ = some (_ && true)
      rw [Bool.and_true]
      congr 1; rw [decide_eq_decide]; omega
    · intro i hi ih
      have hz := ho.2 _ (getD_mem hi ((0, 0, 0, []) : YOrder))
      rw [spec_l9Good.l4_eq, bifT (by omega), bif2T (by omega) (by omega), up1 (by omega), drop_at hi ((0, 0, 0, []) : YOrder), List.all_cons]
      simp only [Int.toNat_natCast]
      rw [sOrder _ hz, sB]
      cases h : orderB (o.getD i (0, 0, 0, [])) with
      | false => rw [Bool.false_and, Bool.and_false]; rfl
      | true => rw [notT, ih, Bool.true_and]
  rw [spec_l9Good.f_eq]
  have := key 0 (by omega)
  rw [List.drop_zero] at this
  exact this
theorem iOrders (o : YOrderS) (ho : SmO o) : impl_goodOrders.f o = some (ordersB o) := by
  have hL := ho.1
  have idx : ∀ i, i ≤ o.length → ∃ r : Int, slices_IndexFunc_Limpl_Order_impl_Order__impl_goodOrders_1.l4 o (o.length : Int) (i : Int) = some r ∧ (decide (r ≥ 0) = !((o.drop i).all orderB)) := by
    apply downTo
    · refine ⟨-1, by rw [slices_IndexFunc_Limpl_Order_impl_Order__impl_goodOrders_1.l4_eq, bifF (by omega)], ?_⟩
      rw [List.drop_eq_nil_of_le (by omega)]; rfl
    · intro i hlt ⟨r, hr, hp⟩
      have hi1 := up1 (i := i) (by omega)
      have hsz := ho.2 _ (getD_mem hlt ((0, 0, 0, []) : YOrder))
      rw [slices_IndexFunc_Limpl_Order_impl_Order__impl_goodOrders_1.l4_eq, bifT (by omega), bif2T (by omega) (by omega), hi1]
      simp only [Int.toNat_natCast]
      rw [impl_goodOrders_1.f_eq, iOrder _ hsz, sB, sB, drop_at hlt ((0, 0, 0, []) : YOrder), List.all_cons]
      cases h : orderB (o.getD i (0, 0, 0, [])) with
      | true => exact ⟨r, hr, by rw [hp, Bool.true_and]⟩
      | false => exact ⟨(i : Int), rfl, by rw [Bool.false_and]; exact decide_eq_true (by omega)⟩
  obtain ⟨r, hr, hp⟩ := idx 0 (by omega)
  rw [impl_goodOrders.f_eq, ordersB, slices_ContainsFunc_Limpl_Order_impl_Order__impl_goodOrders_1.f_eq, slices_IndexFunc_Limpl_Order_impl_Order__impl_goodOrders_1.f_eq]
  by_cases h : o.length ≤ 60
  · rw [bifT (by omega), decide_eq_true h, Bool.true_and]
    refine bindEq (bindEq hr rfl) ?_
    rw [hp, List.drop_zero, Bool.not_not]
  · rw [bifF (by omega), decide_eq_false h, Bool.false_and]
def Ended (l : T) : Prop := ∀ s ∈ l, endP s
def dotP (s : ByteArray) : Prop := (bl s).getD 0 0 = 46 ∧ s ≠ dotL
def dotB (s : ByteArray) : Bool := decide ((bl s).getD 0 0 = 46) && decide (s ≠ dotL)
theorem dotB_t {s : ByteArray} (h : dotP s) : dotB s = true := by
  unfold dotB; rw [decide_eq_true h.1, decide_eq_true h.2]; rfl
theorem dotB_f {s : ByteArray} (h : ¬ dotP s) : dotB s = false := by
  unfold dotB
  by_cases h1 : (bl s).getD 0 0 = 46
  · rw [decide_eq_false (show ¬ s ≠ dotL from fun h2 => h ⟨h1, h2⟩), Bool.and_false]
  · rw [decide_eq_false h1, Bool.false_and]
def runB (l : T) (x : YOrder) : T × Int :=
  if (l.length : Int) < x.2.2.1 then ([], 3) else
  if x.1 = 1 then (l.take x.2.1.toNat ++ x.2.2.2 ++ l.drop x.2.1.toNat, 0) else
  if x.1 = 2 then (l.take (x.2.1.toNat - 1) ++ x.2.2.2 ++ l.drop (x.2.1.toNat - 1), 0) else
  if x.1 = 5 then (bif dotB (l.getD (x.2.1.toNat - 1) em) then (l.take (x.2.1.toNat - 1) ++ [(l.getD (x.2.1.toNat - 1) em).extract 1 (l.getD (x.2.1.toNat - 1) em).size] ++ l.drop x.2.1.toNat, 0) else ([], 2)) else
  (l.take (x.2.1.toNat - 1) ++ x.2.2.2 ++ l.drop x.2.2.1.toNat, 0)
theorem insertT (l v : T) (a : Nat) (ha : a ≤ l.length) (h0 : 0 < v.length) (hl : l.length ≤ 1048576) (hv : v.length ≤ 1048576) :
    slices_Insert_Lstring_string.f l (a : Int) v = some (l.take a ++ v ++ l.drop a) := by
  show ins1 l (a : Int) v = _
  have : insOk l (a : Int) v = true := by
    unfold insOk
    rw [decide_eq_true (by omega), decide_eq_true (by omega), decide_eq_true h0, decide_eq_true (by omega : l.length + v.length ≤ 8796093022208)]; rfl
  rw [ins1, this, cond_true, Int.toNat_natCast]
theorem endP_tail {s : ByteArray} (h : endP s) (hd : dotP s) : endP (s.extract 1 s.size) ∧ 3 ≤ s.size := by
  obtain ⟨h1, h2⟩ := h
  obtain ⟨h3, h4⟩ := hd
  have hz : s.size ≠ 1 := fun e => by rw [e] at h2; rw [h2] at h3; exact absurd h3 (by decide)
  have hy : s.size ≠ 2 := fun e => h4 (by
    refine bl_inj ?_
    have hl : (bl s).length = 2 := by rw [bl_len]; exact e
    rw [e] at h2
    match hb : bl s, hl with
    | [a, b], _ =>
      rw [hb] at h2 h3
      simp at h2 h3
      rw [h2, h3]; rfl)
  refine ⟨⟨by rw [ByteArray.size_extract]; omega, ?_⟩, by omega⟩
  rw [bl_ext, ByteArray.size_extract, Nat.min_self, List.take_of_length_le (by rw [List.length_drop, bl_len]; omega), List.getD_eq_getElem?_getD, List.getElem?_drop, ← List.getD_eq_getElem?_getD, show 1 + (s.size - 1 - 1) = s.size - 1 by omega]
  exact h2
theorem iPre (s : ByteArray) (h1 : 1 ≤ s.size) (hs : s.size ≤ 1048577) : strings_HasPrefix.f s (⟨#[46]⟩ : ByteArray) = some (decide ((bl s).getD 0 0 = 46)) := by
  have h10 : (⟨#[46]⟩ : ByteArray).size = 1 := rfl
  rw [strings_HasPrefix.f_eq, internal_stringslite_HasPrefix.f_eq, h10, bifT (by omega), bif2T (by omega) (by omega), sB, toList_beq]
  congr 1
  rw [decide_eq_decide]
  have hb : bl (s.extract 0 ((1 : Nat) : Int).toNat) = [(bl s).getD 0 0] := by
    rw [bl_ext, drop_at (l := bl s) (i := 0) (by rw [bl_len]; omega) 0]; rfl
  constructor
  · intro g
    rw [g] at hb
    have : [(46 : UInt8)] = [(bl s).getD 0 0] := hb
    exact ((List.cons.inj this).1).symm
  · intro g
    refine bl_inj ?_
    rw [hb, g]; rfl
theorem plain_dot {s : ByteArray} (h : endP s) : (plainB s = (⟨#[46]⟩ : ByteArray)) ↔ s = dotL := by
  have hl := endP_last h
  rw [plainB, if_pos h]
  constructor
  · intro e; rw [hl, e]; rfl
  · intro e; subst e; rfl
theorem take_drop_len (l v : T) (a b : Nat) (hab : a ≤ b) (hb : b ≤ l.length) : (l.take a ++ v ++ l.drop b).length + (b - a) = l.length + v.length := by
  simp only [List.length_append, List.length_take, List.length_drop]; omega
def InvO (n : Nat) (l : T) : Prop := l.length ≤ n ∧ Ended l ∧ ∀ s ∈ l, s.size ≤ 1048576
theorem invO_put {n : Nat} {l v : T} {a b : Nat} (hl : InvO n l) (hv : InvO 40 v) : InvO (n + n + 40) (l.take a ++ v ++ l.drop b) := by
  refine ⟨?_, fun s hs => ?_, fun s hs => ?_⟩
  · have := hl.1; have := hv.1
    simp only [List.length_append, List.length_take, List.length_drop]; omega
  · rcases List.mem_append.1 hs with hs | hs
    · rcases List.mem_append.1 hs with hs | hs
      · exact hl.2.1 _ (List.mem_of_mem_take hs)
      · exact hv.2.1 _ hs
    · exact hl.2.1 _ (List.mem_of_mem_drop hs)
  · rcases List.mem_append.1 hs with hs | hs
    · rcases List.mem_append.1 hs with hs | hs
      · exact hl.2.2 _ (List.mem_of_mem_take hs)
      · exact hv.2.2 _ hs
    · exact hl.2.2 _ (List.mem_of_mem_drop hs)
theorem invO_len {n m : Nat} {l : T} (h : InvO n l) (hm : l.length ≤ m) : InvO m l := ⟨hm, h.2⟩
theorem fresh_inv {v : T} (h : freshB v = true) : InvO 40 v ∧ 0 < v.length := by
  unfold freshB at h
  rw [Bool.and_eq_true] at h
  have h1 := of_decide_eq_true h.1
  have h2 : ∀ s ∈ v, lineO s := fun s hs => of_decide_eq_true (List.all_eq_true.1 h.2 s hs)
  exact ⟨⟨h1.2, fun s hs => (h2 s hs).2.1, fun s hs => by have := (h2 s hs).1.2.1; omega⟩, by omega⟩
theorem kind_cases {x : YOrder} (h : orderB x = true) : (0 ≤ x.2.1 ∧ x.2.1 ≤ 1000) ∧ (x.2.1 ≤ x.2.2.1 ∧ x.2.2.1 ≤ 1000) ∧
    ((x.1 = 1 ∧ freshB x.2.2.2 = true ∧ x.2.2.1 = x.2.1) ∨ (x.1 = 2 ∧ freshB x.2.2.2 = true ∧ x.2.2.1 = x.2.1 ∧ 1 ≤ x.2.1) ∨ (x.1 = 3 ∧ freshB x.2.2.2 = true ∧ 1 ≤ x.2.1) ∨ (x.1 = 4 ∧ x.2.2.2 = [] ∧ 1 ≤ x.2.1) ∨ (x.1 = 5 ∧ x.2.2.2 = [] ∧ x.2.2.1 = x.2.1 ∧ 1 ≤ x.2.1)) := by
  unfold orderB at h
  rw [Bool.and_eq_true] at h
  have h1 := of_decide_eq_true h.1
  refine ⟨h1.1, h1.2, ?_⟩
  have h2 := h.2
  unfold kindB at h2
  by_cases k1 : x.1 = 1
  · rw [if_pos k1, Bool.and_eq_true] at h2
    exact .inl ⟨k1, h2.1, of_decide_eq_true h2.2⟩
  rw [if_neg k1] at h2
  by_cases k2 : x.1 = 2
  · rw [if_pos k2, Bool.and_eq_true] at h2
    exact .inr (.inl ⟨k2, h2.1, of_decide_eq_true h2.2⟩)
  rw [if_neg k2] at h2
  by_cases k3 : x.1 = 3
  · rw [if_pos k3, Bool.and_eq_true] at h2
    exact .inr (.inr (.inl ⟨k3, h2.1, of_decide_eq_true h2.2⟩))
  rw [if_neg k3] at h2
  by_cases k4 : x.1 = 4
  · rw [if_pos k4] at h2
    exact .inr (.inr (.inr (.inl ⟨k4, of_decide_eq_true h2⟩)))
  rw [if_neg k4] at h2
  by_cases k5 : x.1 = 5
  · rw [if_pos k5] at h2
    exact .inr (.inr (.inr (.inr ⟨k5, of_decide_eq_true h2⟩)))
  rw [if_neg k5] at h2; cases h2
theorem run_both (l : T) (x : YOrder) (n : Nat) (hn : n ≤ 3000) (hl : InvO n l) (hx : orderB x = true) (hs : Sm x.2.2.2) :
    spec_l9Do.f l x = some (runB l x) ∧ impl_run.f l x = some (runB l x) ∧ ((runB l x).2 = 0 ∧ InvO (n + 40) (runB l x).1 ∨ 0 < (runB l x).2 ∧ (runB l x).1 = []) := by
  obtain ⟨h1, h2, hk⟩ := kind_cases hx
  obtain ⟨k, f, t, v⟩ := x
  simp only at h1 h2 hk hs
  obtain ⟨f, rfl⟩ : ∃ f' : Nat, f = (f' : Int) := ⟨f.toNat, by omega⟩
  obtain ⟨t, rfl⟩ : ∃ t' : Nat, t = (t' : Int) := ⟨t.toNat, by omega⟩
  have hL := hl.1
  rw [spec_l9Do.f_eq, impl_run.f_eq, runB]
  simp only [Int.toNat_natCast]
  by_cases hfar : (t : Int) > (l.length : Int)
  · rw [bifT hfar, bifT hfar, if_pos (show (l.length : Int) < (t : Int) from hfar)]
    exact ⟨rfl, rfl, .inr ⟨by decide, rfl⟩⟩
  rw [bifF hfar, bifF hfar, if_neg (show ¬ (l.length : Int) < (t : Int) from hfar)]
  have put : ∀ (a b : Nat), a ≤ b → b ≤ l.length → spec_l9Do.l29 l (k, (f : Int), (t : Int), v) (a : Int) (b : Int) = some (l.take a ++ v ++ l.drop b, 0) := by
    intro a b hab hb
    have hvl := hs.1
    rw [spec_l9Do.l29_eq, bif2T (by omega) (by omega), Int.toNat_natCast, Int.toNat_natCast, ownT _ (by rw [List.length_take]; omega), sB, room16]
    simp only [List.length_append, List.length_take, List.length_drop]
    rw [bifT (by omega), bif2T (by omega) (by omega), bifT (by omega)]
  have fin : ∀ (a b : Nat), a ≤ b → b ≤ l.length → InvO 40 v → ((l.take a ++ v ++ l.drop b, (0 : Int)).2 = 0 ∧ InvO (n + 40) (l.take a ++ v ++ l.drop b, (0 : Int)).1 ∨ 0 < (l.take a ++ v ++ l.drop b, (0 : Int)).2 ∧ (l.take a ++ v ++ l.drop b, (0 : Int)).1 = []) := by
    intro a b hab hb hv
    exact .inl ⟨rfl, invO_len (invO_put hl hv) (by have := take_drop_len l v a b hab hb; have := hv.1; simp only at *; omega)⟩
  rcases hk with ⟨rfl, q1, q2⟩ | ⟨rfl, q1, q2, q3⟩ | ⟨rfl, q1, q3⟩ | ⟨rfl, q1, q3⟩ | ⟨rfl, q1, q2, q3⟩
  · have hv := fresh_inv q1
    obtain rfl : t = f := by omega
    rw [bifT rfl, bifT rfl, if_pos rfl, put t t (by omega) (by omega), insertT l v t (by omega) hv.2 (by omega) (by have := hv.1.1; omega)]
    exact ⟨rfl, rfl, fin t t (by omega) (by omega) hv.1⟩
  · have hv := fresh_inv q1
    obtain rfl : t = f := by omega
    rw [bifF (by omega), bifT rfl, bifF (by omega), bifT rfl, if_neg (by omega), if_pos rfl, dn1 (by omega) (by omega), put (t - 1) (t - 1) (by omega) (by omega), insertT l v (t - 1) (by omega) hv.2 (by omega) (by have := hv.1.1; omega)]
    exact ⟨rfl, rfl, fin (t - 1) (t - 1) (by omega) (by omega) hv.1⟩
  · have hv := fresh_inv q1
    rw [bifF (by omega), bifF (by omega), bifF (by omega), bifF (by omega), bifF (by omega), bifT rfl, if_neg (by omega), if_neg (by omega), if_neg (by omega), dn1 (by omega) (by omega), put (f - 1) t (by omega) (by omega), replaceT l v (f - 1) t (by omega) (by omega) (by omega) (by omega) (by have := hv.1.1; omega)]
    exact ⟨rfl, rfl, fin (f - 1) t (by omega) (by omega) hv.1⟩
  · subst q1
    rw [bifF (by omega), bifF (by omega), bifF (by omega), bifF (by omega), bifF (by omega), bifF (by omega), bifT rfl, if_neg (by omega), if_neg (by omega), if_neg (by omega), dn1 (by omega) (by omega), put (f - 1) t (by omega) (by omega), replaceT l [] (f - 1) t (by omega) (by omega) (by omega) (by omega) (by decide)]
    exact ⟨rfl, rfl, fin (f - 1) t (by omega) (by omega) ⟨by decide, fun _ h => (nomatch h), fun _ h => (nomatch h)⟩⟩
  · subst q1
    obtain rfl : t = f := by omega
    have hi : t - 1 < l.length := by omega
    have hm := getD_mem hi em
    have he := hl.2.1 _ hm
    have hz := hl.2.2 _ hm
    have h1s := he.1
    have hset : ∀ y : ByteArray, l.set (t - 1) y = l.take (t - 1) ++ [y] ++ l.drop t := by
      intro y
      rw [List.set_eq_take_append_cons_drop, if_pos hi, List.append_assoc, show t - 1 + 1 = t by omega]; rfl
    have hpd : ∀ {s : ByteArray}, decide ((((bl s).getD 0 0).toNat : Int) = 46) = decide ((bl s).getD 0 0 = 46) := by
      intro s
      rw [decide_eq_decide]
      constructor
      · intro h; exact UInt8.toNat_inj.1 (by show _ = 46; omega)
      · intro h; rw [h]; rfl
    rw [if_neg (show ¬ (5 : Int) = 1 by omega), if_neg (show ¬ (5 : Int) = 2 by omega), if_pos (show (5 : Int) = 5 from rfl)]
    refine ⟨?_, ?_, ?_⟩
    · rw [bifF (by omega), bifF (by omega), bifT rfl, dn1 (by omega) (by omega), bif2T (by omega) (by omega), Int.toNat_natCast]
      generalize l.getD (t - 1) em = s at he hz h1s ⊢
      rw [bifT (by omega), show (0 : Int) = ((0 : Nat) : Int) from rfl, bt_bl, hpd, toList_beq]
      by_cases d1 : (bl s).getD 0 0 = 46
      · rw [bifNF d1]
        by_cases d2 : s = dotL
        · rw [bifT d2, dotB_f (fun h : dotP s => h.2 d2)]; rfl
        · rw [bifF d2, dotB_t (show dotP s from ⟨d1, d2⟩), spec_l9Do.l27_eq, bif2T (by omega) (by omega), Int.toNat_natCast, Int.toNat_natCast, ownT _ (by rw [List.length_take]; omega), sB, bifT (by omega), room16]
          simp only [List.length_append, List.length_take, List.length_drop, List.length_singleton]
          rw [bifT (by omega), bif2T (by omega) (by omega), bifT (by omega)]; rfl
      · rw [bifNT d1, dotB_f (fun h : dotP s => d1 h.1)]; rfl
    · rw [bifF (by omega), bifF (by omega), bifF (by omega), bifF (by omega), impl_run.l23_eq]
      dsimp only
      rw [dn1 (by omega) (by omega), bif2T (by omega) (by omega), Int.toNat_natCast, hset]
      generalize l.getD (t - 1) em = s at he hz h1s ⊢
      rw [iPre _ h1s (by omega), sB, iPlain _ (by omega), sB, toList_beq]
      by_cases d1 : (bl s).getD 0 0 = 46
      · rw [bifNF d1]
        by_cases d2 : s = dotL
        · rw [bifT ((plain_dot he).2 d2), dotB_f (fun h : dotP s => h.2 d2)]; rfl
        · rw [bifF (fun h => d2 ((plain_dot he).1 h)), dotB_t (show dotP s from ⟨d1, d2⟩), bifT (by omega), bif2T (by omega) (by omega)]; rfl
      · rw [bifNT d1, dotB_f (fun h : dotP s => d1 h.1)]; rfl
    · generalize l.getD (t - 1) em = s at he hz h1s ⊢
      by_cases hd : dotP s
      · rw [dotB_t hd, cond_true]
        obtain ⟨e1, e2⟩ := endP_tail he hd
        refine .inl ⟨rfl, invO_len (invO_put (v := [s.extract 1 s.size]) hl ⟨by show 1 ≤ 40; omega, fun y hy => ?_, fun y hy => ?_⟩) ?_⟩
        · rw [List.mem_singleton] at hy; subst hy; exact e1
        · rw [List.mem_singleton] at hy; subst hy; rw [ByteArray.size_extract]; omega
        · simp only [List.length_append, List.length_take, List.length_drop, List.length_singleton]; omega
      · rw [dotB_f hd, cond_false]; exact .inr ⟨by decide, rfl⟩
theorem runs_loop (o : YOrderS) (h60 : o.length ≤ 60) (hG : ∀ x ∈ o, orderB x = true) (hS : ∀ x ∈ o, Sm x.2.2.2) :
    ∀ i, i ≤ o.length → ∀ out : T, InvO (60 + 40 * i) out → ∃ r : T × Int, spec_l9Run.l12 out o (o.length : Int) (i : Int) = some r ∧ impl_RunOrders.l14 out o (o.length : Int) (i : Int) = some (r.1, r.2, true) ∧ (r.2 = 0 ∧ goodB r.1 = true ∧ Sm r.1 ∧ Ended r.1 ∨ 0 < r.2 ∧ r.1 = []) := by
  apply downTo
  · intro out ho
    have hsm : Sm out := ⟨by have := ho.1; omega, ho.2.2⟩
    rw [spec_l9Run.l12_eq, impl_RunOrders.l14_eq, bifF (by omega), bifF (by omega), sGood out hsm, iGood out hsm]
    simp only [sB]
    cases h : goodB out with
    | false => exact ⟨_, rfl, rfl, .inr ⟨by decide, rfl⟩⟩
    | true => exact ⟨_, rfl, rfl, .inl ⟨rfl, h, hsm, ho.2.1⟩⟩
  · intro i hi ih out ho
    have hm := getD_mem hi ((0, 0, 0, []) : YOrder)
    obtain ⟨e1, e2, e3⟩ := run_both out _ (60 + 40 * i) (by omega) ho (hG _ hm) (hS _ hm)
    rw [spec_l9Run.l12_eq, impl_RunOrders.l14_eq, bifT (by omega), bif2T (by omega) (by omega), bifT (by omega), bif2T (by omega) (by omega), up1 (by omega)]
    simp only [Int.toNat_natCast]
    rw [e1, e2]
    simp only [sB]
    rcases e3 with ⟨k1, k2⟩ | ⟨k1, k2⟩
    · rw [bifF (by omega), bifNF k1]
      exact ih _ (invO_len k2 (by have := k2.1; omega))
    · rw [bifT (by omega), bifNT (by omega)]
      refine ⟨_, rfl, rfl, .inr ⟨k1, rfl⟩⟩
/-- the lines, with an end behind the last one -/
def closeB (l : T) : T := if wholeB l = true then l else l.set (l.length - 1) (l.getD (l.length - 1) em ++ ⟨#[10]⟩)
theorem endP_app (s : ByteArray) : endP (s ++ ⟨#[10]⟩) := by
  have h : bl (s ++ ⟨#[10]⟩) = bl s ++ [10] := by simp [bl, ByteArray.data_append]
  have h10 : (⟨#[10]⟩ : ByteArray).size = 1 := rfl
  refine ⟨by rw [ByteArray.size_append]; omega, ?_⟩
  rw [h, ByteArray.size_append, h10, Nat.add_sub_cancel, List.getD_eq_getElem?_getD, List.getElem?_append_right (by rw [bl_len]; omega), bl_len, Nat.sub_self]; rfl
theorem endsT_of : ∀ {l : T}, endsT l = true → ∀ i, i + 1 < l.length → endP (l.getD i em)
  | [], _, i, hi => by simp at hi
  | [s], _, i, hi => by simp at hi
  | s :: t :: l, h, 0, _ => by
    rw [endsT, Bool.and_eq_true] at h
    exact of_decide_eq_true h.1
  | s :: t :: l, h, i + 1, hi => by
    rw [endsT, Bool.and_eq_true] at h
    have := endsT_of (l := t :: l) h.2 i (by simp at hi ⊢; omega)
    exact this
theorem good_ends {l : T} (h : goodB l = true) : endsT l = true := by
  unfold goodB at h
  rw [Bool.and_eq_true] at h
  exact h.2
theorem good_line {l : T} (h : goodB l = true) : ∀ s ∈ l, lineP s := by
  unfold goodB at h
  rw [Bool.and_eq_true, Bool.and_eq_true] at h
  have := h.1.2
  unfold allLines at this
  exact fun s hs => of_decide_eq_true (List.all_eq_true.1 this s hs)
theorem whole_last {l : T} (h0 : 0 < l.length) : wholeB l = decide (endP (l.getD (l.length - 1) em)) := by
  rw [wholeB]
  have e : l.getLast? = some (l.getD (l.length - 1) em) := by
    rw [List.getLast?_eq_getElem?, List.getD_eq_getElem?_getD, List.getElem?_eq_getElem (by omega)]; rfl
  rw [e]
theorem close_inv {l : T} (h : goodB l = true) : InvO 60 (closeB l) := by
  have h40 := good_len h
  have hl := good_line h
  have he := endsT_of (good_ends h)
  unfold closeB
  by_cases hw : wholeB l = true
  · rw [if_pos hw]
    refine ⟨by omega, fun s hs => ?_, fun s hs => by have := (hl s hs).2.1; omega⟩
    obtain ⟨i, hi, rfl⟩ := List.getElem_of_mem hs
    have e : l[i] = l.getD i em := by rw [List.getD_eq_getElem?_getD, List.getElem?_eq_getElem hi]; rfl
    rw [e]
    by_cases hlast : i + 1 < l.length
    · exact he i hlast
    · rw [whole_last (by omega)] at hw
      rw [show i = l.length - 1 by omega]
      exact of_decide_eq_true hw
  · rw [if_neg hw]
    refine ⟨by rw [List.length_set]; omega, fun s hs => ?_, fun s hs => ?_⟩
    · obtain ⟨i, hi, rfl⟩ := List.getElem_of_mem hs
      rw [List.length_set] at hi
      rw [List.getElem_set]
      split
      · exact endP_app _
      · have e : l[i] = l.getD i em := by rw [List.getD_eq_getElem?_getD, List.getElem?_eq_getElem hi]; rfl
        rw [e]
        exact he i (by omega)
    · rcases List.mem_or_eq_of_mem_set hs with hs | rfl
      · have := (hl s hs).2.1; omega
      · rw [ByteArray.size_append]
        have h10 : (⟨#[10]⟩ : ByteArray).size = 1 := rfl
        by_cases h0 : 0 < l.length
        · have := (hl _ (getD_mem (l := l) (i := l.length - 1) (by omega) em)).2.1
          omega
        · have : l = [] := List.length_eq_zero_iff.1 (by omega)
          subst this
          decide
theorem runs_both (l : T) (o : YOrderS) (hl : Sm l) (hg : goodB l = true) (ho : SmO o) (hb : ordersB o = true) :
    ∃ r : T × Int, spec_l9Run.f l o = some r ∧ impl_RunOrders.l7 l o = some (r.1, r.2, true) ∧ (r.2 = 0 ∧ goodB r.1 = true ∧ Sm r.1 ∧ Ended r.1 ∨ 0 < r.2 ∧ r.1 = []) := by
  have hbo := hb
  unfold ordersB at hbo
  rw [Bool.and_eq_true] at hbo
  obtain ⟨r, e1, e2, e3⟩ := runs_loop o (of_decide_eq_true hbo.1) (fun x hx => List.all_eq_true.1 hbo.2 x hx) ho.2 0 (by omega) (closeB l) (close_inv hg)
  refine ⟨r, ?_, ?_, e3⟩
  · rw [spec_l9Run.f_eq, ownT l hl.1, sB]
    have h40 := good_len hg
    unfold closeB at e1
    by_cases h0 : (l.length : Int) > 0
    · have hm := getD_mem (l := l) (i := l.length - 1) (by omega) em
      have hp := good_line hg _ hm
      have h30 := hp.2.1
      have h10 : (⟨#[10]⟩ : ByteArray).size = 1 := rfl
      rw [bifT h0, dn1 (by omega) (by omega), bif2T (by omega) (by omega), Int.toNat_natCast, sEnds _ hp.1 (by omega), sB]
      rw [whole_last (by omega)] at e1
      by_cases he : endP (l.getD (l.length - 1) em)
      · rw [bifNF he, spec_l9Run.l11_eq]
        rw [if_pos (decide_eq_true he)] at e1
        exact e1
      · rw [bifNT he, bif2T (by omega) (by omega), bifT (by omega), bif2T (by omega) (by omega), spec_l9Run.l11_eq]
        rw [if_neg (by rw [decide_eq_false he]; decide)] at e1
        exact e1
    · rw [bifF h0, spec_l9Run.l11_eq]
      have : l = [] := List.length_eq_zero_iff.1 (by omega)
      subst this
      exact e1
  · rw [impl_RunOrders.l7_eq, cloneT l hl.1, sB, iWhole l hl.1 (fun s hs => by have := hl.2 s hs; omega), sB]
    have h40 := good_len hg
    unfold closeB at e2
    by_cases hw : wholeB l = true
    · rw [hw, notT, impl_RunOrders.l13_eq]
      rw [if_pos hw] at e2
      exact e2
    · rw [if_neg hw] at e2
      have hwf : wholeB l = false := by cases h : wholeB l with | true => exact absurd h hw | false => rfl
      have h0 : 0 < l.length := by
        rcases Nat.eq_zero_or_pos l.length with h | h
        · have : l = [] := List.length_eq_zero_iff.1 h
          subst this
          exact absurd rfl hw
        · exact h
      have hm := getD_mem (l := l) (i := l.length - 1) (by omega) em
      have h30 := (good_line hg _ hm).2.1
      have h10 : (⟨#[10]⟩ : ByteArray).size = 1 := rfl
      rw [hwf, notF, dn1 (by omega) (by omega), bif2T (by omega) (by omega), Int.toNat_natCast, bifT (by omega), bif2T (by omega) (by omega), impl_RunOrders.l13_eq]
      exact e2
/-- what RunOrders answers -/
theorem runOrders_both (l : T) (o : YOrderS) (hl : Sm l) (ho : SmO o) :
    (goodB l = true ∧ ordersB o = true ∧ ∃ r : T × Int, spec_l9Run.f l o = some r ∧ impl_RunOrders.f l o = some (r.1, r.2, true) ∧ (r.2 = 0 ∧ goodB r.1 = true ∧ Sm r.1 ∧ Ended r.1 ∨ 0 < r.2 ∧ r.1 = [])) ∨
      ((goodB l && ordersB o) = false ∧ impl_RunOrders.f l o = some ([], 0, false)) := by
  rw [impl_RunOrders.f_eq, iGood l hl, sB]
  cases hg : goodB l with
  | false => exact .inr ⟨rfl, rfl⟩
  | true =>
    rw [notT, iOrders o ho, sB]
    cases hb : ordersB o with
    | false => exact .inr ⟨rfl, rfl⟩
    | true =>
      obtain ⟨r, e1, e2, e3⟩ := runs_both l o hl hg ho hb
      exact .inl ⟨rfl, rfl, r, e1, by rw [notT]; exact e2, e3⟩
abbrev Hk := Int × Int × T
abbrev hz : Hk := (0, 0, [])
def inn (x : ByteArray) (f : T → Nat) : T → Nat
  | [] => 0
  | y :: ys => if x = y then f ys + 1 else max (f (y :: ys)) (inn x f ys)
def lcs : T → T → Nat
  | [], _ => 0
  | x :: xs, ys => inn x (lcs xs) ys
theorem lcs_nil (xs : T) : lcs xs [] = 0 := by cases xs <;> rfl
theorem lcs_cons (x : ByteArray) (xs : T) (y : ByteArray) (ys : T) : lcs (x :: xs) (y :: ys) = if x = y then lcs xs ys + 1 else max (lcs xs (y :: ys)) (lcs (x :: xs) ys) := rfl
theorem lcs_step : ∀ (n : Nat) (xs ys : T), xs.length + ys.length ≤ n →
    (∀ x, lcs xs ys ≤ lcs (x :: xs) ys ∧ lcs (x :: xs) ys ≤ lcs xs ys + 1) ∧ (∀ y, lcs xs ys ≤ lcs xs (y :: ys) ∧ lcs xs (y :: ys) ≤ lcs xs ys + 1) := by
  intro n
  induction n with
  | zero =>
    intro xs ys h
    have h1 : xs.length = 0 := by omega
    have h2 : ys.length = 0 := by omega
    obtain rfl := List.length_eq_zero_iff.1 h1
    obtain rfl := List.length_eq_zero_iff.1 h2
    exact ⟨fun x => ⟨Nat.le_refl _, Nat.le_succ _⟩, fun y => ⟨Nat.le_refl _, Nat.le_succ _⟩⟩
  | succ n ih =>
    intro xs ys h
    refine ⟨fun x => ?_, fun y => ?_⟩
    · cases ys with
      | nil => rw [lcs_nil, lcs_nil]; omega
      | cons y ys =>
        have hI := ih xs ys (by simp at h; omega)
        have h1 := hI.1 x
        have h2 := hI.2 y
        rw [lcs_cons]
        split
        · omega
        · omega
    · cases xs with
      | nil => exact ⟨Nat.le_refl _, Nat.zero_le _⟩
      | cons x xs =>
        have hI := ih xs ys (by simp at h; omega)
        have h1 := hI.1 x
        have h2 := hI.2 y
        rw [lcs_cons]
        split
        · omega
        · omega
theorem lcs_le : ∀ xs ys : T, lcs xs ys ≤ xs.length
  | [], _ => Nat.le_refl _
  | x :: xs, ys => by
    have h1 := lcs_le xs ys
    have h2 := ((lcs_step _ xs ys (Nat.le_refl _)).1 x).2
    rw [List.length_cons]; omega
def tv (a b : T) (i j : Nat) : Nat := lcs (a.drop i) (b.drop j)
theorem tv_i {a b : T} {i j : Nat} (h : a.length ≤ i) : tv a b i j = 0 := by unfold tv; rw [List.drop_eq_nil_of_le h]; rfl
theorem tv_j {a b : T} {i j : Nat} (h : b.length ≤ j) : tv a b i j = 0 := by unfold tv; rw [List.drop_eq_nil_of_le h, lcs_nil]
theorem tv_le (a b : T) (i j : Nat) : tv a b i j ≤ a.length := by
  unfold tv
  have := lcs_le (a.drop i) (b.drop j)
  rw [List.length_drop] at this; omega
theorem tv_step {a b : T} {i j : Nat} (hi : i < a.length) (hj : j < b.length) : tv a b i j = if a.getD i em = b.getD j em then tv a b (i + 1) (j + 1) + 1 else max (tv a b (i + 1) j) (tv a b i (j + 1)) := by
  unfold tv
  rw [drop_at hi em, drop_at hj em]
  exact lcs_cons _ _ _ _
theorem tv_near {a b : T} {i j : Nat} (hi : i < a.length) (hj : j < b.length) : tv a b (i + 1) j ≤ tv a b (i + 1) (j + 1) + 1 ∧ tv a b i (j + 1) ≤ tv a b (i + 1) (j + 1) + 1 := by
  unfold tv
  have h := lcs_step _ (a.drop (i + 1)) (b.drop (j + 1)) (Nat.le_refl _)
  have h1 := (h.1 (a.getD i em)).2
  have h2 := (h.2 (b.getD j em)).2
  rw [← drop_at hi em] at h1
  rw [← drop_at hj em] at h2
  exact ⟨h2, h1⟩
def Mt (a b : T) (i j p q : Nat) : Prop := a.getD p em = b.getD q em ∧ tv a b (p + 1) (q + 1) + 1 = tv a b i j
theorem ex_match (a b : T) : ∀ (n i j : Nat), (a.length - i) + (b.length - j) ≤ n → 0 < tv a b i j → ∃ p q, i ≤ p ∧ p < a.length ∧ j ≤ q ∧ q < b.length ∧ Mt a b i j p q := by
  intro n
  induction n with
  | zero => intro i j h h0; rw [tv_i (by omega)] at h0; omega
  | succ n ih =>
    intro i j h h0
    by_cases hi : i < a.length
    · by_cases hj : j < b.length
      · have hs := tv_step hi hj
        by_cases e : a.getD i em = b.getD j em
        · rw [if_pos e] at hs
          exact ⟨i, j, Nat.le_refl _, hi, Nat.le_refl _, hj, e, hs.symm⟩
        · rw [if_neg e] at hs
          by_cases c : tv a b i (j + 1) ≤ tv a b (i + 1) j
          · have e2 : tv a b i j = tv a b (i + 1) j := by omega
            obtain ⟨p, q, h1, h2, h3, h4, h5⟩ := ih (i + 1) j (by omega) (by omega)
            exact ⟨p, q, by omega, h2, h3, h4, h5.1, by rw [e2]; exact h5.2⟩
          · have e2 : tv a b i j = tv a b i (j + 1) := by omega
            obtain ⟨p, q, h1, h2, h3, h4, h5⟩ := ih i (j + 1) (by omega) (by omega)
            exact ⟨p, q, h1, h2, by omega, h4, h5.1, by rw [e2]; exact h5.2⟩
      · rw [tv_j (by omega)] at h0; omega
    · rw [tv_i (by omega)] at h0; omega
theorem least {P : Nat → Prop} (h : ∃ n, P n) : ∃ n, P n ∧ ∀ m, m < n → ¬ P m := by
  obtain ⟨n, hn⟩ := h
  induction n using Nat.strongRecOn with
  | _ n ih =>
    by_cases g : ∃ m, m < n ∧ P m
    · obtain ⟨m, hm, hp⟩ := g
      exact ih m hm hp
    · exact ⟨n, hn, fun m hm hp => g ⟨m, hm, hp⟩⟩
structure Lst (a b : T) (i j p q : Nat) : Prop where
  hip : i ≤ p
  hpa : p < a.length
  hjq : j ≤ q
  hqb : q < b.length
  hm : Mt a b i j p q
  hrow : ∀ p' q', i ≤ p' → p' < p → j ≤ q' → q' < b.length → ¬ Mt a b i j p' q'
  hcol : ∀ q', j ≤ q' → q' < q → ¬ Mt a b i j p q'
theorem ex_least (a b : T) (i j : Nat) (h : 0 < tv a b i j) : ∃ p q, Lst a b i j p q := by
  obtain ⟨p0, q0, h1, h2, h3, h4, h5⟩ := ex_match a b _ i j (Nat.le_refl _) h
  obtain ⟨p, ⟨hp1, hp2, hp3⟩, hp4⟩ := least (P := fun p => i ≤ p ∧ p < a.length ∧ ∃ q, j ≤ q ∧ q < b.length ∧ Mt a b i j p q) ⟨p0, h1, h2, q0, h3, h4, h5⟩
  obtain ⟨q, ⟨hq1, hq2, hq3⟩, hq4⟩ := least (P := fun q => j ≤ q ∧ q < b.length ∧ Mt a b i j p q) hp3
  exact ⟨p, q, hp1, hp2, hq1, hq2, hq3, fun p' q' g1 g2 g3 g4 g5 => hp4 p' g2 ⟨g1, by omega, q', g3, g4, g5⟩, fun q' g1 g2 g3 => hq4 q' g2 ⟨g1, by omega, g3⟩⟩
def PR (a b : T) : Nat → Nat → List (Nat × Nat) → Prop
  | i, j, [] => tv a b i j = 0
  | i, j, (p, q) :: l => Lst a b i j p q ∧ PR a b (p + 1) (q + 1) l
theorem ex_PR (a b : T) : ∀ (n i j : Nat), a.length - i ≤ n → ∃ l, PR a b i j l ∧ l.length ≤ n := by
  intro n
  induction n with
  | zero => intro i j h; exact ⟨[], tv_i (by omega), Nat.le_refl _⟩
  | succ n ih =>
    intro i j h
    by_cases h0 : 0 < tv a b i j
    · obtain ⟨p, q, hL⟩ := ex_least a b i j h0
      have h1 := hL.hip
      have h2 := hL.hpa
      obtain ⟨l, hl, hn⟩ := ih (p + 1) (q + 1) (by omega)
      exact ⟨(p, q) :: l, ⟨hL, hl⟩, by rw [List.length_cons]; omega⟩
    · exact ⟨[], (by show tv a b i j = 0; omega), Nat.zero_le _⟩
def trow (a b : T) (i : Nat) : List Int := (List.range (b.length + 1)).map fun j => (tv a b i j : Int)
def tbl (a b : T) : List (List Int) := (List.range (a.length + 1)).map (trow a b)
theorem trow_len (a b : T) (i : Nat) : (trow a b i).length = b.length + 1 := by simp [trow]
theorem tbl_len (a b : T) : (tbl a b).length = a.length + 1 := by simp [tbl]
theorem trow_get (a b : T) (i : Nat) {j : Nat} (h : j ≤ b.length) : (trow a b i).getD j 0 = (tv a b i j : Int) := by
  unfold trow
  simp [List.getD_eq_getElem?_getD, List.getElem?_map, List.getElem?_range (show j < b.length + 1 by omega)]
theorem tbl_get (a b : T) {i : Nat} (h : i ≤ a.length) : (tbl a b).getD i [] = trow a b i := by
  unfold tbl
  simp [List.getD_eq_getElem?_getD, List.getElem?_map, List.getElem?_range (show i < a.length + 1 by omega)]
theorem row_eq (a b : T) (i : Nat) (y : List Int) (h : y.length = b.length + 1) (h2 : ∀ c, c ≤ b.length → y.getD c 0 = (tv a b i c : Int)) : y = trow a b i := by
  apply List.ext_getElem
  · rw [h, trow_len]
  · intro c hc hc2
    have h3 := h2 c (by omega)
    have h4 := trow_get a b i (j := c) (by omega)
    rw [List.getD_eq_getElem?_getD, List.getElem?_eq_getElem hc] at h3
    rw [List.getD_eq_getElem?_getD, List.getElem?_eq_getElem hc2] at h4
    simp at h3 h4
    rw [h3, h4]
theorem tbl_eq (a b : T) (x : List (List Int)) (h : x.length = a.length + 1) (h2 : ∀ r, r ≤ a.length → x.getD r [] = trow a b r) : x = tbl a b := by
  apply List.ext_getElem
  · rw [h, tbl_len]
  · intro c hc hc2
    have h3 := h2 c (by omega)
    have h4 := tbl_get a b (i := c) (by omega)
    rw [List.getD_eq_getElem?_getD, List.getElem?_eq_getElem hc] at h3
    rw [List.getD_eq_getElem?_getD, List.getElem?_eq_getElem hc2] at h4
    simp at h3 h4
    rw [h3, h4]
abbrev Tb := List (List Int)
theorem zeros_get (n c : Nat) : (List.replicate n (0 : Int)).getD c 0 = 0 := by
  rw [List.getD_eq_getElem?_getD, List.getElem?_replicate]; split <;> rfl
theorem most (a b : Int) : spec_l1Most.f a b = some (max a b) := by
  rw [spec_l1Most.f_eq]
  by_cases h : a > b
  · rw [bifT h]; congr 1; omega
  · rw [bifF h]; congr 1; omega
/-- Row i is known behind place j. -/
def RowInv (a b : T) (x : Tb) (i j : Nat) : Prop := x.length = a.length + 1 ∧ (∀ r, i < r → r ≤ a.length → x.getD r [] = trow a b r) ∧ (x.getD i []).length = b.length + 1 ∧ ∀ c, j ≤ c → c ≤ b.length → (x.getD i []).getD c 0 = (tv a b i c : Int)
theorem inv_put (a b : T) {x : Tb} {i j : Nat} (h : RowInv a b x i (j + 1)) (hi : i < a.length) (hj : j < b.length) : RowInv a b (x.set i ((x.getD i []).set j (tv a b i j : Int))) i j := by
  obtain ⟨h1, h2, h3, h4⟩ := h
  have hs : (x.set i ((x.getD i []).set j (tv a b i j : Int))).getD i [] = (x.getD i []).set j (tv a b i j : Int) := set_same (by omega) _ _
  refine ⟨by rw [List.length_set]; exact h1, fun r hr hr2 => ?_, ?_, fun c hc hc2 => ?_⟩
  · rw [set_else (by omega)]; exact h2 r hr hr2
  · rw [hs, List.length_set]; exact h3
  · rw [hs]
    by_cases e : c = j
    · subst e; exact set_same (by omega) _ _
    · rw [set_else (by omega)]; exact h4 c (by omega) hc2
theorem inv_row (a b : T) {x : Tb} {i : Nat} (h : RowInv a b x i 0) : ∀ r, i ≤ r → r ≤ a.length → x.getD r [] = trow a b r := by
  intro r hr hr2
  by_cases e : r = i
  · subst e; exact row_eq a b r _ h.2.2.1 (fun c hc => h.2.2.2 c (Nat.zero_le _) hc)
  · exact h.2.1 r (by omega) hr2
section
variable (a b : T) (ha : a.length ≤ 1000) (hb : b.length ≤ 1000)
include ha hb
theorem sT_l2 (R : Tb) (i : Nat) (hi : i < a.length) (k : ∀ x : Tb, RowInv a b x i 0 → (∀ r, r < i → (x.getD r []).length = b.length + 1 ∧ (x.getD r []).getD b.length 0 = 0) → spec_l3Table.l16 a b x ((i : Int) - 1) = some R) :
    ∀ (j : Nat) (x : Tb), j ≤ b.length → RowInv a b x i j → (∀ r, r < i → (x.getD r []).length = b.length + 1 ∧ (x.getD r []).getD b.length 0 = 0) → spec_l3Table.l22 a b x (i : Int) ((j : Int) - 1) = some R := by
  intro j
  induction j with
  | zero =>
    intro x hj h hz
    have hw : w64 ((i : Int) - 1) = (i : Int) - 1 := w64_id (by omega) (by omega)
    rw [spec_l3Table.l22_eq, bifF (by omega), hw]
    exact k x h hz
  | succ j ih =>
    intro x hj h hz
    have e0 : ((j + 1 : Nat) : Int) - 1 = (j : Int) := by omega
    rw [e0]
    obtain ⟨h1, h2, h3, h4⟩ := h
    have hi1 : w64 ((i : Int) + 1) = ((i + 1 : Nat) : Int) := up1 (by omega)
    have hj1 : w64 ((j : Int) + 1) = ((j + 1 : Nat) : Int) := up1 (by omega)
    have hj2 : w64 ((j : Int) - 1) = (j : Int) - 1 := w64_id (by omega) (by omega)
    have hrow := h2 (i + 1) (by omega) (by omega)
    have g1 : (trow a b (i + 1)).getD j 0 = (tv a b (i + 1) j : Int) := trow_get a b (i + 1) (by omega)
    have g2 : (trow a b (i + 1)).getD (j + 1) 0 = (tv a b (i + 1) (j + 1) : Int) := trow_get a b (i + 1) (by omega)
    have g3 := h4 (j + 1) (by omega) (by omega)
    have hl := trow_len a b (i + 1)
    have hb1 := tv_le a b (i + 1) (j + 1)
    have hv : w64 ((tv a b (i + 1) (j + 1) : Int) + 1) = (tv a b (i + 1) (j + 1) : Int) + 1 := w64_id (by omega) (by omega)
    have hs := tv_step (a := a) (b := b) (i := i) (j := j) (by omega) (by omega)
    have hn := tv_near (a := a) (b := b) (i := i) (j := j) (by omega) (by omega)
    have hset : ∀ v : Int, (x.set i ((x.getD i []).set j v)).getD i [] = (x.getD i []).set j v := fun v => set_same (by omega) _ _
    have hset1 : ∀ v : Int, (x.set i ((x.getD i []).set j v)).getD (i + 1) [] = trow a b (i + 1) := fun v => by rw [set_else (by omega)]; exact hrow
    have hsame : ∀ v : Int, ((x.getD i []).set j v).getD j 0 = v := fun v => set_same (by omega) _ _
    have fin : spec_l3Table.l22 a b (x.set i ((x.getD i []).set j (tv a b i j : Int))) (i : Int) ((j : Int) - 1) = some R := by
      refine ih _ (by omega) (inv_put a b ⟨h1, h2, h3, h4⟩ (by omega) (by omega)) (fun r hr => ?_)
      rw [set_else (by omega)]; exact hz r hr
    rw [spec_l3Table.l22_eq]
    simp only [hi1, hj1, hj2, Int.toNat_natCast, hrow, g1, g3, hl, List.length_set, hset, hset1, hsame, g2, hv, toList_beq]
    clear hi1 hj1 hj2
    simp (disch := omega) only [bifT, bif2T, most, sB]
    by_cases e : a.getD i em = b.getD j em
    · rw [if_pos e] at hs
      rw [bifT e, List.set_set, List.set_set]
      rw [show max (max (tv a b (i + 1) j : Int) (tv a b i (j + 1) : Int)) ((tv a b (i + 1) (j + 1) : Int) + 1) = (tv a b i j : Int) by omega]
      exact fin
    · rw [if_neg e] at hs
      rw [bifF e]
      rw [show max (tv a b (i + 1) j : Int) (tv a b i (j + 1) : Int) = (tv a b i j : Int) by omega]
      exact fin
theorem sT_l1 : ∀ (d : Nat) (x : Tb), d ≤ a.length → x.length = a.length + 1 → (∀ r, d ≤ r → r ≤ a.length → x.getD r [] = trow a b r) → (∀ r, r < d → (x.getD r []).length = b.length + 1 ∧ (x.getD r []).getD b.length 0 = 0) →
    spec_l3Table.l16 a b x ((d : Int) - 1) = some (tbl a b) := by
  intro d
  induction d with
  | zero =>
    intro x hd h1 h2 hz
    rw [spec_l3Table.l16_eq, bifF (by omega), tbl_eq a b x h1 (fun r hr => h2 r (Nat.zero_le _) hr)]
  | succ d ih =>
    intro x hd h1 h2 hz
    have e0 : ((d + 1 : Nat) : Int) - 1 = (d : Int) := by omega
    have hw : w64 ((b.length : Int) - 1) = (b.length : Int) - 1 := w64_id (by omega) (by omega)
    rw [e0, spec_l3Table.l16_eq, bifT (by omega), hw]
    refine sT_l2 a b ha hb _ d (by omega) (fun y hy hyz => ?_) b.length x (Nat.le_refl _) ⟨h1, fun r hr hr2 => h2 r (by omega) hr2, (hz d (by omega)).1, fun c hc hc2 => ?_⟩ (fun r hr => hz r (by omega))
    · exact ih y (by omega) hy.1 (fun r hr hr2 => inv_row a b hy r hr hr2) hyz
    · have e : c = b.length := by omega
      subst e
      rw [(hz d (by omega)).2, tv_j (Nat.le_refl _)]; rfl
theorem sTable : spec_l3Table.f a b = some (tbl a b) := by
  have w1 : w64 ((a.length : Int) + 1) = ((a.length + 1 : Nat) : Int) := up1 (by omega)
  have w2 : w64 ((b.length : Int) + 1) = ((b.length + 1 : Nat) : Int) := up1 (by omega)
  have w3 : w64 ((a.length : Int) - 1) = (a.length : Int) - 1 := w64_id (by omega) (by omega)
  have key : ∀ i, i ≤ a.length + 1 → ∀ x : Tb, x.length = a.length + 1 → (∀ r, r < i → x.getD r [] = List.replicate (b.length + 1) 0) → spec_l3Table.l6 a b x ((a.length + 1 : Nat) : Int) (i : Int) = some (tbl a b) := by
    apply downTo
    · intro x h1 h2
      rw [spec_l3Table.l6_eq, bifF (by omega), w3]
      refine sT_l1 a b ha hb a.length x (Nat.le_refl _) h1 (fun r hr hr2 => ?_) (fun r hr => ?_)
      · have e : r = a.length := by omega
        subst e
        rw [h2 _ (by omega)]
        refine row_eq a b _ _ (by simp) (fun c hc => ?_)
        rw [zeros_get, tv_i (Nat.le_refl _)]; rfl
      · rw [h2 r (by omega)]
        exact ⟨by simp, zeros_get _ _⟩
    · intro i hi ih x h1 h2
      have hi1 := up1 (i := i) (by omega)
      rw [spec_l3Table.l6_eq]
      simp only [w2, hi1, Int.toNat_natCast, room8]
      rw [bifT (by omega), bif2T (by omega) (by omega), bif2T (by omega) (by omega)]
      refine ih _ (by rw [List.length_set]; exact h1) fun r hr => ?_
      by_cases e : r = i
      · subst e; exact set_same (by omega) _ _
      · rw [set_else (by omega)]; exact h2 r (by omega)
  rw [spec_l3Table.f_eq]
  simp only [w1, Int.toNat_natCast, room24, List.length_replicate]
  rw [bif2T (by omega) (by omega)]
  exact key 0 (by omega) _ (by simp) (fun r hr => absurd hr (Nat.not_lt_zero r))
theorem iT_l1 (R : Tb) (i : Nat) (hi : i < a.length) (k : ∀ x : Tb, RowInv a b x i 0 → impl_common.l8 a b x ((i : Int) - 1) = some R) :
    ∀ (j : Nat) (x : Tb), j ≤ b.length → RowInv a b x i j → impl_common.l16 a b x (i : Int) ((j : Int) - 1) = some R := by
  intro j
  induction j with
  | zero =>
    intro x hj h
    have hw : w64 ((i : Int) - 1) = (i : Int) - 1 := w64_id (by omega) (by omega)
    rw [impl_common.l16_eq, bifF (by omega), hw]
    exact k x h
  | succ j ih =>
    intro x hj h
    have e0 : ((j + 1 : Nat) : Int) - 1 = (j : Int) := by omega
    rw [e0]
    have fin : impl_common.l16 a b (x.set i ((x.getD i []).set j (tv a b i j : Int))) (i : Int) ((j : Int) - 1) = some R := ih _ (by omega) (inv_put a b h (by omega) (by omega))
    obtain ⟨h1, h2, h3, h4⟩ := h
    have hi1 : w64 ((i : Int) + 1) = ((i + 1 : Nat) : Int) := up1 (by omega)
    have hj1 : w64 ((j : Int) + 1) = ((j + 1 : Nat) : Int) := up1 (by omega)
    have hj2 : w64 ((j : Int) - 1) = (j : Int) - 1 := w64_id (by omega) (by omega)
    have hrow := h2 (i + 1) (by omega) (by omega)
    have g1 : (trow a b (i + 1)).getD j 0 = (tv a b (i + 1) j : Int) := trow_get a b (i + 1) (by omega)
    have g2 : (trow a b (i + 1)).getD (j + 1) 0 = (tv a b (i + 1) (j + 1) : Int) := trow_get a b (i + 1) (by omega)
    have g3 := h4 (j + 1) (by omega) (by omega)
    have hl := trow_len a b (i + 1)
    have hb1 := tv_le a b (i + 1) (j + 1)
    have hv : w64 ((tv a b (i + 1) (j + 1) : Int) + 1) = (tv a b (i + 1) (j + 1) : Int) + 1 := w64_id (by omega) (by omega)
    have hs := tv_step (a := a) (b := b) (i := i) (j := j) (by omega) (by omega)
    rw [impl_common.l16_eq]
    simp only [hi1, hj1, hj2, Int.toNat_natCast, toList_beq, hrow, g1, g2, g3, hv, hl]
    clear hi1 hj1 hj2
    simp (disch := omega) only [bifT, bif2T]
    by_cases e : a.getD i em = b.getD j em
    · rw [if_pos e] at hs
      rw [bifT e, show (tv a b (i + 1) (j + 1) : Int) + 1 = (tv a b i j : Int) by omega]
      exact fin
    · rw [if_neg e] at hs
      rw [bifF e, show max (tv a b (i + 1) j : Int) (tv a b i (j + 1) : Int) = (tv a b i j : Int) by omega]
      exact fin
theorem iT_l0 : ∀ (d : Nat) (x : Tb), d ≤ a.length → x.length = a.length + 1 → (∀ r, d ≤ r → r ≤ a.length → x.getD r [] = trow a b r) → impl_common.l8 a b x ((d : Int) - 1) = some (tbl a b) := by
  intro d
  induction d with
  | zero =>
    intro x hd h1 h2
    rw [impl_common.l8_eq, bifF (by omega), tbl_eq a b x h1 (fun r hr => h2 r (Nat.zero_le _) hr)]
  | succ d ih =>
    intro x hd h1 h2
    have e0 : ((d + 1 : Nat) : Int) - 1 = (d : Int) := by omega
    have hw : w64 ((b.length : Int) - 1) = (b.length : Int) - 1 := w64_id (by omega) (by omega)
    have w2 : w64 ((b.length : Int) + 1) = ((b.length + 1 : Nat) : Int) := up1 (by omega)
    have hs : (x.set d (List.replicate (b.length + 1) (0 : Int))).getD d [] = List.replicate (b.length + 1) 0 := set_same (by omega) _ _
    rw [e0, impl_common.l8_eq]
    simp only [hw, w2, Int.toNat_natCast, room8]
    rw [bifT (by omega), bif2T (by omega) (by omega), bif2T (by omega) (by omega)]
    refine iT_l1 a b ha hb _ d (by omega) (fun y hy => ?_) b.length _ (Nat.le_refl _) ⟨by rw [List.length_set]; exact h1, fun r hr hr2 => ?_, by rw [hs]; simp, fun c hc hc2 => ?_⟩
    · exact ih y (by omega) hy.1 (fun r hr hr2 => inv_row a b hy r hr hr2)
    · rw [set_else (by omega)]; exact h2 r (by omega) hr2
    · have e : c = b.length := by omega
      subst e
      rw [hs, zeros_get, tv_j (Nat.le_refl _)]; rfl
theorem iTable : impl_common.f a b = some (tbl a b) := by
  have w1 : w64 ((a.length : Int) + 1) = ((a.length + 1 : Nat) : Int) := up1 (by omega)
  have w2 : w64 ((b.length : Int) + 1) = ((b.length + 1 : Nat) : Int) := up1 (by omega)
  have w3 : w64 ((a.length : Int) - 1) = (a.length : Int) - 1 := w64_id (by omega) (by omega)
  rw [impl_common.f_eq]
  simp only [w1, w2, w3, Int.toNat_natCast, List.length_replicate, room8, room24]
  rw [bif2T (by omega) (by omega), bif2T (by omega) (by omega), bif2T (by omega) (by omega)]
  refine iT_l0 a b ha hb a.length _ (Nat.le_refl _) (by rw [List.length_set, List.length_replicate]) (fun r hr hr2 => ?_)
  have e : r = a.length := by omega
  subst e
  rw [set_same (by rw [List.length_replicate]; omega)]
  refine row_eq a b _ _ (by simp) (fun c hc => ?_)
  rw [zeros_get, tv_i (Nat.le_refl _)]; rfl
end
abbrev P2 := Int × Int
def cvS (l : List (Nat × Nat)) : List P2 := l.map fun p => ((p.1 : Int), (p.2 : Int))
def cvI (l : List (Nat × Nat)) : Tb := l.map fun p => [(p.1 : Int), (p.2 : Int)]
theorem tb_row (a b : T) {i : Nat} (h : i ≤ a.length) : (tbl a b).getD i [] = trow a b i := tbl_get a b h
section
variable (a b : T) (ha : a.length ≤ 1000) (hb : b.length ≤ 1000) (i j : Nat) (hi : i ≤ a.length) (hj : j ≤ b.length) (acc : List P2) (R : List P2)
include ha hb hi hj
theorem sp_end (r c : Nat) (hr : i ≤ r) (hr2 : r < a.length) (x y : Int) (h : c < j ∨ c = j) (k : spec_l3Pairs.l14 a b (tbl a b) acc (i : Int) (j : Int) x y ((r : Int) - 1) = some R) :
    spec_l3Pairs.l20 a b (tbl a b) acc (i : Int) (j : Int) x y (r : Int) ((c : Int) - 1) = some R := by
  have _ := hb
  have _ := hi
  have _ := hj
  have hw : w64 ((r : Int) - 1) = (r : Int) - 1 := w64_id (by omega) (by omega)
  rw [spec_l3Pairs.l20_eq]
  rw [bifF (by omega), hw]
  exact k
theorem sp_step (r c : Nat) (hr : i ≤ r) (hr2 : r < a.length) (hc : j ≤ c) (hc2 : c < b.length) (x y : Int)
    (k1 : Mt a b i j r c → spec_l3Pairs.l20 a b (tbl a b) acc (i : Int) (j : Int) (r : Int) (c : Int) (r : Int) ((c : Int) - 1) = some R)
    (k0 : ¬ Mt a b i j r c → spec_l3Pairs.l20 a b (tbl a b) acc (i : Int) (j : Int) x y (r : Int) ((c : Int) - 1) = some R) :
    spec_l3Pairs.l20 a b (tbl a b) acc (i : Int) (j : Int) x y (r : Int) (((c + 1 : Nat) : Int) - 1) = some R := by
  have e0 : ((c + 1 : Nat) : Int) - 1 = (c : Int) := by omega
  rw [e0]
  have hr1 : w64 ((r : Int) + 1) = ((r + 1 : Nat) : Int) := up1 (by omega)
  have hc1 : w64 ((c : Int) + 1) = ((c + 1 : Nat) : Int) := up1 (by omega)
  have hc3 : w64 ((c : Int) - 1) = (c : Int) - 1 := w64_id (by omega) (by omega)
  have hb1 := tv_le a b (r + 1) (c + 1)
  have hv : w64 ((tv a b (r + 1) (c + 1) : Int) + 1) = (tv a b (r + 1) (c + 1) : Int) + 1 := w64_id (by omega) (by omega)
  have L1 := tbl_len a b
  have L2 := trow_len a b (r + 1)
  have L3 := trow_len a b i
  have g1 := trow_get a b (r + 1) (j := c + 1) (by omega)
  have g2 := trow_get a b i (j := j) hj
  rw [spec_l3Pairs.l20_eq]
  simp only [hr1, hc1, hc3, Int.toNat_natCast, toList_beq, tb_row a b (show r + 1 ≤ a.length by omega), tb_row a b hi, g1, g2, hv, L1, L2, L3]
  clear hr1 hc1 hc3 hv
  simp (disch := omega) only [bifT, bif2T]
  by_cases e : a.getD r em = b.getD c em
  · rw [bifT e]
    by_cases m : tv a b (r + 1) (c + 1) + 1 = tv a b i j
    · rw [bifT (by omega)]; exact k1 ⟨e, m⟩
    · rw [bifF (by omega)]; exact k0 (fun h => m h.2)
  · rw [bifF e]; exact k0 (fun h => e h.1)
theorem sp_any (r : Nat) (hr : i ≤ r) (hr2 : r < a.length) (k : ∀ x y, spec_l3Pairs.l14 a b (tbl a b) acc (i : Int) (j : Int) x y ((r : Int) - 1) = some R) :
    ∀ (c : Nat), c ≤ b.length → ∀ x y, spec_l3Pairs.l20 a b (tbl a b) acc (i : Int) (j : Int) x y (r : Int) ((c : Int) - 1) = some R := by
  intro c
  induction c with
  | zero => intro hc x y; exact sp_end a b ha hb i j hi hj acc R r 0 hr hr2 x y (by omega) (k x y)
  | succ c ih =>
    intro hc x y
    by_cases g : j ≤ c
    · exact sp_step a b ha hb i j hi hj acc R r c hr hr2 g (by omega) x y (fun _ => ih (by omega) _ _) (fun _ => ih (by omega) _ _)
    · exact sp_end a b ha hb i j hi hj acc R r (c + 1) hr hr2 x y (by omega) (k x y)
theorem sp_no (r : Nat) (hr : i ≤ r) (hr2 : r < a.length) (x y : Int) (k : spec_l3Pairs.l14 a b (tbl a b) acc (i : Int) (j : Int) x y ((r : Int) - 1) = some R) :
    ∀ (c : Nat), c ≤ b.length → (∀ q, j ≤ q → q < c → ¬ Mt a b i j r q) → spec_l3Pairs.l20 a b (tbl a b) acc (i : Int) (j : Int) x y (r : Int) ((c : Int) - 1) = some R := by
  intro c
  induction c with
  | zero => intro hc hn; exact sp_end a b ha hb i j hi hj acc R r 0 hr hr2 x y (by omega) k
  | succ c ih =>
    intro hc hn
    by_cases g : j ≤ c
    · exact sp_step a b ha hb i j hi hj acc R r c hr hr2 g (by omega) x y (fun h => absurd h (hn c g (by omega))) (fun _ => ih (by omega) (fun q h1 h2 => hn q h1 (by omega)))
    · exact sp_end a b ha hb i j hi hj acc R r (c + 1) hr hr2 x y (by omega) k
theorem sp_l1 (r : Nat) (hr : i ≤ r) (hr2 : r < a.length) (x y : Int) (k : spec_l3Pairs.l20 a b (tbl a b) acc (i : Int) (j : Int) x y (r : Int) ((b.length : Int) - 1) = some R) :
    spec_l3Pairs.l14 a b (tbl a b) acc (i : Int) (j : Int) x y (((r + 1 : Nat) : Int) - 1) = some R := by
  have _ := ha
  have _ := hi
  have _ := hj
  have e0 : ((r + 1 : Nat) : Int) - 1 = (r : Int) := by omega
  rw [e0]
  have hw : w64 ((b.length : Int) - 1) = (b.length : Int) - 1 := w64_id (by omega) (by omega)
  rw [spec_l3Pairs.l14_eq, bifT (by omega), hw]
  exact k
theorem sp_pair (p q : Nat) (hL : Lst a b i j p q) (hacc : acc.length ≤ 100000) (k : spec_l3Pairs.l8 a b (tbl a b) (acc ++ [((p : Int), (q : Int))]) ((p + 1 : Nat) : Int) ((q + 1 : Nat) : Int) = some R) :
    spec_l3Pairs.l8 a b (tbl a b) acc (i : Int) (j : Int) = some R := by
  obtain ⟨hip, hpa, hjq, hqb, hm, hrow, hcol⟩ := hL
  have st3 : ∀ d, d ≤ p → i ≤ d → spec_l3Pairs.l14 a b (tbl a b) acc (i : Int) (j : Int) (p : Int) (q : Int) ((d : Int) - 1) = some R := by
    intro d
    induction d with
    | zero =>
      intro h1 h2
      have hp1 := up1 (i := p) (by omega)
      have hq1 := up1 (i := q) (by omega)
      rw [spec_l3Pairs.l14_eq]
      simp only [hp1, hq1, room16]
      rw [bifF (by omega), bifT (by simp; omega)]
      exact k
    | succ d ih =>
      intro h1 h2
      by_cases g : i ≤ d
      · exact sp_l1 a b ha hb i j hi hj acc R d g (by omega) _ _ (sp_no a b ha hb i j hi hj acc R d g (by omega) _ _ (ih (by omega) g) b.length (Nat.le_refl _) (fun q' h3 h4 => hrow d q' g (by omega) h3 h4))
      · have hp1 := up1 (i := p) (by omega)
        have hq1 := up1 (i := q) (by omega)
        rw [spec_l3Pairs.l14_eq]
        simp only [hp1, hq1, room16]
        rw [bifF (by omega), bifT (by simp; omega)]
        exact k
  have st2 : ∀ c, q + 1 ≤ c → c ≤ b.length → ∀ x y, spec_l3Pairs.l20 a b (tbl a b) acc (i : Int) (j : Int) x y (p : Int) ((c : Int) - 1) = some R := by
    intro c
    induction c with
    | zero => intro h1; omega
    | succ c ih =>
      intro h1 h2 x y
      by_cases g : c = q
      · subst g
        exact sp_step a b ha hb i j hi hj acc R p c hip hpa hjq hqb x y (fun _ => sp_no a b ha hb i j hi hj acc R p hip hpa _ _ (st3 p (Nat.le_refl _) hip) c (by omega) (fun q' h3 h4 => hcol q' h3 h4)) (fun h => absurd hm h)
      · exact sp_step a b ha hb i j hi hj acc R p c hip hpa (by omega) (by omega) x y (fun _ => ih (by omega) (by omega) _ _) (fun _ => ih (by omega) (by omega) _ _)
  have st1 : ∀ d, p + 1 ≤ d → d ≤ a.length → ∀ x y, spec_l3Pairs.l14 a b (tbl a b) acc (i : Int) (j : Int) x y ((d : Int) - 1) = some R := by
    intro d
    induction d with
    | zero => intro h1; omega
    | succ d ih =>
      intro h1 h2 x y
      by_cases g : d = p
      · subst g
        exact sp_l1 a b ha hb i j hi hj acc R d hip hpa x y (st2 b.length (by omega) (Nat.le_refl _) x y)
      · exact sp_l1 a b ha hb i j hi hj acc R d (by omega) (by omega) x y (sp_any a b ha hb i j hi hj acc R d (by omega) (by omega) (fun x y => ih (by omega) (by omega) x y) b.length (Nat.le_refl _) x y)
  have hw : w64 ((a.length : Int) - 1) = (a.length : Int) - 1 := w64_id (by omega) (by omega)
  have L1 := tbl_len a b
  have L3 := trow_len a b i
  have hpos : 0 < tv a b i j := by have := hm.2; omega
  have g2 := trow_get a b i (j := j) hj
  rw [spec_l3Pairs.l8_eq]
  simp only [hw, Int.toNat_natCast, tb_row a b hi, g2, L1, L3]
  rw [bif2T (by omega) (by omega), bif2T (by omega) (by omega), bifT (by omega)]
  exact st1 a.length (by omega) (Nat.le_refl _) _ _
end
theorem sPairs (a b : T) (ha : a.length ≤ 1000) (hb : b.length ≤ 1000) : ∀ (l : List (Nat × Nat)) (i j : Nat) (acc : List P2), i ≤ a.length → j ≤ b.length → acc.length + l.length ≤ 10000 → PR a b i j l →
    spec_l3Pairs.l8 a b (tbl a b) acc (i : Int) (j : Int) = some (acc ++ cvS l) := by
  intro l
  induction l with
  | nil =>
    intro i j acc hi hj hl h
    have h0 : tv a b i j = 0 := h
    have L1 := tbl_len a b
    have L3 := trow_len a b i
    have g2 := trow_get a b i (j := j) hj
    rw [spec_l3Pairs.l8_eq]
    simp only [Int.toNat_natCast, tb_row a b hi, g2, L1, L3]
    rw [bif2T (by omega) (by omega), bif2T (by omega) (by omega), bifF (by omega)]
    simp [cvS]
  | cons p l ih =>
    obtain ⟨p, q⟩ := p
    intro i j acc hi hj hl h
    rw [List.length_cons] at hl
    have h1 := h.1.hpa
    have h2 := h.1.hqb
    refine sp_pair a b ha hb i j hi hj acc _ p q h.1 (by omega) ?_
    rw [ih (p + 1) (q + 1) (acc ++ [((p : Int), (q : Int))]) (by omega) (by omega) (by simp; omega) h.2, List.append_assoc]; rfl
section
variable (a b : T) (ha : a.length ≤ 1000) (hb : b.length ≤ 1000) (i j : Nat) (hi : i ≤ a.length) (hj : j ≤ b.length) (acc : Tb) (R : Tb)
include ha hb hi hj
theorem ip_step (r c : Nat) (hr : i ≤ r) (hr2 : r < a.length) (hc : j ≤ c) (hc2 : c < b.length) (hpos : 0 < tv a b i j) (hacc : acc.length ≤ 100000)
    (k1 : Mt a b i j r c → impl_commonLines.l8 a b (tbl a b) (acc ++ [[(r : Int), (c : Int)]]) ((c + 1 : Nat) : Int) ((tv a b i j : Int) - 1) (a.length : Int) ((r + 1 : Nat) : Int) = some R)
    (k0 : ¬ Mt a b i j r c → impl_commonLines.l14 a b (tbl a b) acc (j : Int) (tv a b i j : Int) (r : Int) ((c + 1 : Nat) : Int) (a.length : Int) (r : Int) = some R) :
    impl_commonLines.l14 a b (tbl a b) acc (j : Int) (tv a b i j : Int) (r : Int) (c : Int) (a.length : Int) (r : Int) = some R := by
  have _ := hi
  have _ := hj
  have hr1 : w64 ((r : Int) + 1) = ((r + 1 : Nat) : Int) := up1 (by omega)
  have hc1 : w64 ((c : Int) + 1) = ((c + 1 : Nat) : Int) := up1 (by omega)
  have hb1 := tv_le a b i j
  have hv : w64 ((tv a b i j : Int) - 1) = (tv a b i j : Int) - 1 := w64_id (by omega) (by omega)
  have L1 := tbl_len a b
  have L2 := trow_len a b (r + 1)
  have g1 := trow_get a b (r + 1) (j := c + 1) (by omega)
  rw [impl_commonLines.l14_eq, bifT (by omega), bifT (by omega), impl_commonLines.l19_eq]
  simp only [hr1, hc1, hv, Int.toNat_natCast, toList_beq, tb_row a b (show r + 1 ≤ a.length by omega), g1, L1, L2, room24]
  clear hr1 hc1 hv
  rw [bif2T (by omega) (by omega), bif2T (by omega) (by omega)]
  by_cases e : a.getD r em = b.getD c em
  · rw [bifT e, bif2T (by omega) (by omega), bif2T (by omega) (by omega)]
    by_cases m : tv a b (r + 1) (c + 1) + 1 = tv a b i j
    · rw [bifT (by omega), bifT (by simp; omega)]; exact k1 ⟨e, m⟩
    · rw [bifF (by omega)]; exact k0 (fun h => m h.2)
  · rw [bifF e]; exact k0 (fun h => e h.1)
theorem ip_next (r : Nat) (hr2 : r < a.length) (k : impl_commonLines.l8 a b (tbl a b) acc (j : Int) (tv a b i j : Int) (a.length : Int) ((r + 1 : Nat) : Int) = some R) :
    impl_commonLines.l14 a b (tbl a b) acc (j : Int) (tv a b i j : Int) (r : Int) (b.length : Int) (a.length : Int) (r : Int) = some R := by
  have _ := hb
  have _ := hi
  have _ := hj
  have hr1 : w64 ((r : Int) + 1) = ((r + 1 : Nat) : Int) := up1 (by omega)
  rw [impl_commonLines.l14_eq, bifF (by omega), hr1]; exact k
theorem ip_no (r : Nat) (hr : i ≤ r) (hr2 : r < a.length) (hpos : 0 < tv a b i j) (hacc : acc.length ≤ 100000) (k : impl_commonLines.l8 a b (tbl a b) acc (j : Int) (tv a b i j : Int) (a.length : Int) ((r + 1 : Nat) : Int) = some R)
    (hn : ∀ q, j ≤ q → q < b.length → ¬ Mt a b i j r q) : ∀ (d c : Nat), b.length - c = d → j ≤ c → c ≤ b.length → impl_commonLines.l14 a b (tbl a b) acc (j : Int) (tv a b i j : Int) (r : Int) (c : Int) (a.length : Int) (r : Int) = some R := by
  intro d
  induction d with
  | zero =>
    intro c hd h1 h2
    obtain rfl : c = b.length := by omega
    exact ip_next a b ha hb i j hi hj acc R r hr2 k
  | succ d ih =>
    intro c hd h1 h2
    exact ip_step a b ha hb i j hi hj acc R r c hr hr2 h1 (by omega) hpos hacc (fun h => absurd h (hn c h1 (by omega))) (fun _ => ih (c + 1) (by omega) (by omega) (by omega))
theorem ip_hit (p q : Nat) (hL : Lst a b i j p q) (hpos : 0 < tv a b i j) (hacc : acc.length ≤ 100000)
    (k : impl_commonLines.l8 a b (tbl a b) (acc ++ [[(p : Int), (q : Int)]]) ((q + 1 : Nat) : Int) ((tv a b i j : Int) - 1) (a.length : Int) ((p + 1 : Nat) : Int) = some R) :
    ∀ (d c : Nat), q - c = d → j ≤ c → c ≤ q → impl_commonLines.l14 a b (tbl a b) acc (j : Int) (tv a b i j : Int) (p : Int) (c : Int) (a.length : Int) (p : Int) = some R := by
  intro d
  have h5 := hL.hqb
  induction d with
  | zero =>
    intro c hd h1 h2
    obtain rfl : c = q := by omega
    exact ip_step a b ha hb i j hi hj acc R p c hL.hip hL.hpa h1 h5 hpos hacc (fun _ => k) (fun h => absurd hL.hm h)
  | succ d ih =>
    intro c hd h1 h2
    exact ip_step a b ha hb i j hi hj acc R p c hL.hip hL.hpa h1 (by omega) hpos hacc (fun h => absurd h (hL.hcol c h1 (by omega))) (fun _ => ih (c + 1) (by omega) (by omega) (by omega))
theorem ip_rows (p q : Nat) (hL : Lst a b i j p q) (hpos : 0 < tv a b i j) (hacc : acc.length ≤ 100000)
    (k : impl_commonLines.l8 a b (tbl a b) (acc ++ [[(p : Int), (q : Int)]]) ((q + 1 : Nat) : Int) ((tv a b i j : Int) - 1) (a.length : Int) ((p + 1 : Nat) : Int) = some R) :
    ∀ (d r : Nat), p - r = d → i ≤ r → r ≤ p → impl_commonLines.l8 a b (tbl a b) acc (j : Int) (tv a b i j : Int) (a.length : Int) (r : Int) = some R := by
  intro d
  have h5 := hL.hpa
  have h6 := hL.hjq
  induction d with
  | zero =>
    intro r hd h1 h2
    obtain rfl : r = p := by omega
    rw [impl_commonLines.l8_eq, bifT (by omega)]
    exact ip_hit a b ha hb i j hi hj acc R r q hL hpos hacc k (q - j) j rfl (Nat.le_refl _) h6
  | succ d ih =>
    intro r hd h1 h2
    rw [impl_commonLines.l8_eq, bifT (by omega)]
    exact ip_no a b ha hb i j hi hj acc R r h1 (by omega) hpos hacc (ih (r + 1) (by omega) (by omega) (by omega)) (fun q' h3 h4 => hL.hrow r q' h1 (by omega) h3 h4) (b.length - j) j rfl (Nat.le_refl _) hj
theorem ip_zero (h0 : tv a b i j = 0) : ∀ (d r : Nat), a.length - r = d → r ≤ a.length → impl_commonLines.l8 a b (tbl a b) acc (j : Int) (tv a b i j : Int) (a.length : Int) (r : Int) = some acc := by
  have _ := hb
  have _ := hi
  have _ := hj
  intro d
  induction d with
  | zero =>
    intro r hd h1
    rw [impl_commonLines.l8_eq]
    rw [bifF (by omega)]
  | succ d ih =>
    intro r hd h1
    have hr1 : w64 ((r : Int) + 1) = ((r + 1 : Nat) : Int) := up1 (by omega)
    have h := ih (r + 1) (by omega) (by omega)
    rw [impl_commonLines.l8_eq, bifT (by omega), impl_commonLines.l14_eq]
    by_cases hjb : (j : Int) < (b.length : Int)
    · rw [bifT hjb, bifF (by omega), hr1]; exact h
    · rw [bifF hjb, hr1]; exact h
end
theorem iPairs (a b : T) (ha : a.length ≤ 1000) (hb : b.length ≤ 1000) : ∀ (l : List (Nat × Nat)) (i j : Nat) (acc : Tb), i ≤ a.length → j ≤ b.length → acc.length + l.length ≤ 10000 → PR a b i j l →
    impl_commonLines.l8 a b (tbl a b) acc (j : Int) (tv a b i j : Int) (a.length : Int) (i : Int) = some (acc ++ cvI l) := by
  intro l
  induction l with
  | nil =>
    intro i j acc hi hj hl h
    rw [ip_zero a b ha hb i j hi hj acc h (a.length - i) i rfl hi]; simp [cvI]
  | cons p l ih =>
    obtain ⟨p, q⟩ := p
    intro i j acc hi hj hl h
    rw [List.length_cons] at hl
    have h1 := h.1.hpa
    have h2 := h.1.hqb
    have h3 := h.1.hm.2
    have kk := ih (p + 1) (q + 1) (acc ++ [[(p : Int), (q : Int)]]) (by omega) (by omega) (by simp; omega) h.2
    rw [show (tv a b (p + 1) (q + 1) : Int) = (tv a b i j : Int) - 1 by omega] at kk
    rw [ip_rows a b ha hb i j hi hj acc _ p q h.1 (by omega) (by omega) kk (p - i) i rfl (Nat.le_refl _) h.1.hip, List.append_assoc]; rfl
theorem pairs_both (a b : T) (ha : a.length ≤ 1000) (hb : b.length ≤ 1000) : ∃ l, PR a b 0 0 l ∧ l.length ≤ 1000 ∧ spec_l3Pairs.f a b = some (cvS l) ∧ impl_commonLines.f a b = some (cvI l) := by
  obtain ⟨l, hl, hn⟩ := ex_PR a b a.length 0 0 (by omega)
  refine ⟨l, hl, by omega, ?_, ?_⟩
  · rw [spec_l3Pairs.f_eq, sTable a b ha hb, sB]
    have := sPairs a b ha hb l 0 0 [] (by omega) (by omega) (by simp; omega) hl
    simpa using this
  · have L1 := tbl_len a b
    have L2 := trow_len a b 0
    have e1 : (tbl a b).getD 0 [] = trow a b 0 := tb_row a b (Nat.zero_le _)
    have e2 : (trow a b 0).getD 0 0 = (tv a b 0 0 : Int) := trow_get a b 0 (Nat.zero_le _)
    rw [impl_commonLines.f_eq, iTable a b ha hb, sB, e1, e2, bifT (by omega), bifT (by omega)]
    have := iPairs a b ha hb l 0 0 [] (by omega) (by omega) (by simp; omega) hl
    simpa using this
theorem cloneI (l : Tb) (h : l.length ≤ 1048576) : slices_Clone_LLint_Lint.f l = some l := by
  show clone1 24 l = _
  rw [clone1, room24, bifT (by omega)]
/-- Hunks between pairs of places. -/
def jm (b : T) : Nat → Nat → List (Nat × Nat) → List Hk
  | _, _, [] => []
  | i, j, (p, q) :: l => (if i < p ∨ j < q then [((i : Int), (p : Int) - (i : Int), (b.take q).drop j)] else []) ++ jm b (p + 1) (q + 1) l
theorem jm_cons (b : T) (i j p q : Nat) (l : List (Nat × Nat)) : jm b i j ((p, q) :: l) = (if i < p ∨ j < q then [((i : Int), (p : Int) - (i : Int), (b.take q).drop j)] else []) ++ jm b (p + 1) (q + 1) l := rfl
theorem jm_bound (b : T) : ∀ (l : List (Nat × Nat)) (i j : Nat), (jm b i j l).length ≤ l.length ∧ ∀ h ∈ jm b i j l, h.2.2.length ≤ b.length
  | [], _, _ => ⟨Nat.le_refl _, fun h hh => by simp [jm] at hh⟩
  | (p, q) :: l, i, j => by
    obtain ⟨h1, h2⟩ := jm_bound b l (p + 1) (q + 1)
    rw [jm_cons]
    split
    · refine ⟨by simp; omega, fun h hh => ?_⟩
      simp only [List.singleton_append, List.mem_cons] at hh
      rcases hh with rfl | hh
      · simp only [List.length_drop, List.length_take]; omega
      · exact h2 h hh
    · refine ⟨by simp; omega, fun h hh => ?_⟩
      simp only [List.nil_append] at hh
      exact h2 h hh
theorem jm_mem (b : T) : ∀ (l : List (Nat × Nat)) (i j : Nat), ∀ h ∈ jm b i j l, ∀ s ∈ h.2.2, s ∈ b
  | [], _, _, h, hh => by simp [jm] at hh
  | (p, q) :: l, i, j, h, hh => by
    rw [jm_cons] at hh
    rcases List.mem_append.1 hh with hh | hh
    · split at hh
      · simp only [List.mem_singleton] at hh
        subst hh
        exact fun s hs => List.mem_of_mem_take (List.mem_of_mem_drop hs)
      · simp at hh
    · exact jm_mem b l _ _ h hh
def Ch (la lb : Nat) : Nat → Nat → List (Nat × Nat) → Prop
  | _, _, [] => True
  | i, j, (p, q) :: l => i ≤ p ∧ j ≤ q ∧ p ≤ la ∧ q ≤ lb ∧ Ch la lb (p + 1) (q + 1) l
theorem ch_of (a b : T) : ∀ (l : List (Nat × Nat)) (i j : Nat), i ≤ a.length → j ≤ b.length → PR a b i j l → Ch a.length b.length i j (l ++ [(a.length, b.length)]) := by
  intro l
  induction l with
  | nil => intro i j hi hj h; exact ⟨hi, hj, Nat.le_refl _, Nat.le_refl _, trivial⟩
  | cons p l ih =>
    obtain ⟨p, q⟩ := p
    intro i j hi hj h
    have h1 := h.1.hpa
    have h2 := h.1.hqb
    exact ⟨h.1.hip, h.1.hjq, by omega, by omega, ih (p + 1) (q + 1) (by omega) (by omega) h.2⟩
theorem cvS_get (pre : List (Nat × Nat)) (p q : Nat) (l : List (Nat × Nat)) : (cvS (pre ++ (p, q) :: l)).getD pre.length (0, 0) = ((p : Int), (q : Int)) := by
  unfold cvS
  simp [List.getD_eq_getElem?_getD]
theorem cvI_get (pre : List (Nat × Nat)) (p q : Nat) (l : List (Nat × Nat)) : (cvI (pre ++ (p, q) :: l)).getD pre.length [] = [(p : Int), (q : Int)] := by
  unfold cvI
  simp [List.getD_eq_getElem?_getD]
theorem cvS_len (l : List (Nat × Nat)) : (cvS l).length = l.length := by simp [cvS]
theorem cvI_len (l : List (Nat × Nat)) : (cvI l).length = l.length := by simp [cvI]
section
variable (b : T) (la : Nat) (hla : la ≤ 1000) (hb : b.length ≤ 1000) (full : List (Nat × Nat)) (hf : full.length ≤ 10000)
include hla hb hf
theorem sJoin_l0 : ∀ (rest pre : List (Nat × Nat)) (acc : List Hk) (i j : Nat), full = pre ++ rest → Ch la b.length i j rest → acc.length + rest.length ≤ 100000 → i ≤ la + 1 → j ≤ b.length + 1 →
    spec_l2Join.l8 b acc (i : Int) (j : Int) (cvS full) (full.length : Int) (pre.length : Int) = some (acc ++ jm b i j rest) := by
  intro rest
  induction rest with
  | nil =>
    intro pre acc i j hfull hc ha hi hj
    have e : full.length = pre.length := by rw [hfull]; simp
    rw [spec_l2Join.l8_eq, bifF (by omega)]
    simp [jm]
  | cons p rest ih =>
    obtain ⟨p, q⟩ := p
    intro pre acc i j hfull hc ha hi hj
    obtain ⟨h1, h2, h3, h4, hc⟩ := hc
    have e : full.length = pre.length + (rest.length + 1) := by rw [hfull]; simp
    rw [List.length_cons] at ha
    have hg := cvS_get pre p q rest
    rw [← hfull] at hg
    have nx : ∀ acc2 : List Hk, acc2.length ≤ acc.length + 1 → spec_l2Join.l17 b acc2 ((p : Int), (q : Int)) (cvS full) (full.length : Int) (pre.length : Int) = some (acc2 ++ jm b (p + 1) (q + 1) rest) := by
      intro acc2 h5
      have := ih (pre ++ [(p, q)]) acc2 (p + 1) (q + 1) (by rw [hfull, List.append_assoc]; rfl) hc (by omega) (by omega) (by omega)
      rw [List.length_append, List.length_singleton] at this
      rw [spec_l2Join.l17_eq]
      simp only
      rw [up1 (by omega), up1 (by omega), up1 (by omega)]
      exact this
    have ho := ownT ((b.take q).drop j) (by rw [List.length_drop, List.length_take]; omega)
    have hL := cvS_len full
    have w : w64 ((p : Int) - (i : Int)) = (p : Int) - (i : Int) := w64_id (by omega) (by omega)
    rw [spec_l2Join.l8_eq]
    simp only [Int.toNat_natCast, hg, w, hL, room40, ho, sB, List.length_append, List.length_singleton]
    rw [bifT (by omega), bif2T (by omega) (by omega)]
    by_cases c1 : i < p
    · rw [bifT (by omega), bif3T (by omega) (by omega) (by omega), bifT (by omega), nx _ (by simp), List.append_assoc, jm_cons, if_pos (Or.inl c1)]
    · rw [bifF (by omega)]
      by_cases c2 : j < q
      · rw [bifT (by omega), bif3T (by omega) (by omega) (by omega), bifT (by omega), nx _ (by simp), List.append_assoc, jm_cons, if_pos (Or.inr c2)]
      · rw [bifF (by omega), nx _ (by omega), jm_cons, if_neg (show ¬ (i < p ∨ j < q) by omega), List.nil_append]
theorem iJoin_l0 : ∀ (rest pre : List (Nat × Nat)) (acc : List Hk) (i j : Nat), full = pre ++ rest → Ch la b.length i j rest → acc.length + rest.length ≤ 100000 → i ≤ la + 1 → j ≤ b.length + 1 →
    impl_between.l6 b acc (i : Int) (j : Int) (cvI full) (full.length : Int) (pre.length : Int) = some (acc ++ jm b i j rest) := by
  intro rest
  induction rest with
  | nil =>
    intro pre acc i j hfull hc ha hi hj
    have e : full.length = pre.length := by rw [hfull]; simp
    rw [impl_between.l6_eq, bifF (by omega)]
    simp [jm]
  | cons p rest ih =>
    obtain ⟨p, q⟩ := p
    intro pre acc i j hfull hc ha hi hj
    obtain ⟨h1, h2, h3, h4, hc⟩ := hc
    have e : full.length = pre.length + (rest.length + 1) := by rw [hfull]; simp
    rw [List.length_cons] at ha
    have hg := cvI_get pre p q rest
    rw [← hfull] at hg
    have g0 : ([(p : Int), (q : Int)] : List Int).getD 0 0 = (p : Int) := rfl
    have g1 : ([(p : Int), (q : Int)] : List Int).getD 1 0 = (q : Int) := rfl
    have g2 : (([(p : Int), (q : Int)] : List Int).length : Int) = 2 := rfl
    have nx : ∀ acc2 : List Hk, acc2.length ≤ acc.length + 1 → impl_between.l15 b acc2 [(p : Int), (q : Int)] (cvI full) (full.length : Int) (pre.length : Int) = some (acc2 ++ jm b (p + 1) (q + 1) rest) := by
      intro acc2 h5
      have := ih (pre ++ [(p, q)]) acc2 (p + 1) (q + 1) (by rw [hfull, List.append_assoc]; rfl) hc (by omega) (by omega) (by omega)
      rw [List.length_append, List.length_singleton] at this
      rw [impl_between.l15_eq, g0, g1, g2, bifT (by omega), bifT (by omega), up1 (by omega), up1 (by omega), up1 (by omega)]
      exact this
    have ho := cloneT ((b.take q).drop j) (by rw [List.length_drop, List.length_take]; omega)
    have hL := cvI_len full
    have w : w64 ((p : Int) - (i : Int)) = (p : Int) - (i : Int) := w64_id (by omega) (by omega)
    rw [impl_between.l6_eq]
    simp only [Int.toNat_natCast, hg, g0, g1, g2, w, hL, room40, ho, sB, List.length_append, List.length_singleton]
    rw [bifT (by omega), bif2T (by omega) (by omega), bifT (by omega)]
    by_cases c1 : i < p
    · rw [bifT (by omega), bifT (by omega), bifT (by omega), bif3T (by omega) (by omega) (by omega), bifT (by omega), nx _ (by simp), List.append_assoc, jm_cons, if_pos (Or.inl c1)]
    · rw [bifF (by omega), bifT (by omega)]
      by_cases c2 : j < q
      · rw [bifT (by omega), bifT (by omega), bifT (by omega), bif3T (by omega) (by omega) (by omega), bifT (by omega), nx _ (by simp), List.append_assoc, jm_cons, if_pos (Or.inr c2)]
      · rw [bifF (by omega), nx _ (by omega), jm_cons, if_neg (show ¬ (i < p ∨ j < q) by omega), List.nil_append]
end
theorem diff_jm (a b : T) (ha : a.length ≤ 1000) (hb : b.length ≤ 1000) : ∃ l : List (Nat × Nat), PR a b 0 0 l ∧ l.length ≤ 1000 ∧ spec_l3Diff.f a b = some (jm b 0 0 (l ++ [(a.length, b.length)])) ∧ impl_diff.f a b = some (jm b 0 0 (l ++ [(a.length, b.length)])) := by
  obtain ⟨l, hl, hn, hs, hi⟩ := pairs_both a b ha hb
  have hc := ch_of a b l 0 0 (by omega) (by omega) hl
  have hlen : (l ++ [(a.length, b.length)]).length = l.length + 1 := by simp
  have hf : (l ++ [(a.length, b.length)]).length ≤ 10000 := by omega
  have L1 := cvS_len l
  have L2 := cvI_len l
  refine ⟨l, hl, hn, ?_, ?_⟩
  · have e : cvS l ++ [((a.length : Int), (b.length : Int))] = cvS (l ++ [(a.length, b.length)]) := by simp [cvS]
    rw [spec_l3Diff.f_eq, hs, sB, spec_l2Join.f_eq, e, room16, bifT (by simp only [List.length_singleton]; omega), cvS_len]
    exact bindEq (sJoin_l0 b a.length ha hb _ hf (l ++ [(a.length, b.length)]) [] [] 0 0 rfl hc (by rw [List.length_nil]; omega) (by omega) (by omega)) rfl
  · have e : cvI l ++ [([(a.length : Int), (b.length : Int)] : List Int)] = cvI (l ++ [(a.length, b.length)]) := by simp [cvI]
    rw [impl_diff.f_eq, hi, sB, impl_between.f_eq, cloneI (cvI l) (by omega), sB, e, room24, bifT (by simp only [List.length_singleton]; omega), cvI_len]
    exact bindEq (iJoin_l0 b a.length ha hb _ hf (l ++ [(a.length, b.length)]) [] [] 0 0 rfl hc (by rw [List.length_nil]; omega) (by omega) (by omega)) rfl
/-- the hunks between two lists of lines -/
noncomputable def dif (a b : T) : List Hk := (spec_l3Diff.f a b).getD []
theorem dif_eq (a b : T) (ha : a.length ≤ 1000) (hb : b.length ≤ 1000) : ∃ l : List (Nat × Nat), PR a b 0 0 l ∧ l.length ≤ 1000 ∧ dif a b = jm b 0 0 (l ++ [(a.length, b.length)]) ∧ spec_l3Diff.f a b = some (dif a b) ∧ impl_diff.f a b = some (dif a b) := by
  obtain ⟨l, hl, hn, hs, hi⟩ := diff_jm a b ha hb
  have e : dif a b = jm b 0 0 (l ++ [(a.length, b.length)]) := by unfold dif; rw [hs]; rfl
  exact ⟨l, hl, hn, e, by rw [e]; exact hs, by rw [e]; exact hi⟩
/-- one hunk stands within -/
def okP (many : Int) (x : Hk) : Prop := 0 ≤ x.1 ∧ 0 ≤ x.2.1 ∧ x.1 + x.2.1 ≤ many
instance (many : Int) (x : Hk) : Decidable (okP many x) := by unfold okP; exact inferInstance
def oneB (many pe : Int) (x : Hk) : Bool := decide (okP many x ∧ ¬ (x.2.1 = 0 ∧ x.2.2.length = 0) ∧ x.2.2.length ≤ 40 ∧ pe < x.1) && allLines x.2.2
def hunksB (many : Int) : Int → List Hk → Bool
  | _, [] => true
  | pe, x :: r => oneB many pe x && hunksB many (x.1 + x.2.1) r
def peOf (h : List Hk) (i : Nat) : Int := if i = 0 then -1 else (h.getD (i - 1) hz).1 + (h.getD (i - 1) hz).2.1
/-- of a size that is let through -/
def HkSm (g : List Hk) : Prop := g.length ≤ 1048576 ∧ ∀ h ∈ g, Sm h.2.2
theorem pe_succ (h : List Hk) (i : Nat) : peOf h (i + 1) = (h.getD i hz).1 + (h.getD i hz).2.1 := by unfold peOf; rw [if_neg (by omega)]; rfl
theorem hB_step (many : Int) (h : List Hk) {i : Nat} (hi : i < h.length) : hunksB many (peOf h i) (h.drop i) = (oneB many (peOf h i) (h.getD i hz) && hunksB many (peOf h (i + 1)) (h.drop (i + 1))) := by
  rw [drop_at hi hz, pe_succ]; rfl
theorem sHunks (many : Int) (h : List Hk) (h0 : 0 ≤ many) (h1 : many ≤ 1048576) (hs : HkSm h) : spec_l2Hunks.f many h = some (hunksB many (-1) h && (decide (h.length ≤ 20) && decide (many ≤ 40))) := by
  have hL := hs.1
  have lines : ∀ (l : T), Sm l → ∀ (i : Nat) (R : Bool), i < h.length → spec_l2Hunks.l4 many h h (h.length : Int) ((i + 1 : Nat) : Int) = some R → ∀ k, k ≤ l.length → spec_l2Hunks.l14 many h h (h.length : Int) (i : Int) l (l.length : Int) (k : Int) = some (allLines (l.drop k) && R) := by
    intro l hl i R hi hR
    have hl1 := hl.1
    apply downTo
    · rw [spec_l2Hunks.l14_eq, bifF (by omega), up1 (by omega), hR, List.drop_eq_nil_of_le (by omega)]; rfl
    · intro k hk ih
      rw [spec_l2Hunks.l14_eq, bifT (by omega), bif2T (by omega) (by omega), up1 (i := k) (by omega)]
      simp only [Int.toNat_natCast]
      rw [sLine _ (hl.2 _ (getD_mem hk em)), sB, ih, drop_at hk em, allLines_cons]
      by_cases hp : lineP (l.getD k em)
      · rw [bifNF hp, decide_eq_true hp, Bool.true_and]
      · rw [bifNT hp, decide_eq_false hp, Bool.false_and, Bool.false_and]
  have key : ∀ i, i ≤ h.length → (0 < i → okP many (h.getD (i - 1) hz)) → spec_l2Hunks.l4 many h h (h.length : Int) (i : Int) = some (hunksB many (peOf h i) (h.drop i) && (decide (h.length ≤ 20) && decide (many ≤ 40))) := by
    apply downTo
    · intro _
      rw [spec_l2Hunks.l4_eq, bifF (by omega), List.drop_eq_nil_of_le (by omega)]
      show _ = some (true && _)
      rw [Bool.true_and]
      by_cases hl : h.length ≤ 20
      · rw [bifT (by omega), sIn, sB, decide_eq_true hl, Bool.true_and]
        congr 1; rw [decide_eq_decide]; omega
      · rw [bifF (by omega), decide_eq_false hl]; rfl
    · intro i hi ih hprev
      have hsm := hs.2 _ (getD_mem hi hz)
      have hsl := hsm.1
      rw [hB_step many h hi, spec_l2Hunks.l4_eq, bifT (by omega), bif2T (by omega) (by omega)]
      obtain ⟨⟨x1, x2, x3⟩, hx⟩ : ∃ x : Hk, h.getD i (0, 0, []) = x := ⟨_, rfl⟩
      simp only [Int.toNat_natCast, hx]
      rw [show h.getD i hz = (x1, x2, x3) from hx] at hsm hsl
      simp only at hsm hsl
      have fl : ∀ {P : Prop}, ¬ (okP many (x1, x2, x3) ∧ ¬ (x2 = 0 ∧ x3.length = 0) ∧ x3.length ≤ 40 ∧ peOf h i < x1) → some false = some (oneB many (peOf h i) (x1, x2, x3) && hunksB many (peOf h (i + 1)) (h.drop (i + 1)) && (decide (h.length ≤ 20) && decide (many ≤ 40))) := by
        intro P hn
        unfold oneB
        rw [decide_eq_false hn, Bool.false_and, Bool.false_and, Bool.false_and]
      by_cases c1 : x1 < 0
      · rw [bifT c1]; exact fl (P := True) (by unfold okP; simp only; omega)
      rw [bifF c1]
      by_cases c2 : x2 < 0
      · rw [bifT c2]; exact fl (P := True) (by unfold okP; simp only; omega)
      rw [bifF c2]
      by_cases c3 : x2 > many
      · rw [bifT c3]; exact fl (P := True) (by unfold okP; simp only; omega)
      rw [bifF c3, w64_id (x := many - x2) (by omega) (by omega)]
      by_cases c4 : x1 > many - x2
      · rw [bifT c4]; exact fl (P := True) (by unfold okP; simp only; omega)
      rw [bifF c4, w64_id (x := x2 + (x3.length : Int)) (by omega) (by omega)]
      by_cases c5 : x2 + (x3.length : Int) = 0
      · rw [bifT c5]; exact fl (P := True) (by omega)
      rw [bifF c5]
      by_cases c6 : (x3.length : Int) > 40
      · rw [bifT c6]; exact fl (P := True) (by omega)
      rw [bifF c6]
      have hok : okP many (x1, x2, x3) := by unfold okP; simp only; omega
      have nxt := ih (fun _ => by rw [Nat.add_sub_cancel, show h.getD i hz = (x1, x2, x3) from hx]; exact hok)
      have go : peOf h i < x1 → spec_l2Hunks.l13 many h (x1, x2, x3) h (h.length : Int) (i : Int) = some (oneB many (peOf h i) (x1, x2, x3) && hunksB many (peOf h (i + 1)) (h.drop (i + 1)) && (decide (h.length ≤ 20) && decide (many ≤ 40))) := by
        intro hp
        rw [spec_l2Hunks.l13_eq]
        have := lines x3 hsm i _ hi nxt 0 (by omega)
        rw [List.drop_zero] at this
        refine this.trans ?_
        unfold oneB
        rw [decide_eq_true (show okP many (x1, x2, x3) ∧ ¬ (x2 = 0 ∧ x3.length = 0) ∧ x3.length ≤ 40 ∧ peOf h i < x1 from ⟨hok, by omega, by omega, hp⟩), Bool.true_and, Bool.and_assoc]
      by_cases c7 : (i : Int) > 0
      · have hpr := hprev (by omega)
        unfold okP at hpr
        have hd : w64 ((i : Int) - 1) = ((i - 1 : Nat) : Int) := dn1 (by omega) (by omega)
        have hpe : peOf h i = (h.getD (i - 1) hz).1 + (h.getD (i - 1) hz).2.1 := by unfold peOf; rw [if_neg (by omega)]
        have hw9 : w64 ((h.getD (i - 1) ((0, 0, []) : Hk)).1 + (h.getD (i - 1) ((0, 0, []) : Hk)).2.1) = peOf h i := by
          show w64 ((h.getD (i - 1) hz).1 + (h.getD (i - 1) hz).2.1) = _
          rw [hpe]; exact w64_id (by omega) (by omega)
        simp only [hd, Int.toNat_natCast, hw9]
        rw [bifT c7, bif2T (by omega) (by omega), bif2T (by omega) (by omega)]
        by_cases c8 : x1 ≤ peOf h i
        · rw [bifT c8]; exact fl (P := True) (by omega)
        · rw [bifF c8]; exact go (by omega)
      · rw [bifF c7]
        have : i = 0 := by omega
        exact go (by unfold peOf; rw [if_pos this]; omega)
  rw [spec_l2Hunks.f_eq]
  exact key 0 (by omega) (fun h => absurd h (Nat.lt_irrefl 0))
theorem iHunks (many : Int) (h : List Hk) (h0 : 0 ≤ many) (h1 : many ≤ 1048576) (hs : HkSm h) : impl_goodHunks.f many h = some (hunksB many (-1) h && (decide (h.length ≤ 20) && decide (many ≤ 40))) := by
  have hL := hs.1
  have key : ∀ i, i ≤ h.length → (0 < i → okP many (h.getD (i - 1) hz)) → impl_goodHunks.l8 many h h (h.length : Int) (i : Int) = some (hunksB many (peOf h i) (h.drop i)) := by
    apply downTo
    · intro _
      rw [impl_goodHunks.l8_eq, bifF (by omega), List.drop_eq_nil_of_le (by omega)]; rfl
    · intro i hi ih hprev
      have hsm := hs.2 _ (getD_mem hi hz)
      have hsl := hsm.1
      rw [hB_step many h hi, impl_goodHunks.l8_eq, bifT (by omega), bif2T (by omega) (by omega)]
      obtain ⟨⟨x1, x2, x3⟩, hx⟩ : ∃ x : Hk, h.getD i (0, 0, []) = x := ⟨_, rfl⟩
      simp only [Int.toNat_natCast, hx]
      rw [show h.getD i hz = (x1, x2, x3) from hx] at hsm hsl
      simp only at hsm hsl
      have fl : ∀ {P : Prop}, ¬ (okP many (x1, x2, x3) ∧ ¬ (x2 = 0 ∧ x3.length = 0) ∧ x3.length ≤ 40 ∧ peOf h i < x1) → some false = some (oneB many (peOf h i) (x1, x2, x3) && hunksB many (peOf h (i + 1)) (h.drop (i + 1))) := by
        intro P hn
        unfold oneB
        rw [decide_eq_false hn, Bool.false_and, Bool.false_and]
      rw [iIn, sB]
      by_cases c1 : 0 ≤ x1 ∧ x1 ≤ many
      case neg => rw [bifNT c1]; exact fl (P := True) (by unfold okP; simp only; omega)
      rw [bifNF c1, w64_id (x := many - x1) (by omega) (by omega), iIn, sB]
      by_cases c2 : 0 ≤ x2 ∧ x2 ≤ many - x1
      case neg => rw [bifNT c2]; exact fl (P := True) (by unfold okP; simp only; omega)
      rw [bifNF c2, iAre _ hsm, sB]
      have hok : okP many (x1, x2, x3) := by unfold okP; simp only; omega
      have nxt := ih (fun _ => by rw [Nat.add_sub_cancel, show h.getD i hz = (x1, x2, x3) from hx]; exact hok)
      by_cases c6 : x3.length ≤ 40
      case neg => rw [decide_eq_false c6, Bool.false_and, notF]; exact fl (P := True) (by omega)
      rw [decide_eq_true c6, Bool.true_and]
      cases hal : allLines x3 with
      | false => rw [notF]; unfold oneB; rw [hal, Bool.and_false, Bool.false_and]
      | true =>
        rw [notT]
        have one : ∀ (hp : ¬ (x2 = 0 ∧ x3.length = 0)), impl_goodHunks.l17 many h (i : Int) (x1, x2, x3) h (h.length : Int) (i : Int) = some (oneB many (peOf h i) (x1, x2, x3) && hunksB many (peOf h (i + 1)) (h.drop (i + 1))) := by
          intro hp
          rw [impl_goodHunks.l17_eq]
          by_cases c7 : (i : Int) > 0
          · have hpr := hprev (by omega)
            unfold okP at hpr
            have hd : w64 ((i : Int) - 1) = ((i - 1 : Nat) : Int) := dn1 (by omega) (by omega)
            have hpe : peOf h i = (h.getD (i - 1) hz).1 + (h.getD (i - 1) hz).2.1 := by unfold peOf; rw [if_neg (by omega)]
            have hw9 : w64 ((h.getD (i - 1) ((0, 0, []) : Hk)).1 + (h.getD (i - 1) ((0, 0, []) : Hk)).2.1) = peOf h i := by
              show w64 ((h.getD (i - 1) hz).1 + (h.getD (i - 1) hz).2.1) = _
              rw [hpe]; exact w64_id (by omega) (by omega)
            simp only [hd, Int.toNat_natCast, hw9]
            rw [bifT c7, bif2T (by omega) (by omega), bif2T (by omega) (by omega)]
            by_cases c8 : x1 ≤ peOf h i
            · rw [bifT c8]; exact fl (P := True) (by omega)
            · rw [bifF c8, up1 (by omega), nxt]
              unfold oneB
              rw [hal, decide_eq_true (show okP many (x1, x2, x3) ∧ ¬ (x2 = 0 ∧ x3.length = 0) ∧ x3.length ≤ 40 ∧ peOf h i < x1 from ⟨hok, hp, c6, by omega⟩)]; rfl
          · have hi0 : i = 0 := by omega
            have hp2 : peOf h i < x1 := by unfold peOf; rw [if_pos hi0]; omega
            rw [bifF c7, up1 (by omega), nxt]
            unfold oneB
            rw [hal, decide_eq_true (show okP many (x1, x2, x3) ∧ ¬ (x2 = 0 ∧ x3.length = 0) ∧ x3.length ≤ 40 ∧ peOf h i < x1 from ⟨hok, hp, c6, hp2⟩)]; rfl
        by_cases c9 : x2 = 0
        · rw [bifT c9]
          by_cases c10 : (x3.length : Int) = 0
          · rw [bifT c10]; exact fl (P := True) (by omega)
          · rw [bifF c10]; exact one (by omega)
        · rw [bifF c9]; exact one (by omega)
  rw [impl_goodHunks.f_eq, iIn, sB]
  by_cases hm : 0 ≤ many ∧ many ≤ 40
  · rw [bifNF hm, decide_eq_true (show many ≤ 40 from hm.2), Bool.and_true]
    by_cases hl : (h.length : Int) > 20
    · rw [bifT hl, decide_eq_false (show ¬ h.length ≤ 20 by omega), Bool.and_false]
    · rw [bifF hl, decide_eq_true (show h.length ≤ 20 by omega), Bool.and_true, impl_goodHunks.l7_eq]
      exact key 0 (by omega) (fun h => absurd h (Nat.lt_irrefl 0))
  · rw [bifNT hm, decide_eq_false (show ¬ many ≤ 40 by omega), Bool.and_false, Bool.and_false]
theorem allLines_of {l : T} (h : ∀ s ∈ l, lineP s) : allLines l = true := by
  unfold allLines; rw [List.all_eq_true]; intro s hs; exact decide_eq_true (h s hs)
theorem allLines_mem {l : T} (h : allLines l = true) : ∀ s ∈ l, lineP s := by
  unfold allLines at h; rw [List.all_eq_true] at h; exact fun s hs => of_decide_eq_true (h s hs)
theorem good_lines {l : T} (h : goodB l = true) : allLines l = true := by
  unfold goodB at h
  simp only [Bool.and_eq_true] at h
  exact h.1.2
theorem jm_good (b : T) (la : Nat) (hb : goodB b = true) : ∀ (l : List (Nat × Nat)) (i j : Nat) (pe : Int), Ch la b.length i j l → pe < (i : Int) → hunksB (la : Int) pe (jm b i j l) = true
  | [], _, _, _, _, _ => rfl
  | (p, q) :: l, i, j, pe, hc, hp => by
    obtain ⟨h1, h2, h3, h4, h5⟩ := hc
    have h40 := good_len hb
    rw [jm_cons]
    by_cases c : i < p ∨ j < q
    · rw [if_pos c]
      show (oneB _ _ _ && hunksB _ _ (jm b (p + 1) (q + 1) l)) = true
      rw [Bool.and_eq_true]
      refine ⟨?_, ?_⟩
      · unfold oneB
        rw [Bool.and_eq_true]
        refine ⟨decide_eq_true ⟨⟨by show (0 : Int) ≤ i; omega, by show (0 : Int) ≤ (p : Int) - i; omega, by show (i : Int) + ((p : Int) - i) ≤ la; omega⟩, ?_, ?_, hp⟩, allLines_of fun s hs => allLines_mem (good_lines hb) s (List.mem_of_mem_take (List.mem_of_mem_drop hs))⟩
        · show ¬ ((p : Int) - i = 0 ∧ ((b.take q).drop j).length = 0)
          rw [List.length_drop, List.length_take]; omega
        · show ((b.take q).drop j).length ≤ 40
          rw [List.length_drop, List.length_take]; omega
      · exact jm_good b la hb l (p + 1) (q + 1) _ h5 (by show (i : Int) + ((p : Int) - i) < _; omega)
    · rw [if_neg c, List.nil_append]
      exact jm_good b la hb l (p + 1) (q + 1) pe h5 (by omega)
theorem dif_good (a b : T) (ga : goodB a = true) (gb : goodB b = true) : hunksB (a.length : Int) (-1) (dif a b) = true := by
  have la := good_len ga
  have lb := good_len gb
  obtain ⟨l, hl, _, e, _, _⟩ := dif_eq a b (by omega) (by omega)
  rw [e]
  exact jm_good b a.length gb _ 0 0 (-1) (ch_of a b l 0 0 (by omega) (by omega) hl) (by omega)
theorem dif_sm (a b : T) (ha : a.length ≤ 1000) (hb : Sm b) (hb2 : b.length ≤ 1000) : HkSm (dif a b) := by
  obtain ⟨l, hl, hn, e, _, _⟩ := dif_eq a b ha hb2
  rw [e]
  have h1 := jm_bound b (l ++ [(a.length, b.length)]) 0 0
  have hlen : (l ++ [(a.length, b.length)]).length = l.length + 1 := by simp
  exact ⟨by omega, fun h hh => ⟨by have := h1.2 h hh; omega, fun s hs => hb.2 s (jm_mem b _ 0 0 h hh s hs)⟩⟩
noncomputable def diffB (a b : T) : List Hk × Bool := if goodB a = true ∧ goodB b = true ∧ (dif a b).length ≤ 20 then (dif a b, true) else ([], false)
theorem diff_both (a b : T) (ha : Sm a) (hb : Sm b) : spec_DiffHunks.f a b = some (diffB a b) ∧ impl_DiffHunks.f a b = some (diffB a b) := by
  rw [spec_DiffHunks.f_eq, impl_DiffHunks.f_eq, sGood a ha, iGood a ha, sB, sB]
  unfold diffB
  cases ga : goodB a with
  | false => exact ⟨rfl, rfl⟩
  | true =>
    rw [notT, notT, sGood b hb, iGood b hb, sB, sB]
    cases gb : goodB b with
    | false => exact ⟨rfl, rfl⟩
    | true =>
      have la := good_len ga
      have lb := good_len gb
      obtain ⟨l, _, _, _, hs, hi⟩ := dif_eq a b (by omega) (by omega)
      have hsm := dif_sm a b (by omega) hb (by omega)
      have hg := dif_good a b ga gb
      rw [notT, notT, impl_DiffHunks.l7_eq, hs, hi, sB, sB, sHunks _ _ (by omega) (by omega) hsm, iHunks _ _ (by omega) (by omega) hsm, sB, sB, hg, Bool.true_and, decide_eq_true (show (a.length : Int) ≤ 40 by omega), Bool.and_true]
      by_cases h20 : (dif a b).length ≤ 20
      · rw [bifNF h20, bifNF h20, spec_DiffHunks.l7_eq, hs, sB, if_pos ⟨rfl, rfl, h20⟩]; exact ⟨rfl, rfl⟩
      · rw [bifNT h20, bifNT h20, if_neg (fun h => h20 h.2.2)]; exact ⟨rfl, rfl⟩
theorem zStringS_2 (l : T) : zStringS l ≤ 2 * l.length := by
  have := tot_le zString 1 (l := l) fun x _ => Nat.le_refl 1
  unfold zStringS; omega
theorem zHunkS_le (l : YHunkS) (n m : Nat) (h1 : l.length ≤ n) (h2 : ∀ x ∈ l, x.2.2.length ≤ m) : zHunkS l ≤ n + n * (2 + 2 * m) := by
  have h : tot zHunk l ≤ l.length * (2 + 2 * m) := tot_le zHunk (2 + 2 * m) fun x hx => by
    have := zStringS_2 x.2.2
    have := h2 x hx
    unfold zHunk; omega
  have h3 : l.length * (2 + 2 * m) ≤ n * (2 + 2 * m) := Nat.mul_le_mul_right _ h1
  unfold zHunkS; omega
theorem smO_of {o : YOrderS} (h : mOrderS o ≤ 1048576) : SmO o := by
  have h2 : o.length + tot mOrder o ≤ 1048576 := h
  exact ⟨by omega, fun x hx => smT_of (by have h3 : mOrder x ≤ tot mOrder o := tot_mem mOrder hx; have h4 : mStringS x.2.2.2 ≤ mOrder x := Nat.le_refl _; omega)⟩
theorem diffB_small (a b : T) (hb : Sm b) : zHunkS (diffB a b).1 ≤ 1099511627776 := by
  unfold diffB
  by_cases h : goodB a = true ∧ goodB b = true ∧ (dif a b).length ≤ 20
  · rw [if_pos h]
    have h1 := good_len h.1
    have h2 := good_len h.2.1
    have h3 := dif_sm a b (by omega) hb (by omega)
    have := zHunkS_le (dif a b) 20 1048576 h.2.2 fun x hx => (h3.2 x hx).1
    show zHunkS (dif a b) ≤ _
    omega
  · rw [if_neg h]; decide
theorem OrdersHunks_ex (l : T) (o : YOrderS) (h1 : mStringS l ≤ 1048576) (h2 : mOrderS o ≤ 1048576) :
    ∃ r : YHunkS × Int × Bool, spec_OrdersHunks.f l o = some r ∧ impl_OrdersHunks.f l o = some r ∧ zHunkS r.1 ≤ 1099511627776 := by
  have hl := smT_of h1
  have ho := smO_of h2
  have no : zHunkS ([] : YHunkS) ≤ 1099511627776 := by decide
  rw [spec_OrdersHunks.f_eq, impl_OrdersHunks.f_eq, sGood l hl, sB, sOrders o ho]
  rcases runOrders_both l o hl ho with ⟨hg, hb, r, e1, e2, e3⟩ | ⟨hb, e2⟩
  · have h40 := good_len hg
    rw [e2, hg, hb]
    simp only [sB, notT]
    have hw : spec_l1Whole.f l = some (wholeB l) := sWhole l hl.1 fun h => by
      have hm := getD_mem (l := l) (i := l.length - 1) (by omega) em
      exact ⟨(good_line hg _ hm).1, hl.2 _ hm⟩
    rw [hw, iWhole l hl.1 (fun s hs => by have := hl.2 s hs; omega), sB, sB]
    cases wholeB l with
    | false => exact ⟨_, rfl, rfl, no⟩
    | true =>
      rw [notT, notT, spec_OrdersHunks.l7_eq, impl_OrdersHunks.l9_eq, e1, sB]
      rcases e3 with ⟨k1, k2, k3, _⟩ | ⟨k1, k2⟩
      · obtain ⟨d1, d2⟩ := diff_both l r.1 hl k3
        rw [bifF (by omega), bifNF k1, d1, d2]
        exact ⟨_, rfl, rfl, diffB_small l r.1 k3⟩
      · rw [bifT (by omega), bifNT (by omega)]
        exact ⟨_, rfl, rfl, no⟩
  · rw [e2]
    simp only [sB, notF]
    cases hg : goodB l with
    | false => exact ⟨_, rfl, rfl, no⟩
    | true =>
      rw [hg, Bool.true_and] at hb
      rw [notT]
      have hw : spec_l1Whole.f l = some (wholeB l) := sWhole l hl.1 fun h => by
        have hm := getD_mem (l := l) (i := l.length - 1) (by omega) em
        exact ⟨(good_line hg _ hm).1, hl.2 _ hm⟩
      rw [hw, sB]
      cases wholeB l with
      | false => exact ⟨_, rfl, rfl, no⟩
      | true => rw [hb]; exact ⟨_, rfl, rfl, no⟩
theorem FnExactOrdersHunks (l0 : YStringS) (l1 : YOrderS) (g0 : Bd (.list .str) l0) (g1 : Bd (.list (.pair (.int .i64) (.pair (.int .i64) (.pair (.int .i64) (.one (.list .str)))))) l1) : laws_FnExactOrdersHunks.f l0 l1 = some true := by
  rw [laws_FnExactOrdersHunks.f_eq]
  rw [szStringS l0 (1048576) (bdStringS _ g0) (by omega) (by omega), sB]
  by_cases c0 : ((mStringS l0 : Nat) : Int) ≤ 1048576
  case neg => rw [szR_neg c0, bifT (by omega)]
  rw [szR_pos c0, bifF (by omega)]
  rw [szOrderS l1 (1048576 - ((mStringS l0 : Nat) : Int)) (bdOrderS _ g1) (by omega) (by omega), sB]
  by_cases c1 : ((mOrderS l1 : Nat) : Int) ≤ 1048576 - ((mStringS l0 : Nat) : Int)
  case neg => rw [szR_neg c1, bifT (by omega)]
  rw [szR_pos c1, bifF (by omega)]
  obtain ⟨r, hs, hi, z0⟩ := OrdersHunks_ex l0 l1 (by omega) (by omega)
  have u0 := zmStringS l0
  have v0 := czStringS l0
  have t0 := toStringS l0 (by omega)
  have q0 := eqStringS l0 (by omega)
  have k0 := markStringS l0 (1) (by omega) (by omega) (by omega)
  have u1 := zmOrderS l1
  have v1 := czOrderS l1
  have t1 := toOrderS l1 (by omega)
  have q1 := eqOrderS l1 (by omega)
  have k1 := markOrderS l1 (1 + ((cStringS l0 : Nat) : Int)) (by omega) (by omega) (by omega)
  have n0 : decide (1 + ((cStringS l0 : Nat) : Int) + ((cOrderS l1 : Nat) : Int) < 0) = false := decide_eq_false (by omega)
  have y0 := czHunkS r.1
  have e0 := eqHunkS r.1 (by omega)
  have m0 := markHunkS r.1 (1) (by omega) (by omega) (by omega)
  have h0 := heldHunkS r.1 (1) (by omega) (by omega) (by omega)
  have p0 : decide (1 + ((cHunkS r.1 : Nat) : Int) < 0) = false := decide_eq_false (by omega)
  simp only [hs, hi, t0, q0, k0, t1, q1, k1, n0, e0, m0, h0, p0, sB, notT, cond_false, cond_true, Bool.not_true, Bool.not_false, beq_self_eq_true, decide_true, laws_FnExactOrdersHunks.l29_eq, laws_FnExactOrdersHunks.l47_eq, laws_FnExactOrdersHunks.l69_eq]
end Go.Abs.G
