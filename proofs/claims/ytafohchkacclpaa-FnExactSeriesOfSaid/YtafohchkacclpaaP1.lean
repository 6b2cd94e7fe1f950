import Derived.Test.YtafohchkacclpaaG
import Derived.Test.YtafohchkacclpaaE3
import Derived.Lib.IndexAny
set_option linter.unusedVariables false
set_option linter.unusedSimpArgs false
/-! The laws' own functions on lists of strings. -/
namespace Go.Abs.GE
open Go Go.Abs

abbrev T := List ByteArray

/-- the size that is left: enough for all that is asked later -/
theorem szT (a : T) (left : Int) (h0 : 0 ≤ left) (h1 : left ≤ 1048576) (ha : a.length ≤ 140737488351232) (hs : ∀ s ∈ a, s.size ≤ 140737488351232) :
    ∃ r : Int, laws_szStringS.f a left = some r ∧ (r < 0 ∨ 0 ≤ r ∧ r ≤ left ∧ a.length ≤ 1048576 ∧ ∀ s ∈ a, s.size ≤ 1048576) := by
  rw [laws_szStringS.f_eq]
  by_cases hl : left - a.length < 0
  · exact ⟨-1, by rw [w64_id (by omega) (by omega), bifT hl], .inl (by omega)⟩
  · rw [w64_id (by omega) (by omega), bifF hl]
    have key : ∀ i, i ≤ a.length → ∀ l : Int, 0 ≤ l → l ≤ left → ∃ r : Int, laws_szStringS.l10 a l (i : Int) = some r ∧ (r < 0 ∨ 0 ≤ r ∧ r ≤ l ∧ ∀ j, i ≤ j → j < a.length → (a.getD j em).size ≤ 1048576) := by
      apply downTo
      · intro l _ _
        exact ⟨l, by rw [laws_szStringS.l10_eq, bifF (by omega)], .inr ⟨by omega, by omega, fun j hj hj' => by omega⟩⟩
      · intro i hi ih l h2 h3
        have hm := hs _ (getD_mem hi em)
        rw [laws_szStringS.l10_eq, bifT (by omega), bif2T (by omega) (by omega)]
        simp only [Int.toNat_natCast]
        have hw : w64 (l - ((a.getD i em).size : Int)) = l - ((a.getD i em).size : Int) := w64_id (by omega) (by omega)
        simp only [hw]
        by_cases hn : l - ((a.getD i em).size : Int) < 0
        · exact ⟨-1, bifT hn, .inl (by omega)⟩
        · rw [bifF hn, up1 (by omega)]
          obtain ⟨r, hr, hr2⟩ := ih (l - (a.getD i em).size) (by omega) (by omega)
          refine ⟨r, hr, hr2.imp (fun h => h) fun h => ⟨h.1, by omega, fun j hj hj' => ?_⟩⟩
          by_cases hji : j = i
          · subst hji; omega
          · exact h.2.2 j (by omega) hj'
    obtain ⟨r, hr, hr2⟩ := key 0 (by omega) (left - a.length) (by omega) (by omega)
    exact ⟨r, hr, hr2.imp (fun h => h) fun h => ⟨h.1, by omega, by omega, all_of_getD em fun j hj => h.2.2 j (by omega) hj⟩⟩

theorem toT (a : T) (ha : a.length ≤ 1048576) : laws_toStringS.f a = some a := by
  rw [laws_toStringS.f_eq, room16, bif2T (by omega) (by omega)]
  have key : ∀ i, i ≤ a.length → ∀ out : T, out.length = a.length → (∀ j, j < i → out.getD j em = a.getD j em) → laws_toStringS.l6 a out (i : Int) = some a := by
    apply downTo
    · intro out hl ho
      rw [laws_toStringS.l6_eq, bifF (by omega)]
      rw [list_ext_getD em hl fun i hi => ho i (by omega)]
    · intro i hi ih out hl ho
      rw [laws_toStringS.l6_eq, bifT (by omega), bif2T (by omega) (by omega), bif2T (by omega) (by omega), up1 (by omega)]
      simp only [Int.toNat_natCast]
      refine ih _ (by simpa using hl) fun j hj => ?_
      by_cases hji : j = i
      · subst hji; exact set_same (by omega) _ _
      · rw [set_else (by omega)]; exact ho j (by omega)
  exact key 0 (by omega) _ (by simp) (by omega)

theorem eqT (a b : T) (ha : a.length ≤ 140737488351232) (hb : b.length ≤ 140737488351232) : laws_eqStringS.f a b = some (decide (a = b)) := by
  rw [laws_eqStringS.f_eq]
  by_cases hl : a.length = b.length
  · rw [bifNF (by omega)]
    have key : ∀ i, i ≤ a.length → laws_eqStringS.l8 a b (i : Int) = some (decide (a.drop i = b.drop i)) := by
      apply downTo
      · rw [laws_eqStringS.l8_eq, bifF (by omega)]
        simp [List.drop_eq_nil_of_le, hl]
      · intro i hi ih
        rw [laws_eqStringS.l8_eq, bifT (by omega), bif2T (by omega) (by omega), bif2T (by omega) (by omega), up1 (by omega)]
        simp only [Int.toNat_natCast, toList_beq]
        rw [drop_at hi em, drop_at (l := b) (by omega) em]
        by_cases h : a.getD i em = b.getD i em
        · rw [bifNF h, ih]; simp only [List.cons.injEq, h, true_and]
        · rw [bifNT h]; simp only [List.cons.injEq, h, false_and, decide_false]
    have := key 0 (by omega)
    simpa using this
  · rw [bifNT (by omega)]
    rw [decide_eq_false (fun e => hl (by rw [e]))]

/-- the text of a mark: that there is one is all that is asked -/
theorem markText (k : Int) (h : k ≤ 8796093022208) : ∃ t : ByteArray, laws_markText.f k = some t := by
  rw [laws_markText.f_eq]
  by_cases h0 : k ≤ 0
  · exact ⟨_, bifT h0⟩
  · rw [bifF h0]
    have key : ∀ (n : Nat) (k : Nat) (out : ByteArray), k ≤ n → out.size + k ≤ 17592186044416 → ∃ t, laws_markText.l8 (k : Int) out = some t := by
      intro n
      induction n with
      | zero =>
        intro k out hk ho
        rw [laws_markText.l8_eq, bifF (by omega)]
        exact ⟨_, bifT (by show 1 + out.size ≤ _; omega)⟩
      | succ n ih =>
        intro k out hk ho
        rw [laws_markText.l8_eq]
        by_cases hk0 : (k : Int) > 0
        · rw [bifT hk0]
          have e : ((k : Int).tdiv 10) = ((k / 10 : Nat) : Int) := by rw [Int.tdiv_eq_ediv_of_nonneg (by omega)]; omega
          rw [e, w64_id (x := ((k / 10 : Nat) : Int)) (by omega) (by omega)]
          have hs : (strOf [IntKind.wrap .u8 (w64 (48 + (k : Int).tmod 10))]).size = 1 := rfl
          rw [bifT (by rw [hs]; omega)]
          exact ih _ _ (by omega) (by rw [ByteArray.size_append, hs]; omega)
        · rw [bifF hk0]
          exact ⟨_, bifT (by show 1 + out.size ≤ _; omega)⟩
    obtain ⟨t, ht⟩ := key k.toNat k.toNat em (Nat.le_refl _) (by show 0 + k.toNat ≤ _; omega)
    rw [Int.toNat_of_nonneg (by omega)] at ht
    exact ⟨t, ht⟩

/-- the mark of a number -/
noncomputable def mk (k : Int) : ByteArray := (laws_markText.f k).getD em
theorem mk_eq {k : Int} (h : k ≤ 8796093022208) : laws_markText.f k = some (mk k) := by
  obtain ⟨t, ht⟩ := markText k h
  rw [mk, ht]; rfl
noncomputable def mkT : T → Int → T
  | [], _ => []
  | _ :: r, k => mk k :: mkT r (k + 1)
theorem mkT_len : ∀ (a : T) (k : Int), (mkT a k).length = a.length
  | [], _ => rfl
  | _ :: r, k => by simp [mkT, mkT_len r]
theorem markT (a : T) (k : Int) (h0 : 0 ≤ k) (h : k + a.length ≤ 8796093022208) : laws_markStringS.f a k = some (k + a.length, mkT a k) := by
  have key : ∀ (rest pre : T) (k : Int), 0 ≤ k → pre.length + rest.length ≤ 8796093022208 → k + rest.length ≤ 8796093022208 → laws_markStringS.l4 (pre ++ rest) k (pre.length : Int) = some (k + rest.length, pre ++ mkT rest k) := by
    intro rest
    induction rest with
    | nil => intro pre k _ _ _; rw [laws_markStringS.l4_eq, bifF (by simp)]; simp [mkT]
    | cons x r ih =>
      intro pre k hk hl hb
      simp only [List.length_cons] at hl hb
      rw [laws_markStringS.l4_eq, bifT (by simp; omega), mk_eq (by omega), sB, bif2T (by omega) (by simp; omega), up1 (by omega), w64_id (by omega) (by omega)]
      simp only [Int.toNat_natCast]
      rw [set_mid]
      have := ih (pre ++ [mk k]) (k + 1) (by omega) (by simp; omega) (by omega)
      simp only [List.length_append, List.length_cons, List.length_nil, List.append_assoc, List.cons_append, List.nil_append] at this
      rw [this]
      simp only [mkT, List.length_cons, Option.some.injEq, Prod.mk.injEq, and_true]
      omega
  rw [laws_markStringS.f_eq]
  exact key a [] k h0 (by simp; omega) h
theorem heldT (a : T) (k : Int) (h0 : 0 ≤ k) (h : k + a.length ≤ 8796093022208) : laws_heldStringS.f (mkT a k) k = some (k + a.length) := by
  have key : ∀ (rest pre : T) (k : Int), 0 ≤ k → pre.length + rest.length ≤ 8796093022208 → k + rest.length ≤ 8796093022208 → laws_heldStringS.l4 (pre ++ mkT rest k) k (pre.length : Int) = some (k + rest.length) := by
    intro rest
    induction rest with
    | nil => intro pre k _ _ _; rw [laws_heldStringS.l4_eq, bifF (by simp [mkT])]; simp
    | cons x r ih =>
      intro pre k hk hl hb
      simp only [List.length_cons] at hl hb
      rw [laws_heldStringS.l4_eq, bifT (by simp [mkT]; omega), bif2T (by omega) (by simp [mkT]; omega), mk_eq (by omega), sB]
      simp only [Int.toNat_natCast, mkT]
      rw [getD_mid, toList_beq, bifNF rfl, up1 (by omega), w64_id (by omega) (by omega)]
      have := ih (pre ++ [mk k]) (k + 1) (by omega) (by simp; omega) (by omega)
      simp only [List.length_append, List.length_cons, List.length_nil, List.append_assoc, List.cons_append, List.nil_append] at this
      rw [this]
      simp only [List.length_cons, Option.some.injEq]
      omega
  rw [laws_heldStringS.f_eq]
  exact key a [] k h0 (by simp; omega) h
end Go.Abs.GE
set_option linter.unusedVariables false
set_option linter.unusedSimpArgs false
/-! The laws' own functions on lists of hunks. -/
namespace Go.Abs.GE
open Go Go.Abs

abbrev Hk := Int × Int × T
abbrev hz : Hk := (0, 0, [])
/-- of a size that can be marked -/
def HkB (g : List Hk) : Prop := g.length ≤ 1048576 ∧ ∀ h ∈ g, h.2.2.length ≤ 1048576

theorem eqHk (a b : Hk) (ha : a.2.2.length ≤ 1048576) (hb : b.2.2.length ≤ 1048576) : laws_eqHunk.f a b = some (decide (a = b)) := by
  obtain ⟨a1, a2, a3⟩ := a
  obtain ⟨b1, b2, b3⟩ := b
  simp only at ha hb
  rw [laws_eqHunk.f_eq]
  simp only
  by_cases h1 : a1 = b1
  · rw [bifNF h1]
    by_cases h2 : a2 = b2
    · rw [bifNF h2, eqT a3 b3 (by omega) (by omega), sB]
      by_cases h3 : a3 = b3
      · simp [h1, h2, h3]
      · simp [h3]
    · rw [bifNT h2]; simp [h2]
  · rw [bifNT h1]; simp [h1]

theorem eqHS (a b : List Hk) (ha : HkB a) (hb : HkB b) : laws_eqHunkS.f a b = some (decide (a = b)) := by
  obtain ⟨ha, ha2⟩ := ha
  obtain ⟨hb, hb2⟩ := hb
  rw [laws_eqHunkS.f_eq]
  by_cases hl : a.length = b.length
  · rw [bifNF (by omega)]
    have key : ∀ i, i ≤ a.length → laws_eqHunkS.l8 a b (i : Int) = some (decide (a.drop i = b.drop i)) := by
      apply downTo
      · rw [laws_eqHunkS.l8_eq, bifF (by omega)]
        simp [List.drop_eq_nil_of_le, hl]
      · intro i hi ih
        rw [laws_eqHunkS.l8_eq, bifT (by omega), bif2T (by omega) (by omega), bif2T (by omega) (by omega), up1 (by omega)]
        simp only [Int.toNat_natCast]
        rw [eqHk _ _ (ha2 _ (getD_mem hi _)) (hb2 _ (getD_mem (by omega) _)), sB]
        rw [drop_at hi hz, drop_at (l := b) (by omega) hz]
        by_cases h : a.getD i hz = b.getD i hz
        · rw [bifNF h, ih]; simp only [List.cons.injEq, h, true_and]
        · rw [bifNT h]; simp only [List.cons.injEq, h, false_and, decide_false]
    have := key 0 (by omega)
    simpa using this
  · rw [bifNT (by omega)]
    rw [decide_eq_false (fun e => hl (by rw [e]))]

noncomputable def mkH : List Hk → Int → List Hk
  | [], _ => []
  | h :: r, k => (k, k + 1, mkT h.2.2 (k + 2)) :: mkH r (k + 2 + h.2.2.length)
def endH : List Hk → Int → Int
  | [], k => k
  | h :: r, k => endH r (k + 2 + h.2.2.length)
theorem endH_le : ∀ (g : List Hk) (k : Int), (∀ h ∈ g, h.2.2.length ≤ 1048576) → k ≤ endH g k ∧ endH g k ≤ k + 1048578 * g.length
  | [], k, _ => by simp [endH]
  | h :: r, k, hb => by
    have h1 := hb h (by simp)
    have h2 := endH_le r (k + 2 + h.2.2.length) (fun x hx => hb x (by simp [hx]))
    simp only [endH, List.length_cons]
    omega
theorem mkH_len : ∀ (g : List Hk) (k : Int), (mkH g k).length = g.length
  | [], _ => rfl
  | _ :: r, k => by simp [mkH, mkH_len r]

theorem markHS_key : ∀ (rest pre : List Hk) (k : Int), 0 ≤ k → (∀ h ∈ rest, h.2.2.length ≤ 1048576) → pre.length + rest.length ≤ 1048576 → k + 1048578 * rest.length ≤ 8796093022208 → laws_markHunkS.l4 (pre ++ rest) k (pre.length : Int) = some (endH rest k, pre ++ mkH rest k) := by
  intro rest
  induction rest with
  | nil => intro pre k _ _ _ _; rw [laws_markHunkS.l4_eq, bifF (by simp)]; simp [mkH, endH]
  | cons x r ih =>
    intro pre k hk hx hl hb
    have hx1 := hx x (by simp)
    simp only [List.length_cons] at hl hb
    rw [laws_markHunkS.l4_eq, bifT (by simp; omega), bif2T (by omega) (by simp; omega), bif2T (by omega) (by simp; omega), bif2T (by omega) (by simp; omega)]
    simp only [Int.toNat_natCast, getD_mid, set_mid]
    rw [w64_id (x := k + 1) (by omega) (by omega), w64_id (x := k + 1 + 1) (by omega) (by omega), markT _ _ (by omega) (by omega), sB, up1 (by omega)]
    have := ih (pre ++ [(k, k + 1, mkT x.2.2 (k + 2))]) (k + 2 + x.2.2.length) (by omega) (fun h hh => hx h (by simp [hh])) (by simp; omega) (by omega)
    simp only [List.length_append, List.length_cons, List.length_nil, List.append_assoc, List.cons_append, List.nil_append] at this
    have e : k + 1 + 1 = k + 2 := by omega
    simp only [e]
    rw [this]
    simp only [mkH, endH]
theorem markHSg (g : List Hk) (k : Int) (h0 : 0 ≤ k) (hb : HkB g) (hk : k + 1048578 * g.length ≤ 8796093022208) : laws_markHunkS.f g k = some (endH g k, mkH g k) := by
  rw [laws_markHunkS.f_eq]
  have h1 := hb.1
  exact markHS_key g [] k h0 hb.2 (by simp; omega) hk
theorem markHS (g : List Hk) (k : Int) (h0 : 0 ≤ k) (hk : k ≤ 1048576) (hb : HkB g) : laws_markHunkS.f g k = some (endH g k, mkH g k) := by
  have h1 := hb.1
  exact markHSg g k h0 hb (by omega)
theorem heldHS_key : ∀ (rest pre : List Hk) (k : Int), 0 ≤ k → (∀ h ∈ rest, h.2.2.length ≤ 1048576) → pre.length + rest.length ≤ 1048576 → k + 1048578 * rest.length ≤ 8796093022208 → laws_heldHunkS.l4 (pre ++ mkH rest k) k (pre.length : Int) = some (endH rest k) := by
  intro rest
  induction rest with
  | nil => intro pre k _ _ _ _; rw [laws_heldHunkS.l4_eq, bifF (by simp [mkH])]; simp [endH]
  | cons x r ih =>
    intro pre k hk hx hl hb
    have hx1 := hx x (by simp)
    simp only [List.length_cons] at hl hb
    rw [laws_heldHunkS.l4_eq, bifT (by simp [mkH]; omega), bif2T (by omega) (by simp [mkH]; omega), bif2T (by omega) (by simp [mkH]; omega), bif2T (by omega) (by simp [mkH]; omega)]
    simp only [Int.toNat_natCast, mkH, getD_mid]
    rw [bifNF trivial, w64_id (x := k + 1) (by omega) (by omega), bifNF rfl, w64_id (x := k + 1 + 1) (by omega) (by omega)]
    have e : k + 1 + 1 = k + 2 := by omega
    rw [e, heldT _ _ (by omega) (by omega), sB, bifF (by omega), up1 (by omega)]
    have := ih (pre ++ [(k, k + 1, mkT x.2.2 (k + 2))]) (k + 2 + x.2.2.length) (by omega) (fun h hh => hx h (by simp [hh])) (by simp; omega) (by omega)
    simp only [List.length_append, List.length_cons, List.length_nil, List.append_assoc, List.cons_append, List.nil_append] at this
    rw [this]
    simp only [endH]
theorem heldHSg (g : List Hk) (k : Int) (h0 : 0 ≤ k) (hb : HkB g) (hk : k + 1048578 * g.length ≤ 8796093022208) : laws_heldHunkS.f (mkH g k) k = some (endH g k) := by
  rw [laws_heldHunkS.f_eq]
  have h1 := hb.1
  exact heldHS_key g [] k h0 hb.2 (by simp; omega) hk
theorem heldHS (g : List Hk) (k : Int) (h0 : 0 ≤ k) (hk : k ≤ 1048576) (hb : HkB g) : laws_heldHunkS.f (mkH g k) k = some (endH g k) := by
  have h1 := hb.1
  exact heldHSg g k h0 hb (by omega)
end Go.Abs.GE
set_option linter.unusedVariables false
set_option linter.unusedSimpArgs false
/-! Lines: what is a line, what are good lines: one plain model. -/
namespace Go.Abs.GE
open Go Go.Abs

/-- of a size that is let through -/
def Sm (l : T) : Prop := l.length ≤ 1048576 ∧ ∀ s ∈ l, s.size ≤ 1048576
def bl (s : ByteArray) : List UInt8 := s.data.toList
theorem bl_len (s : ByteArray) : (bl s).length = s.size := rfl
theorem bl_inj {a b : ByteArray} (h : bl a = bl b) : a = b := ByteArray.ext (Array.toList_inj.1 h)
theorem bl_ext (s : ByteArray) (a b : Nat) : bl (s.extract a b) = ((bl s).drop a).take (b - a) := by
  unfold bl; rw [ByteArray.data_extract, Array.toList_extract]
theorem bt_bl (s : ByteArray) (i : Nat) : bt s (i : Int) = (((bl s).getD i 0).toNat : Int) := by
  unfold bt bl
  rw [Int.toNat_natCast]
theorem sIn (a b c : Int) : spec_l1In.f a b c = some (decide (b ≤ a ∧ a ≤ c)) := by
  rw [spec_l1In.f_eq]
  by_cases h : a ≥ b
  · rw [bifT h]; congr 1; rw [decide_eq_decide]; omega
  · rw [bifF h]; congr 1; rw [eq_comm, decide_eq_false_iff_not]; omega
theorem iIn (a b c : Int) : impl_in.f a b c = some (decide (b ≤ a ∧ a ≤ c)) := by
  rw [impl_in.f_eq]
  by_cases h : a ≥ b
  · rw [bifT h]; congr 1; rw [decide_eq_decide]; omega
  · rw [bifF h]; congr 1; rw [eq_comm, decide_eq_false_iff_not]; omega
/-- A line. -/
def lineP (s : ByteArray) : Prop := 1 ≤ s.size ∧ s.size ≤ 30 ∧ (10 : UInt8) ∉ (bl s).take (s.size - 1)
instance (s : ByteArray) : Decidable (lineP s) := by unfold lineP; exact inferInstance
/-- It ends. -/
def endP (s : ByteArray) : Prop := 1 ≤ s.size ∧ (bl s).getD (s.size - 1) 0 = 10
instance (s : ByteArray) : Decidable (endP s) := by unfold endP; exact inferInstance
theorem toNat10 (b : UInt8) : ((b.toNat : Nat) : Int) = 10 ↔ b = 10 := by
  constructor
  · intro h; exact UInt8.toNat_inj.1 (by have : (10 : UInt8).toNat = 10 := rfl; omega)
  · rintro rfl; rfl
theorem sLine (s : ByteArray) (hs : s.size ≤ 1048576) : spec_l1Line.f s = some (decide (lineP s)) := by
  have hL : ((bl s).take (s.size - 1)).length = s.size - 1 := by rw [List.length_take, bl_len]; omega
  have hw : w64 ((s.size : Int) - 1) = (s.size : Int) - 1 := w64_id (by omega) (by omega)
  have key : ∀ i, i ≤ s.size - 1 → spec_l1Line.l4 s (i : Int) = some (decide (1 ≤ s.size ∧ s.size ≤ 30 ∧ (10 : UInt8) ∉ ((bl s).take (s.size - 1)).drop i)) := by
    apply downTo
    · rw [spec_l1Line.l4_eq, hw, bifF (by omega), sIn, sB]
      congr 1
      rw [decide_eq_decide, List.drop_eq_nil_of_le (by omega)]
      constructor
      · intro h; exact ⟨by omega, by omega, List.not_mem_nil⟩
      · intro h; omega
    · intro i hi ih
      have hi1 := up1 (i := i) (by omega)
      rw [spec_l1Line.l4_eq]
      simp only [hw, hi1]
      rw [bifT (by omega), bif2T (by omega) (by omega)]
      have hb : bt s (i : Int) = 10 ↔ ((bl s).take (s.size - 1)).getD i 0 = 10 := by
        rw [bt_bl, toNat10, List.getD_eq_getElem?_getD, List.getD_eq_getElem?_getD, List.getElem?_take_of_lt hi]
      have hd := drop_at (l := (bl s).take (s.size - 1)) (i := i) (by omega) 0
      by_cases h : bt s (i : Int) = 10
      · rw [bifT h]; congr 1
        rw [eq_comm, decide_eq_false_iff_not, hd, hb.1 h]
        rintro ⟨_, _, h3⟩
        exact h3 List.mem_cons_self
      · rw [bifF h, ih]; congr 1
        rw [decide_eq_decide, hd, List.mem_cons, not_or]
        have : ¬ (10 : UInt8) = ((bl s).take (s.size - 1)).getD i 0 := fun g => h (hb.2 g.symm)
        exact ⟨fun ⟨a, b, c⟩ => ⟨a, b, this, c⟩, fun ⟨a, b, _, c⟩ => ⟨a, b, c⟩⟩
  have := key 0 (by omega)
  rw [spec_l1Line.f_eq]
  rw [List.drop_zero] at this
  exact this
theorem iLine (s : ByteArray) (hs : s.size ≤ 1048576) : impl_isLine.f s = some (decide (lineP s)) := by
  have hw : w64 ((s.size : Int) - 1) = (s.size : Int) - 1 := w64_id (by omega) (by omega)
  rw [impl_isLine.f_eq, iIn, sB, hw]
  by_cases h : (1 : Int) ≤ (s.size : Int) ∧ (s.size : Int) ≤ 30
  · rw [bifT h, bif2T (by omega) (by omega)]
    show (contains1 _ _).bind _ = _
    unfold contains1
    have h1 : Nat.beq (⟨#[10]⟩ : ByteArray).size 1 = true := rfl
    rw [h1, cond_true, sB]
    congr 1
    show (!decide (0 ≤ Go.Lib.indexByte _ 10)) = _
    rw [← Go.Lib.contains_iff_indexByte]
    have he : (s.extract 0 ((s.size : Int) - 1).toNat).data.toList = (bl s).take (s.size - 1) := by
      show bl _ = _
      rw [bl_ext, List.drop_zero]; congr 1; omega
    rw [he]
    by_cases hm : (10 : UInt8) ∈ (bl s).take (s.size - 1)
    · rw [List.contains_iff_mem.2 hm]; exact (decide_eq_false (fun g : lineP s => g.2.2 hm)).symm
    · have : ((bl s).take (s.size - 1)).contains 10 = false := by rw [← Bool.not_eq_true, List.contains_iff_mem]; exact hm
      rw [this]; exact (decide_eq_true (show lineP s from ⟨by omega, by omega, hm⟩)).symm
  · rw [bifF h]
    congr 1
    rw [eq_comm, decide_eq_false_iff_not]
    unfold lineP
    omega
theorem sEnds (s : ByteArray) (h1 : 1 ≤ s.size) (hs : s.size ≤ 1048576) : spec_l1Ends.f s = some (decide (endP s)) := by
  have hw : w64 ((s.size : Int) - 1) = ((s.size - 1 : Nat) : Int) := by rw [w64_id (by omega) (by omega)]; omega
  rw [spec_l1Ends.f_eq, hw, bif2T (by omega) (by omega), bt_bl]
  congr 1
  rw [decide_eq_decide, toNat10]
  exact ⟨fun h => ⟨h1, h⟩, fun h => h.2⟩
theorem iEnds (s : ByteArray) (hs : s.size ≤ 1048576) : impl_isEnded.f s = some (decide (endP s)) := by
  rw [impl_isEnded.f_eq, strings_HasSuffix.f_eq, internal_stringslite_HasSuffix.f_eq]
  have h10 : (⟨#[10]⟩ : ByteArray).size = 1 := rfl
  have hw : w64 ((s.size : Int) - 1) = (s.size : Int) - 1 := w64_id (by omega) (by omega)
  simp only [h10, Int.ofNat_one]
  by_cases h : (s.size : Int) ≥ 1
  · rw [hw, bifT h, bif2T (by omega) (by omega), sB, sB]
    congr 1
    rw [toList_beq, decide_eq_decide]
    have hb : bl (s.extract ((s.size : Int) - 1).toNat s.size) = [(bl s).getD (s.size - 1) 0] := by
      rw [bl_ext]
      have e : ((s.size : Int) - 1).toNat = s.size - 1 := by omega
      rw [e, drop_at (l := bl s) (i := s.size - 1) (by rw [bl_len]; omega) 0, show s.size - (s.size - 1) = 1 by omega]
      rfl
    constructor
    · intro g
      rw [g] at hb
      refine ⟨by omega, ?_⟩
      have : [(10 : UInt8)] = [(bl s).getD (s.size - 1) 0] := hb
      exact ((List.cons.inj this).1).symm
    · intro g
      refine bl_inj ?_
      rw [hb, g.2]; rfl
  · rw [bifF (by omega), sB, sB]
    congr 1
    rw [eq_comm, decide_eq_false_iff_not]
    unfold endP
    omega
/-! ### good lines -/
def endsT : T → Bool
  | [] => true
  | s :: t => (t.isEmpty || decide (endP s)) && endsT t
def allLines (l : T) : Bool := l.all fun s => decide (lineP s)
theorem allLines_cons (s : ByteArray) (l : T) : allLines (s :: l) = (decide (lineP s) && allLines l) := rfl
def goodB (l : T) : Bool := decide (l.length ≤ 40) && allLines l && endsT l
theorem drop_empty {l : T} {i : Nat} (h : i < l.length) : (l.drop (i + 1)).isEmpty = decide (¬ (i : Int) < (l.length : Int) - 1) := by
  rw [Bool.eq_iff_iff, List.isEmpty_iff, List.drop_eq_nil_iff, decide_eq_true_eq]; omega
theorem iAre (l : T) (hl : Sm l) : impl_areLines.f l = some (decide (l.length ≤ 40) && allLines l) := by
  have hL := hl.1
  have idx : ∀ i, i ≤ l.length → ∃ r : Int, slices_IndexFunc_string_string__impl_areLines_1.l4 l (l.length : Int) (i : Int) = some r ∧ (decide (r ≥ 0) = !(allLines (l.drop i))) := by
    apply downTo
    · refine ⟨-1, by rw [slices_IndexFunc_string_string__impl_areLines_1.l4_eq, bifF (by omega)], ?_⟩
      rw [List.drop_eq_nil_of_le (by omega)]; rfl
    · intro i hlt ⟨r, hr, hp⟩
      have hi1 := up1 (i := i) (by omega)
      have hsz := hl.2 _ (getD_mem hlt em)
      rw [slices_IndexFunc_string_string__impl_areLines_1.l4_eq, bifT (by omega), bif2T (by omega) (by omega), hi1]
      simp only [Int.toNat_natCast]
      rw [impl_areLines_1.f_eq, iLine _ hsz, sB, sB]
      by_cases h : lineP (l.getD i em)
      · refine ⟨r, by rw [bifNF h]; exact hr, ?_⟩
        rw [hp, drop_at hlt em, allLines_cons, decide_eq_true h, Bool.true_and]
      · refine ⟨(i : Int), by rw [bifNT h], ?_⟩
        rw [drop_at hlt em, allLines_cons, decide_eq_false h, Bool.false_and]; exact decide_eq_true (by omega)
  obtain ⟨r, hr, hp⟩ := idx 0 (by omega)
  rw [impl_areLines.f_eq, slices_ContainsFunc_string_string__impl_areLines_1.f_eq, slices_IndexFunc_string_string__impl_areLines_1.f_eq]
  by_cases h : l.length ≤ 40
  · rw [bifT (by omega)]
    refine bindEq (bindEq hr rfl) ?_
    rw [hp, decide_eq_true h]; simp
  · rw [bifF (by omega), decide_eq_false h]; rfl
theorem iGood (l : T) (hl : Sm l) : impl_goodLines.f l = some (goodB l) := by
  have hL := hl.1
  rw [impl_goodLines.f_eq, iAre l hl, sB]
  unfold goodB
  cases hg : (decide (l.length ≤ 40) && allLines l) with
  | false => rw [Bool.false_and, notF]
  | true =>
    rw [Bool.true_and, notT]
    have hw : w64 ((l.length : Int) - 1) = (l.length : Int) - 1 := w64_id (by omega) (by omega)
    have key : ∀ i, i ≤ l.length → impl_goodLines.l8 l l (l.length : Int) (i : Int) = some (endsT (l.drop i)) := by
      apply downTo
      · rw [impl_goodLines.l8_eq, bifF (by omega), List.drop_eq_nil_of_le (by omega)]; rfl
      · intro i hi ih
        have hi1 := up1 (i := i) (by omega)
        have hsz := hl.2 _ (getD_mem hi em)
        have he := drop_empty hi
        have hR : endsT (l.drop i) = ((decide (¬ (i : Int) < (l.length : Int) - 1) || decide (endP (l.getD i em))) && endsT (l.drop (i + 1))) := by
          rw [drop_at hi em]; simp only [endsT, he]
        rw [hR, impl_goodLines.l8_eq, hw, hi1, bifT (by omega), bif2T (by omega) (by omega)]
        simp only [Int.toNat_natCast]
        rw [iEnds _ hsz, sB, ih]
        by_cases h2 : (i : Int) < (l.length : Int) - 1
        · rw [bifT h2, decide_eq_false (show ¬ ¬ (i : Int) < (l.length : Int) - 1 from fun g => g h2), Bool.false_or]
          by_cases h3 : endP (l.getD i em)
          · rw [bifNF h3, decide_eq_true h3, Bool.true_and]
          · rw [bifNT h3, decide_eq_false h3, Bool.false_and]
        · rw [bifF h2, decide_eq_true h2, Bool.true_or, Bool.true_and]
    have := key 0 (by omega)
    rw [List.drop_zero] at this
    exact this
theorem sGood (l : T) (hl : Sm l) : spec_l1Good.f l = some (goodB l) := by
  have hL := hl.1
  have hw : w64 ((l.length : Int) - 1) = (l.length : Int) - 1 := w64_id (by omega) (by omega)
  have key : ∀ i, i ≤ l.length → spec_l1Good.l4 l l (l.length : Int) (i : Int) = some (decide (l.length ≤ 40) && allLines (l.drop i) && endsT (l.drop i)) := by
    apply downTo
    · rw [spec_l1Good.l4_eq, bifF (by omega), List.drop_eq_nil_of_le (by omega)]
      simp [allLines, endsT]
      omega
    · intro i hi ih
      have hi1 := up1 (i := i) (by omega)
      have hd := drop_at hi em
      have hsz := hl.2 _ (getD_mem hi em)
      have he := drop_empty hi
      have hR : (decide (l.length ≤ 40) && allLines (l.drop i) && endsT (l.drop i)) = (decide (lineP (l.getD i em)) && ((decide (¬ (i : Int) < (l.length : Int) - 1) || decide (endP (l.getD i em))) && (decide (l.length ≤ 40) && allLines (l.drop (i + 1)) && endsT (l.drop (i + 1))))) := by
        rw [hd]
        simp only [allLines, endsT, List.all_cons, he]
        generalize decide (l.length ≤ 40) = a1
        generalize decide (lineP (l.getD i em)) = a2
        generalize (l.drop (i + 1)).all (fun s => decide (lineP s)) = a3
        generalize (decide (¬ (i : Int) < (l.length : Int) - 1) || decide (endP (l.getD i em))) = a4
        generalize endsT (l.drop (i + 1)) = a5
        cases a1 <;> cases a2 <;> cases a3 <;> cases a4 <;> cases a5 <;> rfl
      rw [hR, spec_l1Good.l4_eq, hw, hi1, bifT (by omega), bif2T (by omega) (by omega)]
      simp only [Int.toNat_natCast]
      rw [sLine _ hsz, sB, ih]
      by_cases h1 : lineP (l.getD i em)
      · rw [bifNF h1, decide_eq_true h1, Bool.true_and]
        by_cases h2 : (i : Int) < (l.length : Int) - 1
        · rw [bifT h2, decide_eq_false (show ¬ ¬ (i : Int) < (l.length : Int) - 1 from fun g => g h2), Bool.false_or, sEnds _ h1.1 hsz, sB]
          by_cases h3 : endP (l.getD i em)
          · rw [bifNF h3, decide_eq_true h3, Bool.true_and]
          · rw [bifNT h3, decide_eq_false h3, Bool.false_and]
        · rw [bifF h2, decide_eq_true h2, Bool.true_or, Bool.true_and]
      · rw [bifNT h1, decide_eq_false h1, Bool.false_and]
  have := key 0 (by omega)
  rw [List.drop_zero] at this
  rw [spec_l1Good.f_eq]
  exact this
theorem good_len {l : T} (h : goodB l = true) : l.length ≤ 40 := by
  unfold goodB at h
  simp only [Bool.and_eq_true, decide_eq_true_eq] at h
  exact h.1.1
end Go.Abs.GE
set_option linter.unusedVariables false
set_option linter.unusedSimpArgs false
/-! The longest part that two lists of texts share: how long it is, and the least pairs of places that make it. No program in sight. -/
namespace Go.Abs.GE
open Go Go.Abs

def inn (x : ByteArray) (f : T → Nat) : T → Nat
  | [] => 0
  | y :: ys => if x = y then f ys + 1 else max (f (y :: ys)) (inn x f ys)
def lcs : T → T → Nat
  | [], _ => 0
  | x :: xs, ys => inn x (lcs xs) ys
theorem lcs_nil (xs : T) : lcs xs [] = 0 := by cases xs <;> rfl
theorem lcs_cons (x : ByteArray) (xs : T) (y : ByteArray) (ys : T) : lcs (x :: xs) (y :: ys) = if x = y then lcs xs ys + 1 else max (lcs xs (y :: ys)) (lcs (x :: xs) ys) := rfl
theorem lcs_step : ∀ (n : Nat) (xs ys : T), xs.length + ys.length ≤ n →
    (∀ x, lcs xs ys ≤ lcs (x :: xs) ys ∧ lcs (x :: xs) ys ≤ lcs xs ys + 1) ∧ (∀ y, lcs xs ys ≤ lcs xs (y :: ys) ∧ lcs xs (y :: ys) ≤ lcs xs ys + 1) := by
  intro n
  induction n with
  | zero =>
    intro xs ys h
    have h1 : xs.length = 0 := by omega
    have h2 : ys.length = 0 := by omega
    obtain rfl := List.length_eq_zero_iff.1 h1
    obtain rfl := List.length_eq_zero_iff.1 h2
    exact ⟨fun x => ⟨Nat.le_refl _, Nat.le_succ _⟩, fun y => ⟨Nat.le_refl _, Nat.le_succ _⟩⟩
  | succ n ih =>
    intro xs ys h
    refine ⟨fun x => ?_, fun y => ?_⟩
    · cases ys with
      | nil => rw [lcs_nil, lcs_nil]; omega
      | cons y ys =>
        have hI := ih xs ys (by simp at h; omega)
        have h1 := hI.1 x
        have h2 := hI.2 y
        rw [lcs_cons]
        split
        · omega
        · omega
    · cases xs with
      | nil => exact ⟨Nat.le_refl _, Nat.zero_le _⟩
      | cons x xs =>
        have hI := ih xs ys (by simp at h; omega)
        have h1 := hI.1 x
        have h2 := hI.2 y
        rw [lcs_cons]
        split
        · omega
        · omega
theorem lcs_le : ∀ xs ys : T, lcs xs ys ≤ xs.length
  | [], _ => Nat.le_refl _
  | x :: xs, ys => by
    have h1 := lcs_le xs ys
    have h2 := ((lcs_step _ xs ys (Nat.le_refl _)).1 x).2
    rw [List.length_cons]; omega
def tv (a b : T) (i j : Nat) : Nat := lcs (a.drop i) (b.drop j)
theorem tv_i {a b : T} {i j : Nat} (h : a.length ≤ i) : tv a b i j = 0 := by unfold tv; rw [List.drop_eq_nil_of_le h]; rfl
theorem tv_j {a b : T} {i j : Nat} (h : b.length ≤ j) : tv a b i j = 0 := by unfold tv; rw [List.drop_eq_nil_of_le h, lcs_nil]
theorem tv_le (a b : T) (i j : Nat) : tv a b i j ≤ a.length := by
  unfold tv
  have := lcs_le (a.drop i) (b.drop j)
  rw [List.length_drop] at this; omega
theorem tv_step {a b : T} {i j : Nat} (hi : i < a.length) (hj : j < b.length) : tv a b i j = if a.getD i em = b.getD j em then tv a b (i + 1) (j + 1) + 1 else max (tv a b (i + 1) j) (tv a b i (j + 1)) := by
  unfold tv
  rw [drop_at hi em, drop_at hj em]
  exact lcs_cons _ _ _ _
theorem tv_near {a b : T} {i j : Nat} (hi : i < a.length) (hj : j < b.length) : tv a b (i + 1) j ≤ tv a b (i + 1) (j + 1) + 1 ∧ tv a b i (j + 1) ≤ tv a b (i + 1) (j + 1) + 1 := by
  unfold tv
  have h := lcs_step _ (a.drop (i + 1)) (b.drop (j + 1)) (Nat.le_refl _)
  have h1 := (h.1 (a.getD i em)).2
  have h2 := (h.2 (b.getD j em)).2
  rw [← drop_at hi em] at h1
  rw [← drop_at hj em] at h2
  exact ⟨h2, h1⟩
/-! ### the least pairs -/
def Mt (a b : T) (i j p q : Nat) : Prop := a.getD p em = b.getD q em ∧ tv a b (p + 1) (q + 1) + 1 = tv a b i j
theorem ex_match (a b : T) : ∀ (n i j : Nat), (a.length - i) + (b.length - j) ≤ n → 0 < tv a b i j → ∃ p q, i ≤ p ∧ p < a.length ∧ j ≤ q ∧ q < b.length ∧ Mt a b i j p q := by
  intro n
  induction n with
  | zero => intro i j h h0; rw [tv_i (by omega)] at h0; omega
  | succ n ih =>
    intro i j h h0
    by_cases hi : i < a.length
    · by_cases hj : j < b.length
      · have hs := tv_step hi hj
        by_cases e : a.getD i em = b.getD j em
        · rw [if_pos e] at hs
          exact ⟨i, j, Nat.le_refl _, hi, Nat.le_refl _, hj, e, hs.symm⟩
        · rw [if_neg e] at hs
          by_cases c : tv a b i (j + 1) ≤ tv a b (i + 1) j
          · have e2 : tv a b i j = tv a b (i + 1) j := by omega
            obtain ⟨p, q, h1, h2, h3, h4, h5⟩ := ih (i + 1) j (by omega) (by omega)
            exact ⟨p, q, by omega, h2, h3, h4, h5.1, by rw [e2]; exact h5.2⟩
          · have e2 : tv a b i j = tv a b i (j + 1) := by omega
            obtain ⟨p, q, h1, h2, h3, h4, h5⟩ := ih i (j + 1) (by omega) (by omega)
            exact ⟨p, q, h1, h2, by omega, h4, h5.1, by rw [e2]; exact h5.2⟩
      · rw [tv_j (by omega)] at h0; omega
    · rw [tv_i (by omega)] at h0; omega
theorem least {P : Nat → Prop} (h : ∃ n, P n) : ∃ n, P n ∧ ∀ m, m < n → ¬ P m := by
  obtain ⟨n, hn⟩ := h
  induction n using Nat.strongRecOn with
  | _ n ih =>
    by_cases g : ∃ m, m < n ∧ P m
    · obtain ⟨m, hm, hp⟩ := g
      exact ih m hm hp
    · exact ⟨n, hn, fun m hm hp => g ⟨m, hm, hp⟩⟩
structure Lst (a b : T) (i j p q : Nat) : Prop where
  hip : i ≤ p
  hpa : p < a.length
  hjq : j ≤ q
  hqb : q < b.length
  hm : Mt a b i j p q
  hrow : ∀ p' q', i ≤ p' → p' < p → j ≤ q' → q' < b.length → ¬ Mt a b i j p' q'
  hcol : ∀ q', j ≤ q' → q' < q → ¬ Mt a b i j p q'
theorem ex_least (a b : T) (i j : Nat) (h : 0 < tv a b i j) : ∃ p q, Lst a b i j p q := by
  obtain ⟨p0, q0, h1, h2, h3, h4, h5⟩ := ex_match a b _ i j (Nat.le_refl _) h
  obtain ⟨p, ⟨hp1, hp2, hp3⟩, hp4⟩ := least (P := fun p => i ≤ p ∧ p < a.length ∧ ∃ q, j ≤ q ∧ q < b.length ∧ Mt a b i j p q) ⟨p0, h1, h2, q0, h3, h4, h5⟩
  obtain ⟨q, ⟨hq1, hq2, hq3⟩, hq4⟩ := least (P := fun q => j ≤ q ∧ q < b.length ∧ Mt a b i j p q) hp3
  exact ⟨p, q, hp1, hp2, hq1, hq2, hq3, fun p' q' g1 g2 g3 g4 g5 => hp4 p' g2 ⟨g1, by omega, q', g3, g4, g5⟩, fun q' g1 g2 g3 => hq4 q' g2 ⟨g1, by omega, g3⟩⟩
def PR (a b : T) : Nat → Nat → List (Nat × Nat) → Prop
  | i, j, [] => tv a b i j = 0
  | i, j, (p, q) :: l => Lst a b i j p q ∧ PR a b (p + 1) (q + 1) l
theorem ex_PR (a b : T) : ∀ (n i j : Nat), a.length - i ≤ n → ∃ l, PR a b i j l ∧ l.length ≤ n := by
  intro n
  induction n with
  | zero => intro i j h; exact ⟨[], tv_i (by omega), Nat.le_refl _⟩
  | succ n ih =>
    intro i j h
    by_cases h0 : 0 < tv a b i j
    · obtain ⟨p, q, hL⟩ := ex_least a b i j h0
      have h1 := hL.hip
      have h2 := hL.hpa
      obtain ⟨l, hl, hn⟩ := ih (p + 1) (q + 1) (by omega)
      exact ⟨(p, q) :: l, ⟨hL, hl⟩, by rw [List.length_cons]; omega⟩
    · exact ⟨[], (by show tv a b i j = 0; omega), Nat.zero_le _⟩
/-! ### the table -/
def trow (a b : T) (i : Nat) : List Int := (List.range (b.length + 1)).map fun j => (tv a b i j : Int)
def tbl (a b : T) : List (List Int) := (List.range (a.length + 1)).map (trow a b)
theorem trow_len (a b : T) (i : Nat) : (trow a b i).length = b.length + 1 := by simp [trow]
theorem tbl_len (a b : T) : (tbl a b).length = a.length + 1 := by simp [tbl]
theorem trow_get (a b : T) (i : Nat) {j : Nat} (h : j ≤ b.length) : (trow a b i).getD j 0 = (tv a b i j : Int) := by
  unfold trow
  simp [List.getD_eq_getElem?_getD, List.getElem?_map, List.getElem?_range (show j < b.length + 1 by omega)]
theorem tbl_get (a b : T) {i : Nat} (h : i ≤ a.length) : (tbl a b).getD i [] = trow a b i := by
  unfold tbl
  simp [List.getD_eq_getElem?_getD, List.getElem?_map, List.getElem?_range (show i < a.length + 1 by omega)]
theorem row_eq (a b : T) (i : Nat) (y : List Int) (h : y.length = b.length + 1) (h2 : ∀ c, c ≤ b.length → y.getD c 0 = (tv a b i c : Int)) : y = trow a b i := by
  apply List.ext_getElem
  · rw [h, trow_len]
  · intro c hc hc2
    have h3 := h2 c (by omega)
    have h4 := trow_get a b i (j := c) (by omega)
    rw [List.getD_eq_getElem?_getD, List.getElem?_eq_getElem hc] at h3
    rw [List.getD_eq_getElem?_getD, List.getElem?_eq_getElem hc2] at h4
    simp at h3 h4
    rw [h3, h4]
theorem tbl_eq (a b : T) (x : List (List Int)) (h : x.length = a.length + 1) (h2 : ∀ r, r ≤ a.length → x.getD r [] = trow a b r) : x = tbl a b := by
  apply List.ext_getElem
  · rw [h, tbl_len]
  · intro c hc hc2
    have h3 := h2 c (by omega)
    have h4 := tbl_get a b (i := c) (by omega)
    rw [List.getD_eq_getElem?_getD, List.getElem?_eq_getElem hc] at h3
    rw [List.getD_eq_getElem?_getD, List.getElem?_eq_getElem hc2] at h4
    simp at h3 h4
    rw [h3, h4]
end Go.Abs.GE
set_option linter.unusedVariables false
set_option linter.unusedSimpArgs false
/-! The table of longest common parts, by both. -/
namespace Go.Abs.GE
open Go Go.Abs

abbrev Tb := List (List Int)
theorem zeros_get (n c : Nat) : (List.replicate n (0 : Int)).getD c 0 = 0 := by
  rw [List.getD_eq_getElem?_getD, List.getElem?_replicate]; split <;> rfl
theorem most (a b : Int) : spec_l1Most.f a b = some (max a b) := by
  rw [spec_l1Most.f_eq]
  by_cases h : a > b
  · rw [bifT h]; congr 1; omega
  · rw [bifF h]; congr 1; omega
/-- Row i is known behind place j. -/
def RowInv (a b : T) (x : Tb) (i j : Nat) : Prop := x.length = a.length + 1 ∧ (∀ r, i < r → r ≤ a.length → x.getD r [] = trow a b r) ∧ (x.getD i []).length = b.length + 1 ∧ ∀ c, j ≤ c → c ≤ b.length → (x.getD i []).getD c 0 = (tv a b i c : Int)
theorem inv_put (a b : T) {x : Tb} {i j : Nat} (h : RowInv a b x i (j + 1)) (hi : i < a.length) (hj : j < b.length) : RowInv a b (x.set i ((x.getD i []).set j (tv a b i j : Int))) i j := by
  obtain ⟨h1, h2, h3, h4⟩ := h
  have hs : (x.set i ((x.getD i []).set j (tv a b i j : Int))).getD i [] = (x.getD i []).set j (tv a b i j : Int) := set_same (by omega) _ _
  refine ⟨by rw [List.length_set]; exact h1, fun r hr hr2 => ?_, ?_, fun c hc hc2 => ?_⟩
  · rw [set_else (by omega)]; exact h2 r hr hr2
  · rw [hs, List.length_set]; exact h3
  · rw [hs]
    by_cases e : c = j
    · subst e; exact set_same (by omega) _ _
    · rw [set_else (by omega)]; exact h4 c (by omega) hc2
theorem inv_row (a b : T) {x : Tb} {i : Nat} (h : RowInv a b x i 0) : ∀ r, i ≤ r → r ≤ a.length → x.getD r [] = trow a b r := by
  intro r hr hr2
  by_cases e : r = i
  · subst e; exact row_eq a b r _ h.2.2.1 (fun c hc => h.2.2.2 c (Nat.zero_le _) hc)
  · exact h.2.1 r (by omega) hr2
section
variable (a b : T) (ha : a.length ≤ 1000) (hb : b.length ≤ 1000)
include ha hb
theorem sT_l2 (R : Tb) (i : Nat) (hi : i < a.length) (k : ∀ x : Tb, RowInv a b x i 0 → (∀ r, r < i → (x.getD r []).length = b.length + 1 ∧ (x.getD r []).getD b.length 0 = 0) → spec_l3Table.l16 a b x ((i : Int) - 1) = some R) :
    ∀ (j : Nat) (x : Tb), j ≤ b.length → RowInv a b x i j → (∀ r, r < i → (x.getD r []).length = b.length + 1 ∧ (x.getD r []).getD b.length 0 = 0) → spec_l3Table.l22 a b x (i : Int) ((j : Int) - 1) = some R := by
  intro j
  induction j with
  | zero =>
    intro x hj h hz
    have hw : w64 ((i : Int) - 1) = (i : Int) - 1 := w64_id (by omega) (by omega)
    rw [spec_l3Table.l22_eq, bifF (by omega), hw]
    exact k x h hz
  | succ j ih =>
    intro x hj h hz
    have e0 : ((j + 1 : Nat) : Int) - 1 = (j : Int) := by omega
    rw [e0]
    obtain ⟨h1, h2, h3, h4⟩ := h
    have hi1 : w64 ((i : Int) + 1) = ((i + 1 : Nat) : Int) := up1 (by omega)
    have hj1 : w64 ((j : Int) + 1) = ((j + 1 : Nat) : Int) := up1 (by omega)
    have hj2 : w64 ((j : Int) - 1) = (j : Int) - 1 := w64_id (by omega) (by omega)
    have hrow := h2 (i + 1) (by omega) (by omega)
    have g1 : (trow a b (i + 1)).getD j 0 = (tv a b (i + 1) j : Int) := trow_get a b (i + 1) (by omega)
    have g2 : (trow a b (i + 1)).getD (j + 1) 0 = (tv a b (i + 1) (j + 1) : Int) := trow_get a b (i + 1) (by omega)
    have g3 := h4 (j + 1) (by omega) (by omega)
    have hl := trow_len a b (i + 1)
    have hb1 := tv_le a b (i + 1) (j + 1)
    have hv : w64 ((tv a b (i + 1) (j + 1) : Int) + 1) = (tv a b (i + 1) (j + 1) : Int) + 1 := w64_id (by omega) (by omega)
    have hs := tv_step (a := a) (b := b) (i := i) (j := j) (by omega) (by omega)
    have hn := tv_near (a := a) (b := b) (i := i) (j := j) (by omega) (by omega)
    have hset : ∀ v : Int, (x.set i ((x.getD i []).set j v)).getD i [] = (x.getD i []).set j v := fun v => set_same (by omega) _ _
    have hset1 : ∀ v : Int, (x.set i ((x.getD i []).set j v)).getD (i + 1) [] = trow a b (i + 1) := fun v => by rw [set_else (by omega)]; exact hrow
    have hsame : ∀ v : Int, ((x.getD i []).set j v).getD j 0 = v := fun v => set_same (by omega) _ _
    have fin : spec_l3Table.l22 a b (x.set i ((x.getD i []).set j (tv a b i j : Int))) (i : Int) ((j : Int) - 1) = some R := by
      refine ih _ (by omega) (inv_put a b ⟨h1, h2, h3, h4⟩ (by omega) (by omega)) (fun r hr => ?_)
      rw [set_else (by omega)]; exact hz r hr
    rw [spec_l3Table.l22_eq]
    simp only [hi1, hj1, hj2, Int.toNat_natCast, hrow, g1, g3, hl, List.length_set, hset, hset1, hsame, g2, hv, toList_beq]
    clear hi1 hj1 hj2
    simp (disch := omega) only [bifT, bif2T, most, sB]
    by_cases e : a.getD i em = b.getD j em
    · rw [if_pos e] at hs
      rw [bifT e, List.set_set, List.set_set]
      rw [show max (max (tv a b (i + 1) j : Int) (tv a b i (j + 1) : Int)) ((tv a b (i + 1) (j + 1) : Int) + 1) = (tv a b i j : Int) by omega]
      exact fin
    · rw [if_neg e] at hs
      rw [bifF e]
      rw [show max (tv a b (i + 1) j : Int) (tv a b i (j + 1) : Int) = (tv a b i j : Int) by omega]
      exact fin
theorem sT_l1 : ∀ (d : Nat) (x : Tb), d ≤ a.length → x.length = a.length + 1 → (∀ r, d ≤ r → r ≤ a.length → x.getD r [] = trow a b r) → (∀ r, r < d → (x.getD r []).length = b.length + 1 ∧ (x.getD r []).getD b.length 0 = 0) →
    spec_l3Table.l16 a b x ((d : Int) - 1) = some (tbl a b) := by
  intro d
  induction d with
  | zero =>
    intro x hd h1 h2 hz
    rw [spec_l3Table.l16_eq, bifF (by omega), tbl_eq a b x h1 (fun r hr => h2 r (Nat.zero_le _) hr)]
  | succ d ih =>
    intro x hd h1 h2 hz
    have e0 : ((d + 1 : Nat) : Int) - 1 = (d : Int) := by omega
    have hw : w64 ((b.length : Int) - 1) = (b.length : Int) - 1 := w64_id (by omega) (by omega)
    rw [e0, spec_l3Table.l16_eq, bifT (by omega), hw]
    refine sT_l2 a b ha hb _ d (by omega) (fun y hy hyz => ?_) b.length x (Nat.le_refl _) ⟨h1, fun r hr hr2 => h2 r (by omega) hr2, (hz d (by omega)).1, fun c hc hc2 => ?_⟩ (fun r hr => hz r (by omega))
    · exact ih y (by omega) hy.1 (fun r hr hr2 => inv_row a b hy r hr hr2) hyz
    · have e : c = b.length := by omega
      subst e
      rw [(hz d (by omega)).2, tv_j (Nat.le_refl _)]; rfl
theorem sTable : spec_l3Table.f a b = some (tbl a b) := by
  have w1 : w64 ((a.length : Int) + 1) = ((a.length + 1 : Nat) : Int) := up1 (by omega)
  have w2 : w64 ((b.length : Int) + 1) = ((b.length + 1 : Nat) : Int) := up1 (by omega)
  have w3 : w64 ((a.length : Int) - 1) = (a.length : Int) - 1 := w64_id (by omega) (by omega)
  have key : ∀ i, i ≤ a.length + 1 → ∀ x : Tb, x.length = a.length + 1 → (∀ r, r < i → x.getD r [] = List.replicate (b.length + 1) 0) → spec_l3Table.l6 a b x ((a.length + 1 : Nat) : Int) (i : Int) = some (tbl a b) := by
    apply downTo
    · intro x h1 h2
      rw [spec_l3Table.l6_eq, bifF (by omega), w3]
      refine sT_l1 a b ha hb a.length x (Nat.le_refl _) h1 (fun r hr hr2 => ?_) (fun r hr => ?_)
      · have e : r = a.length := by omega
        subst e
        rw [h2 _ (by omega)]
        refine row_eq a b _ _ (by simp) (fun c hc => ?_)
        rw [zeros_get, tv_i (Nat.le_refl _)]; rfl
      · rw [h2 r (by omega)]
        exact ⟨by simp, zeros_get _ _⟩
    · intro i hi ih x h1 h2
      have hi1 := up1 (i := i) (by omega)
      rw [spec_l3Table.l6_eq]
      simp only [w2, hi1, Int.toNat_natCast, room8]
      rw [bifT (by omega), bif2T (by omega) (by omega), bif2T (by omega) (by omega)]
      refine ih _ (by rw [List.length_set]; exact h1) fun r hr => ?_
      by_cases e : r = i
      · subst e; exact set_same (by omega) _ _
      · rw [set_else (by omega)]; exact h2 r (by omega)
  rw [spec_l3Table.f_eq]
  simp only [w1, Int.toNat_natCast, room24, List.length_replicate]
  rw [bif2T (by omega) (by omega)]
  exact key 0 (by omega) _ (by simp) (fun r hr => absurd hr (Nat.not_lt_zero r))
theorem iT_l1 (R : Tb) (i : Nat) (hi : i < a.length) (k : ∀ x : Tb, RowInv a b x i 0 → impl_common.l8 a b x ((i : Int) - 1) = some R) :
    ∀ (j : Nat) (x : Tb), j ≤ b.length → RowInv a b x i j → impl_common.l16 a b x (i : Int) ((j : Int) - 1) = some R := by
  intro j
  induction j with
  | zero =>
    intro x hj h
    have hw : w64 ((i : Int) - 1) = (i : Int) - 1 := w64_id (by omega) (by omega)
    rw [impl_common.l16_eq, bifF (by omega), hw]
    exact k x h
  | succ j ih =>
    intro x hj h
    have e0 : ((j + 1 : Nat) : Int) - 1 = (j : Int) := by omega
    rw [e0]
    have fin : impl_common.l16 a b (x.set i ((x.getD i []).set j (tv a b i j : Int))) (i : Int) ((j : Int) - 1) = some R := ih _ (by omega) (inv_put a b h (by omega) (by omega))
    obtain ⟨h1, h2, h3, h4⟩ := h
    have hi1 : w64 ((i : Int) + 1) = ((i + 1 : Nat) : Int) := up1 (by omega)
    have hj1 : w64 ((j : Int) + 1) = ((j + 1 : Nat) : Int) := up1 (by omega)
    have hj2 : w64 ((j : Int) - 1) = (j : Int) - 1 := w64_id (by omega) (by omega)
    have hrow := h2 (i + 1) (by omega) (by omega)
    have g1 : (trow a b (i + 1)).getD j 0 = (tv a b (i + 1) j : Int) := trow_get a b (i + 1) (by omega)
    have g2 : (trow a b (i + 1)).getD (j + 1) 0 = (tv a b (i + 1) (j + 1) : Int) := trow_get a b (i + 1) (by omega)
    have g3 := h4 (j + 1) (by omega) (by omega)
    have hl := trow_len a b (i + 1)
    have hb1 := tv_le a b (i + 1) (j + 1)
    have hv : w64 ((tv a b (i + 1) (j + 1) : Int) + 1) = (tv a b (i + 1) (j + 1) : Int) + 1 := w64_id (by omega) (by omega)
    have hs := tv_step (a := a) (b := b) (i := i) (j := j) (by omega) (by omega)
    rw [impl_common.l16_eq]
    simp only [hi1, hj1, hj2, Int.toNat_natCast, toList_beq, hrow, g1, g2, g3, hv, hl]
    clear hi1 hj1 hj2
    simp (disch := omega) only [bifT, bif2T]
    by_cases e : a.getD i em = b.getD j em
    · rw [if_pos e] at hs
      rw [bifT e, show (tv a b (i + 1) (j + 1) : Int) + 1 = (tv a b i j : Int) by omega]
      exact fin
    · rw [if_neg e] at hs
      rw [bifF e, show max (tv a b (i + 1) j : Int) (tv a b i (j + 1) : Int) = (tv a b i j : Int) by omega]
      exact fin
theorem iT_l0 : ∀ (d : Nat) (x : Tb), d ≤ a.length → x.length = a.length + 1 → (∀ r, d ≤ r → r ≤ a.length → x.getD r [] = trow a b r) → impl_common.l8 a b x ((d : Int) - 1) = some (tbl a b) := by
  intro d
  induction d with
  | zero =>
    intro x hd h1 h2
    rw [impl_common.l8_eq, bifF (by omega), tbl_eq a b x h1 (fun r hr => h2 r (Nat.zero_le _) hr)]
  | succ d ih =>
    intro x hd h1 h2
    have e0 : ((d + 1 : Nat) : Int) - 1 = (d : Int) := by omega
    have hw : w64 ((b.length : Int) - 1) = (b.length : Int) - 1 := w64_id (by omega) (by omega)
    have w2 : w64 ((b.length : Int) + 1) = ((b.length + 1 : Nat) : Int) := up1 (by omega)
    have hs : (x.set d (List.replicate (b.length + 1) (0 : Int))).getD d [] = List.replicate (b.length + 1) 0 := set_same (by omega) _ _
    rw [e0, impl_common.l8_eq]
    simp only [hw, w2, Int.toNat_natCast, room8]
    rw [bifT (by omega), bif2T (by omega) (by omega), bif2T (by omega) (by omega)]
    refine iT_l1 a b ha hb _ d (by omega) (fun y hy => ?_) b.length _ (Nat.le_refl _) ⟨by rw [List.length_set]; exact h1, fun r hr hr2 => ?_, by rw [hs]; simp, fun c hc hc2 => ?_⟩
    · exact ih y (by omega) hy.1 (fun r hr hr2 => inv_row a b hy r hr hr2)
    · rw [set_else (by omega)]; exact h2 r (by omega) hr2
    · have e : c = b.length := by omega
      subst e
      rw [hs, zeros_get, tv_j (Nat.le_refl _)]; rfl
theorem iTable : impl_common.f a b = some (tbl a b) := by
  have w1 : w64 ((a.length : Int) + 1) = ((a.length + 1 : Nat) : Int) := up1 (by omega)
  have w2 : w64 ((b.length : Int) + 1) = ((b.length + 1 : Nat) : Int) := up1 (by omega)
  have w3 : w64 ((a.length : Int) - 1) = (a.length : Int) - 1 := w64_id (by omega) (by omega)
  rw [impl_common.f_eq]
  simp only [w1, w2, w3, Int.toNat_natCast, List.length_replicate, room8, room24]
  rw [bif2T (by omega) (by omega), bif2T (by omega) (by omega), bif2T (by omega) (by omega)]
  refine iT_l0 a b ha hb a.length _ (Nat.le_refl _) (by rw [List.length_set, List.length_replicate]) (fun r hr hr2 => ?_)
  have e : r = a.length := by omega
  subst e
  rw [set_same (by rw [List.length_replicate]; omega)]
  refine row_eq a b _ _ (by simp) (fun c hc => ?_)
  rw [zeros_get, tv_i (Nat.le_refl _)]; rfl
end
end Go.Abs.GE
set_option linter.unusedVariables false
set_option linter.unusedSimpArgs false
/-! The least pairs of places of a longest common part, by both. -/
namespace Go.Abs.GE
open Go Go.Abs

abbrev P2 := Int × Int
def cvS (l : List (Nat × Nat)) : List P2 := l.map fun p => ((p.1 : Int), (p.2 : Int))
def cvI (l : List (Nat × Nat)) : Tb := l.map fun p => [(p.1 : Int), (p.2 : Int)]
theorem tb_row (a b : T) {i : Nat} (h : i ≤ a.length) : (tbl a b).getD i [] = trow a b i := tbl_get a b h
theorem tb_at (a b : T) {i j : Nat} (h : i ≤ a.length) (h2 : j ≤ b.length) : ((tbl a b).getD i []).getD j 0 = (tv a b i j : Int) := by
  rw [tb_row a b h]; exact trow_get a b i h2
section
variable (a b : T) (ha : a.length ≤ 1000) (hb : b.length ≤ 1000) (i j : Nat) (hi : i ≤ a.length) (hj : j ≤ b.length) (acc : List P2) (R : List P2)
include ha hb hi hj
theorem sp_end (r c : Nat) (hr : i ≤ r) (hr2 : r < a.length) (x y : Int) (h : c < j ∨ c = j) (k : spec_l3Pairs.l14 a b (tbl a b) acc (i : Int) (j : Int) x y ((r : Int) - 1) = some R) :
    spec_l3Pairs.l20 a b (tbl a b) acc (i : Int) (j : Int) x y (r : Int) ((c : Int) - 1) = some R := by
  have _ := hb
  have _ := hi
  have _ := hj
  have hw : w64 ((r : Int) - 1) = (r : Int) - 1 := w64_id (by omega) (by omega)
  rw [spec_l3Pairs.l20_eq]
  rw [bifF (by omega), hw]
  exact k
theorem sp_step (r c : Nat) (hr : i ≤ r) (hr2 : r < a.length) (hc : j ≤ c) (hc2 : c < b.length) (x y : Int)
    (k1 : Mt a b i j r c → spec_l3Pairs.l20 a b (tbl a b) acc (i : Int) (j : Int) (r : Int) (c : Int) (r : Int) ((c : Int) - 1) = some R)
    (k0 : ¬ Mt a b i j r c → spec_l3Pairs.l20 a b (tbl a b) acc (i : Int) (j : Int) x y (r : Int) ((c : Int) - 1) = some R) :
    spec_l3Pairs.l20 a b (tbl a b) acc (i : Int) (j : Int) x y (r : Int) (((c + 1 : Nat) : Int) - 1) = some R := by
  have e0 : ((c + 1 : Nat) : Int) - 1 = (c : Int) := by omega
  rw [e0]
  have hr1 : w64 ((r : Int) + 1) = ((r + 1 : Nat) : Int) := up1 (by omega)
  have hc1 : w64 ((c : Int) + 1) = ((c + 1 : Nat) : Int) := up1 (by omega)
  have hc3 : w64 ((c : Int) - 1) = (c : Int) - 1 := w64_id (by omega) (by omega)
  have hb1 := tv_le a b (r + 1) (c + 1)
  have hv : w64 ((tv a b (r + 1) (c + 1) : Int) + 1) = (tv a b (r + 1) (c + 1) : Int) + 1 := w64_id (by omega) (by omega)
  have L1 := tbl_len a b
  have L2 := trow_len a b (r + 1)
  have L3 := trow_len a b i
  have g1 := trow_get a b (r + 1) (j := c + 1) (by omega)
  have g2 := trow_get a b i (j := j) hj
  rw [spec_l3Pairs.l20_eq]
  simp only [hr1, hc1, hc3, Int.toNat_natCast, toList_beq, tb_row a b (show r + 1 ≤ a.length by omega), tb_row a b hi, g1, g2, hv, L1, L2, L3]
  clear hr1 hc1 hc3 hv
  simp (disch := omega) only [bifT, bif2T]
  by_cases e : a.getD r em = b.getD c em
  · rw [bifT e]
    by_cases m : tv a b (r + 1) (c + 1) + 1 = tv a b i j
    · rw [bifT (by omega)]; exact k1 ⟨e, m⟩
    · rw [bifF (by omega)]; exact k0 (fun h => m h.2)
  · rw [bifF e]; exact k0 (fun h => e h.1)
theorem sp_any (r : Nat) (hr : i ≤ r) (hr2 : r < a.length) (k : ∀ x y, spec_l3Pairs.l14 a b (tbl a b) acc (i : Int) (j : Int) x y ((r : Int) - 1) = some R) :
    ∀ (c : Nat), c ≤ b.length → ∀ x y, spec_l3Pairs.l20 a b (tbl a b) acc (i : Int) (j : Int) x y (r : Int) ((c : Int) - 1) = some R := by
  intro c
  induction c with
  | zero => intro hc x y; exact sp_end a b ha hb i j hi hj acc R r 0 hr hr2 x y (by omega) (k x y)
  | succ c ih =>
    intro hc x y
    by_cases g : j ≤ c
    · exact sp_step a b ha hb i j hi hj acc R r c hr hr2 g (by omega) x y (fun _ => ih (by omega) _ _) (fun _ => ih (by omega) _ _)
    · exact sp_end a b ha hb i j hi hj acc R r (c + 1) hr hr2 x y (by omega) (k x y)
theorem sp_no (r : Nat) (hr : i ≤ r) (hr2 : r < a.length) (x y : Int) (k : spec_l3Pairs.l14 a b (tbl a b) acc (i : Int) (j : Int) x y ((r : Int) - 1) = some R) :
    ∀ (c : Nat), c ≤ b.length → (∀ q, j ≤ q → q < c → ¬ Mt a b i j r q) → spec_l3Pairs.l20 a b (tbl a b) acc (i : Int) (j : Int) x y (r : Int) ((c : Int) - 1) = some R := by
  intro c
  induction c with
  | zero => intro hc hn; exact sp_end a b ha hb i j hi hj acc R r 0 hr hr2 x y (by omega) k
  | succ c ih =>
    intro hc hn
    by_cases g : j ≤ c
    · exact sp_step a b ha hb i j hi hj acc R r c hr hr2 g (by omega) x y (fun h => absurd h (hn c g (by omega))) (fun _ => ih (by omega) (fun q h1 h2 => hn q h1 (by omega)))
    · exact sp_end a b ha hb i j hi hj acc R r (c + 1) hr hr2 x y (by omega) k
theorem sp_l1 (r : Nat) (hr : i ≤ r) (hr2 : r < a.length) (x y : Int) (k : spec_l3Pairs.l20 a b (tbl a b) acc (i : Int) (j : Int) x y (r : Int) ((b.length : Int) - 1) = some R) :
    spec_l3Pairs.l14 a b (tbl a b) acc (i : Int) (j : Int) x y (((r + 1 : Nat) : Int) - 1) = some R := by
  have _ := ha
  have _ := hi
  have _ := hj
  have e0 : ((r + 1 : Nat) : Int) - 1 = (r : Int) := by omega
  rw [e0]
  have hw : w64 ((b.length : Int) - 1) = (b.length : Int) - 1 := w64_id (by omega) (by omega)
  rw [spec_l3Pairs.l14_eq, bifT (by omega), hw]
  exact k
theorem sp_pair (p q : Nat) (hL : Lst a b i j p q) (hacc : acc.length ≤ 100000) (k : spec_l3Pairs.l8 a b (tbl a b) (acc ++ [((p : Int), (q : Int))]) ((p + 1 : Nat) : Int) ((q + 1 : Nat) : Int) = some R) :
    spec_l3Pairs.l8 a b (tbl a b) acc (i : Int) (j : Int) = some R := by
  obtain ⟨hip, hpa, hjq, hqb, hm, hrow, hcol⟩ := hL
  have st3 : ∀ d, d ≤ p → i ≤ d → spec_l3Pairs.l14 a b (tbl a b) acc (i : Int) (j : Int) (p : Int) (q : Int) ((d : Int) - 1) = some R := by
    intro d
    induction d with
    | zero =>
      intro h1 h2
      have hp1 := up1 (i := p) (by omega)
      have hq1 := up1 (i := q) (by omega)
      rw [spec_l3Pairs.l14_eq]
      simp only [hp1, hq1, room16]
      rw [bifF (by omega), bifT (by simp; omega)]
      exact k
    | succ d ih =>
      intro h1 h2
      by_cases g : i ≤ d
      · exact sp_l1 a b ha hb i j hi hj acc R d g (by omega) _ _ (sp_no a b ha hb i j hi hj acc R d g (by omega) _ _ (ih (by omega) g) b.length (Nat.le_refl _) (fun q' h3 h4 => hrow d q' g (by omega) h3 h4))
      · have hp1 := up1 (i := p) (by omega)
        have hq1 := up1 (i := q) (by omega)
        rw [spec_l3Pairs.l14_eq]
        simp only [hp1, hq1, room16]
        rw [bifF (by omega), bifT (by simp; omega)]
        exact k
  have st2 : ∀ c, q + 1 ≤ c → c ≤ b.length → ∀ x y, spec_l3Pairs.l20 a b (tbl a b) acc (i : Int) (j : Int) x y (p : Int) ((c : Int) - 1) = some R := by
    intro c
    induction c with
    | zero => intro h1; omega
    | succ c ih =>
      intro h1 h2 x y
      by_cases g : c = q
      · subst g
        exact sp_step a b ha hb i j hi hj acc R p c hip hpa hjq hqb x y (fun _ => sp_no a b ha hb i j hi hj acc R p hip hpa _ _ (st3 p (Nat.le_refl _) hip) c (by omega) (fun q' h3 h4 => hcol q' h3 h4)) (fun h => absurd hm h)
      · exact sp_step a b ha hb i j hi hj acc R p c hip hpa (by omega) (by omega) x y (fun _ => ih (by omega) (by omega) _ _) (fun _ => ih (by omega) (by omega) _ _)
  have st1 : ∀ d, p + 1 ≤ d → d ≤ a.length → ∀ x y, spec_l3Pairs.l14 a b (tbl a b) acc (i : Int) (j : Int) x y ((d : Int) - 1) = some R := by
    intro d
    induction d with
    | zero => intro h1; omega
    | succ d ih =>
      intro h1 h2 x y
      by_cases g : d = p
      · subst g
        exact sp_l1 a b ha hb i j hi hj acc R d hip hpa x y (st2 b.length (by omega) (Nat.le_refl _) x y)
      · exact sp_l1 a b ha hb i j hi hj acc R d (by omega) (by omega) x y (sp_any a b ha hb i j hi hj acc R d (by omega) (by omega) (fun x y => ih (by omega) (by omega) x y) b.length (Nat.le_refl _) x y)
  have hw : w64 ((a.length : Int) - 1) = (a.length : Int) - 1 := w64_id (by omega) (by omega)
  have L1 := tbl_len a b
  have L3 := trow_len a b i
  have hpos : 0 < tv a b i j := by have := hm.2; omega
  have g2 := trow_get a b i (j := j) hj
  rw [spec_l3Pairs.l8_eq]
  simp only [hw, Int.toNat_natCast, tb_row a b hi, g2, L1, L3]
  rw [bif2T (by omega) (by omega), bif2T (by omega) (by omega), bifT (by omega)]
  exact st1 a.length (by omega) (Nat.le_refl _) _ _
end
theorem sPairs (a b : T) (ha : a.length ≤ 1000) (hb : b.length ≤ 1000) : ∀ (l : List (Nat × Nat)) (i j : Nat) (acc : List P2), i ≤ a.length → j ≤ b.length → acc.length + l.length ≤ 10000 → PR a b i j l →
    spec_l3Pairs.l8 a b (tbl a b) acc (i : Int) (j : Int) = some (acc ++ cvS l) := by
  intro l
  induction l with
  | nil =>
    intro i j acc hi hj hl h
    have h0 : tv a b i j = 0 := h
    have L1 := tbl_len a b
    have L3 := trow_len a b i
    have g2 := trow_get a b i (j := j) hj
    rw [spec_l3Pairs.l8_eq]
    simp only [Int.toNat_natCast, tb_row a b hi, g2, L1, L3]
    rw [bif2T (by omega) (by omega), bif2T (by omega) (by omega), bifF (by omega)]
    simp [cvS]
  | cons p l ih =>
    obtain ⟨p, q⟩ := p
    intro i j acc hi hj hl h
    rw [List.length_cons] at hl
    have h1 := h.1.hpa
    have h2 := h.1.hqb
    refine sp_pair a b ha hb i j hi hj acc _ p q h.1 (by omega) ?_
    rw [ih (p + 1) (q + 1) (acc ++ [((p : Int), (q : Int))]) (by omega) (by omega) (by simp; omega) h.2, List.append_assoc]; rfl
/-! ### by the program -/
section
variable (a b : T) (ha : a.length ≤ 1000) (hb : b.length ≤ 1000) (i j : Nat) (hi : i ≤ a.length) (hj : j ≤ b.length) (acc : Tb) (R : Tb)
include ha hb hi hj
theorem ip_step (r c : Nat) (hr : i ≤ r) (hr2 : r < a.length) (hc : j ≤ c) (hc2 : c < b.length) (hpos : 0 < tv a b i j) (hacc : acc.length ≤ 100000)
    (k1 : Mt a b i j r c → impl_commonLines.l8 a b (tbl a b) (acc ++ [[(r : Int), (c : Int)]]) ((c + 1 : Nat) : Int) ((tv a b i j : Int) - 1) (a.length : Int) ((r + 1 : Nat) : Int) = some R)
    (k0 : ¬ Mt a b i j r c → impl_commonLines.l14 a b (tbl a b) acc (j : Int) (tv a b i j : Int) (r : Int) ((c + 1 : Nat) : Int) (a.length : Int) (r : Int) = some R) :
    impl_commonLines.l14 a b (tbl a b) acc (j : Int) (tv a b i j : Int) (r : Int) (c : Int) (a.length : Int) (r : Int) = some R := by
  have _ := hi
  have _ := hj
  have hr1 : w64 ((r : Int) + 1) = ((r + 1 : Nat) : Int) := up1 (by omega)
  have hc1 : w64 ((c : Int) + 1) = ((c + 1 : Nat) : Int) := up1 (by omega)
  have hb1 := tv_le a b i j
  have hv : w64 ((tv a b i j : Int) - 1) = (tv a b i j : Int) - 1 := w64_id (by omega) (by omega)
  have L1 := tbl_len a b
  have L2 := trow_len a b (r + 1)
  have g1 := trow_get a b (r + 1) (j := c + 1) (by omega)
  rw [impl_commonLines.l14_eq, bifT (by omega), bifT (by omega), impl_commonLines.l19_eq]
  simp only [hr1, hc1, hv, Int.toNat_natCast, toList_beq, tb_row a b (show r + 1 ≤ a.length by omega), g1, L1, L2, room24]
  clear hr1 hc1 hv
  rw [bif2T (by omega) (by omega), bif2T (by omega) (by omega)]
  by_cases e : a.getD r em = b.getD c em
  · rw [bifT e, bif2T (by omega) (by omega), bif2T (by omega) (by omega)]
    by_cases m : tv a b (r + 1) (c + 1) + 1 = tv a b i j
    · rw [bifT (by omega), bifT (by simp; omega)]; exact k1 ⟨e, m⟩
    · rw [bifF (by omega)]; exact k0 (fun h => m h.2)
  · rw [bifF e]; exact k0 (fun h => e h.1)
theorem ip_next (r : Nat) (hr2 : r < a.length) (k : impl_commonLines.l8 a b (tbl a b) acc (j : Int) (tv a b i j : Int) (a.length : Int) ((r + 1 : Nat) : Int) = some R) :
    impl_commonLines.l14 a b (tbl a b) acc (j : Int) (tv a b i j : Int) (r : Int) (b.length : Int) (a.length : Int) (r : Int) = some R := by
  have _ := hb
  have _ := hi
  have _ := hj
  have hr1 : w64 ((r : Int) + 1) = ((r + 1 : Nat) : Int) := up1 (by omega)
  rw [impl_commonLines.l14_eq, bifF (by omega), hr1]; exact k
theorem ip_no (r : Nat) (hr : i ≤ r) (hr2 : r < a.length) (hpos : 0 < tv a b i j) (hacc : acc.length ≤ 100000) (k : impl_commonLines.l8 a b (tbl a b) acc (j : Int) (tv a b i j : Int) (a.length : Int) ((r + 1 : Nat) : Int) = some R)
    (hn : ∀ q, j ≤ q → q < b.length → ¬ Mt a b i j r q) : ∀ (d c : Nat), b.length - c = d → j ≤ c → c ≤ b.length → impl_commonLines.l14 a b (tbl a b) acc (j : Int) (tv a b i j : Int) (r : Int) (c : Int) (a.length : Int) (r : Int) = some R := by
  intro d
  induction d with
  | zero =>
    intro c hd h1 h2
    obtain rfl : c = b.length := by omega
    exact ip_next a b ha hb i j hi hj acc R r hr2 k
  | succ d ih =>
    intro c hd h1 h2
    exact ip_step a b ha hb i j hi hj acc R r c hr hr2 h1 (by omega) hpos hacc (fun h => absurd h (hn c h1 (by omega))) (fun _ => ih (c + 1) (by omega) (by omega) (by omega))
theorem ip_hit (p q : Nat) (hL : Lst a b i j p q) (hpos : 0 < tv a b i j) (hacc : acc.length ≤ 100000)
    (k : impl_commonLines.l8 a b (tbl a b) (acc ++ [[(p : Int), (q : Int)]]) ((q + 1 : Nat) : Int) ((tv a b i j : Int) - 1) (a.length : Int) ((p + 1 : Nat) : Int) = some R) :
    ∀ (d c : Nat), q - c = d → j ≤ c → c ≤ q → impl_commonLines.l14 a b (tbl a b) acc (j : Int) (tv a b i j : Int) (p : Int) (c : Int) (a.length : Int) (p : Int) = some R := by
  intro d
  have h5 := hL.hqb
  induction d with
  | zero =>
    intro c hd h1 h2
    obtain rfl : c = q := by omega
    exact ip_step a b ha hb i j hi hj acc R p c hL.hip hL.hpa h1 h5 hpos hacc (fun _ => k) (fun h => absurd hL.hm h)
  | succ d ih =>
    intro c hd h1 h2
    exact ip_step a b ha hb i j hi hj acc R p c hL.hip hL.hpa h1 (by omega) hpos hacc (fun h => absurd h (hL.hcol c h1 (by omega))) (fun _ => ih (c + 1) (by omega) (by omega) (by omega))
theorem ip_rows (p q : Nat) (hL : Lst a b i j p q) (hpos : 0 < tv a b i j) (hacc : acc.length ≤ 100000)
    (k : impl_commonLines.l8 a b (tbl a b) (acc ++ [[(p : Int), (q : Int)]]) ((q + 1 : Nat) : Int) ((tv a b i j : Int) - 1) (a.length : Int) ((p + 1 : Nat) : Int) = some R) :
    ∀ (d r : Nat), p - r = d → i ≤ r → r ≤ p → impl_commonLines.l8 a b (tbl a b) acc (j : Int) (tv a b i j : Int) (a.length : Int) (r : Int) = some R := by
  intro d
  have h5 := hL.hpa
  have h6 := hL.hjq
  induction d with
  | zero =>
    intro r hd h1 h2
    obtain rfl : r = p := by omega
    rw [impl_commonLines.l8_eq, bifT (by omega)]
    exact ip_hit a b ha hb i j hi hj acc R r q hL hpos hacc k (q - j) j rfl (Nat.le_refl _) h6
  | succ d ih =>
    intro r hd h1 h2
    rw [impl_commonLines.l8_eq, bifT (by omega)]
    exact ip_no a b ha hb i j hi hj acc R r h1 (by omega) hpos hacc (ih (r + 1) (by omega) (by omega) (by omega)) (fun q' h3 h4 => hL.hrow r q' h1 (by omega) h3 h4) (b.length - j) j rfl (Nat.le_refl _) hj
theorem ip_zero (h0 : tv a b i j = 0) : ∀ (d r : Nat), a.length - r = d → r ≤ a.length → impl_commonLines.l8 a b (tbl a b) acc (j : Int) (tv a b i j : Int) (a.length : Int) (r : Int) = some acc := by
  have _ := hb
  have _ := hi
  have _ := hj
  intro d
  induction d with
  | zero =>
    intro r hd h1
    rw [impl_commonLines.l8_eq]
    rw [bifF (by omega)]
  | succ d ih =>
    intro r hd h1
    have hr1 : w64 ((r : Int) + 1) = ((r + 1 : Nat) : Int) := up1 (by omega)
    have h := ih (r + 1) (by omega) (by omega)
    rw [impl_commonLines.l8_eq, bifT (by omega), impl_commonLines.l14_eq]
    by_cases hjb : (j : Int) < (b.length : Int)
    · rw [bifT hjb, bifF (by omega), hr1]; exact h
    · rw [bifF hjb, hr1]; exact h
end
theorem iPairs (a b : T) (ha : a.length ≤ 1000) (hb : b.length ≤ 1000) : ∀ (l : List (Nat × Nat)) (i j : Nat) (acc : Tb), i ≤ a.length → j ≤ b.length → acc.length + l.length ≤ 10000 → PR a b i j l →
    impl_commonLines.l8 a b (tbl a b) acc (j : Int) (tv a b i j : Int) (a.length : Int) (i : Int) = some (acc ++ cvI l) := by
  intro l
  induction l with
  | nil =>
    intro i j acc hi hj hl h
    rw [ip_zero a b ha hb i j hi hj acc h (a.length - i) i rfl hi]; simp [cvI]
  | cons p l ih =>
    obtain ⟨p, q⟩ := p
    intro i j acc hi hj hl h
    rw [List.length_cons] at hl
    have h1 := h.1.hpa
    have h2 := h.1.hqb
    have h3 := h.1.hm.2
    have kk := ih (p + 1) (q + 1) (acc ++ [[(p : Int), (q : Int)]]) (by omega) (by omega) (by simp; omega) h.2
    rw [show (tv a b (p + 1) (q + 1) : Int) = (tv a b i j : Int) - 1 by omega] at kk
    rw [ip_rows a b ha hb i j hi hj acc _ p q h.1 (by omega) (by omega) kk (p - i) i rfl (Nat.le_refl _) h.1.hip, List.append_assoc]; rfl
theorem pairs_both (a b : T) (ha : a.length ≤ 1000) (hb : b.length ≤ 1000) : ∃ l, PR a b 0 0 l ∧ l.length ≤ 1000 ∧ spec_l3Pairs.f a b = some (cvS l) ∧ impl_commonLines.f a b = some (cvI l) := by
  obtain ⟨l, hl, hn⟩ := ex_PR a b a.length 0 0 (by omega)
  refine ⟨l, hl, by omega, ?_, ?_⟩
  · rw [spec_l3Pairs.f_eq, sTable a b ha hb, sB]
    have := sPairs a b ha hb l 0 0 [] (by omega) (by omega) (by simp; omega) hl
    simpa using this
  · have L1 := tbl_len a b
    have L2 := trow_len a b 0
    have e1 : (tbl a b).getD 0 [] = trow a b 0 := tb_row a b (Nat.zero_le _)
    have e2 : (trow a b 0).getD 0 0 = (tv a b 0 0 : Int) := trow_get a b 0 (Nat.zero_le _)
    rw [impl_commonLines.f_eq, iTable a b ha hb, sB, e1, e2, bifT (by omega), bifT (by omega)]
    have := iPairs a b ha hb l 0 0 [] (by omega) (by omega) (by simp; omega) hl
    simpa using this
end Go.Abs.GE
set_option linter.unusedVariables false
set_option linter.unusedSimpArgs false
/-! The hunks between two lists of lines, by both. -/
namespace Go.Abs.GE
open Go Go.Abs

theorem ownT (l : T) (h : l.length ≤ 1048576) : spec_l1OwnT.f l = some l := by
  rw [spec_l1OwnT.f_eq, room16, bifT (by simp; omega), List.nil_append]
theorem cloneT (l : T) (h : l.length ≤ 1048576) : slices_Clone_string_string.f l = some l := by
  show clone1 16 l = _
  rw [clone1, room16, bifT (by omega)]
theorem cloneI (l : Tb) (h : l.length ≤ 1048576) : slices_Clone_int_int.f l = some l := by
  show clone1 24 l = _
  rw [clone1, room24, bifT (by omega)]
/-- Hunks between pairs of places. -/
def jm (b : T) : Nat → Nat → List (Nat × Nat) → List Hk
  | _, _, [] => []
  | i, j, (p, q) :: l => (if i < p ∨ j < q then [((i : Int), (p : Int) - (i : Int), (b.take q).drop j)] else []) ++ jm b (p + 1) (q + 1) l
theorem jm_cons (b : T) (i j p q : Nat) (l : List (Nat × Nat)) : jm b i j ((p, q) :: l) = (if i < p ∨ j < q then [((i : Int), (p : Int) - (i : Int), (b.take q).drop j)] else []) ++ jm b (p + 1) (q + 1) l := rfl
theorem jm_bound (b : T) : ∀ (l : List (Nat × Nat)) (i j : Nat), (jm b i j l).length ≤ l.length ∧ ∀ h ∈ jm b i j l, h.2.2.length ≤ b.length
  | [], _, _ => ⟨Nat.le_refl _, fun h hh => by simp [jm] at hh⟩
  | (p, q) :: l, i, j => by
    obtain ⟨h1, h2⟩ := jm_bound b l (p + 1) (q + 1)
    rw [jm_cons]
    split
    · refine ⟨by simp; omega, fun h hh => ?_⟩
      simp only [List.singleton_append, List.mem_cons] at hh
      rcases hh with rfl | hh
      · simp only [List.length_drop, List.length_take]; omega
      · exact h2 h hh
    · refine ⟨by simp; omega, fun h hh => ?_⟩
      simp only [List.nil_append] at hh
      exact h2 h hh
theorem jm_mem (b : T) : ∀ (l : List (Nat × Nat)) (i j : Nat), ∀ h ∈ jm b i j l, ∀ s ∈ h.2.2, s ∈ b
  | [], _, _, h, hh => by simp [jm] at hh
  | (p, q) :: l, i, j, h, hh => by
    rw [jm_cons] at hh
    rcases List.mem_append.1 hh with hh | hh
    · split at hh
      · simp only [List.mem_singleton] at hh
        subst hh
        exact fun s hs => List.mem_of_mem_take (List.mem_of_mem_drop hs)
      · simp at hh
    · exact jm_mem b l _ _ h hh
def Ch (la lb : Nat) : Nat → Nat → List (Nat × Nat) → Prop
  | _, _, [] => True
  | i, j, (p, q) :: l => i ≤ p ∧ j ≤ q ∧ p ≤ la ∧ q ≤ lb ∧ Ch la lb (p + 1) (q + 1) l
theorem ch_of (a b : T) : ∀ (l : List (Nat × Nat)) (i j : Nat), i ≤ a.length → j ≤ b.length → PR a b i j l → Ch a.length b.length i j (l ++ [(a.length, b.length)]) := by
  intro l
  induction l with
  | nil => intro i j hi hj h; exact ⟨hi, hj, Nat.le_refl _, Nat.le_refl _, trivial⟩
  | cons p l ih =>
    obtain ⟨p, q⟩ := p
    intro i j hi hj h
    have h1 := h.1.hpa
    have h2 := h.1.hqb
    exact ⟨h.1.hip, h.1.hjq, by omega, by omega, ih (p + 1) (q + 1) (by omega) (by omega) h.2⟩
theorem cvS_get (pre : List (Nat × Nat)) (p q : Nat) (l : List (Nat × Nat)) : (cvS (pre ++ (p, q) :: l)).getD pre.length (0, 0) = ((p : Int), (q : Int)) := by
  unfold cvS
  simp [List.getD_eq_getElem?_getD]
theorem cvI_get (pre : List (Nat × Nat)) (p q : Nat) (l : List (Nat × Nat)) : (cvI (pre ++ (p, q) :: l)).getD pre.length [] = [(p : Int), (q : Int)] := by
  unfold cvI
  simp [List.getD_eq_getElem?_getD]
theorem cvS_len (l : List (Nat × Nat)) : (cvS l).length = l.length := by simp [cvS]
theorem cvI_len (l : List (Nat × Nat)) : (cvI l).length = l.length := by simp [cvI]
section
variable (b : T) (la : Nat) (hla : la ≤ 1000) (hb : b.length ≤ 1000) (full : List (Nat × Nat)) (hf : full.length ≤ 10000)
include hla hb hf
theorem sJoin_l0 : ∀ (rest pre : List (Nat × Nat)) (acc : List Hk) (i j : Nat), full = pre ++ rest → Ch la b.length i j rest → acc.length + rest.length ≤ 100000 → i ≤ la + 1 → j ≤ b.length + 1 →
    spec_l2Join.l8 b acc (i : Int) (j : Int) (cvS full) (full.length : Int) (pre.length : Int) = some (acc ++ jm b i j rest) := by
  intro rest
  induction rest with
  | nil =>
    intro pre acc i j hfull hc ha hi hj
    have e : full.length = pre.length := by rw [hfull]; simp
    rw [spec_l2Join.l8_eq, bifF (by omega)]
    simp [jm]
  | cons p rest ih =>
    obtain ⟨p, q⟩ := p
    intro pre acc i j hfull hc ha hi hj
    obtain ⟨h1, h2, h3, h4, hc⟩ := hc
    have e : full.length = pre.length + (rest.length + 1) := by rw [hfull]; simp
    rw [List.length_cons] at ha
    have hg := cvS_get pre p q rest
    rw [← hfull] at hg
    have nx : ∀ acc2 : List Hk, acc2.length ≤ acc.length + 1 → spec_l2Join.l17 b acc2 ((p : Int), (q : Int)) (cvS full) (full.length : Int) (pre.length : Int) = some (acc2 ++ jm b (p + 1) (q + 1) rest) := by
      intro acc2 h5
      have := ih (pre ++ [(p, q)]) acc2 (p + 1) (q + 1) (by rw [hfull, List.append_assoc]; rfl) hc (by omega) (by omega) (by omega)
      rw [List.length_append, List.length_singleton] at this
      rw [spec_l2Join.l17_eq]
      simp only
      rw [up1 (by omega), up1 (by omega), up1 (by omega)]
      exact this
    have ho := ownT ((b.take q).drop j) (by rw [List.length_drop, List.length_take]; omega)
    have hL := cvS_len full
    have w : w64 ((p : Int) - (i : Int)) = (p : Int) - (i : Int) := w64_id (by omega) (by omega)
    rw [spec_l2Join.l8_eq]
    simp only [Int.toNat_natCast, hg, w, hL, room40, ho, sB, List.length_append, List.length_singleton]
    rw [bifT (by omega), bif2T (by omega) (by omega)]
    by_cases c1 : i < p
    · rw [bifT (by omega), bif3T (by omega) (by omega) (by omega), bifT (by omega), nx _ (by simp), List.append_assoc, jm_cons, if_pos (Or.inl c1)]
    · rw [bifF (by omega)]
      by_cases c2 : j < q
      · rw [bifT (by omega), bif3T (by omega) (by omega) (by omega), bifT (by omega), nx _ (by simp), List.append_assoc, jm_cons, if_pos (Or.inr c2)]
      · rw [bifF (by omega), nx _ (by omega), jm_cons, if_neg (show ¬ (i < p ∨ j < q) by omega), List.nil_append]
theorem iJoin_l0 : ∀ (rest pre : List (Nat × Nat)) (acc : List Hk) (i j : Nat), full = pre ++ rest → Ch la b.length i j rest → acc.length + rest.length ≤ 100000 → i ≤ la + 1 → j ≤ b.length + 1 →
    impl_between.l6 b acc (i : Int) (j : Int) (cvI full) (full.length : Int) (pre.length : Int) = some (acc ++ jm b i j rest) := by
  intro rest
  induction rest with
  | nil =>
    intro pre acc i j hfull hc ha hi hj
    have e : full.length = pre.length := by rw [hfull]; simp
    rw [impl_between.l6_eq, bifF (by omega)]
    simp [jm]
  | cons p rest ih =>
    obtain ⟨p, q⟩ := p
    intro pre acc i j hfull hc ha hi hj
    obtain ⟨h1, h2, h3, h4, hc⟩ := hc
    have e : full.length = pre.length + (rest.length + 1) := by rw [hfull]; simp
    rw [List.length_cons] at ha
    have hg := cvI_get pre p q rest
    rw [← hfull] at hg
    have g0 : ([(p : Int), (q : Int)] : List Int).getD 0 0 = (p : Int) := rfl
    have g1 : ([(p : Int), (q : Int)] : List Int).getD 1 0 = (q : Int) := rfl
    have g2 : (([(p : Int), (q : Int)] : List Int).length : Int) = 2 := rfl
    have nx : ∀ acc2 : List Hk, acc2.length ≤ acc.length + 1 → impl_between.l15 b acc2 [(p : Int), (q : Int)] (cvI full) (full.length : Int) (pre.length : Int) = some (acc2 ++ jm b (p + 1) (q + 1) rest) := by
      intro acc2 h5
      have := ih (pre ++ [(p, q)]) acc2 (p + 1) (q + 1) (by rw [hfull, List.append_assoc]; rfl) hc (by omega) (by omega) (by omega)
      rw [List.length_append, List.length_singleton] at this
      rw [impl_between.l15_eq, g0, g1, g2, bifT (by omega), bifT (by omega), up1 (by omega), up1 (by omega), up1 (by omega)]
      exact this
    have ho := cloneT ((b.take q).drop j) (by rw [List.length_drop, List.length_take]; omega)
    have hL := cvI_len full
    have w : w64 ((p : Int) - (i : Int)) = (p : Int) - (i : Int) := w64_id (by omega) (by omega)
    rw [impl_between.l6_eq]
    simp only [Int.toNat_natCast, hg, g0, g1, g2, w, hL, room40, ho, sB, List.length_append, List.length_singleton]
    rw [bifT (by omega), bif2T (by omega) (by omega), bifT (by omega)]
    by_cases c1 : i < p
    · rw [bifT (by omega), bifT (by omega), bifT (by omega), bif3T (by omega) (by omega) (by omega), bifT (by omega), nx _ (by simp), List.append_assoc, jm_cons, if_pos (Or.inl c1)]
    · rw [bifF (by omega), bifT (by omega)]
      by_cases c2 : j < q
      · rw [bifT (by omega), bifT (by omega), bifT (by omega), bif3T (by omega) (by omega) (by omega), bifT (by omega), nx _ (by simp), List.append_assoc, jm_cons, if_pos (Or.inr c2)]
      · rw [bifF (by omega), nx _ (by omega), jm_cons, if_neg (show ¬ (i < p ∨ j < q) by omega), List.nil_append]
end
theorem diff_both (a b : T) (ha : a.length ≤ 1000) (hb : b.length ≤ 1000) : ∃ r : List Hk, spec_l3Diff.f a b = some r ∧ impl_diff.f a b = some r ∧ HkB r ∧ (∀ h ∈ r, ∀ s ∈ h.2.2, s ∈ b) ∧ r.length ≤ 1001 := by
  obtain ⟨l, hl, hn, hs, hi⟩ := pairs_both a b ha hb
  have hc := ch_of a b l 0 0 (by omega) (by omega) hl
  have hlen : (l ++ [(a.length, b.length)]).length = l.length + 1 := by simp
  have hf : (l ++ [(a.length, b.length)]).length ≤ 10000 := by omega
  have L1 := cvS_len l
  have L2 := cvI_len l
  have hj := jm_bound b (l ++ [(a.length, b.length)]) 0 0
  refine ⟨jm b 0 0 (l ++ [(a.length, b.length)]), ?_, ?_, ⟨by omega, fun h hh => Nat.le_trans (hj.2 h hh) (by omega)⟩, jm_mem b _ 0 0, by omega⟩
  · have e : cvS l ++ [((a.length : Int), (b.length : Int))] = cvS (l ++ [(a.length, b.length)]) := by simp [cvS]
    rw [spec_l3Diff.f_eq, hs, sB, spec_l2Join.f_eq, e, room16, bifT (by simp only [List.length_singleton]; omega), cvS_len]
    exact bindEq (sJoin_l0 b a.length ha hb _ hf (l ++ [(a.length, b.length)]) [] [] 0 0 rfl hc (by rw [List.length_nil]; omega) (by omega) (by omega)) rfl
  · have e : cvI l ++ [([(a.length : Int), (b.length : Int)] : List Int)] = cvI (l ++ [(a.length, b.length)]) := by simp [cvI]
    rw [impl_diff.f_eq, hi, sB, impl_between.f_eq, cloneI (cvI l) (by omega), sB, e, room24, bifT (by simp only [List.length_singleton]; omega), cvI_len]
    exact bindEq (iJoin_l0 b a.length ha hb _ hf (l ++ [(a.length, b.length)]) [] [] 0 0 rfl hc (by rw [List.length_nil]; omega) (by omega) (by omega)) rfl
end Go.Abs.GE
set_option linter.unusedVariables false
set_option linter.unusedSimpArgs false
/-! Good hunks, by both. -/
namespace Go.Abs.GE
open Go Go.Abs

/-- one hunk stands within -/
def okP (many : Int) (x : Hk) : Prop := 0 ≤ x.1 ∧ 0 ≤ x.2.1 ∧ x.1 + x.2.1 ≤ many
instance (many : Int) (x : Hk) : Decidable (okP many x) := by unfold okP; exact inferInstance
def oneB (many pe : Int) (x : Hk) : Bool := decide (okP many x ∧ ¬ (x.2.1 = 0 ∧ x.2.2.length = 0) ∧ x.2.2.length ≤ 40 ∧ pe < x.1) && allLines x.2.2
def hunksB (many : Int) : Int → List Hk → Bool
  | _, [] => true
  | pe, x :: r => oneB many pe x && hunksB many (x.1 + x.2.1) r
def peOf (h : List Hk) (i : Nat) : Int := if i = 0 then -1 else (h.getD (i - 1) hz).1 + (h.getD (i - 1) hz).2.1
/-- of a size that is let through -/
def HkSm (g : List Hk) : Prop := g.length ≤ 1048576 ∧ ∀ h ∈ g, Sm h.2.2
theorem pe_succ (h : List Hk) (i : Nat) : peOf h (i + 1) = (h.getD i hz).1 + (h.getD i hz).2.1 := by unfold peOf; rw [if_neg (by omega)]; rfl
theorem hB_step (many : Int) (h : List Hk) {i : Nat} (hi : i < h.length) : hunksB many (peOf h i) (h.drop i) = (oneB many (peOf h i) (h.getD i hz) && hunksB many (peOf h (i + 1)) (h.drop (i + 1))) := by
  rw [drop_at hi hz, pe_succ]; rfl

theorem sHunks (many : Int) (h : List Hk) (h0 : 0 ≤ many) (h1 : many ≤ 1048576) (hs : HkSm h) : spec_l2Hunks.f many h = some (hunksB many (-1) h && (decide (h.length ≤ 20) && decide (many ≤ 40))) := by
  have hL := hs.1
  have lines : ∀ (l : T), Sm l → ∀ (i : Nat) (R : Bool), i < h.length → spec_l2Hunks.l4 many h h (h.length : Int) ((i + 1 : Nat) : Int) = some R → ∀ k, k ≤ l.length → spec_l2Hunks.l14 many h h (h.length : Int) (i : Int) l (l.length : Int) (k : Int) = some (allLines (l.drop k) && R) := by
    intro l hl i R hi hR
    have hl1 := hl.1
    apply downTo
    · rw [spec_l2Hunks.l14_eq, bifF (by omega), up1 (by omega), hR, List.drop_eq_nil_of_le (by omega)]; rfl
    · intro k hk ih
      rw [spec_l2Hunks.l14_eq, bifT (by omega), bif2T (by omega) (by omega), up1 (i := k) (by omega)]
      simp only [Int.toNat_natCast]
      rw [sLine _ (hl.2 _ (getD_mem hk em)), sB, ih, drop_at hk em, allLines_cons]
      by_cases hp : lineP (l.getD k em)
      · rw [bifNF hp, decide_eq_true hp, Bool.true_and]
      · rw [bifNT hp, decide_eq_false hp, Bool.false_and, Bool.false_and]
  have key : ∀ i, i ≤ h.length → (0 < i → okP many (h.getD (i - 1) hz)) → spec_l2Hunks.l4 many h h (h.length : Int) (i : Int) = some (hunksB many (peOf h i) (h.drop i) && (decide (h.length ≤ 20) && decide (many ≤ 40))) := by
    apply downTo
    · intro _
      rw [spec_l2Hunks.l4_eq, bifF (by omega), List.drop_eq_nil_of_le (by omega)]
      show _ = some (true && _)
      rw [Bool.true_and]
      by_cases hl : h.length ≤ 20
      · rw [bifT (by omega), sIn, sB, decide_eq_true hl, Bool.true_and]
        congr 1; rw [decide_eq_decide]; omega
      · rw [bifF (by omega), decide_eq_false hl]; rfl
    · intro i hi ih hprev
      have hsm := hs.2 _ (getD_mem hi hz)
      have hsl := hsm.1
      rw [hB_step many h hi, spec_l2Hunks.l4_eq, bifT (by omega), bif2T (by omega) (by omega)]
      obtain ⟨⟨x1, x2, x3⟩, hx⟩ : ∃ x : Hk, h.getD i (0, 0, []) = x := ⟨_, rfl⟩
      simp only [Int.toNat_natCast, hx]
      rw [show h.getD i hz = (x1, x2, x3) from hx] at hsm hsl
      simp only at hsm hsl
      have fl : ∀ {P : Prop}, ¬ (okP many (x1, x2, x3) ∧ ¬ (x2 = 0 ∧ x3.length = 0) ∧ x3.length ≤ 40 ∧ peOf h i < x1) → some false = some (oneB many (peOf h i) (x1, x2, x3) && hunksB many (peOf h (i + 1)) (h.drop (i + 1)) && (decide (h.length ≤ 20) && decide (many ≤ 40))) := by
        intro P hn
        unfold oneB
        rw [decide_eq_false hn, Bool.false_and, Bool.false_and, Bool.false_and]
      by_cases c1 : x1 < 0
      · rw [bifT c1]; exact fl (P := True) (by unfold okP; simp only; omega)
      rw [bifF c1]
      by_cases c2 : x2 < 0
      · rw [bifT c2]; exact fl (P := True) (by unfold okP; simp only; omega)
      rw [bifF c2]
      by_cases c3 : x2 > many
      · rw [bifT c3]; exact fl (P := True) (by unfold okP; simp only; omega)
      rw [bifF c3, w64_id (x := many - x2) (by omega) (by omega)]
      by_cases c4 : x1 > many - x2
      · rw [bifT c4]; exact fl (P := True) (by unfold okP; simp only; omega)
      rw [bifF c4, w64_id (x := x2 + (x3.length : Int)) (by omega) (by omega)]
      by_cases c5 : x2 + (x3.length : Int) = 0
      · rw [bifT c5]; exact fl (P := True) (by omega)
      rw [bifF c5]
      by_cases c6 : (x3.length : Int) > 40
      · rw [bifT c6]; exact fl (P := True) (by omega)
      rw [bifF c6]
      have hok : okP many (x1, x2, x3) := by unfold okP; simp only; omega
      have nxt := ih (fun _ => by rw [Nat.add_sub_cancel, show h.getD i hz = (x1, x2, x3) from hx]; exact hok)
      have go : peOf h i < x1 → spec_l2Hunks.l13 many h (x1, x2, x3) h (h.length : Int) (i : Int) = some (oneB many (peOf h i) (x1, x2, x3) && hunksB many (peOf h (i + 1)) (h.drop (i + 1)) && (decide (h.length ≤ 20) && decide (many ≤ 40))) := by
        intro hp
        rw [spec_l2Hunks.l13_eq]
        have := lines x3 hsm i _ hi nxt 0 (by omega)
        rw [List.drop_zero] at this
        refine this.trans ?_
        unfold oneB
        rw [decide_eq_true (show okP many (x1, x2, x3) ∧ ¬ (x2 = 0 ∧ x3.length = 0) ∧ x3.length ≤ 40 ∧ peOf h i < x1 from ⟨hok, by omega, by omega, hp⟩), Bool.true_and, Bool.and_assoc]
      by_cases c7 : (i : Int) > 0
      · have hpr := hprev (by omega)
        unfold okP at hpr
        have hd : w64 ((i : Int) - 1) = ((i - 1 : Nat) : Int) := dn1 (by omega) (by omega)
        have hpe : peOf h i = (h.getD (i - 1) hz).1 + (h.getD (i - 1) hz).2.1 := by unfold peOf; rw [if_neg (by omega)]
        have hw9 : w64 ((h.getD (i - 1) ((0, 0, []) : Hk)).1 + (h.getD (i - 1) ((0, 0, []) : Hk)).2.1) = peOf h i := by
          show w64 ((h.getD (i - 1) hz).1 + (h.getD (i - 1) hz).2.1) = _
          rw [hpe]; exact w64_id (by omega) (by omega)
        simp only [hd, Int.toNat_natCast, hw9]
        rw [bifT c7, bif2T (by omega) (by omega), bif2T (by omega) (by omega)]
        by_cases c8 : x1 ≤ peOf h i
        · rw [bifT c8]; exact fl (P := True) (by omega)
        · rw [bifF c8]; exact go (by omega)
      · rw [bifF c7]
        have : i = 0 := by omega
        exact go (by unfold peOf; rw [if_pos this]; omega)
  rw [spec_l2Hunks.f_eq]
  exact key 0 (by omega) (fun h => absurd h (Nat.lt_irrefl 0))

theorem iHunks (many : Int) (h : List Hk) (h0 : 0 ≤ many) (h1 : many ≤ 1048576) (hs : HkSm h) : impl_goodHunks.f many h = some (hunksB many (-1) h && (decide (h.length ≤ 20) && decide (many ≤ 40))) := by
  have hL := hs.1
  have key : ∀ i, i ≤ h.length → (0 < i → okP many (h.getD (i - 1) hz)) → impl_goodHunks.l8 many h h (h.length : Int) (i : Int) = some (hunksB many (peOf h i) (h.drop i)) := by
    apply downTo
    · intro _
      rw [impl_goodHunks.l8_eq, bifF (by omega), List.drop_eq_nil_of_le (by omega)]; rfl
    · intro i hi ih hprev
      have hsm := hs.2 _ (getD_mem hi hz)
      have hsl := hsm.1
      rw [hB_step many h hi, impl_goodHunks.l8_eq, bifT (by omega), bif2T (by omega) (by omega)]
      obtain ⟨⟨x1, x2, x3⟩, hx⟩ : ∃ x : Hk, h.getD i (0, 0, []) = x := ⟨_, rfl⟩
      simp only [Int.toNat_natCast, hx]
      rw [show h.getD i hz = (x1, x2, x3) from hx] at hsm hsl
      simp only at hsm hsl
      have fl : ∀ {P : Prop}, ¬ (okP many (x1, x2, x3) ∧ ¬ (x2 = 0 ∧ x3.length = 0) ∧ x3.length ≤ 40 ∧ peOf h i < x1) → some false = some (oneB many (peOf h i) (x1, x2, x3) && hunksB many (peOf h (i + 1)) (h.drop (i + 1))) := by
        intro P hn
        unfold oneB
        rw [decide_eq_false hn, Bool.false_and, Bool.false_and]
      rw [iIn, sB]
      by_cases c1 : 0 ≤ x1 ∧ x1 ≤ many
      case neg => rw [bifNT c1]; exact fl (P := True) (by unfold okP; simp only; omega)
      rw [bifNF c1, w64_id (x := many - x1) (by omega) (by omega), iIn, sB]
      by_cases c2 : 0 ≤ x2 ∧ x2 ≤ many - x1
      case neg => rw [bifNT c2]; exact fl (P := True) (by unfold okP; simp only; omega)
      rw [bifNF c2, iAre _ hsm, sB]
      have hok : okP many (x1, x2, x3) := by unfold okP; simp only; omega
      have nxt := ih (fun _ => by rw [Nat.add_sub_cancel, show h.getD i hz = (x1, x2, x3) from hx]; exact hok)
      by_cases c6 : x3.length ≤ 40
      case neg => rw [decide_eq_false c6, Bool.false_and, notF]; exact fl (P := True) (by omega)
      rw [decide_eq_true c6, Bool.true_and]
      cases hal : allLines x3 with
      | false => rw [notF]; unfold oneB; rw [hal, Bool.and_false, Bool.false_and]
      | true =>
        rw [notT]
        have one : ∀ (hp : ¬ (x2 = 0 ∧ x3.length = 0)), impl_goodHunks.l17 many h (i : Int) (x1, x2, x3) h (h.length : Int) (i : Int) = some (oneB many (peOf h i) (x1, x2, x3) && hunksB many (peOf h (i + 1)) (h.drop (i + 1))) := by
          intro hp
          rw [impl_goodHunks.l17_eq]
          by_cases c7 : (i : Int) > 0
          · have hpr := hprev (by omega)
            unfold okP at hpr
            have hd : w64 ((i : Int) - 1) = ((i - 1 : Nat) : Int) := dn1 (by omega) (by omega)
            have hpe : peOf h i = (h.getD (i - 1) hz).1 + (h.getD (i - 1) hz).2.1 := by unfold peOf; rw [if_neg (by omega)]
            have hw9 : w64 ((h.getD (i - 1) ((0, 0, []) : Hk)).1 + (h.getD (i - 1) ((0, 0, []) : Hk)).2.1) = peOf h i := by
              show w64 ((h.getD (i - 1) hz).1 + (h.getD (i - 1) hz).2.1) = _
              rw [hpe]; exact w64_id (by omega) (by omega)
            simp only [hd, Int.toNat_natCast, hw9]
            rw [bifT c7, bif2T (by omega) (by omega), bif2T (by omega) (by omega)]
            by_cases c8 : x1 ≤ peOf h i
            · rw [bifT c8]; exact fl (P := True) (by omega)
            · rw [bifF c8, up1 (by omega), nxt]
              unfold oneB
              rw [hal, decide_eq_true (show okP many (x1, x2, x3) ∧ ¬ (x2 = 0 ∧ x3.length = 0) ∧ x3.length ≤ 40 ∧ peOf h i < x1 from ⟨hok, hp, c6, by omega⟩)]; rfl
          · have hi0 : i = 0 := by omega
            have hp2 : peOf h i < x1 := by unfold peOf; rw [if_pos hi0]; omega
            rw [bifF c7, up1 (by omega), nxt]
            unfold oneB
            rw [hal, decide_eq_true (show okP many (x1, x2, x3) ∧ ¬ (x2 = 0 ∧ x3.length = 0) ∧ x3.length ≤ 40 ∧ peOf h i < x1 from ⟨hok, hp, c6, hp2⟩)]; rfl
        by_cases c9 : x2 = 0
        · rw [bifT c9]
          by_cases c10 : (x3.length : Int) = 0
          · rw [bifT c10]; exact fl (P := True) (by omega)
          · rw [bifF c10]; exact one (by omega)
        · rw [bifF c9]; exact one (by omega)
  rw [impl_goodHunks.f_eq, iIn, sB]
  by_cases hm : 0 ≤ many ∧ many ≤ 40
  · rw [bifNF hm, decide_eq_true (show many ≤ 40 from hm.2), Bool.and_true]
    by_cases hl : (h.length : Int) > 20
    · rw [bifT hl, decide_eq_false (show ¬ h.length ≤ 20 by omega), Bool.and_false]
    · rw [bifF hl, decide_eq_true (show h.length ≤ 20 by omega), Bool.and_true, impl_goodHunks.l7_eq]
      exact key 0 (by omega) (fun h => absurd h (Nat.lt_irrefl 0))
  · rw [bifNT hm, decide_eq_false (show ¬ many ≤ 40 by omega), Bool.and_false, Bool.and_false]
end Go.Abs.GE
set_option linter.unusedVariables false
set_option linter.unusedSimpArgs false
/-! What both answer to DiffHunks. -/
namespace Go.Abs.GE
open Go Go.Abs

theorem sm_of {a : T} (h1 : a.length ≤ 1048576) (h2 : ∀ s ∈ a, s.size ≤ 1048576) : Sm a := ⟨h1, h2⟩
/-- what both answer -/
theorem diffs_both (a b : T) (ha : Sm a) (hb : Sm b) : ∃ r : List Hk × Bool, spec_DiffHunks.f a b = some r ∧ impl_DiffHunks.f a b = some r ∧ HkB r.1 ∧ r.1.length ≤ 1001 := by
  rw [spec_DiffHunks.f_eq, impl_DiffHunks.f_eq, sGood a ha, iGood a ha, sB, sB]
  cases ga : goodB a with
  | false => exact ⟨([], false), rfl, rfl, ⟨by simp, fun h hh => by simp at hh⟩, by simp⟩
  | true =>
    rw [notT, notT, sGood b hb, iGood b hb, sB, sB]
    cases gb : goodB b with
    | false => exact ⟨([], false), rfl, rfl, ⟨by simp, fun h hh => by simp at hh⟩, by simp⟩
    | true =>
      have la := good_len ga
      have lb := good_len gb
      obtain ⟨r, hs, hi, hB, hm, hlen⟩ := diff_both a b (by omega) (by omega)
      have hsm : HkSm r := ⟨hB.1, fun h hh => ⟨hB.2 h hh, fun s hs => hb.2 s (hm h hh s hs)⟩⟩
      rw [notT, notT, impl_DiffHunks.l7_eq, hs, hi, sB, sB, sHunks _ r (by omega) (by omega) hsm, iHunks _ r (by omega) (by omega) hsm, sB, sB]
      cases hk : (hunksB (a.length : Int) (-1) r && (decide (r.length ≤ 20) && decide ((a.length : Int) ≤ 40))) with
      | false => exact ⟨([], false), rfl, rfl, ⟨by simp, fun h hh => by simp at hh⟩, by simp⟩
      | true =>
        rw [notT, notT, spec_DiffHunks.l7_eq, hs, sB]
        exact ⟨(r, true), rfl, rfl, hB, hlen⟩

end Go.Abs.GE
set_option linter.unusedVariables false
set_option linter.unusedSimpArgs false
/-! The laws' own functions on lists of lists of strings. -/
namespace Go.Abs.GE
open Go Go.Abs

abbrev TT := List T
/-- what is read: no more than memory holds -/
def Big (l : T) : Prop := l.length ≤ 140737488351232 ∧ ∀ s ∈ l, s.size ≤ 140737488351232

theorem szTT (a : TT) (left : Int) (h0 : 0 ≤ left) (h1 : left ≤ 1048576) (ha : a.length ≤ 140737488351232) (hs : ∀ l ∈ a, Big l) :
    ∃ r : Int, laws_szStringSS.f a left = some r ∧ (r < 0 ∨ 0 ≤ r ∧ r ≤ left ∧ a.length ≤ 1048576 ∧ ∀ l ∈ a, Sm l) := by
  rw [laws_szStringSS.f_eq]
  by_cases hl : left - a.length < 0
  · exact ⟨-1, by rw [w64_id (by omega) (by omega), bifT hl], .inl (by omega)⟩
  · rw [w64_id (by omega) (by omega), bifF hl]
    have key : ∀ i, i ≤ a.length → ∀ l : Int, 0 ≤ l → l ≤ left → ∃ r : Int, laws_szStringSS.l10 a l (i : Int) = some r ∧ (r < 0 ∨ 0 ≤ r ∧ r ≤ l ∧ ∀ j, i ≤ j → j < a.length → Sm (a.getD j [])) := by
      apply downTo
      · intro l _ _
        exact ⟨l, by rw [laws_szStringSS.l10_eq, bifF (by omega)], .inr ⟨by omega, by omega, fun j hj hj' => by omega⟩⟩
      · intro i hi ih l h2 h3
        have hm := hs _ (getD_mem hi [])
        obtain ⟨r1, e1, h4⟩ := szT (a.getD i []) l h2 (by omega) hm.1 hm.2
        rw [laws_szStringSS.l10_eq, bifT (by omega), bif2T (by omega) (by omega)]
        simp only [Int.toNat_natCast]
        rw [e1, sB]
        by_cases hn : r1 < 0
        · exact ⟨-1, bifT hn, .inl (by omega)⟩
        · rw [bifF hn, up1 (by omega)]
          obtain ⟨g1, g2, g3, g4⟩ := h4.resolve_left hn
          obtain ⟨r, hr, hr2⟩ := ih r1 (by omega) (by omega)
          refine ⟨r, hr, hr2.imp (fun h => h) fun h => ⟨h.1, by omega, fun j hj hj' => ?_⟩⟩
          by_cases hji : j = i
          · subst hji; exact ⟨g3, g4⟩
          · exact h.2.2 j (by omega) hj'
    obtain ⟨r, hr, hr2⟩ := key 0 (by omega) (left - a.length) (by omega) (by omega)
    exact ⟨r, hr, hr2.imp (fun h => h) fun h => ⟨h.1, by omega, by omega, all_of_getD [] fun j hj => h.2.2 j (by omega) hj⟩⟩

theorem toTT (a : TT) (ha : a.length ≤ 1048576) (hs : ∀ l ∈ a, Sm l) : laws_toStringSS.f a = some a := by
  rw [laws_toStringSS.f_eq, room24, bif2T (by omega) (by omega)]
  have key : ∀ i, i ≤ a.length → ∀ out : TT, out.length = a.length → (∀ j, j < i → out.getD j [] = a.getD j []) → laws_toStringSS.l6 a out (i : Int) = some a := by
    apply downTo
    · intro out hl ho
      rw [laws_toStringSS.l6_eq, bifF (by omega)]
      rw [list_ext_getD [] hl fun i hi => ho i (by omega)]
    · intro i hi ih out hl ho
      rw [laws_toStringSS.l6_eq, bifT (by omega), bif2T (by omega) (by omega)]
      simp only [Int.toNat_natCast]
      rw [toT _ (hs _ (getD_mem hi [])).1, sB, bif2T (by omega) (by omega), up1 (by omega)]
      refine ih _ (by simpa using hl) fun j hj => ?_
      by_cases hji : j = i
      · subst hji; exact set_same (by omega) _ _
      · rw [set_else (by omega)]; exact ho j (by omega)
  exact key 0 (by omega) _ (by simp) (by omega)

theorem eqTT (a b : TT) (ha : a.length ≤ 140737488351232) (hb : b.length ≤ 140737488351232) (ha2 : ∀ l ∈ a, Big l) (hb2 : ∀ l ∈ b, Big l) : laws_eqStringSS.f a b = some (decide (a = b)) := by
  rw [laws_eqStringSS.f_eq]
  by_cases hl : a.length = b.length
  · rw [bifNF (by omega)]
    have key : ∀ i, i ≤ a.length → laws_eqStringSS.l8 a b (i : Int) = some (decide (a.drop i = b.drop i)) := by
      apply downTo
      · rw [laws_eqStringSS.l8_eq, bifF (by omega)]
        simp [List.drop_eq_nil_of_le, hl]
      · intro i hi ih
        rw [laws_eqStringSS.l8_eq, bifT (by omega), bif2T (by omega) (by omega), bif2T (by omega) (by omega), up1 (by omega)]
        simp only [Int.toNat_natCast]
        rw [eqT _ _ (ha2 _ (getD_mem hi [])).1 (hb2 _ (getD_mem (by omega) [])).1, sB]
        rw [drop_at hi [], drop_at (l := b) (by omega) []]
        by_cases h : a.getD i [] = b.getD i []
        · rw [bifNF h, ih]; simp only [List.cons.injEq, h, true_and]
        · rw [bifNT h]; simp only [List.cons.injEq, h, false_and, decide_false]
    have := key 0 (by omega)
    simpa using this
  · rw [bifNT (by omega)]
    rw [decide_eq_false (fun e => hl (by rw [e]))]

noncomputable def mkTT : TT → Int → TT
  | [], _ => []
  | l :: r, k => mkT l k :: mkTT r (k + l.length)
def endTT : TT → Int → Int
  | [], k => k
  | l :: r, k => endTT r (k + l.length)
theorem endTT_le : ∀ (g : TT) (k : Int), (∀ l ∈ g, l.length ≤ 1048576) → k ≤ endTT g k ∧ endTT g k ≤ k + 1048576 * g.length
  | [], k, _ => by simp [endTT]
  | l :: r, k, hb => by
    have h1 := hb l (by simp)
    have h2 := endTT_le r (k + l.length) (fun x hx => hb x (by simp [hx]))
    simp only [endTT, List.length_cons]
    omega
theorem markTT (g : TT) (k : Int) (h0 : 0 ≤ k) (hg : g.length ≤ 1048576) (hb : ∀ l ∈ g, l.length ≤ 1048576) (hk : k + 1048576 * g.length ≤ 8796093022208) : laws_markStringSS.f g k = some (endTT g k, mkTT g k) := by
  have key : ∀ (rest pre : TT) (k : Int), 0 ≤ k → (∀ l ∈ rest, l.length ≤ 1048576) → pre.length + rest.length ≤ 1048576 → k + 1048576 * rest.length ≤ 8796093022208 → laws_markStringSS.l4 (pre ++ rest) k (pre.length : Int) = some (endTT rest k, pre ++ mkTT rest k) := by
    intro rest
    induction rest with
    | nil => intro pre k _ _ _ _; rw [laws_markStringSS.l4_eq, bifF (by simp)]; simp [mkTT, endTT]
    | cons x r ih =>
      intro pre k hk hx hl hb
      have hx1 := hx x (by simp)
      simp only [List.length_cons] at hl hb
      rw [laws_markStringSS.l4_eq, bifT (by simp; omega), bif2T (by omega) (by simp; omega)]
      simp only [Int.toNat_natCast, getD_mid]
      rw [markT _ _ (by omega) (by omega), sB, up1 (by omega)]
      simp only [set_mid]
      have := ih (pre ++ [mkT x k]) (k + x.length) (by omega) (fun h hh => hx h (by simp [hh])) (by simp; omega) (by omega)
      simp only [List.length_append, List.length_cons, List.length_nil, List.append_assoc, List.cons_append, List.nil_append] at this
      rw [this]
      simp only [mkTT, endTT]
  rw [laws_markStringSS.f_eq]
  exact key g [] k h0 hb (by simp; omega) hk
end Go.Abs.GE
set_option linter.unusedVariables false
set_option linter.unusedSimpArgs false
/-! The laws' own functions on lists of lists of hunks, and on series. -/
namespace Go.Abs.GE
open Go Go.Abs

abbrev HH := List (List Hk)
abbrev Se := T × HH
/-- of a size that can be marked -/
def HHB (g : HH) : Prop := g.length ≤ 1000 ∧ ∀ h ∈ g, HkB h ∧ h.length ≤ 1001

theorem eqHSS (a b : HH) (ha : HHB a) (hb : HHB b) : laws_eqHunkSS.f a b = some (decide (a = b)) := by
  obtain ⟨ha, ha2⟩ := ha
  obtain ⟨hb, hb2⟩ := hb
  rw [laws_eqHunkSS.f_eq]
  by_cases hl : a.length = b.length
  · rw [bifNF (by omega)]
    have key : ∀ i, i ≤ a.length → laws_eqHunkSS.l8 a b (i : Int) = some (decide (a.drop i = b.drop i)) := by
      apply downTo
      · rw [laws_eqHunkSS.l8_eq, bifF (by omega)]
        simp [List.drop_eq_nil_of_le, hl]
      · intro i hi ih
        rw [laws_eqHunkSS.l8_eq, bifT (by omega), bif2T (by omega) (by omega), bif2T (by omega) (by omega), up1 (by omega)]
        simp only [Int.toNat_natCast]
        rw [eqHS _ _ (ha2 _ (getD_mem hi [])).1 (hb2 _ (getD_mem (by omega) [])).1, sB]
        rw [drop_at hi [], drop_at (l := b) (by omega) []]
        by_cases h : a.getD i [] = b.getD i []
        · rw [bifNF h, ih]; simp only [List.cons.injEq, h, true_and]
        · rw [bifNT h]; simp only [List.cons.injEq, h, false_and, decide_false]
    have := key 0 (by omega)
    simpa using this
  · rw [bifNT (by omega)]
    rw [decide_eq_false (fun e => hl (by rw [e]))]

noncomputable def mkHH : HH → Int → HH
  | [], _ => []
  | h :: r, k => mkH h k :: mkHH r (endH h k)
def endHH : HH → Int → Int
  | [], k => k
  | h :: r, k => endHH r (endH h k)
theorem endHH_le : ∀ (g : HH) (k : Int), (∀ h ∈ g, HkB h ∧ h.length ≤ 1001) → k ≤ endHH g k ∧ endHH g k ≤ k + 1049626578 * g.length
  | [], k, _ => by simp [endHH]
  | h :: r, k, hb => by
    have h1 := hb h (by simp)
    have h2 := endH_le h k h1.1.2
    have h3 := endHH_le r (endH h k) (fun x hx => hb x (by simp [hx]))
    simp only [endHH, List.length_cons]
    have h4 : (h.length : Int) ≤ 1001 := by have := h1.2; omega
    omega
theorem markHSS (g : HH) (k : Int) (h0 : 0 ≤ k) (hb : HHB g) (hk : k ≤ 1099511627776) : laws_markHunkSS.f g k = some (endHH g k, mkHH g k) := by
  have key : ∀ (rest pre : HH) (k : Int), 0 ≤ k → (∀ h ∈ rest, HkB h ∧ h.length ≤ 1001) → pre.length + rest.length ≤ 1000 → k + 1049626578 * rest.length ≤ 4398046511104 → laws_markHunkSS.l4 (pre ++ rest) k (pre.length : Int) = some (endHH rest k, pre ++ mkHH rest k) := by
    intro rest
    induction rest with
    | nil => intro pre k _ _ _ _; rw [laws_markHunkSS.l4_eq, bifF (by simp)]; simp [mkHH, endHH]
    | cons x r ih =>
      intro pre k hk hx hl hb
      have hx1 := hx x (by simp)
      have h2 := endH_le x k hx1.1.2
      have h4 : (x.length : Int) ≤ 1001 := by have := hx1.2; omega
      simp only [List.length_cons] at hl hb
      rw [laws_markHunkSS.l4_eq, bifT (by simp; omega), bif2T (by omega) (by simp; omega)]
      simp only [Int.toNat_natCast, getD_mid]
      rw [markHSg x k hk hx1.1 (by omega), sB, up1 (by omega)]
      simp only [set_mid]
      have := ih (pre ++ [mkH x k]) (endH x k) (by omega) (fun h hh => hx h (by simp [hh])) (by simp; omega) (by omega)
      simp only [List.length_append, List.length_cons, List.length_nil, List.append_assoc, List.cons_append, List.nil_append] at this
      rw [this]
      simp only [mkHH, endHH]
  rw [laws_markHunkSS.f_eq]
  have h1 := hb.1
  exact key g [] k h0 hb.2 (by simp; omega) (by omega)
theorem heldHSS (g : HH) (k : Int) (h0 : 0 ≤ k) (hb : HHB g) (hk : k ≤ 1099511627776) : laws_heldHunkSS.f (mkHH g k) k = some (endHH g k) := by
  have key : ∀ (rest pre : HH) (k : Int), 0 ≤ k → (∀ h ∈ rest, HkB h ∧ h.length ≤ 1001) → pre.length + rest.length ≤ 1000 → k + 1049626578 * rest.length ≤ 4398046511104 → laws_heldHunkSS.l4 (pre ++ mkHH rest k) k (pre.length : Int) = some (endHH rest k) := by
    intro rest
    induction rest with
    | nil => intro pre k _ _ _ _; rw [laws_heldHunkSS.l4_eq, bifF (by simp [mkHH])]; simp [endHH]
    | cons x r ih =>
      intro pre k hk hx hl hb
      have hx1 := hx x (by simp)
      have h2 := endH_le x k hx1.1.2
      have h4 : (x.length : Int) ≤ 1001 := by have := hx1.2; omega
      simp only [List.length_cons] at hl hb
      rw [laws_heldHunkSS.l4_eq, bifT (by simp [mkHH]; omega), bif2T (by omega) (by simp [mkHH]; omega)]
      simp only [Int.toNat_natCast, mkHH, getD_mid]
      rw [heldHSg x k hk hx1.1 (by omega), sB, bifF (by omega), up1 (by omega)]
      have := ih (pre ++ [mkH x k]) (endH x k) (by omega) (fun h hh => hx h (by simp [hh])) (by simp; omega) (by omega)
      simp only [List.length_append, List.length_cons, List.length_nil, List.append_assoc, List.cons_append, List.nil_append] at this
      rw [this]
      simp only [endHH]
  rw [laws_heldHunkSS.f_eq]
  have h1 := hb.1
  exact key g [] k h0 hb.2 (by simp; omega) (by omega)

def SeB (s : Se) : Prop := s.1.length ≤ 1048576 ∧ HHB s.2
theorem eqSe (s : Se) (hs : SeB s) : laws_eqSeries.f s s = some true := by
  rw [laws_eqSeries.f_eq, eqT s.1 s.1 (by have := hs.1; omega) (by have := hs.1; omega), sB, decide_eq_true rfl, notT, eqHSS s.2 s.2 hs.2 hs.2, sB, decide_eq_true rfl, notT]
/-- marked, and held: to the same number -/
theorem markSe (s : Se) (hs : SeB s) : ∃ (e : Int) (s' : Se), laws_markSeries.f s.1 s.2 1 = some (e, s'.1, s'.2) ∧ laws_heldSeries.f s' 1 = some e ∧ 0 ≤ e := by
  obtain ⟨h1, h2⟩ := hs
  have e1 := endHH_le s.2 (1 + s.1.length) h2.2
  refine ⟨endHH s.2 (1 + s.1.length), (mkT s.1 1, mkHH s.2 (1 + s.1.length)), ?_, ?_, by omega⟩
  · rw [laws_markSeries.f_eq, markT _ _ (by omega) (by omega), sB]
    simp only
    rw [markHSS _ _ (by omega) h2 (by omega), sB]
  · rw [laws_heldSeries.f_eq]
    simp only
    rw [heldT _ _ (by omega) (by omega), sB, bifF (by omega), heldHSS _ _ (by omega) h2 (by omega), sB, bifF (by omega)]
end Go.Abs.GE
set_option linter.unusedVariables false
set_option linter.unusedSimpArgs false
/-! The law FnExactSeriesOf, in plain words. -/
namespace Go.Abs.GE
open Go Go.Abs

def versB (v : TT) : Bool := v.all goodB && decide (1 ≤ (v.length : Int) ∧ (v.length : Int) ≤ 8)
theorem sVers (v : TT) (hl : v.length ≤ 1048576) (hs : ∀ l ∈ v, Sm l) : spec_l12Good.f v = some (versB v) := by
  have key : ∀ i, i ≤ v.length → spec_l12Good.l4 v v (v.length : Int) (i : Int) = some ((v.drop i).all goodB && decide (1 ≤ (v.length : Int) ∧ (v.length : Int) ≤ 8)) := by
    apply downTo
    · rw [spec_l12Good.l4_eq, bifF (by omega), sIn, sB, List.drop_eq_nil_of_le (by omega)]; rfl
    · intro i hi ih
      rw [spec_l12Good.l4_eq, bifT (by omega), bif2T (by omega) (by omega), up1 (by omega)]
      simp only [Int.toNat_natCast]
      rw [sGood _ (hs _ (getD_mem hi [])), sB, ih, drop_at hi [], List.all_cons]
      cases goodB (v.getD i []) with
      | true => rw [notT, Bool.true_and]
      | false => rw [notF, Bool.false_and, Bool.false_and]
  have := key 0 (by omega)
  rw [List.drop_zero] at this
  rw [spec_l12Good.f_eq]
  exact this
theorem iVers (v : TT) (hl : v.length ≤ 1048576) (hs : ∀ l ∈ v, Sm l) : impl_areVersions.f v = some (versB v) := by
  have idx : ∀ i, i ≤ v.length → ∃ r : Int, slices_IndexFunc_string_string_172__impl_areVersions_1.l4 v (v.length : Int) (i : Int) = some r ∧ (decide (r ≥ 0) = !((v.drop i).all goodB)) := by
    apply downTo
    · refine ⟨-1, by rw [slices_IndexFunc_string_string_172__impl_areVersions_1.l4_eq, bifF (by omega)], ?_⟩
      rw [List.drop_eq_nil_of_le (by omega)]; rfl
    · intro i hi ⟨r, hr, hp⟩
      rw [slices_IndexFunc_string_string_172__impl_areVersions_1.l4_eq, bifT (by omega), bif2T (by omega) (by omega), up1 (by omega)]
      simp only [Int.toNat_natCast]
      rw [impl_areVersions_1.f_eq, iGood _ (hs _ (getD_mem hi [])), sB, sB, drop_at hi [], List.all_cons]
      cases goodB (v.getD i []) with
      | true => exact ⟨r, by rw [notT]; exact hr, by rw [Bool.true_and]; exact hp⟩
      | false => exact ⟨(i : Int), by rw [notF], by rw [Bool.false_and]; exact decide_eq_true (by omega)⟩
  obtain ⟨r, hr, hp⟩ := idx 0 (by omega)
  rw [List.drop_zero] at hp
  unfold versB
  rw [impl_areVersions.f_eq, iIn, sB]
  by_cases h : 1 ≤ (v.length : Int) ∧ (v.length : Int) ≤ 8
  · rw [bifT h, slices_ContainsFunc_string_string_150__impl_areVersions_1.f_eq, slices_IndexFunc_string_string_172__impl_areVersions_1.f_eq]
    refine bindEq (bindEq hr rfl) ?_
    rw [hp, decide_eq_true h]; simp
  · rw [bifF h, decide_eq_false h, Bool.and_false]

theorem steps_both (v : TT) (hl : v.length ≤ 8) (hs : ∀ l ∈ v, Sm l) (t t' : Se) (first : T) (hf : first.length ≤ 1048576) :
    ∀ n, n ≤ v.length → 1 ≤ n → ∀ acc : HH, acc.length ≤ n → (∀ h ∈ acc, HkB h ∧ h.length ≤ 1001) → ∃ R : Se × Bool, spec_SeriesOf.l10 v t (first, acc) (n : Int) = some R ∧ impl_SeriesOf.l10 v t' (first, acc) (n : Int) = some R ∧ SeB R.1 := by
  have key : ∀ n, n ≤ v.length → ∀ t t' : Se, 1 ≤ n → ∀ acc : HH, acc.length ≤ n → (∀ h ∈ acc, HkB h ∧ h.length ≤ 1001) → ∃ R : Se × Bool, spec_SeriesOf.l10 v t (first, acc) (n : Int) = some R ∧ impl_SeriesOf.l10 v t' (first, acc) (n : Int) = some R ∧ SeB R.1 := by
    apply downTo
    · intro t t' _ acc ha hb
      rw [spec_SeriesOf.l10_eq, impl_SeriesOf.l10_eq, bifF (by omega), bifF (by omega)]
      exact ⟨((first, acc), true), rfl, rfl, hf, by show acc.length ≤ 1000; omega, hb⟩
    · intro n hn ih t t' h1 acc ha hb
      have e := dn1 (i := n) (by omega) (by omega)
      rw [spec_SeriesOf.l10_eq, impl_SeriesOf.l10_eq]
      simp only [e, Int.toNat_natCast]
      rw [bifT (by omega), bifT (by omega), bif2T (by omega) (by omega), bif2T (by omega) (by omega), bif2T (by omega) (by omega), bif2T (by omega) (by omega)]
      obtain ⟨⟨r, o⟩, d1, d2, d3, d4⟩ := diffs_both (v.getD (n - 1) []) (v.getD n []) (hs _ (getD_mem (by omega) [])) (hs _ (getD_mem hn []))
      rw [d1, d2, sB, sB]
      simp only
      cases o with
      | false => exact ⟨(([], []), false), rfl, rfl, by simp, by simp, by simp⟩
      | true =>
        rw [notT, notT, room24, bifT (by simp only [List.length_singleton]; omega), bifT (by simp only [List.length_singleton]; omega), up1 (by omega)]
        refine ih _ _ (by omega) (acc ++ [r]) (by simp; omega) fun h hh => ?_
        rcases List.mem_append.1 hh with hh | hh
        · exact hb h hh
        · rw [List.mem_singleton] at hh; subst hh; exact ⟨d3, d4⟩
  intro n hn h1 acc ha hb
  exact key n hn t t' h1 acc ha hb
theorem series_both (v : TT) (hl : v.length ≤ 1048576) (hs : ∀ l ∈ v, Sm l) : ∃ R : Se × Bool, spec_SeriesOf.f v = some R ∧ impl_SeriesOf.f v = some R ∧ SeB R.1 := by
  rw [spec_SeriesOf.f_eq, impl_SeriesOf.f_eq, sVers v hl hs, iVers v hl hs, sB, sB]
  cases hv : versB v with
  | false => exact ⟨(([], []), false), rfl, rfl, by simp, by simp, by simp⟩
  | true =>
    unfold versB at hv
    simp only [Bool.and_eq_true, decide_eq_true_eq] at hv
    have h0 := (hs _ (getD_mem (l := v) (i := 0) (by omega) [])).1
    rw [notT, notT, bifT (by omega), bifT (by omega), ownT _ h0, cloneT _ h0, sB, sB]
    exact steps_both v (by omega) hs _ _ _ h0 1 (by omega) (by omega) [] (by simp) (by simp)

theorem FnExactSeriesOf (l0 : TT) (g0 : Bd (.list (.list .str)) l0) : laws_FnExactSeriesOf.f l0 = some true := by
  obtain ⟨a1, a2⟩ : l0.length ≤ 140737488351232 ∧ ∀ l ∈ l0, Big l := g0
  rw [laws_FnExactSeriesOf.f_eq]
  obtain ⟨r1, e1, h1⟩ := szTT l0 1048576 (by omega) (by omega) a1 a2
  rw [e1, sB]
  by_cases c1 : r1 < 0
  · rw [bifT c1]
  rw [bifF c1]
  obtain ⟨h1a, h1b, h1c, h1d⟩ := h1.resolve_left c1
  obtain ⟨⟨⟨w, u⟩, o⟩, hs, hi, hB⟩ := series_both l0 h1c h1d
  have hB2 : SeB (w, u) := hB
  have heq : laws_eqSeries.f (w, u) (w, u) = some true := eqSe (w, u) hB2
  have hob : (!(o == o)) = false := by simp
  have q1 : laws_eqStringSS.f l0 l0 = some true := by rw [eqTT l0 l0 a1 a1 a2 a2, decide_eq_true rfl]
  have m1 := markTT l0 1 (by omega) h1c (fun l hl => (h1d l hl).1) (by omega)
  have m2 := endTT_le l0 1 (fun l hl => (h1d l hl).1)
  obtain ⟨e, ⟨s1, s2⟩, n1, n2, n3⟩ := markSe (w, u) hB2
  simp only at n1
  rw [toTT l0 h1c h1d, sB, hs, sB, sB, hi, sB]
  simp only
  rw [heq, sB, notT]
  simp only [hob, cond_false]
  rw [laws_FnExactSeriesOf.l21_eq, toTT l0 h1c h1d, sB, q1, sB, notT, m1, sB]
  simp only
  rw [bifF (by omega), heq, sB, notT]
  simp only [hob, cond_false]
  rw [laws_FnExactSeriesOf.l33_eq]
  simp only
  rw [n1, sB]
  simp only
  rw [n2, sB, bifF (by omega), bifNF rfl, toTT l0 h1c h1d, sB, hi, sB]
  simp only
  rw [heq, sB, notT]
  simp only [hob, cond_false]
  rw [laws_FnExactSeriesOf.l55_eq]
  simp only
  rw [n2, sB, bifF (by omega), bifNF rfl]
end Go.Abs.GE
