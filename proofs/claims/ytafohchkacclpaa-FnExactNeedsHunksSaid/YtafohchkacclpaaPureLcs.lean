/- The longest part that two lists of texts share: how long it is, and the least pairs of places that make it. No program in sight. -/
import Derived.Test.YtafohchkacclpaaPureText0
set_option linter.unusedVariables false
set_option linter.unusedSimpArgs false
namespace Go.Proofs.Ytafohchkacclpaa.Text
open Go.RowKit Go.Proofs.YtafohchkacclpaaW.PrintWords Go.Proofs.YtafohchkacclpaaW.PrintLast Go.Proofs.YtafohchkacclpaaW.PrintMore Go.Proofs.Ytafohchkacclpaa.Tools Go.Proofs.Ytafohchkacclpaa.C

def inn (x : ByteArray) (f : T → Nat) : T → Nat
  | [] => 0
  | y :: ys => if x = y then f ys + 1 else max (f (y :: ys)) (inn x f ys)
def lcs : T → T → Nat
  | [], _ => 0
  | x :: xs, ys => inn x (lcs xs) ys
theorem lcs_nil (xs : T) : lcs xs [] = 0 := by cases xs <;> rfl
theorem lcs_cons (x : ByteArray) (xs : T) (y : ByteArray) (ys : T) : lcs (x :: xs) (y :: ys) = if x = y then lcs xs ys + 1 else max (lcs xs (y :: ys)) (lcs (x :: xs) ys) := rfl
theorem lcs_step : ∀ (n : Nat) (xs ys : T), xs.length + ys.length ≤ n →
    (∀ x, lcs xs ys ≤ lcs (x :: xs) ys ∧ lcs (x :: xs) ys ≤ lcs xs ys + 1) ∧ (∀ y, lcs xs ys ≤ lcs xs (y :: ys) ∧ lcs xs (y :: ys) ≤ lcs xs ys + 1) := by
  intro n
  induction n with
  | zero =>
    intro xs ys h
    have h1 : xs.length = 0 := by omega
    have h2 : ys.length = 0 := by omega
    obtain rfl := List.length_eq_zero_iff.1 h1
    obtain rfl := List.length_eq_zero_iff.1 h2
    exact ⟨fun x => ⟨Nat.le_refl _, Nat.le_succ _⟩, fun y => ⟨Nat.le_refl _, Nat.le_succ _⟩⟩
  | succ n ih =>
    intro xs ys h
    refine ⟨fun x => ?_, fun y => ?_⟩
    · cases ys with
      | nil => rw [lcs_nil, lcs_nil]; omega
      | cons y ys =>
        have hI := ih xs ys (by simp at h; omega)
        have h1 := hI.1 x
        have h2 := hI.2 y
        rw [lcs_cons]
        split
        · omega
        · omega
    · cases xs with
      | nil => exact ⟨Nat.le_refl _, Nat.zero_le _⟩
      | cons x xs =>
        have hI := ih xs ys (by simp at h; omega)
        have h1 := hI.1 x
        have h2 := hI.2 y
        rw [lcs_cons]
        split
        · omega
        · omega
theorem lcs_le : ∀ xs ys : T, lcs xs ys ≤ xs.length
  | [], _ => Nat.le_refl _
  | x :: xs, ys => by
    have h1 := lcs_le xs ys
    have h2 := ((lcs_step _ xs ys (Nat.le_refl _)).1 x).2
    rw [List.length_cons]; omega
def tv (a b : T) (i j : Nat) : Nat := lcs (a.drop i) (b.drop j)
theorem tv_i {a b : T} {i j : Nat} (h : a.length ≤ i) : tv a b i j = 0 := by unfold tv; rw [List.drop_eq_nil_of_le h]; rfl
theorem tv_j {a b : T} {i j : Nat} (h : b.length ≤ j) : tv a b i j = 0 := by unfold tv; rw [List.drop_eq_nil_of_le h, lcs_nil]
theorem tv_le (a b : T) (i j : Nat) : tv a b i j ≤ a.length := by
  unfold tv
  have := lcs_le (a.drop i) (b.drop j)
  rw [List.length_drop] at this; omega
theorem tv_step {a b : T} {i j : Nat} (hi : i < a.length) (hj : j < b.length) : tv a b i j = if a.getD i em = b.getD j em then tv a b (i + 1) (j + 1) + 1 else max (tv a b (i + 1) j) (tv a b i (j + 1)) := by
  unfold tv
  rw [drop_at hi em, drop_at hj em]
  exact lcs_cons _ _ _ _
theorem tv_near {a b : T} {i j : Nat} (hi : i < a.length) (hj : j < b.length) : tv a b (i + 1) j ≤ tv a b (i + 1) (j + 1) + 1 ∧ tv a b i (j + 1) ≤ tv a b (i + 1) (j + 1) + 1 := by
  unfold tv
  have h := lcs_step _ (a.drop (i + 1)) (b.drop (j + 1)) (Nat.le_refl _)
  have h1 := (h.1 (a.getD i em)).2
  have h2 := (h.2 (b.getD j em)).2
  rw [← drop_at hi em] at h1
  rw [← drop_at hj em] at h2
  exact ⟨h2, h1⟩
/-! ### the least pairs -/
def Mt (a b : T) (i j p q : Nat) : Prop := a.getD p em = b.getD q em ∧ tv a b (p + 1) (q + 1) + 1 = tv a b i j
theorem ex_match (a b : T) : ∀ (n i j : Nat), (a.length - i) + (b.length - j) ≤ n → 0 < tv a b i j → ∃ p q, i ≤ p ∧ p < a.length ∧ j ≤ q ∧ q < b.length ∧ Mt a b i j p q := by
  intro n
  induction n with
  | zero => intro i j h h0; rw [tv_i (by omega)] at h0; omega
  | succ n ih =>
    intro i j h h0
    by_cases hi : i < a.length
    · by_cases hj : j < b.length
      · have hs := tv_step hi hj
        by_cases e : a.getD i em = b.getD j em
        · rw [if_pos e] at hs
          exact ⟨i, j, Nat.le_refl _, hi, Nat.le_refl _, hj, e, hs.symm⟩
        · rw [if_neg e] at hs
          by_cases c : tv a b i (j + 1) ≤ tv a b (i + 1) j
          · have e2 : tv a b i j = tv a b (i + 1) j := by omega
            obtain ⟨p, q, h1, h2, h3, h4, h5⟩ := ih (i + 1) j (by omega) (by omega)
            exact ⟨p, q, by omega, h2, h3, h4, h5.1, by rw [e2]; exact h5.2⟩
          · have e2 : tv a b i j = tv a b i (j + 1) := by omega
            obtain ⟨p, q, h1, h2, h3, h4, h5⟩ := ih i (j + 1) (by omega) (by omega)
            exact ⟨p, q, h1, h2, by omega, h4, h5.1, by rw [e2]; exact h5.2⟩
      · rw [tv_j (by omega)] at h0; omega
    · rw [tv_i (by omega)] at h0; omega
theorem least {P : Nat → Prop} (h : ∃ n, P n) : ∃ n, P n ∧ ∀ m, m < n → ¬ P m := by
  obtain ⟨n, hn⟩ := h
  induction n using Nat.strongRecOn with
  | _ n ih =>
    by_cases g : ∃ m, m < n ∧ P m
    · obtain ⟨m, hm, hp⟩ := g
      exact ih m hm hp
    · exact ⟨n, hn, fun m hm hp => g ⟨m, hm, hp⟩⟩
structure Lst (a b : T) (i j p q : Nat) : Prop where
  hip : i ≤ p
  hpa : p < a.length
  hjq : j ≤ q
  hqb : q < b.length
  hm : Mt a b i j p q
  hrow : ∀ p' q', i ≤ p' → p' < p → j ≤ q' → q' < b.length → ¬ Mt a b i j p' q'
  hcol : ∀ q', j ≤ q' → q' < q → ¬ Mt a b i j p q'
theorem ex_least (a b : T) (i j : Nat) (h : 0 < tv a b i j) : ∃ p q, Lst a b i j p q := by
  obtain ⟨p0, q0, h1, h2, h3, h4, h5⟩ := ex_match a b _ i j (Nat.le_refl _) h
  obtain ⟨p, ⟨hp1, hp2, hp3⟩, hp4⟩ := least (P := fun p => i ≤ p ∧ p < a.length ∧ ∃ q, j ≤ q ∧ q < b.length ∧ Mt a b i j p q) ⟨p0, h1, h2, q0, h3, h4, h5⟩
  obtain ⟨q, ⟨hq1, hq2, hq3⟩, hq4⟩ := least (P := fun q => j ≤ q ∧ q < b.length ∧ Mt a b i j p q) hp3
  exact ⟨p, q, hp1, hp2, hq1, hq2, hq3, fun p' q' g1 g2 g3 g4 g5 => hp4 p' g2 ⟨g1, by omega, q', g3, g4, g5⟩, fun q' g1 g2 g3 => hq4 q' g2 ⟨g1, by omega, g3⟩⟩
def PR (a b : T) : Nat → Nat → List (Nat × Nat) → Prop
  | i, j, [] => tv a b i j = 0
  | i, j, (p, q) :: l => Lst a b i j p q ∧ PR a b (p + 1) (q + 1) l
theorem ex_PR (a b : T) : ∀ (n i j : Nat), a.length - i ≤ n → ∃ l, PR a b i j l ∧ l.length ≤ n := by
  intro n
  induction n with
  | zero => intro i j h; exact ⟨[], tv_i (by omega), Nat.le_refl _⟩
  | succ n ih =>
    intro i j h
    by_cases h0 : 0 < tv a b i j
    · obtain ⟨p, q, hL⟩ := ex_least a b i j h0
      have h1 := hL.hip
      have h2 := hL.hpa
      obtain ⟨l, hl, hn⟩ := ih (p + 1) (q + 1) (by omega)
      exact ⟨(p, q) :: l, ⟨hL, hl⟩, by rw [List.length_cons]; omega⟩
    · exact ⟨[], (by show tv a b i j = 0; omega), Nat.zero_le _⟩
/-! ### the table -/
def trow (a b : T) (i : Nat) : List Int := (List.range (b.length + 1)).map fun j => (tv a b i j : Int)
def tbl (a b : T) : List (List Int) := (List.range (a.length + 1)).map (trow a b)
theorem trow_len (a b : T) (i : Nat) : (trow a b i).length = b.length + 1 := by simp [trow]
theorem tbl_len (a b : T) : (tbl a b).length = a.length + 1 := by simp [tbl]
theorem trow_get (a b : T) (i : Nat) {j : Nat} (h : j ≤ b.length) : (trow a b i).getD j 0 = (tv a b i j : Int) := by
  unfold trow
  simp [List.getD_eq_getElem?_getD, List.getElem?_map, List.getElem?_range (show j < b.length + 1 by omega)]
theorem tbl_get (a b : T) {i : Nat} (h : i ≤ a.length) : (tbl a b).getD i [] = trow a b i := by
  unfold tbl
  simp [List.getD_eq_getElem?_getD, List.getElem?_map, List.getElem?_range (show i < a.length + 1 by omega)]
theorem row_eq (a b : T) (i : Nat) (y : List Int) (h : y.length = b.length + 1) (h2 : ∀ c, c ≤ b.length → y.getD c 0 = (tv a b i c : Int)) : y = trow a b i := by
  apply List.ext_getElem
  · rw [h, trow_len]
  · intro c hc hc2
    have h3 := h2 c (by omega)
    have h4 := trow_get a b i (j := c) (by omega)
    rw [List.getD_eq_getElem?_getD, List.getElem?_eq_getElem hc] at h3
    rw [List.getD_eq_getElem?_getD, List.getElem?_eq_getElem hc2] at h4
    simp at h3 h4
    rw [h3, h4]
theorem tbl_eq (a b : T) (x : List (List Int)) (h : x.length = a.length + 1) (h2 : ∀ r, r ≤ a.length → x.getD r [] = trow a b r) : x = tbl a b := by
  apply List.ext_getElem
  · rw [h, tbl_len]
  · intro c hc hc2
    have h3 := h2 c (by omega)
    have h4 := tbl_get a b (i := c) (by omega)
    rw [List.getD_eq_getElem?_getD, List.getElem?_eq_getElem hc] at h3
    rw [List.getD_eq_getElem?_getD, List.getElem?_eq_getElem hc2] at h4
    simp at h3 h4
    rw [h3, h4]
end Go.Proofs.Ytafohchkacclpaa.Text
