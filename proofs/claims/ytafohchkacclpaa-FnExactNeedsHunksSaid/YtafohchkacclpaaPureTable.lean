/- The table of the longest shared parts, by both. -/
import Derived.Test.YtafohchkacclpaaC2
import Derived.Test.YtafohchkacclpaaC3
import Derived.Test.YtafohchkacclpaaC7
import Derived.Test.YtafohchkacclpaaPureLcs
set_option linter.unusedVariables false
set_option linter.unusedSimpArgs false
namespace Go.Proofs.Ytafohchkacclpaa.Text
open Go.RowKit Go.Proofs.YtafohchkacclpaaW.PrintWords Go.Proofs.YtafohchkacclpaaW.PrintLast Go.Proofs.YtafohchkacclpaaW.PrintMore Go.Proofs.Ytafohchkacclpaa.Tools Go.Proofs.Ytafohchkacclpaa.C

abbrev Tb := List (List Int)
theorem rd_l (l : Tb) (i : Nat) : rd_L5 l (i : Int) = l.getD i [] := rfl
theorem rd_n (l : List Int) (i : Nat) : rd l (i : Int) = l.getD i 0 := rfl
theorem set_same {α : Type} {l : List α} {i : Nat} (h : i < l.length) (x y : α) : (l.set i x).getD i y = x := by
  simp [List.getD_eq_getElem?_getD, h]
theorem set_else {α : Type} {l : List α} {i j : Nat} (h : i ≠ j) (x y : α) : (l.set i x).getD j y = l.getD j y := by
  rw [List.getD_eq_getElem?_getD, List.getElem?_set_ne h, ← List.getD_eq_getElem?_getD]
theorem zeros_get (n c : Nat) : (List.replicate n (0 : Int)).getD c 0 = 0 := by
  rw [List.getD_eq_getElem?_getD, List.getElem?_replicate]; split <;> rfl
theorem most (a b : Int) : spec_l1Most.f a b = some (max a b) := by
  unfold spec_l1Most.f
  split
  · congr 1; omega
  · congr 1; omega
theorem mx_max (a b : Int) : mx a b = max a b := by unfold mx; split <;> omega
/-- Row i is known behind place j. -/
def RowInv (a b : T) (x : Tb) (i j : Nat) : Prop := x.length = a.length + 1 ∧ (∀ r, i < r → r ≤ a.length → x.getD r [] = trow a b r) ∧ (x.getD i []).length = b.length + 1 ∧ ∀ c, j ≤ c → c ≤ b.length → (x.getD i []).getD c 0 = (tv a b i c : Int)
theorem inv_put (a b : T) {x : Tb} {i j : Nat} (h : RowInv a b x i (j + 1)) (hi : i < a.length) (hj : j < b.length) : RowInv a b (x.set i ((x.getD i []).set j (tv a b i j : Int))) i j := by
  obtain ⟨h1, h2, h3, h4⟩ := h
  have hs : (x.set i ((x.getD i []).set j (tv a b i j : Int))).getD i [] = (x.getD i []).set j (tv a b i j : Int) := set_same (by omega) _ _
  refine ⟨by rw [List.length_set]; exact h1, fun r hr hr2 => ?_, ?_, fun c hc hc2 => ?_⟩
  · rw [set_else (by omega)]; exact h2 r hr hr2
  · rw [hs, List.length_set]; exact h3
  · rw [hs]
    by_cases e : c = j
    · subst e; exact set_same (by omega) _ _
    · rw [set_else (by omega)]; exact h4 c (by omega) hc2
theorem inv_row (a b : T) {x : Tb} {i : Nat} (h : RowInv a b x i 0) : ∀ r, i ≤ r → r ≤ a.length → x.getD r [] = trow a b r := by
  intro r hr hr2
  by_cases e : r = i
  · subst e; exact row_eq a b r _ h.2.2.1 (fun c hc => h.2.2.2 c (Nat.zero_le _) hc)
  · exact h.2.1 r (by omega) hr2
section
variable (a b : T) (ha : a.length ≤ 1000) (hb : b.length ≤ 1000)
include ha hb
theorem sT_l2 (R : Tb) (i : Nat) (hi : i < a.length) (k : ∀ x : Tb, RowInv a b x i 0 → (∀ r, r < i → (x.getD r []).length = b.length + 1 ∧ (x.getD r []).getD b.length 0 = 0) → Ev (fun k => spec_l3Table.l1 k a b x ((i : Int) - 1)) R) :
    ∀ (j : Nat) (x : Tb), j ≤ b.length → RowInv a b x i j → (∀ r, r < i → (x.getD r []).length = b.length + 1 ∧ (x.getD r []).getD b.length 0 = 0) → Ev (fun k => spec_l3Table.l2 k a b x (i : Int) ((j : Int) - 1)) R := by
  intro j
  induction j with
  | zero =>
    intro x hj h hz
    refine evStep (fun k => by rw [spec_l3Table.l2]) ?_
    have hw : wrap64 ((i : Int) - 1) = (i : Int) - 1 := w64 (by omega) (by omega)
    simp only [hw]
    exact evNeg (by omega) (k x h hz)
  | succ j ih =>
    intro x hj h hz
    have e0 : ((j + 1 : Nat) : Int) - 1 = (j : Int) := by omega
    rw [e0]
    obtain ⟨h1, h2, h3, h4⟩ := h
    have hi1 : wrap64 ((i : Int) + 1) = ((i + 1 : Nat) : Int) := by rw [w64 (by omega) (by omega)]; omega
    have hj1 : wrap64 ((j : Int) + 1) = ((j + 1 : Nat) : Int) := by rw [w64 (by omega) (by omega)]; omega
    have hj2 : wrap64 ((j : Int) - 1) = (j : Int) - 1 := w64 (by omega) (by omega)
    have hrow := h2 (i + 1) (by omega) (by omega)
    have g1 : (trow a b (i + 1)).getD j 0 = (tv a b (i + 1) j : Int) := trow_get a b (i + 1) (by omega)
    have g2 : (trow a b (i + 1)).getD (j + 1) 0 = (tv a b (i + 1) (j + 1) : Int) := trow_get a b (i + 1) (by omega)
    have g3 := h4 (j + 1) (by omega) (by omega)
    have hl := trow_len a b (i + 1)
    have hb1 := tv_le a b (i + 1) (j + 1)
    have hv : wrap64 ((tv a b (i + 1) (j + 1) : Int) + 1) = (tv a b (i + 1) (j + 1) : Int) + 1 := w64 (by omega) (by omega)
    have hs := tv_step (a := a) (b := b) (i := i) (j := j) (by omega) (by omega)
    have hn := tv_near (a := a) (b := b) (i := i) (j := j) (by omega) (by omega)
    refine evStep (fun k => by rw [spec_l3Table.l2]) ?_
    simp only [hi1, hj1, hj2, rd_l, rd_n, rd_t, Int.toNat_natCast]
    clear hi1 hj1 hj2
    rw [hrow, g1, g3]
    refine evPos (by omega) (evPos (by omega) (evPos (by omega) (evPos (by omega) (evPos (by omega) (evPos (by omega) (evPos (by omega) (evPos (by omega) (evPos (by omega) (evBS (most _ _) (evPos (by omega) (evSome (evPos (by omega) (evPos (by omega) ?_)))))))))))))
    have hset : ∀ v : Int, (x.set i ((x.getD i []).set j v)).getD i [] = (x.getD i []).set j v := fun v => set_same (by omega) _ _
    have hset1 : ∀ v : Int, (x.set i ((x.getD i []).set j v)).getD (i + 1) [] = trow a b (i + 1) := fun v => by rw [set_else (by omega)]; exact hrow
    have hsame : ∀ v : Int, ((x.getD i []).set j v).getD j 0 = v := fun v => set_same (by omega) _ _
    have fin : Ev (fun k => spec_l3Table.l2 k a b (x.set i ((x.getD i []).set j (tv a b i j : Int))) (i : Int) ((j : Int) - 1)) R := by
      refine ih _ (by omega) (inv_put a b ⟨h1, h2, h3, h4⟩ (by omega) (by omega)) (fun r hr => ?_)
      rw [set_else (by omega)]; exact hz r hr
    simp only [hset, hset1, hsame, g2, hv, bytes_eq_iff]
    clear hv
    by_cases e : a.getD i em = b.getD j em
    · rw [if_pos e] at hs
      refine evPos e (evPos (by rw [List.length_set]; omega) (evPos (by omega) (evBS (most _ _) ?_)))
      rw [List.set_set, List.set_set]
      rw [show max (max (tv a b (i + 1) j : Int) (tv a b i (j + 1) : Int)) ((tv a b (i + 1) (j + 1) : Int) + 1) = (tv a b i j : Int) by omega]
      exact fin
    · rw [if_neg e] at hs
      refine evNeg e ?_
      rw [show max (tv a b (i + 1) j : Int) (tv a b i (j + 1) : Int) = (tv a b i j : Int) by omega]
      exact fin
theorem sT_l1 : ∀ (d : Nat) (x : Tb), d ≤ a.length → x.length = a.length + 1 → (∀ r, d ≤ r → r ≤ a.length → x.getD r [] = trow a b r) → (∀ r, r < d → (x.getD r []).length = b.length + 1 ∧ (x.getD r []).getD b.length 0 = 0) →
    Ev (fun k => spec_l3Table.l1 k a b x ((d : Int) - 1)) (tbl a b) := by
  intro d
  induction d with
  | zero =>
    intro x hd h1 h2 hz
    refine evStep (fun k => by rw [spec_l3Table.l1]) ?_
    exact evNeg (by omega) (evEq (Ev.now _) (tbl_eq a b x h1 (fun r hr => h2 r (Nat.zero_le _) hr)))
  | succ d ih =>
    intro x hd h1 h2 hz
    have e0 : ((d + 1 : Nat) : Int) - 1 = (d : Int) := by omega
    rw [e0]
    have hw : wrap64 ((b.length : Int) - 1) = (b.length : Int) - 1 := w64 (by omega) (by omega)
    refine evStep (fun k => by rw [spec_l3Table.l1]) ?_
    simp only [hw]
    clear hw
    refine evPos (by omega) (sT_l2 a b ha hb _ d (by omega) (fun y hy hyz => ?_) b.length x (Nat.le_refl _) ⟨h1, fun r hr hr2 => h2 r (by omega) hr2, (hz d (by omega)).1, fun c hc hc2 => ?_⟩ (fun r hr => hz r (by omega)))
    · exact ih y (by omega) hy.1 (fun r hr hr2 => inv_row a b hy r hr hr2) hyz
    · have e : c = b.length := by omega
      subst e
      rw [(hz d (by omega)).2, tv_j (Nat.le_refl _)]; rfl
theorem sTable : Ev (fun k => spec_l3Table.f k a b) (tbl a b) := by
  have w1 : wrap64 ((a.length : Int) + 1) = ((a.length + 1 : Nat) : Int) := by rw [w64 (by omega) (by omega)]; omega
  have w2 : wrap64 ((b.length : Int) + 1) = ((b.length + 1 : Nat) : Int) := by rw [w64 (by omega) (by omega)]; omega
  have w3 : wrap64 ((a.length : Int) - 1) = (a.length : Int) - 1 := w64 (by omega) (by omega)
  unfold spec_l3Table.f
  simp only [w1, Int.toNat_natCast]
  refine evPos (by omega) (evPos (by omega) (evSome ?_))
  rw [List.length_replicate]
  have key := evUp (σ := Tb) (n := a.length + 1) (g := fun x i k => spec_l3Table.l0 k a b x ((a.length + 1 : Nat) : Int) (i : Int)) (R := fun _ _ => tbl a b)
    (fun i x => x.length = a.length + 1 ∧ ∀ r, r < i → x.getD r [] = List.replicate (b.length + 1) 0) ?_ ?_ 0 (List.replicate (a.length + 1) []) (by omega) ⟨by simp, fun r hr => absurd hr (Nat.not_lt_zero r)⟩
  · exact key
  · rintro x ⟨h1, h2⟩
    refine evStep (fun k => by rw [spec_l3Table.l0]) ?_
    simp only [w3]
    refine evNeg (by omega) (sT_l1 a b ha hb a.length x (Nat.le_refl _) h1 (fun r hr hr2 => ?_) (fun r hr => ?_))
    · have e : r = a.length := by omega
      subst e
      rw [h2 _ (by omega)]
      refine row_eq a b _ _ (by simp) (fun c hc => ?_)
      rw [zeros_get, tv_i (Nat.le_refl _)]; rfl
    · rw [h2 r (by omega)]
      exact ⟨by simp, zeros_get _ _⟩
  · rintro i x hi ⟨h1, h2⟩ k
    have hi1 := up1 hi (by omega)
    refine evStep (fun k => by rw [spec_l3Table.l0]) ?_
    simp only [w2, hi1, Int.toNat_natCast]
    refine evPos (by omega) (evPos (by omega) (evPos (by omega) (evPos (by omega) (evPos (by omega) (k _ ⟨by rw [List.length_set]; exact h1, fun r hr => ?_⟩)))))
    by_cases e : r = i
    · subst e; exact set_same (by omega) _ _
    · rw [set_else (by omega)]; exact h2 r (by omega)
theorem iT_l1 (R : Tb) (i : Nat) (hi : i < a.length) (k : ∀ x : Tb, RowInv a b x i 0 → Ev (fun k => impl_common.l0 k a b x ((i : Int) - 1)) R) :
    ∀ (j : Nat) (x : Tb), j ≤ b.length → RowInv a b x i j → Ev (fun k => impl_common.l1 k a b x (i : Int) ((j : Int) - 1)) R := by
  intro j
  induction j with
  | zero =>
    intro x hj h
    refine evStep (fun k => by rw [impl_common.l1]) ?_
    have hw : wrap64 ((i : Int) - 1) = (i : Int) - 1 := w64 (by omega) (by omega)
    simp only [hw]
    exact evNeg (by omega) (k x h)
  | succ j ih =>
    intro x hj h
    have e0 : ((j + 1 : Nat) : Int) - 1 = (j : Int) := by omega
    rw [e0]
    have fin : Ev (fun k => impl_common.l1 k a b (x.set i ((x.getD i []).set j (tv a b i j : Int))) (i : Int) ((j : Int) - 1)) R := ih _ (by omega) (inv_put a b h (by omega) (by omega))
    obtain ⟨h1, h2, h3, h4⟩ := h
    have hi1 : wrap64 ((i : Int) + 1) = ((i + 1 : Nat) : Int) := by rw [w64 (by omega) (by omega)]; omega
    have hj1 : wrap64 ((j : Int) + 1) = ((j + 1 : Nat) : Int) := by rw [w64 (by omega) (by omega)]; omega
    have hj2 : wrap64 ((j : Int) - 1) = (j : Int) - 1 := w64 (by omega) (by omega)
    have hrow := h2 (i + 1) (by omega) (by omega)
    have g1 : (trow a b (i + 1)).getD j 0 = (tv a b (i + 1) j : Int) := trow_get a b (i + 1) (by omega)
    have g2 : (trow a b (i + 1)).getD (j + 1) 0 = (tv a b (i + 1) (j + 1) : Int) := trow_get a b (i + 1) (by omega)
    have g3 := h4 (j + 1) (by omega) (by omega)
    have hl := trow_len a b (i + 1)
    have hb1 := tv_le a b (i + 1) (j + 1)
    have hv : wrap64 ((tv a b (i + 1) (j + 1) : Int) + 1) = (tv a b (i + 1) (j + 1) : Int) + 1 := w64 (by omega) (by omega)
    have hs := tv_step (a := a) (b := b) (i := i) (j := j) (by omega) (by omega)
    refine evStep (fun k => by rw [impl_common.l1]) ?_
    simp only [hi1, hj1, hj2, rd_l, rd_n, rd_t, Int.toNat_natCast, bytes_eq_iff, mx_max]
    clear hi1 hj1 hj2
    simp only [hrow, g1, g2, g3, hv]
    clear hv
    refine evPos (by omega) (evPos (by omega) (evPos (by omega) (evPos (by omega) (evPos (by omega) ?_))))
    by_cases e : a.getD i em = b.getD j em
    · rw [if_pos e] at hs
      refine evPos e (evPos (by omega) (evPos (by omega) (evPos (by omega) (evPos (by omega) (evPos (by omega) (evPos (by omega) ?_))))))
      rw [show (tv a b (i + 1) (j + 1) : Int) + 1 = (tv a b i j : Int) by omega]
      exact fin
    · rw [if_neg e] at hs
      refine evNeg e (evPos (by omega) (evPos (by omega) (evPos (by omega) (evPos (by omega) (evPos (by omega) (evPos (by omega) (evPos (by omega) ?_)))))))
      rw [show max (tv a b (i + 1) j : Int) (tv a b i (j + 1) : Int) = (tv a b i j : Int) by omega]
      exact fin
theorem iT_l0 : ∀ (d : Nat) (x : Tb), d ≤ a.length → x.length = a.length + 1 → (∀ r, d ≤ r → r ≤ a.length → x.getD r [] = trow a b r) → Ev (fun k => impl_common.l0 k a b x ((d : Int) - 1)) (tbl a b) := by
  intro d
  induction d with
  | zero =>
    intro x hd h1 h2
    refine evStep (fun k => by rw [impl_common.l0]) ?_
    exact evNeg (by omega) (evEq (Ev.now _) (tbl_eq a b x h1 (fun r hr => h2 r (Nat.zero_le _) hr)))
  | succ d ih =>
    intro x hd h1 h2
    have e0 : ((d + 1 : Nat) : Int) - 1 = (d : Int) := by omega
    rw [e0]
    have hw : wrap64 ((b.length : Int) - 1) = (b.length : Int) - 1 := w64 (by omega) (by omega)
    have w2 : wrap64 ((b.length : Int) + 1) = ((b.length + 1 : Nat) : Int) := by rw [w64 (by omega) (by omega)]; omega
    refine evStep (fun k => by rw [impl_common.l0]) ?_
    simp only [hw, w2, Int.toNat_natCast]
    clear hw w2
    have hs : (x.set d (List.replicate (b.length + 1) (0 : Int))).getD d [] = List.replicate (b.length + 1) 0 := set_same (by omega) _ _
    refine evPos (by omega) (evPos (by omega) (evPos (by omega) (evPos (by omega) (evPos (by omega) (iT_l1 a b ha hb _ d (by omega) (fun y hy => ?_) b.length _ (Nat.le_refl _) ⟨by rw [List.length_set]; exact h1, fun r hr hr2 => ?_, by rw [hs]; simp, fun c hc hc2 => ?_⟩)))))
    · exact ih y (by omega) hy.1 (fun r hr hr2 => inv_row a b hy r hr hr2)
    · rw [set_else (by omega)]; exact h2 r (by omega) hr2
    · have e : c = b.length := by omega
      subst e
      rw [hs, zeros_get, tv_j (Nat.le_refl _)]; rfl
theorem iTable : Ev (fun k => impl_common.f k a b) (tbl a b) := by
  have w1 : wrap64 ((a.length : Int) + 1) = ((a.length + 1 : Nat) : Int) := by rw [w64 (by omega) (by omega)]; omega
  have w2 : wrap64 ((b.length : Int) + 1) = ((b.length + 1 : Nat) : Int) := by rw [w64 (by omega) (by omega)]; omega
  have w3 : wrap64 ((a.length : Int) - 1) = (a.length : Int) - 1 := w64 (by omega) (by omega)
  unfold impl_common.f
  simp only [w1, w2, w3, Int.toNat_natCast, List.length_replicate]
  clear w1 w2 w3
  refine evPos (by omega) (evPos (by omega) (evSome ?_))
  rw [List.length_replicate]
  refine evPos (by omega) (evPos (by omega) (evPos (by omega) (evPos (by omega) (iT_l0 a b ha hb a.length _ (Nat.le_refl _) (by rw [List.length_set, List.length_replicate]) (fun r hr hr2 => ?_)))))
  have e : r = a.length := by omega
  subst e
  rw [set_same (by rw [List.length_replicate]; omega)]
  refine row_eq a b _ _ (by simp) (fun c hc => ?_)
  rw [zeros_get, tv_i (Nat.le_refl _)]; rfl
end
end Go.Proofs.Ytafohchkacclpaa.Text
