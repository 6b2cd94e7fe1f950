/- What the functions on lists of texts come to: sizes, copies, equality. -/
import Derived.Test.YtafohchkacclpaaC1
import Derived.Test.YtafohchkacclpaaPureText0
set_option linter.unusedVariables false
set_option linter.unusedSimpArgs false
namespace Go.Proofs.Ytafohchkacclpaa.Text
open Go.RowKit Go.Proofs.YtafohchkacclpaaW.PrintWords Go.Proofs.YtafohchkacclpaaW.PrintLast Go.Proofs.YtafohchkacclpaaW.PrintMore Go.Proofs.Ytafohchkacclpaa.Tools Go.Proofs.Ytafohchkacclpaa.C

theorem sz_l0 (l : T) (hl : l.length ≤ 1048576) (hx : ∀ x ∈ l, x.size ≤ 140737488351232) : ∀ d i (s : Int), l.length - i = d → i ≤ l.length → s ≤ 1048576 → 0 ≤ s →
    ∃ r, Ev (fun k => laws_szStringS.l0 k l s (i : Int)) r ∧ r ≤ s ∧ (0 ≤ r → ∀ x ∈ l.drop i, x.size ≤ 1048576) := by
  intro d
  induction d with
  | zero =>
    intro i s hd hi hs h0
    refine ⟨s, ?_, by omega, fun _ x hx => ?_⟩
    · refine evStep (fun k => by rw [laws_szStringS.l0]) ?_
      exact evNeg (by omega) (Ev.now _)
    · rw [List.drop_eq_nil_of_le (by omega)] at hx; cases hx
  | succ d ih =>
    intro i s hd hi hs h0
    have hlt : i < l.length := by omega
    have hm := hx _ (getD_mem hlt em)
    have hw : wrap64 (s - ((l.getD i em).size : Int)) = s - (l.getD i em).size := w64 (by omega) (by omega)
    have hi1 := up1 hlt (by omega)
    by_cases hn : s - ((l.getD i em).size : Int) < 0
    · refine ⟨-1, ?_, by omega, fun h => absurd h (by omega)⟩
      refine evStep (fun k => by rw [laws_szStringS.l0]) ?_
      simp only [rd_t, hw]
      exact evPos (by omega) (evPos (by omega) (evPos hn (Ev.now _)))
    · obtain ⟨r, hr, hle, hp⟩ := ih (i + 1) (s - (l.getD i em).size) (by omega) (by omega) (by omega) (by omega)
      refine ⟨r, ?_, by omega, fun h x hx => ?_⟩
      · refine evStep (fun k => by rw [laws_szStringS.l0]) ?_
        simp only [rd_t, hw, hi1]
        exact evPos (by omega) (evPos (by omega) (evNeg hn hr))
      · rw [drop_at hlt em] at hx
        rcases List.mem_cons.1 hx with rfl | hx
        · omega
        · exact hp h x hx
theorem sz (l : T) (a : Int) (ha0 : 0 ≤ a) (ha : a ≤ 1048576) (h40 : l.length * 16 ≤ 140737488351232) (hx : ∀ x ∈ l, x.size ≤ 140737488351232) :
    ∃ r, Ev (fun k => laws_szStringS.f k l a) r ∧ r ≤ a ∧ (0 ≤ r → Sm l) := by
  have hw : wrap64 (a - (l.length : Int)) = a - l.length := w64 (by omega) (by omega)
  unfold laws_szStringS.f
  simp only [hw]
  by_cases hn : (a - (l.length : Int)) < 0
  · exact ⟨-1, evPos hn (Ev.now _), by omega, fun h => absurd h (by omega)⟩
  · obtain ⟨r, hr, hle, hp⟩ := sz_l0 l (by omega) hx _ 0 (a - l.length) rfl (by omega) (by omega) (by omega)
    exact ⟨r, evNeg hn hr, by omega, fun h => ⟨by omega, fun x hx => hp h x (by simpa using hx)⟩⟩
theorem toT_l0 (l : T) (hl : l.length ≤ 1048576) : ∀ i (acc : T), i ≤ l.length → acc = l.take i ++ List.replicate (l.length - i) em → Ev (fun k => laws_toStringS.l0 k l acc (i : Int)) l := by
  refine evUp (R := fun _ _ => l) (g := fun acc i k => laws_toStringS.l0 k l acc (i : Int)) (fun i acc => acc = l.take i ++ List.replicate (l.length - i) em) ?_ ?_
  · intro acc h
    subst h
    refine evStep (fun k => by rw [laws_toStringS.l0]) ?_
    exact evNeg (by omega) (evEq (Ev.now _) (by simp))
  · intro i acc hi h k
    have hi1 := up1 hi (by omega)
    have hal : acc.length = l.length := by subst h; simp; omega
    refine evStep (fun k => by rw [laws_toStringS.l0]) ?_
    simp only [rd_t, hi1, Int.toNat_natCast]
    refine evPos (by omega) (evPos (by omega) (evPos (by omega) (k _ ?_)))
    subst h
    have : List.replicate (l.length - i) em = em :: List.replicate (l.length - (i + 1)) em := by rw [← List.replicate_succ]; congr 1; omega
    rw [set_take_drop (a := l.take i) (b := List.replicate (l.length - (i + 1)) em) (y := em) (by simp; omega) _ (by rw [this]) (by simp; omega)]
    rw [List.take_succ_eq_append_getElem hi, List.append_assoc]
    congr 1
    simp [List.getD_eq_getElem?_getD, List.getElem?_eq_getElem hi]
theorem toT (l : T) (hl : l.length ≤ 1048576) : Ev (fun k => laws_toStringS.f k l) l := by
  unfold laws_toStringS.f
  exact evPos (by omega) (evPos (by omega) (toT_l0 l hl 0 _ (by omega) (by rw [Int.toNat_natCast, List.take_zero, List.nil_append, Nat.sub_zero]; rfl)))
theorem eqT_l0 (a b : T) (he : a.length = b.length) (hl : a.length ≤ 1048576) : ∀ i, i ≤ a.length → Ev (fun k => laws_eqStringS.l0 k a b (i : Int)) (decide (a.drop i = b.drop i)) := by
  refine evUp0 ?_ ?_
  · refine evStep (fun k => by rw [laws_eqStringS.l0]) ?_
    refine evNeg (by omega) (evEq (Ev.now _) (by simp [List.drop_eq_nil_of_le (Nat.le_refl a.length), List.drop_eq_nil_of_le (Nat.le_of_eq he.symm)]))
  · intro i hi k
    have hi1 := up1 hi (by omega)
    have hib : i < b.length := by omega
    refine evStep (fun k => by rw [laws_eqStringS.l0]) ?_
    simp only [rd_t, hi1, bytes_eq_iff]
    refine evPos (by omega) (evPos (by omega) (evPos (by omega) ?_))
    by_cases h : a.getD i em = b.getD i em
    · exact evPos h (evEq k (by simp only [drop_at hi em, drop_at hib em, List.cons.injEq, h, true_and]))
    · exact evNeg h (evEq (Ev.now _) (by simp only [drop_at hi em, drop_at hib em, List.cons.injEq, h, false_and, decide_false]))
theorem eqT (a b : T) (hl : a.length ≤ 1048576) : Ev (fun k => laws_eqStringS.f k a b) (decide (a = b)) := by
  unfold laws_eqStringS.f
  by_cases he : a.length = b.length
  · exact evPos (by omega) (evEq (eqT_l0 a b he hl 0 (by omega)) (by simp))
  · exact evNeg (by omega) (evEq (Ev.now _) (by rw [eq_comm, decide_eq_false]; rintro rfl; exact he rfl))
theorem eqT_self (a : T) (hl : a.length ≤ 1048576) : Ev (fun k => laws_eqStringS.f k a a) true := evEq (eqT a a hl) (by simp)
end Go.Proofs.Ytafohchkacclpaa.Text
