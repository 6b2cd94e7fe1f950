/- What the functions on ops come to: a plain model of each, and that the printed functions answer as it says. -/
import Derived.Test.YtnhnlfkbngnkpaaC1
import Derived.Test.YtnhnlfkbngnkpaaTools
set_option linter.unusedVariables false
set_option linter.unusedSimpArgs false
namespace Go.Proofs.Ytnhnlfkbngnkpaa.Ops
open Go.RowKit Go.Proofs.YtnhnlfkbngnkpaaW.PrintWords Go.Proofs.YtnhnlfkbngnkpaaW.PrintLast Go.Proofs.YtnhnlfkbngnkpaaW.PrintMore Go.Proofs.Ytnhnlfkbngnkpaa.Tools Go.Proofs.Ytnhnlfkbngnkpaa.C

abbrev OpS := S43
abbrev LOp := S65
abbrev z := z43
abbrev zl := z65
theorem rd_op (l : List OpS) (i : Nat) : rd_T43 l (i : Int) = l.getD i z := rfl
theorem rd_lop (l : List LOp) (i : Nat) : rd_T65 l (i : Int) = l.getD i zl := rfl
noncomputable instance : DecidableEq OpS := fun _ _ => Classical.propDecidable _
def conv (x : LOp) : OpS := ⟨x.f0, x.f1, x.f2, x.f3⟩

/-! ### sizes, copies, equality -/
theorem szOpS_l0 (l : List LOp) (hl : l.length ≤ 1048576) (hx : ∀ x ∈ l, x.f3.size ≤ 140737488351232) : ∀ d i (s : Int), l.length - i = d → i ≤ l.length → s ≤ 1048576 → 0 ≤ s →
    ∃ r, Ev (fun k => laws_szOpS.l0 k l s (i : Int)) r ∧ (0 ≤ r → ∀ x ∈ l.drop i, x.f3.size ≤ 1048576) := by
  intro d
  induction d with
  | zero =>
    intro i s hd hi hs h0
    refine ⟨s, ?_, fun _ x hx => ?_⟩
    · refine evStep (fun k => by rw [laws_szOpS.l0]) ?_
      exact evNeg (by omega) (Ev.now _)
    · rw [List.drop_eq_nil_of_le (by omega)] at hx; cases hx
  | succ d ih =>
    intro i s hd hi hs h0
    have hlt : i < l.length := by omega
    have hm := hx _ (getD_mem hlt zl)
    have hw : wrap64 (s - ((l.getD i zl).f3.size : Int)) = s - (l.getD i zl).f3.size := w64 (by omega) (by omega)
    have hi1 : wrap64 ((i : Int) + 1) = ((i + 1 : Nat) : Int) := by rw [w64 (by omega) (by omega)]; simp
    by_cases hn : s - ((l.getD i zl).f3.size : Int) < 0
    · refine ⟨-1, ?_, fun h => absurd h (by omega)⟩
      refine evStep (fun k => by rw [laws_szOpS.l0]) ?_
      refine evPos (by omega) (evPos (by omega) (evBS (a := (-1 : Int)) ?_ (evPos (by omega) (Ev.now _))))
      simp only [rd_lop, laws_szOp.f, hw, if_pos hn]
    · obtain ⟨r, hr, hp⟩ := ih (i + 1) (s - (l.getD i zl).f3.size) (by omega) (by omega) (by omega) (by omega)
      refine ⟨r, ?_, fun h x hx => ?_⟩
      · refine evStep (fun k => by rw [laws_szOpS.l0]) ?_
        refine evPos (by omega) (evPos (by omega) (evBS (a := s - (l.getD i zl).f3.size) ?_ (evNeg (by omega) ?_)))
        · simp only [rd_lop, laws_szOp.f, hw, if_neg hn]
        · rw [hi1]; exact hr
      · rw [drop_at hlt zl] at hx
        rcases List.mem_cons.1 hx with rfl | hx
        · omega
        · exact hp h x hx
theorem szOpS (l : List LOp) (h40 : l.length * 40 ≤ 140737488351232) (hx : ∀ x ∈ l, x.f3.size ≤ 140737488351232) :
    ∃ r, Ev (fun k => laws_szOpS.f k l 1048576) r ∧ (0 ≤ r → l.length ≤ 1048576 ∧ ∀ x ∈ l, x.f3.size ≤ 1048576) := by
  have hw : wrap64 (1048576 - (l.length : Int)) = 1048576 - l.length := w64 (by omega) (by omega)
  unfold laws_szOpS.f
  simp only [hw]
  by_cases hn : (1048576 - (l.length : Int)) < 0
  · exact ⟨-1, evPos hn (Ev.now _), fun h => absurd h (by omega)⟩
  · obtain ⟨r, hr, hp⟩ := szOpS_l0 l (by omega) hx _ 0 (1048576 - l.length) rfl (by omega) (by omega) (by omega)
    exact ⟨r, evNeg hn hr, fun h => ⟨by omega, fun x hx => hp h x (by simpa using hx)⟩⟩
theorem toOpS_l0 (l : List LOp) (hl : l.length ≤ 7036874417766) : ∀ i (acc : List OpS), i ≤ l.length → acc = (l.take i).map conv ++ List.replicate (l.length - i) z → Ev (fun k => laws_toOpS.l0 k l acc (i : Int)) (l.map conv) := by
  refine evUp (R := fun _ _ => l.map conv) (g := fun acc i k => laws_toOpS.l0 k l acc (i : Int)) (fun i acc => acc = (l.take i).map conv ++ List.replicate (l.length - i) z) ?_ ?_
  · intro acc h
    subst h
    refine evStep (fun k => by rw [laws_toOpS.l0]) ?_
    refine evNeg (by omega) (evEq (Ev.now _) (by simp))
  · intro i acc hi h k
    have hi1 : wrap64 ((i : Int) + 1) = ((i + 1 : Nat) : Int) := by rw [w64 (by omega) (by omega)]; simp
    have hal : acc.length = l.length := by subst h; simp; omega
    refine evStep (fun k => by rw [laws_toOpS.l0]) ?_
    refine evPos (by omega) (evPos (by omega) (evBS (a := ((l.getD i zl).f0, (l.getD i zl).f1, (l.getD i zl).f2, (l.getD i zl).f3)) rfl (evPos (by omega) ?_)))
    rw [hi1]
    refine k _ ?_
    subst h
    have : List.replicate (l.length - i) z = z :: List.replicate (l.length - (i + 1)) z := by rw [← List.replicate_succ]; congr 1; omega
    rw [Int.toNat_natCast, set_take_drop (a := (l.take i).map conv) (b := List.replicate (l.length - (i + 1)) z) (y := z) (by simp; omega) _ (by rw [this]) (by simp; omega)]
    rw [List.take_succ_eq_append_getElem hi, List.map_append, List.append_assoc]
    congr 1
    simp [conv, List.getD_eq_getElem?_getD, List.getElem?_eq_getElem hi]
theorem toOpS (l : List LOp) (hl : l.length ≤ 7036874417766) : Ev (fun k => laws_toOpS.f k l) (l.map conv) := by
  unfold laws_toOpS.f
  refine evPos (by omega) (evPos (by omega) ?_)
  exact toOpS_l0 l hl 0 _ (by omega) (by simp)
theorem eqOp (a b : OpS) : laws_eqOp.f a.f0 a.f1 a.f2 a.f3 b.f0 b.f1 b.f2 b.f3 = some (decide (a = b)) := by
  unfold laws_eqOp.f
  obtain ⟨a0, a1, a2, a3⟩ := a
  obtain ⟨b0, b1, b2, b3⟩ := b
  simp only [bytes_eq_iff, S43.mk.injEq]
  repeat' split
  all_goals simp_all
theorem eqOpS_l0 (a b : List OpS) (he : a.length = b.length) (hl : a.length ≤ 7036874417766) : ∀ i, i ≤ a.length → Ev (fun k => laws_eqOpS.l0 k a b (i : Int)) (decide (a.drop i = b.drop i)) := by
  refine evUp0 ?_ ?_
  · refine evStep (fun k => by rw [laws_eqOpS.l0]) ?_
    refine evNeg (by omega) (evEq (Ev.now _) (by simp [List.drop_eq_nil_of_le (Nat.le_refl a.length), List.drop_eq_nil_of_le (Nat.le_of_eq he.symm)]))
  · intro i hi k
    have hi1 : wrap64 ((i : Int) + 1) = ((i + 1 : Nat) : Int) := by rw [w64 (by omega) (by omega)]; simp
    refine evStep (fun k => by rw [laws_eqOpS.l0]) ?_
    refine evPos (by omega) (evPos (by omega) (evPos (by omega) (evBS (eqOp _ _) ?_)))
    simp only [rd_op, hi1]
    have hib : i < b.length := by omega
    by_cases h : a.getD i z = b.getD i z
    · exact evPos (decide_eq_true h) (evEq k (by simp only [drop_at hi z, drop_at hib z, List.cons.injEq, h, true_and]))
    · exact evNeg (by simpa using h) (evEq (Ev.now _) (by simp only [drop_at hi z, drop_at hib z, List.cons.injEq, h, false_and, decide_false]))
theorem eqOpS (a b : List OpS) (hl : a.length ≤ 7036874417766) : Ev (fun k => laws_eqOpS.f k a b) (decide (a = b)) := by
  unfold laws_eqOpS.f
  by_cases he : a.length = b.length
  · exact evPos (by omega) (evEq (eqOpS_l0 a b he hl 0 (by omega)) (by simp))
  · exact evNeg (by omega) (evEq (Ev.now _) (by rw [eq_comm, decide_eq_false]; rintro rfl; exact he rfl))
end Go.Proofs.Ytnhnlfkbngnkpaa.Ops

