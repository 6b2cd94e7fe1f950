/- Equality and marks of lists of numbers. -/
import Derived.Test.YtafohchkacclpaaA3
import Derived.Test.YtafohchkacclpaaA4
import Derived.Test.YtafohchkacclpaaPureText
set_option linter.unusedVariables false
set_option linter.unusedSimpArgs false
namespace Go.Proofs.Ytafohchkacclpaa.Text
open Go.RowKit Go.Proofs.YtafohchkacclpaaW.PrintWords Go.Proofs.YtafohchkacclpaaW.PrintLast Go.Proofs.YtafohchkacclpaaW.PrintMore Go.Proofs.Ytafohchkacclpaa.Tools Go.Proofs.Ytafohchkacclpaa.A

theorem rd_i (l : List Int) (i : Nat) : rd l (i : Int) = l.getD i 0 := rfl
theorem eqI_l0 (a : List Int) (hl : a.length ≤ 1048577) : ∀ i, i ≤ a.length → Ev (fun k => laws_eqIntS.l0 k a a (i : Int)) true := by
  refine evUp0 (R := fun _ => true) ?_ ?_
  · refine evStep (fun k => by rw [laws_eqIntS.l0]) ?_
    exact evNeg (by omega) (Ev.now _)
  · intro i hi k
    have hi1 := up1 hi (by omega)
    refine evStep (fun k => by rw [laws_eqIntS.l0]) ?_
    simp only [hi1]
    exact evPos (by omega) (evPos (by omega) (evPos (by omega) (evPos (by trivial) k)))
theorem eqI (a : List Int) (hl : a.length ≤ 1048577) : Ev (fun k => laws_eqIntS.f k a a) true := by
  unfold laws_eqIntS.f
  exact evPos rfl (eqI_l0 a hl 0 (by omega))
def mkI (m : Nat) : List Int := (List.range m).map fun (j : Nat) => 1 + (j : Int)
theorem mkI_len (m : Nat) : (mkI m).length = m := by simp [mkI]
theorem mkI_get (m i : Nat) (h : i < m) : (mkI m).getD i 0 = 1 + (i : Int) := by
  unfold mkI
  simp [List.getD_eq_getElem?_getD, List.getElem?_map, List.getElem?_range h]
theorem markI (l : List Int) (hl : l.length ≤ 10000000) : Ev (fun k => laws_markIntS.f k l 1) (1 + (l.length : Int), mkI l.length) := by
  unfold laws_markIntS.f
  have key := evUp (σ := List Int × Int) (n := l.length) (R := fun _ _ => (1 + (l.length : Int), mkI l.length)) (g := fun s i k => laws_markIntS.l0 k s.1 s.2 (i : Int))
    (fun i s => s.1.length = l.length ∧ s.2 = 1 + (i : Int) ∧ ∀ j, j < i → s.1.getD j 0 = 1 + (j : Int)) ?_ ?_ 0 (l, 1) (by omega) ⟨rfl, by simp, fun j hj => by omega⟩
  · exact key
  · rintro ⟨s, n⟩ ⟨h1, h2, h3⟩
    dsimp only at h1 h2 h3 ⊢
    refine evStep (fun k => by rw [laws_markIntS.l0]) ?_
    refine evNeg (by omega) (evEq (Ev.now _) ?_)
    rw [h2]; congr 1
    apply List.ext_getElem
    · rw [h1, mkI_len]
    · intro j hj hj2
      have := h3 j (by omega)
      rw [List.getD_eq_getElem?_getD, List.getElem?_eq_getElem hj] at this
      have h4 := mkI_get l.length j (by omega)
      rw [List.getD_eq_getElem?_getD, List.getElem?_eq_getElem hj2] at h4
      simp at this h4
      rw [this, h4]
  · rintro i ⟨s, n⟩ hi ⟨h1, h2, h3⟩ k
    dsimp only at h1 h2 h3 k ⊢
    have hi1 := up1 hi (by omega)
    have e1 : wrap64 (n + 1) = n + 1 := w64 (by omega) (by omega)
    refine evStep (fun k => by rw [laws_markIntS.l0]) ?_
    simp only [hi1, e1, Int.toNat_natCast]
    clear hi1 e1
    refine evPos (by omega) (evPos (by omega) (k (s.set i n, n + 1) ⟨by simpa using h1, by dsimp only; omega, ?_⟩))
    intro j hj
    dsimp only
    by_cases hji : j = i
    · subst hji; rw [h2]; simp [List.getD_eq_getElem?_getD, show j < s.length by omega]
    · rw [List.getD_eq_getElem?_getD, List.getElem?_set_ne (by omega), ← List.getD_eq_getElem?_getD]
      exact h3 j (by omega)
theorem heldI (m : Nat) (hm : m ≤ 10000000) : Ev (fun k => laws_heldIntS.f k (mkI m) 1) (1 + (m : Int)) := by
  unfold laws_heldIntS.f
  have key := evUp (σ := Int) (n := m) (R := fun _ _ => 1 + (m : Int)) (g := fun n i k => laws_heldIntS.l0 k (mkI m) n (i : Int))
    (fun i n => n = 1 + (i : Int)) ?_ ?_ 0 1 (by omega) (by simp)
  · exact key
  · rintro n h
    refine evStep (fun k => by rw [laws_heldIntS.l0]) ?_
    exact evNeg (by rw [mkI_len]; omega) (evEq (Ev.now _) h)
  · rintro i n hi h k
    have hi1 := up1 hi (by omega)
    have e1 : wrap64 (n + 1) = n + 1 := w64 (by omega) (by omega)
    refine evStep (fun k => by rw [laws_heldIntS.l0]) ?_
    simp only [hi1, e1, rd_i, mkI_get m i hi, ← h]
    clear hi1 e1
    exact evPos (by rw [mkI_len]; omega) (evPos (by omega) (evPos (by trivial) (k (n + 1) (by omega))))
end Go.Proofs.Ytafohchkacclpaa.Text
