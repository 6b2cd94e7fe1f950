/- Marks of rows and groups. -/
import Derived.Test.YtafohchkacclpaaB9
import Derived.Test.YtafohchkacclpaaPureRows
import Derived.Test.YtafohchkacclpaaPureMark0
set_option linter.unusedVariables false
set_option linter.unusedSimpArgs false
namespace Go.Proofs.Ytafohchkacclpaa.Text
open Go.RowKit Go.Proofs.YtafohchkacclpaaW.PrintWords Go.Proofs.YtafohchkacclpaaW.PrintLast Go.Proofs.YtafohchkacclpaaW.PrintMore Go.Proofs.Ytafohchkacclpaa.Tools Go.Proofs.Ytafohchkacclpaa.B

open Classical in
noncomputable def mt (n : Int) : ByteArray := if h : ∃ t, Ev (fun k => laws_markText.f k n) t then Classical.choose h else ⟨#[]⟩
theorem markTx (n : Int) (h1 : n ≤ 100000000) : Ev (fun k => laws_markText.f k n) (mt n) := by
  have h := markText n h1
  unfold mt
  rw [dif_pos h]
  exact Classical.choose_spec h
noncomputable def mkRw (n : Int) : Rw := ⟨n, mt (n + 1)⟩
noncomputable def mkRws (m : Nat) : List Rw := (List.range m).map fun (j : Nat) => mkRw (1 + 2 * (j : Int))
theorem mkRws_len (m : Nat) : (mkRws m).length = m := by simp [mkRws]
theorem mkRws_get (m i : Nat) (h : i < m) : (mkRws m).getD i zr = mkRw (1 + 2 * (i : Int)) := by
  unfold mkRws
  simp [List.getD_eq_getElem?_getD, List.getElem?_map, List.getElem?_range h]
theorem markR (l : List Rw) (hl : l.length ≤ 1048576) : Ev (fun k => laws_markRowS.f k l 1) (1 + 2 * (l.length : Int), mkRws l.length) := by
  unfold laws_markRowS.f
  have key := evUp (σ := List Rw × Int) (n := l.length) (R := fun _ _ => (1 + 2 * (l.length : Int), mkRws l.length)) (g := fun s i k => laws_markRowS.l0 k s.1 s.2 (i : Int))
    (fun i s => s.1.length = l.length ∧ s.2 = 1 + 2 * (i : Int) ∧ ∀ j, j < i → s.1.getD j zr = mkRw (1 + 2 * (j : Int))) ?_ ?_ 0 (l, 1) (by omega) ⟨rfl, by simp, fun j hj => by omega⟩
  · exact key
  · rintro ⟨s, n⟩ ⟨h1, h2, h3⟩
    dsimp only at h1 h2 h3 ⊢
    refine evStep (fun k => by rw [laws_markRowS.l0]) ?_
    refine evNeg (by omega) (evEq (Ev.now _) ?_)
    rw [h2]; congr 1
    apply List.ext_getElem
    · rw [h1, mkRws_len]
    · intro j hj hj2
      have := h3 j (by omega)
      rw [List.getD_eq_getElem?_getD, List.getElem?_eq_getElem hj] at this
      have h4 := mkRws_get l.length j (by omega)
      rw [List.getD_eq_getElem?_getD, List.getElem?_eq_getElem hj2] at h4
      simp at this h4
      rw [this, h4]
  · rintro i ⟨s, n⟩ hi ⟨h1, h2, h3⟩ k
    dsimp only at h1 h2 h3 k ⊢
    have hi1 := up1 hi (by omega)
    have hs : i < s.length := by omega
    have e1 : wrap64 (n + 1) = n + 1 := w64 (by omega) (by omega)
    have e2 : wrap64 (n + 1 + 1) = n + 2 := by rw [w64 (by omega) (by omega)]; omega
    refine evStep (fun k => by rw [laws_markRowS.l0]) ?_
    simp only [hi1, e1, e2, Int.toNat_natCast, rd_r]
    clear hi1 e1 e2
    refine evPos (by omega) (evPos (by omega) (evSome (evB (markTx (n + 1) (by omega)) ?_)))
    have hset : ∀ (a b : Rw), (s.set i a).set i b = s.set i b := fun a b => by simp
    have hg : ∀ a : Rw, (s.set i a).getD i zr = a := fun a => by simp [List.getD_eq_getElem?_getD, hs]
    simp only [hg, hset]
    refine k (s.set i (mkRw n), n + 2) ⟨by simpa using h1, by dsimp only; omega, ?_⟩
    intro j hj
    dsimp only
    by_cases hji : j = i
    · subst hji; rw [hg, h2]
    · rw [List.getD_eq_getElem?_getD, List.getElem?_set_ne (by omega), ← List.getD_eq_getElem?_getD]
      exact h3 j (by omega)
theorem heldR (m : Nat) (hm : m ≤ 10000000) : Ev (fun k => laws_heldRowS.f k (mkRws m) 1) (1 + 2 * (m : Int)) := by
  unfold laws_heldRowS.f
  have key := evUp (σ := Int) (n := m) (R := fun _ _ => 1 + 2 * (m : Int)) (g := fun n i k => laws_heldRowS.l0 k (mkRws m) n (i : Int))
    (fun i n => n = 1 + 2 * (i : Int)) ?_ ?_ 0 1 (by omega) (by simp)
  · exact key
  · rintro n h
    refine evStep (fun k => by rw [laws_heldRowS.l0]) ?_
    exact evNeg (by rw [mkRws_len]; omega) (evEq (Ev.now _) h)
  · rintro i n hi h k
    have hi1 := up1 hi (by omega)
    have e1 : wrap64 (n + 1) = n + 1 := w64 (by omega) (by omega)
    have e2 : wrap64 (n + 1 + 1) = n + 2 := by rw [w64 (by omega) (by omega)]; omega
    refine evStep (fun k => by rw [laws_heldRowS.l0]) ?_
    simp only [hi1, e1, e2, rd_r, mkRws_get m i hi, ← h]
    clear hi1 e1 e2
    exact evPos (by rw [mkRws_len]; omega) (evPos (by omega) (evPos rfl (evB (markTx (n + 1) (by omega)) (evPos rfl (k (n + 2) (by omega))))))
theorem markG (a b : Int) (l : List Rw) (hl : l.length ≤ 1048576) : Ev (fun k => laws_markGroup.f k a b l 1) (1 + 2 * (l.length : Int), mkRws l.length) := by
  unfold laws_markGroup.f
  exact evB (markR l hl) (Ev.now _)
theorem heldG (a b : Int) (m : Nat) (hm : m ≤ 10000000) : Ev (fun k => laws_heldGroup.f k a b (mkRws m) 1) (1 + 2 * (m : Int)) := by
  unfold laws_heldGroup.f
  exact evB (heldR m hm) (evNeg (by omega) (Ev.now _))
end Go.Proofs.Ytafohchkacclpaa.Text
