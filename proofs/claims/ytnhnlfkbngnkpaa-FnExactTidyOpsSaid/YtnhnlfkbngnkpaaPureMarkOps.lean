/- Marks: what is laid into a result stands there afterwards, for ops. -/
import Derived.Test.YtnhnlfkbngnkpaaC1
import Derived.Test.YtnhnlfkbngnkpaaC2
import Derived.Test.YtnhnlfkbngnkpaaPureOps1
set_option linter.unusedVariables false
set_option linter.unusedSimpArgs false
namespace Go.Proofs.Ytnhnlfkbngnkpaa.Ops
open Go.RowKit Go.Proofs.YtnhnlfkbngnkpaaW.PrintWords Go.Proofs.YtnhnlfkbngnkpaaW.PrintLast Go.Proofs.YtnhnlfkbngnkpaaW.PrintMore Go.Proofs.Ytnhnlfkbngnkpaa.Tools Go.Proofs.Ytnhnlfkbngnkpaa.C

theorem strOf_size1 (x : Int) : (strOfNums [x]).size = 1 := by simp [strOfNums, ByteArray.size]
theorem markText_l0 : ∀ (d : Nat) (n : Int) (s : ByteArray), 0 ≤ n → n ≤ d → d ≤ 1000000000 → s.size + n.toNat ≤ 1000000000 → ∃ t, Ev (fun k => laws_markText.l0 k n s) t := by
  intro d
  induction d using Nat.strongRecOn with
  | _ d ih =>
    intro n s h0 hd hd2 hs
    by_cases hn : n > 0
    · have hq : Int.tdiv n 10 = n / 10 := Int.tdiv_eq_ediv_of_nonneg h0
      have hw : wrap64 (Int.tdiv n 10) = n / 10 := by rw [hq]; exact w64 (by omega) (by omega)
      obtain ⟨t, ht⟩ := ih (n / 10).toNat (by omega) (n / 10) (strOfNums [(wrap64 (48 + (Int.tmod n 10))) % 256] ++ s) (by omega) (by omega) (by omega) (by rw [ByteArray.size_append, strOf_size1]; omega)
      refine ⟨t, evStep (fun k => by rw [laws_markText.l0]) ?_⟩
      rw [hw]
      clear hw
      exact evPos hn (evSome (evPos (by rw [strOf_size1]; omega) ht))
    · refine ⟨(⟨#[109]⟩ : ByteArray) ++ s, evStep (fun k => by rw [laws_markText.l0]) ?_⟩
      exact evNeg hn (evPos (by omega) (Ev.now _))
open Classical in
noncomputable def mt (n : Int) : ByteArray := if h : ∃ t, Ev (fun k => laws_markText.f k n) t then Classical.choose h else ⟨#[]⟩
theorem markText (n : Int) (h0 : 0 ≤ n) (h1 : n ≤ 100000000) : Ev (fun k => laws_markText.f k n) (mt n) := by
  have h : ∃ t, Ev (fun k => laws_markText.f k n) t := by
    by_cases hn : n ≤ 0
    · exact ⟨_, by unfold laws_markText.f; exact evPos hn (Ev.now _)⟩
    · obtain ⟨t, ht⟩ := markText_l0 n.toNat n ⟨#[]⟩ h0 (by omega) (by omega) (by have : (⟨#[]⟩ : ByteArray).size = 0 := rfl; omega)
      exact ⟨t, by unfold laws_markText.f; exact evNeg hn ht⟩
  unfold mt
  rw [dif_pos h]
  exact Classical.choose_spec h

noncomputable def mkOp (n : Int) : OpS := ⟨n, n + 1, n + 2, mt (n + 3)⟩
noncomputable def mkOps (m : Nat) (n : Int) : List OpS := (List.range m).map fun (j : Nat) => mkOp (n + 4 * (j : Int))
theorem mkOps_len (m : Nat) (n : Int) : (mkOps m n).length = m := by simp [mkOps]
theorem mkOps_get (m : Nat) (n : Int) (i : Nat) (h : i < m) : (mkOps m n).getD i z = mkOp (n + 4 * (i : Int)) := by
  unfold mkOps
  simp [List.getD_eq_getElem?_getD, List.getElem?_map, List.getElem?_range h]
theorem set_getD {α : Type} {l : List α} {i : Nat} (h : i < l.length) (x y : α) : (l.set i x).getD i y = x := by
  simp [List.getD_eq_getElem?_getD, h]
theorem wadd {a b : Int} (h : -9000000000000000000 ≤ a + b) (h2 : a + b ≤ 9000000000000000000) : wrap64 (a + b) = a + b := w64 (by omega) (by omega)
theorem markOpS (l : List OpS) (hl : l.length ≤ 10000000) : Ev (fun k => laws_markOpS.f k l 1) (1 + 4 * (l.length : Int), mkOps l.length 1) := by
  unfold laws_markOpS.f
  have key := evUp (σ := List OpS × Int) (n := l.length) (R := fun _ _ => (1 + 4 * (l.length : Int), mkOps l.length 1)) (g := fun s i k => laws_markOpS.l0 k s.1 s.2 (i : Int))
    (fun i s => s.1.length = l.length ∧ s.2 = 1 + 4 * (i : Int) ∧ ∀ j, j < i → s.1.getD j z = mkOp (1 + 4 * (j : Int))) ?_ ?_ 0 (l, 1) (by omega) ⟨rfl, by simp, fun j hj => by omega⟩
  · exact key
  · rintro ⟨s, n⟩ ⟨h1, h2, h3⟩
    dsimp only at h1 h2 h3 ⊢
    refine evStep (fun k => by rw [laws_markOpS.l0]) ?_
    refine evNeg (by omega) (evEq (Ev.now _) ?_)
    rw [h2]; congr 1
    apply List.ext_getElem
    · rw [h1, mkOps_len]
    · intro j hj hj2
      have := h3 j (by omega)
      rw [List.getD_eq_getElem?_getD, List.getElem?_eq_getElem hj] at this
      have h4 := mkOps_get l.length 1 j (by omega)
      rw [List.getD_eq_getElem?_getD, List.getElem?_eq_getElem hj2] at h4
      simp at this h4
      rw [this, h4]
  · rintro i ⟨s, n⟩ hi ⟨h1, h2, h3⟩ k
    dsimp only at h1 h2 h3 k ⊢
    have hi1 : wrap64 ((i : Int) + 1) = ((i + 1 : Nat) : Int) := by rw [w64 (by omega) (by omega)]; simp
    have hs : i < s.length := by omega
    have e1 : wrap64 (n + 1) = n + 1 := wadd (by omega) (by omega)
    have e2 : wrap64 (n + 1 + 1) = n + 2 := by rw [wadd (by omega) (by omega)]; omega
    have e3 : wrap64 (n + 2 + 1) = n + 3 := by rw [wadd (by omega) (by omega)]; omega
    have e4 : wrap64 (n + 3 + 1) = n + 4 := by rw [wadd (by omega) (by omega)]; omega
    have E := Aside0.mk (And.intro hi1 (And.intro e1 (And.intro e2 (And.intro e3 e4))))
    clear hi1 e1 e2 e3 e4
    refine evStep (fun k => by rw [laws_markOpS.l0]) ?_
    simp only [E.out.1, E.out.2.1, E.out.2.2.1, E.out.2.2.2.1, E.out.2.2.2.2, Int.toNat_natCast, rd_op]
    clear E
    refine evPos (by omega) (evPos (by omega) (evSome (evSome (evSome (evB (markText (n + 3) (by omega) (by omega)) ?_)))))
    have hset : ∀ (a b : OpS), (s.set i a).set i b = s.set i b := fun a b => by simp
    have hg : ∀ a : OpS, (s.set i a).getD i z = a := fun a => set_getD hs a z
    simp only [hg, hset]
    refine k (s.set i (mkOp n), n + 4) ⟨by simpa using h1, by dsimp only; omega, ?_⟩
    intro j hj
    dsimp only
    by_cases hji : j = i
    · subst hji; rw [hg, h2]
    · rw [List.getD_eq_getElem?_getD, List.getElem?_set_ne (by omega), ← List.getD_eq_getElem?_getD]
      exact h3 j (by omega)
theorem heldOpS (m : Nat) (hm : m ≤ 10000000) : Ev (fun k => laws_heldOpS.f k (mkOps m 1) 1) (1 + 4 * (m : Int)) := by
  unfold laws_heldOpS.f
  have key := evUp (σ := Int) (n := m) (R := fun _ _ => 1 + 4 * (m : Int)) (g := fun n i k => laws_heldOpS.l0 k (mkOps m 1) n (i : Int))
    (fun i n => n = 1 + 4 * (i : Int)) ?_ ?_ 0 1 (by omega) (by simp)
  · exact key
  · rintro n h
    refine evStep (fun k => by rw [laws_heldOpS.l0]) ?_
    exact evNeg (by rw [mkOps_len]; omega) (evEq (Ev.now _) h)
  · rintro i n hi h k
    have hi1 : wrap64 ((i : Int) + 1) = ((i + 1 : Nat) : Int) := by rw [w64 (by omega) (by omega)]; simp
    have e1 : wrap64 (n + 1) = n + 1 := wadd (by omega) (by omega)
    have e2 : wrap64 (n + 1 + 1) = n + 2 := by rw [wadd (by omega) (by omega)]; omega
    have e3 : wrap64 (n + 2 + 1) = n + 3 := by rw [wadd (by omega) (by omega)]; omega
    have e4 : wrap64 (n + 3 + 1) = n + 4 := by rw [wadd (by omega) (by omega)]; omega
    have E := Aside0.mk (And.intro hi1 (And.intro e1 (And.intro e2 (And.intro e3 e4))))
    clear hi1 e1 e2 e3 e4
    refine evStep (fun k => by rw [laws_heldOpS.l0]) ?_
    simp only [E.out.1, E.out.2.1, E.out.2.2.1, E.out.2.2.2.1, E.out.2.2.2.2, rd_op, mkOps_get m 1 i hi, ← h]
    clear E
    refine evPos (by rw [mkOps_len]; omega) (evPos (by omega) (evPos rfl (evPos rfl (evPos rfl (evB (markText (n + 3) (by omega) (by omega)) (evPos rfl ?_))))))
    exact k (n + 4) (by omega)
end Go.Proofs.Ytnhnlfkbngnkpaa.Ops
