/- Rows as the laws hand them over: sizes, copies, equality. -/
import Derived.Test.YtafohchkacclpaaB1
import Derived.Test.YtafohchkacclpaaPureText0
set_option linter.unusedVariables false
set_option linter.unusedSimpArgs false
namespace Go.Proofs.Ytafohchkacclpaa.Text
open Go.RowKit Go.Proofs.YtafohchkacclpaaW.PrintWords Go.Proofs.YtafohchkacclpaaW.PrintLast Go.Proofs.YtafohchkacclpaaW.PrintMore Go.Proofs.Ytafohchkacclpaa.Tools Go.Proofs.Ytafohchkacclpaa.B

abbrev Rw := S110
abbrev zr := z110
abbrev LRw := S148
abbrev zlr := z148
theorem rd_r (l : List Rw) (i : Nat) : rd_T110 l (i : Int) = l.getD i zr := rfl
theorem rd_lr (l : List LRw) (i : Nat) : rd_T148 l (i : Int) = l.getD i zlr := rfl
def cr (x : LRw) : Rw := ⟨x.f0, x.f1⟩
def SmR (l : List Rw) : Prop := l.length ≤ 1048576 ∧ ∀ x ∈ l, x.f1.size ≤ 1048576
theorem szR_l0 (l : List LRw) (hl : l.length ≤ 1048576) (hx : ∀ x ∈ l, x.f1.size ≤ 140737488351232) : ∀ d i (s : Int), l.length - i = d → i ≤ l.length → s ≤ 1048576 → 0 ≤ s →
    ∃ r, Ev (fun k => laws_szRowS.l0 k l s (i : Int)) r ∧ r ≤ s ∧ (0 ≤ r → ∀ x ∈ l.drop i, x.f1.size ≤ 1048576) := by
  intro d
  induction d with
  | zero =>
    intro i s hd hi hs h0
    refine ⟨s, ?_, by omega, fun _ x hx => ?_⟩
    · refine evStep (fun k => by rw [laws_szRowS.l0]) ?_
      exact evNeg (by omega) (Ev.now _)
    · rw [List.drop_eq_nil_of_le (by omega)] at hx; cases hx
  | succ d ih =>
    intro i s hd hi hs h0
    have hlt : i < l.length := by omega
    have hm := hx _ (getD_mem hlt zlr)
    have hw : wrap64 (s - ((l.getD i zlr).f1.size : Int)) = s - (l.getD i zlr).f1.size := w64 (by omega) (by omega)
    have hi1 := up1 hlt (by omega)
    by_cases hn : s - ((l.getD i zlr).f1.size : Int) < 0
    · refine ⟨-1, ?_, by omega, fun h => absurd h (by omega)⟩
      refine evStep (fun k => by rw [laws_szRowS.l0]) ?_
      refine evPos (by omega) (evPos (by omega) (evBS (a := (-1 : Int)) ?_ (evPos (by omega) (Ev.now _))))
      simp only [rd_lr, laws_szRow.f, hw, if_pos hn]
    · obtain ⟨r, hr, hle, hp⟩ := ih (i + 1) (s - (l.getD i zlr).f1.size) (by omega) (by omega) (by omega) (by omega)
      refine ⟨r, ?_, by omega, fun h x hx => ?_⟩
      · refine evStep (fun k => by rw [laws_szRowS.l0]) ?_
        refine evPos (by omega) (evPos (by omega) (evBS (a := s - (l.getD i zlr).f1.size) ?_ (evNeg (by omega) ?_)))
        · simp only [rd_lr, laws_szRow.f, hw, if_neg hn]
        · rw [hi1]; exact hr
      · rw [drop_at hlt zlr] at hx
        rcases List.mem_cons.1 hx with rfl | hx
        · omega
        · exact hp h x hx
theorem szR (l : List LRw) (a : Int) (ha0 : 0 ≤ a) (ha : a ≤ 1048576) (h40 : l.length * 24 ≤ 140737488351232) (hx : ∀ x ∈ l, x.f1.size ≤ 140737488351232) :
    ∃ r, Ev (fun k => laws_szRowS.f k l a) r ∧ r ≤ a ∧ (0 ≤ r → SmR (l.map cr)) := by
  have hw : wrap64 (a - (l.length : Int)) = a - l.length := w64 (by omega) (by omega)
  unfold laws_szRowS.f
  simp only [hw]
  by_cases hn : (a - (l.length : Int)) < 0
  · exact ⟨-1, evPos hn (Ev.now _), by omega, fun h => absurd h (by omega)⟩
  · obtain ⟨r, hr, hle, hp⟩ := szR_l0 l (by omega) hx _ 0 (a - l.length) rfl (by omega) (by omega) (by omega)
    refine ⟨r, evNeg hn hr, by omega, fun h => ⟨by rw [List.length_map]; omega, fun x hx => ?_⟩⟩
    obtain ⟨y, hy, rfl⟩ := List.mem_map.1 hx
    exact hp h y (by simpa using hy)
theorem szG (l : List LRw) (a b s : Int) (ha0 : 0 ≤ s) (ha : s ≤ 1048576) (h40 : l.length * 24 ≤ 140737488351232) (hx : ∀ x ∈ l, x.f1.size ≤ 140737488351232) :
    ∃ r, Ev (fun k => laws_szGroup.f k a b l s) r ∧ r ≤ s ∧ (0 ≤ r → SmR (l.map cr)) := by
  obtain ⟨r, hr, hle, hp⟩ := szR l s ha0 ha h40 hx
  unfold laws_szGroup.f
  by_cases h : r < 0
  · exact ⟨-1, evB hr (evPos h (Ev.now _)), by omega, fun h => absurd h (by omega)⟩
  · exact ⟨r, evB hr (evNeg h (Ev.now _)), hle, hp⟩
theorem toR_l0 (l : List LRw) (hl : l.length ≤ 1048576) : ∀ i (acc : List Rw), i ≤ l.length → acc = (l.take i).map cr ++ List.replicate (l.length - i) zr → Ev (fun k => laws_toRowS.l0 k l acc (i : Int)) (l.map cr) := by
  refine evUp (R := fun _ _ => l.map cr) (g := fun acc i k => laws_toRowS.l0 k l acc (i : Int)) (fun i acc => acc = (l.take i).map cr ++ List.replicate (l.length - i) zr) ?_ ?_
  · intro acc h
    subst h
    refine evStep (fun k => by rw [laws_toRowS.l0]) ?_
    refine evNeg (by omega) (evEq (Ev.now _) (by simp))
  · intro i acc hi h k
    have hi1 := up1 hi (by omega)
    have hal : acc.length = l.length := by subst h; simp; omega
    refine evStep (fun k => by rw [laws_toRowS.l0]) ?_
    refine evPos (by omega) (evPos (by omega) (evBS (a := ((l.getD i zlr).f0, (l.getD i zlr).f1)) rfl (evPos (by omega) ?_)))
    rw [hi1]
    refine k _ ?_
    subst h
    have : List.replicate (l.length - i) zr = zr :: List.replicate (l.length - (i + 1)) zr := by rw [← List.replicate_succ]; congr 1; omega
    rw [Int.toNat_natCast, set_take_drop (a := (l.take i).map cr) (b := List.replicate (l.length - (i + 1)) zr) (y := zr) (by simp; omega) _ (by rw [this]) (by simp; omega)]
    rw [List.take_succ_eq_append_getElem hi, List.map_append, List.append_assoc]
    congr 1
    simp [cr, List.getD_eq_getElem?_getD, List.getElem?_eq_getElem hi]
theorem toR (l : List LRw) (hl : l.length ≤ 1048576) : Ev (fun k => laws_toRowS.f k l) (l.map cr) := by
  unfold laws_toRowS.f
  refine evPos (by omega) (evPos (by omega) ?_)
  exact toR_l0 l hl 0 _ (by omega) (by simp)
theorem toG (a b : Int) (l : List LRw) (hl : l.length ≤ 1048576) : Ev (fun k => laws_toGroup.f k a b l) (a, b, l.map cr) := by
  unfold laws_toGroup.f
  exact evB (toR l hl) (Ev.now _)
theorem eqR_l0 (a : List Rw) (hl : a.length ≤ 1048576) : ∀ i, i ≤ a.length → Ev (fun k => laws_eqRowS.l0 k a a (i : Int)) true := by
  refine evUp0 (R := fun _ => true) ?_ ?_
  · refine evStep (fun k => by rw [laws_eqRowS.l0]) ?_
    exact evNeg (by omega) (Ev.now _)
  · intro i hi k
    have hi1 := up1 hi (by omega)
    have he : ∀ (x : Int) (y : ByteArray), laws_eqRow.f x y x y = some true := fun x y => by unfold laws_eqRow.f; rw [if_pos rfl, if_pos rfl]
    refine evStep (fun k => by rw [laws_eqRowS.l0]) ?_
    simp only [hi1, rd_r]
    exact evPos (by omega) (evPos (by omega) (evPos (by omega) (evBS (he _ _) (evPos rfl k))))
theorem eqR (a : List Rw) (hl : a.length ≤ 1048576) : Ev (fun k => laws_eqRowS.f k a a) true := by
  unfold laws_eqRowS.f
  exact evPos rfl (eqR_l0 a hl 0 (by omega))
theorem eqG (a b : Int) (l : List Rw) (hl : l.length ≤ 1048576) : Ev (fun k => laws_eqGroup.f k a b l a b l) true := by
  unfold laws_eqGroup.f
  exact evPos rfl (evPos rfl (evB (eqR l hl) (evPos rfl (Ev.now _))))
end Go.Proofs.Ytafohchkacclpaa.Text
