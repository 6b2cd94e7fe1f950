/- The plain law of LoosenGroup: program and reference answer alike, and what is answered is new each time. -/
import Derived.Test.YtafohchkacclpaaB10
import Derived.Test.YtafohchkacclpaaB4
import Derived.Test.YtafohchkacclpaaB7
import Derived.Test.YtafohchkacclpaaB8
import Derived.Test.YtafohchkacclpaaPureGroup
import Derived.Test.YtafohchkacclpaaPureMarkRows
set_option linter.unusedVariables false
set_option linter.unusedSimpArgs false
namespace Go.Proofs.Ytafohchkacclpaa.Pure
open Go.RowKit Go.Proofs.YtafohchkacclpaaW.PrintWords Go.Proofs.YtafohchkacclpaaW.PrintLast Go.Proofs.YtafohchkacclpaaW.PrintMore Go.Proofs.Ytafohchkacclpaa.Tools Go.Proofs.Ytafohchkacclpaa.Text Go.Proofs.Ytafohchkacclpaa.B

theorem any_none : ∀ l : List Rw, anyB l = false → ∀ i, i < l.length → (l.getD i zr).f0 = 1
  | [], _, i, h => absurd h (Nat.not_lt_zero i)
  | r :: l, h, i, hi => by
    have h2 : ((r.f0 != 1) || anyB l) = false := h
    rw [Bool.or_eq_false_iff] at h2
    cases i with
    | zero => exact Decidable.not_not.1 (fun g => by have := h2.1; rw [bne_eq_false_iff_eq] at this; exact g this)
    | succ i => exact any_none l h2.2 i (by simpa using hi)
theorem any_first : ∀ l : List Rw, anyB l = true → ∃ p, p < l.length ∧ (l.getD p zr).f0 ≠ 1 ∧ ∀ i, i < p → (l.getD i zr).f0 = 1
  | [], h => by cases h
  | r :: l, h => by
    by_cases g : r.f0 = 1
    · have h2 : ((r.f0 != 1) || anyB l) = true := h
      have h3 : anyB l = true := by
        rw [bne_eq_false_iff_eq.2 g, Bool.false_or] at h2; exact h2
      obtain ⟨p, hp, h4, h5⟩ := any_first l h3
      refine ⟨p + 1, by rw [List.length_cons]; omega, h4, fun i hi => ?_⟩
      cases i with
      | zero => exact g
      | succ i => exact h5 i (by omega)
    · exact ⟨0, by rw [List.length_cons]; omega, g, fun i hi => absurd hi (Nat.not_lt_zero i)⟩
theorem any_last : ∀ l : List Rw, anyB l = true → ∃ q, q < l.length ∧ (l.getD q zr).f0 ≠ 1 ∧ ∀ i, q < i → i < l.length → (l.getD i zr).f0 = 1
  | [], h => by cases h
  | r :: l, h => by
    by_cases g : anyB l = true
    · obtain ⟨q, hq, h4, h5⟩ := any_last l g
      refine ⟨q + 1, by rw [List.length_cons]; omega, h4, fun i h1 h2 => ?_⟩
      cases i with
      | zero => omega
      | succ i => exact h5 i (by omega) (by simpa using h2)
    · rw [Bool.not_eq_true] at g
      have h2 : ((r.f0 != 1) || anyB l) = true := h
      rw [g, Bool.or_false] at h2
      refine ⟨0, by rw [List.length_cons]; omega, (fun e => by rw [bne_eq_false_iff_eq.2 (show r.f0 = 1 from e)] at h2; cases h2), fun i h1 h3 => ?_⟩
      cases i with
      | zero => omega
      | succ i => exact any_none l g i (by simpa using h3)
abbrev GR := Int × Int × List Rw × Bool
def fin (a b : Int) (rs : List Rw) (n m : Nat) : GR := if groupB (a + (n : Int)) (b + (n : Int)) ((rs.take m).drop n) = true then (a + (n : Int), b + (n : Int), (rs.take m).drop n, true) else (0, 0, [], false)
theorem cut_sm {rs : List Rw} (h : SmR rs) (n m : Nat) : SmR ((rs.take m).drop n) := by
  refine ⟨by rw [List.length_drop, List.length_take]; have := h.1; omega, fun x hx => h.2 x (List.mem_of_mem_take (List.mem_of_mem_drop hx))⟩
theorem s_j4 (a b : Int) (ha : 0 ≤ a ∧ a ≤ 999) (hb : 0 ≤ b ∧ b ≤ 999) (rs : List Rw) (h : SmR rs) (n m : Nat) (h1 : n ≤ m) (h2 : m ≤ rs.length) : Ev (fun k => spec_LoosenGroup.j4 k (n : Int) (m : Int) a b rs) (fin a b rs n m) := by
  have hL := h.1
  have hc := cut_sm h n m
  have hcl := hc.1
  have w1 : wrap64 (a + (n : Int)) = a + (n : Int) := w64 (by omega) (by omega)
  have w2 : wrap64 (b + (n : Int)) = b + (n : Int) := w64 (by omega) (by omega)
  refine evStep (fun k => by rw [spec_LoosenGroup.j4]) ?_
  simp only [w1, w2, Int.toNat_natCast]
  clear w1 w2
  refine evSome (evPos (by omega) (evPos (by omega) (evPos (by omega) (evSome (evPos (by rw [List.length_nil]; omega) (evSome ?_))))))
  rw [List.nil_append]
  refine evB (sGroup _ _ _ hc) ?_
  unfold fin
  exact evIte (fun g => evEq (Ev.now _) (by rw [if_pos g])) (fun g => evEq (Ev.now _) (by rw [if_neg g]))
theorem i_j4 (a b : Int) (ha : 0 ≤ a ∧ a ≤ 999) (hb : 0 ≤ b ∧ b ≤ 999) (rs : List Rw) (h : SmR rs) (n m : Nat) (h1 : n ≤ m) (h2 : m ≤ rs.length) : Ev (fun k => impl_LoosenGroup.j4 k (n : Int) (m : Int) a b rs) (fin a b rs n m) := by
  have hL := h.1
  have hc := cut_sm h n m
  have hcl := hc.1
  have w1 : wrap64 (a + (n : Int)) = a + (n : Int) := w64 (by omega) (by omega)
  have w2 : wrap64 (b + (n : Int)) = b + (n : Int) := w64 (by omega) (by omega)
  have hr : impl_Row.f ((rs.take m).drop n) = some ((rs.take m).drop n) := by
    unfold impl_Row.f
    rw [Option.bind_some, if_pos (by rw [List.length_nil]; omega), List.nil_append]
  refine evStep (fun k => by rw [impl_LoosenGroup.j4]) ?_
  simp only [w1, w2, Int.toNat_natCast]
  clear w1 w2
  refine evPos (by omega) (evPos (by omega) (evPos (by omega) (evBS hr (evB (iGroup _ _ _ hc) ?_))))
  unfold fin
  exact evIte (fun g => evEq (Ev.now _) (by rw [if_pos g])) (fun g => evEq (Ev.now _) (by rw [if_neg g]))
theorem mn_lt (x y z : Int) : x < mn y z ↔ x < y ∧ x < z := by unfold mn; split <;> omega
section
variable (a b M : Int) (rs : List Rw) (R : GR) (hM : 0 ≤ M) (hM2 : M ≤ 9223372036854775807) (hL : rs.length ≤ 1048576)
include hL
theorem s_l1 (n : Nat) (q : Nat) (hq : q < rs.length) (hq1 : (rs.getD q zr).f0 ≠ 1) (hq2 : ∀ i, q < i → i < rs.length → (rs.getD i zr).f0 = 1) (e : Nat) (he : e = if q + 1 ≤ (rs.length : Int) - M then ((rs.length : Int) - M).toNat else q + 1)
    (k4 : Ev (fun k => spec_LoosenGroup.j4 k (n : Int) (e : Int) a b rs) R) : ∀ d m, m - e = d → e ≤ m → m ≤ rs.length → Ev (fun k => spec_LoosenGroup.l1 k M (n : Int) (m : Int) a b rs) R := by
  intro d
  induction d with
  | zero =>
    intro m hd h1 h2
    obtain rfl : m = e := by omega
    have w1 : wrap64 ((rs.length : Int) - (m : Int)) = (rs.length : Int) - (m : Int) := w64 (by omega) (by omega)
    have w2 : wrap64 ((m : Int) - 1) = ((m - 1 : Nat) : Int) := by rw [w64 (by omega) (by omega)]; split at he <;> omega
    refine evStep (fun k => by rw [spec_LoosenGroup.l1]) ?_
    simp only [w1, w2, rd_r]
    clear w1 w2
    by_cases c : (rs.length : Int) - (m : Int) < M
    · have hm : m = q + 1 := by split at he <;> omega
      subst hm
      exact evPos c (evPos (by omega) (evPos (by omega) (evNeg hq1 k4)))
    · exact evNeg c k4
  | succ d ih =>
    intro m hd h1 h2
    have w1 : wrap64 ((rs.length : Int) - (m : Int)) = (rs.length : Int) - (m : Int) := w64 (by omega) (by omega)
    have w2 : wrap64 ((m : Int) - 1) = ((m - 1 : Nat) : Int) := by rw [w64 (by omega) (by omega)]; omega
    refine evStep (fun k => by rw [spec_LoosenGroup.l1]) ?_
    simp only [w1, w2, rd_r]
    clear w1 w2
    have hk := hq2 (m - 1) (by split at he <;> omega) (by omega)
    exact evPos (by split at he <;> omega) (evPos (by omega) (evPos (by omega) (evPos hk (ih (m - 1) (by omega) (by omega) (by omega)))))
theorem i_l1 (n : Nat) (q : Nat) (hnq : n ≤ q) (hq : q < rs.length) (hq1 : (rs.getD q zr).f0 ≠ 1) (hq2 : ∀ i, q < i → i < rs.length → (rs.getD i zr).f0 = 1) (e : Nat) (he : e = if q + 1 ≤ (rs.length : Int) - M then ((rs.length : Int) - M).toNat else q + 1)
    (k4 : Ev (fun k => impl_LoosenGroup.j4 k (n : Int) (e : Int) a b rs) R) : ∀ d m, m - e = d → e ≤ m → m ≤ rs.length → Ev (fun k => impl_LoosenGroup.l1 k M (n : Int) (m : Int) a b rs) R := by
  intro d
  induction d with
  | zero =>
    intro m hd h1 h2
    obtain rfl : m = e := by omega
    have w1 : wrap64 ((rs.length : Int) - (m : Int)) = (rs.length : Int) - (m : Int) := w64 (by omega) (by omega)
    have w2 : wrap64 ((m : Int) - 1) = ((m - 1 : Nat) : Int) := by rw [w64 (by omega) (by omega)]; split at he <;> omega
    refine evStep (fun k => by rw [impl_LoosenGroup.l1]) ?_
    simp only [w1, w2, rd_r]
    clear w1 w2
    by_cases c : (rs.length : Int) - (m : Int) < M
    · have hm : m = q + 1 := by split at he <;> omega
      subst hm
      exact evPos c (evPos (by omega) (evPos (by omega) (evPos (by omega) (evNeg hq1 k4))))
    · exact evNeg c k4
  | succ d ih =>
    intro m hd h1 h2
    have w1 : wrap64 ((rs.length : Int) - (m : Int)) = (rs.length : Int) - (m : Int) := w64 (by omega) (by omega)
    have w2 : wrap64 ((m : Int) - 1) = ((m - 1 : Nat) : Int) := by rw [w64 (by omega) (by omega)]; omega
    refine evStep (fun k => by rw [impl_LoosenGroup.l1]) ?_
    simp only [w1, w2, rd_r]
    clear w1 w2
    have hk := hq2 (m - 1) (by split at he <;> omega) (by omega)
    exact evPos (by split at he <;> omega) (evPos (by split at he <;> omega) (evPos (by omega) (evPos (by omega) (evPos hk (ih (m - 1) (by omega) (by omega) (by omega))))))
include hM hM2
theorem s_l0 (p : Nat) (hp : p < rs.length) (hp1 : (rs.getD p zr).f0 ≠ 1) (hp2 : ∀ i, i < p → (rs.getD i zr).f0 = 1) (e : Nat) (he : e = if M ≤ (p : Int) then M.toNat else p)
    (kj : Ev (fun k => spec_LoosenGroup.j2 k M (e : Int) (rs.length : Int) a b rs) R) : ∀ d i, e - i = d → i ≤ e → Ev (fun k => spec_LoosenGroup.l0 k M (i : Int) (rs.length : Int) a b rs) R := by
  intro d
  induction d with
  | zero =>
    intro i hd h1
    obtain rfl : i = e := by omega
    refine evStep (fun k => by rw [spec_LoosenGroup.l0]) ?_
    simp only [rd_r]
    by_cases c : (i : Int) < M
    · have hm : i = p := by split at he <;> omega
      subst hm
      exact evPos c (evPos (by omega) (evPos (by omega) (evNeg hp1 kj)))
    · exact evNeg c kj
  | succ d ih =>
    intro i hd h1
    have hip : i < p := by split at he <;> omega
    have hi1 := up1 hip (by omega)
    refine evStep (fun k => by rw [spec_LoosenGroup.l0]) ?_
    simp only [rd_r, hi1]
    clear hi1
    exact evPos (by split at he <;> omega) (evPos (by omega) (evPos (by omega) (evPos (hp2 i hip) (ih (i + 1) (by omega) (by omega)))))
theorem i_l0 (p : Nat) (hp : p < rs.length) (hp1 : (rs.getD p zr).f0 ≠ 1) (hp2 : ∀ i, i < p → (rs.getD i zr).f0 = 1) (e : Nat) (he : e = if M ≤ (p : Int) then M.toNat else p)
    (kj : Ev (fun k => impl_LoosenGroup.j2 k M (e : Int) (rs.length : Int) a b rs) R) : ∀ d i, e - i = d → i ≤ e → Ev (fun k => impl_LoosenGroup.l0 k M (i : Int) (rs.length : Int) a b rs) R := by
  intro d
  induction d with
  | zero =>
    intro i hd h1
    obtain rfl : i = e := by omega
    refine evStep (fun k => by rw [impl_LoosenGroup.l0]) ?_
    simp only [rd_r]
    by_cases c : (i : Int) < M
    · have hm : i = p := by split at he <;> omega
      subst hm
      exact evPos ((mn_lt _ _ _).2 ⟨c, by omega⟩) (evPos (by omega) (evPos (by omega) (evNeg hp1 kj)))
    · exact evNeg (fun g => c ((mn_lt _ _ _).1 g).1) kj
  | succ d ih =>
    intro i hd h1
    have hip : i < p := by split at he <;> omega
    have hi1 := up1 hip (by omega)
    refine evStep (fun k => by rw [impl_LoosenGroup.l0]) ?_
    simp only [rd_r, hi1]
    clear hi1
    exact evPos ((mn_lt _ _ _).2 ⟨by split at he <;> omega, by omega⟩) (evPos (by omega) (evPos (by omega) (evPos (hp2 i hip) (ih (i + 1) (by omega) (by omega)))))
end
theorem group_any {a b : Int} {l : List Rw} (h : groupB a b l = true) : anyB l = true := by
  unfold groupB tl at h
  by_cases g : anyB l = true
  · exact g
  · rw [if_neg g, Bool.and_false] at h; cases h
theorem loosen (a b M : Int) (hM1 : M ≤ 9223372036854775807) (rs : List Rw) (h : SmR rs) :
    ∃ r : GR, Ev (fun k => spec_LoosenGroup.f k a b rs M) r ∧ Ev (fun k => impl_LoosenGroup.f k a b rs M) r ∧ r.2.2.1.length ≤ 1048576 := by
  have hL := h.1
  unfold spec_LoosenGroup.f impl_LoosenGroup.f
  by_cases g : groupB a b rs = true
  · by_cases hM : M < 0
    · refine ⟨(0, 0, [], false), evB (sGroup a b rs h) (evPos g ?_), evB (iGroup a b rs h) (evPos g ?_), by simp⟩
      · rw [decide_eq_true hM]
        exact evStep (fun k => by rw [spec_LoosenGroup.j0]) (evPos rfl (Ev.now _))
      · rw [decide_eq_true hM]
        exact evStep (fun k => by rw [impl_LoosenGroup.j0]) (evPos rfl (Ev.now _))
    · have hM0 : 0 ≤ M := by omega
      obtain ⟨ha, hb, h80⟩ := group_in g
      obtain ⟨p, hp, hp1, hp2⟩ := any_first rs (group_any g)
      obtain ⟨q, hq, hq1, hq2⟩ := any_last rs (group_any g)
      have hpq : p ≤ q := by
        by_cases c : q < p
        · exact absurd (hp2 q c) hq1
        · omega
      obtain ⟨n, hn⟩ : ∃ n : Nat, n = if M ≤ (p : Int) then M.toNat else p := ⟨_, rfl⟩
      obtain ⟨m, hm⟩ : ∃ m : Nat, m = if q + 1 ≤ (rs.length : Int) - M then ((rs.length : Int) - M).toNat else q + 1 := ⟨_, rfl⟩
      have hnp : n ≤ p := by split at hn <;> omega
      have hmq : q + 1 ≤ m ∧ m ≤ rs.length := by split at hm <;> omega
      refine ⟨fin a b rs n m, evB (sGroup a b rs h) (evPos g ?_), evB (iGroup a b rs h) (evPos g ?_), ?_⟩
      · rw [decide_eq_false hM]
        refine evStep (fun k => by rw [spec_LoosenGroup.j0]) (evNeg (by simp) ?_)
        refine s_l0 a b M rs _ hM0 hM1 hL p hp hp1 hp2 n hn ?_ n 0 (by omega) (by omega)
        refine evStep (fun k => by rw [spec_LoosenGroup.j2]) ?_
        exact s_l1 a b M rs _ hL n q hq hq1 hq2 m hm (s_j4 a b ha hb rs h n m (by omega) hmq.2) (rs.length - m) rs.length rfl hmq.2 (Nat.le_refl _)
      · rw [decide_eq_false hM]
        refine evStep (fun k => by rw [impl_LoosenGroup.j0]) (evNeg (by simp) ?_)
        refine i_l0 a b M rs _ hM0 hM1 hL p hp hp1 hp2 n hn ?_ n 0 (by omega) (by omega)
        refine evStep (fun k => by rw [impl_LoosenGroup.j2]) ?_
        exact i_l1 a b M rs _ hL n q (by omega) hq hq1 hq2 m hm (i_j4 a b ha hb rs h n m (by omega) hmq.2) (rs.length - m) rs.length rfl hmq.2 (Nat.le_refl _)
      · unfold fin
        split
        · exact (cut_sm h n m).1
        · simp
  · refine ⟨(0, 0, [], false), evB (sGroup a b rs h) (evNeg g ?_), evB (iGroup a b rs h) (evNeg g ?_), by simp⟩
    · exact evStep (fun k => by rw [spec_LoosenGroup.j0]) (evPos rfl (Ev.now _))
    · exact evStep (fun k => by rw [impl_LoosenGroup.j0]) (evPos rfl (Ev.now _))
theorem bne_self {α : Type} [BEq α] [LawfulBEq α] (x : α) : (x != x) = false := by simp
theorem FnExactLoosenGroup : laws_FnExactLoosenGroup.Pure := by
  intro a0 a1 h0 h1
  refine Ev.rounds ?_
  unfold laws_FnExactLoosenGroup.f
  have hM := (wf_i64 h1).2
  obtain ⟨q, hq, hq2, hp⟩ := szG a0.f2 a0.f0 a0.f1 1048576 (by omega) (by omega) h0.2.2.1 (fun x hx => (h0.2.2.2 x hx).2)
  refine evB hq ?_
  by_cases hn : q < 0
  · exact evPos hn (Ev.now _)
  have s1 := hp (by omega)
  have L1 : a0.f2.length ≤ 1048576 := by have := s1.1; rw [List.length_map] at this; exact this
  have t1 := toG a0.f0 a0.f1 a0.f2 L1
  obtain ⟨r, hs, hi, hlen⟩ := loosen a0.f0 a0.f1 a1 hM (a0.f2.map cr) s1
  have eg := eqG r.1 r.2.1 r.2.2.1 hlen
  refine evNeg hn (evB t1 (evB hs (evB t1 (evB hi (evB eg (evPos rfl ?_))))))
  rw [bne_self]
  refine evStep (fun k => by rw [laws_FnExactLoosenGroup.j0]) ?_
  refine evNeg (by simp) (evB t1 (evB (eqG _ _ _ s1.1) (evPos rfl (evB (markG _ _ _ s1.1) (evNeg (by omega) (evB eg (evPos rfl ?_)))))))
  rw [bne_self]
  refine evStep (fun k => by rw [laws_FnExactLoosenGroup.j1]) ?_
  refine evNeg (by simp) (evB (markG _ _ _ hlen) (evB (heldG _ _ _ (by omega)) (evNeg (by omega) (evPos rfl (evB t1 (evB hi (evB eg (evPos rfl ?_))))))))
  rw [bne_self]
  refine evStep (fun k => by rw [laws_FnExactLoosenGroup.j2]) ?_
  exact evNeg (by simp) (evB (heldG _ _ _ (by omega)) (evNeg (by omega) (evPos rfl (Ev.now _))))
end Go.Proofs.Ytafohchkacclpaa.Pure
