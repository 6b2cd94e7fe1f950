/- What is different between two texts: both answer with the same hunks. -/
import Derived.Test.YtafohchkacclpaaC1
import Derived.Test.YtafohchkacclpaaC2
import Derived.Test.YtafohchkacclpaaC4
import Derived.Test.YtafohchkacclpaaC5
import Derived.Test.YtafohchkacclpaaC6
import Derived.Test.YtafohchkacclpaaC8
import Derived.Test.YtafohchkacclpaaPurePairs
set_option linter.unusedVariables false
set_option linter.unusedSimpArgs false
namespace Go.Proofs.Ytafohchkacclpaa.Text
open Go.RowKit Go.Proofs.YtafohchkacclpaaW.PrintWords Go.Proofs.YtafohchkacclpaaW.PrintLast Go.Proofs.YtafohchkacclpaaW.PrintMore Go.Proofs.Ytafohchkacclpaa.Tools Go.Proofs.Ytafohchkacclpaa.C

abbrev Hk := S119
theorem ownT (l : T) (h : l.length ≤ 1048576) : spec_l1OwnT.f l = some l := by
  unfold spec_l1OwnT.f
  rw [Option.bind_some, List.nil_append, if_pos (show (([] : T).length + l.length < _) by rw [List.length_nil]; omega)]
theorem cloneT (l : T) (h : l.length ≤ 1048576) : slices_Clone_string_string.f l = some l := by
  unfold slices_Clone_string_string.f
  rw [Option.bind_some, List.nil_append, if_pos (show (([] : T).length + l.length < _) by rw [List.length_nil]; omega)]
theorem cloneI (l : Tb) (h : l.length ≤ 1048576) : slices_Clone_int_int.f l = some l := by
  unfold slices_Clone_int_int.f
  rw [Option.bind_some, List.nil_append, if_pos (show (([] : Tb).length + l.length < _) by rw [List.length_nil]; omega)]
/-- Hunks between pairs of places. -/
def jm (b : T) : Nat → Nat → List (Nat × Nat) → List Hk
  | _, _, [] => []
  | i, j, (p, q) :: l => (if i < p ∨ j < q then [⟨(i : Int), (p : Int) - (i : Int), (b.take q).drop j⟩] else []) ++ jm b (p + 1) (q + 1) l
theorem jm_cons (b : T) (i j p q : Nat) (l : List (Nat × Nat)) : jm b i j ((p, q) :: l) = (if i < p ∨ j < q then [⟨(i : Int), (p : Int) - (i : Int), (b.take q).drop j⟩] else []) ++ jm b (p + 1) (q + 1) l := rfl
def Ch (la lb : Nat) : Nat → Nat → List (Nat × Nat) → Prop
  | _, _, [] => True
  | i, j, (p, q) :: l => i ≤ p ∧ j ≤ q ∧ p ≤ la ∧ q ≤ lb ∧ Ch la lb (p + 1) (q + 1) l
theorem ch_of (a b : T) : ∀ (l : List (Nat × Nat)) (i j : Nat), i ≤ a.length → j ≤ b.length → PR a b i j l → Ch a.length b.length i j (l ++ [(a.length, b.length)]) := by
  intro l
  induction l with
  | nil => intro i j hi hj h; exact ⟨hi, hj, Nat.le_refl _, Nat.le_refl _, trivial⟩
  | cons p l ih =>
    obtain ⟨p, q⟩ := p
    intro i j hi hj h
    have h1 := h.1.hpa
    have h2 := h.1.hqb
    exact ⟨h.1.hip, h.1.hjq, by omega, by omega, ih (p + 1) (q + 1) (by omega) (by omega) h.2⟩
theorem cvS_get (pre : List (Nat × Nat)) (p q : Nat) (l : List (Nat × Nat)) : rd_T164 (cvS (pre ++ (p, q) :: l)) (pre.length : Int) = ⟨(p : Int), (q : Int)⟩ := by
  unfold rd_T164 cvS
  simp [List.getD_eq_getElem?_getD]
theorem cvI_get (pre : List (Nat × Nat)) (p q : Nat) (l : List (Nat × Nat)) : rd_L5 (cvI (pre ++ (p, q) :: l)) (pre.length : Int) = [(p : Int), (q : Int)] := by
  unfold rd_L5 cvI
  simp [List.getD_eq_getElem?_getD]
theorem cvS_len (l : List (Nat × Nat)) : (cvS l).length = l.length := by simp [cvS]
theorem cvI_len (l : List (Nat × Nat)) : (cvI l).length = l.length := by simp [cvI]
section
variable (b : T) (la : Nat) (hla : la ≤ 1000) (hb : b.length ≤ 1000) (full : List (Nat × Nat)) (hf : full.length ≤ 10000)
include hla hb hf
theorem sJoin_l0 : ∀ (rest pre : List (Nat × Nat)) (acc : List Hk) (i j : Nat), full = pre ++ rest → Ch la b.length i j rest → acc.length + rest.length ≤ 100000 → i ≤ la + 1 → j ≤ b.length + 1 →
    Ev (fun k => spec_l2Join.l0 k b acc (i : Int) (j : Int) (cvS full) (full.length : Int) (pre.length : Int)) (acc ++ jm b i j rest) := by
  intro rest
  induction rest with
  | nil =>
    intro pre acc i j hfull hc ha hi hj
    have e : full.length = pre.length := by rw [hfull]; simp
    refine evStep (fun k => by rw [spec_l2Join.l0]) ?_
    exact evNeg (by omega) (evEq (Ev.now _) (by simp [jm]))
  | cons p rest ih =>
    obtain ⟨p, q⟩ := p
    intro pre acc i j hfull hc ha hi hj
    obtain ⟨h1, h2, h3, h4, hc⟩ := hc
    have e : full.length = pre.length + (rest.length + 1) := by rw [hfull]; simp
    rw [List.length_cons] at ha
    have hg := cvS_get pre p q rest
    rw [← hfull] at hg
    have nx : ∀ acc2 : List Hk, acc2.length ≤ acc.length + 1 → Ev (fun k => spec_l2Join.l0 k b acc2 ((p + 1 : Nat) : Int) ((q + 1 : Nat) : Int) (cvS full) (full.length : Int) ((pre.length + 1 : Nat) : Int)) (acc2 ++ jm b (p + 1) (q + 1) rest) := by
      intro acc2 h5
      have := ih (pre ++ [(p, q)]) acc2 (p + 1) (q + 1) (by rw [hfull, List.append_assoc]; rfl) hc (by omega) (by omega) (by omega)
      rwa [List.length_append, List.length_singleton] at this
    have ho := ownT ((b.take q).drop j) (by rw [List.length_drop, List.length_take]; omega)
    have hL := cvS_len full
    have w : wrap64 ((p : Int) + 1) = ((p + 1 : Nat) : Int) ∧ wrap64 ((q : Int) + 1) = ((q + 1 : Nat) : Int) ∧ wrap64 ((pre.length : Int) + 1) = ((pre.length + 1 : Nat) : Int) ∧ wrap64 ((p : Int) - (i : Int)) = (p : Int) - (i : Int) :=
      ⟨by rw [w64 (by omega) (by omega)]; omega, by rw [w64 (by omega) (by omega)]; omega, by rw [w64 (by omega) (by omega)]; omega, w64 (by omega) (by omega)⟩
    refine evStep (fun k => by rw [spec_l2Join.l0]) ?_
    simp only [hg, w.1, w.2.1, w.2.2.1, w.2.2.2, Int.toNat_natCast]
    clear w
    refine evPos (by omega) (evPos (by omega) (evPos (by omega) ?_))
    by_cases c1 : i < p
    · refine evPos (by omega) (evPos (by omega) (evPos (by omega) (evPos (by omega) (evBS ho (evPos (by omega) (evEq (nx _ (by simp)) ?_))))))
      rw [List.append_assoc, jm_cons, if_pos (Or.inl c1)]
    · refine evNeg (by omega) ?_
      by_cases c2 : j < q
      · refine evPos (by omega) (evPos (by omega) (evPos (by omega) (evPos (by omega) (evBS ho (evPos (by omega) (evEq (nx _ (by simp)) ?_))))))
        rw [List.append_assoc, jm_cons, if_pos (Or.inr c2)]
      · refine evNeg (by omega) (evEq (nx _ (by omega)) ?_)
        rw [jm_cons, if_neg (show ¬ (i < p ∨ j < q) by omega), List.nil_append]
theorem iJoin_l0 : ∀ (rest pre : List (Nat × Nat)) (acc : List Hk) (i j : Nat), full = pre ++ rest → Ch la b.length i j rest → acc.length + rest.length ≤ 100000 → i ≤ la + 1 → j ≤ b.length + 1 →
    Ev (fun k => impl_between.l0 k b acc (i : Int) (j : Int) (cvI full) (full.length : Int) (pre.length : Int)) (acc ++ jm b i j rest) := by
  intro rest
  induction rest with
  | nil =>
    intro pre acc i j hfull hc ha hi hj
    have e : full.length = pre.length := by rw [hfull]; simp
    refine evStep (fun k => by rw [impl_between.l0]) ?_
    exact evNeg (by omega) (evEq (Ev.now _) (by simp [jm]))
  | cons p rest ih =>
    obtain ⟨p, q⟩ := p
    intro pre acc i j hfull hc ha hi hj
    obtain ⟨h1, h2, h3, h4, hc⟩ := hc
    have e : full.length = pre.length + (rest.length + 1) := by rw [hfull]; simp
    rw [List.length_cons] at ha
    have hg := cvI_get pre p q rest
    rw [← hfull] at hg
    have nx : ∀ acc2 : List Hk, acc2.length ≤ acc.length + 1 → Ev (fun k => impl_between.l0 k b acc2 ((p + 1 : Nat) : Int) ((q + 1 : Nat) : Int) (cvI full) (full.length : Int) ((pre.length + 1 : Nat) : Int)) (acc2 ++ jm b (p + 1) (q + 1) rest) := by
      intro acc2 h5
      have := ih (pre ++ [(p, q)]) acc2 (p + 1) (q + 1) (by rw [hfull, List.append_assoc]; rfl) hc (by omega) (by omega) (by omega)
      rwa [List.length_append, List.length_singleton] at this
    have ho := cloneT ((b.take q).drop j) (by rw [List.length_drop, List.length_take]; omega)
    have hL := cvI_len full
    have w : wrap64 ((p : Int) + 1) = ((p + 1 : Nat) : Int) ∧ wrap64 ((q : Int) + 1) = ((q + 1 : Nat) : Int) ∧ wrap64 ((pre.length : Int) + 1) = ((pre.length + 1 : Nat) : Int) ∧ wrap64 ((p : Int) - (i : Int)) = (p : Int) - (i : Int) :=
      ⟨by rw [w64 (by omega) (by omega)]; omega, by rw [w64 (by omega) (by omega)]; omega, by rw [w64 (by omega) (by omega)]; omega, w64 (by omega) (by omega)⟩
    have g0 : rd ([(p : Int), (q : Int)]) 0 = (p : Int) := rfl
    have g1 : rd ([(p : Int), (q : Int)]) 1 = (q : Int) := rfl
    have g2 : (([(p : Int), (q : Int)] : List Int).length : Int) = 2 := rfl
    refine evStep (fun k => by rw [impl_between.l0]) ?_
    simp only [hg, g0, g1, g2, w.1, w.2.1, w.2.2.1, w.2.2.2, Int.toNat_natCast]
    clear w
    refine evPos (by omega) (evPos (by omega) (evPos (by omega) (evPos (by omega) ?_)))
    by_cases c1 : i < p
    · refine evPos (by omega) (evPos (by omega) (evPos (by omega) (evPos (by omega) (evPos (by omega) (evBS ho (evPos (by omega) (evEq (nx _ (by simp)) ?_)))))))
      rw [List.append_assoc, jm_cons, if_pos (Or.inl c1)]
    · refine evNeg (by omega) (evPos (by omega) ?_)
      by_cases c2 : j < q
      · refine evPos (by omega) (evPos (by omega) (evPos (by omega) (evPos (by omega) (evBS ho (evPos (by omega) (evEq (nx _ (by simp)) ?_))))))
        rw [List.append_assoc, jm_cons, if_pos (Or.inr c2)]
      · refine evNeg (by omega) (evEq (nx _ (by omega)) ?_)
        rw [jm_cons, if_neg (show ¬ (i < p ∨ j < q) by omega), List.nil_append]
end
theorem diff_both (a b : T) (ha : a.length ≤ 1000) (hb : b.length ≤ 1000) : ∃ r : List Hk, Ev (fun k => spec_l3Diff.f k a b) r ∧ Ev (fun k => impl_diff.f k a b) r := by
  obtain ⟨l, hl, hn, hs, hi⟩ := pairs_both a b ha hb
  have hc := ch_of a b l 0 0 (by omega) (by omega) hl
  have hf : (l ++ [(a.length, b.length)]).length ≤ 10000 := by simp; omega
  have L1 := cvS_len l
  have L2 := cvI_len l
  refine ⟨jm b 0 0 (l ++ [(a.length, b.length)]), ?_, ?_⟩
  · unfold spec_l3Diff.f
    refine evB hs (evB ?_ (Ev.now _))
    unfold spec_l2Join.f
    have e : cvS l ++ [(⟨(a.length : Int), (b.length : Int)⟩ : P2)] = cvS (l ++ [(a.length, b.length)]) := by simp [cvS]
    rw [e]
    refine evPos (by omega) (evSome ?_)
    rw [cvS_len]
    exact sJoin_l0 b a.length ha hb _ hf _ [] [] 0 0 rfl hc (by rw [List.length_nil]; omega) (by omega) (by omega)
  · unfold impl_diff.f
    refine evB hi (evB ?_ (Ev.now _))
    unfold impl_between.f
    have e : cvI l ++ [([(a.length : Int), (b.length : Int)] : List Int)] = cvI (l ++ [(a.length, b.length)]) := by simp [cvI]
    refine evBS (cloneI (cvI l) (by omega)) ?_
    rw [e]
    refine evPos (by omega) (evSome ?_)
    rw [cvI_len]
    exact iJoin_l0 b a.length ha hb _ hf _ [] [] 0 0 rfl hc (by rw [List.length_nil]; omega) (by omega) (by omega)
end Go.Proofs.Ytafohchkacclpaa.Text
