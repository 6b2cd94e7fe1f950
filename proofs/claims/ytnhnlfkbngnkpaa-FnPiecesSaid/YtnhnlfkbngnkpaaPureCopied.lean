/- How many bytes ops copy and bring, by both. -/
import Derived.Test.YtnhnlfkbngnkpaaD2
import Derived.Test.YtnhnlfkbngnkpaaPureOps2
set_option linter.unusedVariables false
set_option linter.unusedSimpArgs false
namespace Go.Proofs.Ytnhnlfkbngnkpaa.Ops
open Go.RowKit Go.Proofs.YtnhnlfkbngnkpaaW.PrintWords Go.Proofs.YtnhnlfkbngnkpaaW.PrintLast Go.Proofs.YtnhnlfkbngnkpaaW.PrintMore Go.Proofs.Ytnhnlfkbngnkpaa.Tools Go.Proofs.Ytnhnlfkbngnkpaa.D

def inM (o : OpS) : Prop := 0 ≤ o.f2 ∧ o.f2 ≤ 300
instance (o : OpS) : Decidable (inM o) := by unfold inM; infer_instance
def allIn (l : List OpS) : Prop := ∀ o ∈ l, inM o
instance (l : List OpS) : Decidable (allIn l) := by unfold allIn; infer_instance
theorem allIn_cons (o : OpS) (l : List OpS) : allIn (o :: l) ↔ inM o ∧ allIn l := by simp [allIn]
def cp : Int → List OpS → Int
 | n, [] => n
 | n, o :: l => cp (if o.f0 = 1 then n + o.f2 else n) l
def fr : Int → List OpS → Int
 | n, [] => n
 | n, o :: l => fr (if o.f0 = 2 then n + (o.f3.size : Int) else n) l
def copiedM (l : List OpS) : Int × Int × Bool := if allIn l ∧ l.length ≤ 300 then (cp 0 l, fr 0 l, true) else (0, 0, false)
/-- The reference's loop. -/
theorem specCopied_l0 (l : List OpS) (hl : l.length ≤ 1048576) (hx : ∀ o ∈ l, o.f3.size ≤ 1048576) : ∀ i (s : Int × Int), i ≤ l.length → (0 ≤ s.1 ∧ s.1 ≤ i * 2000000 ∧ 0 ≤ s.2 ∧ s.2 ≤ i * 2000000) →
  Ev (fun k => spec_CopiedIn.l0 k l s.1 s.2 l (l.length : Int) (i : Int)) (if allIn (l.drop i) ∧ l.length ≤ 300 then (cp s.1 (l.drop i), fr s.2 (l.drop i), true) else (0, 0, false)) := by
 refine evUp (σ := Int × Int) (R := fun s i => if allIn (l.drop i) ∧ l.length ≤ 300 then (cp s.1 (l.drop i), fr s.2 (l.drop i), true) else (0, 0, false)) (g := fun s i k => spec_CopiedIn.l0 k l s.1 s.2 l (l.length : Int) (i : Int)) (fun i s => 0 ≤ s.1 ∧ s.1 ≤ (i : Int) * 2000000 ∧ 0 ≤ s.2 ∧ s.2 ≤ (i : Int) * 2000000) ?_ ?_
 ·rintro ⟨a, b⟩ h
  refine evStep (fun k => by rw [spec_CopiedIn.l0]) ?_
  refine evNeg (by omega) ?_
  by_cases h3 : l.length ≤ 300
  ·exact evNeg (by omega) (evEq (Ev.now _) (by simp [allIn, cp, fr, h3]))
  ·exact evPos (by omega) (evEq (Ev.now _) (by simp [h3]))
 ·rintro i ⟨a, b⟩ hi ⟨h0, h1, h2, h3⟩ k
  dsimp only at h0 h1 h2 h3 k ⊢
  have hi1 : wrap64 ((i : Int) + 1) = ((i + 1 : Nat) : Int) := by rw [w64 (by omega) (by omega)]; simp
  have hs := hx _ (getD_mem hi z)
  rw [drop_at hi z]
  generalize ho' : l.getD i z = o at hs ⊢
  have hrd : rd_T43 l (i : Int) = o := ho'
  refine evStep (fun k => by rw [spec_CopiedIn.l0]) ?_
  simp only [hrd, hi1, l1In]
  refine evPos (by omega) (evPos (by omega) (evPos (by omega) (evSome ?_)))
  by_cases hm : inM o
  ·refine evPos (decide_eq_true hm) ?_
   have hm' := hm
   unfold inM at hm'
   rw [w64 (x := a + o.f2) (by omega) (by omega), w64 (x := b + (o.f3.size : Int)) (by omega) (by omega)]
   have e : ∀ a' b' : Int, a' = (if o.f0 = 1 then a + o.f2 else a) → b' = (if o.f0 = 2 then b + (o.f3.size : Int) else b) → Ev (fun k => spec_CopiedIn.l0 k l a' b' l (l.length : Int) ((i + 1 : Nat) : Int)) (if allIn (o :: l.drop (i + 1)) ∧ l.length ≤ 300 then (cp a (o :: l.drop (i + 1)), fr b (o :: l.drop (i + 1)), true) else (0, 0, false)) := by
    rintro a' b' ha hb
    have ha2 : 0 ≤ a' ∧ a' ≤ ((i + 1 : Nat) : Int) * 2000000 := by rw [ha]; split <;> omega
    have hb2 : 0 ≤ b' ∧ b' ≤ ((i + 1 : Nat) : Int) * 2000000 := by rw [hb]; split <;> omega
    refine evEq (k (a', b') ⟨ha2.1, ha2.2, hb2.1, hb2.2⟩) ?_
    simp only [allIn_cons, hm, true_and, cp, fr, ha, hb]
   by_cases f1 : o.f0 = 1
   ·exact evPos f1 (evNeg (by omega) (e _ _ (by rw [if_pos f1]) (by rw [if_neg (by omega)])))
   ·refine evNeg f1 ?_
    by_cases f2 : o.f0 = 2
    ·exact evPos f2 (e _ _ (by rw [if_neg f1]) (by rw [if_pos f2]))
    ·exact evNeg f2 (e _ _ (by rw [if_neg f1]) (by rw [if_neg f2]))
  ·refine evNeg (fun h => hm (of_decide_eq_true h)) (evEq (Ev.now _) ?_)
   simp only [allIn_cons, hm, false_and, if_false]
theorem specCopiedIn (l : List OpS) (hl : l.length ≤ 1048576) (hx : ∀ o ∈ l, o.f3.size ≤ 1048576) : Ev (fun k => spec_CopiedIn.f k l) (copiedM l) := by
 unfold spec_CopiedIn.f copiedM
 exact specCopied_l0 l hl hx 0 (0, 0) (by omega) (by simp)
theorem indexFunc (l : List OpS) (hl : l.length ≤ 1048576) : ∀ i, i ≤ l.length → ∃ r : Int, Ev (fun k => slices_IndexFunc_impl_Op_impl_Op_impl_CopiedIn_1.l0 k l (l.length : Int) (i : Int)) r ∧ (r ≥ 0 ↔ ¬ allIn (l.drop i)) := by
 intro i hi
 obtain ⟨d, hd⟩ : ∃ d, l.length - i = d := ⟨_, rfl⟩
 induction d generalizing i with
 | zero =>
  refine ⟨-1, ?_, ?_⟩
  ·refine evStep (fun k => by rw [slices_IndexFunc_impl_Op_impl_Op_impl_CopiedIn_1.l0]) ?_
   exact evNeg (by omega) (Ev.now _)
  ·rw [List.drop_eq_nil_of_le (by omega)]; simp [allIn]
 | succ d ih =>
  have hlt : i < l.length := by omega
  have hi1 : wrap64 ((i : Int) + 1) = ((i + 1 : Nat) : Int) := by rw [w64 (by omega) (by omega)]; simp
  obtain ⟨r, hr, hp⟩ := ih (i + 1) (by omega) (by omega)
  rw [drop_at hlt z]
  generalize ho' : l.getD i z = o
  have hrd : rd_T43 l (i : Int) = o := ho'
  by_cases hm : inM o
  ·refine ⟨r, ?_, by rw [hp, allIn_cons]; simp [hm]⟩
   refine evStep (fun k => by rw [slices_IndexFunc_impl_Op_impl_Op_impl_CopiedIn_1.l0]) ?_
   simp only [hrd, hi1, impl_CopiedIn_1.f, in_, Option.bind_some]
   refine evPos (by omega) (evPos (by omega) (evPos (by omega) (evNeg ?_ hr)))
   have : decide (0 ≤ o.f2 ∧ o.f2 ≤ 300) = true := decide_eq_true hm
   simp [this]
  ·refine ⟨i, ?_, by rw [allIn_cons]; simp [hm]⟩
   refine evStep (fun k => by rw [slices_IndexFunc_impl_Op_impl_Op_impl_CopiedIn_1.l0]) ?_
   simp only [hrd, hi1, impl_CopiedIn_1.f, in_, Option.bind_some]
   refine evPos (by omega) (evPos (by omega) (evPos (by omega) (evPos ?_ (Ev.now _))))
   have : decide (0 ≤ o.f2 ∧ o.f2 ≤ 300) = false := decide_eq_false hm
   simp [this]
theorem containsFunc (l : List OpS) (hl : l.length ≤ 1048576) : Ev (fun k => slices_ContainsFunc_impl_Op_impl_Op_impl_CopiedIn_1.f k l) (decide (¬ allIn l)) := by
 unfold slices_ContainsFunc_impl_Op_impl_Op_impl_CopiedIn_1.f slices_IndexFunc_impl_Op_impl_Op_impl_CopiedIn_1.f
 obtain ⟨r, hr, hp⟩ := indexFunc l hl 0 (by omega)
 refine evB hr (evEq (Ev.now _) ?_)
 rw [decide_eq_decide, hp]; simp
theorem implCopied_l0 (l : List OpS) (hl : l.length ≤ 300) (hx : ∀ o ∈ l, o.f3.size ≤ 1048576) (hin : allIn l) : ∀ i (s : Int × Int), i ≤ l.length → (0 ≤ s.1 ∧ s.1 ≤ i * 2000000 ∧ 0 ≤ s.2 ∧ s.2 ≤ i * 2000000) →
  Ev (fun k => impl_CopiedIn.l0 k s.1 s.2 l (l.length : Int) (i : Int)) (cp s.1 (l.drop i), fr s.2 (l.drop i), true) := by
 refine evUp (σ := Int × Int) (R := fun s i => (cp s.1 (l.drop i), fr s.2 (l.drop i), true)) (g := fun s i k => impl_CopiedIn.l0 k s.1 s.2 l (l.length : Int) (i : Int)) (fun i s => 0 ≤ s.1 ∧ s.1 ≤ (i : Int) * 2000000 ∧ 0 ≤ s.2 ∧ s.2 ≤ (i : Int) * 2000000) ?_ ?_
 ·rintro ⟨a, b⟩ h
  refine evStep (fun k => by rw [impl_CopiedIn.l0]) ?_
  exact evNeg (by omega) (evEq (Ev.now _) (by simp [cp, fr]))
 ·rintro i ⟨a, b⟩ hi ⟨h0, h1, h2, h3⟩ k
  dsimp only at h0 h1 h2 h3 k ⊢
  have hi1 : wrap64 ((i : Int) + 1) = ((i + 1 : Nat) : Int) := by rw [w64 (by omega) (by omega)]; simp
  have hs := hx _ (getD_mem hi z)
  have hm := hin _ (getD_mem hi z)
  rw [drop_at hi z]
  generalize ho' : l.getD i z = o at hs hm ⊢
  have hrd : rd_T43 l (i : Int) = o := ho'
  unfold inM at hm
  refine evStep (fun k => by rw [impl_CopiedIn.l0]) ?_
  simp only [hrd, hi1]
  refine evPos (by omega) (evPos (by omega) (evPos (by omega) ?_))
  rw [w64 (x := a + o.f2) (by omega) (by omega), w64 (x := b + (o.f3.size : Int)) (by omega) (by omega)]
  have e : ∀ a' b' : Int, a' = (if o.f0 = 1 then a + o.f2 else a) → b' = (if o.f0 = 2 then b + (o.f3.size : Int) else b) → Ev (fun k => impl_CopiedIn.l0 k a' b' l (l.length : Int) ((i + 1 : Nat) : Int)) (cp a (o :: l.drop (i + 1)), fr b (o :: l.drop (i + 1)), true) := by
   rintro a' b' ha hb
   have ha2 : 0 ≤ a' ∧ a' ≤ ((i + 1 : Nat) : Int) * 2000000 := by rw [ha]; split <;> omega
   have hb2 : 0 ≤ b' ∧ b' ≤ ((i + 1 : Nat) : Int) * 2000000 := by rw [hb]; split <;> omega
   refine evEq (k (a', b') ⟨ha2.1, ha2.2, hb2.1, hb2.2⟩) ?_
   simp only [cp, fr, ha, hb]
  by_cases f1 : o.f0 = 1
  ·exact evPos f1 (e _ _ (by rw [if_pos f1]) (by rw [if_neg (by omega)]))
  ·refine evNeg f1 ?_
   by_cases f2 : o.f0 = 2
   ·exact evPos f2 (e _ _ (by rw [if_neg f1]) (by rw [if_pos f2]))
   ·exact evNeg f2 (e _ _ (by rw [if_neg f1]) (by rw [if_neg f2]))
theorem implCopiedIn (l : List OpS) (hl : l.length ≤ 1048576) (hx : ∀ o ∈ l, o.f3.size ≤ 1048576) : Ev (fun k => impl_CopiedIn.f k l) (copiedM l) := by
 unfold impl_CopiedIn.f copiedM
 have hj : ∀ b : Bool, b = decide (¬ (allIn l ∧ l.length ≤ 300)) → Ev (fun k => impl_CopiedIn.j0 k l b) (if allIn l ∧ l.length ≤ 300 then (cp 0 l, fr 0 l, true) else (0, 0, false)) := by
  rintro b rfl
  refine evStep (fun k => by rw [impl_CopiedIn.j0]) ?_
  by_cases h : allIn l ∧ l.length ≤ 300
  ·rw [if_pos h]
   exact evNeg (by simp [h]) (evEq (implCopied_l0 l h.2 hx h.1 0 (0, 0) (by omega) (by simp)) (by simp))
  ·rw [if_neg h]
   exact evPos (by rw [decide_eq_true_eq]; exact h) (Ev.now _)
 by_cases h3 : l.length ≤ 300
 ·refine evNeg (by omega) (evB (containsFunc l hl) (hj _ ?_))
  rw [decide_eq_decide]; simp [h3]
 ·refine evPos (by omega) (hj _ ?_)
  rw [eq_comm, decide_eq_true_eq]; simp [h3]
end Go.Proofs.Ytnhnlfkbngnkpaa.Ops
