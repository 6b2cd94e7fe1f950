/- What the functions on ops come to, part 3: what they bring, and their bytes, by both. -/
import Derived.Test.YtnhnlfkbngnkpaaPureOps2
set_option linter.unusedVariables false
set_option linter.unusedSimpArgs false
namespace Go.Proofs.Ytnhnlfkbngnkpaa.Ops
open Go.RowKit Go.Proofs.YtnhnlfkbngnkpaaW.PrintWords Go.Proofs.YtnhnlfkbngnkpaaW.PrintLast Go.Proofs.YtnhnlfkbngnkpaaW.PrintMore Go.Proofs.Ytnhnlfkbngnkpaa.Tools Go.Proofs.Ytnhnlfkbngnkpaa.A

theorem flat_size (old : ByteArray) : ∀ (l : List OpS) (out : ByteArray), allOk old l → ((flat old out l).size : Int) = out.size + sum l
  | [], out, _ => by rw [sum_nil]; unfold flat; omega
  | o :: l, out, h => by
    rw [allOk_cons] at h
    unfold flat
    rw [flat_size old l _ h.2, ByteArray.size_append, sum_cons]
    have := bring_size h.1
    omega
theorem do_l0 (old : ByteArray) (ho : old.size ≤ 1048576) (l : List OpS) (hl : l.length ≤ 1048576) (hok : allOk old l) : ∀ i (out : ByteArray), i ≤ l.length → (out.size ≤ i * 2000000) →
    Ev (fun k => spec_l14Do.l0 k old out l (l.length : Int) (i : Int)) (flat old out (l.drop i)) := by
  refine evUp (R := fun out i => flat old out (l.drop i)) (g := fun out i k => spec_l14Do.l0 k old out l (l.length : Int) (i : Int)) (fun i out => out.size ≤ i * 2000000) ?_ ?_
  · intro out h
    refine evStep (fun k => by rw [spec_l14Do.l0]) ?_
    exact evNeg (by omega) (evEq (Ev.now _) (by simp [flat]))
  · intro i out hi hout k
    have hi1 : wrap64 ((i : Int) + 1) = ((i + 1 : Nat) : Int) := by rw [w64 (by omega) (by omega)]; simp
    have h := hok _ (getD_mem hi z)
    rw [drop_at hi z]
    generalize ho' : l.getD i z = o at h ⊢
    have hrd : rd_T43 l (i : Int) = o := ho'
    have hs := bring_size h
    have hm := many_pos h
    unfold flat
    refine evStep (fun k => by rw [spec_l14Do.l0]) ?_
    refine evPos (by omega) (evPos (by omega) (evPos (by omega) ?_))
    simp only [hrd, hi1]
    by_cases h0 : o.f0 = 1
    · have hh : 1 ≤ o.f2 ∧ 0 ≤ o.f1 ∧ o.f1 + o.f2 ≤ (old.size : Int) := by unfold ok at h; omega
      have hbr : old.extract o.f1.toNat (o.f1 + o.f2).toNat = bring old o := by unfold bring; rw [if_pos h0]
      rw [w64 (x := o.f1 + o.f2) (by omega) (by omega), hbr]
      refine evPos h0 (evPos (by omega) (evPos (by omega) (evPos (by omega) (evPos (by omega) ?_))))
      exact k _ (by rw [ByteArray.size_append]; omega)
    · have hbr : o.f3 = bring old o := by unfold bring; rw [if_neg h0]
      rw [hbr]
      refine evNeg h0 (evPos (by omega) ?_)
      exact k _ (by rw [ByteArray.size_append]; omega)
theorem l14Do (old : ByteArray) (ho : old.size ≤ 1048576) (l : List OpS) (hl : l.length ≤ 1048576) (hok : allOk old l) : Ev (fun k => spec_l14Do.f k old l) (flat old ⟨#[]⟩ l) := by
  unfold spec_l14Do.f
  exact evEq (do_l0 old ho l hl hok 0 ⟨#[]⟩ (by omega) (by decide)) (by simp)
theorem specDoOps (old : ByteArray) (ho : old.size ≤ 1048576) (l : List OpS) (hl : l.length ≤ 1048576) : Ev (fun k => spec_DoOps.f k old l) (if Good old l then (flat old ⟨#[]⟩ l, true) else (⟨#[]⟩, false)) := by
  unfold spec_DoOps.f
  refine evB (l14Good old ho l hl) ?_
  by_cases h : Good old l
  · rw [if_pos h]
    exact evPos (decide_eq_true h) (evB (l14Do old ho l hl h.1) (Ev.now _))
  · rw [if_neg h]
    exact evNeg (by simpa using h) (Ev.now _)
theorem implDoOps (old : ByteArray) (ho : old.size ≤ 1048576) (l : List OpS) (hl : l.length ≤ 1048576) : Ev (fun k => impl_DoOps.f k old l) (if Good old l then (flat old ⟨#[]⟩ l, true) else (⟨#[]⟩, false)) := by
  unfold impl_DoOps.f
  exact evB (done old ho l hl) (Ev.now _)

/-! ### bytes -/
def two (n : Int) : ByteArray := strOfNums [(n / 256) % 256, n % 256]
def enc (o : OpS) : ByteArray := if o.f0 = 1 then two o.f1 ++ two o.f2 else two (o.f3.size : Int) ++ o.f3
def bytesM : ByteArray → List OpS → ByteArray
  | out, [] => out
  | out, o :: l => bytesM (out ++ strOfNums [o.f0 % 256] ++ enc o) l
theorem strOf_size (l : List Int) : (strOfNums l).size = l.length := by
  simp [strOfNums, ByteArray.size]
theorem two_size (n : Int) : (two n).size = 2 := by unfold two; rw [strOf_size]; rfl
theorem spec_two (n : Int) (h0 : 0 ≤ n) (h1 : n ≤ 1000000000) : spec_l14Two.f n = some (two n) := by
  unfold spec_l14Two.f two
  rw [Int.tdiv_eq_ediv_of_nonneg h0, Int.tmod_eq_emod_of_nonneg h0, w64 (by omega) (by omega), Int.emod_emod_of_dvd _ (by decide)]
theorem impl_two (n : Int) : impl_twoBytes.f n = some (two n) := rfl
theorem good_at {old : ByteArray} {l : List OpS} (h : Good old l) {i : Nat} (hi : i < l.length) : ok old (l.getD i z) ∧ (l.getD i z).f3.size ≤ 300 ∧ old.size ≤ 300 := by
  have := h.1 _ (getD_mem hi z)
  refine ⟨this, ?_, h.2.1⟩
  unfold ok at this
  omega
theorem enc_size (old : ByteArray) (o : OpS) (h : ok old o) : (enc o).size ≤ 304 := by
  unfold enc
  split
  · rw [ByteArray.size_append, two_size, two_size]; omega
  · rw [ByteArray.size_append, two_size]; unfold ok at h; omega
theorem specOpsBytes_l0 (old : ByteArray) (l : List OpS) (h : Good old l) : ∀ i (out : ByteArray), i ≤ l.length → (out.size ≤ i * 1000 + 2) →
    Ev (fun k => spec_OpsBytes.l0 k out l (l.length : Int) (i : Int)) (bytesM out (l.drop i), true) := by
  refine evUp (R := fun out i => (bytesM out (l.drop i), true)) (g := fun out i k => spec_OpsBytes.l0 k out l (l.length : Int) (i : Int)) (fun i out => out.size ≤ i * 1000 + 2) ?_ ?_
  · intro out h
    refine evStep (fun k => by rw [spec_OpsBytes.l0]) ?_
    exact evNeg (by omega) (evEq (Ev.now _) (by simp [bytesM]))
  · intro i out hi hout k
    have hl := h.2.2.1
    have hi1 : wrap64 ((i : Int) + 1) = ((i + 1 : Nat) : Int) := by rw [w64 (by omega) (by omega)]; simp
    obtain ⟨hok, hs, hold⟩ := good_at h hi
    rw [drop_at hi z]
    generalize ho' : l.getD i z = o at hok hs ⊢
    have hrd : rd_T43 l (i : Int) = o := ho'
    refine evStep (fun k => by rw [spec_OpsBytes.l0]) ?_
    have hes := enc_size old o hok
    refine evPos (by omega) (evPos (by omega) (evPos (by omega) ?_))
    simp only [hrd, hi1]
    refine evSome (evPos (by rw [strOf_size]; simp; omega) ?_)
    unfold bytesM
    by_cases h0 : o.f0 = 1
    · have hh : 0 ≤ o.f1 ∧ o.f1 ≤ 1000000000 ∧ 0 ≤ o.f2 ∧ o.f2 ≤ 1000000000 := by unfold ok at hok; omega
      have he : two o.f1 ++ two o.f2 = enc o := by unfold enc; rw [if_pos h0]
      refine evPos h0 (evBS (spec_two _ hh.1 hh.2.1) (evBS (spec_two _ hh.2.2.1 hh.2.2.2) (evPos (by rw [two_size, two_size]; omega) ?_)))
      rw [he]
      refine evPos (by rw [ByteArray.size_append, strOf_size]; simp; omega) (k _ ?_)
      rw [ByteArray.size_append, ByteArray.size_append, strOf_size]; simp; omega
    · have he : two (o.f3.size : Int) ++ o.f3 = enc o := by unfold enc; rw [if_neg h0]
      refine evNeg h0 (evBS (spec_two _ (by omega) (by omega)) (evPos (by rw [two_size]; omega) ?_))
      rw [he]
      refine evPos (by rw [ByteArray.size_append, strOf_size]; simp; omega) (k _ ?_)
      rw [ByteArray.size_append, ByteArray.size_append, strOf_size]; simp; omega
theorem implOpsBytes_l0 (old : ByteArray) (l : List OpS) (h : Good old l) : ∀ i (out : ByteArray), i ≤ l.length → (out.size ≤ i * 1000 + 2) →
    Ev (fun k => impl_OpsBytes.l0 k out l (l.length : Int) (i : Int)) (bytesM out (l.drop i), true) := by
  refine evUp (R := fun out i => (bytesM out (l.drop i), true)) (g := fun out i k => impl_OpsBytes.l0 k out l (l.length : Int) (i : Int)) (fun i out => out.size ≤ i * 1000 + 2) ?_ ?_
  · intro out h
    refine evStep (fun k => by rw [impl_OpsBytes.l0]) ?_
    exact evNeg (by omega) (evEq (Ev.now _) (by simp [bytesM]))
  · intro i out hi hout k
    have hl := h.2.2.1
    have hi1 : wrap64 ((i : Int) + 1) = ((i + 1 : Nat) : Int) := by rw [w64 (by omega) (by omega)]; simp
    obtain ⟨hok, hs, hold⟩ := good_at h hi
    rw [drop_at hi z]
    generalize ho' : l.getD i z = o at hok hs ⊢
    have hrd : rd_T43 l (i : Int) = o := ho'
    refine evStep (fun k => by rw [impl_OpsBytes.l0]) ?_
    have hes := enc_size old o hok
    refine evPos (by omega) (evPos (by omega) (evPos (by omega) ?_))
    simp only [hrd, hi1]
    refine evSome (evPos (by rw [strOf_size]; simp; omega) ?_)
    unfold bytesM
    by_cases h0 : o.f0 = 1
    · have he : two o.f1 ++ two o.f2 = enc o := by unfold enc; rw [if_pos h0]
      refine evPos h0 (evBS (impl_two _) (evBS (impl_two _) (evPos (by rw [two_size, two_size]; omega) ?_)))
      rw [he]
      refine evPos (by rw [ByteArray.size_append, strOf_size]; simp; omega) (k _ ?_)
      rw [ByteArray.size_append, ByteArray.size_append, strOf_size]; simp; omega
    · have he : two (o.f3.size : Int) ++ o.f3 = enc o := by unfold enc; rw [if_neg h0]
      refine evNeg h0 (evBS (impl_two _) (evPos (by rw [two_size]; omega) ?_))
      rw [he]
      refine evPos (by rw [ByteArray.size_append, strOf_size]; simp; omega) (k _ ?_)
      rw [ByteArray.size_append, ByteArray.size_append, strOf_size]; simp; omega
def opsBytesM (old : ByteArray) (l : List OpS) : ByteArray × Bool := if Good old l then (bytesM (two (l.length : Int)) l, true) else (⟨#[]⟩, false)
theorem specOpsBytes (old : ByteArray) (ho : old.size ≤ 1048576) (l : List OpS) (hl : l.length ≤ 1048576) : Ev (fun k => spec_OpsBytes.f k old l) (opsBytesM old l) := by
  unfold spec_OpsBytes.f opsBytesM
  refine evB (l14Good old ho l hl) ?_
  by_cases h : Good old l
  · rw [if_pos h]
    refine evPos (decide_eq_true h) (evBS (spec_two _ (by omega) (by omega)) ?_)
    exact evEq (specOpsBytes_l0 old l h 0 _ (by omega) (by rw [two_size]; omega)) (by simp)
  · rw [if_neg h]
    exact evNeg (by simpa using h) (Ev.now _)
theorem implOpsBytes (old : ByteArray) (ho : old.size ≤ 1048576) (l : List OpS) (hl : l.length ≤ 1048576) : Ev (fun k => impl_OpsBytes.f k old l) (opsBytesM old l) := by
  unfold impl_OpsBytes.f opsBytesM
  refine evB (implGoodOps old ho l hl) ?_
  by_cases h : Good old l
  · rw [if_pos h]
    refine evPos (decide_eq_true h) (evBS (impl_two _) ?_)
    exact evEq (implOpsBytes_l0 old l h 0 _ (by omega) (by rw [two_size]; omega)) (by simp)
  · rw [if_neg h]
    exact evNeg (by simpa using h) (Ev.now _)

/-- What the guards of a law let in. -/
structure In (a0 : ByteArray) (l1 : List LOp) : Prop where
  h40 : l1.length * 40 ≤ 140737488351232
  hx : ∀ x ∈ l1, x.f3.size ≤ 140737488351232
theorem guarded {A : Nat → Int → Option Bool} (a0 : ByteArray) (l1 : List LOp) (hi : In a0 l1)
    (h : a0.size ≤ 1048576 → l1.length ≤ 1048576 → (∀ x ∈ l1, x.f3.size ≤ 1048576) → ∀ r, 0 ≤ r → Ev (fun k => A k r) true) :
    Ev (fun k => if (a0.size : Int) > 1048576 then (some true) else ((laws_szOpS.f k l1 1048576).bind fun t => (if t < 0 then (some true) else A k t))) true := by
  by_cases h0 : (a0.size : Int) > 1048576
  · exact evPos h0 (Ev.now _)
  · obtain ⟨r, hr, hp⟩ := szOpS l1 hi.h40 hi.hx
    refine evNeg h0 (evB hr ?_)
    by_cases hn : r < 0
    · exact evPos hn (Ev.now _)
    · obtain ⟨h1, h2⟩ := hp (by omega)
      exact evNeg hn (h (by omega) h1 h2 r (by omega))
end Go.Proofs.Ytnhnlfkbngnkpaa.Ops
