/- What the functions on ops come to, part 2: when ops are good, what they bring, and their bytes. -/
import Derived.Test.YtnhnlfkbngnkpaaE2
import Derived.Test.YtnhnlfkbngnkpaaE3
import Derived.Test.YtnhnlfkbngnkpaaPureOps0
set_option linter.unusedVariables false
set_option linter.unusedSimpArgs false
namespace Go.Proofs.Ytnhnlfkbngnkpaa.Ops
open Go.RowKit Go.Proofs.YtnhnlfkbngnkpaaW.PrintWords Go.Proofs.YtnhnlfkbngnkpaaW.PrintLast Go.Proofs.YtnhnlfkbngnkpaaW.PrintMore Go.Proofs.Ytnhnlfkbngnkpaa.Tools Go.Proofs.Ytnhnlfkbngnkpaa.E

def ok (old : ByteArray) (o : OpS) : Prop := (o.f0 = 1 ∧ o.f3.size = 0 ∧ 1 ≤ o.f2 ∧ 0 ≤ o.f1 ∧ o.f1 + o.f2 ≤ (old.size : Int)) ∨ (o.f0 = 2 ∧ o.f1 = 0 ∧ o.f2 = 0 ∧ 1 ≤ o.f3.size ∧ o.f3.size ≤ 300)
instance (old : ByteArray) (o : OpS) : Decidable (ok old o) := by unfold ok; infer_instance
def many (o : OpS) : Int := o.f2 + (o.f3.size : Int)
def sum (l : List OpS) : Int := (l.map many).sum
def bring (old : ByteArray) (o : OpS) : ByteArray := if o.f0 = 1 then old.extract o.f1.toNat (o.f1 + o.f2).toNat else o.f3
def allOk (old : ByteArray) (l : List OpS) : Prop := ∀ o ∈ l, ok old o
instance (old : ByteArray) (l : List OpS) : Decidable (allOk old l) := by unfold allOk; infer_instance
theorem qCb (old : ByteArray) (o : OpS) (l : List OpS) : allOk old (o :: l) ↔ ok old o ∧ allOk old l := by simp [allOk]
theorem qvc (old : ByteArray) : allOk old [] := by simp [allOk]
theorem sum_cons (o : OpS) (l : List OpS) : sum (o :: l) = many o + sum l := by simp [sum]
theorem sum_nil : sum [] = 0 := rfl
def Good (old : ByteArray) (l : List OpS) : Prop := allOk old l ∧ (old.size ≤ 300 ∧ l.length ≤ 300 ∧ sum l ≤ 300)
instance (old : ByteArray) (l : List OpS) : Decidable (Good old l) := by unfold Good; infer_instance
theorem many_pos {old : ByteArray} {o : OpS} (h : ok old o) : 1 ≤ many o ∧ many o ≤ (old.size : Int) + 300 := by
 unfold ok at h; unfold many; omega
theorem sum_nonneg {old : ByteArray} {l : List OpS} (h : allOk old l) : 0 ≤ sum l := by
 induction l with
 | nil => simp [sum]
 | cons o l ih =>
  rw [qCb] at h
  rw [sum_cons]
  have := many_pos h.1
  have := ih h.2
  omega

/-! ### when ops are good, by the reference -/
theorem l1In (a b c : Int) : qHb.f a b c = some (decide (b ≤ a ∧ a ≤ c)) := by
 unfold qHb.f
 by_cases h : a ≥ b
 ·rw [if_pos h]; congr 1; simp [show b ≤ a from h]
 ·rw [if_neg h]; congr 1; simp [show ¬ b ≤ a from h]
theorem in_ (a b c : Int) : qic.f a b c = some (decide (b ≤ a ∧ a ≤ c)) := by
 unfold qic.f
 by_cases h : a ≥ b
 ·rw [if_pos h]; congr 1; simp [show b ≤ a from h]
 ·rw [if_neg h]; congr 1; simp [show ¬ b ≤ a from h]
theorem l14Op (old : ByteArray) (ho : old.size ≤ 1048576) (o : OpS) : qyc.f old o.f0 o.f1 o.f2 o.f3 = some (decide (ok old o)) := by
 unfold qyc.f
 simp only [l1In, Option.bind_some, qBc, decide_eq_true_eq]
 by_cases h1 : o.f0 = 1
 ·rw [if_pos h1]
  by_cases h2 : o.f3.size = 0
  ·rw [if_pos h2]
   by_cases h3 : 1 ≤ o.f2 ∧ o.f2 ≤ (old.size : Int)
   ·rw [if_pos h3, w64 (by omega) (by omega)]
    congr 1; rw [decide_eq_decide]; unfold ok; omega
   ·rw [if_neg h3]; congr 1; rw [eq_comm, decide_eq_false_iff_not]; unfold ok; omega
  ·rw [if_neg h2]; congr 1; rw [eq_comm, decide_eq_false_iff_not]; unfold ok; omega
 ·rw [if_neg h1]
  by_cases h2 : o.f0 = 2
  ·rw [if_pos h2]
   by_cases h3 : o.f1 = 0
   ·rw [if_pos h3]
    by_cases h4 : o.f2 = 0
    ·rw [if_pos h4]; congr 1; rw [decide_eq_decide]; unfold ok; omega
    ·rw [if_neg h4]; congr 1; rw [eq_comm, decide_eq_false_iff_not]; unfold ok; omega
   ·rw [if_neg h3]; congr 1; rw [eq_comm, decide_eq_false_iff_not]; unfold ok; omega
  ·rw [if_neg h2]; congr 1; rw [eq_comm, decide_eq_false_iff_not]; unfold ok; omega
theorem l14Good_l0 (old : ByteArray) (ho : old.size ≤ 1048576) (l : List OpS) (hl : l.length ≤ 1048576) : ∀ i (n : Int), i ≤ l.length → (0 ≤ n ∧ n ≤ (i : Int) * 2000000) →
  Ev (fun k => qdb.l0 k old l n l (l.length : Int) (i : Int)) (decide (allOk old (l.drop i) ∧ (old.size ≤ 300 ∧ l.length ≤ 300 ∧ n + sum (l.drop i) ≤ 300))) := by
 refine evUp (R := fun n i => decide (allOk old (l.drop i) ∧ (old.size ≤ 300 ∧ l.length ≤ 300 ∧ n + sum (l.drop i) ≤ 300))) (g := fun n i k => qdb.l0 k old l n l (l.length : Int) (i : Int)) (fun i n => 0 ≤ n ∧ n ≤ (i : Int) * 2000000) ?_ ?_
 ·intro n hn
  refine qV (fun k => by rw [qdb.l0]) ?_
  refine qP (by omega) ?_
  simp only [qGb.f, Option.bind_some, decide_eq_true_eq]
  have e : (allOk old (l.drop l.length) ∧ (old.size ≤ 300 ∧ l.length ≤ 300 ∧ n + sum (l.drop l.length) ≤ 300)) ↔ (old.size : Int) ≤ 300 ∧ (l.length : Int) ≤ 300 ∧ n ≤ 300 := by
   rw [List.drop_length, sum_nil]
   simp only [qvc, true_and]; omega
  have e2 : decide (allOk old (l.drop l.length) ∧ (old.size ≤ 300 ∧ l.length ≤ 300 ∧ n + sum (l.drop l.length) ≤ 300)) = decide ((old.size : Int) ≤ 300 ∧ (l.length : Int) ≤ 300 ∧ n ≤ 300) := decide_eq_decide.2 e
  rw [e2]
  refine evIte (fun h => evIte (fun h2 => evEq (Ev.now _) ?_) (fun h2 => evEq (Ev.now _) ?_)) (fun h => evEq (Ev.now _) ?_)
  ·rw [decide_eq_decide]; omega
  all_goals (rw [eq_comm, decide_eq_false_iff_not]; omega)
 ·intro i n hi hn k
  have hi1 : wrap64 ((i : Int) + 1) = ((i + 1 : Nat) : Int) := by rw [w64 (by omega) (by omega)]; simp
  refine qV (fun k => by rw [qdb.l0]) ?_
  refine qA (by omega) (qA (by omega) (qA (by omega) (evBS (l14Op old ho _) ?_)))
  simp only [rd_op, hi1]
  by_cases h : ok old (l.getD i z)
  ·refine qA (decide_eq_true h) ?_
   have hm := many_pos h
   unfold many at hm
   rw [w64 (x := (l.getD i z).f2 + ((l.getD i z).f3.size : Int)) (by omega) (by omega), w64 (by omega) (by omega)]
   refine evEq (k _ (by omega)) ?_
   simp only [qpc hi z, qCb, sum_cons, many, h, true_and]
   rw [decide_eq_decide]; constructor <;> (rintro ⟨a, b, c, d⟩; exact ⟨a, b, c, by omega⟩)
  ·refine qP (by simpa using h) (evEq (Ev.now _) ?_)
   simp only [qpc hi z, qCb, h, false_and, decide_false]
theorem l14Good (old : ByteArray) (ho : old.size ≤ 1048576) (l : List OpS) (hl : l.length ≤ 1048576) : Ev (fun k => qdb.f k old l) (decide (Good old l)) := by
 unfold qdb.f
 refine evEq (l14Good_l0 old ho l hl 0 0 (by omega) (by omega)) ?_
 rw [decide_eq_decide, List.drop_zero, Int.zero_add]
 exact Iff.rfl

/-! ### what they bring, by the program -/
def doneM (old : ByteArray) : ByteArray → List OpS → ByteArray × Bool
 | out, [] => (out, true)
 | out, o :: l => if ok old o then (if (out ++ bring old o).size ≤ 300 then doneM old (out ++ bring old o) l else (⟨#[]⟩, false)) else (⟨#[]⟩, false)
def flat (old : ByteArray) : ByteArray → List OpS → ByteArray
 | out, [] => out
 | out, o :: l => flat old (out ++ bring old o) l
theorem bring_size {old : ByteArray} {o : OpS} (h : ok old o) : ((bring old o).size : Int) = many o := by
 unfold bring many
 rcases h with ⟨h0, h3, h2, h1, h4⟩ | ⟨h0, h1, h2, h3, h4⟩
 ·rw [if_pos h0, ByteArray.size_extract]; omega
 ·rw [if_neg (by omega), h2]; omega
theorem doneM_eq (old : ByteArray) : ∀ (l : List OpS) (out : ByteArray), out.size ≤ 300 → doneM old out l = if allOk old l ∧ (out.size : Int) + sum l ≤ 300 then (flat old out l, true) else (⟨#[]⟩, false)
 | [], out, h => by rw [if_pos ⟨qvc _, by rw [sum_nil]; omega⟩]; rfl
 | o :: l, out, h => by
  unfold doneM flat
  by_cases h1 : ok old o
  ·rw [if_pos h1]
   have hb := bring_size h1
   have hm := many_pos h1
   by_cases h2 : (out ++ bring old o).size ≤ 300
   ·rw [if_pos h2, doneM_eq old l _ h2]
    rw [ByteArray.size_append] at h2 ⊢
    have e : (allOk old l ∧ ((out.size + (bring old o).size : Nat) : Int) + sum l ≤ 300) ↔ (allOk old (o :: l) ∧ (out.size : Int) + sum (o :: l) ≤ 300) := by
     rw [qCb, sum_cons]; constructor
     ·rintro ⟨a, b⟩; exact ⟨⟨h1, a⟩, by omega⟩
     ·rintro ⟨⟨_, a⟩, b⟩; exact ⟨a, by omega⟩
    by_cases h3 : allOk old l ∧ ((out.size + (bring old o).size : Nat) : Int) + sum l ≤ 300
    ·rw [if_pos h3, if_pos (e.1 h3)]
    ·rw [if_neg h3, if_neg (fun h => h3 (e.2 h))]
   ·rw [if_neg h2, if_neg]
    rintro ⟨a, b⟩
    rw [qCb] at a
    rw [ByteArray.size_append] at h2
    have := sum_nonneg a.2
    rw [sum_cons] at b
    omega
  ·rw [if_neg h1, if_neg]
   rintro ⟨a, _⟩
   rw [qCb] at a
   exact h1 a.1
theorem isData (s : ByteArray) : qWb.f s = some (decide (s.size ≤ 300)) := by
 unfold qWb.f; congr 1; rw [decide_eq_decide]; omega
theorem done_j3 (old out : ByteArray) (l : List OpS) (i : Nat) (b : Bool) (o : OpS) (r : ByteArray × Bool) (hl : l.length ≤ 1048576) (hi : i < l.length) (hout : out.size ≤ 300) (hb : b = decide (ok old o)) (h0 : o.f0 ≠ 1)
  (k : (out ++ o.f3).size ≤ 300 → ok old o → Ev (fun k => qR.l0 k old (out ++ o.f3) l (l.length : Int) ((i + 1 : Nat) : Int)) r)
  (k2 : ¬ ((out ++ o.f3).size ≤ 300 ∧ ok old o) → r = (⟨#[]⟩, false)) :
  Ev (fun k => qR.j3 k old out l (l.length : Int) (i : Int) b o.f0 o.f1 o.f2 o.f3) r := by
 have hi1 : wrap64 ((i : Int) + 1) = ((i + 1 : Nat) : Int) := by rw [w64 (by omega) (by omega)]; simp
 refine qV (fun k => by rw [qR.j3]) ?_
 subst hb
 by_cases h : ok old o
 ·have hs : o.f3.size ≤ 300 := by unfold ok at h; omega
  refine qA (decide_eq_true h) (qA (by omega) (evBS (isData _) ?_))
  by_cases h2 : (out ++ o.f3).size ≤ 300
  ·refine qA (decide_eq_true h2) ?_
   rw [hi1]; exact k h2 h
  ·exact qP (by simpa using h2) (evEq (Ev.now _) (k2 (fun h => h2 h.1)).symm)
 ·exact qP (by simpa using h) (evEq (Ev.now _) (k2 (fun h' => h h'.2)).symm)
theorem done_l0 (old : ByteArray) (ho : old.size ≤ 1048576) (l : List OpS) (hl : l.length ≤ 1048576) : ∀ i (out : ByteArray), i ≤ l.length → out.size ≤ 300 →
  Ev (fun k => qR.l0 k old out l (l.length : Int) (i : Int)) (doneM old out (l.drop i)) := by
 refine evUp (R := fun out i => doneM old out (l.drop i)) (g := fun out i k => qR.l0 k old out l (l.length : Int) (i : Int)) (fun i out => out.size ≤ 300) ?_ ?_
 ·intro out h
  refine qV (fun k => by rw [qR.l0]) ?_
  exact qP (by omega) (evEq (Ev.now _) (by simp [doneM]))
 ·intro i out hi hout k
  have hi1 : wrap64 ((i : Int) + 1) = ((i + 1 : Nat) : Int) := by rw [w64 (by omega) (by omega)]; simp
  rw [qpc hi z]
  generalize ho' : l.getD i z = o
  have hrd : qc l (i : Int) = o := ho'
  have hj2 : ∀ b : Bool, b = decide (ok old o ∧ o.f0 = 1) → Ev (fun k => qR.j2 k old out l (l.length : Int) (i : Int) b o.f0 o.f1 o.f2 o.f3) (doneM old out (o :: l.drop (i + 1))) := by
   rintro b rfl
   refine qV (fun k => by rw [qR.j2]) ?_
   unfold doneM
   by_cases h : ok old o ∧ o.f0 = 1
   ·have hh : 1 ≤ o.f2 ∧ 0 ≤ o.f1 ∧ o.f1 + o.f2 ≤ (old.size : Int) := by have := h.1; unfold ok at this; omega
    have hw : wrap64 (o.f1 + o.f2) = o.f1 + o.f2 := w64 (by omega) (by omega)
    have hbr : old.extract o.f1.toNat (o.f1 + o.f2).toNat = bring old o := by unfold bring; rw [if_pos h.2]
    have hs := bring_size h.1
    have hm := many_pos h.1
    rw [hw, hbr, if_pos h.1]
    refine qA (decide_eq_true h) (qA (by omega) (qA (by omega) (qA (by omega) (qA (by omega) (evBS (isData _) ?_)))))
    by_cases h2 : (out ++ bring old o).size ≤ 300
    ·refine qA (decide_eq_true h2) ?_
     rw [hi1, if_pos h2]; exact k _ h2
    ·rw [if_neg h2]
     exact qP (by simpa using h2) (Ev.now _)
   ·refine qP (by simpa using h) ?_
    have key : o.f0 ≠ 1 → Ev (fun k => qR.j3 k old out l (l.length : Int) (i : Int) (decide (ok old o)) o.f0 o.f1 o.f2 o.f3) (if ok old o then (if (out ++ bring old o).size ≤ 300 then doneM old (out ++ bring old o) (l.drop (i + 1)) else (⟨#[]⟩, false)) else (⟨#[]⟩, false)) := by
     intro h0
     have hbr : bring old o = o.f3 := by unfold bring; rw [if_neg h0]
     rw [hbr]
     refine done_j3 old out l i _ o _ hl hi hout rfl h0 ?_ ?_
     ·intro a b; rw [if_pos b, if_pos a]; exact k _ a
     ·intro a
      by_cases b : ok old o
      ·rw [if_pos b, if_neg (fun c => a ⟨c, b⟩)]
      ·rw [if_neg b]
    have hf : ∀ b : Bool, (b = true ↔ ok old o) → Ev (fun k => qR.j3 k old out l (l.length : Int) (i : Int) b o.f0 o.f1 o.f2 o.f3) (if ok old o then (if (out ++ bring old o).size ≤ 300 then doneM old (out ++ bring old o) (l.drop (i + 1)) else (⟨#[]⟩, false)) else (⟨#[]⟩, false)) := by
     intro b hb
     by_cases h0 : o.f0 = 1
     ·have hno : ¬ ok old o := fun a => h ⟨a, h0⟩
      obtain rfl : b = false := by rw [Bool.eq_false_iff]; exact fun c => hno (hb.1 c)
      rw [if_neg hno]
      refine qV (fun k => by rw [qR.j3]) ?_
      exact qP (by simp) (Ev.now _)
     ·obtain rfl : b = decide (ok old o) := by rw [Bool.eq_iff_iff, hb]; simp
      exact key h0
    by_cases h0 : o.f0 = 2
    ·refine qA h0 ?_
     by_cases h1 : o.f1 = 0
     ·refine qA h1 ?_
      by_cases h2 : o.f2 = 0
      ·refine qA h2 (evBS (in_ _ _ _) (hf _ ?_))
       rw [decide_eq_true_eq]; unfold ok; omega
      ·exact qP h2 (hf _ (by unfold ok; simp; omega))
     ·exact qP h1 (hf _ (by unfold ok; simp; omega))
    ·by_cases h1 : o.f0 = 1
     ·exact qP h0 (hf _ (by simp only [Bool.false_eq_true, false_iff]; exact fun a => h ⟨a, h1⟩))
     ·exact qP h0 (hf _ (by unfold ok; simp; omega))
  refine qV (fun k => by rw [qR.l0]) ?_
  refine qA (by omega) (qA (by omega) (qA (by omega) ?_))
  simp only [hrd, in_, Option.bind_some, qBc, decide_eq_true_eq]
  by_cases h0 : o.f0 = 1
  ·refine qA h0 ?_
   by_cases h3 : o.f3.size = 0
   ·refine qA h3 ?_
    rw [w64 (x := (old.size : Int) - 1) (by omega) (by omega)]
    by_cases h1 : 0 ≤ o.f1 ∧ o.f1 ≤ (old.size : Int) - 1
    ·refine qA h1 (hj2 _ ?_)
     rw [w64 (by omega) (by omega), decide_eq_decide]
     unfold ok; omega
    ·exact qP h1 (hj2 _ (by rw [eq_comm, decide_eq_false_iff_not]; unfold ok; omega))
   ·exact qP h3 (hj2 _ (by rw [eq_comm, decide_eq_false_iff_not]; unfold ok; omega))
  ·exact qP h0 (hj2 _ (by rw [eq_comm, decide_eq_false_iff_not]; omega))
theorem done (old : ByteArray) (ho : old.size ≤ 1048576) (l : List OpS) (hl : l.length ≤ 1048576) :
  Ev (fun k => qR.f k old l) (if Good old l then (flat old ⟨#[]⟩ l, true) else (⟨#[]⟩, false)) := by
 unfold qR.f
 have hj : ∀ b : Bool, b = decide (¬ (old.size ≤ 300 ∧ l.length ≤ 300)) → Ev (fun k => qR.j0 k old l b) (if Good old l then (flat old ⟨#[]⟩ l, true) else (⟨#[]⟩, false)) := by
  rintro b rfl
  refine qV (fun k => by rw [qR.j0]) ?_
  by_cases h : old.size ≤ 300 ∧ l.length ≤ 300
  ·refine qP (by simp [h]) (evEq (done_l0 old ho l hl 0 ⟨#[]⟩ (by omega) (by decide)) ?_)
   have hz : (⟨#[]⟩ : ByteArray).size = 0 := rfl
   rw [List.drop_zero, doneM_eq _ _ _ (by decide), hz]
   have e : (allOk old l ∧ ((0 : Nat) : Int) + sum l ≤ 300) ↔ Good old l := by
    unfold Good; constructor
    ·rintro ⟨a, b⟩; exact ⟨a, h.1, h.2, by omega⟩
    ·rintro ⟨a, _, _, b⟩; exact ⟨a, by omega⟩
   by_cases h3 : allOk old l ∧ ((0 : Nat) : Int) + sum l ≤ 300
   ·rw [if_pos h3, if_pos (e.1 h3)]
   ·rw [if_neg h3, if_neg (fun h => h3 (e.2 h))]
  ·refine qA (by rw [decide_eq_true_eq]; exact h) (evEq (Ev.now _) ?_)
   rw [if_neg]
   rintro ⟨_, a, b, _⟩
   exact h ⟨a, b⟩
 refine evBS (isData old) ?_
 by_cases h : old.size ≤ 300
 ·exact qA (decide_eq_true h) (hj _ (by rw [decide_eq_decide]; simp [h]; omega))
 ·exact qP (by simpa using h) (hj _ (by simp [h]))
theorem implGoodOps (old : ByteArray) (ho : old.size ≤ 1048576) (l : List OpS) (hl : l.length ≤ 1048576) : Ev (fun k => qlb.f k old l) (decide (Good old l)) := by
 unfold qlb.f
 refine evB (done old ho l hl) (evEq (Ev.now _) ?_)
 by_cases h : Good old l <;> simp [h]
end Go.Proofs.Ytnhnlfkbngnkpaa.Ops
