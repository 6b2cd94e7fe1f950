/- What tidying comes to, by the program. -/
import Derived.Test.YtnhnlfkbngnkpaaE2
import Derived.Test.YtnhnlfkbngnkpaaE6
import Derived.Test.YtnhnlfkbngnkpaaPureOps2
set_option linter.unusedVariables false
set_option linter.unusedSimpArgs false
namespace Go.Proofs.Ytnhnlfkbngnkpaa.Ops
open Go.RowKit Go.Proofs.YtnhnlfkbngnkpaaW.PrintWords Go.Proofs.YtnhnlfkbngnkpaaW.PrintLast Go.Proofs.YtnhnlfkbngnkpaaW.PrintMore Go.Proofs.Ytnhnlfkbngnkpaa.Tools Go.Proofs.Ytnhnlfkbngnkpaa.E

theorem qCc (old : ByteArray) (a b : List OpS) : allOk old (a ++ b) ↔ allOk old a ∧ allOk old b := by
 unfold allOk; constructor
 ·intro h; exact ⟨fun o ho => h o (List.mem_append_left _ ho), fun o ho => h o (List.mem_append_right _ ho)⟩
 ·rintro ⟨h1, h2⟩ o ho
  rcases List.mem_append.1 ho with h | h
  ·exact h1 o h
  ·exact h2 o h
theorem sum_append (a b : List OpS) : sum (a ++ b) = sum a + sum b := by simp [sum]
def join (y o : OpS) : List OpS :=
 if y.f0 = o.f0 then (if o.f0 = 2 then [⟨y.f0, y.f1, y.f2, y.f3 ++ o.f3⟩] else if y.f1 + y.f2 = o.f1 then [⟨y.f0, y.f1, y.f2 + o.f2, y.f3⟩] else [y, o]) else [y, o]
def push (out : List OpS) (o : OpS) : List OpS := if out.length = 0 then [o] else out.take (out.length - 1) ++ join (out.getD (out.length - 1) z) o
def tidyM : List OpS → List OpS → List OpS
 | out, [] => out
 | out, o :: l => tidyM (push out o) l
theorem push_nil (o : OpS) : push [] o = [o] := rfl
theorem last_at (p : List OpS) (y : OpS) : (p ++ [y]).getD p.length z = y := by simp
theorem push_app (p : List OpS) (y o : OpS) : push (p ++ [y]) o = p ++ join y o := by
 unfold push
 rw [if_neg (by simp)]
 have h : (p ++ [y]).length - 1 = p.length := by simp
 rw [h, last_at]; simp
theorem join_ok {old : ByteArray} {y o : OpS} (hy : ok old y) (ho : ok old o) (hs : many y + many o ≤ 300) : allOk old (join y o) ∧ sum (join y o) = many y + many o ∧ (join y o).length ≤ 2 := by
 have h2 : allOk old [y, o] ∧ sum [y, o] = many y + many o ∧ [y, o].length ≤ 2 := by
  refine ⟨?_, ?_, by simp⟩
  ·rw [qCb, qCb]; exact ⟨hy, ho, qvc _⟩
  ·rw [sum_cons, sum_cons, sum_nil]; omega
 unfold join
 split
 ·rename_i h0
  split
  ·rename_i h1
   refine ⟨?_, ?_, by simp⟩
   ·rw [qCb]
    refine ⟨?_, qvc _⟩
    unfold many at hs
    unfold ok at hy ho ⊢
    simp only [ByteArray.size_append]
    omega
   ·rw [sum_cons, sum_nil]
    unfold many
    simp only [ByteArray.size_append]
    unfold ok at ho
    omega
  ·rename_i h1
   split
   ·rename_i h3
    refine ⟨?_, ?_, by simp⟩
    ·rw [qCb]
     refine ⟨?_, qvc _⟩
     unfold ok at hy ho ⊢
     simp only
     omega
    ·rw [sum_cons, sum_nil]
     unfold many
     unfold ok at ho
     simp only
     omega
   ·exact h2
 ·exact h2
/-- What holds in a round. -/
def Tid (old : ByteArray) (l : List OpS) (i : Nat) (out : List OpS) : Prop := allOk old out ∧ out.length ≤ i ∧ sum out + sum (l.drop i) ≤ 300
theorem Tid_next {old : ByteArray} {l : List OpS} (hok : allOk old l) {i : Nat} (hi : i < l.length) {out : List OpS} (h : Tid old l i out) : Tid old l (i + 1) (push out (l.getD i z)) := by
 obtain ⟨h1, h2, h3⟩ := h
 have ho := hok _ (qoc hi z)
 have hr : 0 ≤ sum (l.drop (i + 1)) := sum_nonneg (old := old) (fun o hm => hok o (List.mem_of_mem_drop hm))
 rw [qpc hi z, sum_cons] at h3
 rcases List.eq_nil_or_concat out with rfl | ⟨p, y, rfl⟩
 ·rw [push_nil]
  refine ⟨?_, by simp, ?_⟩
  ·rw [qCb]; exact ⟨ho, qvc _⟩
  ·rw [sum_nil] at h3; rw [sum_cons, sum_nil]; omega
 ·rw [List.concat_eq_append] at *
  rw [push_app]
  rw [qCc, qCb] at h1
  rw [sum_append, sum_cons, sum_nil] at h3
  have hp := sum_nonneg h1.1
  obtain ⟨j1, j2, j3⟩ := join_ok h1.2.1 ho (by omega)
  refine ⟨?_, ?_, ?_⟩
  ·rw [qCc]; exact ⟨h1.1, j1⟩
  ·rw [List.length_append] at h2 ⊢; simp at h2; omega
  ·rw [sum_append, j2]; omega
theorem ok_len {old : ByteArray} {o : OpS} (ho : old.size ≤ 300) (h : ok old o) : 0 ≤ o.f1 ∧ 0 ≤ o.f2 ∧ o.f1 + o.f2 ≤ 300 ∧ o.f3.size ≤ 300 := by
 unfold ok at h; omega
theorem getD_snoc (p : List OpS) (y : OpS) : qc (p ++ [y]) ((p.length : Nat) : Int) = y := last_at p y
theorem set_snoc (p : List OpS) (y x : OpS) : (p ++ [y]).set (((p.length : Nat) : Int)).toNat x = p ++ [x] := by simp
theorem len_snoc (p : List OpS) (y : OpS) : (((p ++ [y]).length : Nat) : Int) = (p.length : Int) + 1 := by simp
theorem implTidy_l0 (old : ByteArray) (ho : old.size ≤ 300) (l : List OpS) (hl : l.length ≤ 300) (hok : allOk old l) : ∀ i (out : List OpS), i ≤ l.length → Tid old l i out →
  Ev (fun k => qH.l0 k out l (l.length : Int) (i : Int)) (tidyM out (l.drop i), true) := by
 refine evUp (R := fun out i => (tidyM out (l.drop i), true)) (g := fun out i k => qH.l0 k out l (l.length : Int) (i : Int)) (Tid old l) ?_ ?_
 ·intro out h
  refine qV (fun k => by rw [qH.l0]) ?_
  exact qP (by omega) (evEq (Ev.now _) (by simp [tidyM]))
 ·intro i out hi hI k
  have hn := Tid_next hok hi hI
  have hi1 : wrap64 ((i : Int) + 1) = ((i + 1 : Nat) : Int) := by rw [w64 (by omega) (by omega)]; simp
  have h := ok_len ho (hok _ (qoc hi z))
  have kk := k _ hn
  rw [qpc hi z]
  generalize ho' : l.getD i z = o at h hn kk ⊢
  have hrd : qc l (i : Int) = o := ho'
  unfold tidyM
  refine qV (fun k => by rw [qH.l0]) ?_
  refine qA (by omega) (qA (by omega) (qA (by omega) ?_))
  simp only [hrd]
  obtain ⟨q1, q2, q3⟩ := hI
  rcases List.eq_nil_or_concat out with rfl | ⟨p, y, rfl⟩
  ·refine qP (by rw [show (((([] : List OpS).length : Nat) : Int) - 1) = -1 from rfl, w64 (by omega) (by omega)]; omega) ?_
   refine qV (fun k => by rw [qH.j1]) ?_
   refine qP (by simp) (qA (by simp) ?_)
   rw [hi1]
   exact kk
  ·rw [List.concat_eq_append] at *
   rw [push_app] at kk ⊢
   rw [qCc, qCb] at q1
   have hy := ok_len ho q1.2.1
   have hL := len_snoc p y
   have hp : p.length ≤ 300 := by rw [List.length_append] at q2; omega
   have hw : wrap64 ((((p ++ [y]).length : Nat) : Int) - 1) = ((p.length : Nat) : Int) := by rw [hL, w64 (by omega) (by omega)]; omega
   simp only [hw, getD_snoc]
   refine qA (by omega) (qA (by omega) (qA (by omega) ?_))
   refine qV (fun k => by rw [qH.j1]) ?_
   simp only [getD_snoc, set_snoc, hi1]
   unfold join at kk ⊢
   by_cases h0 : y.f0 = o.f0
   ·rw [if_pos h0] at kk ⊢
    refine qA (by simp [h0]) (qA (by omega) (qA (by omega) ?_))
    by_cases h1 : o.f0 = 2
    ·rw [if_pos h1] at kk ⊢
     exact qA h1 (qA (by omega) kk)
    ·rw [if_neg h1] at kk ⊢
     refine qP h1 ?_
     rw [w64 (x := y.f1 + y.f2) (by omega) (by omega), w64 (x := y.f2 + o.f2) (by omega) (by omega)]
     by_cases h2 : y.f1 + y.f2 = o.f1
     ·rw [if_pos h2] at kk ⊢
      exact qA h2 kk
     ·rw [if_neg h2] at kk ⊢
      refine qP h2 (qA (by omega) ?_)
      rw [List.append_assoc]; exact kk
   ·rw [if_neg h0] at kk ⊢
    refine qP (by simp [h0]) (qA (by omega) ?_)
    rw [List.append_assoc]; exact kk
def tidyOpsM (old : ByteArray) (l : List OpS) : List OpS × Bool := if Good old l then (tidyM [] l, true) else ([], false)
theorem Tid_zero {old : ByteArray} {l : List OpS} (h : Good old l) : Tid old l 0 [] := ⟨qvc _, by simp, by rw [sum_nil, List.drop_zero]; have := h.2.2.2; omega⟩
theorem implTidyOps (old : ByteArray) (ho : old.size ≤ 1048576) (l : List OpS) (hl : l.length ≤ 1048576) : Ev (fun k => qH.f k old l) (tidyOpsM old l) := by
 unfold qH.f tidyOpsM
 refine evB (implGoodOps old ho l hl) ?_
 by_cases h : Good old l
 ·rw [if_pos h]
  exact qA (decide_eq_true h) (evEq (implTidy_l0 old h.2.1 l h.2.2.1 h.1 0 [] (by omega) (Tid_zero h)) (by simp))
 ·rw [if_neg h]
  exact qP (by simpa using h) (Ev.now _)
theorem tidy_len {old : ByteArray} {l : List OpS} (hok : allOk old l) : ∀ (d i : Nat) (out : List OpS), l.length - i = d → i ≤ l.length → Tid old l i out → Tid old l l.length (tidyM out (l.drop i)) := by
 intro d
 induction d with
 | zero =>
  intro i out hd hi h
  obtain rfl : i = l.length := by omega
  simpa [tidyM] using h
 | succ d ih =>
  intro i out hd hi h
  have hlt : i < l.length := by omega
  rw [qpc hlt z]
  unfold tidyM
  exact ih (i + 1) _ (by omega) (by omega) (Tid_next hok hlt h)
theorem tidyOps_len (old : ByteArray) (l : List OpS) : (tidyOpsM old l).1.length ≤ 300 := by
 unfold tidyOpsM
 split
 ·rename_i h
  have := (tidy_len h.1 _ 0 [] rfl (by omega) (Tid_zero h)).2.1
  rw [List.drop_zero] at this
  have := h.2.2.1
  simp only; omega
 ·simp
end Go.Proofs.Ytnhnlfkbngnkpaa.Ops
