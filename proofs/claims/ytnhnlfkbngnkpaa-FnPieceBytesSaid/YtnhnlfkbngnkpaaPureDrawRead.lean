/- What is drawn for reading ops: two texts, not too long. -/
import Derived.Test.YtnhnlfkbngnkpaaE13
import Derived.Test.YtnhnlfkbngnkpaaPureDrawOps
import Derived.Test.YtnhnlfkbngnkpaaPureBytes
set_option linter.unusedVariables false
set_option linter.unusedSimpArgs false
namespace Go.Proofs.Ytnhnlfkbngnkpaa.Draw
open Go.RowKit Go.Proofs.YtnhnlfkbngnkpaaW.PrintWords Go.Proofs.YtnhnlfkbngnkpaaW.PrintLast Go.Proofs.YtnhnlfkbngnkpaaW.PrintMore Go.Proofs.Ytnhnlfkbngnkpaa.Tools Go.Proofs.Ytnhnlfkbngnkpaa.Ops Go.Proofs.Ytnhnlfkbngnkpaa.E

section
variable {α : Type}
theorem exStep {g f : Nat → Option α} {P : α → Prop} (h : ∀ k, g (k + 1) = f k) (k : Ex f P) : Ex g P := by
 obtain ⟨r, e, p⟩ := k; exact ⟨r, qV h e, p⟩
theorem exMono {g : Nat → Option α} {P Q : α → Prop} (k : Ex g P) (h : ∀ r, P r → Q r) : Ex g Q := by
 obtain ⟨r, e, p⟩ := k; exact ⟨r, e, h r p⟩
end
theorem ext0_size (s : ByteArray) (v : Int) (h0 : 0 ≤ v) (h1 : v ≤ (s.size : Int)) : ((s.extract 0 v.toNat).size : Int) = v := by rw [ByteArray.size_extract]; omega
theorem ext1_size (s : ByteArray) (v : Int) (h0 : 0 ≤ v) (h1 : v ≤ (s.size : Int)) : ((s.extract v.toNat s.size).size : Int) = s.size - v := by rw [ByteArray.size_extract]; omega
theorem spoilt_end (l : List Int) (c : ByteArray) (t : ByteArray) (n a s : Int) (h : ¬ n > 0) : Ex (fun k => qbb.l0 k t c n l a s) (fun r => r.1.size ≤ t.size) := by
 refine exStep (fun k => by rw [qbb.l0]) (exNeg h ?_)
 refine exStep (fun k => by rw [qbb.j1]) (exNeg (by simp) (exNow (Nat.le_refl _)))
theorem spoilt_l0 (l : List Int) (hl : Code l) (c : ByteArray) (hc : c.size = 4) : ∀ (d : Nat) (t : ByteArray) (n a s : Int), n ≤ d → d ≤ 10 → 0 ≤ a → a + 6 * d ≤ 100000000 → t.size + d ≤ 2000000 →
  Ex (fun k => qbb.l0 k t c n l a s) (fun r => r.1.size ≤ t.size + d) := by
 intro d
 induction d with
 | zero =>
  intro t n a s hn hd ha ha2 ht
  exact exMono (spoilt_end l c t n a s (by omega)) (fun r h => by omega)
 | succ d ih =>
  intro t n a s hn hd ha ha2 ht
  by_cases hp : n > 0
  ·by_cases hz : (t.size : Int) > 0
   ·refine exStep (fun k => by rw [qbb.l0]) (exPos hp ?_)
    rw [decide_eq_true hz]
    refine exStep (fun k => by rw [qbb.j1]) (exPos rfl ?_)
    obtain ⟨v, a1, s1, e1, h10, h11, c1, d1⟩ := pick l hl a s (t.size : Int) ha (by omega)
    obtain ⟨u, a2, s2, e2, h20, h21, c2, d2⟩ := pick l hl a1 s1 (c.size : Int) (by omega) (by omega)
    obtain ⟨q, a3, s3, e3, h30, h31, c3, d3⟩ := pick l hl a2 s2 3 (by omega) (by omega)
    have hw1 : wrap64 (n - 1) = n - 1 := w64 (by omega) (by omega)
    have hw2 : wrap64 (v + 1) = v + 1 := w64 (by omega) (by omega)
    have z1 : (strOfNums [bt c u]).size = 1 := strOf_len _
    have z2 := ext0_size t v h10 (by omega)
    have z3 := ext1_size t v h10 (by omega)
    have z4 := ext1_size t (v + 1) (by omega) (by omega)
    refine exBS e1 (exBS e2 (exPos h20 (exPos (by omega) (exBS rfl (exBS e3 ?_)))))
    simp only [hw1, hw2]
    clear hw1 hw2
    have go : ∀ t2 : ByteArray, t2.size ≤ t.size + 1 → Ex (fun k => qbb.l0 k t2 c (n - 1) l a3 s3) (fun r => r.1.size ≤ t.size + (d + 1)) := fun t2 h2 =>
     exMono (ih t2 (n - 1) a3 s3 (by omega) (by omega) (by omega) (by omega) (by omega)) (fun r h => by omega)
    generalize t.extract 0 v.toNat = A at z2 ⊢
    generalize t.extract v.toNat t.size = B at z3 ⊢
    generalize t.extract (v + 1).toNat t.size = C at z4 ⊢
    generalize strOfNums [bt c u] = D at z1 ⊢
    have s1_ : (A ++ D).size = A.size + D.size := ByteArray.size_append
    have s2_ : (A ++ D ++ B).size = A.size + D.size + B.size := by rw [ByteArray.size_append, ByteArray.size_append]
    have s3_ : (A ++ D ++ C).size = A.size + D.size + C.size := by rw [ByteArray.size_append, ByteArray.size_append]
    have s4_ : (A ++ C).size = A.size + C.size := ByteArray.size_append
    by_cases q0 : q = 0
    ·exact exPos q0 (exPos h10 (exPos (by omega) (exPos (by omega) (exPos (by omega) (go _ (by omega))))))
    refine exNeg q0 ?_
    by_cases q1 : q = 1
    ·exact exPos q1 (exPos h10 (exPos (by omega) (exPos (by omega) (exPos (by omega) (exPos (by omega) (exPos (by omega) (go _ (by omega))))))))
    ·exact exNeg q1 (exPos h10 (exPos (by omega) (exPos (by omega) (exPos (by omega) (exPos (by omega) (go _ (by omega)))))))
   ·refine exStep (fun k => by rw [qbb.l0]) (exPos hp ?_)
    rw [decide_eq_false hz]
    refine exStep (fun k => by rw [qbb.j1]) (exNeg (by simp) (exNow ?_))
    show t.size ≤ t.size + (d + 1)
    omega
  ·exact exMono (spoilt_end l c t n a s hp) (fun r h => by omega)
theorem spoilt (l : List Int) (hl : Code l) (a s : Int) (ha : 0 ≤ a) (ha2 : a ≤ 1000000) (t c : ByteArray) (hc : c.size = 4) (ht : t.size ≤ 1000000) : Ex (fun k => qbb.f k l a s t c) (fun r => r.1.size ≤ t.size + 2) := by
 unfold qbb.f
 obtain ⟨v, a1, s1, e1, h10, h11, c1, d1⟩ := pick l hl a s 2 ha (by omega)
 refine exBS e1 ?_
 have hw : wrap64 (1 + v) = 1 + v := w64 (by omega) (by omega)
 simp only [hw]
 exact spoilt_l0 l hl c hc 2 t (1 + v) a1 s1 (by omega) (by omega) (by omega) (by omega) (by omega)
theorem el_len (old : ByteArray) (o : OpS) (h : ok old o) : (el o).length ≤ 303 := by
 unfold ok at h
 unfold el
 split
 ·simp [u2]
 ·simp only [List.length_cons, List.length_append, u2, qgc, List.length_nil]; omega
theorem els_le (old : ByteArray) : ∀ l : List OpS, allOk old l → (els l).length ≤ 303 * l.length
 | [], _ => by simp [els_nil]
 | o :: l, h => by
  rw [qCb] at h
  have := el_len old o h.1
  have := els_le old l h.2
  rw [qwc, List.length_append, List.length_cons]; omega
theorem opsBytes_size (old : ByteArray) (l : List OpS) : (opsBytesM old l).1.size ≤ 100000 := by
 unfold opsBytesM
 split
 ·rename_i h
  have h1 := bytes_size l
  have h2 := els_le old l h.1
  have h3 := h.2.2.1
  show (bytesM (two (l.length : Int)) l).size ≤ 100000
  omega
 ·decide
theorem drawReadOps (l : List Int) (hl : Code l) : ∃ old s, Ev (fun k => qLb.f k l) (old, s) ∧ old.size ≤ 1000 ∧ s.size ≤ 1000000 := by
 obtain ⟨⟨old, o, a1, s1⟩, e, h1, h2, h3, h4⟩ := ops l hl 0 0 (by omega) (by omega)
 dsimp only at h1 h2 h3 h4
 have hl2 := h2.1
 have hB := specOpsBytes old (by omega) o (by omega)
 have hBs := opsBytes_size old o
 generalize opsBytesM old o = B at hB hBs
 obtain ⟨q, a2, s2, e2, h20, h21, c2, d2⟩ := pick l hl a1 s1 4 (by omega) (by omega)
 unfold qLb.f
 by_cases q0 : q = 0
 ·obtain ⟨r, er, hr⟩ := spoilt l hl a2 s2 (by omega) (by omega) B.1 (⟨#[0, 1, 2, 3]⟩ : ByteArray) rfl (by omega)
  exact ⟨old, r.1, evB e (evB hB (evBS e2 (qA q0 (evB er (Ev.now _))))), h1, by omega⟩
 by_cases q1 : q = 1
 ·have hw : wrap64 ((B.1.size : Int) + 1) = (B.1.size : Int) + 1 := w64 (by omega) (by omega)
  obtain ⟨v, a3, s3, e3, h30, h31, c3, d3⟩ := pick l hl a2 s2 (wrap64 ((B.1.size : Int) + 1)) (by omega) (by omega)
  rw [hw] at h31
  refine ⟨old, B.1.extract 0 v.toNat, evB e (evB hB (evBS e2 (qP q0 (qA q1 (evBS e3 (qA h30 (qA ?_ (Ev.now _)))))))), h1, ?_⟩
  ·show v ≤ (B.1.size : Int); omega
  ·rw [ByteArray.size_extract]; omega
 ·exact ⟨old, B.1, evB e (evB hB (evBS e2 (qP q0 (qP q1 (Ev.now _))))), h1, by omega⟩
end Go.Proofs.Ytnhnlfkbngnkpaa.Draw
