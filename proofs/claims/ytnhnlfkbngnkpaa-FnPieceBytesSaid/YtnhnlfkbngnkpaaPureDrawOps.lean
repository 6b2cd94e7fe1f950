/- What is drawn for ops: some ops, not too many. -/
import Derived.Test.YtnhnlfkbngnkpaaE12
import Derived.Test.YtnhnlfkbngnkpaaE13
import Derived.Test.YtnhnlfkbngnkpaaPurePieces
import Derived.Test.YtnhnlfkbngnkpaaPureDrawData
set_option linter.unusedVariables false
set_option linter.unusedSimpArgs false
namespace Go.Proofs.Ytnhnlfkbngnkpaa.Draw
open Go.RowKit Go.Proofs.YtnhnlfkbngnkpaaW.PrintWords Go.Proofs.YtnhnlfkbngnkpaaW.PrintLast Go.Proofs.YtnhnlfkbngnkpaaW.PrintMore Go.Proofs.Ytnhnlfkbngnkpaa.Tools Go.Proofs.Ytnhnlfkbngnkpaa.Ops Go.Proofs.Ytnhnlfkbngnkpaa.E

section
variable {α β : Type}
/-- It answers something of which P holds. -/
def Ex (g : Nat → Option α) (P : α → Prop) : Prop := ∃ r, Ev g r ∧ P r
theorem exNow {r : α} {P : α → Prop} (h : P r) : Ex (fun _ => some r) P := ⟨r, Ev.now _, h⟩
theorem exPos {c : Prop} [Decidable c] {A B : Nat → Option α} {P : α → Prop} (h : c) (k : Ex A P) : Ex (fun n => if c then A n else B n) P := by
 obtain ⟨r, e, p⟩ := k; exact ⟨r, qA h e, p⟩
theorem exNeg {c : Prop} [Decidable c] {A B : Nat → Option α} {P : α → Prop} (h : ¬ c) (k : Ex B P) : Ex (fun n => if c then A n else B n) P := by
 obtain ⟨r, e, p⟩ := k; exact ⟨r, qP h e, p⟩
theorem exB {g : Nat → Option α} {f : Nat → α → Option β} {a : α} {P : β → Prop} (h : Ev g a) (k : Ex (fun n => f n a) P) : Ex (fun n => (g n).bind (f n)) P := by
 obtain ⟨r, e, p⟩ := k; exact ⟨r, evB h e, p⟩
theorem exBS {x : Option α} {f : Nat → α → Option β} {a : α} {P : β → Prop} (h : x = some a) (k : Ex (fun n => f n a) P) : Ex (fun n => x.bind (f n)) P := by
 obtain ⟨r, e, p⟩ := k; exact ⟨r, evBS h e, p⟩
end
def Small (n : Nat) (l : List OpS) : Prop := l.length ≤ n ∧ ∀ o ∈ l, o.f3.size ≤ n
theorem rd_small {l : List OpS} {n : Nat} (h : Small n l) (v : Int) : (qc l v).f3.size ≤ n := by
 by_cases hv : v.toNat < l.length
 ·exact h.2 _ (qoc hv z)
 ·have : qc l v = z := by
   show l.getD v.toNat z = z
   rw [List.getD_eq_getElem?_getD, List.getElem?_eq_none (by omega)]; rfl
  rw [this]; exact Nat.zero_le _
theorem Small.set {l : List OpS} {n : Nat} (h : Small n l) (i : Nat) (x : OpS) (hx : x.f3.size ≤ n) : Small n (l.set i x) := by
 refine ⟨by rw [List.length_set]; exact h.1, fun o ho => ?_⟩
 rcases List.mem_or_eq_of_mem_set ho with ho | rfl
 ·exact h.2 o ho
 ·exact hx
theorem Small.set4 {l : List OpS} {n : Nat} (h : Small n l) (i : Nat) (a b c : Int) (d : ByteArray) (hd : d.size ≤ n) : Small n (l.set i ⟨a, b, c, d⟩) := h.set i _ hd
theorem Small.app {l m : List OpS} {n k : Nat} (h : Small n l) (h2 : Small k m) : Small (n + k) (l ++ m) := by
 refine ⟨by rw [List.length_append]; have := h.1; have := h2.1; omega, fun o ho => ?_⟩
 rcases List.mem_append.1 ho with ho | ho
 ·have := h.2 o ho; omega
 ·have := h2.2 o ho; omega
theorem Small.le {l : List OpS} {n k : Nat} (h : Small n l) (h2 : n ≤ k) : Small k l := ⟨by have := h.1; omega, fun o ho => by have := h.2 o ho; omega⟩
theorem Small.take {l : List OpS} {n : Nat} (h : Small n l) (i : Nat) : Small n (l.take i) := ⟨by rw [List.length_take]; have := h.1; omega, fun o ho => h.2 o (List.mem_of_mem_take ho)⟩
theorem Small.drop {l : List OpS} {n : Nat} (h : Small n l) (i : Nat) : Small n (l.drop i) := ⟨by rw [List.length_drop]; have := h.1; omega, fun o ho => h.2 o (List.mem_of_mem_drop ho)⟩
theorem small_one {x : OpS} {n : Nat} (h1 : 1 ≤ n) (h : x.f3.size ≤ n) : Small n [x] := ⟨h1, fun o ho => by rw [List.mem_singleton.1 ho]; exact h⟩
theorem small_nil (n : Nat) : Small n [] := ⟨Nat.zero_le _, fun o ho => by cases ho⟩
theorem make_small (old s : ByteArray) (least : Int) : Small 300 (makeOps old s least).1 := by
 by_cases h : old.size ≤ 300 ∧ s.size ≤ 300 ∧ 1 ≤ least ∧ least ≤ 300
 ·obtain ⟨g, _⟩ := make_good h
  refine ⟨g.2.2.1, fun o ho => ?_⟩
  have := g.1 o ho
  unfold ok at this
  omega
 ·unfold makeOps; rw [if_neg h]; exact small_nil _
theorem ops (l : List Int) (hl : Code l) (a s : Int) (ha : 0 ≤ a) (ha2 : a ≤ 1000000) : Ex (fun k => qsb.f k l a s) (fun r => r.1.size ≤ 1000 ∧ Small 1000 r.2.1 ∧ a ≤ r.2.2.1 ∧ r.2.2.1 ≤ a + 1000) := by
 unfold qsb.f
 obtain ⟨old, a1, s1, e1, b1, c1, d1⟩ := data l hl a s ha (by omega)
 obtain ⟨x, a2, s2, e2, b2, c2, d2⟩ := data l hl a1 s1 (by omega) (by omega)
 obtain ⟨y, a3, s3, e3, b3, c3, d3⟩ := data l hl a2 s2 (by omega) (by omega)
 obtain ⟨v, a4, s4, e4, h40, h41, c4, d4⟩ := pick l hl a3 s3 4 (by omega) (by omega)
 refine exB e1 (exB e2 (exB e3 (exPos (by show x.size + y.size ≤ _; omega) (exBS e4 (exB (specMakeOps old (x ++ y) (wrap64 (1 + v))) ?_)))))
 have hS := make_small old (x ++ y) (wrap64 (1 + v))
 generalize makeOps old (x ++ y) (wrap64 (1 + v)) = M at hS ⊢
 have hL3 := hS.1
 by_cases hL : (M.1.length : Int) > 0
 ·obtain ⟨w, a5, s5, e5, h50, h51, c5, d5⟩ := pick l hl a4 s4 (M.1.length : Int) (by omega) (by omega)
  obtain ⟨u, a6, s6, e6, h60, h61, c6, d6⟩ := pick l hl a5 s5 12 (by omega) (by omega)
  have hw2 : w < (M.1.length : Int) := by omega
  have hr := rd_small hS w
  refine exPos hL (exBS e5 (exBS e6 ?_))
  have base : Small 1000 M.1 := hS.le (show 300 ≤ 1000 by omega)
  have keep : (fun r : ByteArray × List OpS × Int × Int => r.1.size ≤ 1000 ∧ Small 1000 r.2.1 ∧ a ≤ r.2.2.1 ∧ r.2.2.1 ≤ a + 1000) (old, M.1, a6, s6) := ⟨b1, base, by show a ≤ a6; omega, by show a6 ≤ a + 1000; omega⟩
  by_cases u0 : u = 0
  ·exact exPos u0 (exPos h50 (exPos hw2 (exNow ⟨b1, (hS.set4 _ _ _ _ _ hr).le (show 300 ≤ 1000 by omega), by show a ≤ a6; omega, by show a6 ≤ a + 1000; omega⟩)))
  refine exNeg u0 ?_
  by_cases u1 : u = 1
  ·obtain ⟨q, a7, s7, e7, h70, h71, c7, d7⟩ := pick l hl a6 s6 4 (by omega) (by omega)
   exact exPos u1 (exBS e7 (exPos h50 (exPos hw2 (exNow ⟨b1, (hS.set4 _ _ _ _ _ hr).le (show 300 ≤ 1000 by omega), by show a ≤ a7; omega, by show a7 ≤ a + 1000; omega⟩))))
  refine exNeg u1 ?_
  by_cases u2 : u = 2
  ·refine exPos u2 (exPos h50 (exPos hw2 (exBS rfl ?_)))
   exact exPos (by simp only [List.length_singleton]; omega) (exNow ⟨b1, (hS.app (small_one (n := 300) (by omega) hr)).le (show 300 + 300 ≤ 1000 by omega), by show a ≤ a6; omega, by show a6 ≤ a + 1000; omega⟩)
  refine exNeg u2 ?_
  by_cases u3 : u = 3
  ·refine exPos u3 (exPos h50 (exPos hw2 ?_))
   by_cases k0 : (qc M.1 w).f0 = 1
   ·refine exPos k0 ?_
    by_cases k1 : (qc M.1 w).f2 > 1
    ·refine exPos k1 (exBS rfl (exBS rfl ?_))
     have hw1 : wrap64 (w + 1) = w + 1 := w64 (by omega) (by omega)
     rw [hw1]
     clear hw1
     have hset : ∀ x : OpS, x.f3.size ≤ 300 → Small 300 (M.1.set w.toNat x) := fun x hx => hS.set _ _ hx
     refine exPos (by omega) (exPos (by omega) (exBS rfl ?_))
     have hA := (hset ⟨(qc M.1 w).f0, (qc M.1 w).f1, wrap64 ((qc M.1 w).f2 - 1), (qc M.1 w).f3⟩ hr)
     have hT := (small_nil 0).app (hA.take (w + 1).toNat)
     have hT1 := hT.1
     have hD := hA.drop (w + 1).toNat
     have hD1 := hD.1
     have hO : Small 1 [(⟨1, wrap64 (wrap64 ((qc M.1 w).f1 + (qc M.1 w).f2) - 1), 1, ⟨#[]⟩⟩ : OpS)] := small_one (by omega) (by show (⟨#[]⟩ : ByteArray).size ≤ 1; decide)
     have hU := hT.app hO
     have hU1 := hU.1
     refine exPos ?_ (exBS rfl (exBS rfl (exPos ?_ (exBS rfl (exBS rfl (exPos ?_ (exNow ⟨b1, (hU.app hD).le (show 0 + 300 + 1 + 300 ≤ 1000 by omega), by show a ≤ a6; omega, by show a6 ≤ a + 1000; omega⟩)))))))
     ·exact Nat.lt_of_le_of_lt (Nat.add_le_add (small_nil 0).1 (hA.take (w + 1).toNat).1) (by omega)
     ·exact Nat.lt_of_le_of_lt (Nat.add_le_add hT1 hO.1) (by omega)
     ·exact Nat.lt_of_le_of_lt (Nat.add_le_add hU1 hD1) (by omega)
    ·exact exNeg k1 (exNow keep)
   ·exact exNeg k0 (exNow keep)
  ·exact exNeg u3 (exNow keep)
 ·exact exNeg hL (exNow ⟨b1, hS.le (show 300 ≤ 1000 by omega), by show a ≤ a4; omega, by show a4 ≤ a + 1000; omega⟩)
theorem drawGoodOps (l : List Int) (hl : Code l) : ∃ old o, Ev (fun k => qKb.f k l) (old, o) ∧ old.size ≤ 1000 ∧ Small 1000 o := by
 obtain ⟨⟨old, o, a', s'⟩, e, h1, h2, _⟩ := ops l hl 0 0 (by omega) (by omega)
 refine ⟨old, o, ?_, h1, h2⟩
 unfold qKb.f
 exact evB e (Ev.now _)
end Go.Proofs.Ytnhnlfkbngnkpaa.Draw
