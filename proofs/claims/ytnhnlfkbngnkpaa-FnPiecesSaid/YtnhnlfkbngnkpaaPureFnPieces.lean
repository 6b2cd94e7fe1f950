/- The plain law of Pieces: pieces that are made bring the text that they are for, copied or new as much as it has. -/
import Derived.Test.YtnhnlfkbngnkpaaD11
import Derived.Test.YtnhnlfkbngnkpaaD12
import Derived.Test.YtnhnlfkbngnkpaaD3
import Derived.Test.YtnhnlfkbngnkpaaD7
import Derived.Test.YtnhnlfkbngnkpaaD8
import Derived.Test.YtnhnlfkbngnkpaaPureDrawOps
import Derived.Test.YtnhnlfkbngnkpaaPureDo
set_option linter.unusedVariables false
set_option linter.unusedSimpArgs false
namespace Go.Proofs.Ytnhnlfkbngnkpaa.Pure
open Go.RowKit Go.Proofs.YtnhnlfkbngnkpaaW.PrintWords Go.Proofs.Ytnhnlfkbngnkpaa.Tools Go.Proofs.Ytnhnlfkbngnkpaa.Ops Go.Proofs.Ytnhnlfkbngnkpaa.Draw Go.Proofs.Ytnhnlfkbngnkpaa.D

theorem specGoodOps (old : ByteArray) (ho : old.size ≤ 1048576) (l : List OpS) (hl : l.length ≤ 1048576) : Ev (fun k => spec_GoodOps.f k old l) (decide (Ops.Good old l)) := by
 unfold spec_GoodOps.f
 exact evB (l14Good old ho l hl) (Ev.now _)
theorem drawMakeOps (l : List Int) (hl : Draw.Code l) : ∃ x y n, Ev (fun k => spec_DrawMakeOps.f k l) (x, y, n) ∧ x.size ≤ 1000 ∧ y.size ≤ 1000 := by
 unfold spec_DrawMakeOps.f
 obtain ⟨x, a1, s1, h1, hx, h2, h3⟩ := data l hl 0 0 (by omega) (by omega)
 obtain ⟨y, a2, s2, h4, hy, h5, h6⟩ := data l hl a1 s1 (by omega) (by omega)
 obtain ⟨n, a3, s3, e, hn, h7, h8⟩ := among l hl a2 s2 [1, 2, 3, 4, 0, 300, 301] (by decide) (by decide) (by omega) (by omega)
 exact ⟨x, y, n, evB h1 (evB h4 (evBS e (Ev.now _))), hx, hy⟩
theorem big (l0 l1 : List Int) (h0 : l0.length ≤ 140737488351232) : laws_big.f l0 l1 = some (decide (¬ (l0.length + l1.length ≤ 1048576))) := by
 unfold laws_big.f
 by_cases h : (l0.length : Int) > 1048576
 ·rw [if_pos h]; congr 1; rw [eq_comm, decide_eq_true_eq]; omega
 ·rw [if_neg h, w64 (by omega) (by omega)]; congr 1; rw [decide_eq_decide]; omega
theorem sameOps_l0 (l : List OpS) (hl : l.length ≤ 1048576) : ∀ i, i ≤ l.length → Ev (fun k => laws_sameOps.l0 k l l (l.length : Int) (i : Int)) true := by
 refine evUp0 (R := fun _ => true) ?_ ?_
 ·refine evStep (fun k => by rw [laws_sameOps.l0]) ?_
  exact evNeg (by omega) (Ev.now _)
 ·intro i hi k
  have hi1 : wrap64 ((i : Int) + 1) = ((i + 1 : Nat) : Int) := by rw [w64 (by omega) (by omega)]; simp
  refine evStep (fun k => by rw [laws_sameOps.l0]) ?_
  rw [hi1]
  clear hi1
  exact evPos (by omega) (evPos (by omega) (evPos (by omega) (evPos (by omega) (evNeg (by simp) k))))
theorem sameOps (l : List OpS) (hl : l.length ≤ 1048576) : Ev (fun k => laws_sameOps.f k l l) true := by
 unfold laws_sameOps.f
 exact evPos rfl (sameOps_l0 l hl 0 (by omega))
/-! of itself -/
theorem pieces_j3 (l : List Int) (hl : Draw.Code l) : Ev (fun k => laws_FnPieces.j4 k l) true := by
 obtain ⟨old, o, e, h1, h2⟩ := drawGoodOps l hl
 have h3 := h2.1
 have hx : ∀ x ∈ o, x.f3.size ≤ 1048576 := fun x hx => by have := h2.2 x hx; omega
 have ed : Ev (fun k => spec_DrawDoOps.f k l) (old, o) := by unfold spec_DrawDoOps.f; exact evB e (Ev.now _)
 have ec : Ev (fun k => spec_DrawCopiedIn.f k l) o := by unfold spec_DrawCopiedIn.f; exact evB e (Ev.now _)
 refine evStep (fun k => by rw [laws_FnPieces.j4]) ?_
 refine evB ed (evB (implDoOps old (by omega) o (by omega)) (evB (specDoOps old (by omega) o (by omega)) (evB ec (evB (implCopiedIn o (by omega) hx) (evB (specCopiedIn o (by omega) hx) ?_)))))
 refine evStep (fun k => by rw [laws_FnPieces.j5]) ?_
 refine evPos (by simp) (evPos rfl (evPos (by simp) (evPos rfl (evPos rfl ?_))))
 exact evB (implGoodOps old (by omega) o (by omega)) (evB (specGoodOps old (by omega) o (by omega)) (evEq (Ev.now _) (by simp)))
theorem pieces_l0 (c : List Int) (hc : Draw.Code c) (least : Int) (l : List OpS) (hl : l.length ≤ 300) (h : ∀ o ∈ l, o.f0 = 1 → least ≤ o.f2) : ∀ i, i ≤ l.length → Ev (fun k => laws_FnPieces.l0 k c least l (l.length : Int) (i : Int)) true := by
 refine evUp0 (R := fun _ => true) (g := fun i k => laws_FnPieces.l0 k c least l (l.length : Int) (i : Int)) ?_ ?_
 ·refine evStep (fun k => by rw [laws_FnPieces.l0]) ?_
  exact evNeg (by omega) (pieces_j3 c hc)
 ·intro i hi k
  have hi1 : wrap64 ((i : Int) + 1) = ((i + 1 : Nat) : Int) := by rw [w64 (by omega) (by omega)]; simp
  refine evStep (fun k => by rw [laws_FnPieces.l0]) ?_
  refine evPos (by omega) (evPos (by omega) (evPos (by omega) ?_))
  rw [rd_op, hi1]
  have ho := h _ (getD_mem hi z)
  by_cases h0 : (l.getD i z).f0 = 1
  ·have := ho h0
   exact evPos h0 (evNeg (by omega) k)
  ·exact evNeg h0 k
theorem pieces_j0 (c : List Int) (hc : Draw.Code c) (old s : ByteArray) (least : Int) : Ev (fun k => laws_FnPieces.j0 k c old s least (makeOps old s least).1 (makeOps old s least).2 false) true := by
 refine evStep (fun k => by rw [laws_FnPieces.j0]) ?_
 refine evNeg (by simp) ?_
 by_cases h : old.size ≤ 300 ∧ s.size ≤ 300 ∧ 1 ≤ least ∧ least ≤ 300
 ·obtain ⟨g1, g2, g3, g4, g5⟩ := make_good h
  generalize makeOps old s least = M at g1 g2 g3 g4 g5 ⊢
  obtain ⟨t1, t2, t3⟩ := tidy_good g1
  have hl := g1.2.2.1
  have htl := t1.2.2.1
  have hx : ∀ x ∈ M.1, x.f3.size ≤ 1048576 := fun x hx => by have := g1.1 x hx; unfold ok at this; omega
  have hin : allIn M.1 ∧ M.1.length ≤ 300 := ⟨allIn_of h.1 g1.1, hl⟩
  have hcf := cp_fr M.1 0 0 g1.1
  refine evPos g5 ?_
  have hd := implDoOps old (by omega) M.1 (by omega)
  rw [if_pos g1, g2] at hd
  have hcp := implCopiedIn M.1 (by omega) hx
  unfold copiedM at hcp
  rw [if_pos hin] at hcp
  have ht := implTidyOps old (by omega) M.1 (by omega)
  unfold tidyOpsM at ht
  rw [if_pos g1] at ht
  have hd2 := implDoOps old (by omega) (tidyM [] M.1) (by omega)
  rw [if_pos t1, t2, g2] at hd2
  have hg := implGoodOps old (by omega) M.1 (by omega)
  rw [decide_eq_true g1] at hg
  refine evB hd (evB hcp (evB ht (evB hd2 (evStep (fun k => by rw [laws_FnPieces.j1]) (evB hg (evPos rfl (evPos rfl (evPos rfl (evPos rfl (evPos ?_ (evPos rfl (evPos rfl (evPos rfl ?_)))))))))))))
  ·show wrap64 (cp 0 M.1 + fr 0 M.1) = (s.size : Int)
   rw [hcf, w64 (by omega) (by omega)]; omega
  ·refine evStep (fun k => by rw [laws_FnPieces.j2]) ?_
   refine evNeg (by simp only [decide_eq_true_eq]; omega) ?_
   exact pieces_l0 c hc least M.1 hl g3 0 (by omega)
 ·have hno : makeOps old s least = ([], false) := by unfold makeOps; rw [if_neg h]
  rw [hno]
  exact evNeg (by simp) (pieces_j3 c hc)
theorem FnPieces : laws_FnPieces.Pure := by
 intro l0 l1 h0 h1
 refine Ev.rounds ?_
 unfold laws_FnPieces.f
 refine evBS (big l0 l1 (by omega)) ?_
 by_cases hb : l0.length + l1.length ≤ 1048576
 ·refine evNeg (by simpa using hb) ?_
  have hc : Draw.Code l0 := ⟨by omega, fun x hx => wf_u8 (h0.2 x hx)⟩
  have hc1 : Draw.Code l1 := ⟨by omega, fun x hx => wf_u8 (h1.2 x hx)⟩
  obtain ⟨x, y, n, hd, hx, hy⟩ := drawMakeOps l0 hc
  have hm := (make_small x y n).1
  refine evB hd (evB (implMakeOps x y n) (evB (specMakeOps x y n) (evNeg (by simp) (evB (sameOps _ (by omega)) ?_))))
  exact pieces_j0 l1 hc1 x y n
 ·exact evPos (by simpa using hb) (Ev.now _)
end Go.Proofs.Ytnhnlfkbngnkpaa.Pure
