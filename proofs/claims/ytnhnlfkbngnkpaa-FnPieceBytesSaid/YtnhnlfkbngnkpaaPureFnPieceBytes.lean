/- The plain law of PieceBytes: pieces are read back from their bytes, and nothing else is, and tidied twice they are tidied once. -/
import Derived.Test.YtnhnlfkbngnkpaaE13
import Derived.Test.YtnhnlfkbngnkpaaE14
import Derived.Test.YtnhnlfkbngnkpaaE4
import Derived.Test.YtnhnlfkbngnkpaaPureDrawRead
import Derived.Test.YtnhnlfkbngnkpaaPureTidy
set_option linter.unusedVariables false
set_option linter.unusedSimpArgs false
namespace Go.Proofs.Ytnhnlfkbngnkpaa.Pure
open Go.RowKit Go.Proofs.YtnhnlfkbngnkpaaW.PrintWords Go.Proofs.Ytnhnlfkbngnkpaa.Tools Go.Proofs.Ytnhnlfkbngnkpaa.Ops Go.Proofs.Ytnhnlfkbngnkpaa.Draw Go.Proofs.Ytnhnlfkbngnkpaa.E

theorem big (l0 l1 : List Int) (h0 : l0.length ≤ 140737488351232) : qxc.f l0 l1 = some (decide (¬ (l0.length + l1.length ≤ 1048576))) := by
 unfold qxc.f
 by_cases h : (l0.length : Int) > 1048576
 ·rw [if_pos h]; congr 1; rw [eq_comm, decide_eq_true_eq]; omega
 ·rw [if_neg h, w64 (by omega) (by omega)]; congr 1; rw [decide_eq_decide]; omega
theorem sameOps_l0 (l : List OpS) (hl : l.length ≤ 1048576) : ∀ i, i ≤ l.length → Ev (fun k => qgb.l0 k l l (l.length : Int) (i : Int)) true := by
 refine evUp0 (R := fun _ => true) ?_ ?_
 ·refine qV (fun k => by rw [qgb.l0]) ?_
  exact qP (by omega) (Ev.now _)
 ·intro i hi k
  have hi1 : wrap64 ((i : Int) + 1) = ((i + 1 : Nat) : Int) := by rw [w64 (by omega) (by omega)]; simp
  refine qV (fun k => by rw [qgb.l0]) ?_
  rw [hi1]
  clear hi1
  exact qA (by omega) (qA (by omega) (qA (by omega) (qA (by omega) (qP (by simp) k))))
theorem sameOps (l : List OpS) (hl : l.length ≤ 1048576) : Ev (fun k => qgb.f k l l) true := by
 unfold qgb.f
 exact qA rfl (sameOps_l0 l hl 0 (by omega))
theorem bne_self {α : Type} [BEq α] [LawfulBEq α] (x : α) : (x != x) = false := by simp
theorem pb_j4 (q : ByteArray) (r : List OpS) (hq : q.size ≤ 1000) (hr : Small 1000 r) : Ev (fun k => qT.j4 k q r (tidyOpsM q r).1 (tidyOpsM q r).2 false) true := by
 have hl := hr.1
 refine qV (fun k => by rw [qT.j4]) (qP (by simp) ?_)
 by_cases g : Ops.Good q r
 ·obtain ⟨t1, t2, t3⟩ := tidy_good g
  have htl := t1.2.2.1
  have hT : tidyOpsM q r = (tidyM [] r, true) := by unfold tidyOpsM; rw [if_pos g]
  rw [hT]
  have d1 := implDoOps q (by omega) r (by omega)
  rw [if_pos g] at d1
  have d2 := implDoOps q (by omega) (tidyM [] r) (by omega)
  rw [if_pos t1, t2] at d2
  have d3 := implTidyOps q (by omega) (tidyM [] r) (by omega)
  have hT2 : tidyOpsM q (tidyM [] r) = (tidyM [] r, true) := by unfold tidyOpsM; rw [if_pos t1, tidy_twice]
  rw [hT2] at d3
  have d4 := implGoodOps q (by omega) (tidyM [] r) (by omega)
  rw [decide_eq_true t1] at d4
  exact qA rfl (evB d1 (evB d2 (evB d3 (qA rfl (qA rfl (qA rfl (qA rfl (evB (sameOps (tidyM [] r) (by omega)) (qA rfl (evB d4 (Ev.now _)))))))))))
 ·have hT : tidyOpsM q r = ([], false) := by unfold tidyOpsM; rw [if_neg g]
  rw [hT]
  exact qP (by simp) (Ev.now _)
theorem pb_j3 (c : List Int) (hc : Draw.Code c) : Ev (fun k => qT.j3 k c) true := by
 obtain ⟨q, r, e, h1, h2⟩ := drawGoodOps c hc
 have hl := h2.1
 have ed : Ev (fun k => qMb.f k c) (q, r) := by unfold qMb.f; exact evB e (Ev.now _)
 have hT := tidyOps_len q r
 refine qV (fun k => by rw [qT.j3]) ?_
 refine evB ed (evB (implTidyOps q (by omega) r (by omega)) (evB (specTidyOps q (by omega) r (by omega)) (qP (by simp) (evB (sameOps _ (by omega)) ?_))))
 exact pb_j4 q r h1 h2
theorem pb_j2 (c : List Int) (hc : Draw.Code c) (p s : ByteArray) (hp : p.size ≤ 1000) (hs : s.size ≤ 1000000) : Ev (fun k => qT.j2 k c p s (readOps p s).1 (readOps p s).2.2 false) true := by
 have hlen := readOps_len p s (by omega)
 refine qV (fun k => by rw [qT.j2]) (qP (by simp) ?_)
 by_cases hR : (readOps p s).2.2 = true
 ·have h0 := readOps_ok hR
  have hb : Ops.Good p (readOps p s).1 ∧ bytesM (two ((readOps p s).1.length : Int)) (readOps p s).1 = s := read_back (x := (readOps p s).1) (by
   rcases hx : readOps p s with ⟨x, y, z⟩
   rw [hx] at h0 hR
   simp only at h0 hR
   rw [h0, hR])
  have d := implOpsBytes p (by omega) (readOps p s).1 (by omega)
  have hO : opsBytesM p (readOps p s).1 = (s, true) := by unfold opsBytesM; rw [if_pos hb.1, hb.2]
  rw [hO] at d
  exact qA hR (evB d (qA rfl (qA rfl (pb_j3 c hc))))
 ·exact qP hR (pb_j3 c hc)
theorem pb_j1 (c : List Int) (hc : Draw.Code c) : Ev (fun k => qT.j1 k c) true := by
 obtain ⟨p, s, e, h1, h2⟩ := drawReadOps c hc
 have hlen := readOps_len p s (by omega)
 refine qV (fun k => by rw [qT.j1]) ?_
 refine evB e (evB (implReadOps p s (by omega) (by omega)) (evB (specReadOps p s (by omega) (by omega)) (qP (by simp) (qA rfl (evB (sameOps _ (by omega)) ?_)))))
 exact pb_j2 c hc p s h1 h2
theorem pb_j0 (c : List Int) (hc : Draw.Code c) (old : ByteArray) (o : List OpS) (ho : old.size ≤ 1000) (h2 : Small 1000 o) : Ev (fun k => qT.j0 k c old o (opsBytesM old o).1 (opsBytesM old o).2 false) true := by
 have hl := h2.1
 have hz := opsBytes_size old o
 refine qV (fun k => by rw [qT.j0]) (qP (by simp) ?_)
 by_cases g : Ops.Good old o
 ·have hO : opsBytesM old o = (bytesM (two (o.length : Int)) o, true) := by unfold opsBytesM; rw [if_pos g]
  rw [hO] at hz ⊢
  have hz2 := bytes_size o
  have r1 := read_bytes g
  have r2 := read_cut g
  dsimp only at hz ⊢
  generalize bytesM (two (o.length : Int)) o = B at hz hz2 r1 r2 ⊢
  have hw : wrap64 ((B.size : Int) - 1) = ((B.size - 1 : Nat) : Int) := by rw [w64 (by omega) (by omega)]; omega
  have e1 := implReadOps old B (by omega) (by omega)
  rw [r1] at e1
  have hc2 : (B.extract 0 (B.size - 1)).size ≤ 1048576 := by rw [ByteArray.size_extract]; omega
  have e2 := implReadOps old (B.extract 0 (B.size - 1)) (by omega) hc2
  rw [r2] at e2
  simp only [hw, Int.toNat_natCast]
  clear hw
  exact qA (by trivial) (evB e1 (qA (by omega) (qA (by omega) (evB e2 (qA (by trivial) (qA (by trivial) (evB (sameOps o (by omega)) (qA (by trivial) (qP (by simp [bad]) (qA (by trivial) (pb_j1 c hc)))))))))))
 ·have hO : opsBytesM old o = (⟨#[]⟩, false) := by unfold opsBytesM; rw [if_neg g]
  rw [hO]
  exact qP (by simp) (pb_j1 c hc)
theorem FnPieceBytes : qT.Pure := by
 intro l0 l1 h0 h1
 refine Ev.rounds ?_
 unfold qT.f
 refine evBS (big l0 l1 (by omega)) ?_
 by_cases hb : l0.length + l1.length ≤ 1048576
 ·refine qP (by simpa using hb) ?_
  have hc : Draw.Code l0 := ⟨by omega, fun x hx => wf_u8 (h0.2 x hx)⟩
  have hc1 : Draw.Code l1 := ⟨by omega, fun x hx => wf_u8 (h1.2 x hx)⟩
  obtain ⟨old, o, e, h3, h4⟩ := drawGoodOps l0 hc
  have hl := h4.1
  have ed : Ev (fun k => qFb.f k l0) (old, o) := by unfold qFb.f; exact evB e (Ev.now _)
  refine evB ed (evB (implOpsBytes old (by omega) o (by omega)) (evB (specOpsBytes old (by omega) o (by omega)) (qP (by simp) ?_)))
  rw [bne_self]
  exact pb_j0 l1 hc1 old o h3 h4
 ·exact qA (by simpa using hb) (Ev.now _)
end Go.Proofs.Ytnhnlfkbngnkpaa.Pure
