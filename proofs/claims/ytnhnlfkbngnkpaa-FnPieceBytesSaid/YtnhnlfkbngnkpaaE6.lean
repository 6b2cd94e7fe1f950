-- Made by a program of this session out of the translation; no hand has turned it.
import Derived.Test.YtnhnlfkbngnkpaaE0
import Derived.Test.YtnhnlfkbngnkpaaE2
namespace Go.Proofs.Ytnhnlfkbngnkpaa.E
open Go.RowKit Go.Proofs.YtnhnlfkbngnkpaaW.PrintWords Go.Proofs.YtnhnlfkbngnkpaaW.PrintLast Go.Proofs.YtnhnlfkbngnkpaaW.PrintMore
attribute [local go_sem] qXb qbc qac qec qZb qdc qYb qcc   -- for this text's walks alone
set_option linter.unusedVariables false
set_option linter.unusedSimpArgs false

/-! ### qH: function 34 -/
mutual
def qH.l0 : Nat → List (S43) → List (S43) → Int → Int → Option ((List (S43)) × Bool)
 | 0, _, _, _, _ => none
 | k + 1, x6, x16, x17, x18 => if x18 < x17 then (if 0 ≤ x18 then (if x18 < (x16.length : Int) then (if (wrap64 ((x6.length : Int) - 1)) ≥ 0 then (if 0 ≤ (wrap64 ((x6.length : Int) - 1)) then (if (wrap64 ((x6.length : Int) - 1)) < (x6.length : Int) then (qH.j1 k x6 (wrap64 ((x6.length : Int) - 1)) x16 x17 x18 (((qc x6 (wrap64 ((x6.length : Int) - 1))).f0) == ((qc x16 x18).f0)) ((qc x16 x18).f0) ((qc x16 x18).f1) ((qc x16 x18).f2) ((qc x16 x18).f3)) else (none)) else (none)) else (qH.j1 k x6 (wrap64 ((x6.length : Int) - 1)) x16 x17 x18 false ((qc x16 x18).f0) ((qc x16 x18).f1) ((qc x16 x18).f2) ((qc x16 x18).f3))) else (none)) else (none)) else (some (x6, true))
def qH.j1 : Nat → List (S43) → Int → List (S43) → Int → Int → Bool → Int → Int → Int → ByteArray → Option ((List (S43)) × Bool)
 | 0, _, _, _, _, _, _, _, _, _, _ => none
 | k + 1, x6, x9, x16, x17, x18, x36, x167000, x167001, x167002, x167003 => if x36 = true then (if 0 ≤ x9 then (if x9 < (x6.length : Int) then (if x167000 = 2 then (if ((qc x6 x9).f3).size + x167003.size ≤ 9223372036854775807 then (qH.l0 k (x6.set (x9 : Int).toNat (⟨(qc x6 x9).f0, (qc x6 x9).f1, (qc x6 x9).f2, ((qc x6 x9).f3) ++ x167003⟩ : S43)) x16 x17 (wrap64 (x18 + 1))) else (none)) else (if (wrap64 (((qc x6 x9).f1) + ((qc x6 x9).f2))) = x167001 then (qH.l0 k (x6.set (x9 : Int).toNat (⟨(qc x6 x9).f0, (qc x6 x9).f1, wrap64 (((qc x6 x9).f2) + x167002), (qc x6 x9).f3⟩ : S43)) x16 x17 (wrap64 (x18 + 1))) else (if x6.length < 3518437208883 then (qH.l0 k (x6 ++ [(⟨x167000, x167001, x167002, x167003⟩ : S43)]) x16 x17 (wrap64 (x18 + 1))) else (none)))) else (none)) else (none)) else (if x6.length < 3518437208883 then (qH.l0 k (x6 ++ [(⟨x167000, x167001, x167002, x167003⟩ : S43)]) x16 x17 (wrap64 (x18 + 1))) else (none))
end
def qH.f (k : Nat) (a0 : ByteArray) (l1 : List (S43)) : Option ((List (S43)) × Bool) := (qlb.f k a0 l1).bind fun t161 => (if t161 = true then (qH.l0 k (([] : List (S43))) l1 (l1.length : Int) 0) else (some (([] : List (S43)), false)))
theorem qH.qjb : ∀ k, (∀ y0 y1 y2 y3, LeO (qH.l0 k y0 y1 y2 y3) (qH.l0 (k + 1) y0 y1 y2 y3)) ∧ (∀ y0 y1 y2 y3 y4 y5 y6 y7 y8 y9, LeO (qH.j1 k y0 y1 y2 y3 y4 y5 y6 y7 y8 y9) (qH.j1 (k + 1) y0 y1 y2 y3 y4 y5 y6 y7 y8 y9))
 | 0 => ⟨fun _ _ _ _ r h => by simp [qH.l0] at h, fun _ _ _ _ _ _ _ _ _ _ r h => by simp [qH.j1] at h⟩
 | k + 1 => by
  obtain ⟨ih0, ih1⟩ := qH.qjb k
  refine ⟨?_, ?_⟩
  ·intro y0 y1 y2 y3
   unfold qH.l0
   repeat' first
   | (with_reducible exact ih0 _ _ _ _)
   | (with_reducible exact ih1 _ _ _ _ _ _ _ _ _ _)
   | (with_reducible exact qlb.mono _ _ _)
   | (with_reducible exact LeO.refl _)
   | (with_reducible exact LeO.none _)
   | (with_reducible refine LeO.ite ?_ ?_)
   | (with_reducible refine LeO.bind ?_ (fun _ => ?_))
   | exact LeO.none _
   | refine LeO.ite ?_ ?_
   | refine LeO.bind ?_ (fun _ => ?_)
  ·intro y0 y1 y2 y3 y4 y5 y6 y7 y8 y9
   unfold qH.j1
   repeat' first
   | (with_reducible exact ih0 _ _ _ _)
   | (with_reducible exact ih1 _ _ _ _ _ _ _ _ _ _)
   | (with_reducible exact qlb.mono _ _ _)
   | (with_reducible exact LeO.refl _)
   | (with_reducible exact LeO.none _)
   | (with_reducible refine LeO.ite ?_ ?_)
   | (with_reducible refine LeO.bind ?_ (fun _ => ?_))
   | exact LeO.none _
   | refine LeO.ite ?_ ?_
   | refine LeO.bind ?_ (fun _ => ?_)
theorem qH.mono : ∀ a0 a1 k, LeO (qH.f k a0 a1) (qH.f (k + 1) a0 a1) := by
 intro a0 a1 k
 obtain ⟨ih0, ih1⟩ := qH.qjb k
 unfold qH.f
 repeat' first
   | (with_reducible exact ih0 _ _ _ _)
   | (with_reducible exact ih1 _ _ _ _ _ _ _ _ _ _)
   | (with_reducible exact qlb.mono _ _ _)
   | (with_reducible exact LeO.refl _)
   | (with_reducible exact LeO.none _)
   | (with_reducible refine LeO.ite ?_ ?_)
   | (with_reducible refine LeO.bind ?_ (fun _ => ?_))
   | exact LeO.none _
   | refine LeO.ite ?_ ?_
   | refine LeO.bind ?_ (fun _ => ?_)
def qH.T8 : Bool × List (List Nat × List Nat) := (true, [([], []), ([0], [0]), ([1], [1]), ([2], [2]), ([2], [2]), ([3, 4, 2], [2, 3, 4]), ([5, 2], [2, 5]), ([6, 2], [2, 6]), ([2], [2]), ([8, 2], [2, 8]), ([7, 9, 2], [2, 7, 9]), ([2, 10], [2, 10])])
def qH.B8 : List Nat := [0, 1, 3, 7, 7, 31, 63, 127, 7, 263, 1023, 2047]
theorem qH.tab8 : rtab .any (opsOf Try.f34 8) = qH.T8 := by kernel_rfl
theorem qH.bits8 : waitsOk qH.T8.2 qH.B8 = true := by kernel_rfl
def qH.T11 : Bool × List (List Nat × List Nat) := (true, [([], []), ([0], [0]), ([1], [1]), ([2], [2]), ([], []), ([4], [4]), ([3, 5], [3, 5]), ([0, 0, 1, 2, 3, 4, 5, 6], [0]), ([7, 0, 1, 2, 3, 4, 5, 6], [7]), ([8, 6, 0, 1, 2, 3, 4, 5, 6], [6, 8])])
def qH.B11 : List Nat := [0, 1, 3, 7, 0, 16, 63, 127, 255, 511]
theorem qH.tab11 : rtab .any (opsOf Try.f34 11) = qH.T11 := by kernel_rfl
theorem qH.bits11 : waitsOk qH.T11.2 qH.B11 = true := by kernel_rfl
def qH.T12 : Bool × List (List Nat × List Nat) := (true, [([], []), ([0], [0]), ([1], [1]), ([2], [2]), ([], []), ([4], [4]), ([5], [5]), ([6], [6]), ([3, 7], [3, 7]), ([], []), ([9], [9]), ([8, 10], [8, 10])])
def qH.B12 : List Nat := [0, 1, 3, 7, 0, 16, 48, 112, 255, 0, 512, 2047]
theorem qH.tab12 : rtab .any (opsOf Try.f34 12) = qH.T12 := by kernel_rfl
theorem qH.bits12 : waitsOk qH.T12.2 qH.B12 = true := by kernel_rfl
def qH.T13 : Bool × List (List Nat × List Nat) := (true, [([], []), ([0], [0]), ([1], [1]), ([2], [2]), ([], []), ([4], [4]), ([3, 5], [3, 5]), ([0, 0, 1, 2, 3, 4, 5, 6], [0]), ([7, 0, 1, 2, 3, 4, 5, 6], [7]), ([8, 6, 0, 1, 2, 3, 4, 5, 6], [6, 8])])
def qH.B13 : List Nat := [0, 1, 3, 7, 0, 16, 63, 127, 255, 511]
theorem qH.tab13 : rtab .any (opsOf Try.f34 13) = qH.T13 := by kernel_rfl
theorem qH.bits13 : waitsOk qH.T13.2 qH.B13 = true := by kernel_rfl
set_option maxHeartbeats 8000000 in
set_option maxRecDepth 100000 in
theorem qH.calls (k : Nat) (a0 : ByteArray) (A1 : Option Addr) (c1 : Nat) (l1 : List (S43)) (r1 : List (S43)) (r2 : Bool) (w : World) (hr1 : Kd.C k43 w A1 l1.length l1) (hc1 : l1.length ≤ c1) (h : qH.f k a0 l1 = some (r1, r2)) :
  Calls Try.prog 34 #[.string a0, .slice A1 l1.length c1] w fun e w' => ∃ v0_ : Value, e = .returned (.tuple #[v0_, .bool r2]) ∧ Kd.R k43 43 w' w.heap.size (fun _ => True) v0_ r1 ∧ Below w.heap.size w w' := by
 have hu43 := Try.underlying43
 have HR1 := qb.mk hr1
 have HC1 := qb.mk hc1
 clear hr1 hc1
 have HB := qb.mk (Below.refl w.heap.size w)
 have H : ((qlb.f k a0 l1).bind fun t161 => (if t161 = true then (qH.l0 k (([] : List (S43))) l1 (l1.length : Int) 0) else (some (([] : List (S43)), false)))) = some (r1, r2) := h
 clear h
 replace H := Option.bind_eq_some_iff.mp H
 obtain ⟨t161, A30, H⟩ := H
 try dsimp only at H
 have A3 := qb.mk A30
 clear A30
 by_cases c4 : t161 = true
 ·subst c4
  rw [if_pos rfl] at H
  obtain ⟨y162, hy162⟩ : ∃ y_ : List (S43), y_ = (([] : List (S43))) := ⟨_, rfl⟩
  replace H : (qH.l0 k y162 l1 (l1.length : Int) 0) = some (r1, r2) := by first | (rw [hy162]; with_reducible exact H) | (have H2_ := (Option.bind_some _ _).symm.trans H; rw [hy162]; with_reducible exact H2_) | (have H2_ := (Option.bind_some _ _).symm.trans H; with_reducible exact H2_) | with_reducible exact H | (rw [hy162]; exact H) | exact H
  have Ny162 := qb.mk hy162
  clear hy162
  have H' := qb.mk H
  clear H
  go_enter Try.func34, Try.ntmps34
  go_wp2_with (first | ((with_reducible refine qy (f := 21) rfl ?_); refine qz (some 13) rfl rfl Try.func21 (by kernel_rfl) rfl #[.string a0, .slice A1 l1.length c1] rfl (by (try simp only [List.map_toArray, List.map_cons, List.map_nil]); first | done | rfl | (simp only [List.length_drop, List.length_take]; rfl)) ?_; (with_reducible refine (qlb.calls k a0 _ _ l1 true _ ?side1 ?side2 A3.out).mono ?_); (case side1 => repeat (first | exact HR1.out | (with_reducible refine Kd.qN ?_ _) | (with_reducible refine Kd.qM ?_ _) | (with_reducible refine Kd.qO ?_))); (case side2 => exact HC1.out); rintro e w5 ⟨rfl, hb⟩; refine ⟨_, rfl, ?_⟩; replace HB := qb.mk (qE (by repeat (first | (with_reducible first | exact HB.out | apply qf | apply qg | apply qe) | exact HB.out)) hb); (try clear hb); (try clear hb2); (try clear hk); (try clear hi)) | ((with_reducible refine qcb (N := 15) rfl ?_); refine Kd.R_lit k43 _ 43 ?hg (N := 15) ?hd (xs := ([] : List (S43))) (inner := []) (ok := fun _ => True) (okp := fun _ => True) ?hr ?hp (fun _ hk => hk) trivial (Below.refl _ _) (Nat.le_refl _) (by simp) ?_; (case hd => rfl); (case hg => rfl); (case hr => first | (go_simp; done) | (go_simp; rfl)); (case hp => exact (Reps.none _ _)); intro v163 w6 ho7 hb hg_ hnew_; clear hg_ hnew_; (first | rw [← Ny162.out] at ho7 | (simp only [Int.reduceToNat] at ho7; rw [← Ny162.out] at ho7)); have HO164 := qb.mk (Kd.qU ho7 (qG (by repeat (first | (with_reducible first | exact HB.out | apply qf | apply qg | apply qe) | exact HB.out)))); replace HB := qb.mk (qE (by repeat (first | (with_reducible first | exact HB.out | apply qf | apply qg | apply qe) | exact HB.out)) hb); clear hb ho7))
  go_loopg [6, 18] k (fun kq v6 v18 w' => ∃ (x6_1 : List (S43)) (x18_1 : Int), v18 = .int .i64 x18_1 ∧ qb (qH.l0 kq x6_1 l1 (l1.length : Int) x18_1 = some (r1, r2)) ∧ qb (kq ≤ k) ∧ qb (Kd.R k43 43 w' w.heap.size (fun _ => True) v6 x6_1) ∧ qb (Below w.heap.size w w'))
  case atStart => exact ⟨(y162), (0), (by first | rfl | (simp; done) | (simp [*]; done)), H', ⟨Nat.le_refl _⟩, ⟨by (with_reducible repeat (first | apply Kd.qo | apply Kd.qn | apply Kd.qm)); exact HO164.out⟩, ⟨by repeat (first | (with_reducible first | exact HB.out | apply qf | apply qg | apply qe) | exact HB.out)⟩⟩
  case round =>
   clear H'
   try clear c1
   try clear c2
   try clear p2
   try clear c3
   try clear c4
   obtain ⟨x6_1, x18_1, rfl, HA, HK1, HO_6, HB⟩ := hrel
   cases gk with
   | zero => exact absurd HA.out (by simp [qH.l0])
   | succ k1 =>
    have H := HA.out
    clear HA
    simp only [qH.l0] at H
    by_cases c8 : x18_1 < (l1.length : Int)
    ·rw [if_pos c8] at H
     have c8b0 : decide (x18_1 < (l1.length : Int)) = true := decide_eq_true c8
     clear c8
     by_cases c9 : 0 ≤ x18_1
     ·rw [if_pos c9] at H
      have c9b0 : decide (0 ≤ x18_1) = true := decide_eq_true c9
      clear c9
      by_cases c10 : x18_1 < (l1.length : Int)
      ·rw [if_pos c10] at H
       have c10b0 : decide (x18_1 < (l1.length : Int)) = true := decide_eq_true c10
       clear c10
       have HC11 := qb.mk H
       clear H
       have p165 : 0 ≤ (x18_1 : Int) := of_decide_eq_true (by first | (with_reducible assumption) | assumption)
       have q165 : x18_1 < (l1.length : Int) := of_decide_eq_true (by first | (with_reducible assumption) | assumption)
       obtain ⟨ad165, e165, hx165_0, hx165_1, hx165_2, hx165_3⟩ := qqb HR1.out x18_1 p165 q165
       cases e165
       replace hx165_0 := (HB.out.cell (World.block_lt_of_cell? w _ hx165_0)).trans hx165_0
       replace hx165_1 := (HB.out.cell (World.block_lt_of_cell? w _ hx165_1)).trans hx165_1
       replace hx165_2 := (HB.out.cell (World.block_lt_of_cell? w _ hx165_2)).trans hx165_2
       replace hx165_3 := (HB.out.cell (World.block_lt_of_cell? w _ hx165_3)).trans hx165_3
       replace p165 := eq_true p165
       replace q165 := eq_true q165
       go_upto_region 8 with (first | ((with_reducible refine qcb (N := 8) rfl ?_); refine qpb ?hg (N := 8) ?hd (cs := #[.int .i64 0, .int .i64 0, .int .i64 0, .string (⟨#[]⟩ : ByteArray)]) (t := 43) ?hr ?_; (case hd => rfl); (case hg => rfl); (case hr => first | (go_simp; done) | (go_simp; rfl)); intro gb166 hg w12 hbox hb; have BK166 := qb.mk (hbox); have GW166 := qb.mk ((by rw [hg]; exact (qG (by repeat (first | (with_reducible first | exact HB.out | apply qf | apply qg | apply qe) | exact HB.out))) : w.heap.size ≤ gb166)); have GE166 := qb.mk ((by rw [hg]; exact (qG (by repeat (first | (with_reducible first | exact HB.out | apply qf | apply qg | apply qe) | exact HB.out))) : w.heap.size ≤ gb166)); replace HO_6 := qb.mk (Kd.qX (Kd.qqc (by (with_reducible repeat (first | apply Kd.qo | apply Kd.qn | apply Kd.qm)); exact HO_6.out) gb166 (Nat.le_of_eq hg.symm)) hb); replace HB := qb.mk (qE (by repeat (first | (with_reducible first | exact HB.out | apply qf | apply qg | apply qe) | exact HB.out)) hb); clear hb hbox hg; have hcz13_0 : w12.cell? ⟨gb166, 0, none⟩ = some (.int .i64 0) := (ql BK166.out 0).trans rfl; have hcz13_1 : w12.cell? ⟨gb166, 1, none⟩ = some (.int .i64 0) := (ql BK166.out 1).trans rfl; have hcz13_2 : w12.cell? ⟨gb166, 2, none⟩ = some (.int .i64 0) := (ql BK166.out 2).trans rfl; have hcz13_3 : w12.cell? ⟨gb166, 3, none⟩ = some (.string (⟨#[]⟩ : ByteArray)) := (ql BK166.out 3).trans rfl; have hfz13_0 := qp BK166.out 0; have hfz13_1 := qp BK166.out 1; have hfz13_2 := qp BK166.out 2; have hfz13_3 := qp BK166.out 3; obtain ⟨Ao14, co14, eo14⟩ := Kd.qfb HO_6.out; subst eo14))
       (try simp only [Act.put, List.setIfInBounds_toArray, List.set_cons_zero, List.set_cons_succ])
       go_cut [36] (fun v36 wc => ∃ (kq : Nat) (x36_10 : Bool), v36 = .bool x36_10 ∧ qb (qH.j1 kq x6_1 (wrap64 ((x6_1.length : Int) - 1)) l1 (l1.length : Int) x18_1 x36_10 ((qc l1 x18_1).f0) ((qc l1 x18_1).f1) ((qc l1 x18_1).f2) ((qc l1 x18_1).f3) = some (r1, r2)) ∧ qb (kq ≤ k1) ∧ qb (Kd.R k43 43 wc w.heap.size (fun k_ => k_ ≠ gb166) (.slice Ao14 x6_1.length co14) x6_1) ∧ qb (wc.heap[gb166]? = some (.cells #[.int .i64 ((qc l1 x18_1).f0), .int .i64 ((qc l1 x18_1).f1), .int .i64 ((qc l1 x18_1).f2), .string ((qc l1 x18_1).f3)] 43 (0, 0))) ∧ qb (Below w.heap.size w wc))
       case first =>
        have H := HC11.out
        clear HC11
        by_cases c15 : (wrap64 ((x6_1.length : Int) - 1)) ≥ 0
        ·rw [if_pos c15] at H
         have c15b0 : decide (0 ≤ (wrap64 ((x6_1.length : Int) - 1))) = true := decide_eq_true c15
         clear c15
         (first | rw [c15b0] | (simp only [i64_w, i32_w]; rw [c15b0]) | skip)
         obtain ⟨ji16, hji16⟩ : ∃ j_ : Int, (wrap64 ((x6_1.length : Int) - 1)) = j_ := ⟨_, rfl⟩
         replace H : (if 0 ≤ (ji16) then (if (ji16) < (x6_1.length : Int) then (qH.j1 k1 x6_1 ji16 l1 (l1.length : Int) x18_1 (((qc x6_1 (ji16)).f0) == ((qc l1 x18_1).f0)) ((qc l1 x18_1).f0) ((qc l1 x18_1).f1) ((qc l1 x18_1).f2) ((qc l1 x18_1).f3)) else (none)) else (none)) = some (r1, r2) := by first | (rw [hji16] at H; exact H) | (simp only [hji16] at H ⊢; exact H)
         (try rw [hji16] at c15b0)
         have hji16w : (IntKind.i64.wrap ((x6_1.length : Int) - 1)) = ji16 := (i64_w _).trans hji16
         by_cases c17 : 0 ≤ (ji16)
         ·rw [if_pos c17] at H
          have c17b0 : decide (0 ≤ (ji16)) = true := decide_eq_true c17
          clear c17
          by_cases c18 : (ji16) < (x6_1.length : Int)
          ·rw [if_pos c18] at H
           have c18b0 : decide ((ji16) < (x6_1.length : Int)) = true := decide_eq_true c18
           clear c18
           have H' := qb.mk H
           clear H
           try go_wp2
           have n0_ : qb (Kd.R k43 43 ((((w12.setCell ⟨gb166, 0, none⟩ (.int .i64 ((qc l1 x18_1).f0))).setCell ⟨gb166, 1, none⟩ (.int .i64 ((qc l1 x18_1).f1))).setCell ⟨gb166, 2, none⟩ (.int .i64 ((qc l1 x18_1).f2))).setCell ⟨gb166, 3, none⟩ (.string ((qc l1 x18_1).f3))) w.heap.size (fun k_ => k_ ≠ gb166) (.slice Ao14 x6_1.length co14) x6_1) := ⟨by (with_reducible repeat (first | apply Kd.qo | apply Kd.qn | apply Kd.qm)); exact Kd.qF (Kd.R_far (p := ⟨gb166, 3, none⟩) (Kd.R_far (p := ⟨gb166, 2, none⟩) (Kd.R_far (p := ⟨gb166, 1, none⟩) (Kd.R_far (p := ⟨gb166, 0, none⟩) (Kd.qF HO_6.out (fun k_ hk => (⟨hk, hk.2⟩ : _ ∧ k_ ≠ gb166))) (fun _ hk => hk.2) (.int .i64 ((qc l1 x18_1).f0))) (fun _ hk => hk.2) (.int .i64 ((qc l1 x18_1).f1))) (fun _ hk => hk.2) (.int .i64 ((qc l1 x18_1).f2))) (fun _ hk => hk.2) (.string ((qc l1 x18_1).f3))) (fun _ hk => hk.1.2)⟩
           have n1_ : qb (((((w12.setCell ⟨gb166, 0, none⟩ (.int .i64 ((qc l1 x18_1).f0))).setCell ⟨gb166, 1, none⟩ (.int .i64 ((qc l1 x18_1).f1))).setCell ⟨gb166, 2, none⟩ (.int .i64 ((qc l1 x18_1).f2))).setCell ⟨gb166, 3, none⟩ (.string ((qc l1 x18_1).f3))).heap[gb166]? = some (.cells #[.int .i64 ((qc l1 x18_1).f0), .int .i64 ((qc l1 x18_1).f1), .int .i64 ((qc l1 x18_1).f2), .string ((qc l1 x18_1).f3)] 43 (0, 0))) := ⟨by (with_reducible repeat (first | refine qB ?_ _ | refine qx ?_ | refine qC ?_ _)); refine qL (cs := #[.int .i64 ((qc l1 x18_1).f0), .int .i64 ((qc l1 x18_1).f1), .int .i64 ((qc l1 x18_1).f2), .string (⟨#[]⟩ : ByteArray)]) ?_ 3 _ rfl; (with_reducible repeat (first | refine qB ?_ _ | refine qx ?_ | refine qC ?_ _)); refine qL (cs := #[.int .i64 ((qc l1 x18_1).f0), .int .i64 ((qc l1 x18_1).f1), .int .i64 0, .string (⟨#[]⟩ : ByteArray)]) ?_ 2 _ rfl; (with_reducible repeat (first | refine qB ?_ _ | refine qx ?_ | refine qC ?_ _)); refine qL (cs := #[.int .i64 ((qc l1 x18_1).f0), .int .i64 0, .int .i64 0, .string (⟨#[]⟩ : ByteArray)]) ?_ 1 _ rfl; (with_reducible repeat (first | refine qB ?_ _ | refine qx ?_ | refine qC ?_ _)); refine qL (cs := #[.int .i64 0, .int .i64 0, .int .i64 0, .string (⟨#[]⟩ : ByteArray)]) ?_ 0 _ rfl; (with_reducible repeat (first | refine qB ?_ _ | refine qx ?_ | refine qC ?_ _)); exact BK166.out⟩
           have n2_ : qb (Below w.heap.size w ((((w12.setCell ⟨gb166, 0, none⟩ (.int .i64 ((qc l1 x18_1).f0))).setCell ⟨gb166, 1, none⟩ (.int .i64 ((qc l1 x18_1).f1))).setCell ⟨gb166, 2, none⟩ (.int .i64 ((qc l1 x18_1).f2))).setCell ⟨gb166, 3, none⟩ (.string ((qc l1 x18_1).f3)))) := ⟨by repeat (first | (with_reducible first | exact HB.out | apply qf | apply qg | apply qe | refine qk ?_ GE166.out) | exact HB.out)⟩
           (try clear HO_6)
           (try clear BK166)
           (try clear HB)
           generalize ((((w12.setCell ⟨gb166, 0, none⟩ (.int .i64 ((qc l1 x18_1).f0))).setCell ⟨gb166, 1, none⟩ (.int .i64 ((qc l1 x18_1).f1))).setCell ⟨gb166, 2, none⟩ (.int .i64 ((qc l1 x18_1).f2))).setCell ⟨gb166, 3, none⟩ (.string ((qc l1 x18_1).f3))) = w19 at n0_ n1_ n2_ ⊢
           have HO_6 := n0_
           have BK166 := n1_
           have HB := n2_
           clear n0_ n1_ n2_
           replace HO_6 := qb.mk (Kd.qm HO_6.out)
           replace BK166 := qb.mk (qx BK166.out)
           replace HB := qb.mk (qe HB.out)
           have p167 : 0 ≤ ((ji16) : Int) := of_decide_eq_true (by first | (with_reducible assumption) | assumption)
           have q167 : (ji16) < (x6_1.length : Int) := of_decide_eq_true (by first | (with_reducible assumption) | assumption)
           obtain ⟨ad167, e167, hx167_0, hx167_1, hx167_2, hx167_3⟩ := qqb (Kd.qD HO_6.out).2.2 (ji16) p167 q167
           cases e167
           replace p167 := eq_true p167
           replace q167 := eq_true q167
           refine qAb (n := 12) (S := fun w' => w'.cell? ⟨gb166, 0, none⟩ = some (.int .i64 ((qc l1 x18_1).f0)) ∧ w'.cell? ⟨gb166, 1, none⟩ = some (.int .i64 ((qc l1 x18_1).f1)) ∧ w'.cell? ⟨gb166, 2, none⟩ = some (.int .i64 ((qc l1 x18_1).f2)) ∧ w'.cell? ⟨gb166, 3, none⟩ = some (.string ((qc l1 x18_1).f3)) ∧ w'.cell? (ad167.add (((ji16)).toNat * 4)) = some (.int .i64 ((qc x6_1 (ji16)).f0)) ∧ w'.cell? ⟨(ad167.add (((ji16)).toNat * 4)).block, (ad167.add (((ji16)).toNat * 4)).off + 1, none⟩ = some (.int .i64 ((qc x6_1 (ji16)).f1)) ∧ w'.cell? ⟨(ad167.add (((ji16)).toNat * 4)).block, (ad167.add (((ji16)).toNat * 4)).off + 2, none⟩ = some (.int .i64 ((qc x6_1 (ji16)).f2)) ∧ w'.cell? ⟨(ad167.add (((ji16)).toNat * 4)).block, (ad167.add (((ji16)).toNat * 4)).off + 3, none⟩ = some (.string ((qc x6_1 (ji16)).f3))) (ds := []) (Extra.b [0, 12]) (by kernel_rfl) rfl rfl ⟨(ql BK166.out 0).trans rfl, (ql BK166.out 1).trans rfl, (ql BK166.out 2).trans rfl, (ql BK166.out 3).trans rfl, hx167_0, hx167_1, hx167_2, hx167_3⟩ (fun hHeld => ?_); refine qyb qH.tab8 qH.bits8 (fun HT_ HW_ => ?_)
           generalize w19.drew = w20 at HO_6 BK166 HB hx167_0 hx167_1 hx167_2 hx167_3 hHeld ⊢
           refine pure_ (i := 0) (N := some 25) (v := ?_) (a' := ?_) (Extra.b [1, 11]) rfl rfl (qw HT_.out (by kernel_rfl)) (fun _ _ _ h => h) (Or.inl ⟨by rfl, ?_⟩) ?_ ?_
           rotate_left
           ·intro w'
            go_simp
            with_reducible rfl
           rotate_left
           ·simp only [Act.put, List.setIfInBounds_toArray, List.set_cons_zero, List.set_cons_succ, i64_w, i32_w]
            rfl
           refine pure_ (i := 1) (N := some 26) (v := ?_) (a' := ?_) (Extra.b [2, 10]) rfl rfl (qw HT_.out (by kernel_rfl)) (fun _ _ _ h => h) (Or.inl ⟨by rfl, ?_⟩) ?_ ?_
           rotate_left
           ·intro w'
            go_simp
            with_reducible rfl
           rotate_left
           ·simp only [Act.put, List.setIfInBounds_toArray, List.set_cons_zero, List.set_cons_succ, i64_w, i32_w]
            rfl
           refine pure_ (i := 2) (N := some 27) (v := ?_) (a' := ?_) (Extra.b [3, 9]) rfl rfl (qw HT_.out (by kernel_rfl)) (fun _ _ _ h => h) (Or.inl ⟨by rfl, ?_⟩) ?_ ?_
           rotate_left
           ·intro w'
            go_simp
            with_reducible rfl
           rotate_left
           ·simp only [Act.put, List.setIfInBounds_toArray, List.set_cons_zero, List.set_cons_succ, i64_w, i32_w]
            rfl
           refine pure_ (i := 3) (N := some 28) (v := ?_) (a' := ?_) (Extra.b [4, 8]) rfl rfl (qw HT_.out (by kernel_rfl)) (fun _ _ _ h => h) (Or.inl ⟨by rfl, ?_⟩) ?_ ?_
           rotate_left
           ·intro w'
            go_simp
            with_reducible rfl
           rotate_left
           ·simp only [Act.put, List.setIfInBounds_toArray, List.set_cons_zero, List.set_cons_succ, i64_w, i32_w]
            rfl
           refine pure_ (i := 4) (N := some 29) (v := ?_) (a' := ?_) (Extra.b [5, 7]) rfl rfl (qw HT_.out (by kernel_rfl)) (fun _ _ _ h => h) (Or.inl ⟨by rfl, ?_⟩) ?_ ?_
           rotate_left
           ·intro w'
            go_simp
            with_reducible rfl
           rotate_left
           ·simp only [Act.put, List.setIfInBounds_toArray, List.set_cons_zero, List.set_cons_succ, i64_w, i32_w]
            rfl
           refine pure_ (i := 5) (N := some 30) (v := ?_) (a' := ?_) (Extra.b [6, 6]) rfl rfl (qw HT_.out (by kernel_rfl)) (fun _ _ _ h => h) (Or.inl ⟨by rfl, ?_⟩) ?_ ?_
           rotate_left
           ·intro w'
            go_simp
            with_reducible rfl
           rotate_left
           ·simp only [Act.put, List.setIfInBounds_toArray, List.set_cons_zero, List.set_cons_succ, i64_w, i32_w]
            rfl
           refine pure_ (i := 6) (N := some 31) (v := ?_) (a' := ?_) (Extra.b [7, 5]) rfl rfl (qw HT_.out (by kernel_rfl)) (fun _ _ _ h => h) (Or.inl ⟨by rfl, ?_⟩) ?_ ?_
           rotate_left
           ·intro w'
            go_simp
            with_reducible rfl
           rotate_left
           ·simp only [Act.put, List.setIfInBounds_toArray, List.set_cons_zero, List.set_cons_succ, i64_w, i32_w]
            rfl
           refine pure_ (i := 8) (N := some 33) (v := ?_) (a' := ?_) (Extra.b [7, 1, 1, 3]) rfl rfl (qw HT_.out (by kernel_rfl)) (fun _ _ _ h => h) (Or.inl ⟨by rfl, ?_⟩) ?_ ?_
           rotate_left
           ·intro w'
            go_simp
            with_reducible rfl
           rotate_left
           ·simp only [Act.put, List.setIfInBounds_toArray, List.set_cons_zero, List.set_cons_succ, i64_w, i32_w]
            rfl
           refine take_ (i := 7) (N := some 32) (v := ?_) (a' := ?_) (Extra.b [9, 3]) rfl rfl (qnb HT_.out HW_.out (by kernel_rfl)) (fun _ _ _ h => h) (Or.inl ⟨by rfl, ?_⟩) hHeld ?_ ?_
           rotate_left
           ·rintro w' ⟨s0, s1, s2, s3, s4, s5, s6, s7⟩
            go_simp
            with_reducible rfl
           rotate_left
           ·simp only [Act.put, List.setIfInBounds_toArray, List.set_cons_zero, List.set_cons_succ, i64_w, i32_w]
            rfl
           refine take_ (i := 9) (N := some 34) (v := ?_) (a' := ?_) (Extra.b [10, 2]) rfl rfl (qnb HT_.out HW_.out (by kernel_rfl)) (fun _ _ _ h => h) (Or.inl ⟨by rfl, ?_⟩) hHeld ?_ ?_
           rotate_left
           ·rintro w' ⟨s0, s1, s2, s3, s4, s5, s6, s7⟩
            go_simp
            with_reducible rfl
           rotate_left
           ·simp only [Act.put, List.setIfInBounds_toArray, List.set_cons_zero, List.set_cons_succ, i64_w, i32_w]
            rfl
           refine pure_ (i := 10) (N := some 35) (v := ?_) (a' := ?_) (Extra.b [11, 1]) rfl rfl (qw HT_.out (by kernel_rfl)) (fun _ _ _ h => h) (Or.inl ⟨by rfl, ?_⟩) ?_ ?_
           rotate_left
           ·intro w'
            go_simp
            with_reducible rfl
           rotate_left
           ·simp only [Act.put, List.setIfInBounds_toArray, List.set_cons_zero, List.set_cons_succ, i64_w, i32_w]
            rfl
           refine pure_ (i := 11) (N := some 36) (v := ?_) (a' := ?_) (Extra.b [12]) rfl rfl (qw HT_.out (by kernel_rfl)) (fun _ _ _ h => h) (Or.inl ⟨by rfl, ?_⟩) ?_ ?_
           rotate_left
           ·intro w'
            go_simp
            with_reducible rfl
           rotate_left
           ·simp only [Act.put, List.setIfInBounds_toArray, List.set_cons_zero, List.set_cons_succ, i64_w, i32_w]
            rfl
           refine done_ (qzb HT_.out (by kernel_rfl)) ?_
           try go_wp2
           go_meet
           case rel => exact ⟨_, ((((qc x6_1 (ji16)).f0) == ((qc l1 x18_1).f0))), (by first | rfl | (simp; done) | (simp only [← hji16] <;> (first | rfl | simp)) | (simp [*]; done)), (by first | exact H' | (simp only [hji16]; exact H')), ⟨by have := HK1.out; first | omega | exact Nat.le_refl _⟩, ⟨by (with_reducible repeat (first | apply Kd.qo | apply Kd.qn | apply Kd.qm)); exact HO_6.out⟩, ⟨by (with_reducible repeat (first | refine qB ?_ _ | refine qx ?_ | refine qC ?_ _)); exact BK166.out⟩, ⟨by repeat (first | (with_reducible first | exact HB.out | apply qf | apply qg | apply qe | refine qk ?_ GE166.out) | exact HB.out)⟩⟩
          ·rw [if_neg c18] at H
           exact absurd H (by simp)
         ·rw [if_neg c17] at H
          exact absurd H (by simp)
        ·rw [if_neg c15] at H
         have c15b0 : decide (0 ≤ (wrap64 ((x6_1.length : Int) - 1))) = false := decide_eq_false c15
         clear c15
         (first | rw [c15b0] | (simp only [i64_w, i32_w]; rw [c15b0]) | skip)
         have H' := qb.mk H
         clear H
         try go_wp2
         have n0_ : qb (Kd.R k43 43 ((((w12.setCell ⟨gb166, 0, none⟩ (.int .i64 ((qc l1 x18_1).f0))).setCell ⟨gb166, 1, none⟩ (.int .i64 ((qc l1 x18_1).f1))).setCell ⟨gb166, 2, none⟩ (.int .i64 ((qc l1 x18_1).f2))).setCell ⟨gb166, 3, none⟩ (.string ((qc l1 x18_1).f3))) w.heap.size (fun k_ => k_ ≠ gb166) (.slice Ao14 x6_1.length co14) x6_1) := ⟨by (with_reducible repeat (first | apply Kd.qo | apply Kd.qn | apply Kd.qm)); exact Kd.qF (Kd.R_far (p := ⟨gb166, 3, none⟩) (Kd.R_far (p := ⟨gb166, 2, none⟩) (Kd.R_far (p := ⟨gb166, 1, none⟩) (Kd.R_far (p := ⟨gb166, 0, none⟩) (Kd.qF HO_6.out (fun k_ hk => (⟨hk, hk.2⟩ : _ ∧ k_ ≠ gb166))) (fun _ hk => hk.2) (.int .i64 ((qc l1 x18_1).f0))) (fun _ hk => hk.2) (.int .i64 ((qc l1 x18_1).f1))) (fun _ hk => hk.2) (.int .i64 ((qc l1 x18_1).f2))) (fun _ hk => hk.2) (.string ((qc l1 x18_1).f3))) (fun _ hk => hk.1.2)⟩
         have n1_ : qb (((((w12.setCell ⟨gb166, 0, none⟩ (.int .i64 ((qc l1 x18_1).f0))).setCell ⟨gb166, 1, none⟩ (.int .i64 ((qc l1 x18_1).f1))).setCell ⟨gb166, 2, none⟩ (.int .i64 ((qc l1 x18_1).f2))).setCell ⟨gb166, 3, none⟩ (.string ((qc l1 x18_1).f3))).heap[gb166]? = some (.cells #[.int .i64 ((qc l1 x18_1).f0), .int .i64 ((qc l1 x18_1).f1), .int .i64 ((qc l1 x18_1).f2), .string ((qc l1 x18_1).f3)] 43 (0, 0))) := ⟨by (with_reducible repeat (first | refine qB ?_ _ | refine qx ?_ | refine qC ?_ _)); refine qL (cs := #[.int .i64 ((qc l1 x18_1).f0), .int .i64 ((qc l1 x18_1).f1), .int .i64 ((qc l1 x18_1).f2), .string (⟨#[]⟩ : ByteArray)]) ?_ 3 _ rfl; (with_reducible repeat (first | refine qB ?_ _ | refine qx ?_ | refine qC ?_ _)); refine qL (cs := #[.int .i64 ((qc l1 x18_1).f0), .int .i64 ((qc l1 x18_1).f1), .int .i64 0, .string (⟨#[]⟩ : ByteArray)]) ?_ 2 _ rfl; (with_reducible repeat (first | refine qB ?_ _ | refine qx ?_ | refine qC ?_ _)); refine qL (cs := #[.int .i64 ((qc l1 x18_1).f0), .int .i64 0, .int .i64 0, .string (⟨#[]⟩ : ByteArray)]) ?_ 1 _ rfl; (with_reducible repeat (first | refine qB ?_ _ | refine qx ?_ | refine qC ?_ _)); refine qL (cs := #[.int .i64 0, .int .i64 0, .int .i64 0, .string (⟨#[]⟩ : ByteArray)]) ?_ 0 _ rfl; (with_reducible repeat (first | refine qB ?_ _ | refine qx ?_ | refine qC ?_ _)); exact BK166.out⟩
         have n2_ : qb (Below w.heap.size w ((((w12.setCell ⟨gb166, 0, none⟩ (.int .i64 ((qc l1 x18_1).f0))).setCell ⟨gb166, 1, none⟩ (.int .i64 ((qc l1 x18_1).f1))).setCell ⟨gb166, 2, none⟩ (.int .i64 ((qc l1 x18_1).f2))).setCell ⟨gb166, 3, none⟩ (.string ((qc l1 x18_1).f3)))) := ⟨by repeat (first | (with_reducible first | exact HB.out | apply qf | apply qg | apply qe | refine qk ?_ GE166.out) | exact HB.out)⟩
         (try clear HO_6)
         (try clear BK166)
         (try clear HB)
         generalize ((((w12.setCell ⟨gb166, 0, none⟩ (.int .i64 ((qc l1 x18_1).f0))).setCell ⟨gb166, 1, none⟩ (.int .i64 ((qc l1 x18_1).f1))).setCell ⟨gb166, 2, none⟩ (.int .i64 ((qc l1 x18_1).f2))).setCell ⟨gb166, 3, none⟩ (.string ((qc l1 x18_1).f3))) = w21 at n0_ n1_ n2_ ⊢
         have HO_6 := n0_
         have BK166 := n1_
         have HB := n2_
         clear n0_ n1_ n2_
         replace HO_6 := qb.mk (Kd.qm HO_6.out)
         replace BK166 := qb.mk (qx BK166.out)
         replace HB := qb.mk (qe HB.out)
         refine qAb (n := 12) (S := fun w' => True) (ds := []) (Extra.b [0, 12]) (by kernel_rfl) rfl rfl trivial (fun hHeld => ?_); refine qyb qH.tab8 qH.bits8 (fun HT_ HW_ => ?_)
         generalize w21.drew = w22 at HO_6 BK166 HB hHeld ⊢
         refine pure_ (i := 0) (N := some 25) (v := ?_) (a' := ?_) (Extra.b [1, 11]) rfl rfl (qw HT_.out (by kernel_rfl)) (fun _ _ _ h => h) (Or.inl ⟨by rfl, ?_⟩) ?_ ?_
         rotate_left
         ·intro w'
          go_simp
          with_reducible rfl
         rotate_left
         ·simp only [Act.put, List.setIfInBounds_toArray, List.set_cons_zero, List.set_cons_succ, i64_w, i32_w]
          rfl
         refine pure_ (i := 1) (N := some 26) (v := ?_) (a' := ?_) (Extra.b [2, 10]) rfl rfl (qw HT_.out (by kernel_rfl)) (fun _ _ _ h => h) (Or.inl ⟨by rfl, ?_⟩) ?_ ?_
         rotate_left
         ·intro w'
          go_simp
          with_reducible rfl
         rotate_left
         ·simp only [Act.put, List.setIfInBounds_toArray, List.set_cons_zero, List.set_cons_succ, i64_w, i32_w]
          rfl
         refine pure_ (i := 2) (N := some 27) (v := ?_) (a' := ?_) (Extra.b [3, 9]) rfl rfl (qw HT_.out (by kernel_rfl)) (fun _ _ _ h => h) (Or.inl ⟨by rfl, ?_⟩) ?_ ?_
         rotate_left
         ·intro w'
          go_simp
          with_reducible rfl
         rotate_left
         ·simp only [Act.put, List.setIfInBounds_toArray, List.set_cons_zero, List.set_cons_succ, i64_w, i32_w]
          rfl
         refine pure_ (i := 3) (N := some 28) (v := undef) (a' := ?_) (Extra.b [4, 8]) rfl rfl (qw HT_.out (by kernel_rfl)) (fun _ _ _ h => h) (Or.inr ⟨by rfl, rfl⟩) ?_ ?_
         rotate_left
         ·simp only [Act.put, List.setIfInBounds_toArray, List.set_cons_zero, List.set_cons_succ, i64_w, i32_w]
          rfl
         refine pure_ (i := 4) (N := some 29) (v := undef) (a' := ?_) (Extra.b [5, 7]) rfl rfl (qw HT_.out (by kernel_rfl)) (fun _ _ _ h => h) (Or.inr ⟨by rfl, rfl⟩) ?_ ?_
         rotate_left
         ·simp only [Act.put, List.setIfInBounds_toArray, List.set_cons_zero, List.set_cons_succ, i64_w, i32_w]
          rfl
         refine pure_ (i := 5) (N := some 30) (v := undef) (a' := ?_) (Extra.b [6, 6]) rfl rfl (qw HT_.out (by kernel_rfl)) (fun _ _ _ h => h) (Or.inr ⟨by rfl, rfl⟩) ?_ ?_
         rotate_left
         ·simp only [Act.put, List.setIfInBounds_toArray, List.set_cons_zero, List.set_cons_succ, i64_w, i32_w]
          rfl
         refine pure_ (i := 6) (N := some 31) (v := undef) (a' := ?_) (Extra.b [7, 5]) rfl rfl (qw HT_.out (by kernel_rfl)) (fun _ _ _ h => h) (Or.inr ⟨by rfl, rfl⟩) ?_ ?_
         rotate_left
         ·simp only [Act.put, List.setIfInBounds_toArray, List.set_cons_zero, List.set_cons_succ, i64_w, i32_w]
          rfl
         refine pure_ (i := 7) (N := some 32) (v := undef) (a' := ?_) (Extra.b [8, 4]) rfl rfl (qw HT_.out (by kernel_rfl)) (fun _ _ _ h => h) (Or.inr ⟨by rfl, rfl⟩) ?_ ?_
         rotate_left
         ·simp only [Act.put, List.setIfInBounds_toArray, List.set_cons_zero, List.set_cons_succ, i64_w, i32_w]
          rfl
         refine pure_ (i := 8) (N := some 33) (v := undef) (a' := ?_) (Extra.b [9, 3]) rfl rfl (qw HT_.out (by kernel_rfl)) (fun _ _ _ h => h) (Or.inr ⟨by rfl, rfl⟩) ?_ ?_
         rotate_left
         ·simp only [Act.put, List.setIfInBounds_toArray, List.set_cons_zero, List.set_cons_succ, i64_w, i32_w]
          rfl
         refine pure_ (i := 9) (N := some 34) (v := undef) (a' := ?_) (Extra.b [10, 2]) rfl rfl (qw HT_.out (by kernel_rfl)) (fun _ _ _ h => h) (Or.inr ⟨by rfl, rfl⟩) ?_ ?_
         rotate_left
         ·simp only [Act.put, List.setIfInBounds_toArray, List.set_cons_zero, List.set_cons_succ, i64_w, i32_w]
          rfl
         refine pure_ (i := 10) (N := some 35) (v := undef) (a' := ?_) (Extra.b [11, 1]) rfl rfl (qw HT_.out (by kernel_rfl)) (fun _ _ _ h => h) (Or.inr ⟨by rfl, rfl⟩) ?_ ?_
         rotate_left
         ·simp only [Act.put, List.setIfInBounds_toArray, List.set_cons_zero, List.set_cons_succ, i64_w, i32_w]
          rfl
         refine pure_ (i := 11) (N := some 36) (v := ?_) (a' := ?_) (Extra.b [12]) rfl rfl (qw HT_.out (by kernel_rfl)) (fun _ _ _ h => h) (Or.inl ⟨by rfl, ?_⟩) ?_ ?_
         rotate_left
         ·intro w'
          go_simp
          with_reducible rfl
         rotate_left
         ·simp only [Act.put, List.setIfInBounds_toArray, List.set_cons_zero, List.set_cons_succ, i64_w, i32_w]
          rfl
         refine done_ (qzb HT_.out (by kernel_rfl)) ?_
         try go_wp2
         go_meet
         case rel => exact ⟨_, (false), (by first | rfl | (simp; done) | (simp [*]; done)), H', ⟨by have := HK1.out; first | omega | exact Nat.le_refl _⟩, ⟨by (with_reducible repeat (first | apply Kd.qo | apply Kd.qn | apply Kd.qm)); exact HO_6.out⟩, ⟨by (with_reducible repeat (first | refine qB ?_ _ | refine qx ?_ | refine qC ?_ _)); exact BK166.out⟩, ⟨by repeat (first | (with_reducible first | exact HB.out | apply qf | apply qg | apply qe | refine qk ?_ GE166.out) | exact HB.out)⟩⟩
       case rest =>
        clear HC11
        try clear c1
        try clear p1
        try clear q1
        try clear hx1
        try clear c2
        try clear p2
        try clear c3
        try clear c4
        try clear p6
        try clear c8
        try clear c8b0
        try clear c9
        try clear c9b0
        try clear c10
        try clear c10b0
        try clear c15
        try clear c15b0
        try clear p16
        try clear q16
        try clear hx16
        try clear c17
        try clear c17b0
        try clear c18
        try clear c18b0
        try clear c21
        try clear hcz13_0
        try clear hcz13_1
        try clear hcz13_2
        try clear hcz13_3
        try clear hfz13_0
        try clear hfz13_1
        try clear hfz13_2
        try clear hfz13_3
        try clear hx165_0
        try clear hx165_1
        try clear hx165_2
        try clear hx165_3
        try clear hx167_0
        try clear hx167_1
        try clear hx167_2
        try clear hx167_3
        try clear p165
        try clear p167
        try clear p2
        try clear q165
        try clear q167
        obtain ⟨kq, x36_10, rfl, HA, HJ10, HO_6, BK166, HB⟩ := hcut
        cases kq with
        | zero => exact absurd HA.out (by simp [qH.j1])
        | succ kj10 =>
         have H := HA.out
         clear HA
         simp only [qH.j1] at H
         by_cases c23 : x36_10 = true
         ·subst c23
          rw [if_pos rfl] at H
          obtain ⟨ji24, hji24⟩ : ∃ j_ : Int, (wrap64 ((x6_1.length : Int) - 1)) = j_ := ⟨_, rfl⟩
          replace H : (if 0 ≤ (ji24) then (if (ji24) < (x6_1.length : Int) then (if ((qc l1 x18_1).f0) = 2 then (if ((qc x6_1 (ji24)).f3).size + ((qc l1 x18_1).f3).size ≤ 9223372036854775807 then (qH.l0 kj10 (x6_1.set ((ji24) : Int).toNat (⟨(qc x6_1 (ji24)).f0, (qc x6_1 (ji24)).f1, (qc x6_1 (ji24)).f2, ((qc x6_1 (ji24)).f3) ++ ((qc l1 x18_1).f3)⟩ : S43)) l1 (l1.length : Int) (wrap64 (x18_1 + 1))) else (none)) else (if (wrap64 (((qc x6_1 (ji24)).f1) + ((qc x6_1 (ji24)).f2))) = ((qc l1 x18_1).f1) then (qH.l0 kj10 (x6_1.set ((ji24) : Int).toNat (⟨(qc x6_1 (ji24)).f0, (qc x6_1 (ji24)).f1, wrap64 (((qc x6_1 (ji24)).f2) + ((qc l1 x18_1).f2)), (qc x6_1 (ji24)).f3⟩ : S43)) l1 (l1.length : Int) (wrap64 (x18_1 + 1))) else (if x6_1.length < 3518437208883 then (qH.l0 kj10 (x6_1 ++ [(⟨((qc l1 x18_1).f0), ((qc l1 x18_1).f1), ((qc l1 x18_1).f2), ((qc l1 x18_1).f3)⟩ : S43)]) l1 (l1.length : Int) (wrap64 (x18_1 + 1))) else (none)))) else (none)) else (none)) = some (r1, r2) := by first | (rw [hji24] at H; exact H) | (simp only [hji24] at H ⊢; exact H)
          have hji24w : (IntKind.i64.wrap ((x6_1.length : Int) - 1)) = ji24 := (i64_w _).trans hji24
          by_cases c25 : 0 ≤ (ji24)
          ·rw [if_pos c25] at H
           have c25b0 : decide (0 ≤ (ji24)) = true := decide_eq_true c25
           clear c25
           by_cases c26 : (ji24) < (x6_1.length : Int)
           ·rw [if_pos c26] at H
            have c26b0 : decide ((ji24) < (x6_1.length : Int)) = true := decide_eq_true c26
            clear c26
            by_cases c28 : ((qc l1 x18_1).f0) = 2
            ·rw [if_pos c28] at H
             have c28b0 : (((qc l1 x18_1).f0) == 2) = true := beq_iff_eq.mpr c28
             have c28b1 : (((qc l1 x18_1).f0) != 2) = false := bne_eq_false_iff_eq.mpr c28
             clear c28
             by_cases c30 : ((qc x6_1 (ji24)).f3).size + ((qc l1 x18_1).f3).size ≤ 9223372036854775807
             ·rw [if_pos c30] at H
              have c30b0 := eq_true c30
              have c30b1 : decide (((qc x6_1 (ji24)).f3).size + ((qc l1 x18_1).f3).size ≤ 9223372036854775807) = true := decide_eq_true c30
              try have c30b2 : (9223372036854775807 < ((qc x6_1 (ji24)).f3).size + ((qc l1 x18_1).f3).size) = False := eq_false (Nat.not_lt.2 c30)
              obtain ⟨y168, hy168⟩ : ∃ y_ : List (S43), y_ = (x6_1.set ((ji24) : Int).toNat (⟨(qc x6_1 (ji24)).f0, (qc x6_1 (ji24)).f1, (qc x6_1 (ji24)).f2, ((qc x6_1 (ji24)).f3) ++ ((qc l1 x18_1).f3)⟩ : S43)) := ⟨_, rfl⟩
              replace H : (qH.l0 kj10 y168 l1 (l1.length : Int) (wrap64 (x18_1 + 1))) = some (r1, r2) := by first | (rw [hy168]; with_reducible exact H) | (have H2_ := (Option.bind_some _ _).symm.trans H; rw [hy168]; with_reducible exact H2_) | (have H2_ := (Option.bind_some _ _).symm.trans H; with_reducible exact H2_) | with_reducible exact H | (rw [hy168]; exact H) | exact H
              have Ny168 := qb.mk hy168
              clear hy168
              have H' := qb.mk H
              clear H
              have p27 : 0 ≤ ((ji24) : Int) := of_decide_eq_true (by first | (with_reducible assumption) | assumption)
              have q27 : ((ji24) : Int) < ((x6_1.length : Int) : Int) := of_decide_eq_true (by first | (with_reducible assumption) | assumption)
              obtain ⟨go27, co27, eo27, gb27, gl27, cl27, HG27⟩ := Kd.R_form HO_6.out (by omega)
              (first | cases eo27 | (injection eo27 with ea_ en_ ec_; (first | subst ea_ | (injection ea_ with ea_; subst ea_)); subst ec_; clear en_))
              have GB27 := qb.mk gb27
              have GG27 := qb.mk HG27
              clear gb27 gl27 HG27
              obtain ⟨ce27, hcl27, hM27, hcc27, hfr27⟩ := Kd.qkb HO_6.out z43 ((ji24) : Int) p27 q27
              obtain rfl := qmb hM27
              have hx27_0 : wc.cell? ⟨go27, ((ji24) : Int).toNat * 4, none⟩ = some (.int .i64 ((qc x6_1 (ji24)).f0)) := hcc27 0 _ rfl
              have hx27_1 : wc.cell? ⟨go27, ((ji24) : Int).toNat * 4 + 1, none⟩ = some (.int .i64 ((qc x6_1 (ji24)).f1)) := hcc27 1 _ rfl
              have hx27_2 : wc.cell? ⟨go27, ((ji24) : Int).toNat * 4 + 2, none⟩ = some (.int .i64 ((qc x6_1 (ji24)).f2)) := hcc27 2 _ rfl
              have hx27_3 : wc.cell? ⟨go27, ((ji24) : Int).toNat * 4 + 3, none⟩ = some (.string ((qc x6_1 (ji24)).f3)) := hcc27 3 _ rfl
              have hf27_0 : wc.frozen? ⟨go27, ((ji24) : Int).toNat * 4, none⟩ = false := hfr27 0
              have hf27_1 : wc.frozen? ⟨go27, ((ji24) : Int).toNat * 4 + 1, none⟩ = false := hfr27 1
              have hf27_2 : wc.frozen? ⟨go27, ((ji24) : Int).toNat * 4 + 2, none⟩ = false := hfr27 2
              have hf27_3 : wc.frozen? ⟨go27, ((ji24) : Int).toNat * 4 + 3, none⟩ = false := hfr27 3
              clear hcl27 hcc27 hfr27 hM27
              replace p27 := eq_true p27
              replace q27 := eq_true q27
              have hcz32_0 : wc.cell? ⟨gb166, 0, none⟩ = some (.int .i64 ((qc l1 x18_1).f0)) := (ql BK166.out 0).trans rfl
              have hcz32_1 : wc.cell? ⟨gb166, 1, none⟩ = some (.int .i64 ((qc l1 x18_1).f1)) := (ql BK166.out 1).trans rfl
              have hcz32_2 : wc.cell? ⟨gb166, 2, none⟩ = some (.int .i64 ((qc l1 x18_1).f2)) := (ql BK166.out 2).trans rfl
              have hcz32_3 : wc.cell? ⟨gb166, 3, none⟩ = some (.string ((qc l1 x18_1).f3)) := (ql BK166.out 3).trans rfl
              have hfz32_0 := qp BK166.out 0
              have hfz32_1 := qp BK166.out 1
              have hfz32_2 := qp BK166.out 2
              have hfz32_3 := qp BK166.out 3
              try go_wp2
              replace HO_6 := qb.mk (Kd.qm HO_6.out)
              replace BK166 := qb.mk (qx BK166.out)
              replace HB := qb.mk (qe HB.out)
              have p29 : 0 ≤ ((ji24) : Int) := of_decide_eq_true (by first | (with_reducible assumption) | assumption)
              have q29 : ((ji24) : Int) < ((x6_1.length : Int) : Int) := of_decide_eq_true (by first | (with_reducible assumption) | assumption)
              obtain ⟨ce29, hcl29, hM29, hcc29, hfr29⟩ := Kd.qkb HO_6.out z43 ((ji24) : Int) p29 q29
              obtain rfl := qmb hM29
              have hx29_0 : World.cell? _ ⟨go27, ((ji24) : Int).toNat * 4, none⟩ = some (.int .i64 ((qc x6_1 (ji24)).f0)) := hcc29 0 _ rfl
              have hx29_1 : World.cell? _ ⟨go27, ((ji24) : Int).toNat * 4 + 1, none⟩ = some (.int .i64 ((qc x6_1 (ji24)).f1)) := hcc29 1 _ rfl
              have hx29_2 : World.cell? _ ⟨go27, ((ji24) : Int).toNat * 4 + 2, none⟩ = some (.int .i64 ((qc x6_1 (ji24)).f2)) := hcc29 2 _ rfl
              have hx29_3 : World.cell? _ ⟨go27, ((ji24) : Int).toNat * 4 + 3, none⟩ = some (.string ((qc x6_1 (ji24)).f3)) := hcc29 3 _ rfl
              have hf29_0 : World.frozen? _ ⟨go27, ((ji24) : Int).toNat * 4, none⟩ = false := hfr29 0
              have hf29_1 : World.frozen? _ ⟨go27, ((ji24) : Int).toNat * 4 + 1, none⟩ = false := hfr29 1
              have hf29_2 : World.frozen? _ ⟨go27, ((ji24) : Int).toNat * 4 + 2, none⟩ = false := hfr29 2
              have hf29_3 : World.frozen? _ ⟨go27, ((ji24) : Int).toNat * 4 + 3, none⟩ = false := hfr29 3
              clear hcl29 hcc29 hfr29 hM29
              replace p29 := eq_true p29
              replace q29 := eq_true q29
              have p31 : 0 ≤ ((ji24) : Int) := of_decide_eq_true (by first | (with_reducible assumption) | assumption)
              have q31 : ((ji24) : Int) < ((x6_1.length : Int) : Int) := of_decide_eq_true (by first | (with_reducible assumption) | assumption)
              obtain ⟨ce31, hcl31, hM31, hcc31, hfr31⟩ := Kd.qkb HO_6.out z43 ((ji24) : Int) p31 q31
              obtain rfl := qmb hM31
              have hx31_0 : World.cell? _ ⟨go27, ((ji24) : Int).toNat * 4, none⟩ = some (.int .i64 ((qc x6_1 (ji24)).f0)) := hcc31 0 _ rfl
              have hx31_1 : World.cell? _ ⟨go27, ((ji24) : Int).toNat * 4 + 1, none⟩ = some (.int .i64 ((qc x6_1 (ji24)).f1)) := hcc31 1 _ rfl
              have hx31_2 : World.cell? _ ⟨go27, ((ji24) : Int).toNat * 4 + 2, none⟩ = some (.int .i64 ((qc x6_1 (ji24)).f2)) := hcc31 2 _ rfl
              have hx31_3 : World.cell? _ ⟨go27, ((ji24) : Int).toNat * 4 + 3, none⟩ = some (.string ((qc x6_1 (ji24)).f3)) := hcc31 3 _ rfl
              have hf31_0 : World.frozen? _ ⟨go27, ((ji24) : Int).toNat * 4, none⟩ = false := hfr31 0
              have hf31_1 : World.frozen? _ ⟨go27, ((ji24) : Int).toNat * 4 + 1, none⟩ = false := hfr31 1
              have hf31_2 : World.frozen? _ ⟨go27, ((ji24) : Int).toNat * 4 + 2, none⟩ = false := hfr31 2
              have hf31_3 : World.frozen? _ ⟨go27, ((ji24) : Int).toNat * 4 + 3, none⟩ = false := hfr31 3
              clear hcl31 hcc31 hfr31 hM31
              replace p31 := eq_true p31
              replace q31 := eq_true q31
              obtain ⟨ce34, hcl34, hM34, hcc34, hfr34⟩ := Kd.qkb HO_6.out z43 ((ji24) : Int) (of_decide_eq_true (by first | (with_reducible assumption) | assumption)) (by have h_ : ((ji24) : Int) < ((x6_1.length : Int) : Int) := of_decide_eq_true (by first | (with_reducible assumption) | assumption); first | exact h_ | (have e_ := (Kd.qD HO_6.out).1; omega) | simpa using h_)
              obtain rfl := qmb hM34
              have HP34 := (Kd.R_seg HO_6.out ((ji24) : Int) (of_decide_eq_true (by first | (with_reducible assumption) | assumption)) (by have h_ : ((ji24) : Int) < ((x6_1.length : Int) : Int) := of_decide_eq_true (by first | (with_reducible assumption) | assumption); first | exact h_ | (have e_ := (Kd.qD HO_6.out).1; omega) | simpa using h_) (seg := [.string (((qc x6_1 (ji24)).f3) ++ ((qc l1 x18_1).f3))]) (j := 3) hcl34 hcc34 (show 4 ≤ 4 from by decide) (x' := (⟨(qc x6_1 (ji24)).f0, (qc x6_1 (ji24)).f1, (qc x6_1 (ji24)).f2, ((qc x6_1 (ji24)).f3) ++ ((qc l1 x18_1).f3)⟩ : S43)) (qvb _ _ _ (⟨(qc x6_1 (ji24)).f0, (qc x6_1 (ji24)).f1, (qc x6_1 (ji24)).f2, ((qc x6_1 (ji24)).f3) ++ ((qc l1 x18_1).f3)⟩ : S43) ) (fun _ hk => hk)).1
              rw [← Ny168.out] at HP34
              have HQ34 := qb.mk HP34
              clear hcl34 hcc34 hfr34 hM34 HP34
              refine qAb (n := 10) (S := fun w' => w'.cell? ⟨gb166, 0, none⟩ = some (.int .i64 ((qc l1 x18_1).f0)) ∧ w'.cell? ⟨gb166, 1, none⟩ = some (.int .i64 ((qc l1 x18_1).f1)) ∧ w'.cell? ⟨gb166, 2, none⟩ = some (.int .i64 ((qc l1 x18_1).f2)) ∧ w'.cell? ⟨gb166, 3, none⟩ = some (.string ((qc l1 x18_1).f3)) ∧ w'.cell? ⟨go27, ((ji24) : Int).toNat * 4, none⟩ = some (.int .i64 ((qc x6_1 (ji24)).f0)) ∧ w'.cell? ⟨go27, ((ji24) : Int).toNat * 4 + 1, none⟩ = some (.int .i64 ((qc x6_1 (ji24)).f1)) ∧ w'.cell? ⟨go27, ((ji24) : Int).toNat * 4 + 2, none⟩ = some (.int .i64 ((qc x6_1 (ji24)).f2)) ∧ w'.cell? ⟨go27, ((ji24) : Int).toNat * 4 + 3, none⟩ = some (.string ((qc x6_1 (ji24)).f3))) (ds := [9]) (Extra.b [0, 10]) (by kernel_rfl) rfl rfl ⟨(ql BK166.out 0).trans rfl, (ql BK166.out 1).trans rfl, (ql BK166.out 2).trans rfl, (ql BK166.out 3).trans rfl, hx29_0, hx29_1, hx29_2, hx29_3⟩ (fun hHeld => ?_); refine qyb qH.tab11 qH.bits11 (fun HT_ HW_ => ?_)
              generalize wc.drew = w33 at HO_6 BK166 HB HQ34 hf29_0 hf29_1 hf29_2 hf29_3 hf31_0 hf31_1 hf31_2 hf31_3 hx29_0 hx29_1 hx29_2 hx29_3 hx31_0 hx31_1 hx31_2 hx31_3 hHeld ⊢
              refine pure_ (i := 0) (N := some 43) (v := ?_) (a' := ?_) (Extra.b [1, 9]) rfl rfl (qw HT_.out (by kernel_rfl)) (fun _ _ _ h => h) (Or.inl ⟨by rfl, ?_⟩) ?_ ?_
              rotate_left
              ·intro w'
               go_simp
               with_reducible rfl
              rotate_left
              ·simp only [Act.put, List.setIfInBounds_toArray, List.set_cons_zero, List.set_cons_succ, i64_w, i32_w]
               rfl
              refine pure_ (i := 1) (N := some 44) (v := ?_) (a' := ?_) (Extra.b [2, 8]) rfl rfl (qw HT_.out (by kernel_rfl)) (fun _ _ _ h => h) (Or.inl ⟨by rfl, ?_⟩) ?_ ?_
              rotate_left
              ·intro w'
               go_simp
               with_reducible rfl
              rotate_left
              ·simp only [Act.put, List.setIfInBounds_toArray, List.set_cons_zero, List.set_cons_succ, i64_w, i32_w]
               rfl
              refine pure_ (i := 2) (N := some 45) (v := ?_) (a' := ?_) (Extra.b [3, 7]) rfl rfl (qw HT_.out (by kernel_rfl)) (fun _ _ _ h => h) (Or.inl ⟨by rfl, ?_⟩) ?_ ?_
              rotate_left
              ·intro w'
               go_simp
               with_reducible rfl
              rotate_left
              ·simp only [Act.put, List.setIfInBounds_toArray, List.set_cons_zero, List.set_cons_succ, i64_w, i32_w]
               rfl
              refine pure_ (i := 4) (N := some 47) (v := ?_) (a' := ?_) (Extra.b [3, 1, 1, 5]) rfl rfl (qw HT_.out (by kernel_rfl)) (fun _ _ _ h => h) (Or.inl ⟨by rfl, ?_⟩) ?_ ?_
              rotate_left
              ·intro w'
               go_simp
               with_reducible rfl
              rotate_left
              ·simp only [Act.put, List.setIfInBounds_toArray, List.set_cons_zero, List.set_cons_succ, i64_w, i32_w]
               rfl
              refine take_ (i := 3) (N := some 46) (v := ?_) (a' := ?_) (Extra.b [5, 5]) rfl rfl (qnb HT_.out HW_.out (by kernel_rfl)) (fun _ _ _ h => h) (Or.inl ⟨by rfl, ?_⟩) hHeld ?_ ?_
              rotate_left
              ·rintro w' ⟨s0, s1, s2, s3, s4, s5, s6, s7⟩
               go_simp
               with_reducible rfl
              rotate_left
              ·simp only [Act.put, List.setIfInBounds_toArray, List.set_cons_zero, List.set_cons_succ, i64_w, i32_w]
               rfl
              refine take_ (i := 5) (N := some 48) (v := ?_) (a' := ?_) (Extra.b [6, 4]) rfl rfl (qnb HT_.out HW_.out (by kernel_rfl)) (fun _ _ _ h => h) (Or.inl ⟨by rfl, ?_⟩) hHeld ?_ ?_
              rotate_left
              ·rintro w' ⟨s0, s1, s2, s3, s4, s5, s6, s7⟩
               go_simp
               with_reducible rfl
              rotate_left
              ·simp only [Act.put, List.setIfInBounds_toArray, List.set_cons_zero, List.set_cons_succ, i64_w, i32_w]
               rfl
              refine pure_ (i := 6) (N := some 49) (v := ?_) (a' := ?_) (Extra.b [7, 3]) rfl rfl (qw HT_.out (by kernel_rfl)) (fun _ _ _ h => h) (Or.inl ⟨by rfl, ?_⟩) ?_ ?_
              rotate_left
              ·intro w'
               go_simp
               with_reducible rfl
              rotate_left
              ·simp only [Act.put, List.setIfInBounds_toArray, List.set_cons_zero, List.set_cons_succ, i64_w, i32_w]
               rfl
              refine pure_ (i := 7) (N := some 50) (v := ?_) (a' := ?_) (Extra.b [8, 2]) rfl rfl (qw HT_.out (by kernel_rfl)) (fun _ _ _ h => h) (Or.inl ⟨by rfl, ?_⟩) ?_ ?_
              rotate_left
              ·intro w'
               go_simp
               with_reducible rfl
              rotate_left
              ·simp only [Act.put, List.setIfInBounds_toArray, List.set_cons_zero, List.set_cons_succ, i64_w, i32_w]
               rfl
              refine pure_ (i := 8) (N := some 51) (v := ?_) (a' := ?_) (Extra.b [9, 1]) rfl rfl (qw HT_.out (by kernel_rfl)) (fun _ _ _ h => h) (Or.inl ⟨by rfl, ?_⟩) ?_ ?_
              rotate_left
              ·intro w'
               go_simp
               with_reducible rfl
              rotate_left
              ·simp only [Act.put, List.setIfInBounds_toArray, List.set_cons_zero, List.set_cons_succ, i64_w, i32_w]
               rfl
              refine last_ (i := 9) (N := none) (Extra.b [10]) rfl rfl (qEb HT_.out (by kernel_rfl)) (by decide) (fun K hK => ?_)
              refine skip_ (w1 := ?_) (by rfl) rfl ?_ ?_
              rotate_left
              ·go_simp
               rfl
              refine hK.out _ _ ?_
              clear hK K
              refine done_ (qzb HT_.out (by kernel_rfl)) ?_
              try go_wp2
              go_roundg kj10
              case measure => have := HK1.out; have := HJ10.out; omega
              case rel => exact ⟨(y168), (wrap64 (x18_1 + 1)), (by first | rfl | (simp; done) | (simp [*]; done)), H', ⟨by have := HK1.out; have := HJ10.out; omega⟩, ⟨by (with_reducible repeat (first | apply Kd.qo | apply Kd.qn | apply Kd.qm)); exact Kd.qF HQ34.out (fun _ hk => trivial)⟩, ⟨by repeat (first | (with_reducible first | exact HB.out | apply qf | apply qg | apply qe | refine qk ?_ GB27.out | refine qk ?_ GE166.out) | exact HB.out)⟩⟩
             ·rw [if_neg c30] at H
              exact absurd H (by simp)
            ·rw [if_neg c28] at H
             have c28b0 : (((qc l1 x18_1).f0) == 2) = false := beq_eq_false_iff_ne.mpr c28
             have c28b1 : (((qc l1 x18_1).f0) != 2) = true := bne_iff_ne.mpr c28
             by_cases c37 : (wrap64 (((qc x6_1 (ji24)).f1) + ((qc x6_1 (ji24)).f2))) = ((qc l1 x18_1).f1)
             ·rw [if_pos c37] at H
              have c37b0 : ((wrap64 (((qc x6_1 (ji24)).f1) + ((qc x6_1 (ji24)).f2))) == ((qc l1 x18_1).f1)) = true := beq_iff_eq.mpr c37
              have c37b1 : ((wrap64 (((qc x6_1 (ji24)).f1) + ((qc x6_1 (ji24)).f2))) != ((qc l1 x18_1).f1)) = false := bne_eq_false_iff_eq.mpr c37
              clear c37
              obtain ⟨y169, hy169⟩ : ∃ y_ : List (S43), y_ = (x6_1.set ((ji24) : Int).toNat (⟨(qc x6_1 (ji24)).f0, (qc x6_1 (ji24)).f1, wrap64 (((qc x6_1 (ji24)).f2) + ((qc l1 x18_1).f2)), (qc x6_1 (ji24)).f3⟩ : S43)) := ⟨_, rfl⟩
              replace H : (qH.l0 kj10 y169 l1 (l1.length : Int) (wrap64 (x18_1 + 1))) = some (r1, r2) := by first | (rw [hy169]; with_reducible exact H) | (have H2_ := (Option.bind_some _ _).symm.trans H; rw [hy169]; with_reducible exact H2_) | (have H2_ := (Option.bind_some _ _).symm.trans H; with_reducible exact H2_) | with_reducible exact H | (rw [hy169]; exact H) | exact H
              have Ny169 := qb.mk hy169
              clear hy169
              have H' := qb.mk H
              clear H
              have p27 : 0 ≤ ((ji24) : Int) := of_decide_eq_true (by first | (with_reducible assumption) | assumption)
              have q27 : ((ji24) : Int) < ((x6_1.length : Int) : Int) := of_decide_eq_true (by first | (with_reducible assumption) | assumption)
              obtain ⟨go27, co27, eo27, gb27, gl27, cl27, HG27⟩ := Kd.R_form HO_6.out (by omega)
              (first | cases eo27 | (injection eo27 with ea_ en_ ec_; (first | subst ea_ | (injection ea_ with ea_; subst ea_)); subst ec_; clear en_))
              have GB27 := qb.mk gb27
              have GG27 := qb.mk HG27
              clear gb27 gl27 HG27
              obtain ⟨ce27, hcl27, hM27, hcc27, hfr27⟩ := Kd.qkb HO_6.out z43 ((ji24) : Int) p27 q27
              obtain rfl := qmb hM27
              have hx27_0 : wc.cell? ⟨go27, ((ji24) : Int).toNat * 4, none⟩ = some (.int .i64 ((qc x6_1 (ji24)).f0)) := hcc27 0 _ rfl
              have hx27_1 : wc.cell? ⟨go27, ((ji24) : Int).toNat * 4 + 1, none⟩ = some (.int .i64 ((qc x6_1 (ji24)).f1)) := hcc27 1 _ rfl
              have hx27_2 : wc.cell? ⟨go27, ((ji24) : Int).toNat * 4 + 2, none⟩ = some (.int .i64 ((qc x6_1 (ji24)).f2)) := hcc27 2 _ rfl
              have hx27_3 : wc.cell? ⟨go27, ((ji24) : Int).toNat * 4 + 3, none⟩ = some (.string ((qc x6_1 (ji24)).f3)) := hcc27 3 _ rfl
              have hf27_0 : wc.frozen? ⟨go27, ((ji24) : Int).toNat * 4, none⟩ = false := hfr27 0
              have hf27_1 : wc.frozen? ⟨go27, ((ji24) : Int).toNat * 4 + 1, none⟩ = false := hfr27 1
              have hf27_2 : wc.frozen? ⟨go27, ((ji24) : Int).toNat * 4 + 2, none⟩ = false := hfr27 2
              have hf27_3 : wc.frozen? ⟨go27, ((ji24) : Int).toNat * 4 + 3, none⟩ = false := hfr27 3
              clear hcl27 hcc27 hfr27 hM27
              replace p27 := eq_true p27
              replace q27 := eq_true q27
              have hcz40_0 : wc.cell? ⟨gb166, 0, none⟩ = some (.int .i64 ((qc l1 x18_1).f0)) := (ql BK166.out 0).trans rfl
              have hcz40_1 : wc.cell? ⟨gb166, 1, none⟩ = some (.int .i64 ((qc l1 x18_1).f1)) := (ql BK166.out 1).trans rfl
              have hcz40_2 : wc.cell? ⟨gb166, 2, none⟩ = some (.int .i64 ((qc l1 x18_1).f2)) := (ql BK166.out 2).trans rfl
              have hcz40_3 : wc.cell? ⟨gb166, 3, none⟩ = some (.string ((qc l1 x18_1).f3)) := (ql BK166.out 3).trans rfl
              have hfz40_0 := qp BK166.out 0
              have hfz40_1 := qp BK166.out 1
              have hfz40_2 := qp BK166.out 2
              have hfz40_3 := qp BK166.out 3
              try go_wp2
              replace HO_6 := qb.mk (Kd.qm HO_6.out)
              replace BK166 := qb.mk (qx BK166.out)
              replace HB := qb.mk (qe HB.out)
              have p35 : 0 ≤ ((ji24) : Int) := of_decide_eq_true (by first | (with_reducible assumption) | assumption)
              have q35 : ((ji24) : Int) < ((x6_1.length : Int) : Int) := of_decide_eq_true (by first | (with_reducible assumption) | assumption)
              obtain ⟨ce35, hcl35, hM35, hcc35, hfr35⟩ := Kd.qkb HO_6.out z43 ((ji24) : Int) p35 q35
              obtain rfl := qmb hM35
              have hx35_0 : World.cell? _ ⟨go27, ((ji24) : Int).toNat * 4, none⟩ = some (.int .i64 ((qc x6_1 (ji24)).f0)) := hcc35 0 _ rfl
              have hx35_1 : World.cell? _ ⟨go27, ((ji24) : Int).toNat * 4 + 1, none⟩ = some (.int .i64 ((qc x6_1 (ji24)).f1)) := hcc35 1 _ rfl
              have hx35_2 : World.cell? _ ⟨go27, ((ji24) : Int).toNat * 4 + 2, none⟩ = some (.int .i64 ((qc x6_1 (ji24)).f2)) := hcc35 2 _ rfl
              have hx35_3 : World.cell? _ ⟨go27, ((ji24) : Int).toNat * 4 + 3, none⟩ = some (.string ((qc x6_1 (ji24)).f3)) := hcc35 3 _ rfl
              have hf35_0 : World.frozen? _ ⟨go27, ((ji24) : Int).toNat * 4, none⟩ = false := hfr35 0
              have hf35_1 : World.frozen? _ ⟨go27, ((ji24) : Int).toNat * 4 + 1, none⟩ = false := hfr35 1
              have hf35_2 : World.frozen? _ ⟨go27, ((ji24) : Int).toNat * 4 + 2, none⟩ = false := hfr35 2
              have hf35_3 : World.frozen? _ ⟨go27, ((ji24) : Int).toNat * 4 + 3, none⟩ = false := hfr35 3
              clear hcl35 hcc35 hfr35 hM35
              replace p35 := eq_true p35
              replace q35 := eq_true q35
              have p36 : 0 ≤ ((ji24) : Int) := of_decide_eq_true (by first | (with_reducible assumption) | assumption)
              have q36 : ((ji24) : Int) < ((x6_1.length : Int) : Int) := of_decide_eq_true (by first | (with_reducible assumption) | assumption)
              obtain ⟨ce36, hcl36, hM36, hcc36, hfr36⟩ := Kd.qkb HO_6.out z43 ((ji24) : Int) p36 q36
              obtain rfl := qmb hM36
              have hx36_0 : World.cell? _ ⟨go27, ((ji24) : Int).toNat * 4, none⟩ = some (.int .i64 ((qc x6_1 (ji24)).f0)) := hcc36 0 _ rfl
              have hx36_1 : World.cell? _ ⟨go27, ((ji24) : Int).toNat * 4 + 1, none⟩ = some (.int .i64 ((qc x6_1 (ji24)).f1)) := hcc36 1 _ rfl
              have hx36_2 : World.cell? _ ⟨go27, ((ji24) : Int).toNat * 4 + 2, none⟩ = some (.int .i64 ((qc x6_1 (ji24)).f2)) := hcc36 2 _ rfl
              have hx36_3 : World.cell? _ ⟨go27, ((ji24) : Int).toNat * 4 + 3, none⟩ = some (.string ((qc x6_1 (ji24)).f3)) := hcc36 3 _ rfl
              have hf36_0 : World.frozen? _ ⟨go27, ((ji24) : Int).toNat * 4, none⟩ = false := hfr36 0
              have hf36_1 : World.frozen? _ ⟨go27, ((ji24) : Int).toNat * 4 + 1, none⟩ = false := hfr36 1
              have hf36_2 : World.frozen? _ ⟨go27, ((ji24) : Int).toNat * 4 + 2, none⟩ = false := hfr36 2
              have hf36_3 : World.frozen? _ ⟨go27, ((ji24) : Int).toNat * 4 + 3, none⟩ = false := hfr36 3
              clear hcl36 hcc36 hfr36 hM36
              replace p36 := eq_true p36
              replace q36 := eq_true q36
              refine qAb (n := 12) (S := fun w' => w'.cell? ⟨gb166, 0, none⟩ = some (.int .i64 ((qc l1 x18_1).f0)) ∧ w'.cell? ⟨gb166, 1, none⟩ = some (.int .i64 ((qc l1 x18_1).f1)) ∧ w'.cell? ⟨gb166, 2, none⟩ = some (.int .i64 ((qc l1 x18_1).f2)) ∧ w'.cell? ⟨gb166, 3, none⟩ = some (.string ((qc l1 x18_1).f3)) ∧ w'.cell? ⟨go27, ((ji24) : Int).toNat * 4, none⟩ = some (.int .i64 ((qc x6_1 (ji24)).f0)) ∧ w'.cell? ⟨go27, ((ji24) : Int).toNat * 4 + 1, none⟩ = some (.int .i64 ((qc x6_1 (ji24)).f1)) ∧ w'.cell? ⟨go27, ((ji24) : Int).toNat * 4 + 2, none⟩ = some (.int .i64 ((qc x6_1 (ji24)).f2)) ∧ w'.cell? ⟨go27, ((ji24) : Int).toNat * 4 + 3, none⟩ = some (.string ((qc x6_1 (ji24)).f3))) (ds := []) (Extra.b [0, 12]) (by kernel_rfl) rfl rfl ⟨(ql BK166.out 0).trans rfl, (ql BK166.out 1).trans rfl, (ql BK166.out 2).trans rfl, (ql BK166.out 3).trans rfl, hx35_0, hx35_1, hx35_2, hx35_3⟩ (fun hHeld => ?_); refine qyb qH.tab12 qH.bits12 (fun HT_ HW_ => ?_)
              generalize wc.drew = w41 at HO_6 BK166 HB hf35_0 hf35_1 hf35_2 hf35_3 hf36_0 hf36_1 hf36_2 hf36_3 hx35_0 hx35_1 hx35_2 hx35_3 hx36_0 hx36_1 hx36_2 hx36_3 hHeld ⊢
              refine pure_ (i := 0) (N := some 52) (v := ?_) (a' := ?_) (Extra.b [1, 11]) rfl rfl (qw HT_.out (by kernel_rfl)) (fun _ _ _ h => h) (Or.inl ⟨by rfl, ?_⟩) ?_ ?_
              rotate_left
              ·intro w'
               go_simp
               with_reducible rfl
              rotate_left
              ·simp only [Act.put, List.setIfInBounds_toArray, List.set_cons_zero, List.set_cons_succ, i64_w, i32_w]
               rfl
              refine pure_ (i := 1) (N := some 53) (v := ?_) (a' := ?_) (Extra.b [2, 10]) rfl rfl (qw HT_.out (by kernel_rfl)) (fun _ _ _ h => h) (Or.inl ⟨by rfl, ?_⟩) ?_ ?_
              rotate_left
              ·intro w'
               go_simp
               with_reducible rfl
              rotate_left
              ·simp only [Act.put, List.setIfInBounds_toArray, List.set_cons_zero, List.set_cons_succ, i64_w, i32_w]
               rfl
              refine pure_ (i := 2) (N := some 54) (v := ?_) (a' := ?_) (Extra.b [3, 9]) rfl rfl (qw HT_.out (by kernel_rfl)) (fun _ _ _ h => h) (Or.inl ⟨by rfl, ?_⟩) ?_ ?_
              rotate_left
              ·intro w'
               go_simp
               with_reducible rfl
              rotate_left
              ·simp only [Act.put, List.setIfInBounds_toArray, List.set_cons_zero, List.set_cons_succ, i64_w, i32_w]
               rfl
              refine pure_ (i := 4) (N := some 56) (v := ?_) (a' := ?_) (Extra.b [3, 1, 1, 7]) rfl rfl (qw HT_.out (by kernel_rfl)) (fun _ _ _ h => h) (Or.inl ⟨by rfl, ?_⟩) ?_ ?_
              rotate_left
              ·intro w'
               go_simp
               with_reducible rfl
              rotate_left
              ·simp only [Act.put, List.setIfInBounds_toArray, List.set_cons_zero, List.set_cons_succ, i64_w, i32_w]
               rfl
              refine pure_ (i := 5) (N := some 57) (v := ?_) (a' := ?_) (Extra.b [3, 1, 2, 6]) rfl rfl (qw HT_.out (by kernel_rfl)) (fun _ _ _ h => h) (Or.inl ⟨by rfl, ?_⟩) ?_ ?_
              rotate_left
              ·intro w'
               go_simp
               with_reducible rfl
              rotate_left
              ·simp only [Act.put, List.setIfInBounds_toArray, List.set_cons_zero, List.set_cons_succ, i64_w, i32_w]
               rfl
              refine pure_ (i := 6) (N := some 58) (v := ?_) (a' := ?_) (Extra.b [3, 1, 3, 5]) rfl rfl (qw HT_.out (by kernel_rfl)) (fun _ _ _ h => h) (Or.inl ⟨by rfl, ?_⟩) ?_ ?_
              rotate_left
              ·intro w'
               go_simp
               with_reducible rfl
              rotate_left
              ·simp only [Act.put, List.setIfInBounds_toArray, List.set_cons_zero, List.set_cons_succ, i64_w, i32_w]
               rfl
              refine pure_ (i := 9) (N := some 61) (v := ?_) (a' := ?_) (Extra.b [3, 1, 3, 2, 1, 2]) rfl rfl (qw HT_.out (by kernel_rfl)) (fun _ _ _ h => h) (Or.inl ⟨by rfl, ?_⟩) ?_ ?_
              rotate_left
              ·intro w'
               go_simp
               with_reducible rfl
              rotate_left
              ·simp only [Act.put, List.setIfInBounds_toArray, List.set_cons_zero, List.set_cons_succ, i64_w, i32_w]
               rfl
              refine take_ (i := 3) (N := some 55) (v := ?_) (a' := ?_) (Extra.b [7, 2, 1, 2]) rfl rfl (qnb HT_.out HW_.out (by kernel_rfl)) (fun _ _ _ h => h) (Or.inl ⟨by rfl, ?_⟩) hHeld ?_ ?_
              rotate_left
              ·rintro w' ⟨s0, s1, s2, s3, s4, s5, s6, s7⟩
               go_simp
               with_reducible rfl
              rotate_left
              ·simp only [Act.put, List.setIfInBounds_toArray, List.set_cons_zero, List.set_cons_succ, i64_w, i32_w]
               rfl
              refine take_ (i := 7) (N := some 59) (v := ?_) (a' := ?_) (Extra.b [8, 1, 1, 2]) rfl rfl (qnb HT_.out HW_.out (by kernel_rfl)) (fun _ _ _ h => h) (Or.inl ⟨by rfl, ?_⟩) hHeld ?_ ?_
              rotate_left
              ·rintro w' ⟨s0, s1, s2, s3, s4, s5, s6, s7⟩
               go_simp
               with_reducible rfl
              rotate_left
              ·simp only [Act.put, List.setIfInBounds_toArray, List.set_cons_zero, List.set_cons_succ, i64_w, i32_w]
               rfl
              refine pure_ (i := 8) (N := some 60) (v := ?_) (a' := ?_) (Extra.b [10, 2]) rfl rfl (qw HT_.out (by kernel_rfl)) (fun _ _ _ h => h) (Or.inl ⟨by rfl, ?_⟩) ?_ ?_
              rotate_left
              ·intro w'
               go_simp
               with_reducible rfl
              rotate_left
              ·simp only [Act.put, List.setIfInBounds_toArray, List.set_cons_zero, List.set_cons_succ, i64_w, i32_w]
               rfl
              refine take_ (i := 10) (N := some 62) (v := ?_) (a' := ?_) (Extra.b [11, 1]) rfl rfl (qnb HT_.out HW_.out (by kernel_rfl)) (fun _ _ _ h => h) (Or.inl ⟨by rfl, ?_⟩) hHeld ?_ ?_
              rotate_left
              ·rintro w' ⟨s0, s1, s2, s3, s4, s5, s6, s7⟩
               go_simp
               with_reducible rfl
              rotate_left
              ·simp only [Act.put, List.setIfInBounds_toArray, List.set_cons_zero, List.set_cons_succ, i64_w, i32_w]
               rfl
              refine pure_ (i := 11) (N := some 63) (v := ?_) (a' := ?_) (Extra.b [12]) rfl rfl (qw HT_.out (by kernel_rfl)) (fun _ _ _ h => h) (Or.inl ⟨by rfl, ?_⟩) ?_ ?_
              rotate_left
              ·intro w'
               go_simp
               with_reducible rfl
              rotate_left
              ·simp only [Act.put, List.setIfInBounds_toArray, List.set_cons_zero, List.set_cons_succ, i64_w, i32_w]
               rfl
              refine done_ (qzb HT_.out (by kernel_rfl)) ?_
              try go_wp2
              replace HO_6 := qb.mk (Kd.qm HO_6.out)
              replace BK166 := qb.mk (qx BK166.out)
              replace HB := qb.mk (qe HB.out)
              have p38 : 0 ≤ ((ji24) : Int) := of_decide_eq_true (by first | (with_reducible assumption) | assumption)
              have q38 : ((ji24) : Int) < ((x6_1.length : Int) : Int) := of_decide_eq_true (by first | (with_reducible assumption) | assumption)
              obtain ⟨ce38, hcl38, hM38, hcc38, hfr38⟩ := Kd.qkb HO_6.out z43 ((ji24) : Int) p38 q38
              obtain rfl := qmb hM38
              have hx38_0 : World.cell? _ ⟨go27, ((ji24) : Int).toNat * 4, none⟩ = some (.int .i64 ((qc x6_1 (ji24)).f0)) := hcc38 0 _ rfl
              have hx38_1 : World.cell? _ ⟨go27, ((ji24) : Int).toNat * 4 + 1, none⟩ = some (.int .i64 ((qc x6_1 (ji24)).f1)) := hcc38 1 _ rfl
              have hx38_2 : World.cell? _ ⟨go27, ((ji24) : Int).toNat * 4 + 2, none⟩ = some (.int .i64 ((qc x6_1 (ji24)).f2)) := hcc38 2 _ rfl
              have hx38_3 : World.cell? _ ⟨go27, ((ji24) : Int).toNat * 4 + 3, none⟩ = some (.string ((qc x6_1 (ji24)).f3)) := hcc38 3 _ rfl
              have hf38_0 : World.frozen? _ ⟨go27, ((ji24) : Int).toNat * 4, none⟩ = false := hfr38 0
              have hf38_1 : World.frozen? _ ⟨go27, ((ji24) : Int).toNat * 4 + 1, none⟩ = false := hfr38 1
              have hf38_2 : World.frozen? _ ⟨go27, ((ji24) : Int).toNat * 4 + 2, none⟩ = false := hfr38 2
              have hf38_3 : World.frozen? _ ⟨go27, ((ji24) : Int).toNat * 4 + 3, none⟩ = false := hfr38 3
              clear hcl38 hcc38 hfr38 hM38
              replace p38 := eq_true p38
              replace q38 := eq_true q38
              have p39 : 0 ≤ ((ji24) : Int) := of_decide_eq_true (by first | (with_reducible assumption) | assumption)
              have q39 : ((ji24) : Int) < ((x6_1.length : Int) : Int) := of_decide_eq_true (by first | (with_reducible assumption) | assumption)
              obtain ⟨ce39, hcl39, hM39, hcc39, hfr39⟩ := Kd.qkb HO_6.out z43 ((ji24) : Int) p39 q39
              obtain rfl := qmb hM39
              have hx39_0 : World.cell? _ ⟨go27, ((ji24) : Int).toNat * 4, none⟩ = some (.int .i64 ((qc x6_1 (ji24)).f0)) := hcc39 0 _ rfl
              have hx39_1 : World.cell? _ ⟨go27, ((ji24) : Int).toNat * 4 + 1, none⟩ = some (.int .i64 ((qc x6_1 (ji24)).f1)) := hcc39 1 _ rfl
              have hx39_2 : World.cell? _ ⟨go27, ((ji24) : Int).toNat * 4 + 2, none⟩ = some (.int .i64 ((qc x6_1 (ji24)).f2)) := hcc39 2 _ rfl
              have hx39_3 : World.cell? _ ⟨go27, ((ji24) : Int).toNat * 4 + 3, none⟩ = some (.string ((qc x6_1 (ji24)).f3)) := hcc39 3 _ rfl
              have hf39_0 : World.frozen? _ ⟨go27, ((ji24) : Int).toNat * 4, none⟩ = false := hfr39 0
              have hf39_1 : World.frozen? _ ⟨go27, ((ji24) : Int).toNat * 4 + 1, none⟩ = false := hfr39 1
              have hf39_2 : World.frozen? _ ⟨go27, ((ji24) : Int).toNat * 4 + 2, none⟩ = false := hfr39 2
              have hf39_3 : World.frozen? _ ⟨go27, ((ji24) : Int).toNat * 4 + 3, none⟩ = false := hfr39 3
              clear hcl39 hcc39 hfr39 hM39
              replace p39 := eq_true p39
              replace q39 := eq_true q39
              obtain ⟨ce43, hcl43, hM43, hcc43, hfr43⟩ := Kd.qkb HO_6.out z43 ((ji24) : Int) (of_decide_eq_true (by first | (with_reducible assumption) | assumption)) (by have h_ : ((ji24) : Int) < ((x6_1.length : Int) : Int) := of_decide_eq_true (by first | (with_reducible assumption) | assumption); first | exact h_ | (have e_ := (Kd.qD HO_6.out).1; omega) | simpa using h_)
              obtain rfl := qmb hM43
              have HP43 := (Kd.R_seg HO_6.out ((ji24) : Int) (of_decide_eq_true (by first | (with_reducible assumption) | assumption)) (by have h_ : ((ji24) : Int) < ((x6_1.length : Int) : Int) := of_decide_eq_true (by first | (with_reducible assumption) | assumption); first | exact h_ | (have e_ := (Kd.qD HO_6.out).1; omega) | simpa using h_) (seg := [.int .i64 (wrap64 (((qc x6_1 (ji24)).f2) + ((qc l1 x18_1).f2)))]) (j := 2) hcl43 hcc43 (show 3 ≤ 4 from by decide) (x' := (⟨(qc x6_1 (ji24)).f0, (qc x6_1 (ji24)).f1, wrap64 (((qc x6_1 (ji24)).f2) + ((qc l1 x18_1).f2)), (qc x6_1 (ji24)).f3⟩ : S43)) (qvb _ _ _ (⟨(qc x6_1 (ji24)).f0, (qc x6_1 (ji24)).f1, wrap64 (((qc x6_1 (ji24)).f2) + ((qc l1 x18_1).f2)), (qc x6_1 (ji24)).f3⟩ : S43) ) (fun _ hk => hk)).1
              rw [← Ny169.out] at HP43
              have HQ43 := qb.mk HP43
              clear hcl43 hcc43 hfr43 hM43 HP43
              refine qAb (n := 10) (S := fun w' => w'.cell? ⟨gb166, 0, none⟩ = some (.int .i64 ((qc l1 x18_1).f0)) ∧ w'.cell? ⟨gb166, 1, none⟩ = some (.int .i64 ((qc l1 x18_1).f1)) ∧ w'.cell? ⟨gb166, 2, none⟩ = some (.int .i64 ((qc l1 x18_1).f2)) ∧ w'.cell? ⟨gb166, 3, none⟩ = some (.string ((qc l1 x18_1).f3)) ∧ w'.cell? ⟨go27, ((ji24) : Int).toNat * 4, none⟩ = some (.int .i64 ((qc x6_1 (ji24)).f0)) ∧ w'.cell? ⟨go27, ((ji24) : Int).toNat * 4 + 1, none⟩ = some (.int .i64 ((qc x6_1 (ji24)).f1)) ∧ w'.cell? ⟨go27, ((ji24) : Int).toNat * 4 + 2, none⟩ = some (.int .i64 ((qc x6_1 (ji24)).f2)) ∧ w'.cell? ⟨go27, ((ji24) : Int).toNat * 4 + 3, none⟩ = some (.string ((qc x6_1 (ji24)).f3))) (ds := [9]) (Extra.b [0, 10]) (by kernel_rfl) rfl rfl ⟨(ql BK166.out 0).trans rfl, (ql BK166.out 1).trans rfl, (ql BK166.out 2).trans rfl, (ql BK166.out 3).trans rfl, hx38_0, hx38_1, hx38_2, hx38_3⟩ (fun hHeld => ?_); refine qyb qH.tab13 qH.bits13 (fun HT_ HW_ => ?_)
              generalize w41.drew = w42 at HO_6 BK166 HB HQ43 hf38_0 hf38_1 hf38_2 hf38_3 hf39_0 hf39_1 hf39_2 hf39_3 hx38_0 hx38_1 hx38_2 hx38_3 hx39_0 hx39_1 hx39_2 hx39_3 hHeld ⊢
              refine pure_ (i := 0) (N := some 64) (v := ?_) (a' := ?_) (Extra.b [1, 9]) rfl rfl (qw HT_.out (by kernel_rfl)) (fun _ _ _ h => h) (Or.inl ⟨by rfl, ?_⟩) ?_ ?_
              rotate_left
              ·intro w'
               go_simp
               with_reducible rfl
              rotate_left
              ·simp only [Act.put, List.setIfInBounds_toArray, List.set_cons_zero, List.set_cons_succ, i64_w, i32_w]
               rfl
              refine pure_ (i := 1) (N := some 65) (v := ?_) (a' := ?_) (Extra.b [2, 8]) rfl rfl (qw HT_.out (by kernel_rfl)) (fun _ _ _ h => h) (Or.inl ⟨by rfl, ?_⟩) ?_ ?_
              rotate_left
              ·intro w'
               go_simp
               with_reducible rfl
              rotate_left
              ·simp only [Act.put, List.setIfInBounds_toArray, List.set_cons_zero, List.set_cons_succ, i64_w, i32_w]
               rfl
              refine pure_ (i := 2) (N := some 66) (v := ?_) (a' := ?_) (Extra.b [3, 7]) rfl rfl (qw HT_.out (by kernel_rfl)) (fun _ _ _ h => h) (Or.inl ⟨by rfl, ?_⟩) ?_ ?_
              rotate_left
              ·intro w'
               go_simp
               with_reducible rfl
              rotate_left
              ·simp only [Act.put, List.setIfInBounds_toArray, List.set_cons_zero, List.set_cons_succ, i64_w, i32_w]
               rfl
              refine pure_ (i := 4) (N := some 68) (v := ?_) (a' := ?_) (Extra.b [3, 1, 1, 5]) rfl rfl (qw HT_.out (by kernel_rfl)) (fun _ _ _ h => h) (Or.inl ⟨by rfl, ?_⟩) ?_ ?_
              rotate_left
              ·intro w'
               go_simp
               with_reducible rfl
              rotate_left
              ·simp only [Act.put, List.setIfInBounds_toArray, List.set_cons_zero, List.set_cons_succ, i64_w, i32_w]
               rfl
              refine take_ (i := 3) (N := some 67) (v := ?_) (a' := ?_) (Extra.b [5, 5]) rfl rfl (qnb HT_.out HW_.out (by kernel_rfl)) (fun _ _ _ h => h) (Or.inl ⟨by rfl, ?_⟩) hHeld ?_ ?_
              rotate_left
              ·rintro w' ⟨s0, s1, s2, s3, s4, s5, s6, s7⟩
               go_simp
               with_reducible rfl
              rotate_left
              ·simp only [Act.put, List.setIfInBounds_toArray, List.set_cons_zero, List.set_cons_succ, i64_w, i32_w]
               rfl
              refine take_ (i := 5) (N := some 69) (v := ?_) (a' := ?_) (Extra.b [6, 4]) rfl rfl (qnb HT_.out HW_.out (by kernel_rfl)) (fun _ _ _ h => h) (Or.inl ⟨by rfl, ?_⟩) hHeld ?_ ?_
              rotate_left
              ·rintro w' ⟨s0, s1, s2, s3, s4, s5, s6, s7⟩
               go_simp
               with_reducible rfl
              rotate_left
              ·simp only [Act.put, List.setIfInBounds_toArray, List.set_cons_zero, List.set_cons_succ, i64_w, i32_w]
               rfl
              refine pure_ (i := 6) (N := some 70) (v := ?_) (a' := ?_) (Extra.b [7, 3]) rfl rfl (qw HT_.out (by kernel_rfl)) (fun _ _ _ h => h) (Or.inl ⟨by rfl, ?_⟩) ?_ ?_
              rotate_left
              ·intro w'
               go_simp
               with_reducible rfl
              rotate_left
              ·simp only [Act.put, List.setIfInBounds_toArray, List.set_cons_zero, List.set_cons_succ, i64_w, i32_w]
               rfl
              refine pure_ (i := 7) (N := some 71) (v := ?_) (a' := ?_) (Extra.b [8, 2]) rfl rfl (qw HT_.out (by kernel_rfl)) (fun _ _ _ h => h) (Or.inl ⟨by rfl, ?_⟩) ?_ ?_
              rotate_left
              ·intro w'
               go_simp
               with_reducible rfl
              rotate_left
              ·simp only [Act.put, List.setIfInBounds_toArray, List.set_cons_zero, List.set_cons_succ, i64_w, i32_w]
               rfl
              refine pure_ (i := 8) (N := some 72) (v := ?_) (a' := ?_) (Extra.b [9, 1]) rfl rfl (qw HT_.out (by kernel_rfl)) (fun _ _ _ h => h) (Or.inl ⟨by rfl, ?_⟩) ?_ ?_
              rotate_left
              ·intro w'
               go_simp
               with_reducible rfl
              rotate_left
              ·simp only [Act.put, List.setIfInBounds_toArray, List.set_cons_zero, List.set_cons_succ, i64_w, i32_w]
               rfl
              refine last_ (i := 9) (N := none) (Extra.b [10]) rfl rfl (qEb HT_.out (by kernel_rfl)) (by decide) (fun K hK => ?_)
              refine skip_ (w1 := ?_) (by rfl) rfl ?_ ?_
              rotate_left
              ·go_simp
               rfl
              refine hK.out _ _ ?_
              clear hK K
              refine done_ (qzb HT_.out (by kernel_rfl)) ?_
              try go_wp2
              go_roundg kj10
              case measure => have := HK1.out; have := HJ10.out; omega
              case rel => exact ⟨(y169), (wrap64 (x18_1 + 1)), (by first | rfl | (simp; done) | (simp [*]; done)), H', ⟨by have := HK1.out; have := HJ10.out; omega⟩, ⟨by (with_reducible repeat (first | apply Kd.qo | apply Kd.qn | apply Kd.qm)); exact Kd.qF HQ43.out (fun _ hk => trivial)⟩, ⟨by repeat (first | (with_reducible first | exact HB.out | apply qf | apply qg | apply qe | refine qk ?_ GB27.out | refine qk ?_ GE166.out) | exact HB.out)⟩⟩
             ·rw [if_neg c37] at H
              have c37b0 : ((wrap64 (((qc x6_1 (ji24)).f1) + ((qc x6_1 (ji24)).f2))) == ((qc l1 x18_1).f1)) = false := beq_eq_false_iff_ne.mpr c37
              have c37b1 : ((wrap64 (((qc x6_1 (ji24)).f1) + ((qc x6_1 (ji24)).f2))) != ((qc l1 x18_1).f1)) = true := bne_iff_ne.mpr c37
              by_cases c44 : x6_1.length < 3518437208883
              ·rw [if_pos c44] at H
               have LMc44 := qb.mk c44
               clear c44
               obtain ⟨y170, hy170⟩ : ∃ y_ : List (S43), y_ = (x6_1 ++ [(⟨((qc l1 x18_1).f0), ((qc l1 x18_1).f1), ((qc l1 x18_1).f2), ((qc l1 x18_1).f3)⟩ : S43)]) := ⟨_, rfl⟩
               replace H : (qH.l0 kj10 y170 l1 (l1.length : Int) (wrap64 (x18_1 + 1))) = some (r1, r2) := by first | (rw [hy170]; with_reducible exact H) | (have H2_ := (Option.bind_some _ _).symm.trans H; rw [hy170]; with_reducible exact H2_) | (have H2_ := (Option.bind_some _ _).symm.trans H; with_reducible exact H2_) | with_reducible exact H | (rw [hy170]; exact H) | exact H
               have Ny170 := qb.mk hy170
               clear hy170
               have H' := qb.mk H
               clear H
               have p27 : 0 ≤ ((ji24) : Int) := of_decide_eq_true (by first | (with_reducible assumption) | assumption)
               have q27 : ((ji24) : Int) < ((x6_1.length : Int) : Int) := of_decide_eq_true (by first | (with_reducible assumption) | assumption)
               obtain ⟨go27, co27, eo27, gb27, gl27, cl27, HG27⟩ := Kd.R_form HO_6.out (by omega)
               (first | cases eo27 | (injection eo27 with ea_ en_ ec_; (first | subst ea_ | (injection ea_ with ea_; subst ea_)); subst ec_; clear en_))
               have GB27 := qb.mk gb27
               have GG27 := qb.mk HG27
               clear gb27 gl27 HG27
               obtain ⟨ce27, hcl27, hM27, hcc27, hfr27⟩ := Kd.qkb HO_6.out z43 ((ji24) : Int) p27 q27
               obtain rfl := qmb hM27
               have hx27_0 : wc.cell? ⟨go27, ((ji24) : Int).toNat * 4, none⟩ = some (.int .i64 ((qc x6_1 (ji24)).f0)) := hcc27 0 _ rfl
               have hx27_1 : wc.cell? ⟨go27, ((ji24) : Int).toNat * 4 + 1, none⟩ = some (.int .i64 ((qc x6_1 (ji24)).f1)) := hcc27 1 _ rfl
               have hx27_2 : wc.cell? ⟨go27, ((ji24) : Int).toNat * 4 + 2, none⟩ = some (.int .i64 ((qc x6_1 (ji24)).f2)) := hcc27 2 _ rfl
               have hx27_3 : wc.cell? ⟨go27, ((ji24) : Int).toNat * 4 + 3, none⟩ = some (.string ((qc x6_1 (ji24)).f3)) := hcc27 3 _ rfl
               have hf27_0 : wc.frozen? ⟨go27, ((ji24) : Int).toNat * 4, none⟩ = false := hfr27 0
               have hf27_1 : wc.frozen? ⟨go27, ((ji24) : Int).toNat * 4 + 1, none⟩ = false := hfr27 1
               have hf27_2 : wc.frozen? ⟨go27, ((ji24) : Int).toNat * 4 + 2, none⟩ = false := hfr27 2
               have hf27_3 : wc.frozen? ⟨go27, ((ji24) : Int).toNat * 4 + 3, none⟩ = false := hfr27 3
               clear hcl27 hcc27 hfr27 hM27
               replace p27 := eq_true p27
               replace q27 := eq_true q27
               have hcz45_0 : wc.cell? ⟨gb166, 0, none⟩ = some (.int .i64 ((qc l1 x18_1).f0)) := (ql BK166.out 0).trans rfl
               have hcz45_1 : wc.cell? ⟨gb166, 1, none⟩ = some (.int .i64 ((qc l1 x18_1).f1)) := (ql BK166.out 1).trans rfl
               have hcz45_2 : wc.cell? ⟨gb166, 2, none⟩ = some (.int .i64 ((qc l1 x18_1).f2)) := (ql BK166.out 2).trans rfl
               have hcz45_3 : wc.cell? ⟨gb166, 3, none⟩ = some (.string ((qc l1 x18_1).f3)) := (ql BK166.out 3).trans rfl
               have hfz45_0 := qp BK166.out 0
               have hfz45_1 := qp BK166.out 1
               have hfz45_2 := qp BK166.out 2
               have hfz45_3 := qp BK166.out 3
               try go_wp2
               replace HO_6 := qb.mk (Kd.qm HO_6.out)
               replace BK166 := qb.mk (qx BK166.out)
               replace HB := qb.mk (qe HB.out)
               have p35 : 0 ≤ ((ji24) : Int) := of_decide_eq_true (by first | (with_reducible assumption) | assumption)
               have q35 : ((ji24) : Int) < ((x6_1.length : Int) : Int) := of_decide_eq_true (by first | (with_reducible assumption) | assumption)
               obtain ⟨ce35, hcl35, hM35, hcc35, hfr35⟩ := Kd.qkb HO_6.out z43 ((ji24) : Int) p35 q35
               obtain rfl := qmb hM35
               have hx35_0 : World.cell? _ ⟨go27, ((ji24) : Int).toNat * 4, none⟩ = some (.int .i64 ((qc x6_1 (ji24)).f0)) := hcc35 0 _ rfl
               have hx35_1 : World.cell? _ ⟨go27, ((ji24) : Int).toNat * 4 + 1, none⟩ = some (.int .i64 ((qc x6_1 (ji24)).f1)) := hcc35 1 _ rfl
               have hx35_2 : World.cell? _ ⟨go27, ((ji24) : Int).toNat * 4 + 2, none⟩ = some (.int .i64 ((qc x6_1 (ji24)).f2)) := hcc35 2 _ rfl
               have hx35_3 : World.cell? _ ⟨go27, ((ji24) : Int).toNat * 4 + 3, none⟩ = some (.string ((qc x6_1 (ji24)).f3)) := hcc35 3 _ rfl
               have hf35_0 : World.frozen? _ ⟨go27, ((ji24) : Int).toNat * 4, none⟩ = false := hfr35 0
               have hf35_1 : World.frozen? _ ⟨go27, ((ji24) : Int).toNat * 4 + 1, none⟩ = false := hfr35 1
               have hf35_2 : World.frozen? _ ⟨go27, ((ji24) : Int).toNat * 4 + 2, none⟩ = false := hfr35 2
               have hf35_3 : World.frozen? _ ⟨go27, ((ji24) : Int).toNat * 4 + 3, none⟩ = false := hfr35 3
               clear hcl35 hcc35 hfr35 hM35
               replace p35 := eq_true p35
               replace q35 := eq_true q35
               have p36 : 0 ≤ ((ji24) : Int) := of_decide_eq_true (by first | (with_reducible assumption) | assumption)
               have q36 : ((ji24) : Int) < ((x6_1.length : Int) : Int) := of_decide_eq_true (by first | (with_reducible assumption) | assumption)
               obtain ⟨ce36, hcl36, hM36, hcc36, hfr36⟩ := Kd.qkb HO_6.out z43 ((ji24) : Int) p36 q36
               obtain rfl := qmb hM36
               have hx36_0 : World.cell? _ ⟨go27, ((ji24) : Int).toNat * 4, none⟩ = some (.int .i64 ((qc x6_1 (ji24)).f0)) := hcc36 0 _ rfl
               have hx36_1 : World.cell? _ ⟨go27, ((ji24) : Int).toNat * 4 + 1, none⟩ = some (.int .i64 ((qc x6_1 (ji24)).f1)) := hcc36 1 _ rfl
               have hx36_2 : World.cell? _ ⟨go27, ((ji24) : Int).toNat * 4 + 2, none⟩ = some (.int .i64 ((qc x6_1 (ji24)).f2)) := hcc36 2 _ rfl
               have hx36_3 : World.cell? _ ⟨go27, ((ji24) : Int).toNat * 4 + 3, none⟩ = some (.string ((qc x6_1 (ji24)).f3)) := hcc36 3 _ rfl
               have hf36_0 : World.frozen? _ ⟨go27, ((ji24) : Int).toNat * 4, none⟩ = false := hfr36 0
               have hf36_1 : World.frozen? _ ⟨go27, ((ji24) : Int).toNat * 4 + 1, none⟩ = false := hfr36 1
               have hf36_2 : World.frozen? _ ⟨go27, ((ji24) : Int).toNat * 4 + 2, none⟩ = false := hfr36 2
               have hf36_3 : World.frozen? _ ⟨go27, ((ji24) : Int).toNat * 4 + 3, none⟩ = false := hfr36 3
               clear hcl36 hcc36 hfr36 hM36
               replace p36 := eq_true p36
               replace q36 := eq_true q36
               refine qAb (n := 12) (S := fun w' => w'.cell? ⟨gb166, 0, none⟩ = some (.int .i64 ((qc l1 x18_1).f0)) ∧ w'.cell? ⟨gb166, 1, none⟩ = some (.int .i64 ((qc l1 x18_1).f1)) ∧ w'.cell? ⟨gb166, 2, none⟩ = some (.int .i64 ((qc l1 x18_1).f2)) ∧ w'.cell? ⟨gb166, 3, none⟩ = some (.string ((qc l1 x18_1).f3)) ∧ w'.cell? ⟨go27, ((ji24) : Int).toNat * 4, none⟩ = some (.int .i64 ((qc x6_1 (ji24)).f0)) ∧ w'.cell? ⟨go27, ((ji24) : Int).toNat * 4 + 1, none⟩ = some (.int .i64 ((qc x6_1 (ji24)).f1)) ∧ w'.cell? ⟨go27, ((ji24) : Int).toNat * 4 + 2, none⟩ = some (.int .i64 ((qc x6_1 (ji24)).f2)) ∧ w'.cell? ⟨go27, ((ji24) : Int).toNat * 4 + 3, none⟩ = some (.string ((qc x6_1 (ji24)).f3))) (ds := []) (Extra.b [0, 12]) (by kernel_rfl) rfl rfl ⟨(ql BK166.out 0).trans rfl, (ql BK166.out 1).trans rfl, (ql BK166.out 2).trans rfl, (ql BK166.out 3).trans rfl, hx35_0, hx35_1, hx35_2, hx35_3⟩ (fun hHeld => ?_); refine qyb qH.tab12 qH.bits12 (fun HT_ HW_ => ?_)
               generalize wc.drew = w46 at HO_6 BK166 HB hf35_0 hf35_1 hf35_2 hf35_3 hf36_0 hf36_1 hf36_2 hf36_3 hx35_0 hx35_1 hx35_2 hx35_3 hx36_0 hx36_1 hx36_2 hx36_3 hHeld ⊢
               refine pure_ (i := 0) (N := some 52) (v := ?_) (a' := ?_) (Extra.b [1, 11]) rfl rfl (qw HT_.out (by kernel_rfl)) (fun _ _ _ h => h) (Or.inl ⟨by rfl, ?_⟩) ?_ ?_
               rotate_left
               ·intro w'
                go_simp
                with_reducible rfl
               rotate_left
               ·simp only [Act.put, List.setIfInBounds_toArray, List.set_cons_zero, List.set_cons_succ, i64_w, i32_w]
                rfl
               refine pure_ (i := 1) (N := some 53) (v := ?_) (a' := ?_) (Extra.b [2, 10]) rfl rfl (qw HT_.out (by kernel_rfl)) (fun _ _ _ h => h) (Or.inl ⟨by rfl, ?_⟩) ?_ ?_
               rotate_left
               ·intro w'
                go_simp
                with_reducible rfl
               rotate_left
               ·simp only [Act.put, List.setIfInBounds_toArray, List.set_cons_zero, List.set_cons_succ, i64_w, i32_w]
                rfl
               refine pure_ (i := 2) (N := some 54) (v := ?_) (a' := ?_) (Extra.b [3, 9]) rfl rfl (qw HT_.out (by kernel_rfl)) (fun _ _ _ h => h) (Or.inl ⟨by rfl, ?_⟩) ?_ ?_
               rotate_left
               ·intro w'
                go_simp
                with_reducible rfl
               rotate_left
               ·simp only [Act.put, List.setIfInBounds_toArray, List.set_cons_zero, List.set_cons_succ, i64_w, i32_w]
                rfl
               refine pure_ (i := 4) (N := some 56) (v := ?_) (a' := ?_) (Extra.b [3, 1, 1, 7]) rfl rfl (qw HT_.out (by kernel_rfl)) (fun _ _ _ h => h) (Or.inl ⟨by rfl, ?_⟩) ?_ ?_
               rotate_left
               ·intro w'
                go_simp
                with_reducible rfl
               rotate_left
               ·simp only [Act.put, List.setIfInBounds_toArray, List.set_cons_zero, List.set_cons_succ, i64_w, i32_w]
                rfl
               refine pure_ (i := 5) (N := some 57) (v := ?_) (a' := ?_) (Extra.b [3, 1, 2, 6]) rfl rfl (qw HT_.out (by kernel_rfl)) (fun _ _ _ h => h) (Or.inl ⟨by rfl, ?_⟩) ?_ ?_
               rotate_left
               ·intro w'
                go_simp
                with_reducible rfl
               rotate_left
               ·simp only [Act.put, List.setIfInBounds_toArray, List.set_cons_zero, List.set_cons_succ, i64_w, i32_w]
                rfl
               refine pure_ (i := 6) (N := some 58) (v := ?_) (a' := ?_) (Extra.b [3, 1, 3, 5]) rfl rfl (qw HT_.out (by kernel_rfl)) (fun _ _ _ h => h) (Or.inl ⟨by rfl, ?_⟩) ?_ ?_
               rotate_left
               ·intro w'
                go_simp
                with_reducible rfl
               rotate_left
               ·simp only [Act.put, List.setIfInBounds_toArray, List.set_cons_zero, List.set_cons_succ, i64_w, i32_w]
                rfl
               refine pure_ (i := 9) (N := some 61) (v := ?_) (a' := ?_) (Extra.b [3, 1, 3, 2, 1, 2]) rfl rfl (qw HT_.out (by kernel_rfl)) (fun _ _ _ h => h) (Or.inl ⟨by rfl, ?_⟩) ?_ ?_
               rotate_left
               ·intro w'
                go_simp
                with_reducible rfl
               rotate_left
               ·simp only [Act.put, List.setIfInBounds_toArray, List.set_cons_zero, List.set_cons_succ, i64_w, i32_w]
                rfl
               refine take_ (i := 3) (N := some 55) (v := ?_) (a' := ?_) (Extra.b [7, 2, 1, 2]) rfl rfl (qnb HT_.out HW_.out (by kernel_rfl)) (fun _ _ _ h => h) (Or.inl ⟨by rfl, ?_⟩) hHeld ?_ ?_
               rotate_left
               ·rintro w' ⟨s0, s1, s2, s3, s4, s5, s6, s7⟩
                go_simp
                with_reducible rfl
               rotate_left
               ·simp only [Act.put, List.setIfInBounds_toArray, List.set_cons_zero, List.set_cons_succ, i64_w, i32_w]
                rfl
               refine take_ (i := 7) (N := some 59) (v := ?_) (a' := ?_) (Extra.b [8, 1, 1, 2]) rfl rfl (qnb HT_.out HW_.out (by kernel_rfl)) (fun _ _ _ h => h) (Or.inl ⟨by rfl, ?_⟩) hHeld ?_ ?_
               rotate_left
               ·rintro w' ⟨s0, s1, s2, s3, s4, s5, s6, s7⟩
                go_simp
                with_reducible rfl
               rotate_left
               ·simp only [Act.put, List.setIfInBounds_toArray, List.set_cons_zero, List.set_cons_succ, i64_w, i32_w]
                rfl
               refine pure_ (i := 8) (N := some 60) (v := ?_) (a' := ?_) (Extra.b [10, 2]) rfl rfl (qw HT_.out (by kernel_rfl)) (fun _ _ _ h => h) (Or.inl ⟨by rfl, ?_⟩) ?_ ?_
               rotate_left
               ·intro w'
                go_simp
                with_reducible rfl
               rotate_left
               ·simp only [Act.put, List.setIfInBounds_toArray, List.set_cons_zero, List.set_cons_succ, i64_w, i32_w]
                rfl
               refine take_ (i := 10) (N := some 62) (v := ?_) (a' := ?_) (Extra.b [11, 1]) rfl rfl (qnb HT_.out HW_.out (by kernel_rfl)) (fun _ _ _ h => h) (Or.inl ⟨by rfl, ?_⟩) hHeld ?_ ?_
               rotate_left
               ·rintro w' ⟨s0, s1, s2, s3, s4, s5, s6, s7⟩
                go_simp
                with_reducible rfl
               rotate_left
               ·simp only [Act.put, List.setIfInBounds_toArray, List.set_cons_zero, List.set_cons_succ, i64_w, i32_w]
                rfl
               refine pure_ (i := 11) (N := some 63) (v := ?_) (a' := ?_) (Extra.b [12]) rfl rfl (qw HT_.out (by kernel_rfl)) (fun _ _ _ h => h) (Or.inl ⟨by rfl, ?_⟩) ?_ ?_
               rotate_left
               ·intro w'
                go_simp
                with_reducible rfl
               rotate_left
               ·simp only [Act.put, List.setIfInBounds_toArray, List.set_cons_zero, List.set_cons_succ, i64_w, i32_w]
                rfl
               refine done_ (qzb HT_.out (by kernel_rfl)) ?_
               have hcz47_0 : w46.cell? ⟨gb166, 0, none⟩ = some (.int .i64 ((qc l1 x18_1).f0)) := (ql BK166.out 0).trans rfl
               have hcz47_1 : w46.cell? ⟨gb166, 1, none⟩ = some (.int .i64 ((qc l1 x18_1).f1)) := (ql BK166.out 1).trans rfl
               have hcz47_2 : w46.cell? ⟨gb166, 2, none⟩ = some (.int .i64 ((qc l1 x18_1).f2)) := (ql BK166.out 2).trans rfl
               have hcz47_3 : w46.cell? ⟨gb166, 3, none⟩ = some (.string ((qc l1 x18_1).f3)) := (ql BK166.out 3).trans rfl
               have hfz47_0 := qp BK166.out 0
               have hfz47_1 := qp BK166.out 1
               have hfz47_2 := qp BK166.out 2
               have hfz47_3 := qp BK166.out 3
               try go_wp2_with (first | ((with_reducible refine qhc (b := .append) (xs := #[.tmp 73, .tmp 75]) rfl ?_); at_builtin; refine Kd.qkc k43 (w0 := w) w.heap.size rfl (.tmp 73) (.tmp 75) 26 43 (.agg #[(.int .i64 0), (.int .i64 0), (.int .i64 0), (.string ⟨#[]⟩)]) 40 rfl Try.underlying26 info43 rfl (by decide) (by omega) (.slice (some ⟨go27, 0, none⟩) x6_1.length co14) x6_1 (⟨((qc l1 x18_1).f0), ((qc l1 x18_1).f1), ((qc l1 x18_1).f2), ((qc l1 x18_1).f3)⟩ : S43) [.int .i64 ((qc l1 x18_1).f0), .int .i64 ((qc l1 x18_1).f1), .int .i64 ((qc l1 x18_1).f2), .string ((qc l1 x18_1).f3)] (fun k_ => k_ ≠ gb166) (fun _ => False) rfl rfl ?aP (fun _ hk => hk.elim) ?aF ?aO ?aB ?aS ?aL ?_; (case aP => exact qvb _ _ _ (⟨((qc l1 x18_1).f0), ((qc l1 x18_1).f1), ((qc l1 x18_1).f2), ((qc l1 x18_1).f3)⟩ : S43)); (case aB => exact (by repeat (first | (with_reducible first | exact HB.out | apply qf | apply qg | apply qe | refine qk ?_ GE166.out) | exact HB.out))); (case aF => exact (fun k_ hk => Kd.freshB (g := gb166) (o := .cells #[.int .i64 ((qc l1 x18_1).f0), .int .i64 ((qc l1 x18_1).f1), .int .i64 ((qc l1 x18_1).f2), .string ((qc l1 x18_1).f3)] 43 (0, 0)) (by (with_reducible repeat (first | refine qB ?_ _ | refine qx ?_ | refine qC ?_ _)); exact BK166.out) k_ hk)); (case aO => exact (by (with_reducible repeat (first | apply Kd.qo | apply Kd.qn | apply Kd.qm)); exact HO_6.out)); (case aS => exact (qG (by repeat (first | (with_reducible first | exact HB.out | apply qf | apply qg | apply qe | refine qk ?_ GE166.out) | exact HB.out)))); (case aL => have := LMc44.out; omega); intro v171 w48 ho hb hg hat; rw [← Ny170.out] at ho; have HO172 := qb.mk (ho); replace BK166 := qb.mk (qJb (g := gb166) (o := .cells #[.int .i64 ((qc l1 x18_1).f0), .int .i64 ((qc l1 x18_1).f1), .int .i64 ((qc l1 x18_1).f2), .string ((qc l1 x18_1).f3)] 43 (0, 0)) (by (with_reducible repeat (first | refine qB ?_ _ | refine qx ?_ | refine qC ?_ _)); exact BK166.out) hg (Kd.qfc HO_6.out (fun _ hk => hk))); replace HB := qb.mk (hb); clear HO_6; clear ho hb hg hat))
               go_roundg kj10
               case measure => have := HK1.out; have := HJ10.out; omega
               case rel => exact ⟨(y170), (wrap64 (x18_1 + 1)), (by first | rfl | (simp; done) | (simp [*]; done)), H', ⟨by have := HK1.out; have := HJ10.out; omega⟩, ⟨by (with_reducible repeat (first | apply Kd.qo | apply Kd.qn | apply Kd.qm)); exact Kd.qF HO172.out (fun _ hk => trivial)⟩, ⟨by repeat (first | (with_reducible first | exact HB.out | apply qf | apply qg | apply qe | refine qk ?_ GE166.out) | exact HB.out)⟩⟩
              ·rw [if_neg c44] at H
               exact absurd H (by simp)
           ·rw [if_neg c26] at H
            exact absurd H (by simp)
          ·rw [if_neg c25] at H
           exact absurd H (by simp)
         ·replace c23 := Bool.eq_false_iff.mpr c23
          subst c23
          rw [if_neg (show ¬ (false = true) by decide)] at H
          by_cases c49 : x6_1.length < 3518437208883
          ·rw [if_pos c49] at H
           have LMc49 := qb.mk c49
           clear c49
           obtain ⟨y173, hy173⟩ : ∃ y_ : List (S43), y_ = (x6_1 ++ [(⟨((qc l1 x18_1).f0), ((qc l1 x18_1).f1), ((qc l1 x18_1).f2), ((qc l1 x18_1).f3)⟩ : S43)]) := ⟨_, rfl⟩
           replace H : (qH.l0 kj10 y173 l1 (l1.length : Int) (wrap64 (x18_1 + 1))) = some (r1, r2) := by first | (rw [hy173]; with_reducible exact H) | (have H2_ := (Option.bind_some _ _).symm.trans H; rw [hy173]; with_reducible exact H2_) | (have H2_ := (Option.bind_some _ _).symm.trans H; with_reducible exact H2_) | with_reducible exact H | (rw [hy173]; exact H) | exact H
           have Ny173 := qb.mk hy173
           clear hy173
           have H' := qb.mk H
           clear H
           have hcz50_0 : wc.cell? ⟨gb166, 0, none⟩ = some (.int .i64 ((qc l1 x18_1).f0)) := (ql BK166.out 0).trans rfl
           have hcz50_1 : wc.cell? ⟨gb166, 1, none⟩ = some (.int .i64 ((qc l1 x18_1).f1)) := (ql BK166.out 1).trans rfl
           have hcz50_2 : wc.cell? ⟨gb166, 2, none⟩ = some (.int .i64 ((qc l1 x18_1).f2)) := (ql BK166.out 2).trans rfl
           have hcz50_3 : wc.cell? ⟨gb166, 3, none⟩ = some (.string ((qc l1 x18_1).f3)) := (ql BK166.out 3).trans rfl
           have hfz50_0 := qp BK166.out 0
           have hfz50_1 := qp BK166.out 1
           have hfz50_2 := qp BK166.out 2
           have hfz50_3 := qp BK166.out 3
           go_wp2_with (first | ((with_reducible refine qhc (b := .append) (xs := #[.tmp 73, .tmp 75]) rfl ?_); at_builtin; refine Kd.qkc k43 (w0 := w) w.heap.size rfl (.tmp 73) (.tmp 75) 26 43 (.agg #[(.int .i64 0), (.int .i64 0), (.int .i64 0), (.string ⟨#[]⟩)]) 40 rfl Try.underlying26 info43 rfl (by decide) (by omega) (.slice Ao14 x6_1.length co14) x6_1 (⟨((qc l1 x18_1).f0), ((qc l1 x18_1).f1), ((qc l1 x18_1).f2), ((qc l1 x18_1).f3)⟩ : S43) [.int .i64 ((qc l1 x18_1).f0), .int .i64 ((qc l1 x18_1).f1), .int .i64 ((qc l1 x18_1).f2), .string ((qc l1 x18_1).f3)] (fun k_ => k_ ≠ gb166) (fun _ => False) rfl rfl ?aP (fun _ hk => hk.elim) ?aF ?aO ?aB ?aS ?aL ?_; (case aP => exact qvb _ _ _ (⟨((qc l1 x18_1).f0), ((qc l1 x18_1).f1), ((qc l1 x18_1).f2), ((qc l1 x18_1).f3)⟩ : S43)); (case aB => exact (by repeat (first | (with_reducible first | exact HB.out | apply qf | apply qg | apply qe | refine qk ?_ GE166.out) | exact HB.out))); (case aF => exact (fun k_ hk => Kd.freshB (g := gb166) (o := .cells #[.int .i64 ((qc l1 x18_1).f0), .int .i64 ((qc l1 x18_1).f1), .int .i64 ((qc l1 x18_1).f2), .string ((qc l1 x18_1).f3)] 43 (0, 0)) (by (with_reducible repeat (first | refine qB ?_ _ | refine qx ?_ | refine qC ?_ _)); exact BK166.out) k_ hk)); (case aO => exact (by (with_reducible repeat (first | apply Kd.qo | apply Kd.qn | apply Kd.qm)); exact HO_6.out)); (case aS => exact (qG (by repeat (first | (with_reducible first | exact HB.out | apply qf | apply qg | apply qe | refine qk ?_ GE166.out) | exact HB.out)))); (case aL => have := LMc49.out; omega); intro v174 w51 ho hb hg hat; rw [← Ny173.out] at ho; have HO175 := qb.mk (ho); replace BK166 := qb.mk (qJb (g := gb166) (o := .cells #[.int .i64 ((qc l1 x18_1).f0), .int .i64 ((qc l1 x18_1).f1), .int .i64 ((qc l1 x18_1).f2), .string ((qc l1 x18_1).f3)] 43 (0, 0)) (by (with_reducible repeat (first | refine qB ?_ _ | refine qx ?_ | refine qC ?_ _)); exact BK166.out) hg (Kd.qfc HO_6.out (fun _ hk => hk))); replace HB := qb.mk (hb); clear HO_6; clear ho hb hg hat))
           go_roundg kj10
           case measure => have := HK1.out; have := HJ10.out; omega
           case rel => exact ⟨(y173), (wrap64 (x18_1 + 1)), (by first | rfl | (simp; done) | (simp [*]; done)), H', ⟨by have := HK1.out; have := HJ10.out; omega⟩, ⟨by (with_reducible repeat (first | apply Kd.qo | apply Kd.qn | apply Kd.qm)); exact Kd.qF HO175.out (fun _ hk => trivial)⟩, ⟨by repeat (first | (with_reducible first | exact HB.out | apply qf | apply qg | apply qe | refine qk ?_ GE166.out) | exact HB.out)⟩⟩
          ·rw [if_neg c49] at H
           exact absurd H (by simp)
      ·rw [if_neg c10] at H
       exact absurd H (by simp)
     ·rw [if_neg c9] at H
      exact absurd H (by simp)
    ·rw [if_neg c8] at H
     have c8b0 : decide (x18_1 < (l1.length : Int)) = false := decide_eq_false c8
     clear c8
     simp only [Option.some.injEq, Prod.mk.injEq] at H
     obtain ⟨rfl, rfl⟩ := H
     go_wp2
     go_ret2
     exact ⟨_, by first | rfl | (simp [qv, qu] <;> rfl) | (simp [*, qv, qu] <;> rfl), by (with_reducible repeat (first | apply Kd.qo | apply Kd.qn | apply Kd.qm)); exact HO_6.out, by repeat (first | (with_reducible first | exact HB.out | apply qf | apply qg | apply qe) | exact HB.out)⟩
 ·replace c4 := Bool.eq_false_iff.mpr c4
  subst c4
  rw [if_neg (show ¬ (false = true) by decide)] at H
  simp only [Option.some.injEq, Prod.mk.injEq] at H
  obtain ⟨rfl, rfl⟩ := H
  go_enter Try.func34, Try.ntmps34
  go_wp2_with (first | ((with_reducible refine qy (f := 21) rfl ?_); refine qz (some 13) rfl rfl Try.func21 (by kernel_rfl) rfl #[.string a0, .slice A1 l1.length c1] rfl (by (try simp only [List.map_toArray, List.map_cons, List.map_nil]); first | done | rfl | (simp only [List.length_drop, List.length_take]; rfl)) ?_; (with_reducible refine (qlb.calls k a0 _ _ l1 false _ ?side1 ?side2 A3.out).mono ?_); (case side1 => repeat (first | exact HR1.out | (with_reducible refine Kd.qN ?_ _) | (with_reducible refine Kd.qM ?_ _) | (with_reducible refine Kd.qO ?_))); (case side2 => exact HC1.out); rintro e w52 ⟨rfl, hb⟩; refine ⟨_, rfl, ?_⟩; replace HB := qb.mk (qE (by repeat (first | (with_reducible first | exact HB.out | apply qf | apply qg | apply qe) | exact HB.out)) hb); (try clear hb); (try clear hb2); (try clear hk); (try clear hi)))
  go_ret2
  exact ⟨_, by first | rfl | (simp [qv, qu] <;> rfl) | (simp [*, qv, qu] <;> rfl), by first | exact Kd.R_nil _ _ _ _ _ | exact Kd.N_nil _ _ _ _ _ | exact Kd.V_nil _ _ _ _ _ | exact Kd.Q_nil _ _ _ _ _ | exact Kd.S_nil _ _ _ _ _, by repeat (first | (with_reducible first | exact HB.out | apply qf | apply qg | apply qe) | exact HB.out)⟩

end Go.Proofs.Ytnhnlfkbngnkpaa.E
