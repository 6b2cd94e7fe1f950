-- Made by a program of this session out of the translation; no hand has turned it.
import Derived.Test.YtnhnlfkbngnkpaaE0
import Derived.Test.YtnhnlfkbngnkpaaE3
namespace Go.Proofs.Ytnhnlfkbngnkpaa.E
open Go.RowKit Go.Proofs.YtnhnlfkbngnkpaaW.PrintWords Go.Proofs.YtnhnlfkbngnkpaaW.PrintLast Go.Proofs.YtnhnlfkbngnkpaaW.PrintMore
attribute [local go_sem] qXb qbc qac qec qZb qdc qYb qcc   -- for this text's walks alone
set_option linter.unusedVariables false
set_option linter.unusedSimpArgs false

/-! ### qJ: function 33 -/
mutual
def qJ.l0 : Nat → List (S43) → List (S43) → Int → Int → Option ((List (S43)) × Bool)
 | 0, _, _, _, _ => none
 | k + 1, x6, x15, x16, x17 => if x17 < x16 then (if 0 ≤ x17 then (if x17 < (x15.length : Int) then (if (x6.length : Int) > 0 then (if 0 ≤ (wrap64 ((x6.length : Int) - 1)) then (if (wrap64 ((x6.length : Int) - 1)) < (x6.length : Int) then (qJ.j1 k x6 (x6.length : Int) x15 x16 x17 (((qc x6 (wrap64 ((x6.length : Int) - 1))).f0) == ((qc x15 x17).f0)) ((qc x15 x17).f0) ((qc x15 x17).f1) ((qc x15 x17).f2) ((qc x15 x17).f3)) else (none)) else (none)) else (qJ.j1 k x6 (x6.length : Int) x15 x16 x17 false ((qc x15 x17).f0) ((qc x15 x17).f1) ((qc x15 x17).f2) ((qc x15 x17).f3))) else (none)) else (none)) else (some (x6, true))
def qJ.j1 : Nat → List (S43) → Int → List (S43) → Int → Int → Bool → Int → Int → Int → ByteArray → Option ((List (S43)) × Bool)
 | 0, _, _, _, _, _, _, _, _, _, _ => none
 | k + 1, x6, x9, x15, x16, x17, x35, x152000, x152001, x152002, x152003 => if x35 = true then (if 0 ≤ (wrap64 (x9 - 1)) then (if (wrap64 (x9 - 1)) < (x6.length : Int) then (if x152000 = 2 then (if ((qc x6 (wrap64 (x9 - 1))).f3).size + x152003.size ≤ 9223372036854775807 then (qJ.l0 k (x6.set ((wrap64 (x9 - 1)) : Int).toNat (⟨(qc x6 (wrap64 (x9 - 1))).f0, (qc x6 (wrap64 (x9 - 1))).f1, (qc x6 (wrap64 (x9 - 1))).f2, ((qc x6 (wrap64 (x9 - 1))).f3) ++ x152003⟩ : S43)) x15 x16 (wrap64 (x17 + 1))) else (none)) else (if (wrap64 (((qc x6 (wrap64 (x9 - 1))).f1) + ((qc x6 (wrap64 (x9 - 1))).f2))) = x152001 then (qJ.l0 k (x6.set ((wrap64 (x9 - 1)) : Int).toNat (⟨(qc x6 (wrap64 (x9 - 1))).f0, (qc x6 (wrap64 (x9 - 1))).f1, wrap64 (((qc x6 (wrap64 (x9 - 1))).f2) + x152002), (qc x6 (wrap64 (x9 - 1))).f3⟩ : S43)) x15 x16 (wrap64 (x17 + 1))) else (if x6.length < 3518437208883 then (qJ.l0 k (x6 ++ [(⟨x152000, x152001, x152002, x152003⟩ : S43)]) x15 x16 (wrap64 (x17 + 1))) else (none)))) else (none)) else (none)) else (if x6.length < 3518437208883 then (qJ.l0 k (x6 ++ [(⟨x152000, x152001, x152002, x152003⟩ : S43)]) x15 x16 (wrap64 (x17 + 1))) else (none))
end
def qJ.f (k : Nat) (a0 : ByteArray) (l1 : List (S43)) : Option ((List (S43)) × Bool) := (qdb.f k a0 l1).bind fun t149 => (if t149 = true then (qJ.l0 k ([] : List (S43)) l1 (l1.length : Int) 0) else (some (([] : List (S43)), false)))
theorem qJ.qjb : ∀ k, (∀ y0 y1 y2 y3, LeO (qJ.l0 k y0 y1 y2 y3) (qJ.l0 (k + 1) y0 y1 y2 y3)) ∧ (∀ y0 y1 y2 y3 y4 y5 y6 y7 y8 y9, LeO (qJ.j1 k y0 y1 y2 y3 y4 y5 y6 y7 y8 y9) (qJ.j1 (k + 1) y0 y1 y2 y3 y4 y5 y6 y7 y8 y9))
 | 0 => ⟨fun _ _ _ _ r h => by simp [qJ.l0] at h, fun _ _ _ _ _ _ _ _ _ _ r h => by simp [qJ.j1] at h⟩
 | k + 1 => by
  obtain ⟨ih0, ih1⟩ := qJ.qjb k
  refine ⟨?_, ?_⟩
  ·intro y0 y1 y2 y3
   unfold qJ.l0
   repeat' first
   | (with_reducible exact ih0 _ _ _ _)
   | (with_reducible exact ih1 _ _ _ _ _ _ _ _ _ _)
   | (with_reducible exact qdb.mono _ _ _)
   | (with_reducible exact LeO.refl _)
   | (with_reducible exact LeO.none _)
   | (with_reducible refine LeO.ite ?_ ?_)
   | (with_reducible refine LeO.bind ?_ (fun _ => ?_))
   | exact LeO.none _
   | refine LeO.ite ?_ ?_
   | refine LeO.bind ?_ (fun _ => ?_)
  ·intro y0 y1 y2 y3 y4 y5 y6 y7 y8 y9
   unfold qJ.j1
   repeat' first
   | (with_reducible exact ih0 _ _ _ _)
   | (with_reducible exact ih1 _ _ _ _ _ _ _ _ _ _)
   | (with_reducible exact qdb.mono _ _ _)
   | (with_reducible exact LeO.refl _)
   | (with_reducible exact LeO.none _)
   | (with_reducible refine LeO.ite ?_ ?_)
   | (with_reducible refine LeO.bind ?_ (fun _ => ?_))
   | exact LeO.none _
   | refine LeO.ite ?_ ?_
   | refine LeO.bind ?_ (fun _ => ?_)
theorem qJ.mono : ∀ a0 a1 k, LeO (qJ.f k a0 a1) (qJ.f (k + 1) a0 a1) := by
 intro a0 a1 k
 obtain ⟨ih0, ih1⟩ := qJ.qjb k
 unfold qJ.f
 repeat' first
   | (with_reducible exact ih0 _ _ _ _)
   | (with_reducible exact ih1 _ _ _ _ _ _ _ _ _ _)
   | (with_reducible exact qdb.mono _ _ _)
   | (with_reducible exact LeO.refl _)
   | (with_reducible exact LeO.none _)
   | (with_reducible refine LeO.ite ?_ ?_)
   | (with_reducible refine LeO.bind ?_ (fun _ => ?_))
   | exact LeO.none _
   | refine LeO.ite ?_ ?_
   | refine LeO.bind ?_ (fun _ => ?_)
def qJ.T8 : Bool × List (List Nat × List Nat) := (true, [([], []), ([0], [0]), ([1], [1]), ([2], [2]), ([2], [2]), ([4, 2], [2, 4]), ([3, 5, 2], [2, 3, 5]), ([6, 2], [2, 6]), ([7, 2], [2, 7]), ([2], [2]), ([9, 2], [2, 9]), ([8, 10, 2], [2, 8, 10]), ([2, 11], [2, 11])])
def qJ.B8 : List Nat := [0, 1, 3, 7, 7, 23, 63, 127, 255, 7, 519, 2047, 4095]
theorem qJ.tab8 : rtab .any (opsOf Try.f33 8) = qJ.T8 := by kernel_rfl
theorem qJ.bits8 : waitsOk qJ.T8.2 qJ.B8 = true := by kernel_rfl
def qJ.T11 : Bool × List (List Nat × List Nat) := (true, [([], []), ([0], [0]), ([1], [1]), ([2], [2]), ([], []), ([4], [4]), ([3, 5], [3, 5]), ([0, 0, 1, 2, 3, 4, 5, 6], [0]), ([7, 0, 1, 2, 3, 4, 5, 6], [7]), ([8, 6, 0, 1, 2, 3, 4, 5, 6], [6, 8])])
def qJ.B11 : List Nat := [0, 1, 3, 7, 0, 16, 63, 127, 255, 511]
theorem qJ.tab11 : rtab .any (opsOf Try.f33 11) = qJ.T11 := by kernel_rfl
theorem qJ.bits11 : waitsOk qJ.T11.2 qJ.B11 = true := by kernel_rfl
def qJ.T12 : Bool × List (List Nat × List Nat) := (true, [([], []), ([0], [0]), ([1], [1]), ([2], [2]), ([], []), ([4], [4]), ([5], [5]), ([6], [6]), ([3, 7], [3, 7]), ([], []), ([9], [9]), ([8, 10], [8, 10])])
def qJ.B12 : List Nat := [0, 1, 3, 7, 0, 16, 48, 112, 255, 0, 512, 2047]
theorem qJ.tab12 : rtab .any (opsOf Try.f33 12) = qJ.T12 := by kernel_rfl
theorem qJ.bits12 : waitsOk qJ.T12.2 qJ.B12 = true := by kernel_rfl
def qJ.T13 : Bool × List (List Nat × List Nat) := (true, [([], []), ([0], [0]), ([1], [1]), ([2], [2]), ([], []), ([4], [4]), ([3, 5], [3, 5]), ([0, 0, 1, 2, 3, 4, 5, 6], [0]), ([7, 0, 1, 2, 3, 4, 5, 6], [7]), ([8, 6, 0, 1, 2, 3, 4, 5, 6], [6, 8])])
def qJ.B13 : List Nat := [0, 1, 3, 7, 0, 16, 63, 127, 255, 511]
theorem qJ.tab13 : rtab .any (opsOf Try.f33 13) = qJ.T13 := by kernel_rfl
theorem qJ.bits13 : waitsOk qJ.T13.2 qJ.B13 = true := by kernel_rfl
set_option maxHeartbeats 8000000 in
set_option maxRecDepth 100000 in
theorem qJ.calls (k : Nat) (a0 : ByteArray) (A1 : Option Addr) (c1 : Nat) (l1 : List (S43)) (r1 : List (S43)) (r2 : Bool) (w : World) (hr1 : Kd.C k43 w A1 l1.length l1) (hc1 : l1.length ≤ c1) (h : qJ.f k a0 l1 = some (r1, r2)) :
  Calls Try.prog 33 #[.string a0, .slice A1 l1.length c1] w fun e w' => ∃ v0_ : Value, e = .returned (.tuple #[v0_, .bool r2]) ∧ Kd.R k43 43 w' w.heap.size (fun _ => True) v0_ r1 ∧ Below w.heap.size w w' := by
 have hu43 := Try.underlying43
 have HR1 := qb.mk hr1
 have HC1 := qb.mk hc1
 clear hr1 hc1
 have HB := qb.mk (Below.refl w.heap.size w)
 have H : ((qdb.f k a0 l1).bind fun t149 => (if t149 = true then (qJ.l0 k ([] : List (S43)) l1 (l1.length : Int) 0) else (some (([] : List (S43)), false)))) = some (r1, r2) := h
 clear h
 replace H := Option.bind_eq_some_iff.mp H
 obtain ⟨t149, A30, H⟩ := H
 try dsimp only at H
 have A3 := qb.mk A30
 clear A30
 by_cases c4 : t149 = true
 ·subst c4
  rw [if_pos rfl] at H
  have H' := qb.mk H
  clear H
  go_enter Try.func33, Try.ntmps33
  go_wp2_with (first | ((with_reducible refine qy (f := 60) rfl ?_); refine qz (some 13) rfl rfl Try.func60 (by kernel_rfl) rfl #[.string a0, .slice A1 l1.length c1] rfl (by (try simp only [List.map_toArray, List.map_cons, List.map_nil]); first | done | rfl | (simp only [List.length_drop, List.length_take]; rfl)) ?_; (with_reducible refine (qdb.calls k a0 _ _ l1 true _ ?side1 ?side2 A3.out).mono ?_); (case side1 => repeat (first | exact HR1.out | (with_reducible refine Kd.qN ?_ _) | (with_reducible refine Kd.qM ?_ _) | (with_reducible refine Kd.qO ?_))); (case side2 => exact HC1.out); rintro e w5 ⟨rfl, hb⟩; refine ⟨_, rfl, ?_⟩; replace HB := qb.mk (qE (by repeat (first | (with_reducible first | exact HB.out | apply qf | apply qg | apply qe) | exact HB.out)) hb); (try clear hb); (try clear hb2); (try clear hk); (try clear hi)))
  go_loopg [6, 17] k (fun kq v6 v17 w' => ∃ (x6_1 : List (S43)) (x17_1 : Int), v17 = .int .i64 x17_1 ∧ qb (qJ.l0 kq x6_1 l1 (l1.length : Int) x17_1 = some (r1, r2)) ∧ qb (kq ≤ k) ∧ qb (Kd.R k43 43 w' w.heap.size (fun _ => True) v6 x6_1) ∧ qb (Below w.heap.size w w'))
  case atStart => exact ⟨(([] : List (S43))), (0), (by first | rfl | (simp; done) | (simp [*]; done)), H', ⟨Nat.le_refl _⟩, ⟨by first | exact Kd.R_nil _ _ _ _ _ | exact Kd.N_nil _ _ _ _ _ | exact Kd.V_nil _ _ _ _ _ | exact Kd.Q_nil _ _ _ _ _ | exact Kd.S_nil _ _ _ _ _⟩, ⟨by repeat (first | (with_reducible first | exact HB.out | apply qf | apply qg | apply qe) | exact HB.out)⟩⟩
  case round =>
   clear H'
   try clear c1
   try clear p2
   try clear c3
   try clear c4
   obtain ⟨x6_1, x17_1, rfl, HA, HK1, HO_6, HB⟩ := hrel
   cases gk with
   | zero => exact absurd HA.out (by simp [qJ.l0])
   | succ k1 =>
    have H := HA.out
    clear HA
    simp only [qJ.l0] at H
    by_cases c6 : x17_1 < (l1.length : Int)
    ·rw [if_pos c6] at H
     have c6b0 : decide (x17_1 < (l1.length : Int)) = true := decide_eq_true c6
     clear c6
     by_cases c7 : 0 ≤ x17_1
     ·rw [if_pos c7] at H
      have c7b0 : decide (0 ≤ x17_1) = true := decide_eq_true c7
      clear c7
      by_cases c8 : x17_1 < (l1.length : Int)
      ·rw [if_pos c8] at H
       have c8b0 : decide (x17_1 < (l1.length : Int)) = true := decide_eq_true c8
       clear c8
       have HC9 := qb.mk H
       clear H
       have p150 : 0 ≤ (x17_1 : Int) := of_decide_eq_true (by first | (with_reducible assumption) | assumption)
       have q150 : x17_1 < (l1.length : Int) := of_decide_eq_true (by first | (with_reducible assumption) | assumption)
       obtain ⟨ad150, e150, hx150_0, hx150_1, hx150_2, hx150_3⟩ := qqb HR1.out x17_1 p150 q150
       cases e150
       replace hx150_0 := (HB.out.cell (World.block_lt_of_cell? w _ hx150_0)).trans hx150_0
       replace hx150_1 := (HB.out.cell (World.block_lt_of_cell? w _ hx150_1)).trans hx150_1
       replace hx150_2 := (HB.out.cell (World.block_lt_of_cell? w _ hx150_2)).trans hx150_2
       replace hx150_3 := (HB.out.cell (World.block_lt_of_cell? w _ hx150_3)).trans hx150_3
       replace p150 := eq_true p150
       replace q150 := eq_true q150
       go_upto_region 8 with (first | ((with_reducible refine qcb (N := 8) rfl ?_); refine qpb ?hg (N := 8) ?hd (cs := #[.int .i64 0, .int .i64 0, .int .i64 0, .string (⟨#[]⟩ : ByteArray)]) (t := 43) ?hr ?_; (case hd => rfl); (case hg => rfl); (case hr => first | (go_simp; done) | (go_simp; rfl)); intro gb151 hg w10 hbox hb; have BK151 := qb.mk (hbox); have GW151 := qb.mk ((by rw [hg]; exact (qG (by repeat (first | (with_reducible first | exact HB.out | apply qf | apply qg | apply qe) | exact HB.out))) : w.heap.size ≤ gb151)); have GE151 := qb.mk ((by rw [hg]; exact (qG (by repeat (first | (with_reducible first | exact HB.out | apply qf | apply qg | apply qe) | exact HB.out))) : w.heap.size ≤ gb151)); replace HO_6 := qb.mk (Kd.qX (Kd.qqc (by (with_reducible repeat (first | apply Kd.qo | apply Kd.qn | apply Kd.qm)); exact HO_6.out) gb151 (Nat.le_of_eq hg.symm)) hb); replace HB := qb.mk (qE (by repeat (first | (with_reducible first | exact HB.out | apply qf | apply qg | apply qe) | exact HB.out)) hb); clear hb hbox hg; have hcz11_0 : w10.cell? ⟨gb151, 0, none⟩ = some (.int .i64 0) := (ql BK151.out 0).trans rfl; have hcz11_1 : w10.cell? ⟨gb151, 1, none⟩ = some (.int .i64 0) := (ql BK151.out 1).trans rfl; have hcz11_2 : w10.cell? ⟨gb151, 2, none⟩ = some (.int .i64 0) := (ql BK151.out 2).trans rfl; have hcz11_3 : w10.cell? ⟨gb151, 3, none⟩ = some (.string (⟨#[]⟩ : ByteArray)) := (ql BK151.out 3).trans rfl; have hfz11_0 := qp BK151.out 0; have hfz11_1 := qp BK151.out 1; have hfz11_2 := qp BK151.out 2; have hfz11_3 := qp BK151.out 3; obtain ⟨Ao12, co12, eo12⟩ := Kd.qfb HO_6.out; subst eo12))
       (try simp only [Act.put, List.setIfInBounds_toArray, List.set_cons_zero, List.set_cons_succ])
       go_cut [35] (fun v35 wc => ∃ (kq : Nat) (x35_8 : Bool), v35 = .bool x35_8 ∧ qb (qJ.j1 kq x6_1 (x6_1.length : Int) l1 (l1.length : Int) x17_1 x35_8 ((qc l1 x17_1).f0) ((qc l1 x17_1).f1) ((qc l1 x17_1).f2) ((qc l1 x17_1).f3) = some (r1, r2)) ∧ qb (kq ≤ k1) ∧ qb (Kd.R k43 43 wc w.heap.size (fun k_ => k_ ≠ gb151) (.slice Ao12 x6_1.length co12) x6_1) ∧ qb (wc.heap[gb151]? = some (.cells #[.int .i64 ((qc l1 x17_1).f0), .int .i64 ((qc l1 x17_1).f1), .int .i64 ((qc l1 x17_1).f2), .string ((qc l1 x17_1).f3)] 43 (0, 0))) ∧ qb (Below w.heap.size w wc))
       case first =>
        have H := HC9.out
        clear HC9
        by_cases c13 : (x6_1.length : Int) > 0
        ·rw [if_pos c13] at H
         have c13b0 : decide (0 < (x6_1.length : Int)) = true := decide_eq_true c13
         have c13b1 : decide (0 < x6_1.length) = true := decide_eq_true (by omega)
         clear c13
         (first | rw [c13b0] | (simp only [i64_w, i32_w]; rw [c13b0]) | skip)
         obtain ⟨ji14, hji14⟩ : ∃ j_ : Int, (wrap64 ((x6_1.length : Int) - 1)) = j_ := ⟨_, rfl⟩
         replace H : (if 0 ≤ (ji14) then (if (ji14) < (x6_1.length : Int) then (qJ.j1 k1 x6_1 (x6_1.length : Int) l1 (l1.length : Int) x17_1 (((qc x6_1 (ji14)).f0) == ((qc l1 x17_1).f0)) ((qc l1 x17_1).f0) ((qc l1 x17_1).f1) ((qc l1 x17_1).f2) ((qc l1 x17_1).f3)) else (none)) else (none)) = some (r1, r2) := by first | (rw [hji14] at H; exact H) | (simp only [hji14] at H ⊢; exact H)
         have hji14w : (IntKind.i64.wrap ((x6_1.length : Int) - 1)) = ji14 := (i64_w _).trans hji14
         by_cases c15 : 0 ≤ (ji14)
         ·rw [if_pos c15] at H
          have c15b0 : decide (0 ≤ (ji14)) = true := decide_eq_true c15
          clear c15
          by_cases c16 : (ji14) < (x6_1.length : Int)
          ·rw [if_pos c16] at H
           have c16b0 : decide ((ji14) < (x6_1.length : Int)) = true := decide_eq_true c16
           clear c16
           have H' := qb.mk H
           clear H
           try go_wp2
           have n0_ : qb (Kd.R k43 43 ((((w10.setCell ⟨gb151, 0, none⟩ (.int .i64 ((qc l1 x17_1).f0))).setCell ⟨gb151, 1, none⟩ (.int .i64 ((qc l1 x17_1).f1))).setCell ⟨gb151, 2, none⟩ (.int .i64 ((qc l1 x17_1).f2))).setCell ⟨gb151, 3, none⟩ (.string ((qc l1 x17_1).f3))) w.heap.size (fun k_ => k_ ≠ gb151) (.slice Ao12 x6_1.length co12) x6_1) := ⟨by (with_reducible repeat (first | apply Kd.qo | apply Kd.qn | apply Kd.qm)); exact Kd.qF (Kd.R_far (p := ⟨gb151, 3, none⟩) (Kd.R_far (p := ⟨gb151, 2, none⟩) (Kd.R_far (p := ⟨gb151, 1, none⟩) (Kd.R_far (p := ⟨gb151, 0, none⟩) (Kd.qF HO_6.out (fun k_ hk => (⟨hk, hk.2⟩ : _ ∧ k_ ≠ gb151))) (fun _ hk => hk.2) (.int .i64 ((qc l1 x17_1).f0))) (fun _ hk => hk.2) (.int .i64 ((qc l1 x17_1).f1))) (fun _ hk => hk.2) (.int .i64 ((qc l1 x17_1).f2))) (fun _ hk => hk.2) (.string ((qc l1 x17_1).f3))) (fun _ hk => hk.1.2)⟩
           have n1_ : qb (((((w10.setCell ⟨gb151, 0, none⟩ (.int .i64 ((qc l1 x17_1).f0))).setCell ⟨gb151, 1, none⟩ (.int .i64 ((qc l1 x17_1).f1))).setCell ⟨gb151, 2, none⟩ (.int .i64 ((qc l1 x17_1).f2))).setCell ⟨gb151, 3, none⟩ (.string ((qc l1 x17_1).f3))).heap[gb151]? = some (.cells #[.int .i64 ((qc l1 x17_1).f0), .int .i64 ((qc l1 x17_1).f1), .int .i64 ((qc l1 x17_1).f2), .string ((qc l1 x17_1).f3)] 43 (0, 0))) := ⟨by (with_reducible repeat (first | refine qB ?_ _ | refine qx ?_ | refine qC ?_ _)); refine qL (cs := #[.int .i64 ((qc l1 x17_1).f0), .int .i64 ((qc l1 x17_1).f1), .int .i64 ((qc l1 x17_1).f2), .string (⟨#[]⟩ : ByteArray)]) ?_ 3 _ rfl; (with_reducible repeat (first | refine qB ?_ _ | refine qx ?_ | refine qC ?_ _)); refine qL (cs := #[.int .i64 ((qc l1 x17_1).f0), .int .i64 ((qc l1 x17_1).f1), .int .i64 0, .string (⟨#[]⟩ : ByteArray)]) ?_ 2 _ rfl; (with_reducible repeat (first | refine qB ?_ _ | refine qx ?_ | refine qC ?_ _)); refine qL (cs := #[.int .i64 ((qc l1 x17_1).f0), .int .i64 0, .int .i64 0, .string (⟨#[]⟩ : ByteArray)]) ?_ 1 _ rfl; (with_reducible repeat (first | refine qB ?_ _ | refine qx ?_ | refine qC ?_ _)); refine qL (cs := #[.int .i64 0, .int .i64 0, .int .i64 0, .string (⟨#[]⟩ : ByteArray)]) ?_ 0 _ rfl; (with_reducible repeat (first | refine qB ?_ _ | refine qx ?_ | refine qC ?_ _)); exact BK151.out⟩
           have n2_ : qb (Below w.heap.size w ((((w10.setCell ⟨gb151, 0, none⟩ (.int .i64 ((qc l1 x17_1).f0))).setCell ⟨gb151, 1, none⟩ (.int .i64 ((qc l1 x17_1).f1))).setCell ⟨gb151, 2, none⟩ (.int .i64 ((qc l1 x17_1).f2))).setCell ⟨gb151, 3, none⟩ (.string ((qc l1 x17_1).f3)))) := ⟨by repeat (first | (with_reducible first | exact HB.out | apply qf | apply qg | apply qe | refine qk ?_ GE151.out) | exact HB.out)⟩
           (try clear HO_6)
           (try clear BK151)
           (try clear HB)
           generalize ((((w10.setCell ⟨gb151, 0, none⟩ (.int .i64 ((qc l1 x17_1).f0))).setCell ⟨gb151, 1, none⟩ (.int .i64 ((qc l1 x17_1).f1))).setCell ⟨gb151, 2, none⟩ (.int .i64 ((qc l1 x17_1).f2))).setCell ⟨gb151, 3, none⟩ (.string ((qc l1 x17_1).f3))) = w17 at n0_ n1_ n2_ ⊢
           have HO_6 := n0_
           have BK151 := n1_
           have HB := n2_
           clear n0_ n1_ n2_
           replace HO_6 := qb.mk (Kd.qm HO_6.out)
           replace BK151 := qb.mk (qx BK151.out)
           replace HB := qb.mk (qe HB.out)
           have p152 : 0 ≤ ((ji14) : Int) := of_decide_eq_true (by first | (with_reducible assumption) | assumption)
           have q152 : (ji14) < (x6_1.length : Int) := of_decide_eq_true (by first | (with_reducible assumption) | assumption)
           obtain ⟨ad152, e152, hx152_0, hx152_1, hx152_2, hx152_3⟩ := qqb (Kd.qD HO_6.out).2.2 (ji14) p152 q152
           cases e152
           replace p152 := eq_true p152
           replace q152 := eq_true q152
           refine qAb (n := 13) (S := fun w' => w'.cell? ⟨gb151, 0, none⟩ = some (.int .i64 ((qc l1 x17_1).f0)) ∧ w'.cell? ⟨gb151, 1, none⟩ = some (.int .i64 ((qc l1 x17_1).f1)) ∧ w'.cell? ⟨gb151, 2, none⟩ = some (.int .i64 ((qc l1 x17_1).f2)) ∧ w'.cell? ⟨gb151, 3, none⟩ = some (.string ((qc l1 x17_1).f3)) ∧ w'.cell? (ad152.add (((ji14)).toNat * 4)) = some (.int .i64 ((qc x6_1 (ji14)).f0)) ∧ w'.cell? ⟨(ad152.add (((ji14)).toNat * 4)).block, (ad152.add (((ji14)).toNat * 4)).off + 1, none⟩ = some (.int .i64 ((qc x6_1 (ji14)).f1)) ∧ w'.cell? ⟨(ad152.add (((ji14)).toNat * 4)).block, (ad152.add (((ji14)).toNat * 4)).off + 2, none⟩ = some (.int .i64 ((qc x6_1 (ji14)).f2)) ∧ w'.cell? ⟨(ad152.add (((ji14)).toNat * 4)).block, (ad152.add (((ji14)).toNat * 4)).off + 3, none⟩ = some (.string ((qc x6_1 (ji14)).f3))) (ds := []) (Extra.b [0, 13]) (by kernel_rfl) rfl rfl ⟨(ql BK151.out 0).trans rfl, (ql BK151.out 1).trans rfl, (ql BK151.out 2).trans rfl, (ql BK151.out 3).trans rfl, hx152_0, hx152_1, hx152_2, hx152_3⟩ (fun hHeld => ?_); refine qyb qJ.tab8 qJ.bits8 (fun HT_ HW_ => ?_)
           generalize w17.drew = w18 at HO_6 BK151 HB hx152_0 hx152_1 hx152_2 hx152_3 hHeld ⊢
           refine pure_ (i := 0) (N := some 23) (v := ?_) (a' := ?_) (Extra.b [1, 12]) rfl rfl (qw HT_.out (by kernel_rfl)) (fun _ _ _ h => h) (Or.inl ⟨by rfl, ?_⟩) ?_ ?_
           rotate_left
           ·intro w'
            go_simp
            with_reducible rfl
           rotate_left
           ·simp only [Act.put, List.setIfInBounds_toArray, List.set_cons_zero, List.set_cons_succ, i64_w, i32_w]
            rfl
           refine pure_ (i := 1) (N := some 24) (v := ?_) (a' := ?_) (Extra.b [2, 11]) rfl rfl (qw HT_.out (by kernel_rfl)) (fun _ _ _ h => h) (Or.inl ⟨by rfl, ?_⟩) ?_ ?_
           rotate_left
           ·intro w'
            go_simp
            with_reducible rfl
           rotate_left
           ·simp only [Act.put, List.setIfInBounds_toArray, List.set_cons_zero, List.set_cons_succ, i64_w, i32_w]
            rfl
           refine pure_ (i := 2) (N := some 25) (v := ?_) (a' := ?_) (Extra.b [3, 10]) rfl rfl (qw HT_.out (by kernel_rfl)) (fun _ _ _ h => h) (Or.inl ⟨by rfl, ?_⟩) ?_ ?_
           rotate_left
           ·intro w'
            go_simp
            with_reducible rfl
           rotate_left
           ·simp only [Act.put, List.setIfInBounds_toArray, List.set_cons_zero, List.set_cons_succ, i64_w, i32_w]
            rfl
           refine pure_ (i := 3) (N := some 26) (v := ?_) (a' := ?_) (Extra.b [4, 9]) rfl rfl (qw HT_.out (by kernel_rfl)) (fun _ _ _ h => h) (Or.inl ⟨by rfl, ?_⟩) ?_ ?_
           rotate_left
           ·intro w'
            go_simp
            with_reducible rfl
           rotate_left
           ·simp only [Act.put, List.setIfInBounds_toArray, List.set_cons_zero, List.set_cons_succ, i64_w, i32_w]
            rfl
           refine pure_ (i := 4) (N := some 27) (v := ?_) (a' := ?_) (Extra.b [5, 8]) rfl rfl (qw HT_.out (by kernel_rfl)) (fun _ _ _ h => h) (Or.inl ⟨by rfl, ?_⟩) ?_ ?_
           rotate_left
           ·intro w'
            go_simp
            with_reducible rfl
           rotate_left
           ·simp only [Act.put, List.setIfInBounds_toArray, List.set_cons_zero, List.set_cons_succ, i64_w, i32_w]
            rfl
           refine pure_ (i := 5) (N := some 28) (v := ?_) (a' := ?_) (Extra.b [6, 7]) rfl rfl (qw HT_.out (by kernel_rfl)) (fun _ _ _ h => h) (Or.inl ⟨by rfl, ?_⟩) ?_ ?_
           rotate_left
           ·intro w'
            go_simp
            with_reducible rfl
           rotate_left
           ·simp only [Act.put, List.setIfInBounds_toArray, List.set_cons_zero, List.set_cons_succ, i64_w, i32_w]
            rfl
           refine pure_ (i := 6) (N := some 29) (v := ?_) (a' := ?_) (Extra.b [7, 6]) rfl rfl (qw HT_.out (by kernel_rfl)) (fun _ _ _ h => h) (Or.inl ⟨by rfl, ?_⟩) ?_ ?_
           rotate_left
           ·intro w'
            go_simp
            with_reducible rfl
           rotate_left
           ·simp only [Act.put, List.setIfInBounds_toArray, List.set_cons_zero, List.set_cons_succ, i64_w, i32_w]
            rfl
           refine pure_ (i := 7) (N := some 30) (v := ?_) (a' := ?_) (Extra.b [8, 5]) rfl rfl (qw HT_.out (by kernel_rfl)) (fun _ _ _ h => h) (Or.inl ⟨by rfl, ?_⟩) ?_ ?_
           rotate_left
           ·intro w'
            go_simp
            with_reducible rfl
           rotate_left
           ·simp only [Act.put, List.setIfInBounds_toArray, List.set_cons_zero, List.set_cons_succ, i64_w, i32_w]
            rfl
           refine pure_ (i := 9) (N := some 32) (v := ?_) (a' := ?_) (Extra.b [8, 1, 1, 3]) rfl rfl (qw HT_.out (by kernel_rfl)) (fun _ _ _ h => h) (Or.inl ⟨by rfl, ?_⟩) ?_ ?_
           rotate_left
           ·intro w'
            go_simp
            with_reducible rfl
           rotate_left
           ·simp only [Act.put, List.setIfInBounds_toArray, List.set_cons_zero, List.set_cons_succ, i64_w, i32_w]
            rfl
           refine take_ (i := 8) (N := some 31) (v := ?_) (a' := ?_) (Extra.b [10, 3]) rfl rfl (qnb HT_.out HW_.out (by kernel_rfl)) (fun _ _ _ h => h) (Or.inl ⟨by rfl, ?_⟩) hHeld ?_ ?_
           rotate_left
           ·rintro w' ⟨s0, s1, s2, s3, s4, s5, s6, s7⟩
            go_simp
            with_reducible rfl
           rotate_left
           ·simp only [Act.put, List.setIfInBounds_toArray, List.set_cons_zero, List.set_cons_succ, i64_w, i32_w]
            rfl
           refine take_ (i := 10) (N := some 33) (v := ?_) (a' := ?_) (Extra.b [11, 2]) rfl rfl (qnb HT_.out HW_.out (by kernel_rfl)) (fun _ _ _ h => h) (Or.inl ⟨by rfl, ?_⟩) hHeld ?_ ?_
           rotate_left
           ·rintro w' ⟨s0, s1, s2, s3, s4, s5, s6, s7⟩
            go_simp
            with_reducible rfl
           rotate_left
           ·simp only [Act.put, List.setIfInBounds_toArray, List.set_cons_zero, List.set_cons_succ, i64_w, i32_w]
            rfl
           refine pure_ (i := 11) (N := some 34) (v := ?_) (a' := ?_) (Extra.b [12, 1]) rfl rfl (qw HT_.out (by kernel_rfl)) (fun _ _ _ h => h) (Or.inl ⟨by rfl, ?_⟩) ?_ ?_
           rotate_left
           ·intro w'
            go_simp
            with_reducible rfl
           rotate_left
           ·simp only [Act.put, List.setIfInBounds_toArray, List.set_cons_zero, List.set_cons_succ, i64_w, i32_w]
            rfl
           refine pure_ (i := 12) (N := some 35) (v := ?_) (a' := ?_) (Extra.b [13]) rfl rfl (qw HT_.out (by kernel_rfl)) (fun _ _ _ h => h) (Or.inl ⟨by rfl, ?_⟩) ?_ ?_
           rotate_left
           ·intro w'
            go_simp
            with_reducible rfl
           rotate_left
           ·simp only [Act.put, List.setIfInBounds_toArray, List.set_cons_zero, List.set_cons_succ, i64_w, i32_w]
            rfl
           refine done_ (qzb HT_.out (by kernel_rfl)) ?_
           try go_wp2
           go_meet
           case rel => exact ⟨_, ((((qc x6_1 (ji14)).f0) == ((qc l1 x17_1).f0))), (by first | rfl | (simp; done) | (simp only [← hji14] <;> (first | rfl | simp)) | (simp [*]; done)), (by first | exact H' | (simp only [hji14]; exact H')), ⟨by have := HK1.out; first | omega | exact Nat.le_refl _⟩, ⟨by (with_reducible repeat (first | apply Kd.qo | apply Kd.qn | apply Kd.qm)); exact HO_6.out⟩, ⟨by (with_reducible repeat (first | refine qB ?_ _ | refine qx ?_ | refine qC ?_ _)); exact BK151.out⟩, ⟨by repeat (first | (with_reducible first | exact HB.out | apply qf | apply qg | apply qe | refine qk ?_ GE151.out) | exact HB.out)⟩⟩
          ·rw [if_neg c16] at H
           exact absurd H (by simp)
         ·rw [if_neg c15] at H
          exact absurd H (by simp)
        ·rw [if_neg c13] at H
         have c13b0 : decide (0 < (x6_1.length : Int)) = false := decide_eq_false c13
         have c13b1 : decide (0 < x6_1.length) = false := decide_eq_false (by omega)
         clear c13
         (first | rw [c13b0] | (simp only [i64_w, i32_w]; rw [c13b0]) | skip)
         have H' := qb.mk H
         clear H
         try go_wp2
         have n0_ : qb (Kd.R k43 43 ((((w10.setCell ⟨gb151, 0, none⟩ (.int .i64 ((qc l1 x17_1).f0))).setCell ⟨gb151, 1, none⟩ (.int .i64 ((qc l1 x17_1).f1))).setCell ⟨gb151, 2, none⟩ (.int .i64 ((qc l1 x17_1).f2))).setCell ⟨gb151, 3, none⟩ (.string ((qc l1 x17_1).f3))) w.heap.size (fun k_ => k_ ≠ gb151) (.slice Ao12 x6_1.length co12) x6_1) := ⟨by (with_reducible repeat (first | apply Kd.qo | apply Kd.qn | apply Kd.qm)); exact Kd.qF (Kd.R_far (p := ⟨gb151, 3, none⟩) (Kd.R_far (p := ⟨gb151, 2, none⟩) (Kd.R_far (p := ⟨gb151, 1, none⟩) (Kd.R_far (p := ⟨gb151, 0, none⟩) (Kd.qF HO_6.out (fun k_ hk => (⟨hk, hk.2⟩ : _ ∧ k_ ≠ gb151))) (fun _ hk => hk.2) (.int .i64 ((qc l1 x17_1).f0))) (fun _ hk => hk.2) (.int .i64 ((qc l1 x17_1).f1))) (fun _ hk => hk.2) (.int .i64 ((qc l1 x17_1).f2))) (fun _ hk => hk.2) (.string ((qc l1 x17_1).f3))) (fun _ hk => hk.1.2)⟩
         have n1_ : qb (((((w10.setCell ⟨gb151, 0, none⟩ (.int .i64 ((qc l1 x17_1).f0))).setCell ⟨gb151, 1, none⟩ (.int .i64 ((qc l1 x17_1).f1))).setCell ⟨gb151, 2, none⟩ (.int .i64 ((qc l1 x17_1).f2))).setCell ⟨gb151, 3, none⟩ (.string ((qc l1 x17_1).f3))).heap[gb151]? = some (.cells #[.int .i64 ((qc l1 x17_1).f0), .int .i64 ((qc l1 x17_1).f1), .int .i64 ((qc l1 x17_1).f2), .string ((qc l1 x17_1).f3)] 43 (0, 0))) := ⟨by (with_reducible repeat (first | refine qB ?_ _ | refine qx ?_ | refine qC ?_ _)); refine qL (cs := #[.int .i64 ((qc l1 x17_1).f0), .int .i64 ((qc l1 x17_1).f1), .int .i64 ((qc l1 x17_1).f2), .string (⟨#[]⟩ : ByteArray)]) ?_ 3 _ rfl; (with_reducible repeat (first | refine qB ?_ _ | refine qx ?_ | refine qC ?_ _)); refine qL (cs := #[.int .i64 ((qc l1 x17_1).f0), .int .i64 ((qc l1 x17_1).f1), .int .i64 0, .string (⟨#[]⟩ : ByteArray)]) ?_ 2 _ rfl; (with_reducible repeat (first | refine qB ?_ _ | refine qx ?_ | refine qC ?_ _)); refine qL (cs := #[.int .i64 ((qc l1 x17_1).f0), .int .i64 0, .int .i64 0, .string (⟨#[]⟩ : ByteArray)]) ?_ 1 _ rfl; (with_reducible repeat (first | refine qB ?_ _ | refine qx ?_ | refine qC ?_ _)); refine qL (cs := #[.int .i64 0, .int .i64 0, .int .i64 0, .string (⟨#[]⟩ : ByteArray)]) ?_ 0 _ rfl; (with_reducible repeat (first | refine qB ?_ _ | refine qx ?_ | refine qC ?_ _)); exact BK151.out⟩
         have n2_ : qb (Below w.heap.size w ((((w10.setCell ⟨gb151, 0, none⟩ (.int .i64 ((qc l1 x17_1).f0))).setCell ⟨gb151, 1, none⟩ (.int .i64 ((qc l1 x17_1).f1))).setCell ⟨gb151, 2, none⟩ (.int .i64 ((qc l1 x17_1).f2))).setCell ⟨gb151, 3, none⟩ (.string ((qc l1 x17_1).f3)))) := ⟨by repeat (first | (with_reducible first | exact HB.out | apply qf | apply qg | apply qe | refine qk ?_ GE151.out) | exact HB.out)⟩
         (try clear HO_6)
         (try clear BK151)
         (try clear HB)
         generalize ((((w10.setCell ⟨gb151, 0, none⟩ (.int .i64 ((qc l1 x17_1).f0))).setCell ⟨gb151, 1, none⟩ (.int .i64 ((qc l1 x17_1).f1))).setCell ⟨gb151, 2, none⟩ (.int .i64 ((qc l1 x17_1).f2))).setCell ⟨gb151, 3, none⟩ (.string ((qc l1 x17_1).f3))) = w19 at n0_ n1_ n2_ ⊢
         have HO_6 := n0_
         have BK151 := n1_
         have HB := n2_
         clear n0_ n1_ n2_
         replace HO_6 := qb.mk (Kd.qm HO_6.out)
         replace BK151 := qb.mk (qx BK151.out)
         replace HB := qb.mk (qe HB.out)
         refine qAb (n := 13) (S := fun w' => True) (ds := []) (Extra.b [0, 13]) (by kernel_rfl) rfl rfl trivial (fun hHeld => ?_); refine qyb qJ.tab8 qJ.bits8 (fun HT_ HW_ => ?_)
         generalize w19.drew = w20 at HO_6 BK151 HB hHeld ⊢
         refine pure_ (i := 0) (N := some 23) (v := ?_) (a' := ?_) (Extra.b [1, 12]) rfl rfl (qw HT_.out (by kernel_rfl)) (fun _ _ _ h => h) (Or.inl ⟨by rfl, ?_⟩) ?_ ?_
         rotate_left
         ·intro w'
          go_simp
          with_reducible rfl
         rotate_left
         ·simp only [Act.put, List.setIfInBounds_toArray, List.set_cons_zero, List.set_cons_succ, i64_w, i32_w]
          rfl
         refine pure_ (i := 1) (N := some 24) (v := ?_) (a' := ?_) (Extra.b [2, 11]) rfl rfl (qw HT_.out (by kernel_rfl)) (fun _ _ _ h => h) (Or.inl ⟨by rfl, ?_⟩) ?_ ?_
         rotate_left
         ·intro w'
          go_simp
          with_reducible rfl
         rotate_left
         ·simp only [Act.put, List.setIfInBounds_toArray, List.set_cons_zero, List.set_cons_succ, i64_w, i32_w]
          rfl
         refine pure_ (i := 2) (N := some 25) (v := ?_) (a' := ?_) (Extra.b [3, 10]) rfl rfl (qw HT_.out (by kernel_rfl)) (fun _ _ _ h => h) (Or.inl ⟨by rfl, ?_⟩) ?_ ?_
         rotate_left
         ·intro w'
          go_simp
          with_reducible rfl
         rotate_left
         ·simp only [Act.put, List.setIfInBounds_toArray, List.set_cons_zero, List.set_cons_succ, i64_w, i32_w]
          rfl
         refine pure_ (i := 3) (N := some 26) (v := undef) (a' := ?_) (Extra.b [4, 9]) rfl rfl (qw HT_.out (by kernel_rfl)) (fun _ _ _ h => h) (Or.inr ⟨by rfl, rfl⟩) ?_ ?_
         rotate_left
         ·simp only [Act.put, List.setIfInBounds_toArray, List.set_cons_zero, List.set_cons_succ, i64_w, i32_w]
          rfl
         refine pure_ (i := 4) (N := some 27) (v := undef) (a' := ?_) (Extra.b [5, 8]) rfl rfl (qw HT_.out (by kernel_rfl)) (fun _ _ _ h => h) (Or.inr ⟨by rfl, rfl⟩) ?_ ?_
         rotate_left
         ·simp only [Act.put, List.setIfInBounds_toArray, List.set_cons_zero, List.set_cons_succ, i64_w, i32_w]
          rfl
         refine pure_ (i := 5) (N := some 28) (v := undef) (a' := ?_) (Extra.b [6, 7]) rfl rfl (qw HT_.out (by kernel_rfl)) (fun _ _ _ h => h) (Or.inr ⟨by rfl, rfl⟩) ?_ ?_
         rotate_left
         ·simp only [Act.put, List.setIfInBounds_toArray, List.set_cons_zero, List.set_cons_succ, i64_w, i32_w]
          rfl
         refine pure_ (i := 6) (N := some 29) (v := undef) (a' := ?_) (Extra.b [7, 6]) rfl rfl (qw HT_.out (by kernel_rfl)) (fun _ _ _ h => h) (Or.inr ⟨by rfl, rfl⟩) ?_ ?_
         rotate_left
         ·simp only [Act.put, List.setIfInBounds_toArray, List.set_cons_zero, List.set_cons_succ, i64_w, i32_w]
          rfl
         refine pure_ (i := 7) (N := some 30) (v := undef) (a' := ?_) (Extra.b [8, 5]) rfl rfl (qw HT_.out (by kernel_rfl)) (fun _ _ _ h => h) (Or.inr ⟨by rfl, rfl⟩) ?_ ?_
         rotate_left
         ·simp only [Act.put, List.setIfInBounds_toArray, List.set_cons_zero, List.set_cons_succ, i64_w, i32_w]
          rfl
         refine pure_ (i := 8) (N := some 31) (v := undef) (a' := ?_) (Extra.b [9, 4]) rfl rfl (qw HT_.out (by kernel_rfl)) (fun _ _ _ h => h) (Or.inr ⟨by rfl, rfl⟩) ?_ ?_
         rotate_left
         ·simp only [Act.put, List.setIfInBounds_toArray, List.set_cons_zero, List.set_cons_succ, i64_w, i32_w]
          rfl
         refine pure_ (i := 9) (N := some 32) (v := undef) (a' := ?_) (Extra.b [10, 3]) rfl rfl (qw HT_.out (by kernel_rfl)) (fun _ _ _ h => h) (Or.inr ⟨by rfl, rfl⟩) ?_ ?_
         rotate_left
         ·simp only [Act.put, List.setIfInBounds_toArray, List.set_cons_zero, List.set_cons_succ, i64_w, i32_w]
          rfl
         refine pure_ (i := 10) (N := some 33) (v := undef) (a' := ?_) (Extra.b [11, 2]) rfl rfl (qw HT_.out (by kernel_rfl)) (fun _ _ _ h => h) (Or.inr ⟨by rfl, rfl⟩) ?_ ?_
         rotate_left
         ·simp only [Act.put, List.setIfInBounds_toArray, List.set_cons_zero, List.set_cons_succ, i64_w, i32_w]
          rfl
         refine pure_ (i := 11) (N := some 34) (v := undef) (a' := ?_) (Extra.b [12, 1]) rfl rfl (qw HT_.out (by kernel_rfl)) (fun _ _ _ h => h) (Or.inr ⟨by rfl, rfl⟩) ?_ ?_
         rotate_left
         ·simp only [Act.put, List.setIfInBounds_toArray, List.set_cons_zero, List.set_cons_succ, i64_w, i32_w]
          rfl
         refine pure_ (i := 12) (N := some 35) (v := ?_) (a' := ?_) (Extra.b [13]) rfl rfl (qw HT_.out (by kernel_rfl)) (fun _ _ _ h => h) (Or.inl ⟨by rfl, ?_⟩) ?_ ?_
         rotate_left
         ·intro w'
          go_simp
          with_reducible rfl
         rotate_left
         ·simp only [Act.put, List.setIfInBounds_toArray, List.set_cons_zero, List.set_cons_succ, i64_w, i32_w]
          rfl
         refine done_ (qzb HT_.out (by kernel_rfl)) ?_
         try go_wp2
         go_meet
         case rel => exact ⟨_, (false), (by first | rfl | (simp; done) | (simp [*]; done)), H', ⟨by have := HK1.out; first | omega | exact Nat.le_refl _⟩, ⟨by (with_reducible repeat (first | apply Kd.qo | apply Kd.qn | apply Kd.qm)); exact HO_6.out⟩, ⟨by (with_reducible repeat (first | refine qB ?_ _ | refine qx ?_ | refine qC ?_ _)); exact BK151.out⟩, ⟨by repeat (first | (with_reducible first | exact HB.out | apply qf | apply qg | apply qe | refine qk ?_ GE151.out) | exact HB.out)⟩⟩
       case rest =>
        clear HC9
        try clear c1
        try clear p1
        try clear q1
        try clear hx1
        try clear p2
        try clear c3
        try clear c4
        try clear c6
        try clear c6b0
        try clear p6
        try clear c7
        try clear c7b0
        try clear c8
        try clear c8b0
        try clear c13
        try clear c13b0
        try clear c13b1
        try clear c15
        try clear c15b0
        try clear p15
        try clear q15
        try clear hx15
        try clear c16
        try clear c16b0
        try clear hcz11_0
        try clear hcz11_1
        try clear hcz11_2
        try clear hcz11_3
        try clear hfz11_0
        try clear hfz11_1
        try clear hfz11_2
        try clear hfz11_3
        try clear hx150_0
        try clear hx150_1
        try clear hx150_2
        try clear hx150_3
        try clear hx152_0
        try clear hx152_1
        try clear hx152_2
        try clear hx152_3
        try clear p150
        try clear p152
        try clear p2
        try clear q150
        try clear q152
        obtain ⟨kq, x35_8, rfl, HA, HJ8, HO_6, BK151, HB⟩ := hcut
        cases kq with
        | zero => exact absurd HA.out (by simp [qJ.j1])
        | succ kj8 =>
         have H := HA.out
         clear HA
         simp only [qJ.j1] at H
         by_cases c21 : x35_8 = true
         ·subst c21
          rw [if_pos rfl] at H
          obtain ⟨ji22, hji22⟩ : ∃ j_ : Int, (wrap64 ((x6_1.length : Int) - 1)) = j_ := ⟨_, rfl⟩
          replace H : (if 0 ≤ (ji22) then (if (ji22) < (x6_1.length : Int) then (if ((qc l1 x17_1).f0) = 2 then (if ((qc x6_1 (ji22)).f3).size + ((qc l1 x17_1).f3).size ≤ 9223372036854775807 then (qJ.l0 kj8 (x6_1.set ((ji22) : Int).toNat (⟨(qc x6_1 (ji22)).f0, (qc x6_1 (ji22)).f1, (qc x6_1 (ji22)).f2, ((qc x6_1 (ji22)).f3) ++ ((qc l1 x17_1).f3)⟩ : S43)) l1 (l1.length : Int) (wrap64 (x17_1 + 1))) else (none)) else (if (wrap64 (((qc x6_1 (ji22)).f1) + ((qc x6_1 (ji22)).f2))) = ((qc l1 x17_1).f1) then (qJ.l0 kj8 (x6_1.set ((ji22) : Int).toNat (⟨(qc x6_1 (ji22)).f0, (qc x6_1 (ji22)).f1, wrap64 (((qc x6_1 (ji22)).f2) + ((qc l1 x17_1).f2)), (qc x6_1 (ji22)).f3⟩ : S43)) l1 (l1.length : Int) (wrap64 (x17_1 + 1))) else (if x6_1.length < 3518437208883 then (qJ.l0 kj8 (x6_1 ++ [(⟨((qc l1 x17_1).f0), ((qc l1 x17_1).f1), ((qc l1 x17_1).f2), ((qc l1 x17_1).f3)⟩ : S43)]) l1 (l1.length : Int) (wrap64 (x17_1 + 1))) else (none)))) else (none)) else (none)) = some (r1, r2) := by first | (rw [hji22] at H; exact H) | (simp only [hji22] at H ⊢; exact H)
          have hji22w : (IntKind.i64.wrap ((x6_1.length : Int) - 1)) = ji22 := (i64_w _).trans hji22
          by_cases c23 : 0 ≤ (ji22)
          ·rw [if_pos c23] at H
           have c23b0 : decide (0 ≤ (ji22)) = true := decide_eq_true c23
           clear c23
           by_cases c24 : (ji22) < (x6_1.length : Int)
           ·rw [if_pos c24] at H
            have c24b0 : decide ((ji22) < (x6_1.length : Int)) = true := decide_eq_true c24
            clear c24
            by_cases c26 : ((qc l1 x17_1).f0) = 2
            ·rw [if_pos c26] at H
             have c26b0 : (((qc l1 x17_1).f0) == 2) = true := beq_iff_eq.mpr c26
             have c26b1 : (((qc l1 x17_1).f0) != 2) = false := bne_eq_false_iff_eq.mpr c26
             clear c26
             by_cases c28 : ((qc x6_1 (ji22)).f3).size + ((qc l1 x17_1).f3).size ≤ 9223372036854775807
             ·rw [if_pos c28] at H
              have c28b0 := eq_true c28
              have c28b1 : decide (((qc x6_1 (ji22)).f3).size + ((qc l1 x17_1).f3).size ≤ 9223372036854775807) = true := decide_eq_true c28
              try have c28b2 : (9223372036854775807 < ((qc x6_1 (ji22)).f3).size + ((qc l1 x17_1).f3).size) = False := eq_false (Nat.not_lt.2 c28)
              obtain ⟨y153, hy153⟩ : ∃ y_ : List (S43), y_ = (x6_1.set ((ji22) : Int).toNat (⟨(qc x6_1 (ji22)).f0, (qc x6_1 (ji22)).f1, (qc x6_1 (ji22)).f2, ((qc x6_1 (ji22)).f3) ++ ((qc l1 x17_1).f3)⟩ : S43)) := ⟨_, rfl⟩
              replace H : (qJ.l0 kj8 y153 l1 (l1.length : Int) (wrap64 (x17_1 + 1))) = some (r1, r2) := by first | (rw [hy153]; with_reducible exact H) | (have H2_ := (Option.bind_some _ _).symm.trans H; rw [hy153]; with_reducible exact H2_) | (have H2_ := (Option.bind_some _ _).symm.trans H; with_reducible exact H2_) | with_reducible exact H | (rw [hy153]; exact H) | exact H
              have Ny153 := qb.mk hy153
              clear hy153
              have H' := qb.mk H
              clear H
              have p25 : 0 ≤ ((ji22) : Int) := of_decide_eq_true (by first | (with_reducible assumption) | assumption)
              have q25 : ((ji22) : Int) < ((x6_1.length : Int) : Int) := of_decide_eq_true (by first | (with_reducible assumption) | assumption)
              obtain ⟨go25, co25, eo25, gb25, gl25, cl25, HG25⟩ := Kd.R_form HO_6.out (by omega)
              (first | cases eo25 | (injection eo25 with ea_ en_ ec_; (first | subst ea_ | (injection ea_ with ea_; subst ea_)); subst ec_; clear en_))
              have GB25 := qb.mk gb25
              have GG25 := qb.mk HG25
              clear gb25 gl25 HG25
              obtain ⟨ce25, hcl25, hM25, hcc25, hfr25⟩ := Kd.qkb HO_6.out z43 ((ji22) : Int) p25 q25
              obtain rfl := qmb hM25
              have hx25_0 : wc.cell? ⟨go25, ((ji22) : Int).toNat * 4, none⟩ = some (.int .i64 ((qc x6_1 (ji22)).f0)) := hcc25 0 _ rfl
              have hx25_1 : wc.cell? ⟨go25, ((ji22) : Int).toNat * 4 + 1, none⟩ = some (.int .i64 ((qc x6_1 (ji22)).f1)) := hcc25 1 _ rfl
              have hx25_2 : wc.cell? ⟨go25, ((ji22) : Int).toNat * 4 + 2, none⟩ = some (.int .i64 ((qc x6_1 (ji22)).f2)) := hcc25 2 _ rfl
              have hx25_3 : wc.cell? ⟨go25, ((ji22) : Int).toNat * 4 + 3, none⟩ = some (.string ((qc x6_1 (ji22)).f3)) := hcc25 3 _ rfl
              have hf25_0 : wc.frozen? ⟨go25, ((ji22) : Int).toNat * 4, none⟩ = false := hfr25 0
              have hf25_1 : wc.frozen? ⟨go25, ((ji22) : Int).toNat * 4 + 1, none⟩ = false := hfr25 1
              have hf25_2 : wc.frozen? ⟨go25, ((ji22) : Int).toNat * 4 + 2, none⟩ = false := hfr25 2
              have hf25_3 : wc.frozen? ⟨go25, ((ji22) : Int).toNat * 4 + 3, none⟩ = false := hfr25 3
              clear hcl25 hcc25 hfr25 hM25
              replace p25 := eq_true p25
              replace q25 := eq_true q25
              have hcz30_0 : wc.cell? ⟨gb151, 0, none⟩ = some (.int .i64 ((qc l1 x17_1).f0)) := (ql BK151.out 0).trans rfl
              have hcz30_1 : wc.cell? ⟨gb151, 1, none⟩ = some (.int .i64 ((qc l1 x17_1).f1)) := (ql BK151.out 1).trans rfl
              have hcz30_2 : wc.cell? ⟨gb151, 2, none⟩ = some (.int .i64 ((qc l1 x17_1).f2)) := (ql BK151.out 2).trans rfl
              have hcz30_3 : wc.cell? ⟨gb151, 3, none⟩ = some (.string ((qc l1 x17_1).f3)) := (ql BK151.out 3).trans rfl
              have hfz30_0 := qp BK151.out 0
              have hfz30_1 := qp BK151.out 1
              have hfz30_2 := qp BK151.out 2
              have hfz30_3 := qp BK151.out 3
              try go_wp2
              replace HO_6 := qb.mk (Kd.qm HO_6.out)
              replace BK151 := qb.mk (qx BK151.out)
              replace HB := qb.mk (qe HB.out)
              have p27 : 0 ≤ ((ji22) : Int) := of_decide_eq_true (by first | (with_reducible assumption) | assumption)
              have q27 : ((ji22) : Int) < ((x6_1.length : Int) : Int) := of_decide_eq_true (by first | (with_reducible assumption) | assumption)
              obtain ⟨ce27, hcl27, hM27, hcc27, hfr27⟩ := Kd.qkb HO_6.out z43 ((ji22) : Int) p27 q27
              obtain rfl := qmb hM27
              have hx27_0 : World.cell? _ ⟨go25, ((ji22) : Int).toNat * 4, none⟩ = some (.int .i64 ((qc x6_1 (ji22)).f0)) := hcc27 0 _ rfl
              have hx27_1 : World.cell? _ ⟨go25, ((ji22) : Int).toNat * 4 + 1, none⟩ = some (.int .i64 ((qc x6_1 (ji22)).f1)) := hcc27 1 _ rfl
              have hx27_2 : World.cell? _ ⟨go25, ((ji22) : Int).toNat * 4 + 2, none⟩ = some (.int .i64 ((qc x6_1 (ji22)).f2)) := hcc27 2 _ rfl
              have hx27_3 : World.cell? _ ⟨go25, ((ji22) : Int).toNat * 4 + 3, none⟩ = some (.string ((qc x6_1 (ji22)).f3)) := hcc27 3 _ rfl
              have hf27_0 : World.frozen? _ ⟨go25, ((ji22) : Int).toNat * 4, none⟩ = false := hfr27 0
              have hf27_1 : World.frozen? _ ⟨go25, ((ji22) : Int).toNat * 4 + 1, none⟩ = false := hfr27 1
              have hf27_2 : World.frozen? _ ⟨go25, ((ji22) : Int).toNat * 4 + 2, none⟩ = false := hfr27 2
              have hf27_3 : World.frozen? _ ⟨go25, ((ji22) : Int).toNat * 4 + 3, none⟩ = false := hfr27 3
              clear hcl27 hcc27 hfr27 hM27
              replace p27 := eq_true p27
              replace q27 := eq_true q27
              have p29 : 0 ≤ ((ji22) : Int) := of_decide_eq_true (by first | (with_reducible assumption) | assumption)
              have q29 : ((ji22) : Int) < ((x6_1.length : Int) : Int) := of_decide_eq_true (by first | (with_reducible assumption) | assumption)
              obtain ⟨ce29, hcl29, hM29, hcc29, hfr29⟩ := Kd.qkb HO_6.out z43 ((ji22) : Int) p29 q29
              obtain rfl := qmb hM29
              have hx29_0 : World.cell? _ ⟨go25, ((ji22) : Int).toNat * 4, none⟩ = some (.int .i64 ((qc x6_1 (ji22)).f0)) := hcc29 0 _ rfl
              have hx29_1 : World.cell? _ ⟨go25, ((ji22) : Int).toNat * 4 + 1, none⟩ = some (.int .i64 ((qc x6_1 (ji22)).f1)) := hcc29 1 _ rfl
              have hx29_2 : World.cell? _ ⟨go25, ((ji22) : Int).toNat * 4 + 2, none⟩ = some (.int .i64 ((qc x6_1 (ji22)).f2)) := hcc29 2 _ rfl
              have hx29_3 : World.cell? _ ⟨go25, ((ji22) : Int).toNat * 4 + 3, none⟩ = some (.string ((qc x6_1 (ji22)).f3)) := hcc29 3 _ rfl
              have hf29_0 : World.frozen? _ ⟨go25, ((ji22) : Int).toNat * 4, none⟩ = false := hfr29 0
              have hf29_1 : World.frozen? _ ⟨go25, ((ji22) : Int).toNat * 4 + 1, none⟩ = false := hfr29 1
              have hf29_2 : World.frozen? _ ⟨go25, ((ji22) : Int).toNat * 4 + 2, none⟩ = false := hfr29 2
              have hf29_3 : World.frozen? _ ⟨go25, ((ji22) : Int).toNat * 4 + 3, none⟩ = false := hfr29 3
              clear hcl29 hcc29 hfr29 hM29
              replace p29 := eq_true p29
              replace q29 := eq_true q29
              obtain ⟨ce32, hcl32, hM32, hcc32, hfr32⟩ := Kd.qkb HO_6.out z43 ((ji22) : Int) (of_decide_eq_true (by first | (with_reducible assumption) | assumption)) (by have h_ : ((ji22) : Int) < ((x6_1.length : Int) : Int) := of_decide_eq_true (by first | (with_reducible assumption) | assumption); first | exact h_ | (have e_ := (Kd.qD HO_6.out).1; omega) | simpa using h_)
              obtain rfl := qmb hM32
              have HP32 := (Kd.R_seg HO_6.out ((ji22) : Int) (of_decide_eq_true (by first | (with_reducible assumption) | assumption)) (by have h_ : ((ji22) : Int) < ((x6_1.length : Int) : Int) := of_decide_eq_true (by first | (with_reducible assumption) | assumption); first | exact h_ | (have e_ := (Kd.qD HO_6.out).1; omega) | simpa using h_) (seg := [.string (((qc x6_1 (ji22)).f3) ++ ((qc l1 x17_1).f3))]) (j := 3) hcl32 hcc32 (show 4 ≤ 4 from by decide) (x' := (⟨(qc x6_1 (ji22)).f0, (qc x6_1 (ji22)).f1, (qc x6_1 (ji22)).f2, ((qc x6_1 (ji22)).f3) ++ ((qc l1 x17_1).f3)⟩ : S43)) (qvb _ _ _ (⟨(qc x6_1 (ji22)).f0, (qc x6_1 (ji22)).f1, (qc x6_1 (ji22)).f2, ((qc x6_1 (ji22)).f3) ++ ((qc l1 x17_1).f3)⟩ : S43) ) (fun _ hk => hk)).1
              rw [← Ny153.out] at HP32
              have HQ32 := qb.mk HP32
              clear hcl32 hcc32 hfr32 hM32 HP32
              refine qAb (n := 10) (S := fun w' => w'.cell? ⟨gb151, 0, none⟩ = some (.int .i64 ((qc l1 x17_1).f0)) ∧ w'.cell? ⟨gb151, 1, none⟩ = some (.int .i64 ((qc l1 x17_1).f1)) ∧ w'.cell? ⟨gb151, 2, none⟩ = some (.int .i64 ((qc l1 x17_1).f2)) ∧ w'.cell? ⟨gb151, 3, none⟩ = some (.string ((qc l1 x17_1).f3)) ∧ w'.cell? ⟨go25, ((ji22) : Int).toNat * 4, none⟩ = some (.int .i64 ((qc x6_1 (ji22)).f0)) ∧ w'.cell? ⟨go25, ((ji22) : Int).toNat * 4 + 1, none⟩ = some (.int .i64 ((qc x6_1 (ji22)).f1)) ∧ w'.cell? ⟨go25, ((ji22) : Int).toNat * 4 + 2, none⟩ = some (.int .i64 ((qc x6_1 (ji22)).f2)) ∧ w'.cell? ⟨go25, ((ji22) : Int).toNat * 4 + 3, none⟩ = some (.string ((qc x6_1 (ji22)).f3))) (ds := [9]) (Extra.b [0, 10]) (by kernel_rfl) rfl rfl ⟨(ql BK151.out 0).trans rfl, (ql BK151.out 1).trans rfl, (ql BK151.out 2).trans rfl, (ql BK151.out 3).trans rfl, hx27_0, hx27_1, hx27_2, hx27_3⟩ (fun hHeld => ?_); refine qyb qJ.tab11 qJ.bits11 (fun HT_ HW_ => ?_)
              generalize wc.drew = w31 at HO_6 BK151 HB HQ32 hf27_0 hf27_1 hf27_2 hf27_3 hf29_0 hf29_1 hf29_2 hf29_3 hx27_0 hx27_1 hx27_2 hx27_3 hx29_0 hx29_1 hx29_2 hx29_3 hHeld ⊢
              refine pure_ (i := 0) (N := some 43) (v := ?_) (a' := ?_) (Extra.b [1, 9]) rfl rfl (qw HT_.out (by kernel_rfl)) (fun _ _ _ h => h) (Or.inl ⟨by rfl, ?_⟩) ?_ ?_
              rotate_left
              ·intro w'
               go_simp
               with_reducible rfl
              rotate_left
              ·simp only [Act.put, List.setIfInBounds_toArray, List.set_cons_zero, List.set_cons_succ, i64_w, i32_w]
               rfl
              refine pure_ (i := 1) (N := some 44) (v := ?_) (a' := ?_) (Extra.b [2, 8]) rfl rfl (qw HT_.out (by kernel_rfl)) (fun _ _ _ h => h) (Or.inl ⟨by rfl, ?_⟩) ?_ ?_
              rotate_left
              ·intro w'
               go_simp
               with_reducible rfl
              rotate_left
              ·simp only [Act.put, List.setIfInBounds_toArray, List.set_cons_zero, List.set_cons_succ, i64_w, i32_w]
               rfl
              refine pure_ (i := 2) (N := some 45) (v := ?_) (a' := ?_) (Extra.b [3, 7]) rfl rfl (qw HT_.out (by kernel_rfl)) (fun _ _ _ h => h) (Or.inl ⟨by rfl, ?_⟩) ?_ ?_
              rotate_left
              ·intro w'
               go_simp
               with_reducible rfl
              rotate_left
              ·simp only [Act.put, List.setIfInBounds_toArray, List.set_cons_zero, List.set_cons_succ, i64_w, i32_w]
               rfl
              refine pure_ (i := 4) (N := some 47) (v := ?_) (a' := ?_) (Extra.b [3, 1, 1, 5]) rfl rfl (qw HT_.out (by kernel_rfl)) (fun _ _ _ h => h) (Or.inl ⟨by rfl, ?_⟩) ?_ ?_
              rotate_left
              ·intro w'
               go_simp
               with_reducible rfl
              rotate_left
              ·simp only [Act.put, List.setIfInBounds_toArray, List.set_cons_zero, List.set_cons_succ, i64_w, i32_w]
               rfl
              refine take_ (i := 3) (N := some 46) (v := ?_) (a' := ?_) (Extra.b [5, 5]) rfl rfl (qnb HT_.out HW_.out (by kernel_rfl)) (fun _ _ _ h => h) (Or.inl ⟨by rfl, ?_⟩) hHeld ?_ ?_
              rotate_left
              ·rintro w' ⟨s0, s1, s2, s3, s4, s5, s6, s7⟩
               go_simp
               with_reducible rfl
              rotate_left
              ·simp only [Act.put, List.setIfInBounds_toArray, List.set_cons_zero, List.set_cons_succ, i64_w, i32_w]
               rfl
              refine take_ (i := 5) (N := some 48) (v := ?_) (a' := ?_) (Extra.b [6, 4]) rfl rfl (qnb HT_.out HW_.out (by kernel_rfl)) (fun _ _ _ h => h) (Or.inl ⟨by rfl, ?_⟩) hHeld ?_ ?_
              rotate_left
              ·rintro w' ⟨s0, s1, s2, s3, s4, s5, s6, s7⟩
               go_simp
               with_reducible rfl
              rotate_left
              ·simp only [Act.put, List.setIfInBounds_toArray, List.set_cons_zero, List.set_cons_succ, i64_w, i32_w]
               rfl
              refine pure_ (i := 6) (N := some 49) (v := ?_) (a' := ?_) (Extra.b [7, 3]) rfl rfl (qw HT_.out (by kernel_rfl)) (fun _ _ _ h => h) (Or.inl ⟨by rfl, ?_⟩) ?_ ?_
              rotate_left
              ·intro w'
               go_simp
               with_reducible rfl
              rotate_left
              ·simp only [Act.put, List.setIfInBounds_toArray, List.set_cons_zero, List.set_cons_succ, i64_w, i32_w]
               rfl
              refine pure_ (i := 7) (N := some 50) (v := ?_) (a' := ?_) (Extra.b [8, 2]) rfl rfl (qw HT_.out (by kernel_rfl)) (fun _ _ _ h => h) (Or.inl ⟨by rfl, ?_⟩) ?_ ?_
              rotate_left
              ·intro w'
               go_simp
               with_reducible rfl
              rotate_left
              ·simp only [Act.put, List.setIfInBounds_toArray, List.set_cons_zero, List.set_cons_succ, i64_w, i32_w]
               rfl
              refine pure_ (i := 8) (N := some 51) (v := ?_) (a' := ?_) (Extra.b [9, 1]) rfl rfl (qw HT_.out (by kernel_rfl)) (fun _ _ _ h => h) (Or.inl ⟨by rfl, ?_⟩) ?_ ?_
              rotate_left
              ·intro w'
               go_simp
               with_reducible rfl
              rotate_left
              ·simp only [Act.put, List.setIfInBounds_toArray, List.set_cons_zero, List.set_cons_succ, i64_w, i32_w]
               rfl
              refine last_ (i := 9) (N := none) (Extra.b [10]) rfl rfl (qEb HT_.out (by kernel_rfl)) (by decide) (fun K hK => ?_)
              refine skip_ (w1 := ?_) (by rfl) rfl ?_ ?_
              rotate_left
              ·go_simp
               rfl
              refine hK.out _ _ ?_
              clear hK K
              refine done_ (qzb HT_.out (by kernel_rfl)) ?_
              try go_wp2
              go_roundg kj8
              case measure => have := HK1.out; have := HJ8.out; omega
              case rel => exact ⟨(y153), (wrap64 (x17_1 + 1)), (by first | rfl | (simp; done) | (simp [*]; done)), H', ⟨by have := HK1.out; have := HJ8.out; omega⟩, ⟨by (with_reducible repeat (first | apply Kd.qo | apply Kd.qn | apply Kd.qm)); exact Kd.qF HQ32.out (fun _ hk => trivial)⟩, ⟨by repeat (first | (with_reducible first | exact HB.out | apply qf | apply qg | apply qe | refine qk ?_ GB25.out | refine qk ?_ GE151.out) | exact HB.out)⟩⟩
             ·rw [if_neg c28] at H
              exact absurd H (by simp)
            ·rw [if_neg c26] at H
             have c26b0 : (((qc l1 x17_1).f0) == 2) = false := beq_eq_false_iff_ne.mpr c26
             have c26b1 : (((qc l1 x17_1).f0) != 2) = true := bne_iff_ne.mpr c26
             by_cases c35 : (wrap64 (((qc x6_1 (ji22)).f1) + ((qc x6_1 (ji22)).f2))) = ((qc l1 x17_1).f1)
             ·rw [if_pos c35] at H
              have c35b0 : ((wrap64 (((qc x6_1 (ji22)).f1) + ((qc x6_1 (ji22)).f2))) == ((qc l1 x17_1).f1)) = true := beq_iff_eq.mpr c35
              have c35b1 : ((wrap64 (((qc x6_1 (ji22)).f1) + ((qc x6_1 (ji22)).f2))) != ((qc l1 x17_1).f1)) = false := bne_eq_false_iff_eq.mpr c35
              clear c35
              obtain ⟨y154, hy154⟩ : ∃ y_ : List (S43), y_ = (x6_1.set ((ji22) : Int).toNat (⟨(qc x6_1 (ji22)).f0, (qc x6_1 (ji22)).f1, wrap64 (((qc x6_1 (ji22)).f2) + ((qc l1 x17_1).f2)), (qc x6_1 (ji22)).f3⟩ : S43)) := ⟨_, rfl⟩
              replace H : (qJ.l0 kj8 y154 l1 (l1.length : Int) (wrap64 (x17_1 + 1))) = some (r1, r2) := by first | (rw [hy154]; with_reducible exact H) | (have H2_ := (Option.bind_some _ _).symm.trans H; rw [hy154]; with_reducible exact H2_) | (have H2_ := (Option.bind_some _ _).symm.trans H; with_reducible exact H2_) | with_reducible exact H | (rw [hy154]; exact H) | exact H
              have Ny154 := qb.mk hy154
              clear hy154
              have H' := qb.mk H
              clear H
              have p25 : 0 ≤ ((ji22) : Int) := of_decide_eq_true (by first | (with_reducible assumption) | assumption)
              have q25 : ((ji22) : Int) < ((x6_1.length : Int) : Int) := of_decide_eq_true (by first | (with_reducible assumption) | assumption)
              obtain ⟨go25, co25, eo25, gb25, gl25, cl25, HG25⟩ := Kd.R_form HO_6.out (by omega)
              (first | cases eo25 | (injection eo25 with ea_ en_ ec_; (first | subst ea_ | (injection ea_ with ea_; subst ea_)); subst ec_; clear en_))
              have GB25 := qb.mk gb25
              have GG25 := qb.mk HG25
              clear gb25 gl25 HG25
              obtain ⟨ce25, hcl25, hM25, hcc25, hfr25⟩ := Kd.qkb HO_6.out z43 ((ji22) : Int) p25 q25
              obtain rfl := qmb hM25
              have hx25_0 : wc.cell? ⟨go25, ((ji22) : Int).toNat * 4, none⟩ = some (.int .i64 ((qc x6_1 (ji22)).f0)) := hcc25 0 _ rfl
              have hx25_1 : wc.cell? ⟨go25, ((ji22) : Int).toNat * 4 + 1, none⟩ = some (.int .i64 ((qc x6_1 (ji22)).f1)) := hcc25 1 _ rfl
              have hx25_2 : wc.cell? ⟨go25, ((ji22) : Int).toNat * 4 + 2, none⟩ = some (.int .i64 ((qc x6_1 (ji22)).f2)) := hcc25 2 _ rfl
              have hx25_3 : wc.cell? ⟨go25, ((ji22) : Int).toNat * 4 + 3, none⟩ = some (.string ((qc x6_1 (ji22)).f3)) := hcc25 3 _ rfl
              have hf25_0 : wc.frozen? ⟨go25, ((ji22) : Int).toNat * 4, none⟩ = false := hfr25 0
              have hf25_1 : wc.frozen? ⟨go25, ((ji22) : Int).toNat * 4 + 1, none⟩ = false := hfr25 1
              have hf25_2 : wc.frozen? ⟨go25, ((ji22) : Int).toNat * 4 + 2, none⟩ = false := hfr25 2
              have hf25_3 : wc.frozen? ⟨go25, ((ji22) : Int).toNat * 4 + 3, none⟩ = false := hfr25 3
              clear hcl25 hcc25 hfr25 hM25
              replace p25 := eq_true p25
              replace q25 := eq_true q25
              have hcz38_0 : wc.cell? ⟨gb151, 0, none⟩ = some (.int .i64 ((qc l1 x17_1).f0)) := (ql BK151.out 0).trans rfl
              have hcz38_1 : wc.cell? ⟨gb151, 1, none⟩ = some (.int .i64 ((qc l1 x17_1).f1)) := (ql BK151.out 1).trans rfl
              have hcz38_2 : wc.cell? ⟨gb151, 2, none⟩ = some (.int .i64 ((qc l1 x17_1).f2)) := (ql BK151.out 2).trans rfl
              have hcz38_3 : wc.cell? ⟨gb151, 3, none⟩ = some (.string ((qc l1 x17_1).f3)) := (ql BK151.out 3).trans rfl
              have hfz38_0 := qp BK151.out 0
              have hfz38_1 := qp BK151.out 1
              have hfz38_2 := qp BK151.out 2
              have hfz38_3 := qp BK151.out 3
              try go_wp2
              replace HO_6 := qb.mk (Kd.qm HO_6.out)
              replace BK151 := qb.mk (qx BK151.out)
              replace HB := qb.mk (qe HB.out)
              have p33 : 0 ≤ ((ji22) : Int) := of_decide_eq_true (by first | (with_reducible assumption) | assumption)
              have q33 : ((ji22) : Int) < ((x6_1.length : Int) : Int) := of_decide_eq_true (by first | (with_reducible assumption) | assumption)
              obtain ⟨ce33, hcl33, hM33, hcc33, hfr33⟩ := Kd.qkb HO_6.out z43 ((ji22) : Int) p33 q33
              obtain rfl := qmb hM33
              have hx33_0 : World.cell? _ ⟨go25, ((ji22) : Int).toNat * 4, none⟩ = some (.int .i64 ((qc x6_1 (ji22)).f0)) := hcc33 0 _ rfl
              have hx33_1 : World.cell? _ ⟨go25, ((ji22) : Int).toNat * 4 + 1, none⟩ = some (.int .i64 ((qc x6_1 (ji22)).f1)) := hcc33 1 _ rfl
              have hx33_2 : World.cell? _ ⟨go25, ((ji22) : Int).toNat * 4 + 2, none⟩ = some (.int .i64 ((qc x6_1 (ji22)).f2)) := hcc33 2 _ rfl
              have hx33_3 : World.cell? _ ⟨go25, ((ji22) : Int).toNat * 4 + 3, none⟩ = some (.string ((qc x6_1 (ji22)).f3)) := hcc33 3 _ rfl
              have hf33_0 : World.frozen? _ ⟨go25, ((ji22) : Int).toNat * 4, none⟩ = false := hfr33 0
              have hf33_1 : World.frozen? _ ⟨go25, ((ji22) : Int).toNat * 4 + 1, none⟩ = false := hfr33 1
              have hf33_2 : World.frozen? _ ⟨go25, ((ji22) : Int).toNat * 4 + 2, none⟩ = false := hfr33 2
              have hf33_3 : World.frozen? _ ⟨go25, ((ji22) : Int).toNat * 4 + 3, none⟩ = false := hfr33 3
              clear hcl33 hcc33 hfr33 hM33
              replace p33 := eq_true p33
              replace q33 := eq_true q33
              have p34 : 0 ≤ ((ji22) : Int) := of_decide_eq_true (by first | (with_reducible assumption) | assumption)
              have q34 : ((ji22) : Int) < ((x6_1.length : Int) : Int) := of_decide_eq_true (by first | (with_reducible assumption) | assumption)
              obtain ⟨ce34, hcl34, hM34, hcc34, hfr34⟩ := Kd.qkb HO_6.out z43 ((ji22) : Int) p34 q34
              obtain rfl := qmb hM34
              have hx34_0 : World.cell? _ ⟨go25, ((ji22) : Int).toNat * 4, none⟩ = some (.int .i64 ((qc x6_1 (ji22)).f0)) := hcc34 0 _ rfl
              have hx34_1 : World.cell? _ ⟨go25, ((ji22) : Int).toNat * 4 + 1, none⟩ = some (.int .i64 ((qc x6_1 (ji22)).f1)) := hcc34 1 _ rfl
              have hx34_2 : World.cell? _ ⟨go25, ((ji22) : Int).toNat * 4 + 2, none⟩ = some (.int .i64 ((qc x6_1 (ji22)).f2)) := hcc34 2 _ rfl
              have hx34_3 : World.cell? _ ⟨go25, ((ji22) : Int).toNat * 4 + 3, none⟩ = some (.string ((qc x6_1 (ji22)).f3)) := hcc34 3 _ rfl
              have hf34_0 : World.frozen? _ ⟨go25, ((ji22) : Int).toNat * 4, none⟩ = false := hfr34 0
              have hf34_1 : World.frozen? _ ⟨go25, ((ji22) : Int).toNat * 4 + 1, none⟩ = false := hfr34 1
              have hf34_2 : World.frozen? _ ⟨go25, ((ji22) : Int).toNat * 4 + 2, none⟩ = false := hfr34 2
              have hf34_3 : World.frozen? _ ⟨go25, ((ji22) : Int).toNat * 4 + 3, none⟩ = false := hfr34 3
              clear hcl34 hcc34 hfr34 hM34
              replace p34 := eq_true p34
              replace q34 := eq_true q34
              refine qAb (n := 12) (S := fun w' => w'.cell? ⟨gb151, 0, none⟩ = some (.int .i64 ((qc l1 x17_1).f0)) ∧ w'.cell? ⟨gb151, 1, none⟩ = some (.int .i64 ((qc l1 x17_1).f1)) ∧ w'.cell? ⟨gb151, 2, none⟩ = some (.int .i64 ((qc l1 x17_1).f2)) ∧ w'.cell? ⟨gb151, 3, none⟩ = some (.string ((qc l1 x17_1).f3)) ∧ w'.cell? ⟨go25, ((ji22) : Int).toNat * 4, none⟩ = some (.int .i64 ((qc x6_1 (ji22)).f0)) ∧ w'.cell? ⟨go25, ((ji22) : Int).toNat * 4 + 1, none⟩ = some (.int .i64 ((qc x6_1 (ji22)).f1)) ∧ w'.cell? ⟨go25, ((ji22) : Int).toNat * 4 + 2, none⟩ = some (.int .i64 ((qc x6_1 (ji22)).f2)) ∧ w'.cell? ⟨go25, ((ji22) : Int).toNat * 4 + 3, none⟩ = some (.string ((qc x6_1 (ji22)).f3))) (ds := []) (Extra.b [0, 12]) (by kernel_rfl) rfl rfl ⟨(ql BK151.out 0).trans rfl, (ql BK151.out 1).trans rfl, (ql BK151.out 2).trans rfl, (ql BK151.out 3).trans rfl, hx33_0, hx33_1, hx33_2, hx33_3⟩ (fun hHeld => ?_); refine qyb qJ.tab12 qJ.bits12 (fun HT_ HW_ => ?_)
              generalize wc.drew = w39 at HO_6 BK151 HB hf33_0 hf33_1 hf33_2 hf33_3 hf34_0 hf34_1 hf34_2 hf34_3 hx33_0 hx33_1 hx33_2 hx33_3 hx34_0 hx34_1 hx34_2 hx34_3 hHeld ⊢
              refine pure_ (i := 0) (N := some 52) (v := ?_) (a' := ?_) (Extra.b [1, 11]) rfl rfl (qw HT_.out (by kernel_rfl)) (fun _ _ _ h => h) (Or.inl ⟨by rfl, ?_⟩) ?_ ?_
              rotate_left
              ·intro w'
               go_simp
               with_reducible rfl
              rotate_left
              ·simp only [Act.put, List.setIfInBounds_toArray, List.set_cons_zero, List.set_cons_succ, i64_w, i32_w]
               rfl
              refine pure_ (i := 1) (N := some 53) (v := ?_) (a' := ?_) (Extra.b [2, 10]) rfl rfl (qw HT_.out (by kernel_rfl)) (fun _ _ _ h => h) (Or.inl ⟨by rfl, ?_⟩) ?_ ?_
              rotate_left
              ·intro w'
               go_simp
               with_reducible rfl
              rotate_left
              ·simp only [Act.put, List.setIfInBounds_toArray, List.set_cons_zero, List.set_cons_succ, i64_w, i32_w]
               rfl
              refine pure_ (i := 2) (N := some 54) (v := ?_) (a' := ?_) (Extra.b [3, 9]) rfl rfl (qw HT_.out (by kernel_rfl)) (fun _ _ _ h => h) (Or.inl ⟨by rfl, ?_⟩) ?_ ?_
              rotate_left
              ·intro w'
               go_simp
               with_reducible rfl
              rotate_left
              ·simp only [Act.put, List.setIfInBounds_toArray, List.set_cons_zero, List.set_cons_succ, i64_w, i32_w]
               rfl
              refine pure_ (i := 4) (N := some 56) (v := ?_) (a' := ?_) (Extra.b [3, 1, 1, 7]) rfl rfl (qw HT_.out (by kernel_rfl)) (fun _ _ _ h => h) (Or.inl ⟨by rfl, ?_⟩) ?_ ?_
              rotate_left
              ·intro w'
               go_simp
               with_reducible rfl
              rotate_left
              ·simp only [Act.put, List.setIfInBounds_toArray, List.set_cons_zero, List.set_cons_succ, i64_w, i32_w]
               rfl
              refine pure_ (i := 5) (N := some 57) (v := ?_) (a' := ?_) (Extra.b [3, 1, 2, 6]) rfl rfl (qw HT_.out (by kernel_rfl)) (fun _ _ _ h => h) (Or.inl ⟨by rfl, ?_⟩) ?_ ?_
              rotate_left
              ·intro w'
               go_simp
               with_reducible rfl
              rotate_left
              ·simp only [Act.put, List.setIfInBounds_toArray, List.set_cons_zero, List.set_cons_succ, i64_w, i32_w]
               rfl
              refine pure_ (i := 6) (N := some 58) (v := ?_) (a' := ?_) (Extra.b [3, 1, 3, 5]) rfl rfl (qw HT_.out (by kernel_rfl)) (fun _ _ _ h => h) (Or.inl ⟨by rfl, ?_⟩) ?_ ?_
              rotate_left
              ·intro w'
               go_simp
               with_reducible rfl
              rotate_left
              ·simp only [Act.put, List.setIfInBounds_toArray, List.set_cons_zero, List.set_cons_succ, i64_w, i32_w]
               rfl
              refine pure_ (i := 9) (N := some 61) (v := ?_) (a' := ?_) (Extra.b [3, 1, 3, 2, 1, 2]) rfl rfl (qw HT_.out (by kernel_rfl)) (fun _ _ _ h => h) (Or.inl ⟨by rfl, ?_⟩) ?_ ?_
              rotate_left
              ·intro w'
               go_simp
               with_reducible rfl
              rotate_left
              ·simp only [Act.put, List.setIfInBounds_toArray, List.set_cons_zero, List.set_cons_succ, i64_w, i32_w]
               rfl
              refine take_ (i := 3) (N := some 55) (v := ?_) (a' := ?_) (Extra.b [7, 2, 1, 2]) rfl rfl (qnb HT_.out HW_.out (by kernel_rfl)) (fun _ _ _ h => h) (Or.inl ⟨by rfl, ?_⟩) hHeld ?_ ?_
              rotate_left
              ·rintro w' ⟨s0, s1, s2, s3, s4, s5, s6, s7⟩
               go_simp
               with_reducible rfl
              rotate_left
              ·simp only [Act.put, List.setIfInBounds_toArray, List.set_cons_zero, List.set_cons_succ, i64_w, i32_w]
               rfl
              refine take_ (i := 7) (N := some 59) (v := ?_) (a' := ?_) (Extra.b [8, 1, 1, 2]) rfl rfl (qnb HT_.out HW_.out (by kernel_rfl)) (fun _ _ _ h => h) (Or.inl ⟨by rfl, ?_⟩) hHeld ?_ ?_
              rotate_left
              ·rintro w' ⟨s0, s1, s2, s3, s4, s5, s6, s7⟩
               go_simp
               with_reducible rfl
              rotate_left
              ·simp only [Act.put, List.setIfInBounds_toArray, List.set_cons_zero, List.set_cons_succ, i64_w, i32_w]
               rfl
              refine pure_ (i := 8) (N := some 60) (v := ?_) (a' := ?_) (Extra.b [10, 2]) rfl rfl (qw HT_.out (by kernel_rfl)) (fun _ _ _ h => h) (Or.inl ⟨by rfl, ?_⟩) ?_ ?_
              rotate_left
              ·intro w'
               go_simp
               with_reducible rfl
              rotate_left
              ·simp only [Act.put, List.setIfInBounds_toArray, List.set_cons_zero, List.set_cons_succ, i64_w, i32_w]
               rfl
              refine take_ (i := 10) (N := some 62) (v := ?_) (a' := ?_) (Extra.b [11, 1]) rfl rfl (qnb HT_.out HW_.out (by kernel_rfl)) (fun _ _ _ h => h) (Or.inl ⟨by rfl, ?_⟩) hHeld ?_ ?_
              rotate_left
              ·rintro w' ⟨s0, s1, s2, s3, s4, s5, s6, s7⟩
               go_simp
               with_reducible rfl
              rotate_left
              ·simp only [Act.put, List.setIfInBounds_toArray, List.set_cons_zero, List.set_cons_succ, i64_w, i32_w]
               rfl
              refine pure_ (i := 11) (N := some 63) (v := ?_) (a' := ?_) (Extra.b [12]) rfl rfl (qw HT_.out (by kernel_rfl)) (fun _ _ _ h => h) (Or.inl ⟨by rfl, ?_⟩) ?_ ?_
              rotate_left
              ·intro w'
               go_simp
               with_reducible rfl
              rotate_left
              ·simp only [Act.put, List.setIfInBounds_toArray, List.set_cons_zero, List.set_cons_succ, i64_w, i32_w]
               rfl
              refine done_ (qzb HT_.out (by kernel_rfl)) ?_
              try go_wp2
              replace HO_6 := qb.mk (Kd.qm HO_6.out)
              replace BK151 := qb.mk (qx BK151.out)
              replace HB := qb.mk (qe HB.out)
              have p36 : 0 ≤ ((ji22) : Int) := of_decide_eq_true (by first | (with_reducible assumption) | assumption)
              have q36 : ((ji22) : Int) < ((x6_1.length : Int) : Int) := of_decide_eq_true (by first | (with_reducible assumption) | assumption)
              obtain ⟨ce36, hcl36, hM36, hcc36, hfr36⟩ := Kd.qkb HO_6.out z43 ((ji22) : Int) p36 q36
              obtain rfl := qmb hM36
              have hx36_0 : World.cell? _ ⟨go25, ((ji22) : Int).toNat * 4, none⟩ = some (.int .i64 ((qc x6_1 (ji22)).f0)) := hcc36 0 _ rfl
              have hx36_1 : World.cell? _ ⟨go25, ((ji22) : Int).toNat * 4 + 1, none⟩ = some (.int .i64 ((qc x6_1 (ji22)).f1)) := hcc36 1 _ rfl
              have hx36_2 : World.cell? _ ⟨go25, ((ji22) : Int).toNat * 4 + 2, none⟩ = some (.int .i64 ((qc x6_1 (ji22)).f2)) := hcc36 2 _ rfl
              have hx36_3 : World.cell? _ ⟨go25, ((ji22) : Int).toNat * 4 + 3, none⟩ = some (.string ((qc x6_1 (ji22)).f3)) := hcc36 3 _ rfl
              have hf36_0 : World.frozen? _ ⟨go25, ((ji22) : Int).toNat * 4, none⟩ = false := hfr36 0
              have hf36_1 : World.frozen? _ ⟨go25, ((ji22) : Int).toNat * 4 + 1, none⟩ = false := hfr36 1
              have hf36_2 : World.frozen? _ ⟨go25, ((ji22) : Int).toNat * 4 + 2, none⟩ = false := hfr36 2
              have hf36_3 : World.frozen? _ ⟨go25, ((ji22) : Int).toNat * 4 + 3, none⟩ = false := hfr36 3
              clear hcl36 hcc36 hfr36 hM36
              replace p36 := eq_true p36
              replace q36 := eq_true q36
              have p37 : 0 ≤ ((ji22) : Int) := of_decide_eq_true (by first | (with_reducible assumption) | assumption)
              have q37 : ((ji22) : Int) < ((x6_1.length : Int) : Int) := of_decide_eq_true (by first | (with_reducible assumption) | assumption)
              obtain ⟨ce37, hcl37, hM37, hcc37, hfr37⟩ := Kd.qkb HO_6.out z43 ((ji22) : Int) p37 q37
              obtain rfl := qmb hM37
              have hx37_0 : World.cell? _ ⟨go25, ((ji22) : Int).toNat * 4, none⟩ = some (.int .i64 ((qc x6_1 (ji22)).f0)) := hcc37 0 _ rfl
              have hx37_1 : World.cell? _ ⟨go25, ((ji22) : Int).toNat * 4 + 1, none⟩ = some (.int .i64 ((qc x6_1 (ji22)).f1)) := hcc37 1 _ rfl
              have hx37_2 : World.cell? _ ⟨go25, ((ji22) : Int).toNat * 4 + 2, none⟩ = some (.int .i64 ((qc x6_1 (ji22)).f2)) := hcc37 2 _ rfl
              have hx37_3 : World.cell? _ ⟨go25, ((ji22) : Int).toNat * 4 + 3, none⟩ = some (.string ((qc x6_1 (ji22)).f3)) := hcc37 3 _ rfl
              have hf37_0 : World.frozen? _ ⟨go25, ((ji22) : Int).toNat * 4, none⟩ = false := hfr37 0
              have hf37_1 : World.frozen? _ ⟨go25, ((ji22) : Int).toNat * 4 + 1, none⟩ = false := hfr37 1
              have hf37_2 : World.frozen? _ ⟨go25, ((ji22) : Int).toNat * 4 + 2, none⟩ = false := hfr37 2
              have hf37_3 : World.frozen? _ ⟨go25, ((ji22) : Int).toNat * 4 + 3, none⟩ = false := hfr37 3
              clear hcl37 hcc37 hfr37 hM37
              replace p37 := eq_true p37
              replace q37 := eq_true q37
              obtain ⟨ce41, hcl41, hM41, hcc41, hfr41⟩ := Kd.qkb HO_6.out z43 ((ji22) : Int) (of_decide_eq_true (by first | (with_reducible assumption) | assumption)) (by have h_ : ((ji22) : Int) < ((x6_1.length : Int) : Int) := of_decide_eq_true (by first | (with_reducible assumption) | assumption); first | exact h_ | (have e_ := (Kd.qD HO_6.out).1; omega) | simpa using h_)
              obtain rfl := qmb hM41
              have HP41 := (Kd.R_seg HO_6.out ((ji22) : Int) (of_decide_eq_true (by first | (with_reducible assumption) | assumption)) (by have h_ : ((ji22) : Int) < ((x6_1.length : Int) : Int) := of_decide_eq_true (by first | (with_reducible assumption) | assumption); first | exact h_ | (have e_ := (Kd.qD HO_6.out).1; omega) | simpa using h_) (seg := [.int .i64 (wrap64 (((qc x6_1 (ji22)).f2) + ((qc l1 x17_1).f2)))]) (j := 2) hcl41 hcc41 (show 3 ≤ 4 from by decide) (x' := (⟨(qc x6_1 (ji22)).f0, (qc x6_1 (ji22)).f1, wrap64 (((qc x6_1 (ji22)).f2) + ((qc l1 x17_1).f2)), (qc x6_1 (ji22)).f3⟩ : S43)) (qvb _ _ _ (⟨(qc x6_1 (ji22)).f0, (qc x6_1 (ji22)).f1, wrap64 (((qc x6_1 (ji22)).f2) + ((qc l1 x17_1).f2)), (qc x6_1 (ji22)).f3⟩ : S43) ) (fun _ hk => hk)).1
              rw [← Ny154.out] at HP41
              have HQ41 := qb.mk HP41
              clear hcl41 hcc41 hfr41 hM41 HP41
              refine qAb (n := 10) (S := fun w' => w'.cell? ⟨gb151, 0, none⟩ = some (.int .i64 ((qc l1 x17_1).f0)) ∧ w'.cell? ⟨gb151, 1, none⟩ = some (.int .i64 ((qc l1 x17_1).f1)) ∧ w'.cell? ⟨gb151, 2, none⟩ = some (.int .i64 ((qc l1 x17_1).f2)) ∧ w'.cell? ⟨gb151, 3, none⟩ = some (.string ((qc l1 x17_1).f3)) ∧ w'.cell? ⟨go25, ((ji22) : Int).toNat * 4, none⟩ = some (.int .i64 ((qc x6_1 (ji22)).f0)) ∧ w'.cell? ⟨go25, ((ji22) : Int).toNat * 4 + 1, none⟩ = some (.int .i64 ((qc x6_1 (ji22)).f1)) ∧ w'.cell? ⟨go25, ((ji22) : Int).toNat * 4 + 2, none⟩ = some (.int .i64 ((qc x6_1 (ji22)).f2)) ∧ w'.cell? ⟨go25, ((ji22) : Int).toNat * 4 + 3, none⟩ = some (.string ((qc x6_1 (ji22)).f3))) (ds := [9]) (Extra.b [0, 10]) (by kernel_rfl) rfl rfl ⟨(ql BK151.out 0).trans rfl, (ql BK151.out 1).trans rfl, (ql BK151.out 2).trans rfl, (ql BK151.out 3).trans rfl, hx36_0, hx36_1, hx36_2, hx36_3⟩ (fun hHeld => ?_); refine qyb qJ.tab13 qJ.bits13 (fun HT_ HW_ => ?_)
              generalize w39.drew = w40 at HO_6 BK151 HB HQ41 hf36_0 hf36_1 hf36_2 hf36_3 hf37_0 hf37_1 hf37_2 hf37_3 hx36_0 hx36_1 hx36_2 hx36_3 hx37_0 hx37_1 hx37_2 hx37_3 hHeld ⊢
              refine pure_ (i := 0) (N := some 64) (v := ?_) (a' := ?_) (Extra.b [1, 9]) rfl rfl (qw HT_.out (by kernel_rfl)) (fun _ _ _ h => h) (Or.inl ⟨by rfl, ?_⟩) ?_ ?_
              rotate_left
              ·intro w'
               go_simp
               with_reducible rfl
              rotate_left
              ·simp only [Act.put, List.setIfInBounds_toArray, List.set_cons_zero, List.set_cons_succ, i64_w, i32_w]
               rfl
              refine pure_ (i := 1) (N := some 65) (v := ?_) (a' := ?_) (Extra.b [2, 8]) rfl rfl (qw HT_.out (by kernel_rfl)) (fun _ _ _ h => h) (Or.inl ⟨by rfl, ?_⟩) ?_ ?_
              rotate_left
              ·intro w'
               go_simp
               with_reducible rfl
              rotate_left
              ·simp only [Act.put, List.setIfInBounds_toArray, List.set_cons_zero, List.set_cons_succ, i64_w, i32_w]
               rfl
              refine pure_ (i := 2) (N := some 66) (v := ?_) (a' := ?_) (Extra.b [3, 7]) rfl rfl (qw HT_.out (by kernel_rfl)) (fun _ _ _ h => h) (Or.inl ⟨by rfl, ?_⟩) ?_ ?_
              rotate_left
              ·intro w'
               go_simp
               with_reducible rfl
              rotate_left
              ·simp only [Act.put, List.setIfInBounds_toArray, List.set_cons_zero, List.set_cons_succ, i64_w, i32_w]
               rfl
              refine pure_ (i := 4) (N := some 68) (v := ?_) (a' := ?_) (Extra.b [3, 1, 1, 5]) rfl rfl (qw HT_.out (by kernel_rfl)) (fun _ _ _ h => h) (Or.inl ⟨by rfl, ?_⟩) ?_ ?_
              rotate_left
              ·intro w'
               go_simp
               with_reducible rfl
              rotate_left
              ·simp only [Act.put, List.setIfInBounds_toArray, List.set_cons_zero, List.set_cons_succ, i64_w, i32_w]
               rfl
              refine take_ (i := 3) (N := some 67) (v := ?_) (a' := ?_) (Extra.b [5, 5]) rfl rfl (qnb HT_.out HW_.out (by kernel_rfl)) (fun _ _ _ h => h) (Or.inl ⟨by rfl, ?_⟩) hHeld ?_ ?_
              rotate_left
              ·rintro w' ⟨s0, s1, s2, s3, s4, s5, s6, s7⟩
               go_simp
               with_reducible rfl
              rotate_left
              ·simp only [Act.put, List.setIfInBounds_toArray, List.set_cons_zero, List.set_cons_succ, i64_w, i32_w]
               rfl
              refine take_ (i := 5) (N := some 69) (v := ?_) (a' := ?_) (Extra.b [6, 4]) rfl rfl (qnb HT_.out HW_.out (by kernel_rfl)) (fun _ _ _ h => h) (Or.inl ⟨by rfl, ?_⟩) hHeld ?_ ?_
              rotate_left
              ·rintro w' ⟨s0, s1, s2, s3, s4, s5, s6, s7⟩
               go_simp
               with_reducible rfl
              rotate_left
              ·simp only [Act.put, List.setIfInBounds_toArray, List.set_cons_zero, List.set_cons_succ, i64_w, i32_w]
               rfl
              refine pure_ (i := 6) (N := some 70) (v := ?_) (a' := ?_) (Extra.b [7, 3]) rfl rfl (qw HT_.out (by kernel_rfl)) (fun _ _ _ h => h) (Or.inl ⟨by rfl, ?_⟩) ?_ ?_
              rotate_left
              ·intro w'
               go_simp
               with_reducible rfl
              rotate_left
              ·simp only [Act.put, List.setIfInBounds_toArray, List.set_cons_zero, List.set_cons_succ, i64_w, i32_w]
               rfl
              refine pure_ (i := 7) (N := some 71) (v := ?_) (a' := ?_) (Extra.b [8, 2]) rfl rfl (qw HT_.out (by kernel_rfl)) (fun _ _ _ h => h) (Or.inl ⟨by rfl, ?_⟩) ?_ ?_
              rotate_left
              ·intro w'
               go_simp
               with_reducible rfl
              rotate_left
              ·simp only [Act.put, List.setIfInBounds_toArray, List.set_cons_zero, List.set_cons_succ, i64_w, i32_w]
               rfl
              refine pure_ (i := 8) (N := some 72) (v := ?_) (a' := ?_) (Extra.b [9, 1]) rfl rfl (qw HT_.out (by kernel_rfl)) (fun _ _ _ h => h) (Or.inl ⟨by rfl, ?_⟩) ?_ ?_
              rotate_left
              ·intro w'
               go_simp
               with_reducible rfl
              rotate_left
              ·simp only [Act.put, List.setIfInBounds_toArray, List.set_cons_zero, List.set_cons_succ, i64_w, i32_w]
               rfl
              refine last_ (i := 9) (N := none) (Extra.b [10]) rfl rfl (qEb HT_.out (by kernel_rfl)) (by decide) (fun K hK => ?_)
              refine skip_ (w1 := ?_) (by rfl) rfl ?_ ?_
              rotate_left
              ·go_simp
               rfl
              refine hK.out _ _ ?_
              clear hK K
              refine done_ (qzb HT_.out (by kernel_rfl)) ?_
              try go_wp2
              go_roundg kj8
              case measure => have := HK1.out; have := HJ8.out; omega
              case rel => exact ⟨(y154), (wrap64 (x17_1 + 1)), (by first | rfl | (simp; done) | (simp [*]; done)), H', ⟨by have := HK1.out; have := HJ8.out; omega⟩, ⟨by (with_reducible repeat (first | apply Kd.qo | apply Kd.qn | apply Kd.qm)); exact Kd.qF HQ41.out (fun _ hk => trivial)⟩, ⟨by repeat (first | (with_reducible first | exact HB.out | apply qf | apply qg | apply qe | refine qk ?_ GB25.out | refine qk ?_ GE151.out) | exact HB.out)⟩⟩
             ·rw [if_neg c35] at H
              have c35b0 : ((wrap64 (((qc x6_1 (ji22)).f1) + ((qc x6_1 (ji22)).f2))) == ((qc l1 x17_1).f1)) = false := beq_eq_false_iff_ne.mpr c35
              have c35b1 : ((wrap64 (((qc x6_1 (ji22)).f1) + ((qc x6_1 (ji22)).f2))) != ((qc l1 x17_1).f1)) = true := bne_iff_ne.mpr c35
              by_cases c42 : x6_1.length < 3518437208883
              ·rw [if_pos c42] at H
               have LMc42 := qb.mk c42
               clear c42
               obtain ⟨y155, hy155⟩ : ∃ y_ : List (S43), y_ = (x6_1 ++ [(⟨((qc l1 x17_1).f0), ((qc l1 x17_1).f1), ((qc l1 x17_1).f2), ((qc l1 x17_1).f3)⟩ : S43)]) := ⟨_, rfl⟩
               replace H : (qJ.l0 kj8 y155 l1 (l1.length : Int) (wrap64 (x17_1 + 1))) = some (r1, r2) := by first | (rw [hy155]; with_reducible exact H) | (have H2_ := (Option.bind_some _ _).symm.trans H; rw [hy155]; with_reducible exact H2_) | (have H2_ := (Option.bind_some _ _).symm.trans H; with_reducible exact H2_) | with_reducible exact H | (rw [hy155]; exact H) | exact H
               have Ny155 := qb.mk hy155
               clear hy155
               have H' := qb.mk H
               clear H
               have p25 : 0 ≤ ((ji22) : Int) := of_decide_eq_true (by first | (with_reducible assumption) | assumption)
               have q25 : ((ji22) : Int) < ((x6_1.length : Int) : Int) := of_decide_eq_true (by first | (with_reducible assumption) | assumption)
               obtain ⟨go25, co25, eo25, gb25, gl25, cl25, HG25⟩ := Kd.R_form HO_6.out (by omega)
               (first | cases eo25 | (injection eo25 with ea_ en_ ec_; (first | subst ea_ | (injection ea_ with ea_; subst ea_)); subst ec_; clear en_))
               have GB25 := qb.mk gb25
               have GG25 := qb.mk HG25
               clear gb25 gl25 HG25
               obtain ⟨ce25, hcl25, hM25, hcc25, hfr25⟩ := Kd.qkb HO_6.out z43 ((ji22) : Int) p25 q25
               obtain rfl := qmb hM25
               have hx25_0 : wc.cell? ⟨go25, ((ji22) : Int).toNat * 4, none⟩ = some (.int .i64 ((qc x6_1 (ji22)).f0)) := hcc25 0 _ rfl
               have hx25_1 : wc.cell? ⟨go25, ((ji22) : Int).toNat * 4 + 1, none⟩ = some (.int .i64 ((qc x6_1 (ji22)).f1)) := hcc25 1 _ rfl
               have hx25_2 : wc.cell? ⟨go25, ((ji22) : Int).toNat * 4 + 2, none⟩ = some (.int .i64 ((qc x6_1 (ji22)).f2)) := hcc25 2 _ rfl
               have hx25_3 : wc.cell? ⟨go25, ((ji22) : Int).toNat * 4 + 3, none⟩ = some (.string ((qc x6_1 (ji22)).f3)) := hcc25 3 _ rfl
               have hf25_0 : wc.frozen? ⟨go25, ((ji22) : Int).toNat * 4, none⟩ = false := hfr25 0
               have hf25_1 : wc.frozen? ⟨go25, ((ji22) : Int).toNat * 4 + 1, none⟩ = false := hfr25 1
               have hf25_2 : wc.frozen? ⟨go25, ((ji22) : Int).toNat * 4 + 2, none⟩ = false := hfr25 2
               have hf25_3 : wc.frozen? ⟨go25, ((ji22) : Int).toNat * 4 + 3, none⟩ = false := hfr25 3
               clear hcl25 hcc25 hfr25 hM25
               replace p25 := eq_true p25
               replace q25 := eq_true q25
               have hcz43_0 : wc.cell? ⟨gb151, 0, none⟩ = some (.int .i64 ((qc l1 x17_1).f0)) := (ql BK151.out 0).trans rfl
               have hcz43_1 : wc.cell? ⟨gb151, 1, none⟩ = some (.int .i64 ((qc l1 x17_1).f1)) := (ql BK151.out 1).trans rfl
               have hcz43_2 : wc.cell? ⟨gb151, 2, none⟩ = some (.int .i64 ((qc l1 x17_1).f2)) := (ql BK151.out 2).trans rfl
               have hcz43_3 : wc.cell? ⟨gb151, 3, none⟩ = some (.string ((qc l1 x17_1).f3)) := (ql BK151.out 3).trans rfl
               have hfz43_0 := qp BK151.out 0
               have hfz43_1 := qp BK151.out 1
               have hfz43_2 := qp BK151.out 2
               have hfz43_3 := qp BK151.out 3
               try go_wp2
               replace HO_6 := qb.mk (Kd.qm HO_6.out)
               replace BK151 := qb.mk (qx BK151.out)
               replace HB := qb.mk (qe HB.out)
               have p33 : 0 ≤ ((ji22) : Int) := of_decide_eq_true (by first | (with_reducible assumption) | assumption)
               have q33 : ((ji22) : Int) < ((x6_1.length : Int) : Int) := of_decide_eq_true (by first | (with_reducible assumption) | assumption)
               obtain ⟨ce33, hcl33, hM33, hcc33, hfr33⟩ := Kd.qkb HO_6.out z43 ((ji22) : Int) p33 q33
               obtain rfl := qmb hM33
               have hx33_0 : World.cell? _ ⟨go25, ((ji22) : Int).toNat * 4, none⟩ = some (.int .i64 ((qc x6_1 (ji22)).f0)) := hcc33 0 _ rfl
               have hx33_1 : World.cell? _ ⟨go25, ((ji22) : Int).toNat * 4 + 1, none⟩ = some (.int .i64 ((qc x6_1 (ji22)).f1)) := hcc33 1 _ rfl
               have hx33_2 : World.cell? _ ⟨go25, ((ji22) : Int).toNat * 4 + 2, none⟩ = some (.int .i64 ((qc x6_1 (ji22)).f2)) := hcc33 2 _ rfl
               have hx33_3 : World.cell? _ ⟨go25, ((ji22) : Int).toNat * 4 + 3, none⟩ = some (.string ((qc x6_1 (ji22)).f3)) := hcc33 3 _ rfl
               have hf33_0 : World.frozen? _ ⟨go25, ((ji22) : Int).toNat * 4, none⟩ = false := hfr33 0
               have hf33_1 : World.frozen? _ ⟨go25, ((ji22) : Int).toNat * 4 + 1, none⟩ = false := hfr33 1
               have hf33_2 : World.frozen? _ ⟨go25, ((ji22) : Int).toNat * 4 + 2, none⟩ = false := hfr33 2
               have hf33_3 : World.frozen? _ ⟨go25, ((ji22) : Int).toNat * 4 + 3, none⟩ = false := hfr33 3
               clear hcl33 hcc33 hfr33 hM33
               replace p33 := eq_true p33
               replace q33 := eq_true q33
               have p34 : 0 ≤ ((ji22) : Int) := of_decide_eq_true (by first | (with_reducible assumption) | assumption)
               have q34 : ((ji22) : Int) < ((x6_1.length : Int) : Int) := of_decide_eq_true (by first | (with_reducible assumption) | assumption)
               obtain ⟨ce34, hcl34, hM34, hcc34, hfr34⟩ := Kd.qkb HO_6.out z43 ((ji22) : Int) p34 q34
               obtain rfl := qmb hM34
               have hx34_0 : World.cell? _ ⟨go25, ((ji22) : Int).toNat * 4, none⟩ = some (.int .i64 ((qc x6_1 (ji22)).f0)) := hcc34 0 _ rfl
               have hx34_1 : World.cell? _ ⟨go25, ((ji22) : Int).toNat * 4 + 1, none⟩ = some (.int .i64 ((qc x6_1 (ji22)).f1)) := hcc34 1 _ rfl
               have hx34_2 : World.cell? _ ⟨go25, ((ji22) : Int).toNat * 4 + 2, none⟩ = some (.int .i64 ((qc x6_1 (ji22)).f2)) := hcc34 2 _ rfl
               have hx34_3 : World.cell? _ ⟨go25, ((ji22) : Int).toNat * 4 + 3, none⟩ = some (.string ((qc x6_1 (ji22)).f3)) := hcc34 3 _ rfl
               have hf34_0 : World.frozen? _ ⟨go25, ((ji22) : Int).toNat * 4, none⟩ = false := hfr34 0
               have hf34_1 : World.frozen? _ ⟨go25, ((ji22) : Int).toNat * 4 + 1, none⟩ = false := hfr34 1
               have hf34_2 : World.frozen? _ ⟨go25, ((ji22) : Int).toNat * 4 + 2, none⟩ = false := hfr34 2
               have hf34_3 : World.frozen? _ ⟨go25, ((ji22) : Int).toNat * 4 + 3, none⟩ = false := hfr34 3
               clear hcl34 hcc34 hfr34 hM34
               replace p34 := eq_true p34
               replace q34 := eq_true q34
               refine qAb (n := 12) (S := fun w' => w'.cell? ⟨gb151, 0, none⟩ = some (.int .i64 ((qc l1 x17_1).f0)) ∧ w'.cell? ⟨gb151, 1, none⟩ = some (.int .i64 ((qc l1 x17_1).f1)) ∧ w'.cell? ⟨gb151, 2, none⟩ = some (.int .i64 ((qc l1 x17_1).f2)) ∧ w'.cell? ⟨gb151, 3, none⟩ = some (.string ((qc l1 x17_1).f3)) ∧ w'.cell? ⟨go25, ((ji22) : Int).toNat * 4, none⟩ = some (.int .i64 ((qc x6_1 (ji22)).f0)) ∧ w'.cell? ⟨go25, ((ji22) : Int).toNat * 4 + 1, none⟩ = some (.int .i64 ((qc x6_1 (ji22)).f1)) ∧ w'.cell? ⟨go25, ((ji22) : Int).toNat * 4 + 2, none⟩ = some (.int .i64 ((qc x6_1 (ji22)).f2)) ∧ w'.cell? ⟨go25, ((ji22) : Int).toNat * 4 + 3, none⟩ = some (.string ((qc x6_1 (ji22)).f3))) (ds := []) (Extra.b [0, 12]) (by kernel_rfl) rfl rfl ⟨(ql BK151.out 0).trans rfl, (ql BK151.out 1).trans rfl, (ql BK151.out 2).trans rfl, (ql BK151.out 3).trans rfl, hx33_0, hx33_1, hx33_2, hx33_3⟩ (fun hHeld => ?_); refine qyb qJ.tab12 qJ.bits12 (fun HT_ HW_ => ?_)
               generalize wc.drew = w44 at HO_6 BK151 HB hf33_0 hf33_1 hf33_2 hf33_3 hf34_0 hf34_1 hf34_2 hf34_3 hx33_0 hx33_1 hx33_2 hx33_3 hx34_0 hx34_1 hx34_2 hx34_3 hHeld ⊢
               refine pure_ (i := 0) (N := some 52) (v := ?_) (a' := ?_) (Extra.b [1, 11]) rfl rfl (qw HT_.out (by kernel_rfl)) (fun _ _ _ h => h) (Or.inl ⟨by rfl, ?_⟩) ?_ ?_
               rotate_left
               ·intro w'
                go_simp
                with_reducible rfl
               rotate_left
               ·simp only [Act.put, List.setIfInBounds_toArray, List.set_cons_zero, List.set_cons_succ, i64_w, i32_w]
                rfl
               refine pure_ (i := 1) (N := some 53) (v := ?_) (a' := ?_) (Extra.b [2, 10]) rfl rfl (qw HT_.out (by kernel_rfl)) (fun _ _ _ h => h) (Or.inl ⟨by rfl, ?_⟩) ?_ ?_
               rotate_left
               ·intro w'
                go_simp
                with_reducible rfl
               rotate_left
               ·simp only [Act.put, List.setIfInBounds_toArray, List.set_cons_zero, List.set_cons_succ, i64_w, i32_w]
                rfl
               refine pure_ (i := 2) (N := some 54) (v := ?_) (a' := ?_) (Extra.b [3, 9]) rfl rfl (qw HT_.out (by kernel_rfl)) (fun _ _ _ h => h) (Or.inl ⟨by rfl, ?_⟩) ?_ ?_
               rotate_left
               ·intro w'
                go_simp
                with_reducible rfl
               rotate_left
               ·simp only [Act.put, List.setIfInBounds_toArray, List.set_cons_zero, List.set_cons_succ, i64_w, i32_w]
                rfl
               refine pure_ (i := 4) (N := some 56) (v := ?_) (a' := ?_) (Extra.b [3, 1, 1, 7]) rfl rfl (qw HT_.out (by kernel_rfl)) (fun _ _ _ h => h) (Or.inl ⟨by rfl, ?_⟩) ?_ ?_
               rotate_left
               ·intro w'
                go_simp
                with_reducible rfl
               rotate_left
               ·simp only [Act.put, List.setIfInBounds_toArray, List.set_cons_zero, List.set_cons_succ, i64_w, i32_w]
                rfl
               refine pure_ (i := 5) (N := some 57) (v := ?_) (a' := ?_) (Extra.b [3, 1, 2, 6]) rfl rfl (qw HT_.out (by kernel_rfl)) (fun _ _ _ h => h) (Or.inl ⟨by rfl, ?_⟩) ?_ ?_
               rotate_left
               ·intro w'
                go_simp
                with_reducible rfl
               rotate_left
               ·simp only [Act.put, List.setIfInBounds_toArray, List.set_cons_zero, List.set_cons_succ, i64_w, i32_w]
                rfl
               refine pure_ (i := 6) (N := some 58) (v := ?_) (a' := ?_) (Extra.b [3, 1, 3, 5]) rfl rfl (qw HT_.out (by kernel_rfl)) (fun _ _ _ h => h) (Or.inl ⟨by rfl, ?_⟩) ?_ ?_
               rotate_left
               ·intro w'
                go_simp
                with_reducible rfl
               rotate_left
               ·simp only [Act.put, List.setIfInBounds_toArray, List.set_cons_zero, List.set_cons_succ, i64_w, i32_w]
                rfl
               refine pure_ (i := 9) (N := some 61) (v := ?_) (a' := ?_) (Extra.b [3, 1, 3, 2, 1, 2]) rfl rfl (qw HT_.out (by kernel_rfl)) (fun _ _ _ h => h) (Or.inl ⟨by rfl, ?_⟩) ?_ ?_
               rotate_left
               ·intro w'
                go_simp
                with_reducible rfl
               rotate_left
               ·simp only [Act.put, List.setIfInBounds_toArray, List.set_cons_zero, List.set_cons_succ, i64_w, i32_w]
                rfl
               refine take_ (i := 3) (N := some 55) (v := ?_) (a' := ?_) (Extra.b [7, 2, 1, 2]) rfl rfl (qnb HT_.out HW_.out (by kernel_rfl)) (fun _ _ _ h => h) (Or.inl ⟨by rfl, ?_⟩) hHeld ?_ ?_
               rotate_left
               ·rintro w' ⟨s0, s1, s2, s3, s4, s5, s6, s7⟩
                go_simp
                with_reducible rfl
               rotate_left
               ·simp only [Act.put, List.setIfInBounds_toArray, List.set_cons_zero, List.set_cons_succ, i64_w, i32_w]
                rfl
               refine take_ (i := 7) (N := some 59) (v := ?_) (a' := ?_) (Extra.b [8, 1, 1, 2]) rfl rfl (qnb HT_.out HW_.out (by kernel_rfl)) (fun _ _ _ h => h) (Or.inl ⟨by rfl, ?_⟩) hHeld ?_ ?_
               rotate_left
               ·rintro w' ⟨s0, s1, s2, s3, s4, s5, s6, s7⟩
                go_simp
                with_reducible rfl
               rotate_left
               ·simp only [Act.put, List.setIfInBounds_toArray, List.set_cons_zero, List.set_cons_succ, i64_w, i32_w]
                rfl
               refine pure_ (i := 8) (N := some 60) (v := ?_) (a' := ?_) (Extra.b [10, 2]) rfl rfl (qw HT_.out (by kernel_rfl)) (fun _ _ _ h => h) (Or.inl ⟨by rfl, ?_⟩) ?_ ?_
               rotate_left
               ·intro w'
                go_simp
                with_reducible rfl
               rotate_left
               ·simp only [Act.put, List.setIfInBounds_toArray, List.set_cons_zero, List.set_cons_succ, i64_w, i32_w]
                rfl
               refine take_ (i := 10) (N := some 62) (v := ?_) (a' := ?_) (Extra.b [11, 1]) rfl rfl (qnb HT_.out HW_.out (by kernel_rfl)) (fun _ _ _ h => h) (Or.inl ⟨by rfl, ?_⟩) hHeld ?_ ?_
               rotate_left
               ·rintro w' ⟨s0, s1, s2, s3, s4, s5, s6, s7⟩
                go_simp
                with_reducible rfl
               rotate_left
               ·simp only [Act.put, List.setIfInBounds_toArray, List.set_cons_zero, List.set_cons_succ, i64_w, i32_w]
                rfl
               refine pure_ (i := 11) (N := some 63) (v := ?_) (a' := ?_) (Extra.b [12]) rfl rfl (qw HT_.out (by kernel_rfl)) (fun _ _ _ h => h) (Or.inl ⟨by rfl, ?_⟩) ?_ ?_
               rotate_left
               ·intro w'
                go_simp
                with_reducible rfl
               rotate_left
               ·simp only [Act.put, List.setIfInBounds_toArray, List.set_cons_zero, List.set_cons_succ, i64_w, i32_w]
                rfl
               refine done_ (qzb HT_.out (by kernel_rfl)) ?_
               have hcz45_0 : w44.cell? ⟨gb151, 0, none⟩ = some (.int .i64 ((qc l1 x17_1).f0)) := (ql BK151.out 0).trans rfl
               have hcz45_1 : w44.cell? ⟨gb151, 1, none⟩ = some (.int .i64 ((qc l1 x17_1).f1)) := (ql BK151.out 1).trans rfl
               have hcz45_2 : w44.cell? ⟨gb151, 2, none⟩ = some (.int .i64 ((qc l1 x17_1).f2)) := (ql BK151.out 2).trans rfl
               have hcz45_3 : w44.cell? ⟨gb151, 3, none⟩ = some (.string ((qc l1 x17_1).f3)) := (ql BK151.out 3).trans rfl
               have hfz45_0 := qp BK151.out 0
               have hfz45_1 := qp BK151.out 1
               have hfz45_2 := qp BK151.out 2
               have hfz45_3 := qp BK151.out 3
               try go_wp2_with (first | ((with_reducible refine qhc (b := .append) (xs := #[.tmp 73, .tmp 75]) rfl ?_); at_builtin; refine Kd.qkc k43 (w0 := w) w.heap.size rfl (.tmp 73) (.tmp 75) 26 43 (.agg #[(.int .i64 0), (.int .i64 0), (.int .i64 0), (.string ⟨#[]⟩)]) 40 rfl Try.underlying26 info43 rfl (by decide) (by omega) (.slice (some ⟨go25, 0, none⟩) x6_1.length co12) x6_1 (⟨((qc l1 x17_1).f0), ((qc l1 x17_1).f1), ((qc l1 x17_1).f2), ((qc l1 x17_1).f3)⟩ : S43) [.int .i64 ((qc l1 x17_1).f0), .int .i64 ((qc l1 x17_1).f1), .int .i64 ((qc l1 x17_1).f2), .string ((qc l1 x17_1).f3)] (fun k_ => k_ ≠ gb151) (fun _ => False) rfl rfl ?aP (fun _ hk => hk.elim) ?aF ?aO ?aB ?aS ?aL ?_; (case aP => exact qvb _ _ _ (⟨((qc l1 x17_1).f0), ((qc l1 x17_1).f1), ((qc l1 x17_1).f2), ((qc l1 x17_1).f3)⟩ : S43)); (case aB => exact (by repeat (first | (with_reducible first | exact HB.out | apply qf | apply qg | apply qe | refine qk ?_ GE151.out) | exact HB.out))); (case aF => exact (fun k_ hk => Kd.freshB (g := gb151) (o := .cells #[.int .i64 ((qc l1 x17_1).f0), .int .i64 ((qc l1 x17_1).f1), .int .i64 ((qc l1 x17_1).f2), .string ((qc l1 x17_1).f3)] 43 (0, 0)) (by (with_reducible repeat (first | refine qB ?_ _ | refine qx ?_ | refine qC ?_ _)); exact BK151.out) k_ hk)); (case aO => exact (by (with_reducible repeat (first | apply Kd.qo | apply Kd.qn | apply Kd.qm)); exact HO_6.out)); (case aS => exact (qG (by repeat (first | (with_reducible first | exact HB.out | apply qf | apply qg | apply qe | refine qk ?_ GE151.out) | exact HB.out)))); (case aL => have := LMc42.out; omega); intro v156 w46 ho hb hg hat; rw [← Ny155.out] at ho; have HO157 := qb.mk (ho); replace BK151 := qb.mk (qJb (g := gb151) (o := .cells #[.int .i64 ((qc l1 x17_1).f0), .int .i64 ((qc l1 x17_1).f1), .int .i64 ((qc l1 x17_1).f2), .string ((qc l1 x17_1).f3)] 43 (0, 0)) (by (with_reducible repeat (first | refine qB ?_ _ | refine qx ?_ | refine qC ?_ _)); exact BK151.out) hg (Kd.qfc HO_6.out (fun _ hk => hk))); replace HB := qb.mk (hb); clear HO_6; clear ho hb hg hat))
               go_roundg kj8
               case measure => have := HK1.out; have := HJ8.out; omega
               case rel => exact ⟨(y155), (wrap64 (x17_1 + 1)), (by first | rfl | (simp; done) | (simp [*]; done)), H', ⟨by have := HK1.out; have := HJ8.out; omega⟩, ⟨by (with_reducible repeat (first | apply Kd.qo | apply Kd.qn | apply Kd.qm)); exact Kd.qF HO157.out (fun _ hk => trivial)⟩, ⟨by repeat (first | (with_reducible first | exact HB.out | apply qf | apply qg | apply qe | refine qk ?_ GE151.out) | exact HB.out)⟩⟩
              ·rw [if_neg c42] at H
               exact absurd H (by simp)
           ·rw [if_neg c24] at H
            exact absurd H (by simp)
          ·rw [if_neg c23] at H
           exact absurd H (by simp)
         ·replace c21 := Bool.eq_false_iff.mpr c21
          subst c21
          rw [if_neg (show ¬ (false = true) by decide)] at H
          by_cases c47 : x6_1.length < 3518437208883
          ·rw [if_pos c47] at H
           have LMc47 := qb.mk c47
           clear c47
           obtain ⟨y158, hy158⟩ : ∃ y_ : List (S43), y_ = (x6_1 ++ [(⟨((qc l1 x17_1).f0), ((qc l1 x17_1).f1), ((qc l1 x17_1).f2), ((qc l1 x17_1).f3)⟩ : S43)]) := ⟨_, rfl⟩
           replace H : (qJ.l0 kj8 y158 l1 (l1.length : Int) (wrap64 (x17_1 + 1))) = some (r1, r2) := by first | (rw [hy158]; with_reducible exact H) | (have H2_ := (Option.bind_some _ _).symm.trans H; rw [hy158]; with_reducible exact H2_) | (have H2_ := (Option.bind_some _ _).symm.trans H; with_reducible exact H2_) | with_reducible exact H | (rw [hy158]; exact H) | exact H
           have Ny158 := qb.mk hy158
           clear hy158
           have H' := qb.mk H
           clear H
           have hcz48_0 : wc.cell? ⟨gb151, 0, none⟩ = some (.int .i64 ((qc l1 x17_1).f0)) := (ql BK151.out 0).trans rfl
           have hcz48_1 : wc.cell? ⟨gb151, 1, none⟩ = some (.int .i64 ((qc l1 x17_1).f1)) := (ql BK151.out 1).trans rfl
           have hcz48_2 : wc.cell? ⟨gb151, 2, none⟩ = some (.int .i64 ((qc l1 x17_1).f2)) := (ql BK151.out 2).trans rfl
           have hcz48_3 : wc.cell? ⟨gb151, 3, none⟩ = some (.string ((qc l1 x17_1).f3)) := (ql BK151.out 3).trans rfl
           have hfz48_0 := qp BK151.out 0
           have hfz48_1 := qp BK151.out 1
           have hfz48_2 := qp BK151.out 2
           have hfz48_3 := qp BK151.out 3
           go_wp2_with (first | ((with_reducible refine qhc (b := .append) (xs := #[.tmp 73, .tmp 75]) rfl ?_); at_builtin; refine Kd.qkc k43 (w0 := w) w.heap.size rfl (.tmp 73) (.tmp 75) 26 43 (.agg #[(.int .i64 0), (.int .i64 0), (.int .i64 0), (.string ⟨#[]⟩)]) 40 rfl Try.underlying26 info43 rfl (by decide) (by omega) (.slice Ao12 x6_1.length co12) x6_1 (⟨((qc l1 x17_1).f0), ((qc l1 x17_1).f1), ((qc l1 x17_1).f2), ((qc l1 x17_1).f3)⟩ : S43) [.int .i64 ((qc l1 x17_1).f0), .int .i64 ((qc l1 x17_1).f1), .int .i64 ((qc l1 x17_1).f2), .string ((qc l1 x17_1).f3)] (fun k_ => k_ ≠ gb151) (fun _ => False) rfl rfl ?aP (fun _ hk => hk.elim) ?aF ?aO ?aB ?aS ?aL ?_; (case aP => exact qvb _ _ _ (⟨((qc l1 x17_1).f0), ((qc l1 x17_1).f1), ((qc l1 x17_1).f2), ((qc l1 x17_1).f3)⟩ : S43)); (case aB => exact (by repeat (first | (with_reducible first | exact HB.out | apply qf | apply qg | apply qe | refine qk ?_ GE151.out) | exact HB.out))); (case aF => exact (fun k_ hk => Kd.freshB (g := gb151) (o := .cells #[.int .i64 ((qc l1 x17_1).f0), .int .i64 ((qc l1 x17_1).f1), .int .i64 ((qc l1 x17_1).f2), .string ((qc l1 x17_1).f3)] 43 (0, 0)) (by (with_reducible repeat (first | refine qB ?_ _ | refine qx ?_ | refine qC ?_ _)); exact BK151.out) k_ hk)); (case aO => exact (by (with_reducible repeat (first | apply Kd.qo | apply Kd.qn | apply Kd.qm)); exact HO_6.out)); (case aS => exact (qG (by repeat (first | (with_reducible first | exact HB.out | apply qf | apply qg | apply qe | refine qk ?_ GE151.out) | exact HB.out)))); (case aL => have := LMc47.out; omega); intro v159 w49 ho hb hg hat; rw [← Ny158.out] at ho; have HO160 := qb.mk (ho); replace BK151 := qb.mk (qJb (g := gb151) (o := .cells #[.int .i64 ((qc l1 x17_1).f0), .int .i64 ((qc l1 x17_1).f1), .int .i64 ((qc l1 x17_1).f2), .string ((qc l1 x17_1).f3)] 43 (0, 0)) (by (with_reducible repeat (first | refine qB ?_ _ | refine qx ?_ | refine qC ?_ _)); exact BK151.out) hg (Kd.qfc HO_6.out (fun _ hk => hk))); replace HB := qb.mk (hb); clear HO_6; clear ho hb hg hat))
           go_roundg kj8
           case measure => have := HK1.out; have := HJ8.out; omega
           case rel => exact ⟨(y158), (wrap64 (x17_1 + 1)), (by first | rfl | (simp; done) | (simp [*]; done)), H', ⟨by have := HK1.out; have := HJ8.out; omega⟩, ⟨by (with_reducible repeat (first | apply Kd.qo | apply Kd.qn | apply Kd.qm)); exact Kd.qF HO160.out (fun _ hk => trivial)⟩, ⟨by repeat (first | (with_reducible first | exact HB.out | apply qf | apply qg | apply qe | refine qk ?_ GE151.out) | exact HB.out)⟩⟩
          ·rw [if_neg c47] at H
           exact absurd H (by simp)
      ·rw [if_neg c8] at H
       exact absurd H (by simp)
     ·rw [if_neg c7] at H
      exact absurd H (by simp)
    ·rw [if_neg c6] at H
     have c6b0 : decide (x17_1 < (l1.length : Int)) = false := decide_eq_false c6
     clear c6
     simp only [Option.some.injEq, Prod.mk.injEq] at H
     obtain ⟨rfl, rfl⟩ := H
     go_wp2
     go_ret2
     exact ⟨_, by first | rfl | (simp [qv, qu] <;> rfl) | (simp [*, qv, qu] <;> rfl), by (with_reducible repeat (first | apply Kd.qo | apply Kd.qn | apply Kd.qm)); exact HO_6.out, by repeat (first | (with_reducible first | exact HB.out | apply qf | apply qg | apply qe) | exact HB.out)⟩
 ·replace c4 := Bool.eq_false_iff.mpr c4
  subst c4
  rw [if_neg (show ¬ (false = true) by decide)] at H
  simp only [Option.some.injEq, Prod.mk.injEq] at H
  obtain ⟨rfl, rfl⟩ := H
  go_enter Try.func33, Try.ntmps33
  go_wp2_with (first | ((with_reducible refine qy (f := 60) rfl ?_); refine qz (some 13) rfl rfl Try.func60 (by kernel_rfl) rfl #[.string a0, .slice A1 l1.length c1] rfl (by (try simp only [List.map_toArray, List.map_cons, List.map_nil]); first | done | rfl | (simp only [List.length_drop, List.length_take]; rfl)) ?_; (with_reducible refine (qdb.calls k a0 _ _ l1 false _ ?side1 ?side2 A3.out).mono ?_); (case side1 => repeat (first | exact HR1.out | (with_reducible refine Kd.qN ?_ _) | (with_reducible refine Kd.qM ?_ _) | (with_reducible refine Kd.qO ?_))); (case side2 => exact HC1.out); rintro e w50 ⟨rfl, hb⟩; refine ⟨_, rfl, ?_⟩; replace HB := qb.mk (qE (by repeat (first | (with_reducible first | exact HB.out | apply qf | apply qg | apply qe) | exact HB.out)) hb); (try clear hb); (try clear hb2); (try clear hk); (try clear hi)))
  go_ret2
  exact ⟨_, by first | rfl | (simp [qv, qu] <;> rfl) | (simp [*, qv, qu] <;> rfl), by first | exact Kd.R_nil _ _ _ _ _ | exact Kd.N_nil _ _ _ _ _ | exact Kd.V_nil _ _ _ _ _ | exact Kd.Q_nil _ _ _ _ _ | exact Kd.S_nil _ _ _ _ _, by repeat (first | (with_reducible first | exact HB.out | apply qf | apply qg | apply qe) | exact HB.out)⟩

end Go.Proofs.Ytnhnlfkbngnkpaa.E
