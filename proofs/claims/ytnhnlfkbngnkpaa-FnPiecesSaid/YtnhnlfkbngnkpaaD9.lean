-- Made by a program of this session out of the translation; no hand has turned it.
import Derived.Test.YtnhnlfkbngnkpaaD0
import Derived.Test.YtnhnlfkbngnkpaaD4
namespace Go.Proofs.Ytnhnlfkbngnkpaa.D
open Go.RowKit Go.Proofs.YtnhnlfkbngnkpaaW.PrintWords Go.Proofs.YtnhnlfkbngnkpaaW.PrintLast Go.Proofs.YtnhnlfkbngnkpaaW.PrintMore
attribute [local go_sem] max2_int min2_int max_two min_two max_three min_three max_four min_four   -- for this text's walks alone
set_option linter.unusedVariables false
set_option linter.unusedSimpArgs false

/-! ### impl_TidyOps: function 34 -/
mutual
def impl_TidyOps.l0 : Nat → List (S43) → List (S43) → Int → Int → Option ((List (S43)) × Bool)
 | 0, _, _, _, _ => none
 | k + 1, x6, x16, x17, x18 => if x18 < x17 then (if 0 ≤ x18 then (if x18 < (x16.length : Int) then (if (wrap64 ((x6.length : Int) - 1)) ≥ 0 then (if 0 ≤ (wrap64 ((x6.length : Int) - 1)) then (if (wrap64 ((x6.length : Int) - 1)) < (x6.length : Int) then (impl_TidyOps.j1 k x6 (wrap64 ((x6.length : Int) - 1)) x16 x17 x18 (((rd_T43 x6 (wrap64 ((x6.length : Int) - 1))).f0) == ((rd_T43 x16 x18).f0)) ((rd_T43 x16 x18).f0) ((rd_T43 x16 x18).f1) ((rd_T43 x16 x18).f2) ((rd_T43 x16 x18).f3)) else (none)) else (none)) else (impl_TidyOps.j1 k x6 (wrap64 ((x6.length : Int) - 1)) x16 x17 x18 false ((rd_T43 x16 x18).f0) ((rd_T43 x16 x18).f1) ((rd_T43 x16 x18).f2) ((rd_T43 x16 x18).f3))) else (none)) else (none)) else (some (x6, true))
def impl_TidyOps.j1 : Nat → List (S43) → Int → List (S43) → Int → Int → Bool → Int → Int → Int → ByteArray → Option ((List (S43)) × Bool)
 | 0, _, _, _, _, _, _, _, _, _, _ => none
 | k + 1, x6, x9, x16, x17, x18, x36, x235000, x235001, x235002, x235003 => if x36 = true then (if 0 ≤ x9 then (if x9 < (x6.length : Int) then (if x235000 = 2 then (if ((rd_T43 x6 x9).f3).size + x235003.size ≤ 9223372036854775807 then (impl_TidyOps.l0 k (x6.set (x9 : Int).toNat (⟨(rd_T43 x6 x9).f0, (rd_T43 x6 x9).f1, (rd_T43 x6 x9).f2, ((rd_T43 x6 x9).f3) ++ x235003⟩ : S43)) x16 x17 (wrap64 (x18 + 1))) else (none)) else (if (wrap64 (((rd_T43 x6 x9).f1) + ((rd_T43 x6 x9).f2))) = x235001 then (impl_TidyOps.l0 k (x6.set (x9 : Int).toNat (⟨(rd_T43 x6 x9).f0, (rd_T43 x6 x9).f1, wrap64 (((rd_T43 x6 x9).f2) + x235002), (rd_T43 x6 x9).f3⟩ : S43)) x16 x17 (wrap64 (x18 + 1))) else (if x6.length < 3518437208883 then (impl_TidyOps.l0 k (x6 ++ [(⟨x235000, x235001, x235002, x235003⟩ : S43)]) x16 x17 (wrap64 (x18 + 1))) else (none)))) else (none)) else (none)) else (if x6.length < 3518437208883 then (impl_TidyOps.l0 k (x6 ++ [(⟨x235000, x235001, x235002, x235003⟩ : S43)]) x16 x17 (wrap64 (x18 + 1))) else (none))
end
def impl_TidyOps.f (k : Nat) (a0 : ByteArray) (l1 : List (S43)) : Option ((List (S43)) × Bool) := (impl_GoodOps.f k a0 l1).bind fun t229 => (if t229 = true then (impl_TidyOps.l0 k (([] : List (S43))) l1 (l1.length : Int) 0) else (some (([] : List (S43)), false)))
theorem impl_TidyOps.mono_l : ∀ k, (∀ y0 y1 y2 y3, LeO (impl_TidyOps.l0 k y0 y1 y2 y3) (impl_TidyOps.l0 (k + 1) y0 y1 y2 y3)) ∧ (∀ y0 y1 y2 y3 y4 y5 y6 y7 y8 y9, LeO (impl_TidyOps.j1 k y0 y1 y2 y3 y4 y5 y6 y7 y8 y9) (impl_TidyOps.j1 (k + 1) y0 y1 y2 y3 y4 y5 y6 y7 y8 y9))
 | 0 => ⟨fun _ _ _ _ r h => by simp [impl_TidyOps.l0] at h, fun _ _ _ _ _ _ _ _ _ _ r h => by simp [impl_TidyOps.j1] at h⟩
 | k + 1 => by
  obtain ⟨ih0, ih1⟩ := impl_TidyOps.mono_l k
  refine ⟨?_, ?_⟩
  ·intro y0 y1 y2 y3
   unfold impl_TidyOps.l0
   repeat' first
   | (with_reducible exact ih0 _ _ _ _)
   | (with_reducible exact ih1 _ _ _ _ _ _ _ _ _ _)
   | (with_reducible exact impl_GoodOps.mono _ _ _)
   | (with_reducible exact LeO.refl _)
   | (with_reducible exact LeO.none _)
   | (with_reducible refine LeO.ite ?_ ?_)
   | (with_reducible refine LeO.bind ?_ (fun _ => ?_))
   | exact ih0 _ _ _ _
   | exact ih1 _ _ _ _ _ _ _ _ _ _
   | exact impl_GoodOps.mono _ _ _
   | exact LeO.none _
   | refine LeO.ite ?_ ?_
   | refine LeO.bind ?_ (fun _ => ?_)
  ·intro y0 y1 y2 y3 y4 y5 y6 y7 y8 y9
   unfold impl_TidyOps.j1
   repeat' first
   | (with_reducible exact ih0 _ _ _ _)
   | (with_reducible exact ih1 _ _ _ _ _ _ _ _ _ _)
   | (with_reducible exact impl_GoodOps.mono _ _ _)
   | (with_reducible exact LeO.refl _)
   | (with_reducible exact LeO.none _)
   | (with_reducible refine LeO.ite ?_ ?_)
   | (with_reducible refine LeO.bind ?_ (fun _ => ?_))
   | exact ih0 _ _ _ _
   | exact ih1 _ _ _ _ _ _ _ _ _ _
   | exact impl_GoodOps.mono _ _ _
   | exact LeO.none _
   | refine LeO.ite ?_ ?_
   | refine LeO.bind ?_ (fun _ => ?_)
theorem impl_TidyOps.mono : ∀ a0 a1 k, LeO (impl_TidyOps.f k a0 a1) (impl_TidyOps.f (k + 1) a0 a1) := by
 intro a0 a1 k
 obtain ⟨ih0, ih1⟩ := impl_TidyOps.mono_l k
 unfold impl_TidyOps.f
 repeat' first
   | (with_reducible exact ih0 _ _ _ _)
   | (with_reducible exact ih1 _ _ _ _ _ _ _ _ _ _)
   | (with_reducible exact impl_GoodOps.mono _ _ _)
   | (with_reducible exact LeO.refl _)
   | (with_reducible exact LeO.none _)
   | (with_reducible refine LeO.ite ?_ ?_)
   | (with_reducible refine LeO.bind ?_ (fun _ => ?_))
   | exact ih0 _ _ _ _
   | exact ih1 _ _ _ _ _ _ _ _ _ _
   | exact impl_GoodOps.mono _ _ _
   | exact LeO.none _
   | refine LeO.ite ?_ ?_
   | refine LeO.bind ?_ (fun _ => ?_)
def impl_TidyOps.T8 : Bool × List (List Nat × List Nat) := (true, [([], []), ([0], [0]), ([1], [1]), ([2], [2]), ([2], [2]), ([3, 4, 2], [2, 3, 4]), ([5, 2], [2, 5]), ([6, 2], [2, 6]), ([2], [2]), ([8, 2], [2, 8]), ([7, 9, 2], [2, 7, 9]), ([2, 10], [2, 10])])
def impl_TidyOps.B8 : List Nat := [0, 1, 3, 7, 7, 31, 63, 127, 7, 263, 1023, 2047]
theorem impl_TidyOps.tab8 : rtab .any (opsOf Try.f34 8) = impl_TidyOps.T8 := by kernel_rfl
theorem impl_TidyOps.bits8 : waitsOk impl_TidyOps.T8.2 impl_TidyOps.B8 = true := by kernel_rfl
def impl_TidyOps.T11 : Bool × List (List Nat × List Nat) := (true, [([], []), ([0], [0]), ([1], [1]), ([2], [2]), ([], []), ([4], [4]), ([3, 5], [3, 5]), ([0, 0, 1, 2, 3, 4, 5, 6], [0]), ([7, 0, 1, 2, 3, 4, 5, 6], [7]), ([8, 6, 0, 1, 2, 3, 4, 5, 6], [6, 8])])
def impl_TidyOps.B11 : List Nat := [0, 1, 3, 7, 0, 16, 63, 127, 255, 511]
theorem impl_TidyOps.tab11 : rtab .any (opsOf Try.f34 11) = impl_TidyOps.T11 := by kernel_rfl
theorem impl_TidyOps.bits11 : waitsOk impl_TidyOps.T11.2 impl_TidyOps.B11 = true := by kernel_rfl
def impl_TidyOps.T12 : Bool × List (List Nat × List Nat) := (true, [([], []), ([0], [0]), ([1], [1]), ([2], [2]), ([], []), ([4], [4]), ([5], [5]), ([6], [6]), ([3, 7], [3, 7]), ([], []), ([9], [9]), ([8, 10], [8, 10])])
def impl_TidyOps.B12 : List Nat := [0, 1, 3, 7, 0, 16, 48, 112, 255, 0, 512, 2047]
theorem impl_TidyOps.tab12 : rtab .any (opsOf Try.f34 12) = impl_TidyOps.T12 := by kernel_rfl
theorem impl_TidyOps.bits12 : waitsOk impl_TidyOps.T12.2 impl_TidyOps.B12 = true := by kernel_rfl
def impl_TidyOps.T13 : Bool × List (List Nat × List Nat) := (true, [([], []), ([0], [0]), ([1], [1]), ([2], [2]), ([], []), ([4], [4]), ([3, 5], [3, 5]), ([0, 0, 1, 2, 3, 4, 5, 6], [0]), ([7, 0, 1, 2, 3, 4, 5, 6], [7]), ([8, 6, 0, 1, 2, 3, 4, 5, 6], [6, 8])])
def impl_TidyOps.B13 : List Nat := [0, 1, 3, 7, 0, 16, 63, 127, 255, 511]
theorem impl_TidyOps.tab13 : rtab .any (opsOf Try.f34 13) = impl_TidyOps.T13 := by kernel_rfl
theorem impl_TidyOps.bits13 : waitsOk impl_TidyOps.T13.2 impl_TidyOps.B13 = true := by kernel_rfl
set_option maxHeartbeats 8000000 in
set_option maxRecDepth 100000 in
theorem impl_TidyOps.calls (k : Nat) (a0 : ByteArray) (A1 : Option Addr) (c1 : Nat) (l1 : List (S43)) (r1 : List (S43)) (r2 : Bool) (w : World) (hr1 : Kd.C k43 w A1 l1.length l1) (hc1 : l1.length ≤ c1) (h : impl_TidyOps.f k a0 l1 = some (r1, r2)) :
  Calls Try.prog 34 #[.string a0, .slice A1 l1.length c1] w fun e w' => ∃ v0_ : Value, e = .returned (.tuple #[v0_, .bool r2]) ∧ Kd.R k43 43 w' w.heap.size (fun _ => True) v0_ r1 ∧ Below w.heap.size w w' := by
 have hu43 := Try.underlying43
 have HR1 := Aside0.mk hr1
 have HC1 := Aside0.mk hc1
 clear hr1 hc1
 have HB := Aside0.mk (Below.refl w.heap.size w)
 have H : ((impl_GoodOps.f k a0 l1).bind fun t229 => (if t229 = true then (impl_TidyOps.l0 k (([] : List (S43))) l1 (l1.length : Int) 0) else (some (([] : List (S43)), false)))) = some (r1, r2) := h
 clear h
 replace H := Option.bind_eq_some_iff.mp H
 obtain ⟨t229, A30, H⟩ := H
 replace H : (if t229 = true then (impl_TidyOps.l0 k (([] : List (S43))) l1 (l1.length : Int) 0) else (some (([] : List (S43)), false))) = some (r1, r2) := H
 have A3 := Aside0.mk A30
 clear A30
 by_cases c4 : t229 = true
 ·subst c4
  have H1 : (impl_TidyOps.l0 k (([] : List (S43))) l1 (l1.length : Int) 0) = some (r1, r2) := by rw [if_pos rfl] at H; exact H
  clear H
  have H := H1
  clear H1
  obtain ⟨y230, hy230⟩ : ∃ y_ : List (S43), y_ = (([] : List (S43))) := ⟨_, rfl⟩
  replace H : (impl_TidyOps.l0 k y230 l1 (l1.length : Int) 0) = some (r1, r2) := by first | (rw [hy230]; with_reducible exact H) | (have H2_ := (Option.bind_some _ _).symm.trans H; rw [hy230]; with_reducible exact H2_) | (have H2_ := (Option.bind_some _ _).symm.trans H; with_reducible exact H2_) | with_reducible exact H | (rw [hy230]; exact H) | exact H
  have Ny230 := Aside0.mk hy230
  clear hy230
  have H' := Aside0.mk H
  clear H
  go_enter Try.func34, Try.ntmps34
  go_wp2_with (first | ((with_reducible refine gate_callee (f := 21) rfl ?_); refine goesL_ (some 13) rfl rfl Try.func21 (by kernel_rfl) rfl #[.string a0, .slice A1 l1.length c1] rfl (by (try simp only [List.map_toArray, List.map_cons, List.map_nil]); first | done | rfl | (simp only [List.length_drop, List.length_take]; rfl)) ?_; (with_reducible refine (impl_GoodOps.calls k a0 _ _ l1 true _ ?side1 ?side2 A3.out).mono ?_); (case side1 => repeat (first | exact HR1.out | (with_reducible refine Kd.C_alloc ?_ _) | (with_reducible refine Kd.C_drewN ?_ _) | (with_reducible refine Kd.C_drew ?_))); (case side2 => exact HC1.out); rintro e w5 ⟨rfl, hb⟩; refine ⟨_, rfl, ?_⟩; have n0_ := Aside0.mk (below_step (by repeat (first | (with_reducible first | exact HB.out | apply below_alloc | apply pw_below_drewN | apply below_drew1) | exact HB.out)) hb); clear HB; have HB := n0_; clear n0_; (try clear hb); (try clear hb2); (try clear hk); (try clear hi)) | ((with_reducible refine gate_dst (N := 15) rfl ?_); refine Kd.R_lit k43 _ 43 ?hg (N := 15) ?hd (xs := ([] : List (S43))) (inner := []) (ok := fun _ => True) (okp := fun _ => True) ?hr ?hp (fun _ hk => hk) trivial (Below.refl _ _) (Nat.le_refl _) (by simp) ?_; (case hd => rfl); (case hg => rfl); (case hr => first | (go_simp; done) | (go_simp; rfl)); (case hp => exact (Reps.none _ _)); intro v231 w6 ho7 hb hg_ hnew_; clear hg_ hnew_; (first | rw [← Ny230.out] at ho7 | (simp only [Int.reduceToNat] at ho7; rw [← Ny230.out] at ho7)); have n0_ := Aside0.mk (Kd.R_lower ho7 (below_size (by repeat (first | (with_reducible first | exact HB.out | apply below_alloc | apply pw_below_drewN | apply below_drew1) | exact HB.out)))); have n1_ := Aside0.mk (below_step (by repeat (first | (with_reducible first | exact HB.out | apply below_alloc | apply pw_below_drewN | apply below_drew1) | exact HB.out)) hb); clear HB; have HO232 := n0_; have HB := n1_; clear n0_ n1_; clear hb ho7))
  go_loopg [6, 18] k (fun kq v6 v18 w' => ∃ (x6_1 : List (S43)) (x18_1 : Int), v18 = .int .i64 x18_1 ∧ Aside0 (impl_TidyOps.l0 kq x6_1 l1 (l1.length : Int) x18_1 = some (r1, r2)) ∧ Aside0 (kq ≤ k) ∧ Aside0 (Kd.R k43 43 w' w.heap.size (fun _ => True) v6 x6_1) ∧ Aside0 (Below w.heap.size w w'))
  case atStart => exact ⟨(y230), (0), (by first | rfl | (simp; done) | (simp [*]; done)), H', ⟨Nat.le_refl _⟩, ⟨by (with_reducible repeat (first | apply Kd.R_alloc | apply Kd.R_drewN | apply Kd.R_drew)); exact HO232.out⟩, ⟨by repeat (first | (with_reducible first | exact HB.out | apply below_alloc | apply pw_below_drewN | apply below_drew1) | exact HB.out)⟩⟩
  case round =>
   clear H'
   try clear c1
   try clear c2
   try clear p2
   try clear c3
   try clear c4
   obtain ⟨x6_1, x18_1, rfl, HA, HK1, HO_6, HB⟩ := hrel
   cases gk with
   | zero => exact absurd HA.out (by simp [impl_TidyOps.l0])
   | succ k1 =>
    have H := HA.out
    clear HA
    simp only [impl_TidyOps.l0] at H
    by_cases c8 : x18_1 < (l1.length : Int)
    ·rw [if_pos c8] at H
     have c8b0 : decide (x18_1 < (l1.length : Int)) = true := decide_eq_true c8
     clear c8
     by_cases c9 : 0 ≤ x18_1
     ·rw [if_pos c9] at H
      have c9b0 : decide (0 ≤ x18_1) = true := decide_eq_true c9
      clear c9
      by_cases c10 : x18_1 < (l1.length : Int)
      ·rw [if_pos c10] at H
       have c10b0 : decide (x18_1 < (l1.length : Int)) = true := decide_eq_true c10
       clear c10
       have HC11 := Aside0.mk H
       clear H
       have p233 : 0 ≤ (x18_1 : Int) := of_decide_eq_true (by first | (with_reducible assumption) | assumption)
       have q233 : x18_1 < (l1.length : Int) := of_decide_eq_true (by first | (with_reducible assumption) | assumption)
       obtain ⟨ad233, e233, hx233_0, hx233_1, hx233_2, hx233_3⟩ := at_T43 HR1.out x18_1 p233 q233
       cases e233
       replace hx233_0 := (HB.out.cell (World.block_lt_of_cell? w _ hx233_0)).trans hx233_0
       replace hx233_1 := (HB.out.cell (World.block_lt_of_cell? w _ hx233_1)).trans hx233_1
       replace hx233_2 := (HB.out.cell (World.block_lt_of_cell? w _ hx233_2)).trans hx233_2
       replace hx233_3 := (HB.out.cell (World.block_lt_of_cell? w _ hx233_3)).trans hx233_3
       replace p233 := eq_true p233
       replace q233 := eq_true q233
       go_upto_region 8 with (first | ((with_reducible refine gate_dst (N := 8) rfl ?_); refine box_event ?hg (N := 8) ?hd (cs := #[.int .i64 0, .int .i64 0, .int .i64 0, .string (⟨#[]⟩ : ByteArray)]) (t := 43) ?hr ?_; (case hd => rfl); (case hg => rfl); (case hr => first | (go_simp; done) | (go_simp; rfl)); intro gb234 hg w12 hbox hb; have n0_ := Aside0.mk (Kd.R_below (Kd.R_elderB (by (with_reducible repeat (first | apply Kd.R_alloc | apply Kd.R_drewN | apply Kd.R_drew)); exact HO_6.out) gb234 (Nat.le_of_eq hg.symm)) hb); have n1_ := Aside0.mk (below_step (by repeat (first | (with_reducible first | exact HB.out | apply below_alloc | apply pw_below_drewN | apply below_drew1) | exact HB.out)) hb); have n2_ := Aside0.mk (hbox); have n3_ := Aside0.mk ((by rw [hg]; exact (below_size (by repeat (first | (with_reducible first | exact HB.out | apply below_alloc | apply pw_below_drewN | apply below_drew1) | exact HB.out))) : w.heap.size ≤ gb234)); have n4_ := Aside0.mk ((by rw [hg]; exact (below_size (by repeat (first | (with_reducible first | exact HB.out | apply below_alloc | apply pw_below_drewN | apply below_drew1) | exact HB.out))) : w.heap.size ≤ gb234)); clear HO_6; clear HB; have HO_6 := n0_; have HB := n1_; have BK234 := n2_; have GW234 := n3_; have GE234 := n4_; clear n0_ n1_ n2_ n3_ n4_; clear hb hbox hg; have hcz13_0 : w12.cell? ⟨gb234, 0, none⟩ = some (.int .i64 0) := (blk_cell BK234.out 0).trans rfl; have hcz13_1 : w12.cell? ⟨gb234, 1, none⟩ = some (.int .i64 0) := (blk_cell BK234.out 1).trans rfl; have hcz13_2 : w12.cell? ⟨gb234, 2, none⟩ = some (.int .i64 0) := (blk_cell BK234.out 2).trans rfl; have hcz13_3 : w12.cell? ⟨gb234, 3, none⟩ = some (.string (⟨#[]⟩ : ByteArray)) := (blk_cell BK234.out 3).trans rfl; have hfz13_0 := blk_frozen BK234.out 0; have hfz13_1 := blk_frozen BK234.out 1; have hfz13_2 := blk_frozen BK234.out 2; have hfz13_3 := blk_frozen BK234.out 3; obtain ⟨Ao14, co14, eo14⟩ := Kd.R_slice HO_6.out; subst eo14))
       (try simp only [Act.put, List.setIfInBounds_toArray, List.set_cons_zero, List.set_cons_succ])
       go_cut [36] (fun v36 wc => ∃ (kq : Nat) (x36_10 : Bool), v36 = .bool x36_10 ∧ Aside0 (impl_TidyOps.j1 kq x6_1 (wrap64 ((x6_1.length : Int) - 1)) l1 (l1.length : Int) x18_1 x36_10 ((rd_T43 l1 x18_1).f0) ((rd_T43 l1 x18_1).f1) ((rd_T43 l1 x18_1).f2) ((rd_T43 l1 x18_1).f3) = some (r1, r2)) ∧ Aside0 (kq ≤ k1) ∧ Aside0 (Kd.R k43 43 wc w.heap.size (fun k_ => k_ ≠ gb234) (.slice Ao14 x6_1.length co14) x6_1) ∧ Aside0 (wc.heap[gb234]? = some (.cells #[.int .i64 ((rd_T43 l1 x18_1).f0), .int .i64 ((rd_T43 l1 x18_1).f1), .int .i64 ((rd_T43 l1 x18_1).f2), .string ((rd_T43 l1 x18_1).f3)] 43 (0, 0))) ∧ Aside0 (Below w.heap.size w wc))
       case first =>
        have H := HC11.out
        clear HC11
        by_cases c15 : (wrap64 ((x6_1.length : Int) - 1)) ≥ 0
        ·rw [if_pos c15] at H
         have c15b0 : decide (0 ≤ (wrap64 ((x6_1.length : Int) - 1))) = true := decide_eq_true c15
         clear c15
         (first | rw [c15b0] | (simp only [i64_w, i32_w]; rw [c15b0]) | skip)
         obtain ⟨ji16, hji16⟩ : ∃ j_ : Int, (wrap64 ((x6_1.length : Int) - 1)) = j_ := ⟨_, rfl⟩
         replace H : (if 0 ≤ (ji16) then (if (ji16) < (x6_1.length : Int) then (impl_TidyOps.j1 k1 x6_1 ji16 l1 (l1.length : Int) x18_1 (((rd_T43 x6_1 (ji16)).f0) == ((rd_T43 l1 x18_1).f0)) ((rd_T43 l1 x18_1).f0) ((rd_T43 l1 x18_1).f1) ((rd_T43 l1 x18_1).f2) ((rd_T43 l1 x18_1).f3)) else (none)) else (none)) = some (r1, r2) := by first | (rw [hji16] at H; exact H) | (simp only [hji16] at H ⊢; exact H)
         (try rw [hji16] at c15b0)
         have hji16w : (IntKind.i64.wrap ((x6_1.length : Int) - 1)) = ji16 := (i64_w _).trans hji16
         by_cases c17 : 0 ≤ (ji16)
         ·rw [if_pos c17] at H
          have c17b0 : decide (0 ≤ (ji16)) = true := decide_eq_true c17
          clear c17
          by_cases c18 : (ji16) < (x6_1.length : Int)
          ·rw [if_pos c18] at H
           have c18b0 : decide ((ji16) < (x6_1.length : Int)) = true := decide_eq_true c18
           clear c18
           have H' := Aside0.mk H
           clear H
           try go_wp2
           have n0_ : Aside0 (Kd.R k43 43 ((((w12.setCell ⟨gb234, 0, none⟩ (.int .i64 ((rd_T43 l1 x18_1).f0))).setCell ⟨gb234, 1, none⟩ (.int .i64 ((rd_T43 l1 x18_1).f1))).setCell ⟨gb234, 2, none⟩ (.int .i64 ((rd_T43 l1 x18_1).f2))).setCell ⟨gb234, 3, none⟩ (.string ((rd_T43 l1 x18_1).f3))) w.heap.size (fun k_ => k_ ≠ gb234) (.slice Ao14 x6_1.length co14) x6_1) := ⟨by (with_reducible repeat (first | apply Kd.R_alloc | apply Kd.R_drewN | apply Kd.R_drew)); exact Kd.R_mono (Kd.R_far (p := ⟨gb234, 3, none⟩) (Kd.R_far (p := ⟨gb234, 2, none⟩) (Kd.R_far (p := ⟨gb234, 1, none⟩) (Kd.R_far (p := ⟨gb234, 0, none⟩) (Kd.R_mono HO_6.out (fun k_ hk => (⟨hk, hk.2⟩ : _ ∧ k_ ≠ gb234))) (fun _ hk => hk.2) (.int .i64 ((rd_T43 l1 x18_1).f0))) (fun _ hk => hk.2) (.int .i64 ((rd_T43 l1 x18_1).f1))) (fun _ hk => hk.2) (.int .i64 ((rd_T43 l1 x18_1).f2))) (fun _ hk => hk.2) (.string ((rd_T43 l1 x18_1).f3))) (fun _ hk => hk.1.2)⟩
           have n1_ : Aside0 (((((w12.setCell ⟨gb234, 0, none⟩ (.int .i64 ((rd_T43 l1 x18_1).f0))).setCell ⟨gb234, 1, none⟩ (.int .i64 ((rd_T43 l1 x18_1).f1))).setCell ⟨gb234, 2, none⟩ (.int .i64 ((rd_T43 l1 x18_1).f2))).setCell ⟨gb234, 3, none⟩ (.string ((rd_T43 l1 x18_1).f3))).heap[gb234]? = some (.cells #[.int .i64 ((rd_T43 l1 x18_1).f0), .int .i64 ((rd_T43 l1 x18_1).f1), .int .i64 ((rd_T43 l1 x18_1).f2), .string ((rd_T43 l1 x18_1).f3)] 43 (0, 0))) := ⟨by (with_reducible repeat (first | refine blk_drewN ?_ _ | refine blk_drew ?_ | refine blk_alloc ?_ _)); refine blk_put (cs := #[.int .i64 ((rd_T43 l1 x18_1).f0), .int .i64 ((rd_T43 l1 x18_1).f1), .int .i64 ((rd_T43 l1 x18_1).f2), .string (⟨#[]⟩ : ByteArray)]) ?_ 3 _ rfl; (with_reducible repeat (first | refine blk_drewN ?_ _ | refine blk_drew ?_ | refine blk_alloc ?_ _)); refine blk_put (cs := #[.int .i64 ((rd_T43 l1 x18_1).f0), .int .i64 ((rd_T43 l1 x18_1).f1), .int .i64 0, .string (⟨#[]⟩ : ByteArray)]) ?_ 2 _ rfl; (with_reducible repeat (first | refine blk_drewN ?_ _ | refine blk_drew ?_ | refine blk_alloc ?_ _)); refine blk_put (cs := #[.int .i64 ((rd_T43 l1 x18_1).f0), .int .i64 0, .int .i64 0, .string (⟨#[]⟩ : ByteArray)]) ?_ 1 _ rfl; (with_reducible repeat (first | refine blk_drewN ?_ _ | refine blk_drew ?_ | refine blk_alloc ?_ _)); refine blk_put (cs := #[.int .i64 0, .int .i64 0, .int .i64 0, .string (⟨#[]⟩ : ByteArray)]) ?_ 0 _ rfl; (with_reducible repeat (first | refine blk_drewN ?_ _ | refine blk_drew ?_ | refine blk_alloc ?_ _)); exact BK234.out⟩
           have n2_ : Aside0 (Below w.heap.size w ((((w12.setCell ⟨gb234, 0, none⟩ (.int .i64 ((rd_T43 l1 x18_1).f0))).setCell ⟨gb234, 1, none⟩ (.int .i64 ((rd_T43 l1 x18_1).f1))).setCell ⟨gb234, 2, none⟩ (.int .i64 ((rd_T43 l1 x18_1).f2))).setCell ⟨gb234, 3, none⟩ (.string ((rd_T43 l1 x18_1).f3)))) := ⟨by repeat (first | (with_reducible first | exact HB.out | apply below_alloc | apply pw_below_drewN | apply below_drew1 | refine below_set ?_ GE234.out) | exact HB.out)⟩
           (try clear HO_6)
           (try clear BK234)
           (try clear HB)
           generalize ((((w12.setCell ⟨gb234, 0, none⟩ (.int .i64 ((rd_T43 l1 x18_1).f0))).setCell ⟨gb234, 1, none⟩ (.int .i64 ((rd_T43 l1 x18_1).f1))).setCell ⟨gb234, 2, none⟩ (.int .i64 ((rd_T43 l1 x18_1).f2))).setCell ⟨gb234, 3, none⟩ (.string ((rd_T43 l1 x18_1).f3))) = w19 at n0_ n1_ n2_ ⊢
           have HO_6 := n0_
           have BK234 := n1_
           have HB := n2_
           clear n0_ n1_ n2_
           have n0_ := Aside0.mk (Kd.R_drew HO_6.out)
           have n1_ := Aside0.mk (blk_drew BK234.out)
           have n2_ := Aside0.mk (below_drew1 HB.out)
           clear HO_6
           clear BK234
           clear HB
           have HO_6 := n0_
           have BK234 := n1_
           have HB := n2_
           clear n0_ n1_ n2_
           have p235 : 0 ≤ ((ji16) : Int) := of_decide_eq_true (by first | (with_reducible assumption) | assumption)
           have q235 : (ji16) < (x6_1.length : Int) := of_decide_eq_true (by first | (with_reducible assumption) | assumption)
           obtain ⟨ad235, e235, hx235_0, hx235_1, hx235_2, hx235_3⟩ := at_T43 (Kd.R_reads' HO_6.out).2.2 (ji16) p235 q235
           cases e235
           replace p235 := eq_true p235
           replace q235 := eq_true q235
           refine start_ (n := 12) (S := fun w' => w'.cell? ⟨gb234, 0, none⟩ = some (.int .i64 ((rd_T43 l1 x18_1).f0)) ∧ w'.cell? ⟨gb234, 1, none⟩ = some (.int .i64 ((rd_T43 l1 x18_1).f1)) ∧ w'.cell? ⟨gb234, 2, none⟩ = some (.int .i64 ((rd_T43 l1 x18_1).f2)) ∧ w'.cell? ⟨gb234, 3, none⟩ = some (.string ((rd_T43 l1 x18_1).f3)) ∧ w'.cell? (ad235.add (((ji16)).toNat * 4)) = some (.int .i64 ((rd_T43 x6_1 (ji16)).f0)) ∧ w'.cell? ⟨(ad235.add (((ji16)).toNat * 4)).block, (ad235.add (((ji16)).toNat * 4)).off + 1, none⟩ = some (.int .i64 ((rd_T43 x6_1 (ji16)).f1)) ∧ w'.cell? ⟨(ad235.add (((ji16)).toNat * 4)).block, (ad235.add (((ji16)).toNat * 4)).off + 2, none⟩ = some (.int .i64 ((rd_T43 x6_1 (ji16)).f2)) ∧ w'.cell? ⟨(ad235.add (((ji16)).toNat * 4)).block, (ad235.add (((ji16)).toNat * 4)).off + 3, none⟩ = some (.string ((rd_T43 x6_1 (ji16)).f3))) (ds := []) #[false, false, false, false, false, false, false, false, false, false, false, false] (by kernel_rfl) rfl rfl ⟨(blk_cell BK234.out 0).trans rfl, (blk_cell BK234.out 1).trans rfl, (blk_cell BK234.out 2).trans rfl, (blk_cell BK234.out 3).trans rfl, hx235_0, hx235_1, hx235_2, hx235_3⟩ (fun hHeld => ?_); refine with_tabW impl_TidyOps.tab8 impl_TidyOps.bits8 (fun HT_ HW_ => ?_)
           generalize w19.drew = w20 at HO_6 BK234 HB hx235_0 hx235_1 hx235_2 hx235_3 hHeld ⊢
           refine pure_ (i := 0) (N := some 25) (v := ?_) (a' := ?_) #[true, false, false, false, false, false, false, false, false, false, false, false] rfl rfl (any_of HT_.out (by kernel_rfl)) (fun _ _ _ h => h) (Or.inl ⟨by rfl, ?_⟩) ?_ ?_
           rotate_left
           ·intro w'
            go_simp
            with_reducible rfl
           rotate_left
           ·simp only [Act.put, List.setIfInBounds_toArray, List.set_cons_zero, List.set_cons_succ, i64_w, i32_w]
            rfl
           refine pure_ (i := 1) (N := some 26) (v := ?_) (a' := ?_) #[true, true, false, false, false, false, false, false, false, false, false, false] rfl rfl (any_of HT_.out (by kernel_rfl)) (fun _ _ _ h => h) (Or.inl ⟨by rfl, ?_⟩) ?_ ?_
           rotate_left
           ·intro w'
            go_simp
            with_reducible rfl
           rotate_left
           ·simp only [Act.put, List.setIfInBounds_toArray, List.set_cons_zero, List.set_cons_succ, i64_w, i32_w]
            rfl
           refine pure_ (i := 2) (N := some 27) (v := ?_) (a' := ?_) #[true, true, true, false, false, false, false, false, false, false, false, false] rfl rfl (any_of HT_.out (by kernel_rfl)) (fun _ _ _ h => h) (Or.inl ⟨by rfl, ?_⟩) ?_ ?_
           rotate_left
           ·intro w'
            go_simp
            with_reducible rfl
           rotate_left
           ·simp only [Act.put, List.setIfInBounds_toArray, List.set_cons_zero, List.set_cons_succ, i64_w, i32_w]
            rfl
           refine pure_ (i := 3) (N := some 28) (v := ?_) (a' := ?_) #[true, true, true, true, false, false, false, false, false, false, false, false] rfl rfl (any_of HT_.out (by kernel_rfl)) (fun _ _ _ h => h) (Or.inl ⟨by rfl, ?_⟩) ?_ ?_
           rotate_left
           ·intro w'
            go_simp
            with_reducible rfl
           rotate_left
           ·simp only [Act.put, List.setIfInBounds_toArray, List.set_cons_zero, List.set_cons_succ, i64_w, i32_w]
            rfl
           refine pure_ (i := 4) (N := some 29) (v := ?_) (a' := ?_) #[true, true, true, true, true, false, false, false, false, false, false, false] rfl rfl (any_of HT_.out (by kernel_rfl)) (fun _ _ _ h => h) (Or.inl ⟨by rfl, ?_⟩) ?_ ?_
           rotate_left
           ·intro w'
            go_simp
            with_reducible rfl
           rotate_left
           ·simp only [Act.put, List.setIfInBounds_toArray, List.set_cons_zero, List.set_cons_succ, i64_w, i32_w]
            rfl
           refine pure_ (i := 5) (N := some 30) (v := ?_) (a' := ?_) #[true, true, true, true, true, true, false, false, false, false, false, false] rfl rfl (any_of HT_.out (by kernel_rfl)) (fun _ _ _ h => h) (Or.inl ⟨by rfl, ?_⟩) ?_ ?_
           rotate_left
           ·intro w'
            go_simp
            with_reducible rfl
           rotate_left
           ·simp only [Act.put, List.setIfInBounds_toArray, List.set_cons_zero, List.set_cons_succ, i64_w, i32_w]
            rfl
           refine pure_ (i := 6) (N := some 31) (v := ?_) (a' := ?_) #[true, true, true, true, true, true, true, false, false, false, false, false] rfl rfl (any_of HT_.out (by kernel_rfl)) (fun _ _ _ h => h) (Or.inl ⟨by rfl, ?_⟩) ?_ ?_
           rotate_left
           ·intro w'
            go_simp
            with_reducible rfl
           rotate_left
           ·simp only [Act.put, List.setIfInBounds_toArray, List.set_cons_zero, List.set_cons_succ, i64_w, i32_w]
            rfl
           refine pure_ (i := 8) (N := some 33) (v := ?_) (a' := ?_) #[true, true, true, true, true, true, true, false, true, false, false, false] rfl rfl (any_of HT_.out (by kernel_rfl)) (fun _ _ _ h => h) (Or.inl ⟨by rfl, ?_⟩) ?_ ?_
           rotate_left
           ·intro w'
            go_simp
            with_reducible rfl
           rotate_left
           ·simp only [Act.put, List.setIfInBounds_toArray, List.set_cons_zero, List.set_cons_succ, i64_w, i32_w]
            rfl
           refine take_ (i := 7) (N := some 32) (v := ?_) (a' := ?_) #[true, true, true, true, true, true, true, true, true, false, false, false] rfl rfl (take_ofW HT_.out HW_.out (by kernel_rfl)) (fun _ _ _ h => h) (Or.inl ⟨by rfl, ?_⟩) hHeld ?_ ?_
           rotate_left
           ·rintro w' ⟨s0, s1, s2, s3, s4, s5, s6, s7⟩
            go_simp
            with_reducible rfl
           rotate_left
           ·simp only [Act.put, List.setIfInBounds_toArray, List.set_cons_zero, List.set_cons_succ, i64_w, i32_w]
            rfl
           refine take_ (i := 9) (N := some 34) (v := ?_) (a' := ?_) #[true, true, true, true, true, true, true, true, true, true, false, false] rfl rfl (take_ofW HT_.out HW_.out (by kernel_rfl)) (fun _ _ _ h => h) (Or.inl ⟨by rfl, ?_⟩) hHeld ?_ ?_
           rotate_left
           ·rintro w' ⟨s0, s1, s2, s3, s4, s5, s6, s7⟩
            go_simp
            with_reducible rfl
           rotate_left
           ·simp only [Act.put, List.setIfInBounds_toArray, List.set_cons_zero, List.set_cons_succ, i64_w, i32_w]
            rfl
           refine pure_ (i := 10) (N := some 35) (v := ?_) (a' := ?_) #[true, true, true, true, true, true, true, true, true, true, true, false] rfl rfl (any_of HT_.out (by kernel_rfl)) (fun _ _ _ h => h) (Or.inl ⟨by rfl, ?_⟩) ?_ ?_
           rotate_left
           ·intro w'
            go_simp
            with_reducible rfl
           rotate_left
           ·simp only [Act.put, List.setIfInBounds_toArray, List.set_cons_zero, List.set_cons_succ, i64_w, i32_w]
            rfl
           refine pure_ (i := 11) (N := some 36) (v := ?_) (a' := ?_) #[true, true, true, true, true, true, true, true, true, true, true, true] rfl rfl (any_of HT_.out (by kernel_rfl)) (fun _ _ _ h => h) (Or.inl ⟨by rfl, ?_⟩) ?_ ?_
           rotate_left
           ·intro w'
            go_simp
            with_reducible rfl
           rotate_left
           ·simp only [Act.put, List.setIfInBounds_toArray, List.set_cons_zero, List.set_cons_succ, i64_w, i32_w]
            rfl
           refine done_ (done_of HT_.out (by kernel_rfl)) ?_
           try go_wp2
           go_meet
           case rel => exact ⟨_, ((((rd_T43 x6_1 (ji16)).f0) == ((rd_T43 l1 x18_1).f0))), (by first | rfl | (simp; done) | (simp only [← hji16] <;> (first | rfl | simp)) | (simp [*]; done)), (by first | exact H' | (simp only [hji16]; exact H')), ⟨by have := HK1.out; first | omega | exact Nat.le_refl _⟩, ⟨by (with_reducible repeat (first | apply Kd.R_alloc | apply Kd.R_drewN | apply Kd.R_drew)); exact HO_6.out⟩, ⟨by (with_reducible repeat (first | refine blk_drewN ?_ _ | refine blk_drew ?_ | refine blk_alloc ?_ _)); exact BK234.out⟩, ⟨by repeat (first | (with_reducible first | exact HB.out | apply below_alloc | apply pw_below_drewN | apply below_drew1 | refine below_set ?_ GE234.out) | exact HB.out)⟩⟩
          ·rw [if_neg c18] at H
           exact absurd H (by simp)
         ·rw [if_neg c17] at H
          exact absurd H (by simp)
        ·rw [if_neg c15] at H
         have c15b0 : decide (0 ≤ (wrap64 ((x6_1.length : Int) - 1))) = false := decide_eq_false c15
         clear c15
         (first | rw [c15b0] | (simp only [i64_w, i32_w]; rw [c15b0]) | skip)
         have H' := Aside0.mk H
         clear H
         try go_wp2
         have n0_ : Aside0 (Kd.R k43 43 ((((w12.setCell ⟨gb234, 0, none⟩ (.int .i64 ((rd_T43 l1 x18_1).f0))).setCell ⟨gb234, 1, none⟩ (.int .i64 ((rd_T43 l1 x18_1).f1))).setCell ⟨gb234, 2, none⟩ (.int .i64 ((rd_T43 l1 x18_1).f2))).setCell ⟨gb234, 3, none⟩ (.string ((rd_T43 l1 x18_1).f3))) w.heap.size (fun k_ => k_ ≠ gb234) (.slice Ao14 x6_1.length co14) x6_1) := ⟨by (with_reducible repeat (first | apply Kd.R_alloc | apply Kd.R_drewN | apply Kd.R_drew)); exact Kd.R_mono (Kd.R_far (p := ⟨gb234, 3, none⟩) (Kd.R_far (p := ⟨gb234, 2, none⟩) (Kd.R_far (p := ⟨gb234, 1, none⟩) (Kd.R_far (p := ⟨gb234, 0, none⟩) (Kd.R_mono HO_6.out (fun k_ hk => (⟨hk, hk.2⟩ : _ ∧ k_ ≠ gb234))) (fun _ hk => hk.2) (.int .i64 ((rd_T43 l1 x18_1).f0))) (fun _ hk => hk.2) (.int .i64 ((rd_T43 l1 x18_1).f1))) (fun _ hk => hk.2) (.int .i64 ((rd_T43 l1 x18_1).f2))) (fun _ hk => hk.2) (.string ((rd_T43 l1 x18_1).f3))) (fun _ hk => hk.1.2)⟩
         have n1_ : Aside0 (((((w12.setCell ⟨gb234, 0, none⟩ (.int .i64 ((rd_T43 l1 x18_1).f0))).setCell ⟨gb234, 1, none⟩ (.int .i64 ((rd_T43 l1 x18_1).f1))).setCell ⟨gb234, 2, none⟩ (.int .i64 ((rd_T43 l1 x18_1).f2))).setCell ⟨gb234, 3, none⟩ (.string ((rd_T43 l1 x18_1).f3))).heap[gb234]? = some (.cells #[.int .i64 ((rd_T43 l1 x18_1).f0), .int .i64 ((rd_T43 l1 x18_1).f1), .int .i64 ((rd_T43 l1 x18_1).f2), .string ((rd_T43 l1 x18_1).f3)] 43 (0, 0))) := ⟨by (with_reducible repeat (first | refine blk_drewN ?_ _ | refine blk_drew ?_ | refine blk_alloc ?_ _)); refine blk_put (cs := #[.int .i64 ((rd_T43 l1 x18_1).f0), .int .i64 ((rd_T43 l1 x18_1).f1), .int .i64 ((rd_T43 l1 x18_1).f2), .string (⟨#[]⟩ : ByteArray)]) ?_ 3 _ rfl; (with_reducible repeat (first | refine blk_drewN ?_ _ | refine blk_drew ?_ | refine blk_alloc ?_ _)); refine blk_put (cs := #[.int .i64 ((rd_T43 l1 x18_1).f0), .int .i64 ((rd_T43 l1 x18_1).f1), .int .i64 0, .string (⟨#[]⟩ : ByteArray)]) ?_ 2 _ rfl; (with_reducible repeat (first | refine blk_drewN ?_ _ | refine blk_drew ?_ | refine blk_alloc ?_ _)); refine blk_put (cs := #[.int .i64 ((rd_T43 l1 x18_1).f0), .int .i64 0, .int .i64 0, .string (⟨#[]⟩ : ByteArray)]) ?_ 1 _ rfl; (with_reducible repeat (first | refine blk_drewN ?_ _ | refine blk_drew ?_ | refine blk_alloc ?_ _)); refine blk_put (cs := #[.int .i64 0, .int .i64 0, .int .i64 0, .string (⟨#[]⟩ : ByteArray)]) ?_ 0 _ rfl; (with_reducible repeat (first | refine blk_drewN ?_ _ | refine blk_drew ?_ | refine blk_alloc ?_ _)); exact BK234.out⟩
         have n2_ : Aside0 (Below w.heap.size w ((((w12.setCell ⟨gb234, 0, none⟩ (.int .i64 ((rd_T43 l1 x18_1).f0))).setCell ⟨gb234, 1, none⟩ (.int .i64 ((rd_T43 l1 x18_1).f1))).setCell ⟨gb234, 2, none⟩ (.int .i64 ((rd_T43 l1 x18_1).f2))).setCell ⟨gb234, 3, none⟩ (.string ((rd_T43 l1 x18_1).f3)))) := ⟨by repeat (first | (with_reducible first | exact HB.out | apply below_alloc | apply pw_below_drewN | apply below_drew1 | refine below_set ?_ GE234.out) | exact HB.out)⟩
         (try clear HO_6)
         (try clear BK234)
         (try clear HB)
         generalize ((((w12.setCell ⟨gb234, 0, none⟩ (.int .i64 ((rd_T43 l1 x18_1).f0))).setCell ⟨gb234, 1, none⟩ (.int .i64 ((rd_T43 l1 x18_1).f1))).setCell ⟨gb234, 2, none⟩ (.int .i64 ((rd_T43 l1 x18_1).f2))).setCell ⟨gb234, 3, none⟩ (.string ((rd_T43 l1 x18_1).f3))) = w21 at n0_ n1_ n2_ ⊢
         have HO_6 := n0_
         have BK234 := n1_
         have HB := n2_
         clear n0_ n1_ n2_
         have n0_ := Aside0.mk (Kd.R_drew HO_6.out)
         have n1_ := Aside0.mk (blk_drew BK234.out)
         have n2_ := Aside0.mk (below_drew1 HB.out)
         clear HO_6
         clear BK234
         clear HB
         have HO_6 := n0_
         have BK234 := n1_
         have HB := n2_
         clear n0_ n1_ n2_
         refine start_ (n := 12) (S := fun w' => True) (ds := []) #[false, false, false, false, false, false, false, false, false, false, false, false] (by kernel_rfl) rfl rfl trivial (fun hHeld => ?_); refine with_tabW impl_TidyOps.tab8 impl_TidyOps.bits8 (fun HT_ HW_ => ?_)
         generalize w21.drew = w22 at HO_6 BK234 HB hHeld ⊢
         refine pure_ (i := 0) (N := some 25) (v := ?_) (a' := ?_) #[true, false, false, false, false, false, false, false, false, false, false, false] rfl rfl (any_of HT_.out (by kernel_rfl)) (fun _ _ _ h => h) (Or.inl ⟨by rfl, ?_⟩) ?_ ?_
         rotate_left
         ·intro w'
          go_simp
          with_reducible rfl
         rotate_left
         ·simp only [Act.put, List.setIfInBounds_toArray, List.set_cons_zero, List.set_cons_succ, i64_w, i32_w]
          rfl
         refine pure_ (i := 1) (N := some 26) (v := ?_) (a' := ?_) #[true, true, false, false, false, false, false, false, false, false, false, false] rfl rfl (any_of HT_.out (by kernel_rfl)) (fun _ _ _ h => h) (Or.inl ⟨by rfl, ?_⟩) ?_ ?_
         rotate_left
         ·intro w'
          go_simp
          with_reducible rfl
         rotate_left
         ·simp only [Act.put, List.setIfInBounds_toArray, List.set_cons_zero, List.set_cons_succ, i64_w, i32_w]
          rfl
         refine pure_ (i := 2) (N := some 27) (v := ?_) (a' := ?_) #[true, true, true, false, false, false, false, false, false, false, false, false] rfl rfl (any_of HT_.out (by kernel_rfl)) (fun _ _ _ h => h) (Or.inl ⟨by rfl, ?_⟩) ?_ ?_
         rotate_left
         ·intro w'
          go_simp
          with_reducible rfl
         rotate_left
         ·simp only [Act.put, List.setIfInBounds_toArray, List.set_cons_zero, List.set_cons_succ, i64_w, i32_w]
          rfl
         refine pure_ (i := 3) (N := some 28) (v := undef) (a' := ?_) #[true, true, true, true, false, false, false, false, false, false, false, false] rfl rfl (any_of HT_.out (by kernel_rfl)) (fun _ _ _ h => h) (Or.inr ⟨by rfl, rfl⟩) ?_ ?_
         rotate_left
         ·simp only [Act.put, List.setIfInBounds_toArray, List.set_cons_zero, List.set_cons_succ, i64_w, i32_w]
          rfl
         refine pure_ (i := 4) (N := some 29) (v := undef) (a' := ?_) #[true, true, true, true, true, false, false, false, false, false, false, false] rfl rfl (any_of HT_.out (by kernel_rfl)) (fun _ _ _ h => h) (Or.inr ⟨by rfl, rfl⟩) ?_ ?_
         rotate_left
         ·simp only [Act.put, List.setIfInBounds_toArray, List.set_cons_zero, List.set_cons_succ, i64_w, i32_w]
          rfl
         refine pure_ (i := 5) (N := some 30) (v := undef) (a' := ?_) #[true, true, true, true, true, true, false, false, false, false, false, false] rfl rfl (any_of HT_.out (by kernel_rfl)) (fun _ _ _ h => h) (Or.inr ⟨by rfl, rfl⟩) ?_ ?_
         rotate_left
         ·simp only [Act.put, List.setIfInBounds_toArray, List.set_cons_zero, List.set_cons_succ, i64_w, i32_w]
          rfl
         refine pure_ (i := 6) (N := some 31) (v := undef) (a' := ?_) #[true, true, true, true, true, true, true, false, false, false, false, false] rfl rfl (any_of HT_.out (by kernel_rfl)) (fun _ _ _ h => h) (Or.inr ⟨by rfl, rfl⟩) ?_ ?_
         rotate_left
         ·simp only [Act.put, List.setIfInBounds_toArray, List.set_cons_zero, List.set_cons_succ, i64_w, i32_w]
          rfl
         refine pure_ (i := 7) (N := some 32) (v := undef) (a' := ?_) #[true, true, true, true, true, true, true, true, false, false, false, false] rfl rfl (any_of HT_.out (by kernel_rfl)) (fun _ _ _ h => h) (Or.inr ⟨by rfl, rfl⟩) ?_ ?_
         rotate_left
         ·simp only [Act.put, List.setIfInBounds_toArray, List.set_cons_zero, List.set_cons_succ, i64_w, i32_w]
          rfl
         refine pure_ (i := 8) (N := some 33) (v := undef) (a' := ?_) #[true, true, true, true, true, true, true, true, true, false, false, false] rfl rfl (any_of HT_.out (by kernel_rfl)) (fun _ _ _ h => h) (Or.inr ⟨by rfl, rfl⟩) ?_ ?_
         rotate_left
         ·simp only [Act.put, List.setIfInBounds_toArray, List.set_cons_zero, List.set_cons_succ, i64_w, i32_w]
          rfl
         refine pure_ (i := 9) (N := some 34) (v := undef) (a' := ?_) #[true, true, true, true, true, true, true, true, true, true, false, false] rfl rfl (any_of HT_.out (by kernel_rfl)) (fun _ _ _ h => h) (Or.inr ⟨by rfl, rfl⟩) ?_ ?_
         rotate_left
         ·simp only [Act.put, List.setIfInBounds_toArray, List.set_cons_zero, List.set_cons_succ, i64_w, i32_w]
          rfl
         refine pure_ (i := 10) (N := some 35) (v := undef) (a' := ?_) #[true, true, true, true, true, true, true, true, true, true, true, false] rfl rfl (any_of HT_.out (by kernel_rfl)) (fun _ _ _ h => h) (Or.inr ⟨by rfl, rfl⟩) ?_ ?_
         rotate_left
         ·simp only [Act.put, List.setIfInBounds_toArray, List.set_cons_zero, List.set_cons_succ, i64_w, i32_w]
          rfl
         refine pure_ (i := 11) (N := some 36) (v := ?_) (a' := ?_) #[true, true, true, true, true, true, true, true, true, true, true, true] rfl rfl (any_of HT_.out (by kernel_rfl)) (fun _ _ _ h => h) (Or.inl ⟨by rfl, ?_⟩) ?_ ?_
         rotate_left
         ·intro w'
          go_simp
          with_reducible rfl
         rotate_left
         ·simp only [Act.put, List.setIfInBounds_toArray, List.set_cons_zero, List.set_cons_succ, i64_w, i32_w]
          rfl
         refine done_ (done_of HT_.out (by kernel_rfl)) ?_
         try go_wp2
         go_meet
         case rel => exact ⟨_, (false), (by first | rfl | (simp; done) | (simp [*]; done)), H', ⟨by have := HK1.out; first | omega | exact Nat.le_refl _⟩, ⟨by (with_reducible repeat (first | apply Kd.R_alloc | apply Kd.R_drewN | apply Kd.R_drew)); exact HO_6.out⟩, ⟨by (with_reducible repeat (first | refine blk_drewN ?_ _ | refine blk_drew ?_ | refine blk_alloc ?_ _)); exact BK234.out⟩, ⟨by repeat (first | (with_reducible first | exact HB.out | apply below_alloc | apply pw_below_drewN | apply below_drew1 | refine below_set ?_ GE234.out) | exact HB.out)⟩⟩
       case rest =>
        clear HC11
        try clear c1
        try clear c2
        try clear p2
        try clear q2
        try clear hx2
        try clear c3
        try clear c4
        try clear p6
        try clear c8
        try clear c8b0
        try clear c9
        try clear c9b0
        try clear c10
        try clear c10b0
        try clear c15
        try clear c15b0
        try clear c17
        try clear c17b0
        try clear c18
        try clear c18b0
        try clear c21
        try clear hcz13_0
        try clear hcz13_1
        try clear hcz13_2
        try clear hcz13_3
        try clear hfz13_0
        try clear hfz13_1
        try clear hfz13_2
        try clear hfz13_3
        try clear hx233_0
        try clear hx233_1
        try clear hx233_2
        try clear hx233_3
        try clear hx235_0
        try clear hx235_1
        try clear hx235_2
        try clear hx235_3
        try clear p2
        try clear p233
        try clear p235
        try clear q233
        try clear q235
        obtain ⟨kq, x36_10, rfl, HA, HJ10, HO_6, BK234, HB⟩ := hcut
        cases kq with
        | zero => exact absurd HA.out (by simp [impl_TidyOps.j1])
        | succ kj10 =>
         have H := HA.out
         clear HA
         simp only [impl_TidyOps.j1] at H
         by_cases c23 : x36_10 = true
         ·subst c23
          have H1 : (if 0 ≤ (wrap64 ((x6_1.length : Int) - 1)) then (if (wrap64 ((x6_1.length : Int) - 1)) < (x6_1.length : Int) then (if ((rd_T43 l1 x18_1).f0) = 2 then (if ((rd_T43 x6_1 (wrap64 ((x6_1.length : Int) - 1))).f3).size + ((rd_T43 l1 x18_1).f3).size ≤ 9223372036854775807 then (impl_TidyOps.l0 kj10 (x6_1.set ((wrap64 ((x6_1.length : Int) - 1)) : Int).toNat (⟨(rd_T43 x6_1 (wrap64 ((x6_1.length : Int) - 1))).f0, (rd_T43 x6_1 (wrap64 ((x6_1.length : Int) - 1))).f1, (rd_T43 x6_1 (wrap64 ((x6_1.length : Int) - 1))).f2, ((rd_T43 x6_1 (wrap64 ((x6_1.length : Int) - 1))).f3) ++ ((rd_T43 l1 x18_1).f3)⟩ : S43)) l1 (l1.length : Int) (wrap64 (x18_1 + 1))) else (none)) else (if (wrap64 (((rd_T43 x6_1 (wrap64 ((x6_1.length : Int) - 1))).f1) + ((rd_T43 x6_1 (wrap64 ((x6_1.length : Int) - 1))).f2))) = ((rd_T43 l1 x18_1).f1) then (impl_TidyOps.l0 kj10 (x6_1.set ((wrap64 ((x6_1.length : Int) - 1)) : Int).toNat (⟨(rd_T43 x6_1 (wrap64 ((x6_1.length : Int) - 1))).f0, (rd_T43 x6_1 (wrap64 ((x6_1.length : Int) - 1))).f1, wrap64 (((rd_T43 x6_1 (wrap64 ((x6_1.length : Int) - 1))).f2) + ((rd_T43 l1 x18_1).f2)), (rd_T43 x6_1 (wrap64 ((x6_1.length : Int) - 1))).f3⟩ : S43)) l1 (l1.length : Int) (wrap64 (x18_1 + 1))) else (if x6_1.length < 3518437208883 then (impl_TidyOps.l0 kj10 (x6_1 ++ [(⟨((rd_T43 l1 x18_1).f0), ((rd_T43 l1 x18_1).f1), ((rd_T43 l1 x18_1).f2), ((rd_T43 l1 x18_1).f3)⟩ : S43)]) l1 (l1.length : Int) (wrap64 (x18_1 + 1))) else (none)))) else (none)) else (none)) = some (r1, r2) := by rw [if_pos rfl] at H; exact H
          clear H
          have H := H1
          clear H1
          obtain ⟨ji24, hji24⟩ : ∃ j_ : Int, (wrap64 ((x6_1.length : Int) - 1)) = j_ := ⟨_, rfl⟩
          replace H : (if 0 ≤ (ji24) then (if (ji24) < (x6_1.length : Int) then (if ((rd_T43 l1 x18_1).f0) = 2 then (if ((rd_T43 x6_1 (ji24)).f3).size + ((rd_T43 l1 x18_1).f3).size ≤ 9223372036854775807 then (impl_TidyOps.l0 kj10 (x6_1.set ((ji24) : Int).toNat (⟨(rd_T43 x6_1 (ji24)).f0, (rd_T43 x6_1 (ji24)).f1, (rd_T43 x6_1 (ji24)).f2, ((rd_T43 x6_1 (ji24)).f3) ++ ((rd_T43 l1 x18_1).f3)⟩ : S43)) l1 (l1.length : Int) (wrap64 (x18_1 + 1))) else (none)) else (if (wrap64 (((rd_T43 x6_1 (ji24)).f1) + ((rd_T43 x6_1 (ji24)).f2))) = ((rd_T43 l1 x18_1).f1) then (impl_TidyOps.l0 kj10 (x6_1.set ((ji24) : Int).toNat (⟨(rd_T43 x6_1 (ji24)).f0, (rd_T43 x6_1 (ji24)).f1, wrap64 (((rd_T43 x6_1 (ji24)).f2) + ((rd_T43 l1 x18_1).f2)), (rd_T43 x6_1 (ji24)).f3⟩ : S43)) l1 (l1.length : Int) (wrap64 (x18_1 + 1))) else (if x6_1.length < 3518437208883 then (impl_TidyOps.l0 kj10 (x6_1 ++ [(⟨((rd_T43 l1 x18_1).f0), ((rd_T43 l1 x18_1).f1), ((rd_T43 l1 x18_1).f2), ((rd_T43 l1 x18_1).f3)⟩ : S43)]) l1 (l1.length : Int) (wrap64 (x18_1 + 1))) else (none)))) else (none)) else (none)) = some (r1, r2) := by first | (rw [hji24] at H; exact H) | (simp only [hji24] at H ⊢; exact H)
          have hji24w : (IntKind.i64.wrap ((x6_1.length : Int) - 1)) = ji24 := (i64_w _).trans hji24
          by_cases c25 : 0 ≤ (ji24)
          ·rw [if_pos c25] at H
           have c25b0 : decide (0 ≤ (ji24)) = true := decide_eq_true c25
           clear c25
           by_cases c26 : (ji24) < (x6_1.length : Int)
           ·rw [if_pos c26] at H
            have c26b0 : decide ((ji24) < (x6_1.length : Int)) = true := decide_eq_true c26
            clear c26
            by_cases c28 : ((rd_T43 l1 x18_1).f0) = 2
            ·rw [if_pos c28] at H
             have c28b0 : (((rd_T43 l1 x18_1).f0) == 2) = true := beq_iff_eq.mpr c28
             have c28b1 : (((rd_T43 l1 x18_1).f0) != 2) = false := bne_eq_false_iff_eq.mpr c28
             clear c28
             by_cases c30 : ((rd_T43 x6_1 (ji24)).f3).size + ((rd_T43 l1 x18_1).f3).size ≤ 9223372036854775807
             ·rw [if_pos c30] at H
              have c30b0 := eq_true c30
              have c30b1 : decide (((rd_T43 x6_1 (ji24)).f3).size + ((rd_T43 l1 x18_1).f3).size ≤ 9223372036854775807) = true := decide_eq_true c30
              try have c30b2 : (9223372036854775807 < ((rd_T43 x6_1 (ji24)).f3).size + ((rd_T43 l1 x18_1).f3).size) = False := eq_false (Nat.not_lt.2 c30)
              obtain ⟨y236, hy236⟩ : ∃ y_ : List (S43), y_ = (x6_1.set ((ji24) : Int).toNat (⟨(rd_T43 x6_1 (ji24)).f0, (rd_T43 x6_1 (ji24)).f1, (rd_T43 x6_1 (ji24)).f2, ((rd_T43 x6_1 (ji24)).f3) ++ ((rd_T43 l1 x18_1).f3)⟩ : S43)) := ⟨_, rfl⟩
              replace H : (impl_TidyOps.l0 kj10 y236 l1 (l1.length : Int) (wrap64 (x18_1 + 1))) = some (r1, r2) := by first | (rw [hy236]; with_reducible exact H) | (have H2_ := (Option.bind_some _ _).symm.trans H; rw [hy236]; with_reducible exact H2_) | (have H2_ := (Option.bind_some _ _).symm.trans H; with_reducible exact H2_) | with_reducible exact H | (rw [hy236]; exact H) | exact H
              have Ny236 := Aside0.mk hy236
              clear hy236
              have H' := Aside0.mk H
              clear H
              have p27 : 0 ≤ ((ji24) : Int) := of_decide_eq_true (by first | (with_reducible assumption) | assumption)
              have q27 : ((ji24) : Int) < ((x6_1.length : Int) : Int) := of_decide_eq_true (by first | (with_reducible assumption) | assumption)
              obtain ⟨go27, co27, eo27, gb27, gl27, cl27, HG27⟩ := Kd.R_form HO_6.out (by omega)
              (first | cases eo27 | (injection eo27 with ea_ en_ ec_; (first | subst ea_ | (injection ea_ with ea_; subst ea_)); subst ec_; clear en_))
              have GB27 := Aside0.mk gb27
              have GG27 := Aside0.mk HG27
              clear gb27 gl27 HG27
              obtain ⟨ce27, hcl27, hM27, hcc27, hfr27⟩ := Kd.R_elem HO_6.out z43 ((ji24) : Int) p27 q27
              obtain rfl := k43_openM hM27
              have hx27_0 : wc.cell? ⟨go27, ((ji24) : Int).toNat * 4, none⟩ = some (.int .i64 ((rd_T43 x6_1 (ji24)).f0)) := hcc27 0 _ rfl
              have hx27_1 : wc.cell? ⟨go27, ((ji24) : Int).toNat * 4 + 1, none⟩ = some (.int .i64 ((rd_T43 x6_1 (ji24)).f1)) := hcc27 1 _ rfl
              have hx27_2 : wc.cell? ⟨go27, ((ji24) : Int).toNat * 4 + 2, none⟩ = some (.int .i64 ((rd_T43 x6_1 (ji24)).f2)) := hcc27 2 _ rfl
              have hx27_3 : wc.cell? ⟨go27, ((ji24) : Int).toNat * 4 + 3, none⟩ = some (.string ((rd_T43 x6_1 (ji24)).f3)) := hcc27 3 _ rfl
              have hf27_0 : wc.frozen? ⟨go27, ((ji24) : Int).toNat * 4, none⟩ = false := hfr27 0
              have hf27_1 : wc.frozen? ⟨go27, ((ji24) : Int).toNat * 4 + 1, none⟩ = false := hfr27 1
              have hf27_2 : wc.frozen? ⟨go27, ((ji24) : Int).toNat * 4 + 2, none⟩ = false := hfr27 2
              have hf27_3 : wc.frozen? ⟨go27, ((ji24) : Int).toNat * 4 + 3, none⟩ = false := hfr27 3
              clear hcl27 hcc27 hfr27 hM27
              replace p27 := eq_true p27
              replace q27 := eq_true q27
              have hcz32_0 : wc.cell? ⟨gb234, 0, none⟩ = some (.int .i64 ((rd_T43 l1 x18_1).f0)) := (blk_cell BK234.out 0).trans rfl
              have hcz32_1 : wc.cell? ⟨gb234, 1, none⟩ = some (.int .i64 ((rd_T43 l1 x18_1).f1)) := (blk_cell BK234.out 1).trans rfl
              have hcz32_2 : wc.cell? ⟨gb234, 2, none⟩ = some (.int .i64 ((rd_T43 l1 x18_1).f2)) := (blk_cell BK234.out 2).trans rfl
              have hcz32_3 : wc.cell? ⟨gb234, 3, none⟩ = some (.string ((rd_T43 l1 x18_1).f3)) := (blk_cell BK234.out 3).trans rfl
              have hfz32_0 := blk_frozen BK234.out 0
              have hfz32_1 := blk_frozen BK234.out 1
              have hfz32_2 := blk_frozen BK234.out 2
              have hfz32_3 := blk_frozen BK234.out 3
              try go_wp2
              have n0_ := Aside0.mk (Kd.R_drew HO_6.out)
              have n1_ := Aside0.mk (blk_drew BK234.out)
              have n2_ := Aside0.mk (below_drew1 HB.out)
              clear HO_6
              clear BK234
              clear HB
              have HO_6 := n0_
              have BK234 := n1_
              have HB := n2_
              clear n0_ n1_ n2_
              have p29 : 0 ≤ ((ji24) : Int) := of_decide_eq_true (by first | (with_reducible assumption) | assumption)
              have q29 : ((ji24) : Int) < ((x6_1.length : Int) : Int) := of_decide_eq_true (by first | (with_reducible assumption) | assumption)
              obtain ⟨ce29, hcl29, hM29, hcc29, hfr29⟩ := Kd.R_elem HO_6.out z43 ((ji24) : Int) p29 q29
              obtain rfl := k43_openM hM29
              have hx29_0 : World.cell? _ ⟨go27, ((ji24) : Int).toNat * 4, none⟩ = some (.int .i64 ((rd_T43 x6_1 (ji24)).f0)) := hcc29 0 _ rfl
              have hx29_1 : World.cell? _ ⟨go27, ((ji24) : Int).toNat * 4 + 1, none⟩ = some (.int .i64 ((rd_T43 x6_1 (ji24)).f1)) := hcc29 1 _ rfl
              have hx29_2 : World.cell? _ ⟨go27, ((ji24) : Int).toNat * 4 + 2, none⟩ = some (.int .i64 ((rd_T43 x6_1 (ji24)).f2)) := hcc29 2 _ rfl
              have hx29_3 : World.cell? _ ⟨go27, ((ji24) : Int).toNat * 4 + 3, none⟩ = some (.string ((rd_T43 x6_1 (ji24)).f3)) := hcc29 3 _ rfl
              have hf29_0 : World.frozen? _ ⟨go27, ((ji24) : Int).toNat * 4, none⟩ = false := hfr29 0
              have hf29_1 : World.frozen? _ ⟨go27, ((ji24) : Int).toNat * 4 + 1, none⟩ = false := hfr29 1
              have hf29_2 : World.frozen? _ ⟨go27, ((ji24) : Int).toNat * 4 + 2, none⟩ = false := hfr29 2
              have hf29_3 : World.frozen? _ ⟨go27, ((ji24) : Int).toNat * 4 + 3, none⟩ = false := hfr29 3
              clear hcl29 hcc29 hfr29 hM29
              replace p29 := eq_true p29
              replace q29 := eq_true q29
              have p31 : 0 ≤ ((ji24) : Int) := of_decide_eq_true (by first | (with_reducible assumption) | assumption)
              have q31 : ((ji24) : Int) < ((x6_1.length : Int) : Int) := of_decide_eq_true (by first | (with_reducible assumption) | assumption)
              obtain ⟨ce31, hcl31, hM31, hcc31, hfr31⟩ := Kd.R_elem HO_6.out z43 ((ji24) : Int) p31 q31
              obtain rfl := k43_openM hM31
              have hx31_0 : World.cell? _ ⟨go27, ((ji24) : Int).toNat * 4, none⟩ = some (.int .i64 ((rd_T43 x6_1 (ji24)).f0)) := hcc31 0 _ rfl
              have hx31_1 : World.cell? _ ⟨go27, ((ji24) : Int).toNat * 4 + 1, none⟩ = some (.int .i64 ((rd_T43 x6_1 (ji24)).f1)) := hcc31 1 _ rfl
              have hx31_2 : World.cell? _ ⟨go27, ((ji24) : Int).toNat * 4 + 2, none⟩ = some (.int .i64 ((rd_T43 x6_1 (ji24)).f2)) := hcc31 2 _ rfl
              have hx31_3 : World.cell? _ ⟨go27, ((ji24) : Int).toNat * 4 + 3, none⟩ = some (.string ((rd_T43 x6_1 (ji24)).f3)) := hcc31 3 _ rfl
              have hf31_0 : World.frozen? _ ⟨go27, ((ji24) : Int).toNat * 4, none⟩ = false := hfr31 0
              have hf31_1 : World.frozen? _ ⟨go27, ((ji24) : Int).toNat * 4 + 1, none⟩ = false := hfr31 1
              have hf31_2 : World.frozen? _ ⟨go27, ((ji24) : Int).toNat * 4 + 2, none⟩ = false := hfr31 2
              have hf31_3 : World.frozen? _ ⟨go27, ((ji24) : Int).toNat * 4 + 3, none⟩ = false := hfr31 3
              clear hcl31 hcc31 hfr31 hM31
              replace p31 := eq_true p31
              replace q31 := eq_true q31
              obtain ⟨ce34, hcl34, hM34, hcc34, hfr34⟩ := Kd.R_elem HO_6.out z43 ((ji24) : Int) (of_decide_eq_true (by first | (with_reducible assumption) | assumption)) (by have h_ : ((ji24) : Int) < ((x6_1.length : Int) : Int) := of_decide_eq_true (by first | (with_reducible assumption) | assumption); first | exact h_ | (have e_ := (Kd.R_reads' HO_6.out).1; omega) | simpa using h_)
              obtain rfl := k43_openM hM34
              have HP34 := (Kd.R_seg HO_6.out ((ji24) : Int) (of_decide_eq_true (by first | (with_reducible assumption) | assumption)) (by have h_ : ((ji24) : Int) < ((x6_1.length : Int) : Int) := of_decide_eq_true (by first | (with_reducible assumption) | assumption); first | exact h_ | (have e_ := (Kd.R_reads' HO_6.out).1; omega) | simpa using h_) (seg := [.string (((rd_T43 x6_1 (ji24)).f3) ++ ((rd_T43 l1 x18_1).f3))]) (j := 3) hcl34 hcc34 (show 4 ≤ 4 from by decide) (x' := (⟨(rd_T43 x6_1 (ji24)).f0, (rd_T43 x6_1 (ji24)).f1, (rd_T43 x6_1 (ji24)).f2, ((rd_T43 x6_1 (ji24)).f3) ++ ((rd_T43 l1 x18_1).f3)⟩ : S43)) (k43_mkM _ _ _ (⟨(rd_T43 x6_1 (ji24)).f0, (rd_T43 x6_1 (ji24)).f1, (rd_T43 x6_1 (ji24)).f2, ((rd_T43 x6_1 (ji24)).f3) ++ ((rd_T43 l1 x18_1).f3)⟩ : S43) ) (fun _ hk => hk)).1
              rw [← Ny236.out] at HP34
              have HQ34 := Aside0.mk HP34
              clear hcl34 hcc34 hfr34 hM34 HP34
              refine start_ (n := 10) (S := fun w' => w'.cell? ⟨gb234, 0, none⟩ = some (.int .i64 ((rd_T43 l1 x18_1).f0)) ∧ w'.cell? ⟨gb234, 1, none⟩ = some (.int .i64 ((rd_T43 l1 x18_1).f1)) ∧ w'.cell? ⟨gb234, 2, none⟩ = some (.int .i64 ((rd_T43 l1 x18_1).f2)) ∧ w'.cell? ⟨gb234, 3, none⟩ = some (.string ((rd_T43 l1 x18_1).f3)) ∧ w'.cell? ⟨go27, ((ji24) : Int).toNat * 4, none⟩ = some (.int .i64 ((rd_T43 x6_1 (ji24)).f0)) ∧ w'.cell? ⟨go27, ((ji24) : Int).toNat * 4 + 1, none⟩ = some (.int .i64 ((rd_T43 x6_1 (ji24)).f1)) ∧ w'.cell? ⟨go27, ((ji24) : Int).toNat * 4 + 2, none⟩ = some (.int .i64 ((rd_T43 x6_1 (ji24)).f2)) ∧ w'.cell? ⟨go27, ((ji24) : Int).toNat * 4 + 3, none⟩ = some (.string ((rd_T43 x6_1 (ji24)).f3))) (ds := [9]) #[false, false, false, false, false, false, false, false, false, false] (by kernel_rfl) rfl rfl ⟨(blk_cell BK234.out 0).trans rfl, (blk_cell BK234.out 1).trans rfl, (blk_cell BK234.out 2).trans rfl, (blk_cell BK234.out 3).trans rfl, hx29_0, hx29_1, hx29_2, hx29_3⟩ (fun hHeld => ?_); refine with_tabW impl_TidyOps.tab11 impl_TidyOps.bits11 (fun HT_ HW_ => ?_)
              generalize wc.drew = w33 at HO_6 BK234 HB HQ34 hf29_0 hf29_1 hf29_2 hf29_3 hf31_0 hf31_1 hf31_2 hf31_3 hx29_0 hx29_1 hx29_2 hx29_3 hx31_0 hx31_1 hx31_2 hx31_3 hHeld ⊢
              refine pure_ (i := 0) (N := some 43) (v := ?_) (a' := ?_) #[true, false, false, false, false, false, false, false, false, false] rfl rfl (any_of HT_.out (by kernel_rfl)) (fun _ _ _ h => h) (Or.inl ⟨by rfl, ?_⟩) ?_ ?_
              rotate_left
              ·intro w'
               go_simp
               with_reducible rfl
              rotate_left
              ·simp only [Act.put, List.setIfInBounds_toArray, List.set_cons_zero, List.set_cons_succ, i64_w, i32_w]
               rfl
              refine pure_ (i := 1) (N := some 44) (v := ?_) (a' := ?_) #[true, true, false, false, false, false, false, false, false, false] rfl rfl (any_of HT_.out (by kernel_rfl)) (fun _ _ _ h => h) (Or.inl ⟨by rfl, ?_⟩) ?_ ?_
              rotate_left
              ·intro w'
               go_simp
               with_reducible rfl
              rotate_left
              ·simp only [Act.put, List.setIfInBounds_toArray, List.set_cons_zero, List.set_cons_succ, i64_w, i32_w]
               rfl
              refine pure_ (i := 2) (N := some 45) (v := ?_) (a' := ?_) #[true, true, true, false, false, false, false, false, false, false] rfl rfl (any_of HT_.out (by kernel_rfl)) (fun _ _ _ h => h) (Or.inl ⟨by rfl, ?_⟩) ?_ ?_
              rotate_left
              ·intro w'
               go_simp
               with_reducible rfl
              rotate_left
              ·simp only [Act.put, List.setIfInBounds_toArray, List.set_cons_zero, List.set_cons_succ, i64_w, i32_w]
               rfl
              refine pure_ (i := 4) (N := some 47) (v := ?_) (a' := ?_) #[true, true, true, false, true, false, false, false, false, false] rfl rfl (any_of HT_.out (by kernel_rfl)) (fun _ _ _ h => h) (Or.inl ⟨by rfl, ?_⟩) ?_ ?_
              rotate_left
              ·intro w'
               go_simp
               with_reducible rfl
              rotate_left
              ·simp only [Act.put, List.setIfInBounds_toArray, List.set_cons_zero, List.set_cons_succ, i64_w, i32_w]
               rfl
              refine take_ (i := 3) (N := some 46) (v := ?_) (a' := ?_) #[true, true, true, true, true, false, false, false, false, false] rfl rfl (take_ofW HT_.out HW_.out (by kernel_rfl)) (fun _ _ _ h => h) (Or.inl ⟨by rfl, ?_⟩) hHeld ?_ ?_
              rotate_left
              ·rintro w' ⟨s0, s1, s2, s3, s4, s5, s6, s7⟩
               go_simp
               with_reducible rfl
              rotate_left
              ·simp only [Act.put, List.setIfInBounds_toArray, List.set_cons_zero, List.set_cons_succ, i64_w, i32_w]
               rfl
              refine take_ (i := 5) (N := some 48) (v := ?_) (a' := ?_) #[true, true, true, true, true, true, false, false, false, false] rfl rfl (take_ofW HT_.out HW_.out (by kernel_rfl)) (fun _ _ _ h => h) (Or.inl ⟨by rfl, ?_⟩) hHeld ?_ ?_
              rotate_left
              ·rintro w' ⟨s0, s1, s2, s3, s4, s5, s6, s7⟩
               go_simp
               with_reducible rfl
              rotate_left
              ·simp only [Act.put, List.setIfInBounds_toArray, List.set_cons_zero, List.set_cons_succ, i64_w, i32_w]
               rfl
              refine pure_ (i := 6) (N := some 49) (v := ?_) (a' := ?_) #[true, true, true, true, true, true, true, false, false, false] rfl rfl (any_of HT_.out (by kernel_rfl)) (fun _ _ _ h => h) (Or.inl ⟨by rfl, ?_⟩) ?_ ?_
              rotate_left
              ·intro w'
               go_simp
               with_reducible rfl
              rotate_left
              ·simp only [Act.put, List.setIfInBounds_toArray, List.set_cons_zero, List.set_cons_succ, i64_w, i32_w]
               rfl
              refine pure_ (i := 7) (N := some 50) (v := ?_) (a' := ?_) #[true, true, true, true, true, true, true, true, false, false] rfl rfl (any_of HT_.out (by kernel_rfl)) (fun _ _ _ h => h) (Or.inl ⟨by rfl, ?_⟩) ?_ ?_
              rotate_left
              ·intro w'
               go_simp
               with_reducible rfl
              rotate_left
              ·simp only [Act.put, List.setIfInBounds_toArray, List.set_cons_zero, List.set_cons_succ, i64_w, i32_w]
               rfl
              refine pure_ (i := 8) (N := some 51) (v := ?_) (a' := ?_) #[true, true, true, true, true, true, true, true, true, false] rfl rfl (any_of HT_.out (by kernel_rfl)) (fun _ _ _ h => h) (Or.inl ⟨by rfl, ?_⟩) ?_ ?_
              rotate_left
              ·intro w'
               go_simp
               with_reducible rfl
              rotate_left
              ·simp only [Act.put, List.setIfInBounds_toArray, List.set_cons_zero, List.set_cons_succ, i64_w, i32_w]
               rfl
              refine last_ (i := 9) (N := none) #[true, true, true, true, true, true, true, true, true, true] rfl rfl (one_of HT_.out (by kernel_rfl)) (by decide) (fun K hK => ?_)
              refine skip_ (w1 := ?_) (by rfl) rfl ?_ ?_
              rotate_left
              ·go_simp
               rfl
              refine hK.out _ _ ?_
              clear hK K
              refine done_ (done_of HT_.out (by kernel_rfl)) ?_
              try go_wp2
              go_roundg kj10
              case measure => have := HK1.out; have := HJ10.out; omega
              case rel => exact ⟨(y236), (wrap64 (x18_1 + 1)), (by first | rfl | (simp; done) | (simp [*]; done)), H', ⟨by have := HK1.out; have := HJ10.out; omega⟩, ⟨by (with_reducible repeat (first | apply Kd.R_alloc | apply Kd.R_drewN | apply Kd.R_drew)); exact Kd.R_mono HQ34.out (fun _ hk => trivial)⟩, ⟨by repeat (first | (with_reducible first | exact HB.out | apply below_alloc | apply pw_below_drewN | apply below_drew1 | refine below_set ?_ GB27.out | refine below_set ?_ GE234.out) | exact HB.out)⟩⟩
             ·rw [if_neg c30] at H
              exact absurd H (by simp)
            ·rw [if_neg c28] at H
             have c28b0 : (((rd_T43 l1 x18_1).f0) == 2) = false := beq_eq_false_iff_ne.mpr c28
             have c28b1 : (((rd_T43 l1 x18_1).f0) != 2) = true := bne_iff_ne.mpr c28
             by_cases c37 : (wrap64 (((rd_T43 x6_1 (ji24)).f1) + ((rd_T43 x6_1 (ji24)).f2))) = ((rd_T43 l1 x18_1).f1)
             ·rw [if_pos c37] at H
              have c37b0 : ((wrap64 (((rd_T43 x6_1 (ji24)).f1) + ((rd_T43 x6_1 (ji24)).f2))) == ((rd_T43 l1 x18_1).f1)) = true := beq_iff_eq.mpr c37
              have c37b1 : ((wrap64 (((rd_T43 x6_1 (ji24)).f1) + ((rd_T43 x6_1 (ji24)).f2))) != ((rd_T43 l1 x18_1).f1)) = false := bne_eq_false_iff_eq.mpr c37
              clear c37
              obtain ⟨y237, hy237⟩ : ∃ y_ : List (S43), y_ = (x6_1.set ((ji24) : Int).toNat (⟨(rd_T43 x6_1 (ji24)).f0, (rd_T43 x6_1 (ji24)).f1, wrap64 (((rd_T43 x6_1 (ji24)).f2) + ((rd_T43 l1 x18_1).f2)), (rd_T43 x6_1 (ji24)).f3⟩ : S43)) := ⟨_, rfl⟩
              replace H : (impl_TidyOps.l0 kj10 y237 l1 (l1.length : Int) (wrap64 (x18_1 + 1))) = some (r1, r2) := by first | (rw [hy237]; with_reducible exact H) | (have H2_ := (Option.bind_some _ _).symm.trans H; rw [hy237]; with_reducible exact H2_) | (have H2_ := (Option.bind_some _ _).symm.trans H; with_reducible exact H2_) | with_reducible exact H | (rw [hy237]; exact H) | exact H
              have Ny237 := Aside0.mk hy237
              clear hy237
              have H' := Aside0.mk H
              clear H
              have p27 : 0 ≤ ((ji24) : Int) := of_decide_eq_true (by first | (with_reducible assumption) | assumption)
              have q27 : ((ji24) : Int) < ((x6_1.length : Int) : Int) := of_decide_eq_true (by first | (with_reducible assumption) | assumption)
              obtain ⟨go27, co27, eo27, gb27, gl27, cl27, HG27⟩ := Kd.R_form HO_6.out (by omega)
              (first | cases eo27 | (injection eo27 with ea_ en_ ec_; (first | subst ea_ | (injection ea_ with ea_; subst ea_)); subst ec_; clear en_))
              have GB27 := Aside0.mk gb27
              have GG27 := Aside0.mk HG27
              clear gb27 gl27 HG27
              obtain ⟨ce27, hcl27, hM27, hcc27, hfr27⟩ := Kd.R_elem HO_6.out z43 ((ji24) : Int) p27 q27
              obtain rfl := k43_openM hM27
              have hx27_0 : wc.cell? ⟨go27, ((ji24) : Int).toNat * 4, none⟩ = some (.int .i64 ((rd_T43 x6_1 (ji24)).f0)) := hcc27 0 _ rfl
              have hx27_1 : wc.cell? ⟨go27, ((ji24) : Int).toNat * 4 + 1, none⟩ = some (.int .i64 ((rd_T43 x6_1 (ji24)).f1)) := hcc27 1 _ rfl
              have hx27_2 : wc.cell? ⟨go27, ((ji24) : Int).toNat * 4 + 2, none⟩ = some (.int .i64 ((rd_T43 x6_1 (ji24)).f2)) := hcc27 2 _ rfl
              have hx27_3 : wc.cell? ⟨go27, ((ji24) : Int).toNat * 4 + 3, none⟩ = some (.string ((rd_T43 x6_1 (ji24)).f3)) := hcc27 3 _ rfl
              have hf27_0 : wc.frozen? ⟨go27, ((ji24) : Int).toNat * 4, none⟩ = false := hfr27 0
              have hf27_1 : wc.frozen? ⟨go27, ((ji24) : Int).toNat * 4 + 1, none⟩ = false := hfr27 1
              have hf27_2 : wc.frozen? ⟨go27, ((ji24) : Int).toNat * 4 + 2, none⟩ = false := hfr27 2
              have hf27_3 : wc.frozen? ⟨go27, ((ji24) : Int).toNat * 4 + 3, none⟩ = false := hfr27 3
              clear hcl27 hcc27 hfr27 hM27
              replace p27 := eq_true p27
              replace q27 := eq_true q27
              have hcz40_0 : wc.cell? ⟨gb234, 0, none⟩ = some (.int .i64 ((rd_T43 l1 x18_1).f0)) := (blk_cell BK234.out 0).trans rfl
              have hcz40_1 : wc.cell? ⟨gb234, 1, none⟩ = some (.int .i64 ((rd_T43 l1 x18_1).f1)) := (blk_cell BK234.out 1).trans rfl
              have hcz40_2 : wc.cell? ⟨gb234, 2, none⟩ = some (.int .i64 ((rd_T43 l1 x18_1).f2)) := (blk_cell BK234.out 2).trans rfl
              have hcz40_3 : wc.cell? ⟨gb234, 3, none⟩ = some (.string ((rd_T43 l1 x18_1).f3)) := (blk_cell BK234.out 3).trans rfl
              have hfz40_0 := blk_frozen BK234.out 0
              have hfz40_1 := blk_frozen BK234.out 1
              have hfz40_2 := blk_frozen BK234.out 2
              have hfz40_3 := blk_frozen BK234.out 3
              try go_wp2
              have n0_ := Aside0.mk (Kd.R_drew HO_6.out)
              have n1_ := Aside0.mk (blk_drew BK234.out)
              have n2_ := Aside0.mk (below_drew1 HB.out)
              clear HO_6
              clear BK234
              clear HB
              have HO_6 := n0_
              have BK234 := n1_
              have HB := n2_
              clear n0_ n1_ n2_
              have p35 : 0 ≤ ((ji24) : Int) := of_decide_eq_true (by first | (with_reducible assumption) | assumption)
              have q35 : ((ji24) : Int) < ((x6_1.length : Int) : Int) := of_decide_eq_true (by first | (with_reducible assumption) | assumption)
              obtain ⟨ce35, hcl35, hM35, hcc35, hfr35⟩ := Kd.R_elem HO_6.out z43 ((ji24) : Int) p35 q35
              obtain rfl := k43_openM hM35
              have hx35_0 : World.cell? _ ⟨go27, ((ji24) : Int).toNat * 4, none⟩ = some (.int .i64 ((rd_T43 x6_1 (ji24)).f0)) := hcc35 0 _ rfl
              have hx35_1 : World.cell? _ ⟨go27, ((ji24) : Int).toNat * 4 + 1, none⟩ = some (.int .i64 ((rd_T43 x6_1 (ji24)).f1)) := hcc35 1 _ rfl
              have hx35_2 : World.cell? _ ⟨go27, ((ji24) : Int).toNat * 4 + 2, none⟩ = some (.int .i64 ((rd_T43 x6_1 (ji24)).f2)) := hcc35 2 _ rfl
              have hx35_3 : World.cell? _ ⟨go27, ((ji24) : Int).toNat * 4 + 3, none⟩ = some (.string ((rd_T43 x6_1 (ji24)).f3)) := hcc35 3 _ rfl
              have hf35_0 : World.frozen? _ ⟨go27, ((ji24) : Int).toNat * 4, none⟩ = false := hfr35 0
              have hf35_1 : World.frozen? _ ⟨go27, ((ji24) : Int).toNat * 4 + 1, none⟩ = false := hfr35 1
              have hf35_2 : World.frozen? _ ⟨go27, ((ji24) : Int).toNat * 4 + 2, none⟩ = false := hfr35 2
              have hf35_3 : World.frozen? _ ⟨go27, ((ji24) : Int).toNat * 4 + 3, none⟩ = false := hfr35 3
              clear hcl35 hcc35 hfr35 hM35
              replace p35 := eq_true p35
              replace q35 := eq_true q35
              have p36 : 0 ≤ ((ji24) : Int) := of_decide_eq_true (by first | (with_reducible assumption) | assumption)
              have q36 : ((ji24) : Int) < ((x6_1.length : Int) : Int) := of_decide_eq_true (by first | (with_reducible assumption) | assumption)
              obtain ⟨ce36, hcl36, hM36, hcc36, hfr36⟩ := Kd.R_elem HO_6.out z43 ((ji24) : Int) p36 q36
              obtain rfl := k43_openM hM36
              have hx36_0 : World.cell? _ ⟨go27, ((ji24) : Int).toNat * 4, none⟩ = some (.int .i64 ((rd_T43 x6_1 (ji24)).f0)) := hcc36 0 _ rfl
              have hx36_1 : World.cell? _ ⟨go27, ((ji24) : Int).toNat * 4 + 1, none⟩ = some (.int .i64 ((rd_T43 x6_1 (ji24)).f1)) := hcc36 1 _ rfl
              have hx36_2 : World.cell? _ ⟨go27, ((ji24) : Int).toNat * 4 + 2, none⟩ = some (.int .i64 ((rd_T43 x6_1 (ji24)).f2)) := hcc36 2 _ rfl
              have hx36_3 : World.cell? _ ⟨go27, ((ji24) : Int).toNat * 4 + 3, none⟩ = some (.string ((rd_T43 x6_1 (ji24)).f3)) := hcc36 3 _ rfl
              have hf36_0 : World.frozen? _ ⟨go27, ((ji24) : Int).toNat * 4, none⟩ = false := hfr36 0
              have hf36_1 : World.frozen? _ ⟨go27, ((ji24) : Int).toNat * 4 + 1, none⟩ = false := hfr36 1
              have hf36_2 : World.frozen? _ ⟨go27, ((ji24) : Int).toNat * 4 + 2, none⟩ = false := hfr36 2
              have hf36_3 : World.frozen? _ ⟨go27, ((ji24) : Int).toNat * 4 + 3, none⟩ = false := hfr36 3
              clear hcl36 hcc36 hfr36 hM36
              replace p36 := eq_true p36
              replace q36 := eq_true q36
              refine start_ (n := 12) (S := fun w' => w'.cell? ⟨gb234, 0, none⟩ = some (.int .i64 ((rd_T43 l1 x18_1).f0)) ∧ w'.cell? ⟨gb234, 1, none⟩ = some (.int .i64 ((rd_T43 l1 x18_1).f1)) ∧ w'.cell? ⟨gb234, 2, none⟩ = some (.int .i64 ((rd_T43 l1 x18_1).f2)) ∧ w'.cell? ⟨gb234, 3, none⟩ = some (.string ((rd_T43 l1 x18_1).f3)) ∧ w'.cell? ⟨go27, ((ji24) : Int).toNat * 4, none⟩ = some (.int .i64 ((rd_T43 x6_1 (ji24)).f0)) ∧ w'.cell? ⟨go27, ((ji24) : Int).toNat * 4 + 1, none⟩ = some (.int .i64 ((rd_T43 x6_1 (ji24)).f1)) ∧ w'.cell? ⟨go27, ((ji24) : Int).toNat * 4 + 2, none⟩ = some (.int .i64 ((rd_T43 x6_1 (ji24)).f2)) ∧ w'.cell? ⟨go27, ((ji24) : Int).toNat * 4 + 3, none⟩ = some (.string ((rd_T43 x6_1 (ji24)).f3))) (ds := []) #[false, false, false, false, false, false, false, false, false, false, false, false] (by kernel_rfl) rfl rfl ⟨(blk_cell BK234.out 0).trans rfl, (blk_cell BK234.out 1).trans rfl, (blk_cell BK234.out 2).trans rfl, (blk_cell BK234.out 3).trans rfl, hx35_0, hx35_1, hx35_2, hx35_3⟩ (fun hHeld => ?_); refine with_tabW impl_TidyOps.tab12 impl_TidyOps.bits12 (fun HT_ HW_ => ?_)
              generalize wc.drew = w41 at HO_6 BK234 HB hf35_0 hf35_1 hf35_2 hf35_3 hf36_0 hf36_1 hf36_2 hf36_3 hx35_0 hx35_1 hx35_2 hx35_3 hx36_0 hx36_1 hx36_2 hx36_3 hHeld ⊢
              refine pure_ (i := 0) (N := some 52) (v := ?_) (a' := ?_) #[true, false, false, false, false, false, false, false, false, false, false, false] rfl rfl (any_of HT_.out (by kernel_rfl)) (fun _ _ _ h => h) (Or.inl ⟨by rfl, ?_⟩) ?_ ?_
              rotate_left
              ·intro w'
               go_simp
               with_reducible rfl
              rotate_left
              ·simp only [Act.put, List.setIfInBounds_toArray, List.set_cons_zero, List.set_cons_succ, i64_w, i32_w]
               rfl
              refine pure_ (i := 1) (N := some 53) (v := ?_) (a' := ?_) #[true, true, false, false, false, false, false, false, false, false, false, false] rfl rfl (any_of HT_.out (by kernel_rfl)) (fun _ _ _ h => h) (Or.inl ⟨by rfl, ?_⟩) ?_ ?_
              rotate_left
              ·intro w'
               go_simp
               with_reducible rfl
              rotate_left
              ·simp only [Act.put, List.setIfInBounds_toArray, List.set_cons_zero, List.set_cons_succ, i64_w, i32_w]
               rfl
              refine pure_ (i := 2) (N := some 54) (v := ?_) (a' := ?_) #[true, true, true, false, false, false, false, false, false, false, false, false] rfl rfl (any_of HT_.out (by kernel_rfl)) (fun _ _ _ h => h) (Or.inl ⟨by rfl, ?_⟩) ?_ ?_
              rotate_left
              ·intro w'
               go_simp
               with_reducible rfl
              rotate_left
              ·simp only [Act.put, List.setIfInBounds_toArray, List.set_cons_zero, List.set_cons_succ, i64_w, i32_w]
               rfl
              refine pure_ (i := 4) (N := some 56) (v := ?_) (a' := ?_) #[true, true, true, false, true, false, false, false, false, false, false, false] rfl rfl (any_of HT_.out (by kernel_rfl)) (fun _ _ _ h => h) (Or.inl ⟨by rfl, ?_⟩) ?_ ?_
              rotate_left
              ·intro w'
               go_simp
               with_reducible rfl
              rotate_left
              ·simp only [Act.put, List.setIfInBounds_toArray, List.set_cons_zero, List.set_cons_succ, i64_w, i32_w]
               rfl
              refine pure_ (i := 5) (N := some 57) (v := ?_) (a' := ?_) #[true, true, true, false, true, true, false, false, false, false, false, false] rfl rfl (any_of HT_.out (by kernel_rfl)) (fun _ _ _ h => h) (Or.inl ⟨by rfl, ?_⟩) ?_ ?_
              rotate_left
              ·intro w'
               go_simp
               with_reducible rfl
              rotate_left
              ·simp only [Act.put, List.setIfInBounds_toArray, List.set_cons_zero, List.set_cons_succ, i64_w, i32_w]
               rfl
              refine pure_ (i := 6) (N := some 58) (v := ?_) (a' := ?_) #[true, true, true, false, true, true, true, false, false, false, false, false] rfl rfl (any_of HT_.out (by kernel_rfl)) (fun _ _ _ h => h) (Or.inl ⟨by rfl, ?_⟩) ?_ ?_
              rotate_left
              ·intro w'
               go_simp
               with_reducible rfl
              rotate_left
              ·simp only [Act.put, List.setIfInBounds_toArray, List.set_cons_zero, List.set_cons_succ, i64_w, i32_w]
               rfl
              refine pure_ (i := 9) (N := some 61) (v := ?_) (a' := ?_) #[true, true, true, false, true, true, true, false, false, true, false, false] rfl rfl (any_of HT_.out (by kernel_rfl)) (fun _ _ _ h => h) (Or.inl ⟨by rfl, ?_⟩) ?_ ?_
              rotate_left
              ·intro w'
               go_simp
               with_reducible rfl
              rotate_left
              ·simp only [Act.put, List.setIfInBounds_toArray, List.set_cons_zero, List.set_cons_succ, i64_w, i32_w]
               rfl
              refine take_ (i := 3) (N := some 55) (v := ?_) (a' := ?_) #[true, true, true, true, true, true, true, false, false, true, false, false] rfl rfl (take_ofW HT_.out HW_.out (by kernel_rfl)) (fun _ _ _ h => h) (Or.inl ⟨by rfl, ?_⟩) hHeld ?_ ?_
              rotate_left
              ·rintro w' ⟨s0, s1, s2, s3, s4, s5, s6, s7⟩
               go_simp
               with_reducible rfl
              rotate_left
              ·simp only [Act.put, List.setIfInBounds_toArray, List.set_cons_zero, List.set_cons_succ, i64_w, i32_w]
               rfl
              refine take_ (i := 7) (N := some 59) (v := ?_) (a' := ?_) #[true, true, true, true, true, true, true, true, false, true, false, false] rfl rfl (take_ofW HT_.out HW_.out (by kernel_rfl)) (fun _ _ _ h => h) (Or.inl ⟨by rfl, ?_⟩) hHeld ?_ ?_
              rotate_left
              ·rintro w' ⟨s0, s1, s2, s3, s4, s5, s6, s7⟩
               go_simp
               with_reducible rfl
              rotate_left
              ·simp only [Act.put, List.setIfInBounds_toArray, List.set_cons_zero, List.set_cons_succ, i64_w, i32_w]
               rfl
              refine pure_ (i := 8) (N := some 60) (v := ?_) (a' := ?_) #[true, true, true, true, true, true, true, true, true, true, false, false] rfl rfl (any_of HT_.out (by kernel_rfl)) (fun _ _ _ h => h) (Or.inl ⟨by rfl, ?_⟩) ?_ ?_
              rotate_left
              ·intro w'
               go_simp
               with_reducible rfl
              rotate_left
              ·simp only [Act.put, List.setIfInBounds_toArray, List.set_cons_zero, List.set_cons_succ, i64_w, i32_w]
               rfl
              refine take_ (i := 10) (N := some 62) (v := ?_) (a' := ?_) #[true, true, true, true, true, true, true, true, true, true, true, false] rfl rfl (take_ofW HT_.out HW_.out (by kernel_rfl)) (fun _ _ _ h => h) (Or.inl ⟨by rfl, ?_⟩) hHeld ?_ ?_
              rotate_left
              ·rintro w' ⟨s0, s1, s2, s3, s4, s5, s6, s7⟩
               go_simp
               with_reducible rfl
              rotate_left
              ·simp only [Act.put, List.setIfInBounds_toArray, List.set_cons_zero, List.set_cons_succ, i64_w, i32_w]
               rfl
              refine pure_ (i := 11) (N := some 63) (v := ?_) (a' := ?_) #[true, true, true, true, true, true, true, true, true, true, true, true] rfl rfl (any_of HT_.out (by kernel_rfl)) (fun _ _ _ h => h) (Or.inl ⟨by rfl, ?_⟩) ?_ ?_
              rotate_left
              ·intro w'
               go_simp
               with_reducible rfl
              rotate_left
              ·simp only [Act.put, List.setIfInBounds_toArray, List.set_cons_zero, List.set_cons_succ, i64_w, i32_w]
               rfl
              refine done_ (done_of HT_.out (by kernel_rfl)) ?_
              try go_wp2
              have n0_ := Aside0.mk (Kd.R_drew HO_6.out)
              have n1_ := Aside0.mk (blk_drew BK234.out)
              have n2_ := Aside0.mk (below_drew1 HB.out)
              clear HO_6
              clear BK234
              clear HB
              have HO_6 := n0_
              have BK234 := n1_
              have HB := n2_
              clear n0_ n1_ n2_
              have p38 : 0 ≤ ((ji24) : Int) := of_decide_eq_true (by first | (with_reducible assumption) | assumption)
              have q38 : ((ji24) : Int) < ((x6_1.length : Int) : Int) := of_decide_eq_true (by first | (with_reducible assumption) | assumption)
              obtain ⟨ce38, hcl38, hM38, hcc38, hfr38⟩ := Kd.R_elem HO_6.out z43 ((ji24) : Int) p38 q38
              obtain rfl := k43_openM hM38
              have hx38_0 : World.cell? _ ⟨go27, ((ji24) : Int).toNat * 4, none⟩ = some (.int .i64 ((rd_T43 x6_1 (ji24)).f0)) := hcc38 0 _ rfl
              have hx38_1 : World.cell? _ ⟨go27, ((ji24) : Int).toNat * 4 + 1, none⟩ = some (.int .i64 ((rd_T43 x6_1 (ji24)).f1)) := hcc38 1 _ rfl
              have hx38_2 : World.cell? _ ⟨go27, ((ji24) : Int).toNat * 4 + 2, none⟩ = some (.int .i64 ((rd_T43 x6_1 (ji24)).f2)) := hcc38 2 _ rfl
              have hx38_3 : World.cell? _ ⟨go27, ((ji24) : Int).toNat * 4 + 3, none⟩ = some (.string ((rd_T43 x6_1 (ji24)).f3)) := hcc38 3 _ rfl
              have hf38_0 : World.frozen? _ ⟨go27, ((ji24) : Int).toNat * 4, none⟩ = false := hfr38 0
              have hf38_1 : World.frozen? _ ⟨go27, ((ji24) : Int).toNat * 4 + 1, none⟩ = false := hfr38 1
              have hf38_2 : World.frozen? _ ⟨go27, ((ji24) : Int).toNat * 4 + 2, none⟩ = false := hfr38 2
              have hf38_3 : World.frozen? _ ⟨go27, ((ji24) : Int).toNat * 4 + 3, none⟩ = false := hfr38 3
              clear hcl38 hcc38 hfr38 hM38
              replace p38 := eq_true p38
              replace q38 := eq_true q38
              have p39 : 0 ≤ ((ji24) : Int) := of_decide_eq_true (by first | (with_reducible assumption) | assumption)
              have q39 : ((ji24) : Int) < ((x6_1.length : Int) : Int) := of_decide_eq_true (by first | (with_reducible assumption) | assumption)
              obtain ⟨ce39, hcl39, hM39, hcc39, hfr39⟩ := Kd.R_elem HO_6.out z43 ((ji24) : Int) p39 q39
              obtain rfl := k43_openM hM39
              have hx39_0 : World.cell? _ ⟨go27, ((ji24) : Int).toNat * 4, none⟩ = some (.int .i64 ((rd_T43 x6_1 (ji24)).f0)) := hcc39 0 _ rfl
              have hx39_1 : World.cell? _ ⟨go27, ((ji24) : Int).toNat * 4 + 1, none⟩ = some (.int .i64 ((rd_T43 x6_1 (ji24)).f1)) := hcc39 1 _ rfl
              have hx39_2 : World.cell? _ ⟨go27, ((ji24) : Int).toNat * 4 + 2, none⟩ = some (.int .i64 ((rd_T43 x6_1 (ji24)).f2)) := hcc39 2 _ rfl
              have hx39_3 : World.cell? _ ⟨go27, ((ji24) : Int).toNat * 4 + 3, none⟩ = some (.string ((rd_T43 x6_1 (ji24)).f3)) := hcc39 3 _ rfl
              have hf39_0 : World.frozen? _ ⟨go27, ((ji24) : Int).toNat * 4, none⟩ = false := hfr39 0
              have hf39_1 : World.frozen? _ ⟨go27, ((ji24) : Int).toNat * 4 + 1, none⟩ = false := hfr39 1
              have hf39_2 : World.frozen? _ ⟨go27, ((ji24) : Int).toNat * 4 + 2, none⟩ = false := hfr39 2
              have hf39_3 : World.frozen? _ ⟨go27, ((ji24) : Int).toNat * 4 + 3, none⟩ = false := hfr39 3
              clear hcl39 hcc39 hfr39 hM39
              replace p39 := eq_true p39
              replace q39 := eq_true q39
              obtain ⟨ce43, hcl43, hM43, hcc43, hfr43⟩ := Kd.R_elem HO_6.out z43 ((ji24) : Int) (of_decide_eq_true (by first | (with_reducible assumption) | assumption)) (by have h_ : ((ji24) : Int) < ((x6_1.length : Int) : Int) := of_decide_eq_true (by first | (with_reducible assumption) | assumption); first | exact h_ | (have e_ := (Kd.R_reads' HO_6.out).1; omega) | simpa using h_)
              obtain rfl := k43_openM hM43
              have HP43 := (Kd.R_seg HO_6.out ((ji24) : Int) (of_decide_eq_true (by first | (with_reducible assumption) | assumption)) (by have h_ : ((ji24) : Int) < ((x6_1.length : Int) : Int) := of_decide_eq_true (by first | (with_reducible assumption) | assumption); first | exact h_ | (have e_ := (Kd.R_reads' HO_6.out).1; omega) | simpa using h_) (seg := [.int .i64 (wrap64 (((rd_T43 x6_1 (ji24)).f2) + ((rd_T43 l1 x18_1).f2)))]) (j := 2) hcl43 hcc43 (show 3 ≤ 4 from by decide) (x' := (⟨(rd_T43 x6_1 (ji24)).f0, (rd_T43 x6_1 (ji24)).f1, wrap64 (((rd_T43 x6_1 (ji24)).f2) + ((rd_T43 l1 x18_1).f2)), (rd_T43 x6_1 (ji24)).f3⟩ : S43)) (k43_mkM _ _ _ (⟨(rd_T43 x6_1 (ji24)).f0, (rd_T43 x6_1 (ji24)).f1, wrap64 (((rd_T43 x6_1 (ji24)).f2) + ((rd_T43 l1 x18_1).f2)), (rd_T43 x6_1 (ji24)).f3⟩ : S43) ) (fun _ hk => hk)).1
              rw [← Ny237.out] at HP43
              have HQ43 := Aside0.mk HP43
              clear hcl43 hcc43 hfr43 hM43 HP43
              refine start_ (n := 10) (S := fun w' => w'.cell? ⟨gb234, 0, none⟩ = some (.int .i64 ((rd_T43 l1 x18_1).f0)) ∧ w'.cell? ⟨gb234, 1, none⟩ = some (.int .i64 ((rd_T43 l1 x18_1).f1)) ∧ w'.cell? ⟨gb234, 2, none⟩ = some (.int .i64 ((rd_T43 l1 x18_1).f2)) ∧ w'.cell? ⟨gb234, 3, none⟩ = some (.string ((rd_T43 l1 x18_1).f3)) ∧ w'.cell? ⟨go27, ((ji24) : Int).toNat * 4, none⟩ = some (.int .i64 ((rd_T43 x6_1 (ji24)).f0)) ∧ w'.cell? ⟨go27, ((ji24) : Int).toNat * 4 + 1, none⟩ = some (.int .i64 ((rd_T43 x6_1 (ji24)).f1)) ∧ w'.cell? ⟨go27, ((ji24) : Int).toNat * 4 + 2, none⟩ = some (.int .i64 ((rd_T43 x6_1 (ji24)).f2)) ∧ w'.cell? ⟨go27, ((ji24) : Int).toNat * 4 + 3, none⟩ = some (.string ((rd_T43 x6_1 (ji24)).f3))) (ds := [9]) #[false, false, false, false, false, false, false, false, false, false] (by kernel_rfl) rfl rfl ⟨(blk_cell BK234.out 0).trans rfl, (blk_cell BK234.out 1).trans rfl, (blk_cell BK234.out 2).trans rfl, (blk_cell BK234.out 3).trans rfl, hx38_0, hx38_1, hx38_2, hx38_3⟩ (fun hHeld => ?_); refine with_tabW impl_TidyOps.tab13 impl_TidyOps.bits13 (fun HT_ HW_ => ?_)
              generalize w41.drew = w42 at HO_6 BK234 HB HQ43 hf38_0 hf38_1 hf38_2 hf38_3 hf39_0 hf39_1 hf39_2 hf39_3 hx38_0 hx38_1 hx38_2 hx38_3 hx39_0 hx39_1 hx39_2 hx39_3 hHeld ⊢
              refine pure_ (i := 0) (N := some 64) (v := ?_) (a' := ?_) #[true, false, false, false, false, false, false, false, false, false] rfl rfl (any_of HT_.out (by kernel_rfl)) (fun _ _ _ h => h) (Or.inl ⟨by rfl, ?_⟩) ?_ ?_
              rotate_left
              ·intro w'
               go_simp
               with_reducible rfl
              rotate_left
              ·simp only [Act.put, List.setIfInBounds_toArray, List.set_cons_zero, List.set_cons_succ, i64_w, i32_w]
               rfl
              refine pure_ (i := 1) (N := some 65) (v := ?_) (a' := ?_) #[true, true, false, false, false, false, false, false, false, false] rfl rfl (any_of HT_.out (by kernel_rfl)) (fun _ _ _ h => h) (Or.inl ⟨by rfl, ?_⟩) ?_ ?_
              rotate_left
              ·intro w'
               go_simp
               with_reducible rfl
              rotate_left
              ·simp only [Act.put, List.setIfInBounds_toArray, List.set_cons_zero, List.set_cons_succ, i64_w, i32_w]
               rfl
              refine pure_ (i := 2) (N := some 66) (v := ?_) (a' := ?_) #[true, true, true, false, false, false, false, false, false, false] rfl rfl (any_of HT_.out (by kernel_rfl)) (fun _ _ _ h => h) (Or.inl ⟨by rfl, ?_⟩) ?_ ?_
              rotate_left
              ·intro w'
               go_simp
               with_reducible rfl
              rotate_left
              ·simp only [Act.put, List.setIfInBounds_toArray, List.set_cons_zero, List.set_cons_succ, i64_w, i32_w]
               rfl
              refine pure_ (i := 4) (N := some 68) (v := ?_) (a' := ?_) #[true, true, true, false, true, false, false, false, false, false] rfl rfl (any_of HT_.out (by kernel_rfl)) (fun _ _ _ h => h) (Or.inl ⟨by rfl, ?_⟩) ?_ ?_
              rotate_left
              ·intro w'
               go_simp
               with_reducible rfl
              rotate_left
              ·simp only [Act.put, List.setIfInBounds_toArray, List.set_cons_zero, List.set_cons_succ, i64_w, i32_w]
               rfl
              refine take_ (i := 3) (N := some 67) (v := ?_) (a' := ?_) #[true, true, true, true, true, false, false, false, false, false] rfl rfl (take_ofW HT_.out HW_.out (by kernel_rfl)) (fun _ _ _ h => h) (Or.inl ⟨by rfl, ?_⟩) hHeld ?_ ?_
              rotate_left
              ·rintro w' ⟨s0, s1, s2, s3, s4, s5, s6, s7⟩
               go_simp
               with_reducible rfl
              rotate_left
              ·simp only [Act.put, List.setIfInBounds_toArray, List.set_cons_zero, List.set_cons_succ, i64_w, i32_w]
               rfl
              refine take_ (i := 5) (N := some 69) (v := ?_) (a' := ?_) #[true, true, true, true, true, true, false, false, false, false] rfl rfl (take_ofW HT_.out HW_.out (by kernel_rfl)) (fun _ _ _ h => h) (Or.inl ⟨by rfl, ?_⟩) hHeld ?_ ?_
              rotate_left
              ·rintro w' ⟨s0, s1, s2, s3, s4, s5, s6, s7⟩
               go_simp
               with_reducible rfl
              rotate_left
              ·simp only [Act.put, List.setIfInBounds_toArray, List.set_cons_zero, List.set_cons_succ, i64_w, i32_w]
               rfl
              refine pure_ (i := 6) (N := some 70) (v := ?_) (a' := ?_) #[true, true, true, true, true, true, true, false, false, false] rfl rfl (any_of HT_.out (by kernel_rfl)) (fun _ _ _ h => h) (Or.inl ⟨by rfl, ?_⟩) ?_ ?_
              rotate_left
              ·intro w'
               go_simp
               with_reducible rfl
              rotate_left
              ·simp only [Act.put, List.setIfInBounds_toArray, List.set_cons_zero, List.set_cons_succ, i64_w, i32_w]
               rfl
              refine pure_ (i := 7) (N := some 71) (v := ?_) (a' := ?_) #[true, true, true, true, true, true, true, true, false, false] rfl rfl (any_of HT_.out (by kernel_rfl)) (fun _ _ _ h => h) (Or.inl ⟨by rfl, ?_⟩) ?_ ?_
              rotate_left
              ·intro w'
               go_simp
               with_reducible rfl
              rotate_left
              ·simp only [Act.put, List.setIfInBounds_toArray, List.set_cons_zero, List.set_cons_succ, i64_w, i32_w]
               rfl
              refine pure_ (i := 8) (N := some 72) (v := ?_) (a' := ?_) #[true, true, true, true, true, true, true, true, true, false] rfl rfl (any_of HT_.out (by kernel_rfl)) (fun _ _ _ h => h) (Or.inl ⟨by rfl, ?_⟩) ?_ ?_
              rotate_left
              ·intro w'
               go_simp
               with_reducible rfl
              rotate_left
              ·simp only [Act.put, List.setIfInBounds_toArray, List.set_cons_zero, List.set_cons_succ, i64_w, i32_w]
               rfl
              refine last_ (i := 9) (N := none) #[true, true, true, true, true, true, true, true, true, true] rfl rfl (one_of HT_.out (by kernel_rfl)) (by decide) (fun K hK => ?_)
              refine skip_ (w1 := ?_) (by rfl) rfl ?_ ?_
              rotate_left
              ·go_simp
               rfl
              refine hK.out _ _ ?_
              clear hK K
              refine done_ (done_of HT_.out (by kernel_rfl)) ?_
              try go_wp2
              go_roundg kj10
              case measure => have := HK1.out; have := HJ10.out; omega
              case rel => exact ⟨(y237), (wrap64 (x18_1 + 1)), (by first | rfl | (simp; done) | (simp [*]; done)), H', ⟨by have := HK1.out; have := HJ10.out; omega⟩, ⟨by (with_reducible repeat (first | apply Kd.R_alloc | apply Kd.R_drewN | apply Kd.R_drew)); exact Kd.R_mono HQ43.out (fun _ hk => trivial)⟩, ⟨by repeat (first | (with_reducible first | exact HB.out | apply below_alloc | apply pw_below_drewN | apply below_drew1 | refine below_set ?_ GB27.out | refine below_set ?_ GE234.out) | exact HB.out)⟩⟩
             ·rw [if_neg c37] at H
              have c37b0 : ((wrap64 (((rd_T43 x6_1 (ji24)).f1) + ((rd_T43 x6_1 (ji24)).f2))) == ((rd_T43 l1 x18_1).f1)) = false := beq_eq_false_iff_ne.mpr c37
              have c37b1 : ((wrap64 (((rd_T43 x6_1 (ji24)).f1) + ((rd_T43 x6_1 (ji24)).f2))) != ((rd_T43 l1 x18_1).f1)) = true := bne_iff_ne.mpr c37
              by_cases c44 : x6_1.length < 3518437208883
              ·rw [if_pos c44] at H
               have LMc44 := Aside0.mk c44
               clear c44
               obtain ⟨y238, hy238⟩ : ∃ y_ : List (S43), y_ = (x6_1 ++ [(⟨((rd_T43 l1 x18_1).f0), ((rd_T43 l1 x18_1).f1), ((rd_T43 l1 x18_1).f2), ((rd_T43 l1 x18_1).f3)⟩ : S43)]) := ⟨_, rfl⟩
               replace H : (impl_TidyOps.l0 kj10 y238 l1 (l1.length : Int) (wrap64 (x18_1 + 1))) = some (r1, r2) := by first | (rw [hy238]; with_reducible exact H) | (have H2_ := (Option.bind_some _ _).symm.trans H; rw [hy238]; with_reducible exact H2_) | (have H2_ := (Option.bind_some _ _).symm.trans H; with_reducible exact H2_) | with_reducible exact H | (rw [hy238]; exact H) | exact H
               have Ny238 := Aside0.mk hy238
               clear hy238
               have H' := Aside0.mk H
               clear H
               have p27 : 0 ≤ ((ji24) : Int) := of_decide_eq_true (by first | (with_reducible assumption) | assumption)
               have q27 : ((ji24) : Int) < ((x6_1.length : Int) : Int) := of_decide_eq_true (by first | (with_reducible assumption) | assumption)
               obtain ⟨go27, co27, eo27, gb27, gl27, cl27, HG27⟩ := Kd.R_form HO_6.out (by omega)
               (first | cases eo27 | (injection eo27 with ea_ en_ ec_; (first | subst ea_ | (injection ea_ with ea_; subst ea_)); subst ec_; clear en_))
               have GB27 := Aside0.mk gb27
               have GG27 := Aside0.mk HG27
               clear gb27 gl27 HG27
               obtain ⟨ce27, hcl27, hM27, hcc27, hfr27⟩ := Kd.R_elem HO_6.out z43 ((ji24) : Int) p27 q27
               obtain rfl := k43_openM hM27
               have hx27_0 : wc.cell? ⟨go27, ((ji24) : Int).toNat * 4, none⟩ = some (.int .i64 ((rd_T43 x6_1 (ji24)).f0)) := hcc27 0 _ rfl
               have hx27_1 : wc.cell? ⟨go27, ((ji24) : Int).toNat * 4 + 1, none⟩ = some (.int .i64 ((rd_T43 x6_1 (ji24)).f1)) := hcc27 1 _ rfl
               have hx27_2 : wc.cell? ⟨go27, ((ji24) : Int).toNat * 4 + 2, none⟩ = some (.int .i64 ((rd_T43 x6_1 (ji24)).f2)) := hcc27 2 _ rfl
               have hx27_3 : wc.cell? ⟨go27, ((ji24) : Int).toNat * 4 + 3, none⟩ = some (.string ((rd_T43 x6_1 (ji24)).f3)) := hcc27 3 _ rfl
               have hf27_0 : wc.frozen? ⟨go27, ((ji24) : Int).toNat * 4, none⟩ = false := hfr27 0
               have hf27_1 : wc.frozen? ⟨go27, ((ji24) : Int).toNat * 4 + 1, none⟩ = false := hfr27 1
               have hf27_2 : wc.frozen? ⟨go27, ((ji24) : Int).toNat * 4 + 2, none⟩ = false := hfr27 2
               have hf27_3 : wc.frozen? ⟨go27, ((ji24) : Int).toNat * 4 + 3, none⟩ = false := hfr27 3
               clear hcl27 hcc27 hfr27 hM27
               replace p27 := eq_true p27
               replace q27 := eq_true q27
               have hcz45_0 : wc.cell? ⟨gb234, 0, none⟩ = some (.int .i64 ((rd_T43 l1 x18_1).f0)) := (blk_cell BK234.out 0).trans rfl
               have hcz45_1 : wc.cell? ⟨gb234, 1, none⟩ = some (.int .i64 ((rd_T43 l1 x18_1).f1)) := (blk_cell BK234.out 1).trans rfl
               have hcz45_2 : wc.cell? ⟨gb234, 2, none⟩ = some (.int .i64 ((rd_T43 l1 x18_1).f2)) := (blk_cell BK234.out 2).trans rfl
               have hcz45_3 : wc.cell? ⟨gb234, 3, none⟩ = some (.string ((rd_T43 l1 x18_1).f3)) := (blk_cell BK234.out 3).trans rfl
               have hfz45_0 := blk_frozen BK234.out 0
               have hfz45_1 := blk_frozen BK234.out 1
               have hfz45_2 := blk_frozen BK234.out 2
               have hfz45_3 := blk_frozen BK234.out 3
               try go_wp2
               have n0_ := Aside0.mk (Kd.R_drew HO_6.out)
               have n1_ := Aside0.mk (blk_drew BK234.out)
               have n2_ := Aside0.mk (below_drew1 HB.out)
               clear HO_6
               clear BK234
               clear HB
               have HO_6 := n0_
               have BK234 := n1_
               have HB := n2_
               clear n0_ n1_ n2_
               have p35 : 0 ≤ ((ji24) : Int) := of_decide_eq_true (by first | (with_reducible assumption) | assumption)
               have q35 : ((ji24) : Int) < ((x6_1.length : Int) : Int) := of_decide_eq_true (by first | (with_reducible assumption) | assumption)
               obtain ⟨ce35, hcl35, hM35, hcc35, hfr35⟩ := Kd.R_elem HO_6.out z43 ((ji24) : Int) p35 q35
               obtain rfl := k43_openM hM35
               have hx35_0 : World.cell? _ ⟨go27, ((ji24) : Int).toNat * 4, none⟩ = some (.int .i64 ((rd_T43 x6_1 (ji24)).f0)) := hcc35 0 _ rfl
               have hx35_1 : World.cell? _ ⟨go27, ((ji24) : Int).toNat * 4 + 1, none⟩ = some (.int .i64 ((rd_T43 x6_1 (ji24)).f1)) := hcc35 1 _ rfl
               have hx35_2 : World.cell? _ ⟨go27, ((ji24) : Int).toNat * 4 + 2, none⟩ = some (.int .i64 ((rd_T43 x6_1 (ji24)).f2)) := hcc35 2 _ rfl
               have hx35_3 : World.cell? _ ⟨go27, ((ji24) : Int).toNat * 4 + 3, none⟩ = some (.string ((rd_T43 x6_1 (ji24)).f3)) := hcc35 3 _ rfl
               have hf35_0 : World.frozen? _ ⟨go27, ((ji24) : Int).toNat * 4, none⟩ = false := hfr35 0
               have hf35_1 : World.frozen? _ ⟨go27, ((ji24) : Int).toNat * 4 + 1, none⟩ = false := hfr35 1
               have hf35_2 : World.frozen? _ ⟨go27, ((ji24) : Int).toNat * 4 + 2, none⟩ = false := hfr35 2
               have hf35_3 : World.frozen? _ ⟨go27, ((ji24) : Int).toNat * 4 + 3, none⟩ = false := hfr35 3
               clear hcl35 hcc35 hfr35 hM35
               replace p35 := eq_true p35
               replace q35 := eq_true q35
               have p36 : 0 ≤ ((ji24) : Int) := of_decide_eq_true (by first | (with_reducible assumption) | assumption)
               have q36 : ((ji24) : Int) < ((x6_1.length : Int) : Int) := of_decide_eq_true (by first | (with_reducible assumption) | assumption)
               obtain ⟨ce36, hcl36, hM36, hcc36, hfr36⟩ := Kd.R_elem HO_6.out z43 ((ji24) : Int) p36 q36
               obtain rfl := k43_openM hM36
               have hx36_0 : World.cell? _ ⟨go27, ((ji24) : Int).toNat * 4, none⟩ = some (.int .i64 ((rd_T43 x6_1 (ji24)).f0)) := hcc36 0 _ rfl
               have hx36_1 : World.cell? _ ⟨go27, ((ji24) : Int).toNat * 4 + 1, none⟩ = some (.int .i64 ((rd_T43 x6_1 (ji24)).f1)) := hcc36 1 _ rfl
               have hx36_2 : World.cell? _ ⟨go27, ((ji24) : Int).toNat * 4 + 2, none⟩ = some (.int .i64 ((rd_T43 x6_1 (ji24)).f2)) := hcc36 2 _ rfl
               have hx36_3 : World.cell? _ ⟨go27, ((ji24) : Int).toNat * 4 + 3, none⟩ = some (.string ((rd_T43 x6_1 (ji24)).f3)) := hcc36 3 _ rfl
               have hf36_0 : World.frozen? _ ⟨go27, ((ji24) : Int).toNat * 4, none⟩ = false := hfr36 0
               have hf36_1 : World.frozen? _ ⟨go27, ((ji24) : Int).toNat * 4 + 1, none⟩ = false := hfr36 1
               have hf36_2 : World.frozen? _ ⟨go27, ((ji24) : Int).toNat * 4 + 2, none⟩ = false := hfr36 2
               have hf36_3 : World.frozen? _ ⟨go27, ((ji24) : Int).toNat * 4 + 3, none⟩ = false := hfr36 3
               clear hcl36 hcc36 hfr36 hM36
               replace p36 := eq_true p36
               replace q36 := eq_true q36
               refine start_ (n := 12) (S := fun w' => w'.cell? ⟨gb234, 0, none⟩ = some (.int .i64 ((rd_T43 l1 x18_1).f0)) ∧ w'.cell? ⟨gb234, 1, none⟩ = some (.int .i64 ((rd_T43 l1 x18_1).f1)) ∧ w'.cell? ⟨gb234, 2, none⟩ = some (.int .i64 ((rd_T43 l1 x18_1).f2)) ∧ w'.cell? ⟨gb234, 3, none⟩ = some (.string ((rd_T43 l1 x18_1).f3)) ∧ w'.cell? ⟨go27, ((ji24) : Int).toNat * 4, none⟩ = some (.int .i64 ((rd_T43 x6_1 (ji24)).f0)) ∧ w'.cell? ⟨go27, ((ji24) : Int).toNat * 4 + 1, none⟩ = some (.int .i64 ((rd_T43 x6_1 (ji24)).f1)) ∧ w'.cell? ⟨go27, ((ji24) : Int).toNat * 4 + 2, none⟩ = some (.int .i64 ((rd_T43 x6_1 (ji24)).f2)) ∧ w'.cell? ⟨go27, ((ji24) : Int).toNat * 4 + 3, none⟩ = some (.string ((rd_T43 x6_1 (ji24)).f3))) (ds := []) #[false, false, false, false, false, false, false, false, false, false, false, false] (by kernel_rfl) rfl rfl ⟨(blk_cell BK234.out 0).trans rfl, (blk_cell BK234.out 1).trans rfl, (blk_cell BK234.out 2).trans rfl, (blk_cell BK234.out 3).trans rfl, hx35_0, hx35_1, hx35_2, hx35_3⟩ (fun hHeld => ?_); refine with_tabW impl_TidyOps.tab12 impl_TidyOps.bits12 (fun HT_ HW_ => ?_)
               generalize wc.drew = w46 at HO_6 BK234 HB hf35_0 hf35_1 hf35_2 hf35_3 hf36_0 hf36_1 hf36_2 hf36_3 hx35_0 hx35_1 hx35_2 hx35_3 hx36_0 hx36_1 hx36_2 hx36_3 hHeld ⊢
               refine pure_ (i := 0) (N := some 52) (v := ?_) (a' := ?_) #[true, false, false, false, false, false, false, false, false, false, false, false] rfl rfl (any_of HT_.out (by kernel_rfl)) (fun _ _ _ h => h) (Or.inl ⟨by rfl, ?_⟩) ?_ ?_
               rotate_left
               ·intro w'
                go_simp
                with_reducible rfl
               rotate_left
               ·simp only [Act.put, List.setIfInBounds_toArray, List.set_cons_zero, List.set_cons_succ, i64_w, i32_w]
                rfl
               refine pure_ (i := 1) (N := some 53) (v := ?_) (a' := ?_) #[true, true, false, false, false, false, false, false, false, false, false, false] rfl rfl (any_of HT_.out (by kernel_rfl)) (fun _ _ _ h => h) (Or.inl ⟨by rfl, ?_⟩) ?_ ?_
               rotate_left
               ·intro w'
                go_simp
                with_reducible rfl
               rotate_left
               ·simp only [Act.put, List.setIfInBounds_toArray, List.set_cons_zero, List.set_cons_succ, i64_w, i32_w]
                rfl
               refine pure_ (i := 2) (N := some 54) (v := ?_) (a' := ?_) #[true, true, true, false, false, false, false, false, false, false, false, false] rfl rfl (any_of HT_.out (by kernel_rfl)) (fun _ _ _ h => h) (Or.inl ⟨by rfl, ?_⟩) ?_ ?_
               rotate_left
               ·intro w'
                go_simp
                with_reducible rfl
               rotate_left
               ·simp only [Act.put, List.setIfInBounds_toArray, List.set_cons_zero, List.set_cons_succ, i64_w, i32_w]
                rfl
               refine pure_ (i := 4) (N := some 56) (v := ?_) (a' := ?_) #[true, true, true, false, true, false, false, false, false, false, false, false] rfl rfl (any_of HT_.out (by kernel_rfl)) (fun _ _ _ h => h) (Or.inl ⟨by rfl, ?_⟩) ?_ ?_
               rotate_left
               ·intro w'
                go_simp
                with_reducible rfl
               rotate_left
               ·simp only [Act.put, List.setIfInBounds_toArray, List.set_cons_zero, List.set_cons_succ, i64_w, i32_w]
                rfl
               refine pure_ (i := 5) (N := some 57) (v := ?_) (a' := ?_) #[true, true, true, false, true, true, false, false, false, false, false, false] rfl rfl (any_of HT_.out (by kernel_rfl)) (fun _ _ _ h => h) (Or.inl ⟨by rfl, ?_⟩) ?_ ?_
               rotate_left
               ·intro w'
                go_simp
                with_reducible rfl
               rotate_left
               ·simp only [Act.put, List.setIfInBounds_toArray, List.set_cons_zero, List.set_cons_succ, i64_w, i32_w]
                rfl
               refine pure_ (i := 6) (N := some 58) (v := ?_) (a' := ?_) #[true, true, true, false, true, true, true, false, false, false, false, false] rfl rfl (any_of HT_.out (by kernel_rfl)) (fun _ _ _ h => h) (Or.inl ⟨by rfl, ?_⟩) ?_ ?_
               rotate_left
               ·intro w'
                go_simp
                with_reducible rfl
               rotate_left
               ·simp only [Act.put, List.setIfInBounds_toArray, List.set_cons_zero, List.set_cons_succ, i64_w, i32_w]
                rfl
               refine pure_ (i := 9) (N := some 61) (v := ?_) (a' := ?_) #[true, true, true, false, true, true, true, false, false, true, false, false] rfl rfl (any_of HT_.out (by kernel_rfl)) (fun _ _ _ h => h) (Or.inl ⟨by rfl, ?_⟩) ?_ ?_
               rotate_left
               ·intro w'
                go_simp
                with_reducible rfl
               rotate_left
               ·simp only [Act.put, List.setIfInBounds_toArray, List.set_cons_zero, List.set_cons_succ, i64_w, i32_w]
                rfl
               refine take_ (i := 3) (N := some 55) (v := ?_) (a' := ?_) #[true, true, true, true, true, true, true, false, false, true, false, false] rfl rfl (take_ofW HT_.out HW_.out (by kernel_rfl)) (fun _ _ _ h => h) (Or.inl ⟨by rfl, ?_⟩) hHeld ?_ ?_
               rotate_left
               ·rintro w' ⟨s0, s1, s2, s3, s4, s5, s6, s7⟩
                go_simp
                with_reducible rfl
               rotate_left
               ·simp only [Act.put, List.setIfInBounds_toArray, List.set_cons_zero, List.set_cons_succ, i64_w, i32_w]
                rfl
               refine take_ (i := 7) (N := some 59) (v := ?_) (a' := ?_) #[true, true, true, true, true, true, true, true, false, true, false, false] rfl rfl (take_ofW HT_.out HW_.out (by kernel_rfl)) (fun _ _ _ h => h) (Or.inl ⟨by rfl, ?_⟩) hHeld ?_ ?_
               rotate_left
               ·rintro w' ⟨s0, s1, s2, s3, s4, s5, s6, s7⟩
                go_simp
                with_reducible rfl
               rotate_left
               ·simp only [Act.put, List.setIfInBounds_toArray, List.set_cons_zero, List.set_cons_succ, i64_w, i32_w]
                rfl
               refine pure_ (i := 8) (N := some 60) (v := ?_) (a' := ?_) #[true, true, true, true, true, true, true, true, true, true, false, false] rfl rfl (any_of HT_.out (by kernel_rfl)) (fun _ _ _ h => h) (Or.inl ⟨by rfl, ?_⟩) ?_ ?_
               rotate_left
               ·intro w'
                go_simp
                with_reducible rfl
               rotate_left
               ·simp only [Act.put, List.setIfInBounds_toArray, List.set_cons_zero, List.set_cons_succ, i64_w, i32_w]
                rfl
               refine take_ (i := 10) (N := some 62) (v := ?_) (a' := ?_) #[true, true, true, true, true, true, true, true, true, true, true, false] rfl rfl (take_ofW HT_.out HW_.out (by kernel_rfl)) (fun _ _ _ h => h) (Or.inl ⟨by rfl, ?_⟩) hHeld ?_ ?_
               rotate_left
               ·rintro w' ⟨s0, s1, s2, s3, s4, s5, s6, s7⟩
                go_simp
                with_reducible rfl
               rotate_left
               ·simp only [Act.put, List.setIfInBounds_toArray, List.set_cons_zero, List.set_cons_succ, i64_w, i32_w]
                rfl
               refine pure_ (i := 11) (N := some 63) (v := ?_) (a' := ?_) #[true, true, true, true, true, true, true, true, true, true, true, true] rfl rfl (any_of HT_.out (by kernel_rfl)) (fun _ _ _ h => h) (Or.inl ⟨by rfl, ?_⟩) ?_ ?_
               rotate_left
               ·intro w'
                go_simp
                with_reducible rfl
               rotate_left
               ·simp only [Act.put, List.setIfInBounds_toArray, List.set_cons_zero, List.set_cons_succ, i64_w, i32_w]
                rfl
               refine done_ (done_of HT_.out (by kernel_rfl)) ?_
               have hcz47_0 : w46.cell? ⟨gb234, 0, none⟩ = some (.int .i64 ((rd_T43 l1 x18_1).f0)) := (blk_cell BK234.out 0).trans rfl
               have hcz47_1 : w46.cell? ⟨gb234, 1, none⟩ = some (.int .i64 ((rd_T43 l1 x18_1).f1)) := (blk_cell BK234.out 1).trans rfl
               have hcz47_2 : w46.cell? ⟨gb234, 2, none⟩ = some (.int .i64 ((rd_T43 l1 x18_1).f2)) := (blk_cell BK234.out 2).trans rfl
               have hcz47_3 : w46.cell? ⟨gb234, 3, none⟩ = some (.string ((rd_T43 l1 x18_1).f3)) := (blk_cell BK234.out 3).trans rfl
               have hfz47_0 := blk_frozen BK234.out 0
               have hfz47_1 := blk_frozen BK234.out 1
               have hfz47_2 := blk_frozen BK234.out 2
               have hfz47_3 := blk_frozen BK234.out 3
               try go_wp2_with (first | ((with_reducible refine gate_builtin (b := .append) (xs := #[.tmp 73, .tmp 75]) rfl ?_); at_builtin; refine Kd.R_append k43 (w0 := w) w.heap.size rfl (.tmp 73) (.tmp 75) 26 43 (.agg #[(.int .i64 0), (.int .i64 0), (.int .i64 0), (.string ⟨#[]⟩)]) 40 rfl Try.underlying26 info43 rfl (by decide) (by omega) (.slice (some ⟨go27, 0, none⟩) x6_1.length co14) x6_1 (⟨((rd_T43 l1 x18_1).f0), ((rd_T43 l1 x18_1).f1), ((rd_T43 l1 x18_1).f2), ((rd_T43 l1 x18_1).f3)⟩ : S43) [.int .i64 ((rd_T43 l1 x18_1).f0), .int .i64 ((rd_T43 l1 x18_1).f1), .int .i64 ((rd_T43 l1 x18_1).f2), .string ((rd_T43 l1 x18_1).f3)] (fun k_ => k_ ≠ gb234) (fun _ => False) rfl rfl ?aP (fun _ hk => hk.elim) ?aF ?aO ?aB ?aS ?aL ?_; (case aP => exact k43_mkM _ _ _ (⟨((rd_T43 l1 x18_1).f0), ((rd_T43 l1 x18_1).f1), ((rd_T43 l1 x18_1).f2), ((rd_T43 l1 x18_1).f3)⟩ : S43)); (case aB => exact (by repeat (first | (with_reducible first | exact HB.out | apply below_alloc | apply pw_below_drewN | apply below_drew1 | refine below_set ?_ GE234.out) | exact HB.out))); (case aF => exact (fun k_ hk => Kd.freshB (g := gb234) (o := .cells #[.int .i64 ((rd_T43 l1 x18_1).f0), .int .i64 ((rd_T43 l1 x18_1).f1), .int .i64 ((rd_T43 l1 x18_1).f2), .string ((rd_T43 l1 x18_1).f3)] 43 (0, 0)) (by (with_reducible repeat (first | refine blk_drewN ?_ _ | refine blk_drew ?_ | refine blk_alloc ?_ _)); exact BK234.out) k_ hk)); (case aO => exact (by (with_reducible repeat (first | apply Kd.R_alloc | apply Kd.R_drewN | apply Kd.R_drew)); exact HO_6.out)); (case aS => exact (below_size (by repeat (first | (with_reducible first | exact HB.out | apply below_alloc | apply pw_below_drewN | apply below_drew1 | refine below_set ?_ GE234.out) | exact HB.out)))); (case aL => have := LMc44.out; omega); intro v239 w48 ho hb hg hat; rw [← Ny238.out] at ho; have n0_ := Aside0.mk (blk_grown (g := gb234) (o := .cells #[.int .i64 ((rd_T43 l1 x18_1).f0), .int .i64 ((rd_T43 l1 x18_1).f1), .int .i64 ((rd_T43 l1 x18_1).f2), .string ((rd_T43 l1 x18_1).f3)] 43 (0, 0)) (by (with_reducible repeat (first | refine blk_drewN ?_ _ | refine blk_drew ?_ | refine blk_alloc ?_ _)); exact BK234.out) hg (Kd.R_away HO_6.out (fun _ hk => hk))); have n1_ := Aside0.mk (hb); have n2_ := Aside0.mk (ho); clear BK234; clear HB; clear HO_6; have BK234 := n0_; have HB := n1_; have HO240 := n2_; clear n0_ n1_ n2_; clear ho hb hg hat))
               go_roundg kj10
               case measure => have := HK1.out; have := HJ10.out; omega
               case rel => exact ⟨(y238), (wrap64 (x18_1 + 1)), (by first | rfl | (simp; done) | (simp [*]; done)), H', ⟨by have := HK1.out; have := HJ10.out; omega⟩, ⟨by (with_reducible repeat (first | apply Kd.R_alloc | apply Kd.R_drewN | apply Kd.R_drew)); exact Kd.R_mono HO240.out (fun _ hk => trivial)⟩, ⟨by repeat (first | (with_reducible first | exact HB.out | apply below_alloc | apply pw_below_drewN | apply below_drew1 | refine below_set ?_ GE234.out) | exact HB.out)⟩⟩
              ·rw [if_neg c44] at H
               exact absurd H (by simp)
           ·rw [if_neg c26] at H
            exact absurd H (by simp)
          ·rw [if_neg c25] at H
           exact absurd H (by simp)
         ·replace c23 := Bool.eq_false_iff.mpr c23
          subst c23
          have H1 : (if x6_1.length < 3518437208883 then (impl_TidyOps.l0 kj10 (x6_1 ++ [(⟨((rd_T43 l1 x18_1).f0), ((rd_T43 l1 x18_1).f1), ((rd_T43 l1 x18_1).f2), ((rd_T43 l1 x18_1).f3)⟩ : S43)]) l1 (l1.length : Int) (wrap64 (x18_1 + 1))) else (none)) = some (r1, r2) := by rw [if_neg (show ¬ (false = true) by decide)] at H; exact H
          clear H
          have H := H1
          clear H1
          by_cases c49 : x6_1.length < 3518437208883
          ·rw [if_pos c49] at H
           have LMc49 := Aside0.mk c49
           clear c49
           obtain ⟨y241, hy241⟩ : ∃ y_ : List (S43), y_ = (x6_1 ++ [(⟨((rd_T43 l1 x18_1).f0), ((rd_T43 l1 x18_1).f1), ((rd_T43 l1 x18_1).f2), ((rd_T43 l1 x18_1).f3)⟩ : S43)]) := ⟨_, rfl⟩
           replace H : (impl_TidyOps.l0 kj10 y241 l1 (l1.length : Int) (wrap64 (x18_1 + 1))) = some (r1, r2) := by first | (rw [hy241]; with_reducible exact H) | (have H2_ := (Option.bind_some _ _).symm.trans H; rw [hy241]; with_reducible exact H2_) | (have H2_ := (Option.bind_some _ _).symm.trans H; with_reducible exact H2_) | with_reducible exact H | (rw [hy241]; exact H) | exact H
           have Ny241 := Aside0.mk hy241
           clear hy241
           have H' := Aside0.mk H
           clear H
           have hcz50_0 : wc.cell? ⟨gb234, 0, none⟩ = some (.int .i64 ((rd_T43 l1 x18_1).f0)) := (blk_cell BK234.out 0).trans rfl
           have hcz50_1 : wc.cell? ⟨gb234, 1, none⟩ = some (.int .i64 ((rd_T43 l1 x18_1).f1)) := (blk_cell BK234.out 1).trans rfl
           have hcz50_2 : wc.cell? ⟨gb234, 2, none⟩ = some (.int .i64 ((rd_T43 l1 x18_1).f2)) := (blk_cell BK234.out 2).trans rfl
           have hcz50_3 : wc.cell? ⟨gb234, 3, none⟩ = some (.string ((rd_T43 l1 x18_1).f3)) := (blk_cell BK234.out 3).trans rfl
           have hfz50_0 := blk_frozen BK234.out 0
           have hfz50_1 := blk_frozen BK234.out 1
           have hfz50_2 := blk_frozen BK234.out 2
           have hfz50_3 := blk_frozen BK234.out 3
           go_wp2_with (first | ((with_reducible refine gate_builtin (b := .append) (xs := #[.tmp 73, .tmp 75]) rfl ?_); at_builtin; refine Kd.R_append k43 (w0 := w) w.heap.size rfl (.tmp 73) (.tmp 75) 26 43 (.agg #[(.int .i64 0), (.int .i64 0), (.int .i64 0), (.string ⟨#[]⟩)]) 40 rfl Try.underlying26 info43 rfl (by decide) (by omega) (.slice Ao14 x6_1.length co14) x6_1 (⟨((rd_T43 l1 x18_1).f0), ((rd_T43 l1 x18_1).f1), ((rd_T43 l1 x18_1).f2), ((rd_T43 l1 x18_1).f3)⟩ : S43) [.int .i64 ((rd_T43 l1 x18_1).f0), .int .i64 ((rd_T43 l1 x18_1).f1), .int .i64 ((rd_T43 l1 x18_1).f2), .string ((rd_T43 l1 x18_1).f3)] (fun k_ => k_ ≠ gb234) (fun _ => False) rfl rfl ?aP (fun _ hk => hk.elim) ?aF ?aO ?aB ?aS ?aL ?_; (case aP => exact k43_mkM _ _ _ (⟨((rd_T43 l1 x18_1).f0), ((rd_T43 l1 x18_1).f1), ((rd_T43 l1 x18_1).f2), ((rd_T43 l1 x18_1).f3)⟩ : S43)); (case aB => exact (by repeat (first | (with_reducible first | exact HB.out | apply below_alloc | apply pw_below_drewN | apply below_drew1 | refine below_set ?_ GE234.out) | exact HB.out))); (case aF => exact (fun k_ hk => Kd.freshB (g := gb234) (o := .cells #[.int .i64 ((rd_T43 l1 x18_1).f0), .int .i64 ((rd_T43 l1 x18_1).f1), .int .i64 ((rd_T43 l1 x18_1).f2), .string ((rd_T43 l1 x18_1).f3)] 43 (0, 0)) (by (with_reducible repeat (first | refine blk_drewN ?_ _ | refine blk_drew ?_ | refine blk_alloc ?_ _)); exact BK234.out) k_ hk)); (case aO => exact (by (with_reducible repeat (first | apply Kd.R_alloc | apply Kd.R_drewN | apply Kd.R_drew)); exact HO_6.out)); (case aS => exact (below_size (by repeat (first | (with_reducible first | exact HB.out | apply below_alloc | apply pw_below_drewN | apply below_drew1 | refine below_set ?_ GE234.out) | exact HB.out)))); (case aL => have := LMc49.out; omega); intro v242 w51 ho hb hg hat; rw [← Ny241.out] at ho; have n0_ := Aside0.mk (blk_grown (g := gb234) (o := .cells #[.int .i64 ((rd_T43 l1 x18_1).f0), .int .i64 ((rd_T43 l1 x18_1).f1), .int .i64 ((rd_T43 l1 x18_1).f2), .string ((rd_T43 l1 x18_1).f3)] 43 (0, 0)) (by (with_reducible repeat (first | refine blk_drewN ?_ _ | refine blk_drew ?_ | refine blk_alloc ?_ _)); exact BK234.out) hg (Kd.R_away HO_6.out (fun _ hk => hk))); have n1_ := Aside0.mk (hb); have n2_ := Aside0.mk (ho); clear BK234; clear HB; clear HO_6; have BK234 := n0_; have HB := n1_; have HO243 := n2_; clear n0_ n1_ n2_; clear ho hb hg hat))
           go_roundg kj10
           case measure => have := HK1.out; have := HJ10.out; omega
           case rel => exact ⟨(y241), (wrap64 (x18_1 + 1)), (by first | rfl | (simp; done) | (simp [*]; done)), H', ⟨by have := HK1.out; have := HJ10.out; omega⟩, ⟨by (with_reducible repeat (first | apply Kd.R_alloc | apply Kd.R_drewN | apply Kd.R_drew)); exact Kd.R_mono HO243.out (fun _ hk => trivial)⟩, ⟨by repeat (first | (with_reducible first | exact HB.out | apply below_alloc | apply pw_below_drewN | apply below_drew1 | refine below_set ?_ GE234.out) | exact HB.out)⟩⟩
          ·rw [if_neg c49] at H
           exact absurd H (by simp)
      ·rw [if_neg c10] at H
       exact absurd H (by simp)
     ·rw [if_neg c9] at H
      exact absurd H (by simp)
    ·rw [if_neg c8] at H
     have c8b0 : decide (x18_1 < (l1.length : Int)) = false := decide_eq_false c8
     clear c8
     simp only [Option.some.injEq, Prod.mk.injEq] at H
     obtain ⟨rfl, rfl⟩ := H
     go_wp2
     go_ret2
     exact ⟨_, by first | rfl | (simp [errW_none, errW_some] <;> rfl) | (simp [*, errW_none, errW_some] <;> rfl), by (with_reducible repeat (first | apply Kd.R_alloc | apply Kd.R_drewN | apply Kd.R_drew)); exact HO_6.out, by repeat (first | (with_reducible first | exact HB.out | apply below_alloc | apply pw_below_drewN | apply below_drew1) | exact HB.out)⟩
 ·replace c4 := Bool.eq_false_iff.mpr c4
  subst c4
  have H1 : (some (([] : List (S43)), false)) = some (r1, r2) := by rw [if_neg (show ¬ (false = true) by decide)] at H; exact H
  clear H
  have H := H1
  clear H1
  simp only [Option.some.injEq, Prod.mk.injEq] at H
  obtain ⟨rfl, rfl⟩ := H
  go_enter Try.func34, Try.ntmps34
  go_wp2_with (first | ((with_reducible refine gate_callee (f := 21) rfl ?_); refine goesL_ (some 13) rfl rfl Try.func21 (by kernel_rfl) rfl #[.string a0, .slice A1 l1.length c1] rfl (by (try simp only [List.map_toArray, List.map_cons, List.map_nil]); first | done | rfl | (simp only [List.length_drop, List.length_take]; rfl)) ?_; (with_reducible refine (impl_GoodOps.calls k a0 _ _ l1 false _ ?side1 ?side2 A3.out).mono ?_); (case side1 => repeat (first | exact HR1.out | (with_reducible refine Kd.C_alloc ?_ _) | (with_reducible refine Kd.C_drewN ?_ _) | (with_reducible refine Kd.C_drew ?_))); (case side2 => exact HC1.out); rintro e w52 ⟨rfl, hb⟩; refine ⟨_, rfl, ?_⟩; have n0_ := Aside0.mk (below_step (by repeat (first | (with_reducible first | exact HB.out | apply below_alloc | apply pw_below_drewN | apply below_drew1) | exact HB.out)) hb); clear HB; have HB := n0_; clear n0_; (try clear hb); (try clear hb2); (try clear hk); (try clear hi)))
  go_ret2
  exact ⟨_, by first | rfl | (simp [errW_none, errW_some] <;> rfl) | (simp [*, errW_none, errW_some] <;> rfl), by first | exact Kd.R_nil _ _ _ _ _ | exact Kd.N_nil _ _ _ _ _ | exact Kd.V_nil _ _ _ _ _ | exact Kd.Q_nil _ _ _ _ _ | exact Kd.S_nil _ _ _ _ _, by repeat (first | (with_reducible first | exact HB.out | apply below_alloc | apply pw_below_drewN | apply below_drew1) | exact HB.out)⟩

end Go.Proofs.Ytnhnlfkbngnkpaa.D
