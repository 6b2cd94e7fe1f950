-- Made by a program of this session out of the translation; no hand has turned it.
import Derived.Test.YtnhnlfkbngnkpaaE0
import Derived.Test.YtnhnlfkbngnkpaaE1
import Derived.Test.YtnhnlfkbngnkpaaE2
import Derived.Test.YtnhnlfkbngnkpaaE3
namespace Go.Proofs.Ytnhnlfkbngnkpaa.E
open Go.RowKit Go.Proofs.YtnhnlfkbngnkpaaW.PrintWords Go.Proofs.YtnhnlfkbngnkpaaW.PrintLast Go.Proofs.YtnhnlfkbngnkpaaW.PrintMore
attribute [local go_sem] qXb qbc qac qec qZb qdc qYb qcc   -- for this text's walks alone
set_option linter.unusedVariables false
set_option linter.unusedSimpArgs false

attribute [local go_sem high] eqA43
/-! ### qY: function 25 -/
def qY.l0 : Nat → ByteArray → List (S43) → Int → Int → Option (ByteArray × Bool)
 | 0, _, _, _, _ => none
 | k + 1, x6, x16, x17, x18 => if x18 < x17 then (if 0 ≤ x18 then (if x18 < (x16.length : Int) then ((some (([((qc x16 x18).f0) % 256] : List Int) : List Int)).bind fun y141 => (if x6.size + (strOfNums y141).size ≤ 9223372036854775807 then (if ((qc x16 x18).f0) = 1 then ((qPb.f ((qc x16 x18).f1)).bind fun t144 => ((qPb.f ((qc x16 x18).f2)).bind fun t145 => (if t144.size + t145.size ≤ 9223372036854775807 then (if (x6 ++ (strOfNums y141)).size + (t144 ++ t145).size ≤ 9223372036854775807 then (qY.l0 k ((x6 ++ (strOfNums y141)) ++ (t144 ++ t145)) x16 x17 (wrap64 (x18 + 1))) else (none)) else (none)))) else ((qPb.f (((qc x16 x18).f3).size : Int)).bind fun t146 => (if t146.size + ((qc x16 x18).f3).size ≤ 9223372036854775807 then (if (x6 ++ (strOfNums y141)).size + (t146 ++ ((qc x16 x18).f3)).size ≤ 9223372036854775807 then (qY.l0 k ((x6 ++ (strOfNums y141)) ++ (t146 ++ ((qc x16 x18).f3))) x16 x17 (wrap64 (x18 + 1))) else (none)) else (none)))) else (none))) else (none)) else (none)) else (some (x6, true))
def qY.f (k : Nat) (a0 : ByteArray) (l1 : List (S43)) : Option (ByteArray × Bool) := (qlb.f k a0 l1).bind fun t137 => (if t137 = true then ((qPb.f (l1.length : Int)).bind fun t138 => (qY.l0 k t138 l1 (l1.length : Int) 0)) else (some ((⟨#[]⟩ : ByteArray), false)))
theorem qY.qjb : ∀ k, (∀ y0 y1 y2 y3, LeO (qY.l0 k y0 y1 y2 y3) (qY.l0 (k + 1) y0 y1 y2 y3))
 | 0 => fun _ _ _ _ r h => by simp [qY.l0] at h
 | k + 1 => by
  have ih0 := qY.qjb k
  ·intro y0 y1 y2 y3
   unfold qY.l0
   repeat' first
   | (with_reducible exact ih0 _ _ _ _)
   | (with_reducible exact qlb.mono _ _ _)
   | (with_reducible exact LeO.refl _)
   | (with_reducible exact LeO.none _)
   | (with_reducible refine LeO.ite ?_ ?_)
   | (with_reducible refine LeO.bind ?_ (fun _ => ?_))
   | exact LeO.none _
   | refine LeO.ite ?_ ?_
   | refine LeO.bind ?_ (fun _ => ?_)
theorem qY.mono : ∀ a0 a1 k, LeO (qY.f k a0 a1) (qY.f (k + 1) a0 a1) := by
 intro a0 a1 k
 have ih0 := qY.qjb k
 unfold qY.f
 repeat' first
   | (with_reducible exact ih0 _ _ _ _)
   | (with_reducible exact qlb.mono _ _ _)
   | (with_reducible exact LeO.refl _)
   | (with_reducible exact LeO.none _)
   | (with_reducible refine LeO.ite ?_ ?_)
   | (with_reducible refine LeO.bind ?_ (fun _ => ?_))
   | exact LeO.none _
   | refine LeO.ite ?_ ?_
   | refine LeO.bind ?_ (fun _ => ?_)
def qY.T9 : Bool × List (List Nat × List Nat) := (true, [([], []), ([], []), ([1], [1]), ([2], [2]), ([], []), ([4], [4]), ([5, 3], [5]), ([3, 6], [3, 6]), ([0, 7], [0, 7]), ([8, 6, 0, 1, 2, 3, 4, 5, 6, 7, 8], [0, 8])])
def qY.B9 : List Nat := [0, 0, 2, 6, 0, 16, 62, 126, 255, 511]
theorem qY.tab9 : rtab .any (opsOf Try.f25 9) = qY.T9 := by kernel_rfl
theorem qY.bits9 : waitsOk qY.T9.2 qY.B9 = true := by kernel_rfl
def qY.T10 : Bool × List (List Nat × List Nat) := (true, [([], []), ([], []), ([1], [1]), ([2], [2]), ([3], [3]), ([], []), ([5], [5]), ([4, 6], [4, 6]), ([0, 7], [0, 7]), ([8, 4, 0, 1, 2, 3, 4, 5, 6, 7, 8], [0, 8])])
def qY.B10 : List Nat := [0, 0, 2, 6, 14, 0, 32, 126, 255, 511]
theorem qY.tab10 : rtab .any (opsOf Try.f25 10) = qY.T10 := by kernel_rfl
theorem qY.bits10 : waitsOk qY.T10.2 qY.B10 = true := by kernel_rfl
set_option maxHeartbeats 8000000 in
set_option maxRecDepth 100000 in
theorem qY.calls (k : Nat) (a0 : ByteArray) (A1 : Option Addr) (c1 : Nat) (l1 : List (S43)) (r1 : ByteArray) (r2 : Bool) (w : World) (hr1 : Kd.C k43 w A1 l1.length l1) (hc1 : l1.length ≤ c1) (h : qY.f k a0 l1 = some (r1, r2)) :
  Calls Try.prog 25 #[.string a0, .slice A1 l1.length c1] w fun e w' => e = .returned (.tuple #[.string r1, .bool r2]) ∧ Below w.heap.size w w' := by
 have hu43 := Try.underlying43
 have HR1 := qb.mk hr1
 have HC1 := qb.mk hc1
 clear hr1 hc1
 have HB := qb.mk (Below.refl w.heap.size w)
 have H : ((qlb.f k a0 l1).bind fun t137 => (if t137 = true then ((qPb.f (l1.length : Int)).bind fun t138 => (qY.l0 k t138 l1 (l1.length : Int) 0)) else (some ((⟨#[]⟩ : ByteArray), false)))) = some (r1, r2) := h
 clear h
 replace H := Option.bind_eq_some_iff.mp H
 obtain ⟨t137, A30, H⟩ := H
 try dsimp only at H
 have A3 := qb.mk A30
 clear A30
 by_cases c4 : t137 = true
 ·subst c4
  rw [if_pos rfl] at H
  replace H := Option.bind_eq_some_iff.mp H
  obtain ⟨t138, A50, H⟩ := H
  try dsimp only at H
  have A5 := qb.mk A50
  clear A50
  have H' := qb.mk H
  clear H
  go_enter Try.func25, Try.ntmps25
  go_wp2_with (first | ((with_reducible refine qy (f := 21) rfl ?_); refine qz (some 11) rfl rfl Try.func21 (by kernel_rfl) rfl #[.string a0, .slice A1 l1.length c1] rfl (by (try simp only [List.map_toArray, List.map_cons, List.map_nil]); first | done | rfl | (simp only [List.length_drop, List.length_take]; rfl)) ?_; (with_reducible refine (qlb.calls k a0 _ _ l1 true _ ?side1 ?side2 A3.out).mono ?_); (case side1 => repeat (first | exact HR1.out | (with_reducible refine Kd.qN ?_ _) | (with_reducible refine Kd.qM ?_ _) | (with_reducible refine Kd.qO ?_))); (case side2 => exact HC1.out); rintro e w6 ⟨rfl, hb⟩; refine ⟨_, rfl, ?_⟩; replace HB := qb.mk (qE (by repeat (first | (with_reducible first | exact HB.out | apply qf | apply qg | apply qe) | exact HB.out)) hb); (try clear hb); (try clear hb2); (try clear hk); (try clear hi)) | ((with_reducible refine qy (f := 64) rfl ?_); refine qz (some 15) rfl rfl Try.func64 (by kernel_rfl) rfl #[.int .i64 (l1.length : Int)] rfl (by (try simp only [List.map_toArray, List.map_cons, List.map_nil]); first | done | rfl | (simp only [List.length_drop, List.length_take]; rfl)) ?_; (with_reducible refine (qPb.calls (l1.length : Int) t138 _ A5.out).mono ?_); rintro e w7 ⟨rfl, hb⟩; refine ⟨_, rfl, ?_⟩; replace HB := qb.mk (qE (by repeat (first | (with_reducible first | exact HB.out | apply qf | apply qg | apply qe) | exact HB.out)) hb); (try clear hb); (try clear hb2); (try clear hk); (try clear hi)))
  go_loopg [6, 18] k (fun kq v6 v18 w' => ∃ (x6_1 : ByteArray) (x18_1 : Int), v6 = .string x6_1 ∧ v18 = .int .i64 x18_1 ∧ qb (qY.l0 kq x6_1 l1 (l1.length : Int) x18_1 = some (r1, r2)) ∧ qb (kq ≤ k) ∧ qb (Below w.heap.size w w'))
  case atStart => exact ⟨(t138), (0), (by first | rfl | (simp; done) | (simp [*]; done)), (by first | rfl | (simp; done) | (simp [*]; done)), H', ⟨Nat.le_refl _⟩, ⟨by repeat (first | (with_reducible first | exact HB.out | apply qf | apply qg | apply qe) | exact HB.out)⟩⟩
  case round =>
   clear H'
   try clear c1
   try clear c2
   try clear p2
   try clear c4
   try clear c6
   obtain ⟨x6_1, x18_1, rfl, rfl, HA, HK1, HB⟩ := hrel
   cases gk with
   | zero => exact absurd HA.out (by simp [qY.l0])
   | succ k1 =>
    have H := HA.out
    clear HA
    simp only [qY.l0] at H
    by_cases c8 : x18_1 < (l1.length : Int)
    ·rw [if_pos c8] at H
     have c8b0 : decide (x18_1 < (l1.length : Int)) = true := decide_eq_true c8
     clear c8
     by_cases c9 : 0 ≤ x18_1
     ·rw [if_pos c9] at H
      have c9b0 : decide (0 ≤ x18_1) = true := decide_eq_true c9
      clear c9
      by_cases c10 : x18_1 < (l1.length : Int)
      ·rw [if_pos c10] at H
       have c10b0 : decide (x18_1 < (l1.length : Int)) = true := decide_eq_true c10
       clear c10
       obtain ⟨y141, hy141⟩ : ∃ y_ : List Int, y_ = (([((qc l1 x18_1).f0) % 256] : List Int)) := ⟨_, rfl⟩
       replace H : (if x6_1.size + (strOfNums y141).size ≤ 9223372036854775807 then (if ((qc l1 x18_1).f0) = 1 then ((qPb.f ((qc l1 x18_1).f1)).bind fun t144 => ((qPb.f ((qc l1 x18_1).f2)).bind fun t145 => (if t144.size + t145.size ≤ 9223372036854775807 then (if (x6_1 ++ (strOfNums y141)).size + (t144 ++ t145).size ≤ 9223372036854775807 then (qY.l0 k1 ((x6_1 ++ (strOfNums y141)) ++ (t144 ++ t145)) l1 (l1.length : Int) (wrap64 (x18_1 + 1))) else (none)) else (none)))) else ((qPb.f (((qc l1 x18_1).f3).size : Int)).bind fun t146 => (if t146.size + ((qc l1 x18_1).f3).size ≤ 9223372036854775807 then (if (x6_1 ++ (strOfNums y141)).size + (t146 ++ ((qc l1 x18_1).f3)).size ≤ 9223372036854775807 then (qY.l0 k1 ((x6_1 ++ (strOfNums y141)) ++ (t146 ++ ((qc l1 x18_1).f3))) l1 (l1.length : Int) (wrap64 (x18_1 + 1))) else (none)) else (none)))) else (none)) = some (r1, r2) := by first | (rw [hy141]; with_reducible exact H) | (have H2_ := (Option.bind_some _ _).symm.trans H; rw [hy141]; with_reducible exact H2_) | (have H2_ := (Option.bind_some _ _).symm.trans H; with_reducible exact H2_) | with_reducible exact H | (rw [hy141]; exact H) | exact H
       have Ny141 := qb.mk hy141
       clear hy141
       by_cases c11 : x6_1.size + (strOfNums y141).size ≤ 9223372036854775807
       ·rw [if_pos c11] at H
        have c11b0 := eq_true c11
        have c11b1 : decide (x6_1.size + (strOfNums y141).size ≤ 9223372036854775807) = true := decide_eq_true c11
        try have c11b2 : (9223372036854775807 < x6_1.size + (strOfNums y141).size) = False := eq_false (Nat.not_lt.2 c11)
        by_cases c12 : ((qc l1 x18_1).f0) = 1
        ·rw [if_pos c12] at H
         have c12b0 : (((qc l1 x18_1).f0) == 1) = true := beq_iff_eq.mpr c12
         have c12b1 : (((qc l1 x18_1).f0) != 1) = false := bne_eq_false_iff_eq.mpr c12
         clear c12
         replace H := Option.bind_eq_some_iff.mp H
         obtain ⟨t144, A130, H⟩ := H
         try dsimp only at H
         have A13 := qb.mk A130
         clear A130
         replace H := Option.bind_eq_some_iff.mp H
         obtain ⟨t145, A140, H⟩ := H
         try dsimp only at H
         have A14 := qb.mk A140
         clear A140
         by_cases c15 : t144.size + t145.size ≤ 9223372036854775807
         ·rw [if_pos c15] at H
          have c15b0 := eq_true c15
          have c15b1 : decide (t144.size + t145.size ≤ 9223372036854775807) = true := decide_eq_true c15
          try have c15b2 : (9223372036854775807 < t144.size + t145.size) = False := eq_false (Nat.not_lt.2 c15)
          by_cases c16 : (x6_1 ++ (strOfNums y141)).size + (t144 ++ t145).size ≤ 9223372036854775807
          ·rw [if_pos c16] at H
           have c16b0 := eq_true c16
           have c16b1 : decide ((x6_1 ++ (strOfNums y141)).size + (t144 ++ t145).size ≤ 9223372036854775807) = true := decide_eq_true c16
           try have c16b2 : (9223372036854775807 < (x6_1 ++ (strOfNums y141)).size + (t144 ++ t145).size) = False := eq_false (Nat.not_lt.2 c16)
           have c16b3 : ∀ m_ n_ : Nat, m_ = (x6_1 ++ (strOfNums y141)).size → n_ = (t144 ++ t145).size → (9223372036854775807 < m_ + n_) = False := fun m_ n_ h1_ h2_ => by rw [h1_, h2_]; exact eq_false (Nat.not_lt.2 c16)
           have H' := qb.mk H
           clear H
           have p139 : 0 ≤ (x18_1 : Int) := of_decide_eq_true (by first | (with_reducible assumption) | assumption)
           have q139 : x18_1 < (l1.length : Int) := of_decide_eq_true (by first | (with_reducible assumption) | assumption)
           obtain ⟨ad139, e139, hx139_0, hx139_1, hx139_2, hx139_3⟩ := qqb HR1.out x18_1 p139 q139
           cases e139
           replace hx139_0 := (HB.out.cell (World.block_lt_of_cell? w _ hx139_0)).trans hx139_0
           replace hx139_1 := (HB.out.cell (World.block_lt_of_cell? w _ hx139_1)).trans hx139_1
           replace hx139_2 := (HB.out.cell (World.block_lt_of_cell? w _ hx139_2)).trans hx139_2
           replace hx139_3 := (HB.out.cell (World.block_lt_of_cell? w _ hx139_3)).trans hx139_3
           replace p139 := eq_true p139
           replace q139 := eq_true q139
           try go_wp2_with (first | ((with_reducible refine qcb (N := 8) rfl ?_); refine qpb ?hg (N := 8) ?hd (cs := #[.int .i64 0, .int .i64 0, .int .i64 0, .string (⟨#[]⟩ : ByteArray)]) (t := 43) ?hr ?_; (case hd => rfl); (case hg => rfl); (case hr => first | (go_simp; done) | (go_simp; rfl)); intro gb140 hg w17 hbox hb; have BK140 := qb.mk (hbox); have GW140 := qb.mk ((by rw [hg]; exact (qG (by repeat (first | (with_reducible first | exact HB.out | apply qf | apply qg | apply qe) | exact HB.out))) : w.heap.size ≤ gb140)); have GE140 := qb.mk ((by rw [hg]; exact (qG (by repeat (first | (with_reducible first | exact HB.out | apply qf | apply qg | apply qe) | exact HB.out))) : w.heap.size ≤ gb140)); replace HB := qb.mk (qE (by repeat (first | (with_reducible first | exact HB.out | apply qf | apply qg | apply qe) | exact HB.out)) hb); clear hb hbox hg; have hcz18_0 : w17.cell? ⟨gb140, 0, none⟩ = some (.int .i64 0) := (ql BK140.out 0).trans rfl; have hcz18_1 : w17.cell? ⟨gb140, 1, none⟩ = some (.int .i64 0) := (ql BK140.out 1).trans rfl; have hcz18_2 : w17.cell? ⟨gb140, 2, none⟩ = some (.int .i64 0) := (ql BK140.out 2).trans rfl; have hcz18_3 : w17.cell? ⟨gb140, 3, none⟩ = some (.string (⟨#[]⟩ : ByteArray)) := (ql BK140.out 3).trans rfl; have hfz18_0 := qp BK140.out 0; have hfz18_1 := qp BK140.out 1; have hfz18_2 := qp BK140.out 2; have hfz18_3 := qp BK140.out 3) | ((with_reducible refine qcb (N := 26) rfl ?_); refine Kd.R_lit (Kd.int .u8) _ 5 ?hg (N := 26) ?hd (xs := ([((qc l1 x18_1).f0) % 256] : List Int)) (inner := [.int .u8 (((qc l1 x18_1).f0) % 256)]) (ok := fun _ => True) (okp := fun _ => True) ?hr ?hp (fun _ hk => hk) trivial (Below.refl _ _) (Nat.le_refl _) (by simp) ?_; (case hd => rfl); (case hg => rfl); (case hr => first | (go_simp; done) | (go_simp; rfl)); (case hp => exact (Reps.one (show Kd.M (Kd.int .u8) _ _ _ (((qc l1 x18_1).f0) % 256) [.int .u8 (((qc l1 x18_1).f0) % 256)] from rfl) (Reps.none _ _))); intro v142 w19 ho20 hb hg_ hnew_; clear hg_ hnew_; (first | rw [← Ny141.out] at ho20 | (simp only [Int.reduceToNat] at ho20; rw [← Ny141.out] at ho20)); have HO143 := qb.mk (Kd.qU ho20 (qG (by repeat (first | (with_reducible first | exact HB.out | apply qf | apply qg | apply qe | refine qk ?_ GE140.out) | exact HB.out)))); replace BK140 := qb.mk (qIb (g := gb140) (o := .cells #[.int .i64 ((qc l1 x18_1).f0), .int .i64 ((qc l1 x18_1).f1), .int .i64 ((qc l1 x18_1).f2), .string ((qc l1 x18_1).f3)] 43 (0, 0)) (by (with_reducible repeat (first | refine qB ?_ _ | refine qx ?_ | refine qC ?_ _)); refine qL (cs := #[.int .i64 ((qc l1 x18_1).f0), .int .i64 ((qc l1 x18_1).f1), .int .i64 ((qc l1 x18_1).f2), .string (⟨#[]⟩ : ByteArray)]) ?_ 3 _ rfl; (with_reducible repeat (first | refine qB ?_ _ | refine qx ?_ | refine qC ?_ _)); refine qL (cs := #[.int .i64 ((qc l1 x18_1).f0), .int .i64 ((qc l1 x18_1).f1), .int .i64 0, .string (⟨#[]⟩ : ByteArray)]) ?_ 2 _ rfl; (with_reducible repeat (first | refine qB ?_ _ | refine qx ?_ | refine qC ?_ _)); refine qL (cs := #[.int .i64 ((qc l1 x18_1).f0), .int .i64 0, .int .i64 0, .string (⟨#[]⟩ : ByteArray)]) ?_ 1 _ rfl; (with_reducible repeat (first | refine qB ?_ _ | refine qx ?_ | refine qC ?_ _)); refine qL (cs := #[.int .i64 0, .int .i64 0, .int .i64 0, .string (⟨#[]⟩ : ByteArray)]) ?_ 0 _ rfl; (with_reducible repeat (first | refine qB ?_ _ | refine qx ?_ | refine qC ?_ _)); exact BK140.out) hb); replace HB := qb.mk (qE (by repeat (first | (with_reducible first | exact HB.out | apply qf | apply qg | apply qe | refine qk ?_ GE140.out) | exact HB.out)) hb); clear hb ho20; have hcv21 := qRb (P := Try.prog) Try.underlying38 Try.underlying5 Try.underlying9 (Kd.qQb HO143.out); have hcz22_0 : w19.cell? ⟨gb140, 0, none⟩ = some (.int .i64 ((qc l1 x18_1).f0)) := (ql BK140.out 0).trans rfl; have hcz22_1 : w19.cell? ⟨gb140, 1, none⟩ = some (.int .i64 ((qc l1 x18_1).f1)) := (ql BK140.out 1).trans rfl; have hcz22_2 : w19.cell? ⟨gb140, 2, none⟩ = some (.int .i64 ((qc l1 x18_1).f2)) := (ql BK140.out 2).trans rfl; have hcz22_3 : w19.cell? ⟨gb140, 3, none⟩ = some (.string ((qc l1 x18_1).f3)) := (ql BK140.out 3).trans rfl; have hfz22_0 := qp BK140.out 0; have hfz22_1 := qp BK140.out 1; have hfz22_2 := qp BK140.out 2; have hfz22_3 := qp BK140.out 3))
           replace HO143 := qb.mk (Kd.qm HO143.out)
           replace BK140 := qb.mk (qx BK140.out)
           replace HB := qb.mk (qe HB.out)
           refine qAb (n := 10) (S := fun w' => w'.cell? ⟨gb140, 0, none⟩ = some (.int .i64 ((qc l1 x18_1).f0)) ∧ w'.cell? ⟨gb140, 1, none⟩ = some (.int .i64 ((qc l1 x18_1).f1)) ∧ w'.cell? ⟨gb140, 2, none⟩ = some (.int .i64 ((qc l1 x18_1).f2)) ∧ w'.cell? ⟨gb140, 3, none⟩ = some (.string ((qc l1 x18_1).f3))) (ds := []) (Extra.b [0, 10]) (by kernel_rfl) rfl rfl ⟨(ql BK140.out 0).trans rfl, (ql BK140.out 1).trans rfl, (ql BK140.out 2).trans rfl, (ql BK140.out 3).trans rfl⟩ (fun hHeld => ?_); refine qyb qY.tab9 qY.bits9 (fun HT_ HW_ => ?_)
           generalize w19.drew = w23 at HO143 BK140 HB hHeld ⊢
           refine pure_ (i := 0) (N := some 32) (v := ?_) (a' := ?_) (Extra.b [1, 9]) rfl rfl (qw HT_.out (by kernel_rfl)) (fun _ _ _ h => h) (Or.inl ⟨by rfl, ?_⟩) ?_ ?_
           rotate_left
           ·intro w'
            go_simp
            with_reducible rfl
           rotate_left
           ·simp only [Act.put, List.setIfInBounds_toArray, List.set_cons_zero, List.set_cons_succ, i64_w, i32_w]
            rfl
           refine pure_ (i := 1) (N := some 33) (v := ?_) (a' := ?_) (Extra.b [2, 8]) rfl rfl (qw HT_.out (by kernel_rfl)) (fun _ _ _ h => h) (Or.inl ⟨by rfl, ?_⟩) ?_ ?_
           rotate_left
           ·intro w'
            go_simp
            with_reducible rfl
           rotate_left
           ·simp only [Act.put, List.setIfInBounds_toArray, List.set_cons_zero, List.set_cons_succ, i64_w, i32_w]
            rfl
           refine pure_ (i := 4) (N := some 36) (v := ?_) (a' := ?_) (Extra.b [2, 2, 1, 5]) rfl rfl (qw HT_.out (by kernel_rfl)) (fun _ _ _ h => h) (Or.inl ⟨by rfl, ?_⟩) ?_ ?_
           rotate_left
           ·intro w'
            go_simp
            with_reducible rfl
           rotate_left
           ·simp only [Act.put, List.setIfInBounds_toArray, List.set_cons_zero, List.set_cons_succ, i64_w, i32_w]
            rfl
           refine take_ (i := 2) (N := some 34) (v := ?_) (a' := ?_) (Extra.b [3, 1, 1, 5]) rfl rfl (qnb HT_.out HW_.out (by kernel_rfl)) (fun _ _ _ h => h) (Or.inl ⟨by rfl, ?_⟩) hHeld ?_ ?_
           rotate_left
           ·rintro w' ⟨s0, s1, s2, s3⟩
            go_simp
            with_reducible rfl
           rotate_left
           ·simp only [Act.put, List.setIfInBounds_toArray, List.set_cons_zero, List.set_cons_succ, i64_w, i32_w]
            rfl
           refine take_ (i := 5) (N := some 37) (v := ?_) (a' := ?_) (Extra.b [3, 1, 2, 4]) rfl rfl (qnb HT_.out HW_.out (by kernel_rfl)) (fun _ _ _ h => h) (Or.inl ⟨by rfl, ?_⟩) hHeld ?_ ?_
           rotate_left
           ·rintro w' ⟨s0, s1, s2, s3⟩
            go_simp
            with_reducible rfl
           rotate_left
           ·simp only [Act.put, List.setIfInBounds_toArray, List.set_cons_zero, List.set_cons_succ, i64_w, i32_w]
            rfl
           refine one_ (i := 3) (N := some 35) (Extra.b [6, 4]) rfl rfl (qEb HT_.out (by kernel_rfl)) (by decide) (fun K hK => ?_)
           refine goes_ Try.func64 (by kernel_rfl) rfl #[.int .i64 ((qc l1 x18_1).f1)] (by rfl) rfl rfl (by (try simp only [List.map_toArray, List.map_cons, List.map_nil]); first | done | rfl | (simp only [List.length_drop, List.length_take]; rfl)) ?_
           with_reducible refine (qPb.calls ((qc l1 x18_1).f1) t144 _ A13.out).mono ?_
           rintro e w24 ⟨rfl, hb⟩
           refine ⟨_, rfl, ?_⟩
           replace HO143 := qb.mk (Kd.qX (by (with_reducible repeat (first | apply Kd.qo | apply Kd.qn | apply Kd.qm)); exact HO143.out) hb)
           replace BK140 := qb.mk (qIb (g := gb140) (o := .cells #[.int .i64 ((qc l1 x18_1).f0), .int .i64 ((qc l1 x18_1).f1), .int .i64 ((qc l1 x18_1).f2), .string ((qc l1 x18_1).f3)] 43 (0, 0)) (by (with_reducible repeat (first | refine qB ?_ _ | refine qx ?_ | refine qC ?_ _)); exact BK140.out) hb)
           replace HB := qb.mk (qE (by repeat (first | (with_reducible first | exact HB.out | apply qf | apply qg | apply qe | refine qk ?_ GE140.out) | exact HB.out)) hb)
           (try clear hb)
           (try clear hb2)
           (try clear hk)
           (try clear hi)
           refine hK.out _ _ ⟨(ql BK140.out 0).trans rfl, (ql BK140.out 1).trans rfl, (ql BK140.out 2).trans rfl, (ql BK140.out 3).trans rfl⟩ (fun hHeld => ?_)
           clear hK K
           refine norm_ (a' := ?_) ?_ ?_
           rotate_left
           ·show Act.put _ (some 35) _ = _
            simp only [Act.put, List.setIfInBounds_toArray, List.set_cons_zero, List.set_cons_succ, i64_w, i32_w]
            rfl
           refine one_ (i := 6) (N := some 38) (Extra.b [7, 3]) rfl rfl (qEb HT_.out (by kernel_rfl)) (by decide) (fun K hK => ?_)
           refine goes_ Try.func64 (by kernel_rfl) rfl #[.int .i64 ((qc l1 x18_1).f2)] (by rfl) rfl rfl (by (try simp only [List.map_toArray, List.map_cons, List.map_nil]); first | done | rfl | (simp only [List.length_drop, List.length_take]; rfl)) ?_
           with_reducible refine (qPb.calls ((qc l1 x18_1).f2) t145 _ A14.out).mono ?_
           rintro e w25 ⟨rfl, hb⟩
           refine ⟨_, rfl, ?_⟩
           replace HO143 := qb.mk (Kd.qX (by (with_reducible repeat (first | apply Kd.qo | apply Kd.qn | apply Kd.qm)); exact HO143.out) hb)
           replace BK140 := qb.mk (qIb (g := gb140) (o := .cells #[.int .i64 ((qc l1 x18_1).f0), .int .i64 ((qc l1 x18_1).f1), .int .i64 ((qc l1 x18_1).f2), .string ((qc l1 x18_1).f3)] 43 (0, 0)) (by (with_reducible repeat (first | refine qB ?_ _ | refine qx ?_ | refine qC ?_ _)); exact BK140.out) hb)
           replace HB := qb.mk (qE (by repeat (first | (with_reducible first | exact HB.out | apply qf | apply qg | apply qe | refine qk ?_ GE140.out) | exact HB.out)) hb)
           (try clear hb)
           (try clear hb2)
           (try clear hk)
           (try clear hi)
           refine hK.out _ _ ⟨(ql BK140.out 0).trans rfl, (ql BK140.out 1).trans rfl, (ql BK140.out 2).trans rfl, (ql BK140.out 3).trans rfl⟩ (fun hHeld => ?_)
           clear hK K
           refine norm_ (a' := ?_) ?_ ?_
           rotate_left
           ·show Act.put _ (some 38) _ = _
            simp only [Act.put, List.setIfInBounds_toArray, List.set_cons_zero, List.set_cons_succ, i64_w, i32_w]
            rfl
           refine pure_ (i := 7) (N := some 39) (v := ?_) (a' := ?_) (Extra.b [8, 2]) rfl rfl (qw HT_.out (by kernel_rfl)) (fun _ _ _ h => h) (Or.inl ⟨by rfl, ?_⟩) ?_ ?_
           rotate_left
           ·intro w'
            go_simp
            with_reducible rfl
           rotate_left
           ·simp only [Act.put, List.setIfInBounds_toArray, List.set_cons_zero, List.set_cons_succ, i64_w, i32_w]
            rfl
           refine pure_ (i := 8) (N := some 40) (v := ?_) (a' := ?_) (Extra.b [9, 1]) rfl rfl (qw HT_.out (by kernel_rfl)) (fun _ _ _ h => h) (Or.inl ⟨by rfl, ?_⟩) ?_ ?_
           rotate_left
           ·intro w'
            go_simp
            with_reducible rfl
           rotate_left
           ·simp only [Act.put, List.setIfInBounds_toArray, List.set_cons_zero, List.set_cons_succ, i64_w, i32_w]
            rfl
           refine pure_ (i := 9) (N := some 6) (v := ?_) (a' := ?_) (Extra.b [10]) rfl rfl (qw HT_.out (by kernel_rfl)) (fun _ _ _ h => h) (Or.inl ⟨by rfl, ?_⟩) ?_ ?_
           rotate_left
           ·intro w'
            go_simp
            with_reducible rfl
           rotate_left
           ·simp only [Act.put, List.setIfInBounds_toArray, List.set_cons_zero, List.set_cons_succ, i64_w, i32_w]
            rfl
           refine done_ (qzb HT_.out (by kernel_rfl)) ?_
           try go_wp2
           go_roundg k1
           case measure => have := HK1.out; omega
           case rel => exact ⟨((x6_1 ++ (strOfNums y141)) ++ (t144 ++ t145)), (wrap64 (x18_1 + 1)), (by first | rfl | (simp; done) | (simp [*]; done)), (by first | rfl | (simp; done) | (simp [*]; done)), H', ⟨by have := HK1.out; omega⟩, ⟨by repeat (first | (with_reducible first | exact HB.out | apply qf | apply qg | apply qe | refine qk ?_ GE140.out) | exact HB.out)⟩⟩
          ·rw [if_neg c16] at H
           exact absurd H (by simp)
         ·rw [if_neg c15] at H
          exact absurd H (by simp)
        ·rw [if_neg c12] at H
         have c12b0 : (((qc l1 x18_1).f0) == 1) = false := beq_eq_false_iff_ne.mpr c12
         have c12b1 : (((qc l1 x18_1).f0) != 1) = true := bne_iff_ne.mpr c12
         replace H := Option.bind_eq_some_iff.mp H
         obtain ⟨t146, A260, H⟩ := H
         try dsimp only at H
         have A26 := qb.mk A260
         clear A260
         by_cases c27 : t146.size + ((qc l1 x18_1).f3).size ≤ 9223372036854775807
         ·rw [if_pos c27] at H
          have c27b0 := eq_true c27
          have c27b1 : decide (t146.size + ((qc l1 x18_1).f3).size ≤ 9223372036854775807) = true := decide_eq_true c27
          try have c27b2 : (9223372036854775807 < t146.size + ((qc l1 x18_1).f3).size) = False := eq_false (Nat.not_lt.2 c27)
          by_cases c28 : (x6_1 ++ (strOfNums y141)).size + (t146 ++ ((qc l1 x18_1).f3)).size ≤ 9223372036854775807
          ·rw [if_pos c28] at H
           have c28b0 := eq_true c28
           have c28b1 : decide ((x6_1 ++ (strOfNums y141)).size + (t146 ++ ((qc l1 x18_1).f3)).size ≤ 9223372036854775807) = true := decide_eq_true c28
           try have c28b2 : (9223372036854775807 < (x6_1 ++ (strOfNums y141)).size + (t146 ++ ((qc l1 x18_1).f3)).size) = False := eq_false (Nat.not_lt.2 c28)
           have c28b3 : ∀ m_ n_ : Nat, m_ = (x6_1 ++ (strOfNums y141)).size → n_ = (t146 ++ ((qc l1 x18_1).f3)).size → (9223372036854775807 < m_ + n_) = False := fun m_ n_ h1_ h2_ => by rw [h1_, h2_]; exact eq_false (Nat.not_lt.2 c28)
           have H' := qb.mk H
           clear H
           have p139 : 0 ≤ (x18_1 : Int) := of_decide_eq_true (by first | (with_reducible assumption) | assumption)
           have q139 : x18_1 < (l1.length : Int) := of_decide_eq_true (by first | (with_reducible assumption) | assumption)
           obtain ⟨ad139, e139, hx139_0, hx139_1, hx139_2, hx139_3⟩ := qqb HR1.out x18_1 p139 q139
           cases e139
           replace hx139_0 := (HB.out.cell (World.block_lt_of_cell? w _ hx139_0)).trans hx139_0
           replace hx139_1 := (HB.out.cell (World.block_lt_of_cell? w _ hx139_1)).trans hx139_1
           replace hx139_2 := (HB.out.cell (World.block_lt_of_cell? w _ hx139_2)).trans hx139_2
           replace hx139_3 := (HB.out.cell (World.block_lt_of_cell? w _ hx139_3)).trans hx139_3
           replace p139 := eq_true p139
           replace q139 := eq_true q139
           try go_wp2_with (first | ((with_reducible refine qcb (N := 8) rfl ?_); refine qpb ?hg (N := 8) ?hd (cs := #[.int .i64 0, .int .i64 0, .int .i64 0, .string (⟨#[]⟩ : ByteArray)]) (t := 43) ?hr ?_; (case hd => rfl); (case hg => rfl); (case hr => first | (go_simp; done) | (go_simp; rfl)); intro gb140 hg w29 hbox hb; have BK140 := qb.mk (hbox); have GW140 := qb.mk ((by rw [hg]; exact (qG (by repeat (first | (with_reducible first | exact HB.out | apply qf | apply qg | apply qe) | exact HB.out))) : w.heap.size ≤ gb140)); have GE140 := qb.mk ((by rw [hg]; exact (qG (by repeat (first | (with_reducible first | exact HB.out | apply qf | apply qg | apply qe) | exact HB.out))) : w.heap.size ≤ gb140)); replace HB := qb.mk (qE (by repeat (first | (with_reducible first | exact HB.out | apply qf | apply qg | apply qe) | exact HB.out)) hb); clear hb hbox hg; have hcz30_0 : w29.cell? ⟨gb140, 0, none⟩ = some (.int .i64 0) := (ql BK140.out 0).trans rfl; have hcz30_1 : w29.cell? ⟨gb140, 1, none⟩ = some (.int .i64 0) := (ql BK140.out 1).trans rfl; have hcz30_2 : w29.cell? ⟨gb140, 2, none⟩ = some (.int .i64 0) := (ql BK140.out 2).trans rfl; have hcz30_3 : w29.cell? ⟨gb140, 3, none⟩ = some (.string (⟨#[]⟩ : ByteArray)) := (ql BK140.out 3).trans rfl; have hfz30_0 := qp BK140.out 0; have hfz30_1 := qp BK140.out 1; have hfz30_2 := qp BK140.out 2; have hfz30_3 := qp BK140.out 3) | ((with_reducible refine qcb (N := 26) rfl ?_); refine Kd.R_lit (Kd.int .u8) _ 5 ?hg (N := 26) ?hd (xs := ([((qc l1 x18_1).f0) % 256] : List Int)) (inner := [.int .u8 (((qc l1 x18_1).f0) % 256)]) (ok := fun _ => True) (okp := fun _ => True) ?hr ?hp (fun _ hk => hk) trivial (Below.refl _ _) (Nat.le_refl _) (by simp) ?_; (case hd => rfl); (case hg => rfl); (case hr => first | (go_simp; done) | (go_simp; rfl)); (case hp => exact (Reps.one (show Kd.M (Kd.int .u8) _ _ _ (((qc l1 x18_1).f0) % 256) [.int .u8 (((qc l1 x18_1).f0) % 256)] from rfl) (Reps.none _ _))); intro v142 w31 ho32 hb hg_ hnew_; clear hg_ hnew_; (first | rw [← Ny141.out] at ho32 | (simp only [Int.reduceToNat] at ho32; rw [← Ny141.out] at ho32)); have HO143 := qb.mk (Kd.qU ho32 (qG (by repeat (first | (with_reducible first | exact HB.out | apply qf | apply qg | apply qe | refine qk ?_ GE140.out) | exact HB.out)))); replace BK140 := qb.mk (qIb (g := gb140) (o := .cells #[.int .i64 ((qc l1 x18_1).f0), .int .i64 ((qc l1 x18_1).f1), .int .i64 ((qc l1 x18_1).f2), .string ((qc l1 x18_1).f3)] 43 (0, 0)) (by (with_reducible repeat (first | refine qB ?_ _ | refine qx ?_ | refine qC ?_ _)); refine qL (cs := #[.int .i64 ((qc l1 x18_1).f0), .int .i64 ((qc l1 x18_1).f1), .int .i64 ((qc l1 x18_1).f2), .string (⟨#[]⟩ : ByteArray)]) ?_ 3 _ rfl; (with_reducible repeat (first | refine qB ?_ _ | refine qx ?_ | refine qC ?_ _)); refine qL (cs := #[.int .i64 ((qc l1 x18_1).f0), .int .i64 ((qc l1 x18_1).f1), .int .i64 0, .string (⟨#[]⟩ : ByteArray)]) ?_ 2 _ rfl; (with_reducible repeat (first | refine qB ?_ _ | refine qx ?_ | refine qC ?_ _)); refine qL (cs := #[.int .i64 ((qc l1 x18_1).f0), .int .i64 0, .int .i64 0, .string (⟨#[]⟩ : ByteArray)]) ?_ 1 _ rfl; (with_reducible repeat (first | refine qB ?_ _ | refine qx ?_ | refine qC ?_ _)); refine qL (cs := #[.int .i64 0, .int .i64 0, .int .i64 0, .string (⟨#[]⟩ : ByteArray)]) ?_ 0 _ rfl; (with_reducible repeat (first | refine qB ?_ _ | refine qx ?_ | refine qC ?_ _)); exact BK140.out) hb); replace HB := qb.mk (qE (by repeat (first | (with_reducible first | exact HB.out | apply qf | apply qg | apply qe | refine qk ?_ GE140.out) | exact HB.out)) hb); clear hb ho32; have hcv33 := qRb (P := Try.prog) Try.underlying38 Try.underlying5 Try.underlying9 (Kd.qQb HO143.out); have hcz34_0 : w31.cell? ⟨gb140, 0, none⟩ = some (.int .i64 ((qc l1 x18_1).f0)) := (ql BK140.out 0).trans rfl; have hcz34_1 : w31.cell? ⟨gb140, 1, none⟩ = some (.int .i64 ((qc l1 x18_1).f1)) := (ql BK140.out 1).trans rfl; have hcz34_2 : w31.cell? ⟨gb140, 2, none⟩ = some (.int .i64 ((qc l1 x18_1).f2)) := (ql BK140.out 2).trans rfl; have hcz34_3 : w31.cell? ⟨gb140, 3, none⟩ = some (.string ((qc l1 x18_1).f3)) := (ql BK140.out 3).trans rfl; have hfz34_0 := qp BK140.out 0; have hfz34_1 := qp BK140.out 1; have hfz34_2 := qp BK140.out 2; have hfz34_3 := qp BK140.out 3))
           replace HO143 := qb.mk (Kd.qm HO143.out)
           replace BK140 := qb.mk (qx BK140.out)
           replace HB := qb.mk (qe HB.out)
           refine qAb (n := 10) (S := fun w' => w'.cell? ⟨gb140, 0, none⟩ = some (.int .i64 ((qc l1 x18_1).f0)) ∧ w'.cell? ⟨gb140, 1, none⟩ = some (.int .i64 ((qc l1 x18_1).f1)) ∧ w'.cell? ⟨gb140, 2, none⟩ = some (.int .i64 ((qc l1 x18_1).f2)) ∧ w'.cell? ⟨gb140, 3, none⟩ = some (.string ((qc l1 x18_1).f3))) (ds := []) (Extra.b [0, 10]) (by kernel_rfl) rfl rfl ⟨(ql BK140.out 0).trans rfl, (ql BK140.out 1).trans rfl, (ql BK140.out 2).trans rfl, (ql BK140.out 3).trans rfl⟩ (fun hHeld => ?_); refine qyb qY.tab10 qY.bits10 (fun HT_ HW_ => ?_)
           generalize w31.drew = w35 at HO143 BK140 HB hHeld ⊢
           refine pure_ (i := 0) (N := some 41) (v := ?_) (a' := ?_) (Extra.b [1, 9]) rfl rfl (qw HT_.out (by kernel_rfl)) (fun _ _ _ h => h) (Or.inl ⟨by rfl, ?_⟩) ?_ ?_
           rotate_left
           ·intro w'
            go_simp
            with_reducible rfl
           rotate_left
           ·simp only [Act.put, List.setIfInBounds_toArray, List.set_cons_zero, List.set_cons_succ, i64_w, i32_w]
            rfl
           refine pure_ (i := 1) (N := some 42) (v := ?_) (a' := ?_) (Extra.b [2, 8]) rfl rfl (qw HT_.out (by kernel_rfl)) (fun _ _ _ h => h) (Or.inl ⟨by rfl, ?_⟩) ?_ ?_
           rotate_left
           ·intro w'
            go_simp
            with_reducible rfl
           rotate_left
           ·simp only [Act.put, List.setIfInBounds_toArray, List.set_cons_zero, List.set_cons_succ, i64_w, i32_w]
            rfl
           refine pure_ (i := 5) (N := some 46) (v := ?_) (a' := ?_) (Extra.b [2, 3, 1, 4]) rfl rfl (qw HT_.out (by kernel_rfl)) (fun _ _ _ h => h) (Or.inl ⟨by rfl, ?_⟩) ?_ ?_
           rotate_left
           ·intro w'
            go_simp
            with_reducible rfl
           rotate_left
           ·simp only [Act.put, List.setIfInBounds_toArray, List.set_cons_zero, List.set_cons_succ, i64_w, i32_w]
            rfl
           refine take_ (i := 2) (N := some 43) (v := ?_) (a' := ?_) (Extra.b [3, 2, 1, 4]) rfl rfl (qnb HT_.out HW_.out (by kernel_rfl)) (fun _ _ _ h => h) (Or.inl ⟨by rfl, ?_⟩) hHeld ?_ ?_
           rotate_left
           ·rintro w' ⟨s0, s1, s2, s3⟩
            go_simp
            with_reducible rfl
           rotate_left
           ·simp only [Act.put, List.setIfInBounds_toArray, List.set_cons_zero, List.set_cons_succ, i64_w, i32_w]
            rfl
           refine pure_ (i := 3) (N := some 44) (v := ?_) (a' := ?_) (Extra.b [4, 1, 1, 4]) rfl rfl (qw HT_.out (by kernel_rfl)) (fun _ _ _ h => h) (Or.inl ⟨by rfl, ?_⟩) ?_ ?_
           rotate_left
           ·intro w'
            go_simp
            with_reducible rfl
           rotate_left
           ·simp only [Act.put, List.setIfInBounds_toArray, List.set_cons_zero, List.set_cons_succ, i64_w, i32_w]
            rfl
           refine take_ (i := 6) (N := some 47) (v := ?_) (a' := ?_) (Extra.b [4, 1, 2, 3]) rfl rfl (qnb HT_.out HW_.out (by kernel_rfl)) (fun _ _ _ h => h) (Or.inl ⟨by rfl, ?_⟩) hHeld ?_ ?_
           rotate_left
           ·rintro w' ⟨s0, s1, s2, s3⟩
            go_simp
            with_reducible rfl
           rotate_left
           ·simp only [Act.put, List.setIfInBounds_toArray, List.set_cons_zero, List.set_cons_succ, i64_w, i32_w]
            rfl
           refine one_ (i := 4) (N := some 45) (Extra.b [7, 3]) rfl rfl (qEb HT_.out (by kernel_rfl)) (by decide) (fun K hK => ?_)
           refine goes_ Try.func64 (by kernel_rfl) rfl #[.int .i64 (((qc l1 x18_1).f3).size : Int)] (by rfl) rfl rfl (by (try simp only [List.map_toArray, List.map_cons, List.map_nil]); first | done | rfl | (simp only [List.length_drop, List.length_take]; rfl)) ?_
           with_reducible refine (qPb.calls (((qc l1 x18_1).f3).size : Int) t146 _ A26.out).mono ?_
           rintro e w36 ⟨rfl, hb⟩
           refine ⟨_, rfl, ?_⟩
           replace HO143 := qb.mk (Kd.qX (by (with_reducible repeat (first | apply Kd.qo | apply Kd.qn | apply Kd.qm)); exact HO143.out) hb)
           replace BK140 := qb.mk (qIb (g := gb140) (o := .cells #[.int .i64 ((qc l1 x18_1).f0), .int .i64 ((qc l1 x18_1).f1), .int .i64 ((qc l1 x18_1).f2), .string ((qc l1 x18_1).f3)] 43 (0, 0)) (by (with_reducible repeat (first | refine qB ?_ _ | refine qx ?_ | refine qC ?_ _)); exact BK140.out) hb)
           replace HB := qb.mk (qE (by repeat (first | (with_reducible first | exact HB.out | apply qf | apply qg | apply qe | refine qk ?_ GE140.out) | exact HB.out)) hb)
           (try clear hb)
           (try clear hb2)
           (try clear hk)
           (try clear hi)
           refine hK.out _ _ ⟨(ql BK140.out 0).trans rfl, (ql BK140.out 1).trans rfl, (ql BK140.out 2).trans rfl, (ql BK140.out 3).trans rfl⟩ (fun hHeld => ?_)
           clear hK K
           refine norm_ (a' := ?_) ?_ ?_
           rotate_left
           ·show Act.put _ (some 45) _ = _
            simp only [Act.put, List.setIfInBounds_toArray, List.set_cons_zero, List.set_cons_succ, i64_w, i32_w]
            rfl
           refine pure_ (i := 7) (N := some 48) (v := ?_) (a' := ?_) (Extra.b [8, 2]) rfl rfl (qw HT_.out (by kernel_rfl)) (fun _ _ _ h => h) (Or.inl ⟨by rfl, ?_⟩) ?_ ?_
           rotate_left
           ·intro w'
            go_simp
            with_reducible rfl
           rotate_left
           ·simp only [Act.put, List.setIfInBounds_toArray, List.set_cons_zero, List.set_cons_succ, i64_w, i32_w]
            rfl
           refine pure_ (i := 8) (N := some 49) (v := ?_) (a' := ?_) (Extra.b [9, 1]) rfl rfl (qw HT_.out (by kernel_rfl)) (fun _ _ _ h => h) (Or.inl ⟨by rfl, ?_⟩) ?_ ?_
           rotate_left
           ·intro w'
            go_simp
            with_reducible rfl
           rotate_left
           ·simp only [Act.put, List.setIfInBounds_toArray, List.set_cons_zero, List.set_cons_succ, i64_w, i32_w]
            rfl
           refine pure_ (i := 9) (N := some 6) (v := ?_) (a' := ?_) (Extra.b [10]) rfl rfl (qw HT_.out (by kernel_rfl)) (fun _ _ _ h => h) (Or.inl ⟨by rfl, ?_⟩) ?_ ?_
           rotate_left
           ·intro w'
            go_simp
            with_reducible rfl
           rotate_left
           ·simp only [Act.put, List.setIfInBounds_toArray, List.set_cons_zero, List.set_cons_succ, i64_w, i32_w]
            rfl
           refine done_ (qzb HT_.out (by kernel_rfl)) ?_
           try go_wp2
           go_roundg k1
           case measure => have := HK1.out; omega
           case rel => exact ⟨((x6_1 ++ (strOfNums y141)) ++ (t146 ++ ((qc l1 x18_1).f3))), (wrap64 (x18_1 + 1)), (by first | rfl | (simp; done) | (simp [*]; done)), (by first | rfl | (simp; done) | (simp [*]; done)), H', ⟨by have := HK1.out; omega⟩, ⟨by repeat (first | (with_reducible first | exact HB.out | apply qf | apply qg | apply qe | refine qk ?_ GE140.out) | exact HB.out)⟩⟩
          ·rw [if_neg c28] at H
           exact absurd H (by simp)
         ·rw [if_neg c27] at H
          exact absurd H (by simp)
       ·rw [if_neg c11] at H
        exact absurd H (by simp)
      ·rw [if_neg c10] at H
       exact absurd H (by simp)
     ·rw [if_neg c9] at H
      exact absurd H (by simp)
    ·rw [if_neg c8] at H
     have c8b0 : decide (x18_1 < (l1.length : Int)) = false := decide_eq_false c8
     clear c8
     simp only [Option.some.injEq, Prod.mk.injEq] at H
     obtain ⟨rfl, rfl⟩ := H
     go_wp2
     go_ret2
     exact ⟨by first | rfl | (simp [qv, qu] <;> rfl) | (simp [*, qv, qu] <;> rfl), by repeat (first | (with_reducible first | exact HB.out | apply qf | apply qg | apply qe) | exact HB.out)⟩
 ·replace c4 := Bool.eq_false_iff.mpr c4
  subst c4
  rw [if_neg (show ¬ (false = true) by decide)] at H
  simp only [Option.some.injEq, Prod.mk.injEq] at H
  obtain ⟨rfl, rfl⟩ := H
  go_enter Try.func25, Try.ntmps25
  go_wp2_with (first | ((with_reducible refine qy (f := 21) rfl ?_); refine qz (some 11) rfl rfl Try.func21 (by kernel_rfl) rfl #[.string a0, .slice A1 l1.length c1] rfl (by (try simp only [List.map_toArray, List.map_cons, List.map_nil]); first | done | rfl | (simp only [List.length_drop, List.length_take]; rfl)) ?_; (with_reducible refine (qlb.calls k a0 _ _ l1 false _ ?side1 ?side2 A3.out).mono ?_); (case side1 => repeat (first | exact HR1.out | (with_reducible refine Kd.qN ?_ _) | (with_reducible refine Kd.qM ?_ _) | (with_reducible refine Kd.qO ?_))); (case side2 => exact HC1.out); rintro e w37 ⟨rfl, hb⟩; refine ⟨_, rfl, ?_⟩; replace HB := qb.mk (qE (by repeat (first | (with_reducible first | exact HB.out | apply qf | apply qg | apply qe) | exact HB.out)) hb); (try clear hb); (try clear hb2); (try clear hk); (try clear hi)))
  go_ret2
  exact ⟨by first | rfl | (simp [qv, qu] <;> rfl) | (simp [*, qv, qu] <;> rfl), by repeat (first | (with_reducible first | exact HB.out | apply qf | apply qg | apply qe) | exact HB.out)⟩

/-! ### qxc: function 30 -/
def qxc.f (l0 : List Int) (l1 : List Int) : Option (Bool) := if (l0.length : Int) > 1048576 then (some true) else (some (decide ((l1.length : Int) > (wrap64 (1048576 - (l0.length : Int))))))
set_option maxHeartbeats 8000000 in
set_option maxRecDepth 100000 in
theorem qxc.calls (A0 : Option Addr) (c0 : Nat) (l0 : List Int) (A1 : Option Addr) (c1 : Nat) (l1 : List Int) (r : Bool) (w : World) (hr0 : Kd.C (Kd.int .u8) w A0 l0.length l0) (hc0 : l0.length ≤ c0) (hr1 : Kd.C (Kd.int .u8) w A1 l1.length l1) (hc1 : l1.length ≤ c1) (h : qxc.f l0 l1 = some r) :
  Calls Try.prog 30 #[.slice A0 l0.length c0, .slice A1 l1.length c1] w fun e w' => e = .returned (.bool r) ∧ Drawn0 w w' := by
 have HR0 := qb.mk hr0
 have HC0 := qb.mk hc0
 clear hr0 hc0
 have HR1 := qb.mk hr1
 have HC1 := qb.mk hc1
 clear hr1 hc1
 have H : (if (l0.length : Int) > 1048576 then (some true) else (some (decide ((l1.length : Int) > (wrap64 (1048576 - (l0.length : Int))))))) = some r := h
 clear h
 by_cases c3 : (l0.length : Int) > 1048576
 ·rw [if_pos c3] at H
  have c3b0 : decide (1048576 < (l0.length : Int)) = true := decide_eq_true c3
  have c3b1 : decide (1048576 < l0.length) = true := decide_eq_true (by omega)
  clear c3
  obtain rfl := Option.some.inj H
  go_enter Try.func30, Try.ntmps30
  go_wp2
  go_ret
  exact ⟨by first | rfl | (simp; done) | (simp [*]; done), by repeat (first | exact Drawn0.refl _ | apply Drawn0.step)⟩
 ·rw [if_neg c3] at H
  have c3b0 : decide (1048576 < (l0.length : Int)) = false := decide_eq_false c3
  have c3b1 : decide (1048576 < l0.length) = false := decide_eq_false (by omega)
  clear c3
  obtain rfl := Option.some.inj H
  go_enter Try.func30, Try.ntmps30
  go_wp2
  go_ret
  exact ⟨by first | rfl | (simp; done) | (simp [*]; done), by repeat (first | exact Drawn0.refl _ | apply Drawn0.step)⟩

/-! ### qgb: function 32 -/
def qgb.l0 : Nat → List (S43) → List (S43) → Int → Int → Option (Bool)
 | 0, _, _, _, _ => none
 | k + 1, x0, x1, x12, x13 => if x13 < x12 then (if 0 ≤ x13 then (if x13 < (x0.length : Int) then (if x13 < (x1.length : Int) then (if (!(((qc x0 x13).f0) == ((qc x1 x13).f0)) || (!(((qc x0 x13).f1) == ((qc x1 x13).f1)) || (!(((qc x0 x13).f2) == ((qc x1 x13).f2)) || (!((((qc x0 x13).f3).toList) == (((qc x1 x13).f3).toList)))))) = true then (some false) else (qgb.l0 k x0 x1 x12 (wrap64 (x13 + 1)))) else (none)) else (none)) else (none)) else (some true)
def qgb.f (k : Nat) (l0 : List (S43)) (l1 : List (S43)) : Option (Bool) := if (l0.length : Int) = (l1.length : Int) then (qgb.l0 k l0 l1 (l0.length : Int) 0) else (some false)
theorem qgb.qjb : ∀ k, (∀ y0 y1 y2 y3, LeO (qgb.l0 k y0 y1 y2 y3) (qgb.l0 (k + 1) y0 y1 y2 y3))
 | 0 => fun _ _ _ _ r h => by simp [qgb.l0] at h
 | k + 1 => by
  have ih0 := qgb.qjb k
  ·intro y0 y1 y2 y3
   unfold qgb.l0
   repeat' first
   | (with_reducible exact ih0 _ _ _ _)
   | (with_reducible exact LeO.refl _)
   | (with_reducible exact LeO.none _)
   | (with_reducible refine LeO.ite ?_ ?_)
   | (with_reducible refine LeO.bind ?_ (fun _ => ?_))
   | exact LeO.none _
   | refine LeO.ite ?_ ?_
   | refine LeO.bind ?_ (fun _ => ?_)
theorem qgb.mono : ∀ a0 a1 k, LeO (qgb.f k a0 a1) (qgb.f (k + 1) a0 a1) := by
 intro a0 a1 k
 have ih0 := qgb.qjb k
 unfold qgb.f
 repeat' first
   | (with_reducible exact ih0 _ _ _ _)
   | (with_reducible exact LeO.refl _)
   | (with_reducible exact LeO.none _)
   | (with_reducible refine LeO.ite ?_ ?_)
   | (with_reducible refine LeO.bind ?_ (fun _ => ?_))
   | exact LeO.none _
   | refine LeO.ite ?_ ?_
   | refine LeO.bind ?_ (fun _ => ?_)
set_option maxHeartbeats 8000000 in
set_option maxRecDepth 100000 in
theorem qgb.calls (k : Nat) (A0 : Option Addr) (c0 : Nat) (l0 : List (S43)) (A1 : Option Addr) (c1 : Nat) (l1 : List (S43)) (r : Bool) (w : World) (hr0 : Kd.C k43 w A0 l0.length l0) (hc0 : l0.length ≤ c0) (hr1 : Kd.C k43 w A1 l1.length l1) (hc1 : l1.length ≤ c1) (h : qgb.f k l0 l1 = some r) :
  Calls Try.prog 32 #[.slice A0 l0.length c0, .slice A1 l1.length c1] w fun e w' => e = .returned (.bool r) ∧ Drawn0 w w' := by
 have hu43 := Try.underlying43
 have HR0 := qb.mk hr0
 have HC0 := qb.mk hc0
 clear hr0 hc0
 have HR1 := qb.mk hr1
 have HC1 := qb.mk hc1
 clear hr1 hc1
 have H : (if (l0.length : Int) = (l1.length : Int) then (qgb.l0 k l0 l1 (l0.length : Int) 0) else (some false)) = some r := h
 clear h
 by_cases c3 : (l0.length : Int) = (l1.length : Int)
 ·rw [if_pos c3] at H
  have c3b0 : ((l0.length : Int) == (l1.length : Int)) = true := beq_iff_eq.mpr c3
  have c3b1 : ((l0.length : Int) != (l1.length : Int)) = false := bne_eq_false_iff_eq.mpr c3
  have c3b2 : (l0.length == l1.length) = true := by first | simpa using c3 | (simp at c3 ⊢; omega)
  clear c3
  have H' := qb.mk H
  clear H
  go_enter Try.func32, Try.ntmps32
  go_wp2
  repeat (go_quiet (fail); try go_wp2)
  go_loopg [13] k (fun kq v13 w' => ∃ (x13_1 : Int), v13 = .int .i64 x13_1 ∧ qb (qgb.l0 kq l0 l1 (l0.length : Int) x13_1 = some r) ∧ qb (kq ≤ k) ∧ Drawn0 w w')
  case atStart => exact ⟨(0), (by first | rfl | (simp; done) | (simp [*]; done)), H', ⟨Nat.le_refl _⟩, by repeat (first | exact Drawn0.refl _ | apply Drawn0.step)⟩
  case round =>
   clear H'
   try clear c1
   try clear p2
   try clear c3
   try clear c3b0
   try clear c3b1
   try clear c3b2
   obtain ⟨x13_1, rfl, HA, HK1, ⟨m1, rfl⟩⟩ := hrel
   cases gk with
   | zero => exact absurd HA.out (by simp [qgb.l0])
   | succ k1 =>
    have H := HA.out
    clear HA
    simp only [qgb.l0] at H
    by_cases c4 : x13_1 < (l0.length : Int)
    ·rw [if_pos c4] at H
     have c4b0 : decide (x13_1 < (l0.length : Int)) = true := decide_eq_true c4
     clear c4
     by_cases c5 : 0 ≤ x13_1
     ·rw [if_pos c5] at H
      have c5b0 : decide (0 ≤ x13_1) = true := decide_eq_true c5
      clear c5
      by_cases c6 : x13_1 < (l0.length : Int)
      ·rw [if_pos c6] at H
       have c6b0 : decide (x13_1 < (l0.length : Int)) = true := decide_eq_true c6
       clear c6
       by_cases c7 : x13_1 < (l1.length : Int)
       ·rw [if_pos c7] at H
        have c7b0 : decide (x13_1 < (l1.length : Int)) = true := decide_eq_true c7
        clear c7
        by_cases c8 : (!(((qc l0 x13_1).f0) == ((qc l1 x13_1).f0)) || (!(((qc l0 x13_1).f1) == ((qc l1 x13_1).f1)) || (!(((qc l0 x13_1).f2) == ((qc l1 x13_1).f2)) || (!((((qc l0 x13_1).f3).toList) == (((qc l1 x13_1).f3).toList)))))) = true
        ·rw [if_pos c8] at H
         have c8b0 : (!(((qc l0 x13_1).f0) == ((qc l1 x13_1).f0)) || (!(((qc l0 x13_1).f1) == ((qc l1 x13_1).f1)) || (!(((qc l0 x13_1).f2) == ((qc l1 x13_1).f2)) || (!((((qc l0 x13_1).f3).toList) == (((qc l1 x13_1).f3).toList)))))) = true := c8
         clear c8
         obtain rfl := Option.some.inj H
         have p147 : 0 ≤ (x13_1 : Int) := of_decide_eq_true (by first | (with_reducible assumption) | assumption)
         have q147 : x13_1 < (l0.length : Int) := of_decide_eq_true (by first | (with_reducible assumption) | assumption)
         obtain ⟨ad147, e147, hx147_0, hx147_1, hx147_2, hx147_3⟩ := qqb HR0.out x13_1 p147 q147
         cases e147
         replace p147 := eq_true p147
         replace q147 := eq_true q147
         have p148 : 0 ≤ (x13_1 : Int) := of_decide_eq_true (by first | (with_reducible assumption) | assumption)
         have q148 : x13_1 < (l1.length : Int) := of_decide_eq_true (by first | (with_reducible assumption) | assumption)
         obtain ⟨ad148, e148, hx148_0, hx148_1, hx148_2, hx148_3⟩ := qqb HR1.out x13_1 p148 q148
         cases e148
         replace p148 := eq_true p148
         replace q148 := eq_true q148
         go_wp2
         repeat (go_quiet (fail); try go_wp2)
         go_ret
         exact ⟨by first | rfl | (simp; done) | (simp [*]; done), by repeat (first | exact Drawn0.refl _ | apply Drawn0.step)⟩
        ·rw [if_neg c8] at H
         have c8b0 : (!(((qc l0 x13_1).f0) == ((qc l1 x13_1).f0)) || (!(((qc l0 x13_1).f1) == ((qc l1 x13_1).f1)) || (!(((qc l0 x13_1).f2) == ((qc l1 x13_1).f2)) || (!((((qc l0 x13_1).f3).toList) == (((qc l1 x13_1).f3).toList)))))) = false := by simpa using c8
         clear c8
         have H' := qb.mk H
         clear H
         have p147 : 0 ≤ (x13_1 : Int) := of_decide_eq_true (by first | (with_reducible assumption) | assumption)
         have q147 : x13_1 < (l0.length : Int) := of_decide_eq_true (by first | (with_reducible assumption) | assumption)
         obtain ⟨ad147, e147, hx147_0, hx147_1, hx147_2, hx147_3⟩ := qqb HR0.out x13_1 p147 q147
         cases e147
         replace p147 := eq_true p147
         replace q147 := eq_true q147
         have p148 : 0 ≤ (x13_1 : Int) := of_decide_eq_true (by first | (with_reducible assumption) | assumption)
         have q148 : x13_1 < (l1.length : Int) := of_decide_eq_true (by first | (with_reducible assumption) | assumption)
         obtain ⟨ad148, e148, hx148_0, hx148_1, hx148_2, hx148_3⟩ := qqb HR1.out x13_1 p148 q148
         cases e148
         replace p148 := eq_true p148
         replace q148 := eq_true q148
         go_wp2
         repeat (go_quiet (fail); try go_wp2)
         go_roundg k1
         case measure => have := HK1.out; omega
         case rel => exact ⟨(wrap64 (x13_1 + 1)), (by first | rfl | (simp; done) | (simp [*]; done)), H', ⟨by have := HK1.out; omega⟩, by repeat (first | exact Drawn0.refl _ | apply Drawn0.step)⟩
       ·rw [if_neg c7] at H
        exact absurd H (by simp)
      ·rw [if_neg c6] at H
       exact absurd H (by simp)
     ·rw [if_neg c5] at H
      exact absurd H (by simp)
    ·rw [if_neg c4] at H
     have c4b0 : decide (x13_1 < (l0.length : Int)) = false := decide_eq_false c4
     clear c4
     obtain rfl := Option.some.inj H
     go_wp2
     repeat (go_quiet (fail); try go_wp2)
     go_ret
     exact ⟨by first | rfl | (simp; done) | (simp [*]; done), by repeat (first | exact Drawn0.refl _ | apply Drawn0.step)⟩
 ·rw [if_neg c3] at H
  have c3b0 : ((l0.length : Int) == (l1.length : Int)) = false := beq_eq_false_iff_ne.mpr c3
  have c3b1 : ((l0.length : Int) != (l1.length : Int)) = true := bne_iff_ne.mpr c3
  have c3b2 : (l0.length == l1.length) = false := by first | simpa using c3 | (simp at c3 ⊢; omega)
  obtain rfl := Option.some.inj H
  go_enter Try.func32, Try.ntmps32
  go_wp2
  repeat (go_quiet (fail); try go_wp2)
  go_ret
  exact ⟨by first | rfl | (simp; done) | (simp [*]; done), by repeat (first | exact Drawn0.refl _ | apply Drawn0.step)⟩

end Go.Proofs.Ytnhnlfkbngnkpaa.E
