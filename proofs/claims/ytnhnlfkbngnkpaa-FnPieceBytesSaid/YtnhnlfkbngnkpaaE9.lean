-- Made by a program of this session out of the translation; no hand has turned it.
import Derived.Test.YtnhnlfkbngnkpaaE0
namespace Go.Proofs.Ytnhnlfkbngnkpaa.E
open Go.RowKit Go.Proofs.YtnhnlfkbngnkpaaW.PrintWords Go.Proofs.YtnhnlfkbngnkpaaW.PrintLast Go.Proofs.YtnhnlfkbngnkpaaW.PrintMore
attribute [local go_sem] qXb qbc qac qec qZb qdc qYb qcc   -- for this text's walks alone
set_option linter.unusedVariables false
set_option linter.unusedSimpArgs false

/-! ### qab: function 66 -/
mutual
def qab.l0 : Nat → ByteArray → ByteArray → Int → Int → Int → Int → Option (Int × Int)
 | 0, _, _, _, _, _, _ => none
 | k + 1, x0, x1, x6, x7, x12, x13 => if x13 < x12 then (qab.l1 k x0 x1 x6 x7 x13 0 x12 x13) else (some (x6, x7))
def qab.l1 : Nat → ByteArray → ByteArray → Int → Int → Int → Int → Int → Int → Option (Int × Int)
 | 0, _, _, _, _, _, _, _, _ => none
 | k + 1, x0, x1, x6, x7, x8, x9, x12, x13 => if x9 < (x1.size : Int) then (if (wrap64 (x8 + x9)) < (x0.size : Int) then (if 0 ≤ (wrap64 (x8 + x9)) then (if 0 ≤ x9 then (if (bt x0 (wrap64 (x8 + x9))) = (bt x1 x9) then (qab.l1 k x0 x1 x6 x7 x8 (wrap64 (x9 + 1)) x12 x13) else (if x9 > x7 then (qab.l0 k x0 x1 x8 x9 x12 (wrap64 (x13 + 1))) else (qab.l0 k x0 x1 x6 x7 x12 (wrap64 (x13 + 1))))) else (none)) else (none)) else (if x9 > x7 then (qab.l0 k x0 x1 x8 x9 x12 (wrap64 (x13 + 1))) else (qab.l0 k x0 x1 x6 x7 x12 (wrap64 (x13 + 1))))) else (if x9 > x7 then (qab.l0 k x0 x1 x8 x9 x12 (wrap64 (x13 + 1))) else (qab.l0 k x0 x1 x6 x7 x12 (wrap64 (x13 + 1))))
end
def qab.f (k : Nat) (a0 : ByteArray) (a1 : ByteArray) : Option (Int × Int) := qab.l0 k a0 a1 0 0 (a0.size : Int) 0
theorem qab.qjb : ∀ k, (∀ y0 y1 y2 y3 y4 y5, LeO (qab.l0 k y0 y1 y2 y3 y4 y5) (qab.l0 (k + 1) y0 y1 y2 y3 y4 y5)) ∧ (∀ y0 y1 y2 y3 y4 y5 y6 y7, LeO (qab.l1 k y0 y1 y2 y3 y4 y5 y6 y7) (qab.l1 (k + 1) y0 y1 y2 y3 y4 y5 y6 y7))
 | 0 => ⟨fun _ _ _ _ _ _ r h => by simp [qab.l0] at h, fun _ _ _ _ _ _ _ _ r h => by simp [qab.l1] at h⟩
 | k + 1 => by
  obtain ⟨ih0, ih1⟩ := qab.qjb k
  refine ⟨?_, ?_⟩
  ·intro y0 y1 y2 y3 y4 y5
   unfold qab.l0
   repeat' first
   | (with_reducible exact ih0 _ _ _ _ _ _)
   | (with_reducible exact ih1 _ _ _ _ _ _ _ _)
   | (with_reducible exact LeO.refl _)
   | (with_reducible exact LeO.none _)
   | (with_reducible refine LeO.ite ?_ ?_)
   | (with_reducible refine LeO.bind ?_ (fun _ => ?_))
   | exact LeO.none _
   | refine LeO.ite ?_ ?_
   | refine LeO.bind ?_ (fun _ => ?_)
  ·intro y0 y1 y2 y3 y4 y5 y6 y7
   unfold qab.l1
   repeat' first
   | (with_reducible exact ih0 _ _ _ _ _ _)
   | (with_reducible exact ih1 _ _ _ _ _ _ _ _)
   | (with_reducible exact LeO.refl _)
   | (with_reducible exact LeO.none _)
   | (with_reducible refine LeO.ite ?_ ?_)
   | (with_reducible refine LeO.bind ?_ (fun _ => ?_))
   | exact LeO.none _
   | refine LeO.ite ?_ ?_
   | refine LeO.bind ?_ (fun _ => ?_)
theorem qab.mono : ∀ a0 a1 k, LeO (qab.f k a0 a1) (qab.f (k + 1) a0 a1) := by
 intro a0 a1 k
 obtain ⟨ih0, ih1⟩ := qab.qjb k
 unfold qab.f
 repeat' first
   | (with_reducible exact ih0 _ _ _ _ _ _)
   | (with_reducible exact ih1 _ _ _ _ _ _ _ _)
   | (with_reducible exact LeO.refl _)
   | (with_reducible exact LeO.none _)
   | (with_reducible refine LeO.ite ?_ ?_)
   | (with_reducible refine LeO.bind ?_ (fun _ => ?_))
   | exact LeO.none _
   | refine LeO.ite ?_ ?_
   | refine LeO.bind ?_ (fun _ => ?_)
set_option maxHeartbeats 8000000 in
set_option maxRecDepth 100000 in
theorem qab.calls (k : Nat) (a0 : ByteArray) (a1 : ByteArray) (r1 : Int) (r2 : Int) (w : World) (h : qab.f k a0 a1 = some (r1, r2)) :
  Calls Try.prog 66 #[.string a0, .string a1] w fun e w' => e = .returned (.tuple #[.int .i64 r1, .int .i64 r2]) ∧ Below w.heap.size w w' := by
 have HB := qb.mk (Below.refl w.heap.size w)
 have H : (qab.l0 k a0 a1 0 0 (a0.size : Int) 0) = some (r1, r2) := h
 clear h
 have H' := qb.mk H
 clear H
 have kb11 := fun W => print_bytes (P := Try.prog) 9 38 5 Try.underlying9 Try.underlying38 Try.underlying5 a0 W
 go_enter Try.func66, Try.ntmps66
 go_wp2
 repeat (go_quiet (fail); try go_wp2)
 go_loopg [6, 7, 13] k (fun kq v6 v7 v13 w' => ∃ (x6_1 : Int) (x7_1 : Int) (x13_1 : Int), v6 = .int .i64 x6_1 ∧ v7 = .int .i64 x7_1 ∧ v13 = .int .i64 x13_1 ∧ qb (qab.l0 kq a0 a1 x6_1 x7_1 (a0.size : Int) x13_1 = some (r1, r2)) ∧ qb (kq ≤ k) ∧ qb (Below w.heap.size w w'))
 case atStart => exact ⟨(0), (0), (0), (by first | rfl | (simp; done) | (simp [*]; done)), (by first | rfl | (simp; done) | (simp [*]; done)), (by first | rfl | (simp; done) | (simp [*]; done)), H', ⟨Nat.le_refl _⟩, ⟨by repeat (first | (with_reducible first | exact HB.out | apply Extra.qrc | apply qf | apply qg | apply qe) | exact HB.out)⟩⟩
 case round =>
  clear H'
  try clear p2
  obtain ⟨x6_1, x7_1, x13_1, rfl, rfl, rfl, HA, HK1, HB⟩ := hrel
  cases gk with
  | zero => exact absurd HA.out (by simp [qab.l0])
  | succ k1 =>
   have H := HA.out
   clear HA
   simp only [qab.l0] at H
   by_cases c3 : x13_1 < (a0.size : Int)
   ·rw [if_pos c3] at H
    have c3b0 : decide (x13_1 < (a0.size : Int)) = true := decide_eq_true c3
    clear c3
    have H' := qb.mk H
    clear H
    go_wp2
    repeat (go_quiet (fail); try go_wp2)
    go_loopg [9] k1 (fun kq v9 w' => ∃ (x9_2 : Int), v9 = .int .i64 x9_2 ∧ qb (qab.l1 kq a0 a1 x6_1 x7_1 x13_1 x9_2 (a0.size : Int) x13_1 = some (r1, r2)) ∧ qb (kq ≤ k1) ∧ qb (Below w.heap.size w w'))
    case atStart => exact ⟨(0), (by first | rfl | (simp; done) | (simp [*]; done)), H', ⟨Nat.le_refl _⟩, ⟨by repeat (first | (with_reducible first | exact HB.out | apply Extra.qrc | apply qf | apply qg | apply qe) | exact HB.out)⟩⟩
    case round =>
     clear H'
     try clear p2
     try clear c3
     try clear c3b0
     try clear p2
     obtain ⟨x9_2, rfl, HA, HK2, HB⟩ := hrel
     cases gk with
     | zero => exact absurd HA.out (by simp [qab.l1])
     | succ k2 =>
      have H := HA.out
      clear HA
      simp only [qab.l1] at H
      by_cases c4 : x9_2 < (a1.size : Int)
      ·rw [if_pos c4] at H
       have c4b0 : decide (x9_2 < (a1.size : Int)) = true := decide_eq_true c4
       clear c4
       by_cases c5 : (wrap64 (x13_1 + x9_2)) < (a0.size : Int)
       ·rw [if_pos c5] at H
        have c5b0 : decide ((wrap64 (x13_1 + x9_2)) < (a0.size : Int)) = true := decide_eq_true c5
        clear c5
        obtain ⟨ji6, hji6⟩ : ∃ j_ : Int, (wrap64 (x13_1 + x9_2)) = j_ := ⟨_, rfl⟩
        replace H : (if 0 ≤ (ji6) then (if 0 ≤ x9_2 then (if (bt a0 (ji6)) = (bt a1 x9_2) then (qab.l1 k2 a0 a1 x6_1 x7_1 x13_1 (wrap64 (x9_2 + 1)) (a0.size : Int) x13_1) else (if x9_2 > x7_1 then (qab.l0 k2 a0 a1 x13_1 x9_2 (a0.size : Int) (wrap64 (x13_1 + 1))) else (qab.l0 k2 a0 a1 x6_1 x7_1 (a0.size : Int) (wrap64 (x13_1 + 1))))) else (none)) else (none)) = some (r1, r2) := by first | (rw [hji6] at H; exact H) | (simp only [hji6] at H ⊢; exact H)
        (try rw [hji6] at c5b0)
        have hji6w : (IntKind.i64.wrap (x13_1 + x9_2)) = ji6 := (i64_w _).trans hji6
        by_cases c7 : 0 ≤ (ji6)
        ·rw [if_pos c7] at H
         have c7b0 : decide (0 ≤ (ji6)) = true := decide_eq_true c7
         clear c7
         by_cases c9 : 0 ≤ x9_2
         ·rw [if_pos c9] at H
          have c9b0 : decide (0 ≤ x9_2) = true := decide_eq_true c9
          clear c9
          by_cases c11 : (bt a0 (ji6)) = (bt a1 x9_2)
          ·rw [if_pos c11] at H
           have c11b0 : ((bt a0 (ji6)) == (bt a1 x9_2)) = true := beq_iff_eq.mpr c11
           have c11b1 : ((bt a0 (ji6)) != (bt a1 x9_2)) = false := bne_eq_false_iff_eq.mpr c11
           clear c11
           have H' := qb.mk H
           clear H
           have p8 : 0 ≤ ((ji6) : Int) := of_decide_eq_true (by first | (with_reducible assumption) | assumption)
           have q8 : (ji6) < (a0.size : Int) := of_decide_eq_true (by first | (with_reducible assumption) | assumption)
           have hx8 := bt_at a0 (ji6)
           replace p8 := eq_true p8
           replace q8 := eq_true q8
           have p10 : 0 ≤ (x9_2 : Int) := of_decide_eq_true (by first | (with_reducible assumption) | assumption)
           have q10 : x9_2 < (a1.size : Int) := of_decide_eq_true (by first | (with_reducible assumption) | assumption)
           have hx10 := bt_at a1 x9_2
           replace p10 := eq_true p10
           replace q10 := eq_true q10
           go_wp2
           repeat (go_quiet (fail); try go_wp2)
           go_roundg k2
           case measure => have := HK1.out; have := HK2.out; omega
           case rel => exact ⟨(wrap64 (x9_2 + 1)), (by first | rfl | (simp; done) | (simp [*]; done)), H', ⟨by have := HK1.out; have := HK2.out; omega⟩, ⟨by repeat (first | (with_reducible first | exact HB.out | apply Extra.qrc | apply qf | apply qg | apply qe) | exact HB.out)⟩⟩
          ·rw [if_neg c11] at H
           have c11b0 : ((bt a0 (ji6)) == (bt a1 x9_2)) = false := beq_eq_false_iff_ne.mpr c11
           have c11b1 : ((bt a0 (ji6)) != (bt a1 x9_2)) = true := bne_iff_ne.mpr c11
           by_cases c12 : x9_2 > x7_1
           ·rw [if_pos c12] at H
            have c12b0 : decide (x7_1 < x9_2) = true := decide_eq_true c12
            clear c12
            have H' := qb.mk H
            clear H
            have p8 : 0 ≤ ((ji6) : Int) := of_decide_eq_true (by first | (with_reducible assumption) | assumption)
            have q8 : (ji6) < (a0.size : Int) := of_decide_eq_true (by first | (with_reducible assumption) | assumption)
            have hx8 := bt_at a0 (ji6)
            replace p8 := eq_true p8
            replace q8 := eq_true q8
            have p10 : 0 ≤ (x9_2 : Int) := of_decide_eq_true (by first | (with_reducible assumption) | assumption)
            have q10 : x9_2 < (a1.size : Int) := of_decide_eq_true (by first | (with_reducible assumption) | assumption)
            have hx10 := bt_at a1 x9_2
            replace p10 := eq_true p10
            replace q10 := eq_true q10
            go_wp2
            repeat (go_quiet (fail); try go_wp2)
            go_roundg k2
            case measure => have := HK1.out; have := HK2.out; omega
            case rel => exact ⟨(x13_1), (x9_2), (wrap64 (x13_1 + 1)), (by first | rfl | (simp; done) | (simp [*]; done)), (by first | rfl | (simp; done) | (simp [*]; done)), (by first | rfl | (simp; done) | (simp [*]; done)), H', ⟨by have := HK1.out; have := HK2.out; omega⟩, ⟨by repeat (first | (with_reducible first | exact HB.out | apply Extra.qrc | apply qf | apply qg | apply qe) | exact HB.out)⟩⟩
           ·rw [if_neg c12] at H
            have c12b0 : decide (x7_1 < x9_2) = false := decide_eq_false c12
            clear c12
            have H' := qb.mk H
            clear H
            have p8 : 0 ≤ ((ji6) : Int) := of_decide_eq_true (by first | (with_reducible assumption) | assumption)
            have q8 : (ji6) < (a0.size : Int) := of_decide_eq_true (by first | (with_reducible assumption) | assumption)
            have hx8 := bt_at a0 (ji6)
            replace p8 := eq_true p8
            replace q8 := eq_true q8
            have p10 : 0 ≤ (x9_2 : Int) := of_decide_eq_true (by first | (with_reducible assumption) | assumption)
            have q10 : x9_2 < (a1.size : Int) := of_decide_eq_true (by first | (with_reducible assumption) | assumption)
            have hx10 := bt_at a1 x9_2
            replace p10 := eq_true p10
            replace q10 := eq_true q10
            go_wp2
            repeat (go_quiet (fail); try go_wp2)
            go_roundg k2
            case measure => have := HK1.out; have := HK2.out; omega
            case rel => exact ⟨(x6_1), (x7_1), (wrap64 (x13_1 + 1)), (by first | rfl | (simp; done) | (simp [*]; done)), (by first | rfl | (simp; done) | (simp [*]; done)), (by first | rfl | (simp; done) | (simp [*]; done)), H', ⟨by have := HK1.out; have := HK2.out; omega⟩, ⟨by repeat (first | (with_reducible first | exact HB.out | apply Extra.qrc | apply qf | apply qg | apply qe) | exact HB.out)⟩⟩
         ·rw [if_neg c9] at H
          exact absurd H (by simp)
        ·rw [if_neg c7] at H
         exact absurd H (by simp)
       ·rw [if_neg c5] at H
        have c5b0 : decide ((wrap64 (x13_1 + x9_2)) < (a0.size : Int)) = false := decide_eq_false c5
        clear c5
        by_cases c13 : x9_2 > x7_1
        ·rw [if_pos c13] at H
         have c13b0 : decide (x7_1 < x9_2) = true := decide_eq_true c13
         clear c13
         have H' := qb.mk H
         clear H
         go_wp2
         repeat (go_quiet (fail); try go_wp2)
         go_roundg k2
         case measure => have := HK1.out; have := HK2.out; omega
         case rel => exact ⟨(x13_1), (x9_2), (wrap64 (x13_1 + 1)), (by first | rfl | (simp; done) | (simp [*]; done)), (by first | rfl | (simp; done) | (simp [*]; done)), (by first | rfl | (simp; done) | (simp [*]; done)), H', ⟨by have := HK1.out; have := HK2.out; omega⟩, ⟨by repeat (first | (with_reducible first | exact HB.out | apply Extra.qrc | apply qf | apply qg | apply qe) | exact HB.out)⟩⟩
        ·rw [if_neg c13] at H
         have c13b0 : decide (x7_1 < x9_2) = false := decide_eq_false c13
         clear c13
         have H' := qb.mk H
         clear H
         go_wp2
         repeat (go_quiet (fail); try go_wp2)
         go_roundg k2
         case measure => have := HK1.out; have := HK2.out; omega
         case rel => exact ⟨(x6_1), (x7_1), (wrap64 (x13_1 + 1)), (by first | rfl | (simp; done) | (simp [*]; done)), (by first | rfl | (simp; done) | (simp [*]; done)), (by first | rfl | (simp; done) | (simp [*]; done)), H', ⟨by have := HK1.out; have := HK2.out; omega⟩, ⟨by repeat (first | (with_reducible first | exact HB.out | apply Extra.qrc | apply qf | apply qg | apply qe) | exact HB.out)⟩⟩
      ·rw [if_neg c4] at H
       have c4b0 : decide (x9_2 < (a1.size : Int)) = false := decide_eq_false c4
       clear c4
       by_cases c14 : x9_2 > x7_1
       ·rw [if_pos c14] at H
        have c14b0 : decide (x7_1 < x9_2) = true := decide_eq_true c14
        clear c14
        have H' := qb.mk H
        clear H
        go_wp2
        repeat (go_quiet (fail); try go_wp2)
        go_roundg k2
        case measure => have := HK1.out; have := HK2.out; omega
        case rel => exact ⟨(x13_1), (x9_2), (wrap64 (x13_1 + 1)), (by first | rfl | (simp; done) | (simp [*]; done)), (by first | rfl | (simp; done) | (simp [*]; done)), (by first | rfl | (simp; done) | (simp [*]; done)), H', ⟨by have := HK1.out; have := HK2.out; omega⟩, ⟨by repeat (first | (with_reducible first | exact HB.out | apply Extra.qrc | apply qf | apply qg | apply qe) | exact HB.out)⟩⟩
       ·rw [if_neg c14] at H
        have c14b0 : decide (x7_1 < x9_2) = false := decide_eq_false c14
        clear c14
        have H' := qb.mk H
        clear H
        go_wp2
        repeat (go_quiet (fail); try go_wp2)
        go_roundg k2
        case measure => have := HK1.out; have := HK2.out; omega
        case rel => exact ⟨(x6_1), (x7_1), (wrap64 (x13_1 + 1)), (by first | rfl | (simp; done) | (simp [*]; done)), (by first | rfl | (simp; done) | (simp [*]; done)), (by first | rfl | (simp; done) | (simp [*]; done)), H', ⟨by have := HK1.out; have := HK2.out; omega⟩, ⟨by repeat (first | (with_reducible first | exact HB.out | apply Extra.qrc | apply qf | apply qg | apply qe) | exact HB.out)⟩⟩
   ·rw [if_neg c3] at H
    have c3b0 : decide (x13_1 < (a0.size : Int)) = false := decide_eq_false c3
    clear c3
    simp only [Option.some.injEq, Prod.mk.injEq] at H
    obtain ⟨rfl, rfl⟩ := H
    go_wp2
    repeat (go_quiet (fail); try go_wp2)
    go_ret2
    exact ⟨by first | rfl | (simp [qv, qu] <;> rfl) | (simp [*, qv, qu] <;> rfl), by repeat (first | (with_reducible first | exact HB.out | apply Extra.qrc | apply qf | apply qg | apply qe) | exact HB.out)⟩

end Go.Proofs.Ytnhnlfkbngnkpaa.E
