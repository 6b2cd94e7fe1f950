-- Made by a program of this session out of the translation; no hand has turned it.
import Derived.Test.YtnhnlfkbngnkpaaD0
import Derived.Test.YtnhnlfkbngnkpaaD2
import Derived.Test.YtnhnlfkbngnkpaaD3
namespace Go.Proofs.Ytnhnlfkbngnkpaa.D
open Go.RowKit Go.Proofs.YtnhnlfkbngnkpaaW.PrintWords Go.Proofs.YtnhnlfkbngnkpaaW.PrintLast Go.Proofs.YtnhnlfkbngnkpaaW.PrintMore
attribute [local go_sem] max2_int min2_int max_two min_two max_three min_three max_four min_four   -- for this text's walks alone
set_option linter.unusedVariables false
set_option linter.unusedSimpArgs false

/-! ### impl_longest: function 68 -/
mutual
def impl_longest.l0 : Nat → ByteArray → ByteArray → Int → Int → Int → Int → Option (Int × Int)
 | 0, _, _, _, _, _, _ => none
 | k + 1, x0, x1, x6, x7, x11, x12 => if x12 < x11 then (impl_longest.l1 k x0 x1 x6 x7 x12 0 x11 x12) else (some (x6, x7))
def impl_longest.l1 : Nat → ByteArray → ByteArray → Int → Int → Int → Int → Int → Int → Option (Int × Int)
 | 0, _, _, _, _, _, _, _, _ => none
 | k + 1, x0, x1, x6, x7, x8, x9, x11, x12 => if x9 < (mn (x1.size : Int) (wrap64 ((x0.size : Int) - x8))) then (if 0 ≤ (wrap64 (x8 + x9)) then (if (wrap64 (x8 + x9)) < (x0.size : Int) then (if 0 ≤ x9 then (if x9 < (x1.size : Int) then (if (bt x0 (wrap64 (x8 + x9))) = (bt x1 x9) then (impl_longest.l1 k x0 x1 x6 x7 x8 (wrap64 (x9 + 1)) x11 x12) else (if x9 > x7 then (impl_longest.l0 k x0 x1 x8 x9 x11 (wrap64 (x12 + 1))) else (impl_longest.l0 k x0 x1 x6 x7 x11 (wrap64 (x12 + 1))))) else (none)) else (none)) else (none)) else (none)) else (if x9 > x7 then (impl_longest.l0 k x0 x1 x8 x9 x11 (wrap64 (x12 + 1))) else (impl_longest.l0 k x0 x1 x6 x7 x11 (wrap64 (x12 + 1))))
end
def impl_longest.f (k : Nat) (a0 : ByteArray) (a1 : ByteArray) : Option (Int × Int) := impl_longest.l0 k a0 a1 0 0 (a0.size : Int) 0
theorem impl_longest.mono_l : ∀ k, (∀ y0 y1 y2 y3 y4 y5, LeO (impl_longest.l0 k y0 y1 y2 y3 y4 y5) (impl_longest.l0 (k + 1) y0 y1 y2 y3 y4 y5)) ∧ (∀ y0 y1 y2 y3 y4 y5 y6 y7, LeO (impl_longest.l1 k y0 y1 y2 y3 y4 y5 y6 y7) (impl_longest.l1 (k + 1) y0 y1 y2 y3 y4 y5 y6 y7))
 | 0 => ⟨fun _ _ _ _ _ _ r h => by simp [impl_longest.l0] at h, fun _ _ _ _ _ _ _ _ r h => by simp [impl_longest.l1] at h⟩
 | k + 1 => by
  obtain ⟨ih0, ih1⟩ := impl_longest.mono_l k
  refine ⟨?_, ?_⟩
  ·intro y0 y1 y2 y3 y4 y5
   unfold impl_longest.l0
   repeat' first
   | (with_reducible exact ih0 _ _ _ _ _ _)
   | (with_reducible exact ih1 _ _ _ _ _ _ _ _)
   | (with_reducible exact LeO.refl _)
   | (with_reducible exact LeO.none _)
   | (with_reducible refine LeO.ite ?_ ?_)
   | (with_reducible refine LeO.bind ?_ (fun _ => ?_))
   | exact ih0 _ _ _ _ _ _
   | exact ih1 _ _ _ _ _ _ _ _
   | exact LeO.none _
   | refine LeO.ite ?_ ?_
   | refine LeO.bind ?_ (fun _ => ?_)
  ·intro y0 y1 y2 y3 y4 y5 y6 y7
   unfold impl_longest.l1
   repeat' first
   | (with_reducible exact ih0 _ _ _ _ _ _)
   | (with_reducible exact ih1 _ _ _ _ _ _ _ _)
   | (with_reducible exact LeO.refl _)
   | (with_reducible exact LeO.none _)
   | (with_reducible refine LeO.ite ?_ ?_)
   | (with_reducible refine LeO.bind ?_ (fun _ => ?_))
   | exact ih0 _ _ _ _ _ _
   | exact ih1 _ _ _ _ _ _ _ _
   | exact LeO.none _
   | refine LeO.ite ?_ ?_
   | refine LeO.bind ?_ (fun _ => ?_)
theorem impl_longest.mono : ∀ a0 a1 k, LeO (impl_longest.f k a0 a1) (impl_longest.f (k + 1) a0 a1) := by
 intro a0 a1 k
 obtain ⟨ih0, ih1⟩ := impl_longest.mono_l k
 unfold impl_longest.f
 repeat' first
   | (with_reducible exact ih0 _ _ _ _ _ _)
   | (with_reducible exact ih1 _ _ _ _ _ _ _ _)
   | (with_reducible exact LeO.refl _)
   | (with_reducible exact LeO.none _)
   | (with_reducible refine LeO.ite ?_ ?_)
   | (with_reducible refine LeO.bind ?_ (fun _ => ?_))
   | exact ih0 _ _ _ _ _ _
   | exact ih1 _ _ _ _ _ _ _ _
   | exact LeO.none _
   | refine LeO.ite ?_ ?_
   | refine LeO.bind ?_ (fun _ => ?_)
set_option maxHeartbeats 8000000 in
set_option maxRecDepth 100000 in
theorem impl_longest.calls (k : Nat) (a0 : ByteArray) (a1 : ByteArray) (r1 : Int) (r2 : Int) (w : World) (h : impl_longest.f k a0 a1 = some (r1, r2)) :
  Calls Try.prog 68 #[.string a0, .string a1] w fun e w' => e = .returned (.tuple #[.int .i64 r1, .int .i64 r2]) ∧ Below w.heap.size w w' := by
 have HB := Aside0.mk (Below.refl w.heap.size w)
 have H : (impl_longest.l0 k a0 a1 0 0 (a0.size : Int) 0) = some (r1, r2) := h
 clear h
 have H' := Aside0.mk H
 clear H
 go_enter Try.func68, Try.ntmps68
 go_wp2
 repeat (go_quiet (fail); try go_wp2)
 go_loopg [6, 7, 12] k (fun kq v6 v7 v12 w' => ∃ (x6_1 : Int) (x7_1 : Int) (x12_1 : Int), v6 = .int .i64 x6_1 ∧ v7 = .int .i64 x7_1 ∧ v12 = .int .i64 x12_1 ∧ Aside0 (impl_longest.l0 kq a0 a1 x6_1 x7_1 (a0.size : Int) x12_1 = some (r1, r2)) ∧ Aside0 (kq ≤ k) ∧ Aside0 (Below w.heap.size w w'))
 case atStart => exact ⟨(0), (0), (0), (by first | rfl | (simp; done) | (simp [*]; done)), (by first | rfl | (simp; done) | (simp [*]; done)), (by first | rfl | (simp; done) | (simp [*]; done)), H', ⟨Nat.le_refl _⟩, ⟨by repeat (first | (with_reducible first | exact HB.out | apply below_alloc | apply pw_below_drewN | apply below_drew1) | exact HB.out)⟩⟩
 case round =>
  clear H'
  try clear p2
  obtain ⟨x6_1, x7_1, x12_1, rfl, rfl, rfl, HA, HK1, HB⟩ := hrel
  cases gk with
  | zero => exact absurd HA.out (by simp [impl_longest.l0])
  | succ k1 =>
   have H := HA.out
   clear HA
   simp only [impl_longest.l0] at H
   by_cases c3 : x12_1 < (a0.size : Int)
   ·rw [if_pos c3] at H
    have c3b0 : decide (x12_1 < (a0.size : Int)) = true := decide_eq_true c3
    clear c3
    have H' := Aside0.mk H
    clear H
    go_wp2
    repeat (go_quiet (fail); try go_wp2)
    go_loopg [9] k1 (fun kq v9 w' => ∃ (x9_2 : Int), v9 = .int .i64 x9_2 ∧ Aside0 (impl_longest.l1 kq a0 a1 x6_1 x7_1 x12_1 x9_2 (a0.size : Int) x12_1 = some (r1, r2)) ∧ Aside0 (kq ≤ k1) ∧ Aside0 (Below w.heap.size w w'))
    case atStart => exact ⟨(0), (by first | rfl | (simp; done) | (simp [*]; done)), H', ⟨Nat.le_refl _⟩, ⟨by repeat (first | (with_reducible first | exact HB.out | apply below_alloc | apply pw_below_drewN | apply below_drew1) | exact HB.out)⟩⟩
    case round =>
     clear H'
     try clear p2
     try clear c3
     try clear c3b0
     try clear p2
     obtain ⟨x9_2, rfl, HA, HK2, HB⟩ := hrel
     cases gk with
     | zero => exact absurd HA.out (by simp [impl_longest.l1])
     | succ k2 =>
      have H := HA.out
      clear HA
      simp only [impl_longest.l1] at H
      obtain ⟨ji4, hji4⟩ : ∃ j_ : Int, (mn (a1.size : Int) (wrap64 ((a0.size : Int) - x12_1))) = j_ := ⟨_, rfl⟩
      replace H : (if x9_2 < (ji4) then (if 0 ≤ (wrap64 (x12_1 + x9_2)) then (if (wrap64 (x12_1 + x9_2)) < (a0.size : Int) then (if 0 ≤ x9_2 then (if x9_2 < (a1.size : Int) then (if (bt a0 (wrap64 (x12_1 + x9_2))) = (bt a1 x9_2) then (impl_longest.l1 k2 a0 a1 x6_1 x7_1 x12_1 (wrap64 (x9_2 + 1)) (a0.size : Int) x12_1) else (if x9_2 > x7_1 then (impl_longest.l0 k2 a0 a1 x12_1 x9_2 (a0.size : Int) (wrap64 (x12_1 + 1))) else (impl_longest.l0 k2 a0 a1 x6_1 x7_1 (a0.size : Int) (wrap64 (x12_1 + 1))))) else (none)) else (none)) else (none)) else (none)) else (if x9_2 > x7_1 then (impl_longest.l0 k2 a0 a1 x12_1 x9_2 (a0.size : Int) (wrap64 (x12_1 + 1))) else (impl_longest.l0 k2 a0 a1 x6_1 x7_1 (a0.size : Int) (wrap64 (x12_1 + 1))))) = some (r1, r2) := by first | (rw [hji4] at H; exact H) | (simp only [hji4] at H ⊢; exact H)
      have hji4_ : (if (wrap64 ((a0.size : Int) - x12_1)) < (a1.size : Int) then (wrap64 ((a0.size : Int) - x12_1)) else (a1.size : Int)) = ji4 := hji4
      by_cases c5 : x9_2 < (ji4)
      ·rw [if_pos c5] at H
       have c5b0 : decide (x9_2 < (ji4)) = true := decide_eq_true c5
       clear c5
       obtain ⟨ji6, hji6⟩ : ∃ j_ : Int, (wrap64 (x12_1 + x9_2)) = j_ := ⟨_, rfl⟩
       replace H : (if 0 ≤ (ji6) then (if (ji6) < (a0.size : Int) then (if 0 ≤ x9_2 then (if x9_2 < (a1.size : Int) then (if (bt a0 (ji6)) = (bt a1 x9_2) then (impl_longest.l1 k2 a0 a1 x6_1 x7_1 x12_1 (wrap64 (x9_2 + 1)) (a0.size : Int) x12_1) else (if x9_2 > x7_1 then (impl_longest.l0 k2 a0 a1 x12_1 x9_2 (a0.size : Int) (wrap64 (x12_1 + 1))) else (impl_longest.l0 k2 a0 a1 x6_1 x7_1 (a0.size : Int) (wrap64 (x12_1 + 1))))) else (none)) else (none)) else (none)) else (none)) = some (r1, r2) := by first | (rw [hji6] at H; exact H) | (simp only [hji6] at H ⊢; exact H)
       have hji6w : (IntKind.i64.wrap (x12_1 + x9_2)) = ji6 := (i64_w _).trans hji6
       by_cases c7 : 0 ≤ (ji6)
       ·rw [if_pos c7] at H
        have c7b0 : decide (0 ≤ (ji6)) = true := decide_eq_true c7
        clear c7
        by_cases c8 : (ji6) < (a0.size : Int)
        ·rw [if_pos c8] at H
         have c8b0 : decide ((ji6) < (a0.size : Int)) = true := decide_eq_true c8
         clear c8
         by_cases c10 : 0 ≤ x9_2
         ·rw [if_pos c10] at H
          have c10b0 : decide (0 ≤ x9_2) = true := decide_eq_true c10
          clear c10
          by_cases c11 : x9_2 < (a1.size : Int)
          ·rw [if_pos c11] at H
           have c11b0 : decide (x9_2 < (a1.size : Int)) = true := decide_eq_true c11
           clear c11
           by_cases c13 : (bt a0 (ji6)) = (bt a1 x9_2)
           ·rw [if_pos c13] at H
            have c13b0 : ((bt a0 (ji6)) == (bt a1 x9_2)) = true := beq_iff_eq.mpr c13
            have c13b1 : ((bt a0 (ji6)) != (bt a1 x9_2)) = false := bne_eq_false_iff_eq.mpr c13
            clear c13
            have H' := Aside0.mk H
            clear H
            have p9 : 0 ≤ ((ji6) : Int) := of_decide_eq_true (by first | (with_reducible assumption) | assumption)
            have q9 : (ji6) < (a0.size : Int) := of_decide_eq_true (by first | (with_reducible assumption) | assumption)
            have hx9 := bt_at a0 (ji6)
            replace p9 := eq_true p9
            replace q9 := eq_true q9
            have p12 : 0 ≤ (x9_2 : Int) := of_decide_eq_true (by first | (with_reducible assumption) | assumption)
            have q12 : x9_2 < (a1.size : Int) := of_decide_eq_true (by first | (with_reducible assumption) | assumption)
            have hx12 := bt_at a1 x9_2
            replace p12 := eq_true p12
            replace q12 := eq_true q12
            go_wp2
            repeat (go_quiet (fail); try go_wp2)
            go_roundg k2
            case measure => have := HK1.out; have := HK2.out; omega
            case rel => exact ⟨(wrap64 (x9_2 + 1)), (by first | rfl | (simp; done) | (simp [*]; done)), H', ⟨by have := HK1.out; have := HK2.out; omega⟩, ⟨by repeat (first | (with_reducible first | exact HB.out | apply below_alloc | apply pw_below_drewN | apply below_drew1) | exact HB.out)⟩⟩
           ·rw [if_neg c13] at H
            have c13b0 : ((bt a0 (ji6)) == (bt a1 x9_2)) = false := beq_eq_false_iff_ne.mpr c13
            have c13b1 : ((bt a0 (ji6)) != (bt a1 x9_2)) = true := bne_iff_ne.mpr c13
            by_cases c14 : x9_2 > x7_1
            ·rw [if_pos c14] at H
             have c14b0 : decide (x7_1 < x9_2) = true := decide_eq_true c14
             clear c14
             have H' := Aside0.mk H
             clear H
             have p9 : 0 ≤ ((ji6) : Int) := of_decide_eq_true (by first | (with_reducible assumption) | assumption)
             have q9 : (ji6) < (a0.size : Int) := of_decide_eq_true (by first | (with_reducible assumption) | assumption)
             have hx9 := bt_at a0 (ji6)
             replace p9 := eq_true p9
             replace q9 := eq_true q9
             have p12 : 0 ≤ (x9_2 : Int) := of_decide_eq_true (by first | (with_reducible assumption) | assumption)
             have q12 : x9_2 < (a1.size : Int) := of_decide_eq_true (by first | (with_reducible assumption) | assumption)
             have hx12 := bt_at a1 x9_2
             replace p12 := eq_true p12
             replace q12 := eq_true q12
             go_wp2
             repeat (go_quiet (fail); try go_wp2)
             go_roundg k2
             case measure => have := HK1.out; have := HK2.out; omega
             case rel => exact ⟨(x12_1), (x9_2), (wrap64 (x12_1 + 1)), (by first | rfl | (simp; done) | (simp [*]; done)), (by first | rfl | (simp; done) | (simp [*]; done)), (by first | rfl | (simp; done) | (simp [*]; done)), H', ⟨by have := HK1.out; have := HK2.out; omega⟩, ⟨by repeat (first | (with_reducible first | exact HB.out | apply below_alloc | apply pw_below_drewN | apply below_drew1) | exact HB.out)⟩⟩
            ·rw [if_neg c14] at H
             have c14b0 : decide (x7_1 < x9_2) = false := decide_eq_false c14
             clear c14
             have H' := Aside0.mk H
             clear H
             have p9 : 0 ≤ ((ji6) : Int) := of_decide_eq_true (by first | (with_reducible assumption) | assumption)
             have q9 : (ji6) < (a0.size : Int) := of_decide_eq_true (by first | (with_reducible assumption) | assumption)
             have hx9 := bt_at a0 (ji6)
             replace p9 := eq_true p9
             replace q9 := eq_true q9
             have p12 : 0 ≤ (x9_2 : Int) := of_decide_eq_true (by first | (with_reducible assumption) | assumption)
             have q12 : x9_2 < (a1.size : Int) := of_decide_eq_true (by first | (with_reducible assumption) | assumption)
             have hx12 := bt_at a1 x9_2
             replace p12 := eq_true p12
             replace q12 := eq_true q12
             go_wp2
             repeat (go_quiet (fail); try go_wp2)
             go_roundg k2
             case measure => have := HK1.out; have := HK2.out; omega
             case rel => exact ⟨(x6_1), (x7_1), (wrap64 (x12_1 + 1)), (by first | rfl | (simp; done) | (simp [*]; done)), (by first | rfl | (simp; done) | (simp [*]; done)), (by first | rfl | (simp; done) | (simp [*]; done)), H', ⟨by have := HK1.out; have := HK2.out; omega⟩, ⟨by repeat (first | (with_reducible first | exact HB.out | apply below_alloc | apply pw_below_drewN | apply below_drew1) | exact HB.out)⟩⟩
          ·rw [if_neg c11] at H
           exact absurd H (by simp)
         ·rw [if_neg c10] at H
          exact absurd H (by simp)
        ·rw [if_neg c8] at H
         exact absurd H (by simp)
       ·rw [if_neg c7] at H
        exact absurd H (by simp)
      ·rw [if_neg c5] at H
       have c5b0 : decide (x9_2 < (ji4)) = false := decide_eq_false c5
       clear c5
       by_cases c15 : x9_2 > x7_1
       ·rw [if_pos c15] at H
        have c15b0 : decide (x7_1 < x9_2) = true := decide_eq_true c15
        clear c15
        have H' := Aside0.mk H
        clear H
        go_wp2
        repeat (go_quiet (fail); try go_wp2)
        go_roundg k2
        case measure => have := HK1.out; have := HK2.out; omega
        case rel => exact ⟨(x12_1), (x9_2), (wrap64 (x12_1 + 1)), (by first | rfl | (simp; done) | (simp [*]; done)), (by first | rfl | (simp; done) | (simp [*]; done)), (by first | rfl | (simp; done) | (simp [*]; done)), H', ⟨by have := HK1.out; have := HK2.out; omega⟩, ⟨by repeat (first | (with_reducible first | exact HB.out | apply below_alloc | apply pw_below_drewN | apply below_drew1) | exact HB.out)⟩⟩
       ·rw [if_neg c15] at H
        have c15b0 : decide (x7_1 < x9_2) = false := decide_eq_false c15
        clear c15
        have H' := Aside0.mk H
        clear H
        go_wp2
        repeat (go_quiet (fail); try go_wp2)
        go_roundg k2
        case measure => have := HK1.out; have := HK2.out; omega
        case rel => exact ⟨(x6_1), (x7_1), (wrap64 (x12_1 + 1)), (by first | rfl | (simp; done) | (simp [*]; done)), (by first | rfl | (simp; done) | (simp [*]; done)), (by first | rfl | (simp; done) | (simp [*]; done)), H', ⟨by have := HK1.out; have := HK2.out; omega⟩, ⟨by repeat (first | (with_reducible first | exact HB.out | apply below_alloc | apply pw_below_drewN | apply below_drew1) | exact HB.out)⟩⟩
   ·rw [if_neg c3] at H
    have c3b0 : decide (x12_1 < (a0.size : Int)) = false := decide_eq_false c3
    clear c3
    simp only [Option.some.injEq, Prod.mk.injEq] at H
    obtain ⟨rfl, rfl⟩ := H
    go_wp2
    repeat (go_quiet (fail); try go_wp2)
    go_ret2
    exact ⟨by first | rfl | (simp [errW_none, errW_some] <;> rfl) | (simp [*, errW_none, errW_some] <;> rfl), by repeat (first | (with_reducible first | exact HB.out | apply below_alloc | apply pw_below_drewN | apply below_drew1) | exact HB.out)⟩

/-! ### impl_MakeOps: function 27 -/
mutual
def impl_MakeOps.j0 : Nat → ByteArray → ByteArray → Int → Bool → Option ((List (S43)) × Bool)
 | 0, _, _, _, _ => none
 | k + 1, x0, x1, x2, x24 => if x24 = true then (some (([] : List (S43)), false)) else (impl_MakeOps.l0 k x0 x1 x2 (([] : List (S43))))
def impl_MakeOps.l0 : Nat → ByteArray → ByteArray → Int → List (S43) → Option ((List (S43)) × Bool)
 | 0, _, _, _, _ => none
 | k + 1, x0, x1, x2, x8 => if x1.toList = ([] : List UInt8) then (some (x8, true)) else ((impl_longest.f k x0 x1).bind fun bt164 => (if bt164.2 ≥ x2 then (if x8.length < 3518437208883 then (if 0 ≤ bt164.2 then (if bt164.2 ≤ (x1.size : Int) then (impl_MakeOps.l0 k x0 (x1.extract (bt164.2 : Int).toNat x1.size) x2 (x8 ++ [(⟨1, bt164.1, bt164.2, (⟨#[]⟩ : ByteArray)⟩ : S43)])) else (none)) else (none)) else (none)) else (if (wrap64 ((x8.length : Int) - 1)) ≥ 0 then (if 0 ≤ (wrap64 ((x8.length : Int) - 1)) then (if (wrap64 ((x8.length : Int) - 1)) < (x8.length : Int) then (if ((rd_T43 x8 (wrap64 ((x8.length : Int) - 1))).f0) = 2 then (if 0 ≤ 1 then (if 1 ≤ (x1.size : Int) then (if ((rd_T43 x8 (wrap64 ((x8.length : Int) - 1))).f3).size + (x1.extract 0 1).size ≤ 9223372036854775807 then (impl_MakeOps.l0 k x0 (x1.extract 1 x1.size) x2 (x8.set ((wrap64 ((x8.length : Int) - 1)) : Int).toNat (⟨(rd_T43 x8 (wrap64 ((x8.length : Int) - 1))).f0, (rd_T43 x8 (wrap64 ((x8.length : Int) - 1))).f1, (rd_T43 x8 (wrap64 ((x8.length : Int) - 1))).f2, ((rd_T43 x8 (wrap64 ((x8.length : Int) - 1))).f3) ++ (x1.extract 0 1)⟩ : S43))) else (none)) else (none)) else (none)) else (if 0 ≤ 1 then (if 1 ≤ (x1.size : Int) then (if x8.length < 3518437208883 then (impl_MakeOps.l0 k x0 (x1.extract 1 x1.size) x2 (x8 ++ [(⟨2, 0, 0, x1.extract 0 1⟩ : S43)])) else (none)) else (none)) else (none))) else (none)) else (none)) else (if 0 ≤ 1 then (if 1 ≤ (x1.size : Int) then (if x8.length < 3518437208883 then (impl_MakeOps.l0 k x0 (x1.extract 1 x1.size) x2 (x8 ++ [(⟨2, 0, 0, x1.extract 0 1⟩ : S43)])) else (none)) else (none)) else (none)))))
end
def impl_MakeOps.f (k : Nat) (a0 : ByteArray) (a1 : ByteArray) (a2 : Int) : Option ((List (S43)) × Bool) := (impl_isData.f a0).bind fun t158 => (if t158 = true then ((impl_isData.f a1).bind fun t159 => (if t159 = true then ((impl_in.f a2 1 300).bind fun t160 => (impl_MakeOps.j0 k a0 a1 a2 (!t160))) else (impl_MakeOps.j0 k a0 a1 a2 true))) else (impl_MakeOps.j0 k a0 a1 a2 true))
theorem impl_MakeOps.mono_l : ∀ k, (∀ y0 y1 y2 y3, LeO (impl_MakeOps.j0 k y0 y1 y2 y3) (impl_MakeOps.j0 (k + 1) y0 y1 y2 y3)) ∧ (∀ y0 y1 y2 y3, LeO (impl_MakeOps.l0 k y0 y1 y2 y3) (impl_MakeOps.l0 (k + 1) y0 y1 y2 y3))
 | 0 => ⟨fun _ _ _ _ r h => by simp [impl_MakeOps.j0] at h, fun _ _ _ _ r h => by simp [impl_MakeOps.l0] at h⟩
 | k + 1 => by
  obtain ⟨ih0, ih1⟩ := impl_MakeOps.mono_l k
  refine ⟨?_, ?_⟩
  ·intro y0 y1 y2 y3
   unfold impl_MakeOps.j0
   repeat' first
   | (with_reducible exact ih0 _ _ _ _)
   | (with_reducible exact ih1 _ _ _ _)
   | (with_reducible exact impl_longest.mono _ _ _)
   | (with_reducible exact LeO.refl _)
   | (with_reducible exact LeO.none _)
   | (with_reducible refine LeO.ite ?_ ?_)
   | (with_reducible refine LeO.bind ?_ (fun _ => ?_))
   | exact ih0 _ _ _ _
   | exact ih1 _ _ _ _
   | exact impl_longest.mono _ _ _
   | exact LeO.none _
   | refine LeO.ite ?_ ?_
   | refine LeO.bind ?_ (fun _ => ?_)
  ·intro y0 y1 y2 y3
   unfold impl_MakeOps.l0
   repeat' first
   | (with_reducible exact ih0 _ _ _ _)
   | (with_reducible exact ih1 _ _ _ _)
   | (with_reducible exact impl_longest.mono _ _ _)
   | (with_reducible exact LeO.refl _)
   | (with_reducible exact LeO.none _)
   | (with_reducible refine LeO.ite ?_ ?_)
   | (with_reducible refine LeO.bind ?_ (fun _ => ?_))
   | exact ih0 _ _ _ _
   | exact ih1 _ _ _ _
   | exact impl_longest.mono _ _ _
   | exact LeO.none _
   | refine LeO.ite ?_ ?_
   | refine LeO.bind ?_ (fun _ => ?_)
theorem impl_MakeOps.mono : ∀ a0 a1 a2 k, LeO (impl_MakeOps.f k a0 a1 a2) (impl_MakeOps.f (k + 1) a0 a1 a2) := by
 intro a0 a1 a2 k
 obtain ⟨ih0, ih1⟩ := impl_MakeOps.mono_l k
 unfold impl_MakeOps.f
 repeat' first
   | (with_reducible exact ih0 _ _ _ _)
   | (with_reducible exact ih1 _ _ _ _)
   | (with_reducible exact impl_longest.mono _ _ _)
   | (with_reducible exact LeO.refl _)
   | (with_reducible exact LeO.none _)
   | (with_reducible refine LeO.ite ?_ ?_)
   | (with_reducible refine LeO.bind ?_ (fun _ => ?_))
   | exact ih0 _ _ _ _
   | exact ih1 _ _ _ _
   | exact impl_longest.mono _ _ _
   | exact LeO.none _
   | refine LeO.ite ?_ ?_
   | refine LeO.bind ?_ (fun _ => ?_)
def impl_MakeOps.T13 : Bool × List (List Nat × List Nat) := (true, [([], []), ([], []), ([0, 1], [0, 1]), ([2], [2]), ([3], [3]), ([], []), ([5], [5]), ([4, 6], [4, 6]), ([0, 1, 0, 1, 2, 3, 4, 5, 6, 7], [0, 1]), ([8, 0, 1, 2, 3, 4, 5, 6, 7], [8]), ([9, 7, 0, 1, 2, 3, 4, 5, 6, 7], [7, 9])])
def impl_MakeOps.B13 : List Nat := [0, 0, 3, 7, 15, 0, 32, 127, 255, 511, 1023]
theorem impl_MakeOps.tab13 : rtab .any (opsOf Try.f27 13) = impl_MakeOps.T13 := by kernel_rfl
theorem impl_MakeOps.bits13 : waitsOk impl_MakeOps.T13.2 impl_MakeOps.B13 = true := by kernel_rfl
set_option maxHeartbeats 8000000 in
set_option maxRecDepth 100000 in
theorem impl_MakeOps.calls (k : Nat) (a0 : ByteArray) (a1 : ByteArray) (a2 : Int) (r1 : List (S43)) (r2 : Bool) (w : World) (h : impl_MakeOps.f k a0 a1 a2 = some (r1, r2)) :
  Calls Try.prog 27 #[.string a0, .string a1, .int .i64 a2] w fun e w' => ∃ v0_ : Value, e = .returned (.tuple #[v0_, .bool r2]) ∧ Kd.R k43 43 w' w.heap.size (fun _ => True) v0_ r1 ∧ Below w.heap.size w w' := by
 have hu43 := Try.underlying43
 have HB := Aside0.mk (Below.refl w.heap.size w)
 have H : ((impl_isData.f a0).bind fun t158 => (if t158 = true then ((impl_isData.f a1).bind fun t159 => (if t159 = true then ((impl_in.f a2 1 300).bind fun t160 => (impl_MakeOps.j0 k a0 a1 a2 (!t160))) else (impl_MakeOps.j0 k a0 a1 a2 true))) else (impl_MakeOps.j0 k a0 a1 a2 true))) = some (r1, r2) := h
 clear h
 have HC4 := Aside0.mk H
 clear H
 go_enter Try.func27, Try.ntmps27
 go_upto_region 1 with (fail)
 go_cut [24] (fun v24 wc => ∃ (kq : Nat) (x24_3 : Bool), v24 = .bool x24_3 ∧ Aside0 (impl_MakeOps.j0 kq a0 a1 a2 x24_3 = some (r1, r2)) ∧ Aside0 (kq ≤ k) ∧ Aside0 (Below w.heap.size w wc))
 case first =>
  have H := HC4.out
  clear HC4
  replace H := Option.bind_eq_some_iff.mp H
  obtain ⟨t158, A50, H⟩ := H
  replace H : (if t158 = true then ((impl_isData.f a1).bind fun t159 => (if t159 = true then ((impl_in.f a2 1 300).bind fun t160 => (impl_MakeOps.j0 k a0 a1 a2 (!t160))) else (impl_MakeOps.j0 k a0 a1 a2 true))) else (impl_MakeOps.j0 k a0 a1 a2 true)) = some (r1, r2) := H
  have A5 := Aside0.mk A50
  clear A50
  by_cases c6 : t158 = true
  ·subst c6
   have H1 : ((impl_isData.f a1).bind fun t159 => (if t159 = true then ((impl_in.f a2 1 300).bind fun t160 => (impl_MakeOps.j0 k a0 a1 a2 (!t160))) else (impl_MakeOps.j0 k a0 a1 a2 true))) = some (r1, r2) := by rw [if_pos rfl] at H; exact H
   clear H
   have H := H1
   clear H1
   replace H := Option.bind_eq_some_iff.mp H
   obtain ⟨t159, A70, H⟩ := H
   replace H : (if t159 = true then ((impl_in.f a2 1 300).bind fun t160 => (impl_MakeOps.j0 k a0 a1 a2 (!t160))) else (impl_MakeOps.j0 k a0 a1 a2 true)) = some (r1, r2) := H
   have A7 := Aside0.mk A70
   clear A70
   by_cases c8 : t159 = true
   ·subst c8
    have H1 : ((impl_in.f a2 1 300).bind fun t160 => (impl_MakeOps.j0 k a0 a1 a2 (!t160))) = some (r1, r2) := by rw [if_pos rfl] at H; exact H
    clear H
    have H := H1
    clear H1
    replace H := Option.bind_eq_some_iff.mp H
    obtain ⟨t160, A90, H⟩ := H
    replace H : (impl_MakeOps.j0 k a0 a1 a2 (!t160)) = some (r1, r2) := H
    have A9 := Aside0.mk A90
    clear A90
    have H' := Aside0.mk H
    clear H
    go_wp2_with (first | ((with_reducible refine gate_callee (f := 67) rfl ?_); refine goesL_ (some 13) rfl rfl Try.func67 (by kernel_rfl) rfl #[.string a0] rfl (by (try simp only [List.map_toArray, List.map_cons, List.map_nil]); first | done | rfl | (simp only [List.length_drop, List.length_take]; rfl)) ?_; (with_reducible refine (impl_isData.calls a0 true _ A5.out).mono ?_); rintro e w' ⟨rfl, ⟨nd, rfl⟩⟩; refine ⟨_, rfl, ?_⟩) | (go_at_call 67; (with_reducible refine (impl_isData.calls a1 true _ A7.out).mono ?_); rintro e w' ⟨rfl, ⟨nd, rfl⟩⟩) | (go_at_call 58; (with_reducible refine (impl_in.calls a2 1 300 t160 _ A9.out).mono ?_); rintro e w' ⟨rfl, ⟨nd, rfl⟩⟩))
    go_meet
    case rel => exact ⟨_, (!t160), (by first | rfl | (simp; done) | (simp [*]; done)), H', ⟨by first | omega | exact Nat.le_refl _⟩, ⟨by repeat (first | (with_reducible first | exact HB.out | apply below_alloc | apply pw_below_drewN | apply below_drew1) | exact HB.out)⟩⟩
   ·replace c8 := Bool.eq_false_iff.mpr c8
    subst c8
    have H1 : (impl_MakeOps.j0 k a0 a1 a2 true) = some (r1, r2) := by rw [if_neg (show ¬ (false = true) by decide)] at H; exact H
    clear H
    have H := H1
    clear H1
    have H' := Aside0.mk H
    clear H
    go_wp2_with (first | ((with_reducible refine gate_callee (f := 67) rfl ?_); refine goesL_ (some 13) rfl rfl Try.func67 (by kernel_rfl) rfl #[.string a0] rfl (by (try simp only [List.map_toArray, List.map_cons, List.map_nil]); first | done | rfl | (simp only [List.length_drop, List.length_take]; rfl)) ?_; (with_reducible refine (impl_isData.calls a0 true _ A5.out).mono ?_); rintro e w' ⟨rfl, ⟨nd, rfl⟩⟩; refine ⟨_, rfl, ?_⟩) | (go_at_call 67; (with_reducible refine (impl_isData.calls a1 false _ A7.out).mono ?_); rintro e w' ⟨rfl, ⟨nd, rfl⟩⟩))
    go_meet
    case rel => exact ⟨_, (true), (by first | rfl | (simp; done) | (simp [*]; done)), H', ⟨by first | omega | exact Nat.le_refl _⟩, ⟨by repeat (first | (with_reducible first | exact HB.out | apply below_alloc | apply pw_below_drewN | apply below_drew1) | exact HB.out)⟩⟩
  ·replace c6 := Bool.eq_false_iff.mpr c6
   subst c6
   have H1 : (impl_MakeOps.j0 k a0 a1 a2 true) = some (r1, r2) := by rw [if_neg (show ¬ (false = true) by decide)] at H; exact H
   clear H
   have H := H1
   clear H1
   have H' := Aside0.mk H
   clear H
   go_wp2_with (first | ((with_reducible refine gate_callee (f := 67) rfl ?_); refine goesL_ (some 13) rfl rfl Try.func67 (by kernel_rfl) rfl #[.string a0] rfl (by (try simp only [List.map_toArray, List.map_cons, List.map_nil]); first | done | rfl | (simp only [List.length_drop, List.length_take]; rfl)) ?_; (with_reducible refine (impl_isData.calls a0 false _ A5.out).mono ?_); rintro e w' ⟨rfl, ⟨nd, rfl⟩⟩; refine ⟨_, rfl, ?_⟩))
   go_meet
   case rel => exact ⟨_, (true), (by first | rfl | (simp; done) | (simp [*]; done)), H', ⟨by first | omega | exact Nat.le_refl _⟩, ⟨by repeat (first | (with_reducible first | exact HB.out | apply below_alloc | apply pw_below_drewN | apply below_drew1) | exact HB.out)⟩⟩
 case rest =>
  clear HC4
  try clear c2
  try clear p2
  try clear c6
  try clear c8
  obtain ⟨kq, x24_3, rfl, HA, HJ3, HB⟩ := hcut
  cases kq with
  | zero => exact absurd HA.out (by simp [impl_MakeOps.j0])
  | succ kj3 =>
   have H := HA.out
   clear HA
   simp only [impl_MakeOps.j0] at H
   by_cases c10 : x24_3 = true
   ·subst c10
    have H1 : (some (([] : List (S43)), false)) = some (r1, r2) := by rw [if_pos rfl] at H; exact H
    clear H
    have H := H1
    clear H1
    simp only [Option.some.injEq, Prod.mk.injEq] at H
    obtain ⟨rfl, rfl⟩ := H
    go_wp2
    go_ret2
    exact ⟨_, by first | rfl | (simp [errW_none, errW_some] <;> rfl) | (simp [*, errW_none, errW_some] <;> rfl), by first | exact Kd.R_nil _ _ _ _ _ | exact Kd.N_nil _ _ _ _ _ | exact Kd.V_nil _ _ _ _ _ | exact Kd.Q_nil _ _ _ _ _ | exact Kd.S_nil _ _ _ _ _, by repeat (first | (with_reducible first | exact HB.out | apply below_alloc | apply pw_below_drewN | apply below_drew1) | exact HB.out)⟩
   ·replace c10 := Bool.eq_false_iff.mpr c10
    subst c10
    have H1 : (impl_MakeOps.l0 kj3 a0 a1 a2 (([] : List (S43)))) = some (r1, r2) := by rw [if_neg (show ¬ (false = true) by decide)] at H; exact H
    clear H
    have H := H1
    clear H1
    obtain ⟨y161, hy161⟩ : ∃ y_ : List (S43), y_ = (([] : List (S43))) := ⟨_, rfl⟩
    replace H : (impl_MakeOps.l0 kj3 a0 a1 a2 y161) = some (r1, r2) := by first | (rw [hy161]; with_reducible exact H) | (have H2_ := (Option.bind_some _ _).symm.trans H; rw [hy161]; with_reducible exact H2_) | (have H2_ := (Option.bind_some _ _).symm.trans H; with_reducible exact H2_) | with_reducible exact H | (rw [hy161]; exact H) | exact H
    have Ny161 := Aside0.mk hy161
    clear hy161
    have H' := Aside0.mk H
    clear H
    go_wp2_with (first | ((with_reducible refine gate_dst (N := 25) rfl ?_); refine Kd.R_lit k43 _ 43 ?hg (N := 25) ?hd (xs := ([] : List (S43))) (inner := []) (ok := fun _ => True) (okp := fun _ => True) ?hr ?hp (fun _ hk => hk) trivial (Below.refl _ _) (Nat.le_refl _) (by simp) ?_; (case hd => rfl); (case hg => rfl); (case hr => first | (go_simp; done) | (go_simp; rfl)); (case hp => exact (Reps.none _ _)); intro v162 w11 ho12 hb hg_ hnew_; clear hg_ hnew_; (first | rw [← Ny161.out] at ho12 | (simp only [Int.reduceToNat] at ho12; rw [← Ny161.out] at ho12)); have n0_ := Aside0.mk (Kd.R_lower ho12 (below_size (by repeat (first | (with_reducible first | exact HB.out | apply below_alloc | apply pw_below_drewN | apply below_drew1) | exact HB.out)))); have n1_ := Aside0.mk (below_step (by repeat (first | (with_reducible first | exact HB.out | apply below_alloc | apply pw_below_drewN | apply below_drew1) | exact HB.out)) hb); clear HB; have HO163 := n0_; have HB := n1_; clear n0_ n1_; clear hb ho12))
    go_loopg [1, 8] kj3 (fun kq v1 v8 w' => ∃ (x1_2 : ByteArray) (x8_2 : List (S43)), v1 = .string x1_2 ∧ Aside0 (impl_MakeOps.l0 kq a0 x1_2 a2 x8_2 = some (r1, r2)) ∧ Aside0 (kq ≤ kj3) ∧ Aside0 (Kd.R k43 43 w' w.heap.size (fun _ => True) v8 x8_2) ∧ Aside0 (Below w.heap.size w w'))
    case atStart => exact ⟨(a1), (y161), (by first | rfl | (simp; done) | (simp [*]; done)), H', ⟨Nat.le_refl _⟩, ⟨by (with_reducible repeat (first | apply Kd.R_alloc | apply Kd.R_drewN | apply Kd.R_drew)); exact HO163.out⟩, ⟨by repeat (first | (with_reducible first | exact HB.out | apply below_alloc | apply pw_below_drewN | apply below_drew1) | exact HB.out)⟩⟩
    case round =>
     clear H'
     try clear c1
     try clear c2
     try clear p2
     try clear c6
     try clear c8
     try clear c10
     try clear p2
     obtain ⟨x1_2, x8_2, rfl, HA, HK2, HO_8, HB⟩ := hrel
     cases gk with
     | zero => exact absurd HA.out (by simp [impl_MakeOps.l0])
     | succ k2 =>
      have H := HA.out
      clear HA
      simp only [impl_MakeOps.l0] at H
      by_cases c13 : x1_2.toList = ([] : List UInt8)
      ·rw [if_pos c13] at H
       have c13b0 : (x1_2.toList == ([] : List UInt8)) = true := beq_iff_eq.mpr c13
       have c13b1 : (x1_2.toList != ([] : List UInt8)) = false := bne_eq_false_iff_eq.mpr c13
       clear c13
       simp only [Option.some.injEq, Prod.mk.injEq] at H
       obtain ⟨rfl, rfl⟩ := H
       go_wp2
       go_ret2
       exact ⟨_, by first | rfl | (simp [errW_none, errW_some] <;> rfl) | (simp [*, errW_none, errW_some] <;> rfl), by (with_reducible repeat (first | apply Kd.R_alloc | apply Kd.R_drewN | apply Kd.R_drew)); exact HO_8.out, by repeat (first | (with_reducible first | exact HB.out | apply below_alloc | apply pw_below_drewN | apply below_drew1) | exact HB.out)⟩
      ·rw [if_neg c13] at H
       have c13b0 : (x1_2.toList == ([] : List UInt8)) = false := beq_eq_false_iff_ne.mpr c13
       have c13b1 : (x1_2.toList != ([] : List UInt8)) = true := bne_iff_ne.mpr c13
       replace H := Option.bind_eq_some_iff.mp H
       obtain ⟨⟨t164, t165⟩, A140, H⟩ := H
       replace H : (if t165 ≥ a2 then (if x8_2.length < 3518437208883 then (if 0 ≤ t165 then (if t165 ≤ (x1_2.size : Int) then (impl_MakeOps.l0 k2 a0 (x1_2.extract (t165 : Int).toNat x1_2.size) a2 (x8_2 ++ [(⟨1, t164, t165, (⟨#[]⟩ : ByteArray)⟩ : S43)])) else (none)) else (none)) else (none)) else (if (wrap64 ((x8_2.length : Int) - 1)) ≥ 0 then (if 0 ≤ (wrap64 ((x8_2.length : Int) - 1)) then (if (wrap64 ((x8_2.length : Int) - 1)) < (x8_2.length : Int) then (if ((rd_T43 x8_2 (wrap64 ((x8_2.length : Int) - 1))).f0) = 2 then (if 0 ≤ 1 then (if 1 ≤ (x1_2.size : Int) then (if ((rd_T43 x8_2 (wrap64 ((x8_2.length : Int) - 1))).f3).size + (x1_2.extract 0 1).size ≤ 9223372036854775807 then (impl_MakeOps.l0 k2 a0 (x1_2.extract 1 x1_2.size) a2 (x8_2.set ((wrap64 ((x8_2.length : Int) - 1)) : Int).toNat (⟨(rd_T43 x8_2 (wrap64 ((x8_2.length : Int) - 1))).f0, (rd_T43 x8_2 (wrap64 ((x8_2.length : Int) - 1))).f1, (rd_T43 x8_2 (wrap64 ((x8_2.length : Int) - 1))).f2, ((rd_T43 x8_2 (wrap64 ((x8_2.length : Int) - 1))).f3) ++ (x1_2.extract 0 1)⟩ : S43))) else (none)) else (none)) else (none)) else (if 0 ≤ 1 then (if 1 ≤ (x1_2.size : Int) then (if x8_2.length < 3518437208883 then (impl_MakeOps.l0 k2 a0 (x1_2.extract 1 x1_2.size) a2 (x8_2 ++ [(⟨2, 0, 0, x1_2.extract 0 1⟩ : S43)])) else (none)) else (none)) else (none))) else (none)) else (none)) else (if 0 ≤ 1 then (if 1 ≤ (x1_2.size : Int) then (if x8_2.length < 3518437208883 then (impl_MakeOps.l0 k2 a0 (x1_2.extract 1 x1_2.size) a2 (x8_2 ++ [(⟨2, 0, 0, x1_2.extract 0 1⟩ : S43)])) else (none)) else (none)) else (none)))) = some (r1, r2) := H
       have A14 := Aside0.mk A140
       clear A140
       by_cases c15 : t165 ≥ a2
       ·rw [if_pos c15] at H
        have c15b0 : decide (a2 ≤ t165) = true := decide_eq_true c15
        clear c15
        by_cases c16 : x8_2.length < 3518437208883
        ·rw [if_pos c16] at H
         have LMc16 := Aside0.mk c16
         clear c16
         obtain ⟨y166, hy166⟩ : ∃ y_ : List (S43), y_ = (x8_2 ++ [(⟨1, t164, t165, (⟨#[]⟩ : ByteArray)⟩ : S43)]) := ⟨_, rfl⟩
         replace H : (if 0 ≤ t165 then (if t165 ≤ (x1_2.size : Int) then (impl_MakeOps.l0 k2 a0 (x1_2.extract (t165 : Int).toNat x1_2.size) a2 y166) else (none)) else (none)) = some (r1, r2) := by first | (rw [hy166]; with_reducible exact H) | (have H2_ := (Option.bind_some _ _).symm.trans H; rw [hy166]; with_reducible exact H2_) | (have H2_ := (Option.bind_some _ _).symm.trans H; with_reducible exact H2_) | with_reducible exact H | (rw [hy166]; exact H) | exact H
         have Ny166 := Aside0.mk hy166
         clear hy166
         by_cases c17 : 0 ≤ t165
         ·rw [if_pos c17] at H
          have c17b0 := eq_true c17
          have c17b1 : decide (0 ≤ t165) = true := decide_eq_true c17
          clear c17
          by_cases c18 : t165 ≤ (x1_2.size : Int)
          ·rw [if_pos c18] at H
           have c18b0 := eq_true c18
           have c18b1 : decide (t165 ≤ (x1_2.size : Int)) = true := decide_eq_true c18
           clear c18
           have H' := Aside0.mk H
           clear H
           go_wp2_with (first | ((with_reducible refine gate_callee (f := 68) rfl ?_); refine goesL_ (some 31) rfl rfl Try.func68 (by kernel_rfl) rfl #[.string a0, .string x1_2] rfl (by (try simp only [List.map_toArray, List.map_cons, List.map_nil]); first | done | rfl | (simp only [List.length_drop, List.length_take]; rfl)) ?_; (with_reducible refine (impl_longest.calls k2 a0 x1_2 t164 t165 _ A14.out).mono ?_); rintro e w19 ⟨rfl, hb⟩; refine ⟨_, rfl, ?_⟩; have n0_ := Aside0.mk (Kd.R_below (by (with_reducible repeat (first | apply Kd.R_alloc | apply Kd.R_drewN | apply Kd.R_drew)); exact HO_8.out) hb); have n1_ := Aside0.mk (below_step (by repeat (first | (with_reducible first | exact HB.out | apply below_alloc | apply pw_below_drewN | apply below_drew1) | exact HB.out)) hb); clear HO_8; clear HB; have HO_8 := n0_; have HB := n1_; clear n0_ n1_; (try clear hb); (try clear hb2); (try clear hk); (try clear hi); obtain ⟨Ao20, co20, eo20⟩ := Kd.R_slice HO_8.out; subst eo20) | ((with_reducible refine gate_builtin (b := .append) (xs := #[.tmp 47, .tmp 51]) rfl ?_); at_builtin; refine Kd.R_append k43 (w0 := w) w.heap.size rfl (.tmp 47) (.tmp 51) 26 43 (.agg #[(.int .i64 0), (.int .i64 0), (.int .i64 0), (.string ⟨#[]⟩)]) 40 rfl Try.underlying26 info43 rfl (by decide) (by omega) (.slice Ao20 x8_2.length co20) x8_2 (⟨1, t164, t165, (⟨#[]⟩ : ByteArray)⟩ : S43) [.int .i64 1, .int .i64 t164, .int .i64 t165, .string (⟨#[]⟩ : ByteArray)] (fun _ => True) (fun _ => False) rfl rfl ?aP (fun _ hk => hk.elim) ?aF ?aO ?aB ?aS ?aL ?_; (case aP => exact k43_mkM _ _ _ (⟨1, t164, t165, (⟨#[]⟩ : ByteArray)⟩ : S43)); (case aB => exact (by repeat (first | (with_reducible first | exact HB.out | apply below_alloc | apply pw_below_drewN | apply below_drew1) | exact HB.out))); (case aF => exact (fun _ _ => trivial)); (case aO => exact (by (with_reducible repeat (first | apply Kd.R_alloc | apply Kd.R_drewN | apply Kd.R_drew)); exact HO_8.out)); (case aS => exact (below_size (by repeat (first | (with_reducible first | exact HB.out | apply below_alloc | apply pw_below_drewN | apply below_drew1) | exact HB.out)))); (case aL => have := LMc16.out; omega); intro v167 w21 ho hb hg hat; rw [← Ny166.out] at ho; have n0_ := Aside0.mk (hb); have n1_ := Aside0.mk (ho); clear HB; clear HO_8; have HB := n0_; have HO168 := n1_; clear n0_ n1_; clear ho hb hg hat))
           go_roundg k2
           case measure => have := HJ3.out; have := HK2.out; omega
           case rel => exact ⟨(x1_2.extract (t165 : Int).toNat x1_2.size), (y166), (by first | rfl | (simp; done) | (simp [*]; done)), H', ⟨by have := HJ3.out; have := HK2.out; omega⟩, ⟨by (with_reducible repeat (first | apply Kd.R_alloc | apply Kd.R_drewN | apply Kd.R_drew)); exact HO168.out⟩, ⟨by repeat (first | (with_reducible first | exact HB.out | apply below_alloc | apply pw_below_drewN | apply below_drew1) | exact HB.out)⟩⟩
          ·rw [if_neg c18] at H
           exact absurd H (by simp)
         ·rw [if_neg c17] at H
          exact absurd H (by simp)
        ·rw [if_neg c16] at H
         exact absurd H (by simp)
       ·rw [if_neg c15] at H
        have c15b0 : decide (a2 ≤ t165) = false := decide_eq_false c15
        clear c15
        by_cases c22 : (wrap64 ((x8_2.length : Int) - 1)) ≥ 0
        ·rw [if_pos c22] at H
         have c22b0 : decide (0 ≤ (wrap64 ((x8_2.length : Int) - 1))) = true := decide_eq_true c22
         clear c22
         obtain ⟨ji23, hji23⟩ : ∃ j_ : Int, (wrap64 ((x8_2.length : Int) - 1)) = j_ := ⟨_, rfl⟩
         replace H : (if 0 ≤ (ji23) then (if (ji23) < (x8_2.length : Int) then (if ((rd_T43 x8_2 (ji23)).f0) = 2 then (if 0 ≤ 1 then (if 1 ≤ (x1_2.size : Int) then (if ((rd_T43 x8_2 (ji23)).f3).size + (x1_2.extract 0 1).size ≤ 9223372036854775807 then (impl_MakeOps.l0 k2 a0 (x1_2.extract 1 x1_2.size) a2 (x8_2.set ((ji23) : Int).toNat (⟨(rd_T43 x8_2 (ji23)).f0, (rd_T43 x8_2 (ji23)).f1, (rd_T43 x8_2 (ji23)).f2, ((rd_T43 x8_2 (ji23)).f3) ++ (x1_2.extract 0 1)⟩ : S43))) else (none)) else (none)) else (none)) else (if 0 ≤ 1 then (if 1 ≤ (x1_2.size : Int) then (if x8_2.length < 3518437208883 then (impl_MakeOps.l0 k2 a0 (x1_2.extract 1 x1_2.size) a2 (x8_2 ++ [(⟨2, 0, 0, x1_2.extract 0 1⟩ : S43)])) else (none)) else (none)) else (none))) else (none)) else (none)) = some (r1, r2) := by first | (rw [hji23] at H; exact H) | (simp only [hji23] at H ⊢; exact H)
         (try rw [hji23] at c22b0)
         (try rw [hji23] at A14)
         have hji23w : (IntKind.i64.wrap ((x8_2.length : Int) - 1)) = ji23 := (i64_w _).trans hji23
         by_cases c24 : 0 ≤ (ji23)
         ·rw [if_pos c24] at H
          have c24b0 : decide (0 ≤ (ji23)) = true := decide_eq_true c24
          clear c24
          by_cases c25 : (ji23) < (x8_2.length : Int)
          ·rw [if_pos c25] at H
           have c25b0 : decide ((ji23) < (x8_2.length : Int)) = true := decide_eq_true c25
           clear c25
           by_cases c26 : ((rd_T43 x8_2 (ji23)).f0) = 2
           ·rw [if_pos c26] at H
            have c26b0 : (((rd_T43 x8_2 (ji23)).f0) == 2) = true := beq_iff_eq.mpr c26
            have c26b1 : (((rd_T43 x8_2 (ji23)).f0) != 2) = false := bne_eq_false_iff_eq.mpr c26
            clear c26
            by_cases c27 : 0 ≤ 1
            ·rw [if_pos c27] at H
             have c27b0 := eq_true c27
             have c27b1 : decide (0 ≤ 1) = true := decide_eq_true c27
             clear c27
             by_cases c28 : 1 ≤ (x1_2.size : Int)
             ·rw [if_pos c28] at H
              have c28b0 := eq_true c28
              have c28b1 : decide (1 ≤ (x1_2.size : Int)) = true := decide_eq_true c28
              clear c28
              by_cases c29 : ((rd_T43 x8_2 (ji23)).f3).size + (x1_2.extract 0 1).size ≤ 9223372036854775807
              ·rw [if_pos c29] at H
               have c29b0 := eq_true c29
               have c29b1 : decide (((rd_T43 x8_2 (ji23)).f3).size + (x1_2.extract 0 1).size ≤ 9223372036854775807) = true := decide_eq_true c29
               try have c29b2 : (9223372036854775807 < ((rd_T43 x8_2 (ji23)).f3).size + (x1_2.extract 0 1).size) = False := eq_false (Nat.not_lt.2 c29)
               have c29b3 : ∀ m_ n_ : Nat, m_ = ((rd_T43 x8_2 (ji23)).f3).size → n_ = (x1_2.extract 0 1).size → (9223372036854775807 < m_ + n_) = False := fun m_ n_ h1_ h2_ => by rw [h1_, h2_]; exact eq_false (Nat.not_lt.2 c29)
               obtain ⟨y171, hy171⟩ : ∃ y_ : List (S43), y_ = (x8_2.set ((ji23) : Int).toNat (⟨(rd_T43 x8_2 (ji23)).f0, (rd_T43 x8_2 (ji23)).f1, (rd_T43 x8_2 (ji23)).f2, ((rd_T43 x8_2 (ji23)).f3) ++ (x1_2.extract 0 1)⟩ : S43)) := ⟨_, rfl⟩
               replace H : (impl_MakeOps.l0 k2 a0 (x1_2.extract 1 x1_2.size) a2 y171) = some (r1, r2) := by first | (rw [hy171]; with_reducible exact H) | (have H2_ := (Option.bind_some _ _).symm.trans H; rw [hy171]; with_reducible exact H2_) | (have H2_ := (Option.bind_some _ _).symm.trans H; with_reducible exact H2_) | with_reducible exact H | (rw [hy171]; exact H) | exact H
               have Ny171 := Aside0.mk hy171
               clear hy171
               have c31b0 := eq_true (of_decide_eq_true (by first | (with_reducible assumption) | assumption) : 1 ≤ (x1_2.size : Int))
               have H' := Aside0.mk H
               clear H
               try go_wp2_with (first | ((with_reducible refine gate_callee (f := 68) rfl ?_); refine goesL_ (some 31) rfl rfl Try.func68 (by kernel_rfl) rfl #[.string a0, .string x1_2] rfl (by (try simp only [List.map_toArray, List.map_cons, List.map_nil]); first | done | rfl | (simp only [List.length_drop, List.length_take]; rfl)) ?_; (with_reducible refine (impl_longest.calls k2 a0 x1_2 t164 t165 _ A14.out).mono ?_); rintro e w32 ⟨rfl, hb⟩; refine ⟨_, rfl, ?_⟩; have n0_ := Aside0.mk (Kd.R_below (by (with_reducible repeat (first | apply Kd.R_alloc | apply Kd.R_drewN | apply Kd.R_drew)); exact HO_8.out) hb); have n1_ := Aside0.mk (below_step (by repeat (first | (with_reducible first | exact HB.out | apply below_alloc | apply pw_below_drewN | apply below_drew1) | exact HB.out)) hb); clear HO_8; clear HB; have HO_8 := n0_; have HB := n1_; clear n0_ n1_; (try clear hb); (try clear hb2); (try clear hk); (try clear hi); obtain ⟨Ao33, co33, eo33⟩ := Kd.R_slice HO_8.out; subst eo33; have p169 : 0 ≤ ((ji23) : Int) := of_decide_eq_true (by first | (with_reducible assumption) | assumption); have q169 : (ji23) < (x8_2.length : Int) := of_decide_eq_true (by first | (with_reducible assumption) | assumption); obtain ⟨ad169, e169, hx169_0, hx169_1, hx169_2, hx169_3⟩ := at_T43 (Kd.R_reads' HO_8.out).2.2 (ji23) p169 q169; cases e169; replace p169 := eq_true p169; replace q169 := eq_true q169))
               have n0_ := Aside0.mk (Kd.R_drew HO_8.out)
               have n1_ := Aside0.mk (below_drew1 HB.out)
               clear HO_8
               clear HB
               have HO_8 := n0_
               have HB := n1_
               clear n0_ n1_
               have p170 : 0 ≤ ((ji23) : Int) := of_decide_eq_true (by first | (with_reducible assumption) | assumption)
               have q170 : (ji23) < (x8_2.length : Int) := of_decide_eq_true (by first | (with_reducible assumption) | assumption)
               obtain ⟨ad170, e170, hx170_0, hx170_1, hx170_2, hx170_3⟩ := at_T43 (Kd.R_reads' HO_8.out).2.2 (ji23) p170 q170
               obtain rfl : ad169 = ad170 := (by injection e170)
               replace p170 := eq_true p170
               replace q170 := eq_true q170
               have p30 : 0 ≤ ((ji23) : Int) := of_decide_eq_true (by first | (with_reducible assumption) | assumption)
               have q30 : ((ji23) : Int) < ((x8_2.length : Int) : Int) := of_decide_eq_true (by first | (with_reducible assumption) | assumption)
               obtain ⟨go30, co30, eo30, gb30, gl30, cl30, HG30⟩ := Kd.R_form HO_8.out (by omega)
               (first | cases eo30 | (injection eo30 with ea_ en_ ec_; (first | subst ea_ | (injection ea_ with ea_; subst ea_)); subst ec_; clear en_))
               have GB30 := Aside0.mk gb30
               have GG30 := Aside0.mk HG30
               clear gb30 gl30 HG30
               (first | simp only [add_plain] at hx169_0 | skip)
               (first | simp only [add_plain] at hx169_1 | skip)
               (first | simp only [add_plain] at hx169_2 | skip)
               (first | simp only [add_plain] at hx169_3 | skip)
               (first | simp only [add_plain] at hx170_0 | skip)
               (first | simp only [add_plain] at hx170_1 | skip)
               (first | simp only [add_plain] at hx170_2 | skip)
               (first | simp only [add_plain] at hx170_3 | skip)
               obtain ⟨ce30, hcl30, hM30, hcc30, hfr30⟩ := Kd.R_elem HO_8.out z43 ((ji23) : Int) p30 q30
               obtain rfl := k43_openM hM30
               have hx30_0 : World.cell? _ ⟨go30, ((ji23) : Int).toNat * 4, none⟩ = some (.int .i64 ((rd_T43 x8_2 (ji23)).f0)) := hcc30 0 _ rfl
               have hx30_1 : World.cell? _ ⟨go30, ((ji23) : Int).toNat * 4 + 1, none⟩ = some (.int .i64 ((rd_T43 x8_2 (ji23)).f1)) := hcc30 1 _ rfl
               have hx30_2 : World.cell? _ ⟨go30, ((ji23) : Int).toNat * 4 + 2, none⟩ = some (.int .i64 ((rd_T43 x8_2 (ji23)).f2)) := hcc30 2 _ rfl
               have hx30_3 : World.cell? _ ⟨go30, ((ji23) : Int).toNat * 4 + 3, none⟩ = some (.string ((rd_T43 x8_2 (ji23)).f3)) := hcc30 3 _ rfl
               have hf30_0 : World.frozen? _ ⟨go30, ((ji23) : Int).toNat * 4, none⟩ = false := hfr30 0
               have hf30_1 : World.frozen? _ ⟨go30, ((ji23) : Int).toNat * 4 + 1, none⟩ = false := hfr30 1
               have hf30_2 : World.frozen? _ ⟨go30, ((ji23) : Int).toNat * 4 + 2, none⟩ = false := hfr30 2
               have hf30_3 : World.frozen? _ ⟨go30, ((ji23) : Int).toNat * 4 + 3, none⟩ = false := hfr30 3
               clear hcl30 hcc30 hfr30 hM30
               replace p30 := eq_true p30
               replace q30 := eq_true q30
               obtain ⟨ce35, hcl35, hM35, hcc35, hfr35⟩ := Kd.R_elem HO_8.out z43 ((ji23) : Int) (of_decide_eq_true (by first | (with_reducible assumption) | assumption)) (by have h_ : ((ji23) : Int) < ((x8_2.length : Int) : Int) := of_decide_eq_true (by first | (with_reducible assumption) | assumption); first | exact h_ | (have e_ := (Kd.R_reads' HO_8.out).1; omega) | simpa using h_)
               obtain rfl := k43_openM hM35
               have HP35 := (Kd.R_seg HO_8.out ((ji23) : Int) (of_decide_eq_true (by first | (with_reducible assumption) | assumption)) (by have h_ : ((ji23) : Int) < ((x8_2.length : Int) : Int) := of_decide_eq_true (by first | (with_reducible assumption) | assumption); first | exact h_ | (have e_ := (Kd.R_reads' HO_8.out).1; omega) | simpa using h_) (seg := [.string (((rd_T43 x8_2 (ji23)).f3) ++ (x1_2.extract 0 1))]) (j := 3) hcl35 hcc35 (show 4 ≤ 4 from by decide) (x' := (⟨(rd_T43 x8_2 (ji23)).f0, (rd_T43 x8_2 (ji23)).f1, (rd_T43 x8_2 (ji23)).f2, ((rd_T43 x8_2 (ji23)).f3) ++ (x1_2.extract 0 1)⟩ : S43)) (k43_mkM _ _ _ (⟨(rd_T43 x8_2 (ji23)).f0, (rd_T43 x8_2 (ji23)).f1, (rd_T43 x8_2 (ji23)).f2, ((rd_T43 x8_2 (ji23)).f3) ++ (x1_2.extract 0 1)⟩ : S43) ) (fun _ hk => hk)).1
               rw [← Ny171.out] at HP35
               have HQ35 := Aside0.mk HP35
               clear hcl35 hcc35 hfr35 hM35 HP35
               refine start_ (n := 11) (S := fun w' => w'.cell? ⟨go30, (((ji23)).toNat * 4), none⟩ = some (.int .i64 ((rd_T43 x8_2 (ji23)).f0)) ∧ w'.cell? ⟨go30, (((ji23)).toNat * 4) + 1, none⟩ = some (.int .i64 ((rd_T43 x8_2 (ji23)).f1)) ∧ w'.cell? ⟨go30, (((ji23)).toNat * 4) + 2, none⟩ = some (.int .i64 ((rd_T43 x8_2 (ji23)).f2)) ∧ w'.cell? ⟨go30, (((ji23)).toNat * 4) + 3, none⟩ = some (.string ((rd_T43 x8_2 (ji23)).f3))) (ds := [10]) #[false, false, false, false, false, false, false, false, false, false, false] (by kernel_rfl) rfl rfl ⟨hx170_0, hx170_1, hx170_2, hx170_3⟩ (fun hHeld => ?_); refine with_tabW impl_MakeOps.tab13 impl_MakeOps.bits13 (fun HT_ HW_ => ?_)
               generalize w32.drew = w34 at HO_8 HB GG30 HQ35 hf30_0 hf30_1 hf30_2 hf30_3 hx169_0 hx169_1 hx169_2 hx169_3 hx170_0 hx170_1 hx170_2 hx170_3 hx30_0 hx30_1 hx30_2 hx30_3 hHeld ⊢
               refine pure_ (i := 0) (N := some 64) (v := ?_) (a' := ?_) #[true, false, false, false, false, false, false, false, false, false, false] rfl rfl (any_of HT_.out (by kernel_rfl)) (fun _ _ _ h => h) (Or.inl ⟨by rfl, ?_⟩) ?_ ?_
               rotate_left
               ·intro w'
                go_simp
                with_reducible rfl
               rotate_left
               ·simp only [Act.put, List.setIfInBounds_toArray, List.set_cons_zero, List.set_cons_succ, i64_w, i32_w]
                rfl
               refine pure_ (i := 1) (N := some 65) (v := ?_) (a' := ?_) #[true, true, false, false, false, false, false, false, false, false, false] rfl rfl (any_of HT_.out (by kernel_rfl)) (fun _ _ _ h => h) (Or.inl ⟨by rfl, ?_⟩) ?_ ?_
               rotate_left
               ·intro w'
                go_simp
                with_reducible rfl
               rotate_left
               ·simp only [Act.put, List.setIfInBounds_toArray, List.set_cons_zero, List.set_cons_succ, i64_w, i32_w]
                rfl
               refine pure_ (i := 2) (N := some 66) (v := ?_) (a' := ?_) #[true, true, true, false, false, false, false, false, false, false, false] rfl rfl (any_of HT_.out (by kernel_rfl)) (fun _ _ _ h => h) (Or.inl ⟨by rfl, ?_⟩) ?_ ?_
               rotate_left
               ·intro w'
                go_simp
                with_reducible rfl
               rotate_left
               ·simp only [Act.put, List.setIfInBounds_toArray, List.set_cons_zero, List.set_cons_succ, i64_w, i32_w]
                rfl
               refine pure_ (i := 3) (N := some 67) (v := ?_) (a' := ?_) #[true, true, true, true, false, false, false, false, false, false, false] rfl rfl (any_of HT_.out (by kernel_rfl)) (fun _ _ _ h => h) (Or.inl ⟨by rfl, ?_⟩) ?_ ?_
               rotate_left
               ·intro w'
                go_simp
                with_reducible rfl
               rotate_left
               ·simp only [Act.put, List.setIfInBounds_toArray, List.set_cons_zero, List.set_cons_succ, i64_w, i32_w]
                rfl
               refine pure_ (i := 5) (N := some 69) (v := ?_) (a' := ?_) #[true, true, true, true, false, true, false, false, false, false, false] rfl rfl (any_of HT_.out (by kernel_rfl)) (fun _ _ _ h => h) (Or.inl ⟨by rfl, ?_⟩) ?_ ?_
               rotate_left
               ·intro w'
                go_simp
                with_reducible rfl
               rotate_left
               ·simp only [Act.put, List.setIfInBounds_toArray, List.set_cons_zero, List.set_cons_succ, i64_w, i32_w]
                rfl
               refine pure_ (i := 6) (N := some 70) (v := ?_) (a' := ?_) #[true, true, true, true, false, true, true, false, false, false, false] rfl rfl (any_of HT_.out (by kernel_rfl)) (fun _ _ _ h => h) (Or.inl ⟨by rfl, ?_⟩) ?_ ?_
               rotate_left
               ·intro w'
                go_simp
                with_reducible rfl
               rotate_left
               ·simp only [Act.put, List.setIfInBounds_toArray, List.set_cons_zero, List.set_cons_succ, i64_w, i32_w]
                rfl
               refine take_ (i := 4) (N := some 68) (v := ?_) (a' := ?_) #[true, true, true, true, true, true, true, false, false, false, false] rfl rfl (take_ofW HT_.out HW_.out (by kernel_rfl)) (fun _ _ _ h => h) (Or.inl ⟨by rfl, ?_⟩) hHeld ?_ ?_
               rotate_left
               ·rintro w' ⟨s0, s1, s2, s3⟩
                go_simp
                with_reducible rfl
               rotate_left
               ·simp only [Act.put, List.setIfInBounds_toArray, List.set_cons_zero, List.set_cons_succ, i64_w, i32_w]
                rfl
               refine pure_ (i := 7) (N := some 71) (v := ?_) (a' := ?_) #[true, true, true, true, true, true, true, true, false, false, false] rfl rfl (any_of HT_.out (by kernel_rfl)) (fun _ _ _ h => h) (Or.inl ⟨by rfl, ?_⟩) ?_ ?_
               rotate_left
               ·intro w'
                go_simp
                with_reducible rfl
               rotate_left
               ·simp only [Act.put, List.setIfInBounds_toArray, List.set_cons_zero, List.set_cons_succ, i64_w, i32_w]
                rfl
               refine pure_ (i := 8) (N := some 72) (v := ?_) (a' := ?_) #[true, true, true, true, true, true, true, true, true, false, false] rfl rfl (any_of HT_.out (by kernel_rfl)) (fun _ _ _ h => h) (Or.inl ⟨by rfl, ?_⟩) ?_ ?_
               rotate_left
               ·intro w'
                go_simp
                with_reducible rfl
               rotate_left
               ·simp only [Act.put, List.setIfInBounds_toArray, List.set_cons_zero, List.set_cons_succ, i64_w, i32_w]
                rfl
               refine pure_ (i := 9) (N := some 73) (v := ?_) (a' := ?_) #[true, true, true, true, true, true, true, true, true, true, false] rfl rfl (any_of HT_.out (by kernel_rfl)) (fun _ _ _ h => h) (Or.inl ⟨by rfl, ?_⟩) ?_ ?_
               rotate_left
               ·intro w'
                go_simp
                with_reducible rfl
               rotate_left
               ·simp only [Act.put, List.setIfInBounds_toArray, List.set_cons_zero, List.set_cons_succ, i64_w, i32_w]
                rfl
               refine last_ (i := 10) (N := none) #[true, true, true, true, true, true, true, true, true, true, true] rfl rfl (one_of HT_.out (by kernel_rfl)) (by decide) (fun K hK => ?_)
               refine skip_ (w1 := ?_) (by rfl) rfl ?_ ?_
               rotate_left
               ·go_simp
                rfl
               refine hK.out _ _ ?_
               clear hK K
               refine done_ (done_of HT_.out (by kernel_rfl)) ?_
               try go_wp2
               go_roundg k2
               case measure => have := HJ3.out; have := HK2.out; omega
               case rel => exact ⟨(x1_2.extract 1 x1_2.size), (y171), (by first | rfl | (simp; done) | (simp [*]; done)), H', ⟨by have := HJ3.out; have := HK2.out; omega⟩, ⟨by (with_reducible repeat (first | apply Kd.R_alloc | apply Kd.R_drewN | apply Kd.R_drew)); exact HQ35.out⟩, ⟨by repeat (first | (with_reducible first | exact HB.out | apply below_alloc | apply pw_below_drewN | apply below_drew1 | refine below_set ?_ GB30.out) | exact HB.out)⟩⟩
              ·rw [if_neg c29] at H
               exact absurd H (by simp)
             ·rw [if_neg c28] at H
              exact absurd H (by simp)
            ·rw [if_neg c27] at H
             exact absurd H (by simp)
           ·rw [if_neg c26] at H
            have c26b0 : (((rd_T43 x8_2 (ji23)).f0) == 2) = false := beq_eq_false_iff_ne.mpr c26
            have c26b1 : (((rd_T43 x8_2 (ji23)).f0) != 2) = true := bne_iff_ne.mpr c26
            by_cases c36 : 0 ≤ 1
            ·rw [if_pos c36] at H
             have c36b0 := eq_true c36
             have c36b1 : decide (0 ≤ 1) = true := decide_eq_true c36
             clear c36
             by_cases c37 : 1 ≤ (x1_2.size : Int)
             ·rw [if_pos c37] at H
              have c37b0 := eq_true c37
              have c37b1 : decide (1 ≤ (x1_2.size : Int)) = true := decide_eq_true c37
              clear c37
              by_cases c38 : x8_2.length < 3518437208883
              ·rw [if_pos c38] at H
               have LMc38 := Aside0.mk c38
               clear c38
               obtain ⟨y172, hy172⟩ : ∃ y_ : List (S43), y_ = (x8_2 ++ [(⟨2, 0, 0, x1_2.extract 0 1⟩ : S43)]) := ⟨_, rfl⟩
               replace H : (impl_MakeOps.l0 k2 a0 (x1_2.extract 1 x1_2.size) a2 y172) = some (r1, r2) := by first | (rw [hy172]; with_reducible exact H) | (have H2_ := (Option.bind_some _ _).symm.trans H; rw [hy172]; with_reducible exact H2_) | (have H2_ := (Option.bind_some _ _).symm.trans H; with_reducible exact H2_) | with_reducible exact H | (rw [hy172]; exact H) | exact H
               have Ny172 := Aside0.mk hy172
               clear hy172
               have c39b0 := eq_true (of_decide_eq_true (by first | (with_reducible assumption) | assumption) : 1 ≤ (x1_2.size : Int))
               have H' := Aside0.mk H
               clear H
               go_wp2_with (first | ((with_reducible refine gate_callee (f := 68) rfl ?_); refine goesL_ (some 31) rfl rfl Try.func68 (by kernel_rfl) rfl #[.string a0, .string x1_2] rfl (by (try simp only [List.map_toArray, List.map_cons, List.map_nil]); first | done | rfl | (simp only [List.length_drop, List.length_take]; rfl)) ?_; (with_reducible refine (impl_longest.calls k2 a0 x1_2 t164 t165 _ A14.out).mono ?_); rintro e w40 ⟨rfl, hb⟩; refine ⟨_, rfl, ?_⟩; have n0_ := Aside0.mk (Kd.R_below (by (with_reducible repeat (first | apply Kd.R_alloc | apply Kd.R_drewN | apply Kd.R_drew)); exact HO_8.out) hb); have n1_ := Aside0.mk (below_step (by repeat (first | (with_reducible first | exact HB.out | apply below_alloc | apply pw_below_drewN | apply below_drew1) | exact HB.out)) hb); clear HO_8; clear HB; have HO_8 := n0_; have HB := n1_; clear n0_ n1_; (try clear hb); (try clear hb2); (try clear hk); (try clear hi); obtain ⟨Ao41, co41, eo41⟩ := Kd.R_slice HO_8.out; subst eo41; have p169 : 0 ≤ ((ji23) : Int) := of_decide_eq_true (by first | (with_reducible assumption) | assumption); have q169 : (ji23) < (x8_2.length : Int) := of_decide_eq_true (by first | (with_reducible assumption) | assumption); obtain ⟨ad169, e169, hx169_0, hx169_1, hx169_2, hx169_3⟩ := at_T43 (Kd.R_reads' HO_8.out).2.2 (ji23) p169 q169; cases e169; replace p169 := eq_true p169; replace q169 := eq_true q169) | ((with_reducible refine gate_builtin (b := .append) (xs := #[.tmp 37, .tmp 41]) rfl ?_); at_builtin; refine Kd.R_append k43 (w0 := w) w.heap.size rfl (.tmp 37) (.tmp 41) 26 43 (.agg #[(.int .i64 0), (.int .i64 0), (.int .i64 0), (.string ⟨#[]⟩)]) 40 rfl Try.underlying26 info43 rfl (by decide) (by omega) (.slice (some ad169) x8_2.length co41) x8_2 (⟨2, 0, 0, x1_2.extract 0 1⟩ : S43) [.int .i64 2, .int .i64 0, .int .i64 0, .string (x1_2.extract 0 1)] (fun _ => True) (fun _ => False) rfl rfl ?aP (fun _ hk => hk.elim) ?aF ?aO ?aB ?aS ?aL ?_; (case aP => exact k43_mkM _ _ _ (⟨2, 0, 0, x1_2.extract 0 1⟩ : S43)); (case aB => exact (by repeat (first | (with_reducible first | exact HB.out | apply below_alloc | apply pw_below_drewN | apply below_drew1) | exact HB.out))); (case aF => exact (fun _ _ => trivial)); (case aO => exact (by (with_reducible repeat (first | apply Kd.R_alloc | apply Kd.R_drewN | apply Kd.R_drew)); exact HO_8.out)); (case aS => exact (below_size (by repeat (first | (with_reducible first | exact HB.out | apply below_alloc | apply pw_below_drewN | apply below_drew1) | exact HB.out)))); (case aL => have := LMc38.out; omega); intro v173 w42 ho hb hg hat; rw [← Ny172.out] at ho; have n0_ := Aside0.mk (hb); have n1_ := Aside0.mk (ho); clear HB; clear HO_8; have HB := n0_; have HO174 := n1_; clear n0_ n1_; clear ho hb hg hat))
               go_roundg k2
               case measure => have := HJ3.out; have := HK2.out; omega
               case rel => exact ⟨(x1_2.extract 1 x1_2.size), (y172), (by first | rfl | (simp; done) | (simp [*]; done)), H', ⟨by have := HJ3.out; have := HK2.out; omega⟩, ⟨by (with_reducible repeat (first | apply Kd.R_alloc | apply Kd.R_drewN | apply Kd.R_drew)); exact HO174.out⟩, ⟨by repeat (first | (with_reducible first | exact HB.out | apply below_alloc | apply pw_below_drewN | apply below_drew1) | exact HB.out)⟩⟩
              ·rw [if_neg c38] at H
               exact absurd H (by simp)
             ·rw [if_neg c37] at H
              exact absurd H (by simp)
            ·rw [if_neg c36] at H
             exact absurd H (by simp)
          ·rw [if_neg c25] at H
           exact absurd H (by simp)
         ·rw [if_neg c24] at H
          exact absurd H (by simp)
        ·rw [if_neg c22] at H
         have c22b0 : decide (0 ≤ (wrap64 ((x8_2.length : Int) - 1))) = false := decide_eq_false c22
         clear c22
         by_cases c43 : 0 ≤ 1
         ·rw [if_pos c43] at H
          have c43b0 := eq_true c43
          have c43b1 : decide (0 ≤ 1) = true := decide_eq_true c43
          clear c43
          by_cases c44 : 1 ≤ (x1_2.size : Int)
          ·rw [if_pos c44] at H
           have c44b0 := eq_true c44
           have c44b1 : decide (1 ≤ (x1_2.size : Int)) = true := decide_eq_true c44
           clear c44
           by_cases c45 : x8_2.length < 3518437208883
           ·rw [if_pos c45] at H
            have LMc45 := Aside0.mk c45
            clear c45
            obtain ⟨y175, hy175⟩ : ∃ y_ : List (S43), y_ = (x8_2 ++ [(⟨2, 0, 0, x1_2.extract 0 1⟩ : S43)]) := ⟨_, rfl⟩
            replace H : (impl_MakeOps.l0 k2 a0 (x1_2.extract 1 x1_2.size) a2 y175) = some (r1, r2) := by first | (rw [hy175]; with_reducible exact H) | (have H2_ := (Option.bind_some _ _).symm.trans H; rw [hy175]; with_reducible exact H2_) | (have H2_ := (Option.bind_some _ _).symm.trans H; with_reducible exact H2_) | with_reducible exact H | (rw [hy175]; exact H) | exact H
            have Ny175 := Aside0.mk hy175
            clear hy175
            have c46b0 := eq_true (of_decide_eq_true (by first | (with_reducible assumption) | assumption) : 1 ≤ (x1_2.size : Int))
            have H' := Aside0.mk H
            clear H
            go_wp2_with (first | ((with_reducible refine gate_callee (f := 68) rfl ?_); refine goesL_ (some 31) rfl rfl Try.func68 (by kernel_rfl) rfl #[.string a0, .string x1_2] rfl (by (try simp only [List.map_toArray, List.map_cons, List.map_nil]); first | done | rfl | (simp only [List.length_drop, List.length_take]; rfl)) ?_; (with_reducible refine (impl_longest.calls k2 a0 x1_2 t164 t165 _ A14.out).mono ?_); rintro e w47 ⟨rfl, hb⟩; refine ⟨_, rfl, ?_⟩; have n0_ := Aside0.mk (Kd.R_below (by (with_reducible repeat (first | apply Kd.R_alloc | apply Kd.R_drewN | apply Kd.R_drew)); exact HO_8.out) hb); have n1_ := Aside0.mk (below_step (by repeat (first | (with_reducible first | exact HB.out | apply below_alloc | apply pw_below_drewN | apply below_drew1) | exact HB.out)) hb); clear HO_8; clear HB; have HO_8 := n0_; have HB := n1_; clear n0_ n1_; (try clear hb); (try clear hb2); (try clear hk); (try clear hi); obtain ⟨Ao48, co48, eo48⟩ := Kd.R_slice HO_8.out; subst eo48) | ((with_reducible refine gate_builtin (b := .append) (xs := #[.tmp 37, .tmp 41]) rfl ?_); at_builtin; refine Kd.R_append k43 (w0 := w) w.heap.size rfl (.tmp 37) (.tmp 41) 26 43 (.agg #[(.int .i64 0), (.int .i64 0), (.int .i64 0), (.string ⟨#[]⟩)]) 40 rfl Try.underlying26 info43 rfl (by decide) (by omega) (.slice Ao48 x8_2.length co48) x8_2 (⟨2, 0, 0, x1_2.extract 0 1⟩ : S43) [.int .i64 2, .int .i64 0, .int .i64 0, .string (x1_2.extract 0 1)] (fun _ => True) (fun _ => False) rfl rfl ?aP (fun _ hk => hk.elim) ?aF ?aO ?aB ?aS ?aL ?_; (case aP => exact k43_mkM _ _ _ (⟨2, 0, 0, x1_2.extract 0 1⟩ : S43)); (case aB => exact (by repeat (first | (with_reducible first | exact HB.out | apply below_alloc | apply pw_below_drewN | apply below_drew1) | exact HB.out))); (case aF => exact (fun _ _ => trivial)); (case aO => exact (by (with_reducible repeat (first | apply Kd.R_alloc | apply Kd.R_drewN | apply Kd.R_drew)); exact HO_8.out)); (case aS => exact (below_size (by repeat (first | (with_reducible first | exact HB.out | apply below_alloc | apply pw_below_drewN | apply below_drew1) | exact HB.out)))); (case aL => have := LMc45.out; omega); intro v176 w49 ho hb hg hat; rw [← Ny175.out] at ho; have n0_ := Aside0.mk (hb); have n1_ := Aside0.mk (ho); clear HB; clear HO_8; have HB := n0_; have HO177 := n1_; clear n0_ n1_; clear ho hb hg hat))
            go_roundg k2
            case measure => have := HJ3.out; have := HK2.out; omega
            case rel => exact ⟨(x1_2.extract 1 x1_2.size), (y175), (by first | rfl | (simp; done) | (simp [*]; done)), H', ⟨by have := HJ3.out; have := HK2.out; omega⟩, ⟨by (with_reducible repeat (first | apply Kd.R_alloc | apply Kd.R_drewN | apply Kd.R_drew)); exact HO177.out⟩, ⟨by repeat (first | (with_reducible first | exact HB.out | apply below_alloc | apply pw_below_drewN | apply below_drew1) | exact HB.out)⟩⟩
           ·rw [if_neg c45] at H
            exact absurd H (by simp)
          ·rw [if_neg c44] at H
           exact absurd H (by simp)
         ·rw [if_neg c43] at H
          exact absurd H (by simp)

/-! ### laws_big: function 30 -/
def laws_big.f (l0 : List Int) (l1 : List Int) : Option (Bool) := if (l0.length : Int) > 1048576 then (some true) else (some (decide ((l1.length : Int) > (wrap64 (1048576 - (l0.length : Int))))))
set_option maxHeartbeats 8000000 in
set_option maxRecDepth 100000 in
theorem laws_big.calls (A0 : Option Addr) (c0 : Nat) (l0 : List Int) (A1 : Option Addr) (c1 : Nat) (l1 : List Int) (r : Bool) (w : World) (hr0 : Kd.C (Kd.int .u8) w A0 l0.length l0) (hc0 : l0.length ≤ c0) (hr1 : Kd.C (Kd.int .u8) w A1 l1.length l1) (hc1 : l1.length ≤ c1) (h : laws_big.f l0 l1 = some r) :
  Calls Try.prog 30 #[.slice A0 l0.length c0, .slice A1 l1.length c1] w fun e w' => e = .returned (.bool r) ∧ Drawn0 w w' := by
 have HR0 := Aside0.mk hr0
 have HC0 := Aside0.mk hc0
 clear hr0 hc0
 have HR1 := Aside0.mk hr1
 have HC1 := Aside0.mk hc1
 clear hr1 hc1
 have H : (if (l0.length : Int) > 1048576 then (some true) else (some (decide ((l1.length : Int) > (wrap64 (1048576 - (l0.length : Int))))))) = some r := h
 clear h
 by_cases c3 : (l0.length : Int) > 1048576
 ·rw [if_pos c3] at H
  have c3b0 : decide (1048576 < (l0.length : Int)) = true := decide_eq_true c3
  have c3b1 : decide (1048576 < l0.length) = true := decide_eq_true (by omega)
  clear c3
  obtain rfl := Option.some.inj H
  go_enter Try.func30, Try.ntmps30
  go_wp2
  go_ret
  exact ⟨by first | rfl | (simp; done) | (simp [*]; done), by repeat (first | exact Drawn0.refl _ | apply Drawn0.step)⟩
 ·rw [if_neg c3] at H
  have c3b0 : decide (1048576 < (l0.length : Int)) = false := decide_eq_false c3
  have c3b1 : decide (1048576 < l0.length) = false := decide_eq_false (by omega)
  clear c3
  obtain rfl := Option.some.inj H
  go_enter Try.func30, Try.ntmps30
  go_wp2
  go_ret
  exact ⟨by first | rfl | (simp; done) | (simp [*]; done), by repeat (first | exact Drawn0.refl _ | apply Drawn0.step)⟩

end Go.Proofs.Ytnhnlfkbngnkpaa.D
