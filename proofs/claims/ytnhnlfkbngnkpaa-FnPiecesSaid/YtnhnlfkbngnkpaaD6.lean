-- Made by a program of this session out of the translation; no hand has turned it.
import Derived.Test.YtnhnlfkbngnkpaaD0
import Derived.Test.YtnhnlfkbngnkpaaD2
import Derived.Test.YtnhnlfkbngnkpaaD5
namespace Go.Proofs.Ytnhnlfkbngnkpaa.D
open Go.RowKit Go.Proofs.YtnhnlfkbngnkpaaW.PrintWords Go.Proofs.YtnhnlfkbngnkpaaW.PrintLast Go.Proofs.YtnhnlfkbngnkpaaW.PrintMore
attribute [local go_sem] max2_int min2_int max_two min_two max_three min_three max_four min_four   -- for this text's walks alone
set_option linter.unusedVariables false
set_option linter.unusedSimpArgs false

/-! ### spec_MakeOps: function 26 -/
mutual
def spec_MakeOps.j0 : Nat → ByteArray → ByteArray → Int → Bool → Option ((List (S43)) × Bool)
 | 0, _, _, _, _ => none
 | k + 1, x0, x1, x2, x25 => if x25 = true then (some (([] : List (S43)), false)) else (spec_MakeOps.l0 k x0 x1 x2 ([] : List (S43)) 0)
def spec_MakeOps.l0 : Nat → ByteArray → ByteArray → Int → List (S43) → Int → Option ((List (S43)) × Bool)
 | 0, _, _, _, _, _ => none
 | k + 1, x0, x1, x2, x8, x9 => if x9 < (x1.size : Int) then (if 0 ≤ x9 then (if x9 ≤ (x1.size : Int) then ((spec_l14Longest.f k x0 (x1.extract (x9 : Int).toNat x1.size)).bind fun bt140 => (if bt140.2 ≥ x2 then (if x8.length < 3518437208883 then (spec_MakeOps.l0 k x0 x1 x2 (x8 ++ [(⟨1, bt140.1, bt140.2, (⟨#[]⟩ : ByteArray)⟩ : S43)]) (wrap64 (x9 + bt140.2))) else (none)) else (if (x8.length : Int) = 0 then (if x8.length < 3518437208883 then ((some (x8 ++ [(⟨2, 0, 0, (⟨#[]⟩ : ByteArray)⟩ : S43)] : List (S43))).bind fun y145 => (if 0 ≤ (wrap64 ((wrap64 ((x8.length : Int) + 1)) - 1)) then (if (wrap64 ((wrap64 ((x8.length : Int) + 1)) - 1)) < (y145.length : Int) then (if x9 ≤ (wrap64 (x9 + 1)) then (if (wrap64 (x9 + 1)) ≤ (x1.size : Int) then (if ((rd_T43 y145 (wrap64 ((wrap64 ((x8.length : Int) + 1)) - 1))).f3).size + (x1.extract (x9 : Int).toNat ((wrap64 (x9 + 1)) : Int).toNat).size ≤ 9223372036854775807 then (spec_MakeOps.l0 k x0 x1 x2 (y145.set ((wrap64 ((wrap64 ((x8.length : Int) + 1)) - 1)) : Int).toNat (⟨(rd_T43 y145 (wrap64 ((wrap64 ((x8.length : Int) + 1)) - 1))).f0, (rd_T43 y145 (wrap64 ((wrap64 ((x8.length : Int) + 1)) - 1))).f1, (rd_T43 y145 (wrap64 ((wrap64 ((x8.length : Int) + 1)) - 1))).f2, ((rd_T43 y145 (wrap64 ((wrap64 ((x8.length : Int) + 1)) - 1))).f3) ++ (x1.extract (x9 : Int).toNat ((wrap64 (x9 + 1)) : Int).toNat)⟩ : S43)) (wrap64 (x9 + 1))) else (none)) else (none)) else (none)) else (none)) else (none))) else (none)) else (if 0 ≤ (wrap64 ((x8.length : Int) - 1)) then (if (wrap64 ((x8.length : Int) - 1)) < (x8.length : Int) then (if ((rd_T43 x8 (wrap64 ((x8.length : Int) - 1))).f0) = 2 then (if x9 ≤ (wrap64 (x9 + 1)) then (if (wrap64 (x9 + 1)) ≤ (x1.size : Int) then (if ((rd_T43 x8 (wrap64 ((x8.length : Int) - 1))).f3).size + (x1.extract (x9 : Int).toNat ((wrap64 (x9 + 1)) : Int).toNat).size ≤ 9223372036854775807 then (spec_MakeOps.l0 k x0 x1 x2 (x8.set ((wrap64 ((x8.length : Int) - 1)) : Int).toNat (⟨(rd_T43 x8 (wrap64 ((x8.length : Int) - 1))).f0, (rd_T43 x8 (wrap64 ((x8.length : Int) - 1))).f1, (rd_T43 x8 (wrap64 ((x8.length : Int) - 1))).f2, ((rd_T43 x8 (wrap64 ((x8.length : Int) - 1))).f3) ++ (x1.extract (x9 : Int).toNat ((wrap64 (x9 + 1)) : Int).toNat)⟩ : S43)) (wrap64 (x9 + 1))) else (none)) else (none)) else (none)) else (if x8.length < 3518437208883 then ((some (x8 ++ [(⟨2, 0, 0, (⟨#[]⟩ : ByteArray)⟩ : S43)] : List (S43))).bind fun y153 => (if 0 ≤ (wrap64 ((wrap64 ((x8.length : Int) + 1)) - 1)) then (if (wrap64 ((wrap64 ((x8.length : Int) + 1)) - 1)) < (y153.length : Int) then (if x9 ≤ (wrap64 (x9 + 1)) then (if (wrap64 (x9 + 1)) ≤ (x1.size : Int) then (if ((rd_T43 y153 (wrap64 ((wrap64 ((x8.length : Int) + 1)) - 1))).f3).size + (x1.extract (x9 : Int).toNat ((wrap64 (x9 + 1)) : Int).toNat).size ≤ 9223372036854775807 then (spec_MakeOps.l0 k x0 x1 x2 (y153.set ((wrap64 ((wrap64 ((x8.length : Int) + 1)) - 1)) : Int).toNat (⟨(rd_T43 y153 (wrap64 ((wrap64 ((x8.length : Int) + 1)) - 1))).f0, (rd_T43 y153 (wrap64 ((wrap64 ((x8.length : Int) + 1)) - 1))).f1, (rd_T43 y153 (wrap64 ((wrap64 ((x8.length : Int) + 1)) - 1))).f2, ((rd_T43 y153 (wrap64 ((wrap64 ((x8.length : Int) + 1)) - 1))).f3) ++ (x1.extract (x9 : Int).toNat ((wrap64 (x9 + 1)) : Int).toNat)⟩ : S43)) (wrap64 (x9 + 1))) else (none)) else (none)) else (none)) else (none)) else (none))) else (none))) else (none)) else (none))))) else (none)) else (none)) else (some (x8, true))
end
def spec_MakeOps.f (k : Nat) (a0 : ByteArray) (a1 : ByteArray) (a2 : Int) : Option ((List (S43)) × Bool) := (spec_l14Data.f a0).bind fun t137 => (if t137 = true then ((spec_l14Data.f a1).bind fun t138 => (if t138 = true then ((spec_l1In.f a2 1 300).bind fun t139 => (spec_MakeOps.j0 k a0 a1 a2 (!t139))) else (spec_MakeOps.j0 k a0 a1 a2 true))) else (spec_MakeOps.j0 k a0 a1 a2 true))
theorem spec_MakeOps.mono_l : ∀ k, (∀ y0 y1 y2 y3, LeO (spec_MakeOps.j0 k y0 y1 y2 y3) (spec_MakeOps.j0 (k + 1) y0 y1 y2 y3)) ∧ (∀ y0 y1 y2 y3 y4, LeO (spec_MakeOps.l0 k y0 y1 y2 y3 y4) (spec_MakeOps.l0 (k + 1) y0 y1 y2 y3 y4))
 | 0 => ⟨fun _ _ _ _ r h => by simp [spec_MakeOps.j0] at h, fun _ _ _ _ _ r h => by simp [spec_MakeOps.l0] at h⟩
 | k + 1 => by
  obtain ⟨ih0, ih1⟩ := spec_MakeOps.mono_l k
  refine ⟨?_, ?_⟩
  ·intro y0 y1 y2 y3
   unfold spec_MakeOps.j0
   repeat' first
   | (with_reducible exact ih0 _ _ _ _)
   | (with_reducible exact ih1 _ _ _ _ _)
   | (with_reducible exact spec_l14Longest.mono _ _ _)
   | (with_reducible exact LeO.refl _)
   | (with_reducible exact LeO.none _)
   | (with_reducible refine LeO.ite ?_ ?_)
   | (with_reducible refine LeO.bind ?_ (fun _ => ?_))
   | exact ih0 _ _ _ _
   | exact ih1 _ _ _ _ _
   | exact spec_l14Longest.mono _ _ _
   | exact LeO.none _
   | refine LeO.ite ?_ ?_
   | refine LeO.bind ?_ (fun _ => ?_)
  ·intro y0 y1 y2 y3 y4
   unfold spec_MakeOps.l0
   repeat' first
   | (with_reducible exact ih0 _ _ _ _)
   | (with_reducible exact ih1 _ _ _ _ _)
   | (with_reducible exact spec_l14Longest.mono _ _ _)
   | (with_reducible exact LeO.refl _)
   | (with_reducible exact LeO.none _)
   | (with_reducible refine LeO.ite ?_ ?_)
   | (with_reducible refine LeO.bind ?_ (fun _ => ?_))
   | exact ih0 _ _ _ _
   | exact ih1 _ _ _ _ _
   | exact spec_l14Longest.mono _ _ _
   | exact LeO.none _
   | refine LeO.ite ?_ ?_
   | refine LeO.bind ?_ (fun _ => ?_)
theorem spec_MakeOps.mono : ∀ a0 a1 a2 k, LeO (spec_MakeOps.f k a0 a1 a2) (spec_MakeOps.f (k + 1) a0 a1 a2) := by
 intro a0 a1 a2 k
 obtain ⟨ih0, ih1⟩ := spec_MakeOps.mono_l k
 unfold spec_MakeOps.f
 repeat' first
   | (with_reducible exact ih0 _ _ _ _)
   | (with_reducible exact ih1 _ _ _ _ _)
   | (with_reducible exact spec_l14Longest.mono _ _ _)
   | (with_reducible exact LeO.refl _)
   | (with_reducible exact LeO.none _)
   | (with_reducible refine LeO.ite ?_ ?_)
   | (with_reducible refine LeO.bind ?_ (fun _ => ?_))
   | exact ih0 _ _ _ _
   | exact ih1 _ _ _ _ _
   | exact spec_l14Longest.mono _ _ _
   | exact LeO.none _
   | refine LeO.ite ?_ ?_
   | refine LeO.bind ?_ (fun _ => ?_)
def spec_MakeOps.T14 : Bool × List (List Nat × List Nat) := (true, [([], []), ([], []), ([1], [1]), ([0, 2], [0, 2]), ([3], [3]), ([4], [4]), ([], []), ([], []), ([], []), ([8], [8]), ([6, 7, 9], [6, 7, 9]), ([5, 10], [5, 10]), ([0, 2, 0, 1, 2, 3, 4, 5, 6, 7, 8, 9, 10, 11], [0, 2]), ([12, 0, 1, 2, 3, 4, 5, 6, 7, 8, 9, 10, 11], [12]), ([13, 11, 0, 1, 2, 3, 4, 5, 6, 7, 8, 9, 10, 11], [11, 13])])
def spec_MakeOps.B14 : List Nat := [0, 0, 2, 7, 15, 31, 0, 0, 0, 256, 960, 2047, 4095, 8191, 16383]
theorem spec_MakeOps.tab14 : rtab .any (opsOf Try.f26 14) = spec_MakeOps.T14 := by kernel_rfl
theorem spec_MakeOps.bits14 : waitsOk spec_MakeOps.T14.2 spec_MakeOps.B14 = true := by kernel_rfl
set_option maxHeartbeats 8000000 in
set_option maxRecDepth 100000 in
theorem spec_MakeOps.calls (k : Nat) (a0 : ByteArray) (a1 : ByteArray) (a2 : Int) (r1 : List (S43)) (r2 : Bool) (w : World) (h : spec_MakeOps.f k a0 a1 a2 = some (r1, r2)) :
  Calls Try.prog 26 #[.string a0, .string a1, .int .i64 a2] w fun e w' => ∃ v0_ : Value, e = .returned (.tuple #[v0_, .bool r2]) ∧ Kd.R k43 43 w' w.heap.size (fun _ => True) v0_ r1 ∧ Below w.heap.size w w' := by
 have hu43 := Try.underlying43
 have HB := Aside0.mk (Below.refl w.heap.size w)
 have H : ((spec_l14Data.f a0).bind fun t137 => (if t137 = true then ((spec_l14Data.f a1).bind fun t138 => (if t138 = true then ((spec_l1In.f a2 1 300).bind fun t139 => (spec_MakeOps.j0 k a0 a1 a2 (!t139))) else (spec_MakeOps.j0 k a0 a1 a2 true))) else (spec_MakeOps.j0 k a0 a1 a2 true))) = some (r1, r2) := h
 clear h
 have HC4 := Aside0.mk H
 clear H
 go_enter Try.func26, Try.ntmps26
 go_upto_region 1 with (fail)
 go_cut [25] (fun v25 wc => ∃ (kq : Nat) (x25_3 : Bool), v25 = .bool x25_3 ∧ Aside0 (spec_MakeOps.j0 kq a0 a1 a2 x25_3 = some (r1, r2)) ∧ Aside0 (kq ≤ k) ∧ Aside0 (Below w.heap.size w wc))
 case first =>
  have H := HC4.out
  clear HC4
  replace H := Option.bind_eq_some_iff.mp H
  obtain ⟨t137, A50, H⟩ := H
  replace H : (if t137 = true then ((spec_l14Data.f a1).bind fun t138 => (if t138 = true then ((spec_l1In.f a2 1 300).bind fun t139 => (spec_MakeOps.j0 k a0 a1 a2 (!t139))) else (spec_MakeOps.j0 k a0 a1 a2 true))) else (spec_MakeOps.j0 k a0 a1 a2 true)) = some (r1, r2) := H
  have A5 := Aside0.mk A50
  clear A50
  by_cases c6 : t137 = true
  ·subst c6
   have H1 : ((spec_l14Data.f a1).bind fun t138 => (if t138 = true then ((spec_l1In.f a2 1 300).bind fun t139 => (spec_MakeOps.j0 k a0 a1 a2 (!t139))) else (spec_MakeOps.j0 k a0 a1 a2 true))) = some (r1, r2) := by rw [if_pos rfl] at H; exact H
   clear H
   have H := H1
   clear H1
   replace H := Option.bind_eq_some_iff.mp H
   obtain ⟨t138, A70, H⟩ := H
   replace H : (if t138 = true then ((spec_l1In.f a2 1 300).bind fun t139 => (spec_MakeOps.j0 k a0 a1 a2 (!t139))) else (spec_MakeOps.j0 k a0 a1 a2 true)) = some (r1, r2) := H
   have A7 := Aside0.mk A70
   clear A70
   by_cases c8 : t138 = true
   ·subst c8
    have H1 : ((spec_l1In.f a2 1 300).bind fun t139 => (spec_MakeOps.j0 k a0 a1 a2 (!t139))) = some (r1, r2) := by rw [if_pos rfl] at H; exact H
    clear H
    have H := H1
    clear H1
    replace H := Option.bind_eq_some_iff.mp H
    obtain ⟨t139, A90, H⟩ := H
    replace H : (spec_MakeOps.j0 k a0 a1 a2 (!t139)) = some (r1, r2) := H
    have A9 := Aside0.mk A90
    clear A90
    have H' := Aside0.mk H
    clear H
    go_wp2_with (first | ((with_reducible refine gate_callee (f := 65) rfl ?_); refine goesL_ (some 14) rfl rfl Try.func65 (by kernel_rfl) rfl #[.string a0] rfl (by (try simp only [List.map_toArray, List.map_cons, List.map_nil]); first | done | rfl | (simp only [List.length_drop, List.length_take]; rfl)) ?_; (with_reducible refine (spec_l14Data.calls a0 true _ A5.out).mono ?_); rintro e w' ⟨rfl, ⟨nd, rfl⟩⟩; refine ⟨_, rfl, ?_⟩) | (go_at_call 65; (with_reducible refine (spec_l14Data.calls a1 true _ A7.out).mono ?_); rintro e w' ⟨rfl, ⟨nd, rfl⟩⟩) | (go_at_call 54; (with_reducible refine (spec_l1In.calls a2 1 300 t139 _ A9.out).mono ?_); rintro e w' ⟨rfl, ⟨nd, rfl⟩⟩))
    go_meet
    case rel => exact ⟨_, (!t139), (by first | rfl | (simp; done) | (simp [*]; done)), H', ⟨by first | omega | exact Nat.le_refl _⟩, ⟨by repeat (first | (with_reducible first | exact HB.out | apply below_alloc | apply pw_below_drewN | apply below_drew1) | exact HB.out)⟩⟩
   ·replace c8 := Bool.eq_false_iff.mpr c8
    subst c8
    have H1 : (spec_MakeOps.j0 k a0 a1 a2 true) = some (r1, r2) := by rw [if_neg (show ¬ (false = true) by decide)] at H; exact H
    clear H
    have H := H1
    clear H1
    have H' := Aside0.mk H
    clear H
    go_wp2_with (first | ((with_reducible refine gate_callee (f := 65) rfl ?_); refine goesL_ (some 14) rfl rfl Try.func65 (by kernel_rfl) rfl #[.string a0] rfl (by (try simp only [List.map_toArray, List.map_cons, List.map_nil]); first | done | rfl | (simp only [List.length_drop, List.length_take]; rfl)) ?_; (with_reducible refine (spec_l14Data.calls a0 true _ A5.out).mono ?_); rintro e w' ⟨rfl, ⟨nd, rfl⟩⟩; refine ⟨_, rfl, ?_⟩) | (go_at_call 65; (with_reducible refine (spec_l14Data.calls a1 false _ A7.out).mono ?_); rintro e w' ⟨rfl, ⟨nd, rfl⟩⟩))
    go_meet
    case rel => exact ⟨_, (true), (by first | rfl | (simp; done) | (simp [*]; done)), H', ⟨by first | omega | exact Nat.le_refl _⟩, ⟨by repeat (first | (with_reducible first | exact HB.out | apply below_alloc | apply pw_below_drewN | apply below_drew1) | exact HB.out)⟩⟩
  ·replace c6 := Bool.eq_false_iff.mpr c6
   subst c6
   have H1 : (spec_MakeOps.j0 k a0 a1 a2 true) = some (r1, r2) := by rw [if_neg (show ¬ (false = true) by decide)] at H; exact H
   clear H
   have H := H1
   clear H1
   have H' := Aside0.mk H
   clear H
   go_wp2_with (first | ((with_reducible refine gate_callee (f := 65) rfl ?_); refine goesL_ (some 14) rfl rfl Try.func65 (by kernel_rfl) rfl #[.string a0] rfl (by (try simp only [List.map_toArray, List.map_cons, List.map_nil]); first | done | rfl | (simp only [List.length_drop, List.length_take]; rfl)) ?_; (with_reducible refine (spec_l14Data.calls a0 false _ A5.out).mono ?_); rintro e w' ⟨rfl, ⟨nd, rfl⟩⟩; refine ⟨_, rfl, ?_⟩))
   go_meet
   case rel => exact ⟨_, (true), (by first | rfl | (simp; done) | (simp [*]; done)), H', ⟨by first | omega | exact Nat.le_refl _⟩, ⟨by repeat (first | (with_reducible first | exact HB.out | apply below_alloc | apply pw_below_drewN | apply below_drew1) | exact HB.out)⟩⟩
 case rest =>
  clear HC4
  try clear c2
  try clear p2
  try clear c6
  try clear c8
  obtain ⟨kq, x25_3, rfl, HA, HJ3, HB⟩ := hcut
  cases kq with
  | zero => exact absurd HA.out (by simp [spec_MakeOps.j0])
  | succ kj3 =>
   have H := HA.out
   clear HA
   simp only [spec_MakeOps.j0] at H
   by_cases c10 : x25_3 = true
   ·subst c10
    have H1 : (some (([] : List (S43)), false)) = some (r1, r2) := by rw [if_pos rfl] at H; exact H
    clear H
    have H := H1
    clear H1
    simp only [Option.some.injEq, Prod.mk.injEq] at H
    obtain ⟨rfl, rfl⟩ := H
    go_wp2
    go_ret2
    exact ⟨_, by first | rfl | (simp [errW_none, errW_some] <;> rfl) | (simp [*, errW_none, errW_some] <;> rfl), by first | exact Kd.R_nil _ _ _ _ _ | exact Kd.N_nil _ _ _ _ _ | exact Kd.V_nil _ _ _ _ _ | exact Kd.Q_nil _ _ _ _ _ | exact Kd.S_nil _ _ _ _ _, by repeat (first | (with_reducible first | exact HB.out | apply below_alloc | apply pw_below_drewN | apply below_drew1) | exact HB.out)⟩
   ·replace c10 := Bool.eq_false_iff.mpr c10
    subst c10
    have H1 : (spec_MakeOps.l0 kj3 a0 a1 a2 ([] : List (S43)) 0) = some (r1, r2) := by rw [if_neg (show ¬ (false = true) by decide)] at H; exact H
    clear H
    have H := H1
    clear H1
    have H' := Aside0.mk H
    clear H
    go_wp2
    go_loopg [8, 9] kj3 (fun kq v8 v9 w' => ∃ (x8_2 : List (S43)) (x9_2 : Int), v9 = .int .i64 x9_2 ∧ Aside0 (spec_MakeOps.l0 kq a0 a1 a2 x8_2 x9_2 = some (r1, r2)) ∧ Aside0 (kq ≤ kj3) ∧ Aside0 (Kd.R k43 43 w' w.heap.size (fun _ => True) v8 x8_2) ∧ Aside0 (Below w.heap.size w w'))
    case atStart => exact ⟨(([] : List (S43))), (0), (by first | rfl | (simp; done) | (simp [*]; done)), H', ⟨Nat.le_refl _⟩, ⟨by first | exact Kd.R_nil _ _ _ _ _ | exact Kd.N_nil _ _ _ _ _ | exact Kd.V_nil _ _ _ _ _ | exact Kd.Q_nil _ _ _ _ _ | exact Kd.S_nil _ _ _ _ _⟩, ⟨by repeat (first | (with_reducible first | exact HB.out | apply below_alloc | apply pw_below_drewN | apply below_drew1) | exact HB.out)⟩⟩
    case round =>
     clear H'
     try clear c1
     try clear c2
     try clear p2
     try clear c6
     try clear c8
     try clear c10
     try clear p2
     obtain ⟨x8_2, x9_2, rfl, HA, HK2, HO_8, HB⟩ := hrel
     cases gk with
     | zero => exact absurd HA.out (by simp [spec_MakeOps.l0])
     | succ k2 =>
      have H := HA.out
      clear HA
      simp only [spec_MakeOps.l0] at H
      by_cases c11 : x9_2 < (a1.size : Int)
      ·rw [if_pos c11] at H
       have c11b0 : decide (x9_2 < (a1.size : Int)) = true := decide_eq_true c11
       clear c11
       by_cases c12 : 0 ≤ x9_2
       ·rw [if_pos c12] at H
        have c12b0 := eq_true c12
        have c12b1 : decide (0 ≤ x9_2) = true := decide_eq_true c12
        clear c12
        by_cases c13 : x9_2 ≤ (a1.size : Int)
        ·rw [if_pos c13] at H
         have c13b0 := eq_true c13
         have c13b1 : decide (x9_2 ≤ (a1.size : Int)) = true := decide_eq_true c13
         clear c13
         replace H := Option.bind_eq_some_iff.mp H
         obtain ⟨⟨t140, t141⟩, A140, H⟩ := H
         replace H : (if t141 ≥ a2 then (if x8_2.length < 3518437208883 then (spec_MakeOps.l0 k2 a0 a1 a2 (x8_2 ++ [(⟨1, t140, t141, (⟨#[]⟩ : ByteArray)⟩ : S43)]) (wrap64 (x9_2 + t141))) else (none)) else (if (x8_2.length : Int) = 0 then (if x8_2.length < 3518437208883 then ((some (x8_2 ++ [(⟨2, 0, 0, (⟨#[]⟩ : ByteArray)⟩ : S43)] : List (S43))).bind fun y145 => (if 0 ≤ (wrap64 ((wrap64 ((x8_2.length : Int) + 1)) - 1)) then (if (wrap64 ((wrap64 ((x8_2.length : Int) + 1)) - 1)) < (y145.length : Int) then (if x9_2 ≤ (wrap64 (x9_2 + 1)) then (if (wrap64 (x9_2 + 1)) ≤ (a1.size : Int) then (if ((rd_T43 y145 (wrap64 ((wrap64 ((x8_2.length : Int) + 1)) - 1))).f3).size + (a1.extract (x9_2 : Int).toNat ((wrap64 (x9_2 + 1)) : Int).toNat).size ≤ 9223372036854775807 then (spec_MakeOps.l0 k2 a0 a1 a2 (y145.set ((wrap64 ((wrap64 ((x8_2.length : Int) + 1)) - 1)) : Int).toNat (⟨(rd_T43 y145 (wrap64 ((wrap64 ((x8_2.length : Int) + 1)) - 1))).f0, (rd_T43 y145 (wrap64 ((wrap64 ((x8_2.length : Int) + 1)) - 1))).f1, (rd_T43 y145 (wrap64 ((wrap64 ((x8_2.length : Int) + 1)) - 1))).f2, ((rd_T43 y145 (wrap64 ((wrap64 ((x8_2.length : Int) + 1)) - 1))).f3) ++ (a1.extract (x9_2 : Int).toNat ((wrap64 (x9_2 + 1)) : Int).toNat)⟩ : S43)) (wrap64 (x9_2 + 1))) else (none)) else (none)) else (none)) else (none)) else (none))) else (none)) else (if 0 ≤ (wrap64 ((x8_2.length : Int) - 1)) then (if (wrap64 ((x8_2.length : Int) - 1)) < (x8_2.length : Int) then (if ((rd_T43 x8_2 (wrap64 ((x8_2.length : Int) - 1))).f0) = 2 then (if x9_2 ≤ (wrap64 (x9_2 + 1)) then (if (wrap64 (x9_2 + 1)) ≤ (a1.size : Int) then (if ((rd_T43 x8_2 (wrap64 ((x8_2.length : Int) - 1))).f3).size + (a1.extract (x9_2 : Int).toNat ((wrap64 (x9_2 + 1)) : Int).toNat).size ≤ 9223372036854775807 then (spec_MakeOps.l0 k2 a0 a1 a2 (x8_2.set ((wrap64 ((x8_2.length : Int) - 1)) : Int).toNat (⟨(rd_T43 x8_2 (wrap64 ((x8_2.length : Int) - 1))).f0, (rd_T43 x8_2 (wrap64 ((x8_2.length : Int) - 1))).f1, (rd_T43 x8_2 (wrap64 ((x8_2.length : Int) - 1))).f2, ((rd_T43 x8_2 (wrap64 ((x8_2.length : Int) - 1))).f3) ++ (a1.extract (x9_2 : Int).toNat ((wrap64 (x9_2 + 1)) : Int).toNat)⟩ : S43)) (wrap64 (x9_2 + 1))) else (none)) else (none)) else (none)) else (if x8_2.length < 3518437208883 then ((some (x8_2 ++ [(⟨2, 0, 0, (⟨#[]⟩ : ByteArray)⟩ : S43)] : List (S43))).bind fun y153 => (if 0 ≤ (wrap64 ((wrap64 ((x8_2.length : Int) + 1)) - 1)) then (if (wrap64 ((wrap64 ((x8_2.length : Int) + 1)) - 1)) < (y153.length : Int) then (if x9_2 ≤ (wrap64 (x9_2 + 1)) then (if (wrap64 (x9_2 + 1)) ≤ (a1.size : Int) then (if ((rd_T43 y153 (wrap64 ((wrap64 ((x8_2.length : Int) + 1)) - 1))).f3).size + (a1.extract (x9_2 : Int).toNat ((wrap64 (x9_2 + 1)) : Int).toNat).size ≤ 9223372036854775807 then (spec_MakeOps.l0 k2 a0 a1 a2 (y153.set ((wrap64 ((wrap64 ((x8_2.length : Int) + 1)) - 1)) : Int).toNat (⟨(rd_T43 y153 (wrap64 ((wrap64 ((x8_2.length : Int) + 1)) - 1))).f0, (rd_T43 y153 (wrap64 ((wrap64 ((x8_2.length : Int) + 1)) - 1))).f1, (rd_T43 y153 (wrap64 ((wrap64 ((x8_2.length : Int) + 1)) - 1))).f2, ((rd_T43 y153 (wrap64 ((wrap64 ((x8_2.length : Int) + 1)) - 1))).f3) ++ (a1.extract (x9_2 : Int).toNat ((wrap64 (x9_2 + 1)) : Int).toNat)⟩ : S43)) (wrap64 (x9_2 + 1))) else (none)) else (none)) else (none)) else (none)) else (none))) else (none))) else (none)) else (none)))) = some (r1, r2) := H
         have A14 := Aside0.mk A140
         clear A140
         by_cases c15 : t141 ≥ a2
         ·rw [if_pos c15] at H
          have c15b0 : decide (a2 ≤ t141) = true := decide_eq_true c15
          clear c15
          by_cases c16 : x8_2.length < 3518437208883
          ·rw [if_pos c16] at H
           have LMc16 := Aside0.mk c16
           clear c16
           obtain ⟨y142, hy142⟩ : ∃ y_ : List (S43), y_ = (x8_2 ++ [(⟨1, t140, t141, (⟨#[]⟩ : ByteArray)⟩ : S43)]) := ⟨_, rfl⟩
           replace H : (spec_MakeOps.l0 k2 a0 a1 a2 y142 (wrap64 (x9_2 + t141))) = some (r1, r2) := by first | (rw [hy142]; with_reducible exact H) | (have H2_ := (Option.bind_some _ _).symm.trans H; rw [hy142]; with_reducible exact H2_) | (have H2_ := (Option.bind_some _ _).symm.trans H; with_reducible exact H2_) | with_reducible exact H | (rw [hy142]; exact H) | exact H
           have Ny142 := Aside0.mk hy142
           clear hy142
           have H' := Aside0.mk H
           clear H
           go_wp2_with (first | ((with_reducible refine gate_callee (f := 66) rfl ?_); refine goesL_ (some 35) rfl rfl Try.func66 (by kernel_rfl) rfl #[.string a0, .string (a1.extract (x9_2 : Int).toNat a1.size)] rfl (by (try simp only [List.map_toArray, List.map_cons, List.map_nil]); first | done | rfl | (simp only [List.length_drop, List.length_take]; rfl)) ?_; (with_reducible refine (spec_l14Longest.calls k2 a0 (a1.extract (x9_2 : Int).toNat a1.size) t140 t141 _ A14.out).mono ?_); rintro e w17 ⟨rfl, hb⟩; refine ⟨_, rfl, ?_⟩; have n0_ := Aside0.mk (Kd.R_below (by (with_reducible repeat (first | apply Kd.R_alloc | apply Kd.R_drewN | apply Kd.R_drew)); exact HO_8.out) hb); have n1_ := Aside0.mk (below_step (by repeat (first | (with_reducible first | exact HB.out | apply below_alloc | apply pw_below_drewN | apply below_drew1) | exact HB.out)) hb); clear HO_8; clear HB; have HO_8 := n0_; have HB := n1_; clear n0_ n1_; (try clear hb); (try clear hb2); (try clear hk); (try clear hi)) | ((with_reducible refine gate_builtin (b := .append) (xs := #[.tmp 41, .tmp 45]) rfl ?_); at_builtin; refine Kd.R_append k43 (w0 := w) w.heap.size rfl (.tmp 41) (.tmp 45) 26 43 (.agg #[(.int .i64 0), (.int .i64 0), (.int .i64 0), (.string ⟨#[]⟩)]) 40 rfl Try.underlying26 info43 rfl (by decide) (by omega) u8 x8_2 (⟨1, t140, t141, (⟨#[]⟩ : ByteArray)⟩ : S43) [.int .i64 1, .int .i64 t140, .int .i64 t141, .string (⟨#[]⟩ : ByteArray)] (fun _ => True) (fun _ => False) rfl rfl ?aP (fun _ hk => hk.elim) ?aF ?aO ?aB ?aS ?aL ?_; (case aP => exact k43_mkM _ _ _ (⟨1, t140, t141, (⟨#[]⟩ : ByteArray)⟩ : S43)); (case aB => exact (by repeat (first | (with_reducible first | exact HB.out | apply below_alloc | apply pw_below_drewN | apply below_drew1) | exact HB.out))); (case aF => exact (fun _ _ => trivial)); (case aO => exact (by (with_reducible repeat (first | apply Kd.R_alloc | apply Kd.R_drewN | apply Kd.R_drew)); exact HO_8.out)); (case aS => exact (below_size (by repeat (first | (with_reducible first | exact HB.out | apply below_alloc | apply pw_below_drewN | apply below_drew1) | exact HB.out)))); (case aL => have := LMc16.out; omega); intro v143 w18 ho hb hg hat; rw [← Ny142.out] at ho; have n0_ := Aside0.mk (hb); have n1_ := Aside0.mk (ho); clear HB; clear HO_8; have HB := n0_; have HO144 := n1_; clear n0_ n1_; clear ho hb hg hat))
           go_roundg k2
           case measure => have := HJ3.out; have := HK2.out; omega
           case rel => exact ⟨(y142), (wrap64 (x9_2 + t141)), (by first | rfl | (simp; done) | (simp [*]; done)), H', ⟨by have := HJ3.out; have := HK2.out; omega⟩, ⟨by (with_reducible repeat (first | apply Kd.R_alloc | apply Kd.R_drewN | apply Kd.R_drew)); exact HO144.out⟩, ⟨by repeat (first | (with_reducible first | exact HB.out | apply below_alloc | apply pw_below_drewN | apply below_drew1) | exact HB.out)⟩⟩
          ·rw [if_neg c16] at H
           exact absurd H (by simp)
         ·rw [if_neg c15] at H
          have c15b0 : decide (a2 ≤ t141) = false := decide_eq_false c15
          clear c15
          by_cases c19 : (x8_2.length : Int) = 0
          ·rw [if_pos c19] at H
           have c19b0 : ((x8_2.length : Int) == 0) = true := beq_iff_eq.mpr c19
           have c19b1 : ((x8_2.length : Int) != 0) = false := bne_eq_false_iff_eq.mpr c19
           clear c19
           by_cases c20 : x8_2.length < 3518437208883
           ·rw [if_pos c20] at H
            have LMc20 := Aside0.mk c20
            clear c20
            obtain ⟨y145, hy145⟩ : ∃ y_ : List (S43), y_ = (x8_2 ++ [(⟨2, 0, 0, (⟨#[]⟩ : ByteArray)⟩ : S43)]) := ⟨_, rfl⟩
            replace H : (if 0 ≤ (wrap64 ((wrap64 ((x8_2.length : Int) + 1)) - 1)) then (if (wrap64 ((wrap64 ((x8_2.length : Int) + 1)) - 1)) < (y145.length : Int) then (if x9_2 ≤ (wrap64 (x9_2 + 1)) then (if (wrap64 (x9_2 + 1)) ≤ (a1.size : Int) then (if ((rd_T43 y145 (wrap64 ((wrap64 ((x8_2.length : Int) + 1)) - 1))).f3).size + (a1.extract (x9_2 : Int).toNat ((wrap64 (x9_2 + 1)) : Int).toNat).size ≤ 9223372036854775807 then (spec_MakeOps.l0 k2 a0 a1 a2 (y145.set ((wrap64 ((wrap64 ((x8_2.length : Int) + 1)) - 1)) : Int).toNat (⟨(rd_T43 y145 (wrap64 ((wrap64 ((x8_2.length : Int) + 1)) - 1))).f0, (rd_T43 y145 (wrap64 ((wrap64 ((x8_2.length : Int) + 1)) - 1))).f1, (rd_T43 y145 (wrap64 ((wrap64 ((x8_2.length : Int) + 1)) - 1))).f2, ((rd_T43 y145 (wrap64 ((wrap64 ((x8_2.length : Int) + 1)) - 1))).f3) ++ (a1.extract (x9_2 : Int).toNat ((wrap64 (x9_2 + 1)) : Int).toNat)⟩ : S43)) (wrap64 (x9_2 + 1))) else (none)) else (none)) else (none)) else (none)) else (none)) = some (r1, r2) := by first | (rw [hy145]; with_reducible exact H) | (have H2_ := (Option.bind_some _ _).symm.trans H; rw [hy145]; with_reducible exact H2_) | (have H2_ := (Option.bind_some _ _).symm.trans H; with_reducible exact H2_) | with_reducible exact H | (rw [hy145]; exact H) | exact H
            have Ny145 := Aside0.mk hy145
            clear hy145
            obtain ⟨ji21, hji21⟩ : ∃ j_ : Int, (wrap64 ((wrap64 ((x8_2.length : Int) + 1)) - 1)) = j_ := ⟨_, rfl⟩
            replace H : (if 0 ≤ (ji21) then (if (ji21) < (y145.length : Int) then (if x9_2 ≤ (wrap64 (x9_2 + 1)) then (if (wrap64 (x9_2 + 1)) ≤ (a1.size : Int) then (if ((rd_T43 y145 (ji21)).f3).size + (a1.extract (x9_2 : Int).toNat ((wrap64 (x9_2 + 1)) : Int).toNat).size ≤ 9223372036854775807 then (spec_MakeOps.l0 k2 a0 a1 a2 (y145.set ((ji21) : Int).toNat (⟨(rd_T43 y145 (ji21)).f0, (rd_T43 y145 (ji21)).f1, (rd_T43 y145 (ji21)).f2, ((rd_T43 y145 (ji21)).f3) ++ (a1.extract (x9_2 : Int).toNat ((wrap64 (x9_2 + 1)) : Int).toNat)⟩ : S43)) (wrap64 (x9_2 + 1))) else (none)) else (none)) else (none)) else (none)) else (none)) = some (r1, r2) := by first | (rw [hji21] at H; exact H) | (simp only [hji21] at H ⊢; exact H)
            (try rw [hji21] at A14)
            have hji21w : (IntKind.i64.wrap ((wrap64 ((x8_2.length : Int) + 1)) - 1)) = ji21 := (i64_w _).trans hji21
            by_cases c22 : 0 ≤ (ji21)
            ·rw [if_pos c22] at H
             have c22b0 : decide (0 ≤ (ji21)) = true := decide_eq_true c22
             clear c22
             by_cases c23 : (ji21) < (y145.length : Int)
             ·rw [if_pos c23] at H
              have c23b0 : decide ((ji21) < (y145.length : Int)) = true := decide_eq_true c23
              clear c23
              have c24b0 := eq_true (of_decide_eq_true (by first | (with_reducible assumption) | assumption) : 0 ≤ x9_2)
              by_cases c25 : x9_2 ≤ (wrap64 (x9_2 + 1))
              ·rw [if_pos c25] at H
               have c25b0 := eq_true c25
               have c25b1 : decide (x9_2 ≤ (wrap64 (x9_2 + 1))) = true := decide_eq_true c25
               by_cases c26 : (wrap64 (x9_2 + 1)) ≤ (a1.size : Int)
               ·rw [if_pos c26] at H
                have c26b0 := eq_true c26
                have c26b1 : decide ((wrap64 (x9_2 + 1)) ≤ (a1.size : Int)) = true := decide_eq_true c26
                by_cases c27 : ((rd_T43 y145 (ji21)).f3).size + (a1.extract (x9_2 : Int).toNat ((wrap64 (x9_2 + 1)) : Int).toNat).size ≤ 9223372036854775807
                ·rw [if_pos c27] at H
                 have c27b0 := eq_true c27
                 have c27b1 : decide (((rd_T43 y145 (ji21)).f3).size + (a1.extract (x9_2 : Int).toNat ((wrap64 (x9_2 + 1)) : Int).toNat).size ≤ 9223372036854775807) = true := decide_eq_true c27
                 try have c27b2 : (9223372036854775807 < ((rd_T43 y145 (ji21)).f3).size + (a1.extract (x9_2 : Int).toNat ((wrap64 (x9_2 + 1)) : Int).toNat).size) = False := eq_false (Nat.not_lt.2 c27)
                 have c27b3 : ∀ m_ n_ : Nat, m_ = ((rd_T43 y145 (ji21)).f3).size → n_ = (a1.extract (x9_2 : Int).toNat ((wrap64 (x9_2 + 1)) : Int).toNat).size → (9223372036854775807 < m_ + n_) = False := fun m_ n_ h1_ h2_ => by rw [h1_, h2_]; exact eq_false (Nat.not_lt.2 c27)
                 obtain ⟨y149, hy149⟩ : ∃ y_ : List (S43), y_ = (y145.set ((ji21) : Int).toNat (⟨(rd_T43 y145 (ji21)).f0, (rd_T43 y145 (ji21)).f1, (rd_T43 y145 (ji21)).f2, ((rd_T43 y145 (ji21)).f3) ++ (a1.extract (x9_2 : Int).toNat ((wrap64 (x9_2 + 1)) : Int).toNat)⟩ : S43)) := ⟨_, rfl⟩
                 replace H : (spec_MakeOps.l0 k2 a0 a1 a2 y149 (wrap64 (x9_2 + 1))) = some (r1, r2) := by first | (rw [hy149]; with_reducible exact H) | (have H2_ := (Option.bind_some _ _).symm.trans H; rw [hy149]; with_reducible exact H2_) | (have H2_ := (Option.bind_some _ _).symm.trans H; with_reducible exact H2_) | with_reducible exact H | (rw [hy149]; exact H) | exact H
                 have Ny149 := Aside0.mk hy149
                 clear hy149
                 have H' := Aside0.mk H
                 clear H
                 try go_wp2_with (first | ((with_reducible refine gate_callee (f := 66) rfl ?_); refine goesL_ (some 35) rfl rfl Try.func66 (by kernel_rfl) rfl #[.string a0, .string (a1.extract (x9_2 : Int).toNat a1.size)] rfl (by (try simp only [List.map_toArray, List.map_cons, List.map_nil]); first | done | rfl | (simp only [List.length_drop, List.length_take]; rfl)) ?_; (with_reducible refine (spec_l14Longest.calls k2 a0 (a1.extract (x9_2 : Int).toNat a1.size) t140 t141 _ A14.out).mono ?_); rintro e w29 ⟨rfl, hb⟩; refine ⟨_, rfl, ?_⟩; have n0_ := Aside0.mk (Kd.R_below (by (with_reducible repeat (first | apply Kd.R_alloc | apply Kd.R_drewN | apply Kd.R_drew)); exact HO_8.out) hb); have n1_ := Aside0.mk (below_step (by repeat (first | (with_reducible first | exact HB.out | apply below_alloc | apply pw_below_drewN | apply below_drew1) | exact HB.out)) hb); clear HO_8; clear HB; have HO_8 := n0_; have HB := n1_; clear n0_ n1_; (try clear hb); (try clear hb2); (try clear hk); (try clear hi); obtain ⟨Ao30, co30, eo30⟩ := Kd.R_slice HO_8.out; subst eo30) | ((with_reducible refine gate_builtin (b := .append) (xs := #[.tmp 63, .tmp 65]) rfl ?_); at_builtin; refine Kd.R_append k43 (w0 := w) w.heap.size rfl (.tmp 63) (.tmp 65) 26 43 (.agg #[(.int .i64 0), (.int .i64 0), (.int .i64 0), (.string ⟨#[]⟩)]) 40 rfl Try.underlying26 info43 rfl (by decide) (by omega) (.slice Ao30 x8_2.length co30) x8_2 (⟨2, 0, 0, (⟨#[]⟩ : ByteArray)⟩ : S43) [.int .i64 2, .int .i64 0, .int .i64 0, .string (⟨#[]⟩ : ByteArray)] (fun _ => True) (fun _ => False) rfl rfl ?aP (fun _ hk => hk.elim) ?aF ?aO ?aB ?aS ?aL ?_; (case aP => exact k43_mkM _ _ _ (⟨2, 0, 0, (⟨#[]⟩ : ByteArray)⟩ : S43)); (case aB => exact (by repeat (first | (with_reducible first | exact HB.out | apply below_alloc | apply pw_below_drewN | apply below_drew1) | exact HB.out))); (case aF => exact (fun _ _ => trivial)); (case aO => exact (by (with_reducible repeat (first | apply Kd.R_alloc | apply Kd.R_drewN | apply Kd.R_drew)); exact HO_8.out)); (case aS => exact (below_size (by repeat (first | (with_reducible first | exact HB.out | apply below_alloc | apply pw_below_drewN | apply below_drew1) | exact HB.out)))); (case aL => have := LMc20.out; omega); intro v146 w31 ho hb hg hat; rw [← Ny145.out] at ho; have n0_ := Aside0.mk (hb); have n1_ := Aside0.mk (ho); clear HB; clear HO_8; have HB := n0_; have HO147 := n1_; clear n0_ n1_; clear ho hb hg hat))
                 have n0_ := Aside0.mk (Kd.R_drew HO147.out)
                 have n1_ := Aside0.mk (below_drew1 HB.out)
                 clear HO147
                 clear HB
                 have HO147 := n0_
                 have HB := n1_
                 clear n0_ n1_
                 obtain ⟨Ao33, co33, eo33⟩ := Kd.R_slice HO147.out
                 (first | subst eo33 | (injection eo33 with f1_ f2_ f3_; have f4_ := f1_.symm; have f5_ := f3_.symm; clear f1_ f2_ f3_; subst f4_; subst f5_))
                 have p148 : 0 ≤ ((ji21) : Int) := of_decide_eq_true (by first | (with_reducible assumption) | assumption)
                 have q148 : (ji21) < (y145.length : Int) := of_decide_eq_true (by first | (with_reducible assumption) | assumption)
                 obtain ⟨ad148, e148, hx148_0, hx148_1, hx148_2, hx148_3⟩ := at_T43 (Kd.R_reads' HO147.out).2.2 (ji21) p148 q148
                 cases e148
                 replace p148 := eq_true p148
                 replace q148 := eq_true q148
                 have p28 : 0 ≤ ((ji21) : Int) := of_decide_eq_true (by first | (with_reducible assumption) | assumption)
                 have q28 : ((ji21) : Int) < ((y145.length : Int) : Int) := of_decide_eq_true (by first | (with_reducible assumption) | assumption)
                 obtain ⟨go28, co28, eo28, gb28, gl28, cl28, HG28⟩ := Kd.R_form HO147.out (by omega)
                 (first | cases eo28 | (injection eo28 with ea_ en_ ec_; (first | subst ea_ | (injection ea_ with ea_; subst ea_)); subst ec_; clear en_))
                 have GB28 := Aside0.mk gb28
                 have GG28 := Aside0.mk HG28
                 clear gb28 gl28 HG28
                 (first | simp only [add_plain] at hx148_0 | skip)
                 (first | simp only [add_plain] at hx148_1 | skip)
                 (first | simp only [add_plain] at hx148_2 | skip)
                 (first | simp only [add_plain] at hx148_3 | skip)
                 obtain ⟨ce28, hcl28, hM28, hcc28, hfr28⟩ := Kd.R_elem HO147.out z43 ((ji21) : Int) p28 q28
                 obtain rfl := k43_openM hM28
                 have hx28_0 : World.cell? _ ⟨go28, ((ji21) : Int).toNat * 4, none⟩ = some (.int .i64 ((rd_T43 y145 (ji21)).f0)) := hcc28 0 _ rfl
                 have hx28_1 : World.cell? _ ⟨go28, ((ji21) : Int).toNat * 4 + 1, none⟩ = some (.int .i64 ((rd_T43 y145 (ji21)).f1)) := hcc28 1 _ rfl
                 have hx28_2 : World.cell? _ ⟨go28, ((ji21) : Int).toNat * 4 + 2, none⟩ = some (.int .i64 ((rd_T43 y145 (ji21)).f2)) := hcc28 2 _ rfl
                 have hx28_3 : World.cell? _ ⟨go28, ((ji21) : Int).toNat * 4 + 3, none⟩ = some (.string ((rd_T43 y145 (ji21)).f3)) := hcc28 3 _ rfl
                 have hf28_0 : World.frozen? _ ⟨go28, ((ji21) : Int).toNat * 4, none⟩ = false := hfr28 0
                 have hf28_1 : World.frozen? _ ⟨go28, ((ji21) : Int).toNat * 4 + 1, none⟩ = false := hfr28 1
                 have hf28_2 : World.frozen? _ ⟨go28, ((ji21) : Int).toNat * 4 + 2, none⟩ = false := hfr28 2
                 have hf28_3 : World.frozen? _ ⟨go28, ((ji21) : Int).toNat * 4 + 3, none⟩ = false := hfr28 3
                 clear hcl28 hcc28 hfr28 hM28
                 replace p28 := eq_true p28
                 replace q28 := eq_true q28
                 obtain ⟨ce34, hcl34, hM34, hcc34, hfr34⟩ := Kd.R_elem HO147.out z43 ((ji21) : Int) (of_decide_eq_true (by first | (with_reducible assumption) | assumption)) (by have h_ : ((ji21) : Int) < ((y145.length : Int) : Int) := of_decide_eq_true (by first | (with_reducible assumption) | assumption); first | exact h_ | (have e_ := (Kd.R_reads' HO147.out).1; omega) | simpa using h_)
                 obtain rfl := k43_openM hM34
                 have HP34 := (Kd.R_seg HO147.out ((ji21) : Int) (of_decide_eq_true (by first | (with_reducible assumption) | assumption)) (by have h_ : ((ji21) : Int) < ((y145.length : Int) : Int) := of_decide_eq_true (by first | (with_reducible assumption) | assumption); first | exact h_ | (have e_ := (Kd.R_reads' HO147.out).1; omega) | simpa using h_) (seg := [.string (((rd_T43 y145 (ji21)).f3) ++ (a1.extract (x9_2 : Int).toNat ((wrap64 (x9_2 + 1)) : Int).toNat))]) (j := 3) hcl34 hcc34 (show 4 ≤ 4 from by decide) (x' := (⟨(rd_T43 y145 (ji21)).f0, (rd_T43 y145 (ji21)).f1, (rd_T43 y145 (ji21)).f2, ((rd_T43 y145 (ji21)).f3) ++ (a1.extract (x9_2 : Int).toNat ((wrap64 (x9_2 + 1)) : Int).toNat)⟩ : S43)) (k43_mkM _ _ _ (⟨(rd_T43 y145 (ji21)).f0, (rd_T43 y145 (ji21)).f1, (rd_T43 y145 (ji21)).f2, ((rd_T43 y145 (ji21)).f3) ++ (a1.extract (x9_2 : Int).toNat ((wrap64 (x9_2 + 1)) : Int).toNat)⟩ : S43) ) (fun _ hk => hk)).1
                 rw [← Ny149.out] at HP34
                 have HQ34 := Aside0.mk HP34
                 clear hcl34 hcc34 hfr34 hM34 HP34
                 refine start_ (n := 15) (S := fun w' => w'.cell? ⟨go28, (((ji21)).toNat * 4), none⟩ = some (.int .i64 ((rd_T43 y145 (ji21)).f0)) ∧ w'.cell? ⟨go28, (((ji21)).toNat * 4) + 1, none⟩ = some (.int .i64 ((rd_T43 y145 (ji21)).f1)) ∧ w'.cell? ⟨go28, (((ji21)).toNat * 4) + 2, none⟩ = some (.int .i64 ((rd_T43 y145 (ji21)).f2)) ∧ w'.cell? ⟨go28, (((ji21)).toNat * 4) + 3, none⟩ = some (.string ((rd_T43 y145 (ji21)).f3))) (ds := [14]) #[false, false, false, false, false, false, false, false, false, false, false, false, false, false, false] (by kernel_rfl) rfl rfl ⟨hx148_0, hx148_1, hx148_2, hx148_3⟩ (fun hHeld => ?_); refine with_tabW spec_MakeOps.tab14 spec_MakeOps.bits14 (fun HT_ HW_ => ?_)
                 generalize w31.drew = w32 at HO147 HB GG28 HQ34 hf28_0 hf28_1 hf28_2 hf28_3 hx148_0 hx148_1 hx148_2 hx148_3 hx28_0 hx28_1 hx28_2 hx28_3 hHeld ⊢
                 refine pure_ (i := 0) (N := some 69) (v := ?_) (a' := ?_) #[true, false, false, false, false, false, false, false, false, false, false, false, false, false, false] rfl rfl (any_of HT_.out (by kernel_rfl)) (fun _ _ _ h => h) (Or.inl ⟨by rfl, ?_⟩) ?_ ?_
                 rotate_left
                 ·intro w'
                  go_simp
                  with_reducible rfl
                 rotate_left
                 ·simp only [Act.put, List.setIfInBounds_toArray, List.set_cons_zero, List.set_cons_succ, i64_w, i32_w]
                  rfl
                 refine pure_ (i := 1) (N := some 70) (v := ?_) (a' := ?_) #[true, true, false, false, false, false, false, false, false, false, false, false, false, false, false] rfl rfl (any_of HT_.out (by kernel_rfl)) (fun _ _ _ h => h) (Or.inl ⟨by rfl, ?_⟩) ?_ ?_
                 rotate_left
                 ·intro w'
                  go_simp
                  with_reducible rfl
                 rotate_left
                 ·simp only [Act.put, List.setIfInBounds_toArray, List.set_cons_zero, List.set_cons_succ, i64_w, i32_w]
                  rfl
                 refine pure_ (i := 2) (N := some 71) (v := ?_) (a' := ?_) #[true, true, true, false, false, false, false, false, false, false, false, false, false, false, false] rfl rfl (any_of HT_.out (by kernel_rfl)) (fun _ _ _ h => h) (Or.inl ⟨by rfl, ?_⟩) ?_ ?_
                 rotate_left
                 ·intro w'
                  go_simp
                  with_reducible rfl
                 rotate_left
                 ·simp only [Act.put, List.setIfInBounds_toArray, List.set_cons_zero, List.set_cons_succ, i64_w, i32_w]
                  rfl
                 refine pure_ (i := 3) (N := some 72) (v := ?_) (a' := ?_) #[true, true, true, true, false, false, false, false, false, false, false, false, false, false, false] rfl rfl (any_of HT_.out (by kernel_rfl)) (fun _ _ _ h => h) (Or.inl ⟨by rfl, ?_⟩) ?_ ?_
                 rotate_left
                 ·intro w'
                  go_simp
                  with_reducible rfl
                 rotate_left
                 ·simp only [Act.put, List.setIfInBounds_toArray, List.set_cons_zero, List.set_cons_succ, i64_w, i32_w]
                  rfl
                 refine pure_ (i := 4) (N := some 73) (v := ?_) (a' := ?_) #[true, true, true, true, true, false, false, false, false, false, false, false, false, false, false] rfl rfl (any_of HT_.out (by kernel_rfl)) (fun _ _ _ h => h) (Or.inl ⟨by rfl, ?_⟩) ?_ ?_
                 rotate_left
                 ·intro w'
                  go_simp
                  with_reducible rfl
                 rotate_left
                 ·simp only [Act.put, List.setIfInBounds_toArray, List.set_cons_zero, List.set_cons_succ, i64_w, i32_w]
                  rfl
                 refine pure_ (i := 6) (N := some 75) (v := ?_) (a' := ?_) #[true, true, true, true, true, false, true, false, false, false, false, false, false, false, false] rfl rfl (any_of HT_.out (by kernel_rfl)) (fun _ _ _ h => h) (Or.inl ⟨by rfl, ?_⟩) ?_ ?_
                 rotate_left
                 ·intro w'
                  go_simp
                  with_reducible rfl
                 rotate_left
                 ·simp only [Act.put, List.setIfInBounds_toArray, List.set_cons_zero, List.set_cons_succ, i64_w, i32_w]
                  rfl
                 refine pure_ (i := 7) (N := some 76) (v := ?_) (a' := ?_) #[true, true, true, true, true, false, true, true, false, false, false, false, false, false, false] rfl rfl (any_of HT_.out (by kernel_rfl)) (fun _ _ _ h => h) (Or.inl ⟨by rfl, ?_⟩) ?_ ?_
                 rotate_left
                 ·intro w'
                  go_simp
                  with_reducible rfl
                 rotate_left
                 ·simp only [Act.put, List.setIfInBounds_toArray, List.set_cons_zero, List.set_cons_succ, i64_w, i32_w]
                  rfl
                 refine pure_ (i := 8) (N := some 77) (v := ?_) (a' := ?_) #[true, true, true, true, true, false, true, true, true, false, false, false, false, false, false] rfl rfl (any_of HT_.out (by kernel_rfl)) (fun _ _ _ h => h) (Or.inl ⟨by rfl, ?_⟩) ?_ ?_
                 rotate_left
                 ·intro w'
                  go_simp
                  with_reducible rfl
                 rotate_left
                 ·simp only [Act.put, List.setIfInBounds_toArray, List.set_cons_zero, List.set_cons_succ, i64_w, i32_w]
                  rfl
                 refine pure_ (i := 9) (N := some 78) (v := ?_) (a' := ?_) #[true, true, true, true, true, false, true, true, true, true, false, false, false, false, false] rfl rfl (any_of HT_.out (by kernel_rfl)) (fun _ _ _ h => h) (Or.inl ⟨by rfl, ?_⟩) ?_ ?_
                 rotate_left
                 ·intro w'
                  go_simp
                  with_reducible rfl
                 rotate_left
                 ·simp only [Act.put, List.setIfInBounds_toArray, List.set_cons_zero, List.set_cons_succ, i64_w, i32_w]
                  rfl
                 refine pure_ (i := 10) (N := some 79) (v := ?_) (a' := ?_) #[true, true, true, true, true, false, true, true, true, true, true, false, false, false, false] rfl rfl (any_of HT_.out (by kernel_rfl)) (fun _ _ _ h => h) (Or.inl ⟨by rfl, ?_⟩) ?_ ?_
                 rotate_left
                 ·intro w'
                  go_simp
                  with_reducible rfl
                 rotate_left
                 ·simp only [Act.put, List.setIfInBounds_toArray, List.set_cons_zero, List.set_cons_succ, i64_w, i32_w]
                  rfl
                 refine take_ (i := 5) (N := some 74) (v := ?_) (a' := ?_) #[true, true, true, true, true, true, true, true, true, true, true, false, false, false, false] rfl rfl (take_ofW HT_.out HW_.out (by kernel_rfl)) (fun _ _ _ h => h) (Or.inl ⟨by rfl, ?_⟩) hHeld ?_ ?_
                 rotate_left
                 ·rintro w' ⟨s0, s1, s2, s3⟩
                  go_simp
                  with_reducible rfl
                 rotate_left
                 ·simp only [Act.put, List.setIfInBounds_toArray, List.set_cons_zero, List.set_cons_succ, i64_w, i32_w]
                  rfl
                 refine pure_ (i := 11) (N := some 80) (v := ?_) (a' := ?_) #[true, true, true, true, true, true, true, true, true, true, true, true, false, false, false] rfl rfl (any_of HT_.out (by kernel_rfl)) (fun _ _ _ h => h) (Or.inl ⟨by rfl, ?_⟩) ?_ ?_
                 rotate_left
                 ·intro w'
                  go_simp
                  with_reducible rfl
                 rotate_left
                 ·simp only [Act.put, List.setIfInBounds_toArray, List.set_cons_zero, List.set_cons_succ, i64_w, i32_w]
                  rfl
                 refine pure_ (i := 12) (N := some 81) (v := ?_) (a' := ?_) #[true, true, true, true, true, true, true, true, true, true, true, true, true, false, false] rfl rfl (any_of HT_.out (by kernel_rfl)) (fun _ _ _ h => h) (Or.inl ⟨by rfl, ?_⟩) ?_ ?_
                 rotate_left
                 ·intro w'
                  go_simp
                  with_reducible rfl
                 rotate_left
                 ·simp only [Act.put, List.setIfInBounds_toArray, List.set_cons_zero, List.set_cons_succ, i64_w, i32_w]
                  rfl
                 refine pure_ (i := 13) (N := some 82) (v := ?_) (a' := ?_) #[true, true, true, true, true, true, true, true, true, true, true, true, true, true, false] rfl rfl (any_of HT_.out (by kernel_rfl)) (fun _ _ _ h => h) (Or.inl ⟨by rfl, ?_⟩) ?_ ?_
                 rotate_left
                 ·intro w'
                  go_simp
                  with_reducible rfl
                 rotate_left
                 ·simp only [Act.put, List.setIfInBounds_toArray, List.set_cons_zero, List.set_cons_succ, i64_w, i32_w]
                  rfl
                 refine last_ (i := 14) (N := none) #[true, true, true, true, true, true, true, true, true, true, true, true, true, true, true] rfl rfl (one_of HT_.out (by kernel_rfl)) (by decide) (fun K hK => ?_)
                 refine skip_ (w1 := ?_) (by rfl) rfl ?_ ?_
                 rotate_left
                 ·go_simp
                  rfl
                 refine hK.out _ _ ?_
                 clear hK K
                 refine done_ (done_of HT_.out (by kernel_rfl)) ?_
                 try go_wp2
                 go_roundg k2
                 case measure => have := HJ3.out; have := HK2.out; omega
                 case rel => exact ⟨(y149), (wrap64 (x9_2 + 1)), (by first | rfl | (simp; done) | (simp [*]; done)), H', ⟨by have := HJ3.out; have := HK2.out; omega⟩, ⟨by (with_reducible repeat (first | apply Kd.R_alloc | apply Kd.R_drewN | apply Kd.R_drew)); exact HQ34.out⟩, ⟨by repeat (first | (with_reducible first | exact HB.out | apply below_alloc | apply pw_below_drewN | apply below_drew1 | refine below_set ?_ GB28.out) | exact HB.out)⟩⟩
                ·rw [if_neg c27] at H
                 exact absurd H (by simp)
               ·rw [if_neg c26] at H
                exact absurd H (by simp)
              ·rw [if_neg c25] at H
               exact absurd H (by simp)
             ·rw [if_neg c23] at H
              exact absurd H (by simp)
            ·rw [if_neg c22] at H
             exact absurd H (by simp)
           ·rw [if_neg c20] at H
            exact absurd H (by simp)
          ·rw [if_neg c19] at H
           have c19b0 : ((x8_2.length : Int) == 0) = false := beq_eq_false_iff_ne.mpr c19
           have c19b1 : ((x8_2.length : Int) != 0) = true := bne_iff_ne.mpr c19
           have c19b2 : ¬ (x8_2 = []) := fun h_ => c19 (by rw [h_]; rfl)
           obtain ⟨ji35, hji35⟩ : ∃ j_ : Int, (wrap64 ((x8_2.length : Int) - 1)) = j_ := ⟨_, rfl⟩
           replace H : (if 0 ≤ (ji35) then (if (ji35) < (x8_2.length : Int) then (if ((rd_T43 x8_2 (ji35)).f0) = 2 then (if x9_2 ≤ (wrap64 (x9_2 + 1)) then (if (wrap64 (x9_2 + 1)) ≤ (a1.size : Int) then (if ((rd_T43 x8_2 (ji35)).f3).size + (a1.extract (x9_2 : Int).toNat ((wrap64 (x9_2 + 1)) : Int).toNat).size ≤ 9223372036854775807 then (spec_MakeOps.l0 k2 a0 a1 a2 (x8_2.set ((ji35) : Int).toNat (⟨(rd_T43 x8_2 (ji35)).f0, (rd_T43 x8_2 (ji35)).f1, (rd_T43 x8_2 (ji35)).f2, ((rd_T43 x8_2 (ji35)).f3) ++ (a1.extract (x9_2 : Int).toNat ((wrap64 (x9_2 + 1)) : Int).toNat)⟩ : S43)) (wrap64 (x9_2 + 1))) else (none)) else (none)) else (none)) else (if x8_2.length < 3518437208883 then ((some (x8_2 ++ [(⟨2, 0, 0, (⟨#[]⟩ : ByteArray)⟩ : S43)] : List (S43))).bind fun y153 => (if 0 ≤ (wrap64 ((wrap64 ((x8_2.length : Int) + 1)) - 1)) then (if (wrap64 ((wrap64 ((x8_2.length : Int) + 1)) - 1)) < (y153.length : Int) then (if x9_2 ≤ (wrap64 (x9_2 + 1)) then (if (wrap64 (x9_2 + 1)) ≤ (a1.size : Int) then (if ((rd_T43 y153 (wrap64 ((wrap64 ((x8_2.length : Int) + 1)) - 1))).f3).size + (a1.extract (x9_2 : Int).toNat ((wrap64 (x9_2 + 1)) : Int).toNat).size ≤ 9223372036854775807 then (spec_MakeOps.l0 k2 a0 a1 a2 (y153.set ((wrap64 ((wrap64 ((x8_2.length : Int) + 1)) - 1)) : Int).toNat (⟨(rd_T43 y153 (wrap64 ((wrap64 ((x8_2.length : Int) + 1)) - 1))).f0, (rd_T43 y153 (wrap64 ((wrap64 ((x8_2.length : Int) + 1)) - 1))).f1, (rd_T43 y153 (wrap64 ((wrap64 ((x8_2.length : Int) + 1)) - 1))).f2, ((rd_T43 y153 (wrap64 ((wrap64 ((x8_2.length : Int) + 1)) - 1))).f3) ++ (a1.extract (x9_2 : Int).toNat ((wrap64 (x9_2 + 1)) : Int).toNat)⟩ : S43)) (wrap64 (x9_2 + 1))) else (none)) else (none)) else (none)) else (none)) else (none))) else (none))) else (none)) else (none)) = some (r1, r2) := by first | (rw [hji35] at H; exact H) | (simp only [hji35] at H ⊢; exact H)
           (try rw [hji35] at A14)
           have hji35w : (IntKind.i64.wrap ((x8_2.length : Int) - 1)) = ji35 := (i64_w _).trans hji35
           by_cases c36 : 0 ≤ (ji35)
           ·rw [if_pos c36] at H
            have c36b0 : decide (0 ≤ (ji35)) = true := decide_eq_true c36
            clear c36
            by_cases c37 : (ji35) < (x8_2.length : Int)
            ·rw [if_pos c37] at H
             have c37b0 : decide ((ji35) < (x8_2.length : Int)) = true := decide_eq_true c37
             clear c37
             by_cases c38 : ((rd_T43 x8_2 (ji35)).f0) = 2
             ·rw [if_pos c38] at H
              have c38b0 : (((rd_T43 x8_2 (ji35)).f0) == 2) = true := beq_iff_eq.mpr c38
              have c38b1 : (((rd_T43 x8_2 (ji35)).f0) != 2) = false := bne_eq_false_iff_eq.mpr c38
              clear c38
              have c39b0 := eq_true (of_decide_eq_true (by first | (with_reducible assumption) | assumption) : 0 ≤ x9_2)
              by_cases c40 : x9_2 ≤ (wrap64 (x9_2 + 1))
              ·rw [if_pos c40] at H
               have c40b0 := eq_true c40
               have c40b1 : decide (x9_2 ≤ (wrap64 (x9_2 + 1))) = true := decide_eq_true c40
               by_cases c41 : (wrap64 (x9_2 + 1)) ≤ (a1.size : Int)
               ·rw [if_pos c41] at H
                have c41b0 := eq_true c41
                have c41b1 : decide ((wrap64 (x9_2 + 1)) ≤ (a1.size : Int)) = true := decide_eq_true c41
                by_cases c42 : ((rd_T43 x8_2 (ji35)).f3).size + (a1.extract (x9_2 : Int).toNat ((wrap64 (x9_2 + 1)) : Int).toNat).size ≤ 9223372036854775807
                ·rw [if_pos c42] at H
                 have c42b0 := eq_true c42
                 have c42b1 : decide (((rd_T43 x8_2 (ji35)).f3).size + (a1.extract (x9_2 : Int).toNat ((wrap64 (x9_2 + 1)) : Int).toNat).size ≤ 9223372036854775807) = true := decide_eq_true c42
                 try have c42b2 : (9223372036854775807 < ((rd_T43 x8_2 (ji35)).f3).size + (a1.extract (x9_2 : Int).toNat ((wrap64 (x9_2 + 1)) : Int).toNat).size) = False := eq_false (Nat.not_lt.2 c42)
                 have c42b3 : ∀ m_ n_ : Nat, m_ = ((rd_T43 x8_2 (ji35)).f3).size → n_ = (a1.extract (x9_2 : Int).toNat ((wrap64 (x9_2 + 1)) : Int).toNat).size → (9223372036854775807 < m_ + n_) = False := fun m_ n_ h1_ h2_ => by rw [h1_, h2_]; exact eq_false (Nat.not_lt.2 c42)
                 obtain ⟨y152, hy152⟩ : ∃ y_ : List (S43), y_ = (x8_2.set ((ji35) : Int).toNat (⟨(rd_T43 x8_2 (ji35)).f0, (rd_T43 x8_2 (ji35)).f1, (rd_T43 x8_2 (ji35)).f2, ((rd_T43 x8_2 (ji35)).f3) ++ (a1.extract (x9_2 : Int).toNat ((wrap64 (x9_2 + 1)) : Int).toNat)⟩ : S43)) := ⟨_, rfl⟩
                 replace H : (spec_MakeOps.l0 k2 a0 a1 a2 y152 (wrap64 (x9_2 + 1))) = some (r1, r2) := by first | (rw [hy152]; with_reducible exact H) | (have H2_ := (Option.bind_some _ _).symm.trans H; rw [hy152]; with_reducible exact H2_) | (have H2_ := (Option.bind_some _ _).symm.trans H; with_reducible exact H2_) | with_reducible exact H | (rw [hy152]; exact H) | exact H
                 have Ny152 := Aside0.mk hy152
                 clear hy152
                 have H' := Aside0.mk H
                 clear H
                 try go_wp2_with (first | ((with_reducible refine gate_callee (f := 66) rfl ?_); refine goesL_ (some 35) rfl rfl Try.func66 (by kernel_rfl) rfl #[.string a0, .string (a1.extract (x9_2 : Int).toNat a1.size)] rfl (by (try simp only [List.map_toArray, List.map_cons, List.map_nil]); first | done | rfl | (simp only [List.length_drop, List.length_take]; rfl)) ?_; (with_reducible refine (spec_l14Longest.calls k2 a0 (a1.extract (x9_2 : Int).toNat a1.size) t140 t141 _ A14.out).mono ?_); rintro e w44 ⟨rfl, hb⟩; refine ⟨_, rfl, ?_⟩; have n0_ := Aside0.mk (Kd.R_below (by (with_reducible repeat (first | apply Kd.R_alloc | apply Kd.R_drewN | apply Kd.R_drew)); exact HO_8.out) hb); have n1_ := Aside0.mk (below_step (by repeat (first | (with_reducible first | exact HB.out | apply below_alloc | apply pw_below_drewN | apply below_drew1) | exact HB.out)) hb); clear HO_8; clear HB; have HO_8 := n0_; have HB := n1_; clear n0_ n1_; (try clear hb); (try clear hb2); (try clear hk); (try clear hi); obtain ⟨Ao45, co45, eo45⟩ := Kd.R_slice HO_8.out; subst eo45; have p150 : 0 ≤ ((ji35) : Int) := of_decide_eq_true (by first | (with_reducible assumption) | assumption); have q150 : (ji35) < (x8_2.length : Int) := of_decide_eq_true (by first | (with_reducible assumption) | assumption); obtain ⟨ad150, e150, hx150_0, hx150_1, hx150_2, hx150_3⟩ := at_T43 (Kd.R_reads' HO_8.out).2.2 (ji35) p150 q150; cases e150; replace p150 := eq_true p150; replace q150 := eq_true q150))
                 have n0_ := Aside0.mk (Kd.R_drew HO_8.out)
                 have n1_ := Aside0.mk (below_drew1 HB.out)
                 clear HO_8
                 clear HB
                 have HO_8 := n0_
                 have HB := n1_
                 clear n0_ n1_
                 have p151 : 0 ≤ ((ji35) : Int) := of_decide_eq_true (by first | (with_reducible assumption) | assumption)
                 have q151 : (ji35) < (x8_2.length : Int) := of_decide_eq_true (by first | (with_reducible assumption) | assumption)
                 obtain ⟨ad151, e151, hx151_0, hx151_1, hx151_2, hx151_3⟩ := at_T43 (Kd.R_reads' HO_8.out).2.2 (ji35) p151 q151
                 obtain rfl : ad150 = ad151 := (by injection e151)
                 replace p151 := eq_true p151
                 replace q151 := eq_true q151
                 have p43 : 0 ≤ ((ji35) : Int) := of_decide_eq_true (by first | (with_reducible assumption) | assumption)
                 have q43 : ((ji35) : Int) < ((x8_2.length : Int) : Int) := of_decide_eq_true (by first | (with_reducible assumption) | assumption)
                 obtain ⟨go43, co43, eo43, gb43, gl43, cl43, HG43⟩ := Kd.R_form HO_8.out (by omega)
                 (first | cases eo43 | (injection eo43 with ea_ en_ ec_; (first | subst ea_ | (injection ea_ with ea_; subst ea_)); subst ec_; clear en_))
                 have GB43 := Aside0.mk gb43
                 have GG43 := Aside0.mk HG43
                 clear gb43 gl43 HG43
                 (first | simp only [add_plain] at hx150_0 | skip)
                 (first | simp only [add_plain] at hx150_1 | skip)
                 (first | simp only [add_plain] at hx150_2 | skip)
                 (first | simp only [add_plain] at hx150_3 | skip)
                 (first | simp only [add_plain] at hx151_0 | skip)
                 (first | simp only [add_plain] at hx151_1 | skip)
                 (first | simp only [add_plain] at hx151_2 | skip)
                 (first | simp only [add_plain] at hx151_3 | skip)
                 obtain ⟨ce43, hcl43, hM43, hcc43, hfr43⟩ := Kd.R_elem HO_8.out z43 ((ji35) : Int) p43 q43
                 obtain rfl := k43_openM hM43
                 have hx43_0 : World.cell? _ ⟨go43, ((ji35) : Int).toNat * 4, none⟩ = some (.int .i64 ((rd_T43 x8_2 (ji35)).f0)) := hcc43 0 _ rfl
                 have hx43_1 : World.cell? _ ⟨go43, ((ji35) : Int).toNat * 4 + 1, none⟩ = some (.int .i64 ((rd_T43 x8_2 (ji35)).f1)) := hcc43 1 _ rfl
                 have hx43_2 : World.cell? _ ⟨go43, ((ji35) : Int).toNat * 4 + 2, none⟩ = some (.int .i64 ((rd_T43 x8_2 (ji35)).f2)) := hcc43 2 _ rfl
                 have hx43_3 : World.cell? _ ⟨go43, ((ji35) : Int).toNat * 4 + 3, none⟩ = some (.string ((rd_T43 x8_2 (ji35)).f3)) := hcc43 3 _ rfl
                 have hf43_0 : World.frozen? _ ⟨go43, ((ji35) : Int).toNat * 4, none⟩ = false := hfr43 0
                 have hf43_1 : World.frozen? _ ⟨go43, ((ji35) : Int).toNat * 4 + 1, none⟩ = false := hfr43 1
                 have hf43_2 : World.frozen? _ ⟨go43, ((ji35) : Int).toNat * 4 + 2, none⟩ = false := hfr43 2
                 have hf43_3 : World.frozen? _ ⟨go43, ((ji35) : Int).toNat * 4 + 3, none⟩ = false := hfr43 3
                 clear hcl43 hcc43 hfr43 hM43
                 replace p43 := eq_true p43
                 replace q43 := eq_true q43
                 obtain ⟨ce47, hcl47, hM47, hcc47, hfr47⟩ := Kd.R_elem HO_8.out z43 ((ji35) : Int) (of_decide_eq_true (by first | (with_reducible assumption) | assumption)) (by have h_ : ((ji35) : Int) < ((x8_2.length : Int) : Int) := of_decide_eq_true (by first | (with_reducible assumption) | assumption); first | exact h_ | (have e_ := (Kd.R_reads' HO_8.out).1; omega) | simpa using h_)
                 obtain rfl := k43_openM hM47
                 have HP47 := (Kd.R_seg HO_8.out ((ji35) : Int) (of_decide_eq_true (by first | (with_reducible assumption) | assumption)) (by have h_ : ((ji35) : Int) < ((x8_2.length : Int) : Int) := of_decide_eq_true (by first | (with_reducible assumption) | assumption); first | exact h_ | (have e_ := (Kd.R_reads' HO_8.out).1; omega) | simpa using h_) (seg := [.string (((rd_T43 x8_2 (ji35)).f3) ++ (a1.extract (x9_2 : Int).toNat ((wrap64 (x9_2 + 1)) : Int).toNat))]) (j := 3) hcl47 hcc47 (show 4 ≤ 4 from by decide) (x' := (⟨(rd_T43 x8_2 (ji35)).f0, (rd_T43 x8_2 (ji35)).f1, (rd_T43 x8_2 (ji35)).f2, ((rd_T43 x8_2 (ji35)).f3) ++ (a1.extract (x9_2 : Int).toNat ((wrap64 (x9_2 + 1)) : Int).toNat)⟩ : S43)) (k43_mkM _ _ _ (⟨(rd_T43 x8_2 (ji35)).f0, (rd_T43 x8_2 (ji35)).f1, (rd_T43 x8_2 (ji35)).f2, ((rd_T43 x8_2 (ji35)).f3) ++ (a1.extract (x9_2 : Int).toNat ((wrap64 (x9_2 + 1)) : Int).toNat)⟩ : S43) ) (fun _ hk => hk)).1
                 rw [← Ny152.out] at HP47
                 have HQ47 := Aside0.mk HP47
                 clear hcl47 hcc47 hfr47 hM47 HP47
                 refine start_ (n := 15) (S := fun w' => w'.cell? ⟨go43, (((ji35)).toNat * 4), none⟩ = some (.int .i64 ((rd_T43 x8_2 (ji35)).f0)) ∧ w'.cell? ⟨go43, (((ji35)).toNat * 4) + 1, none⟩ = some (.int .i64 ((rd_T43 x8_2 (ji35)).f1)) ∧ w'.cell? ⟨go43, (((ji35)).toNat * 4) + 2, none⟩ = some (.int .i64 ((rd_T43 x8_2 (ji35)).f2)) ∧ w'.cell? ⟨go43, (((ji35)).toNat * 4) + 3, none⟩ = some (.string ((rd_T43 x8_2 (ji35)).f3))) (ds := [14]) #[false, false, false, false, false, false, false, false, false, false, false, false, false, false, false] (by kernel_rfl) rfl rfl ⟨hx151_0, hx151_1, hx151_2, hx151_3⟩ (fun hHeld => ?_); refine with_tabW spec_MakeOps.tab14 spec_MakeOps.bits14 (fun HT_ HW_ => ?_)
                 generalize w44.drew = w46 at HO_8 HB GG43 HQ47 hf43_0 hf43_1 hf43_2 hf43_3 hx150_0 hx150_1 hx150_2 hx150_3 hx151_0 hx151_1 hx151_2 hx151_3 hx43_0 hx43_1 hx43_2 hx43_3 hHeld ⊢
                 refine pure_ (i := 0) (N := some 69) (v := ?_) (a' := ?_) #[true, false, false, false, false, false, false, false, false, false, false, false, false, false, false] rfl rfl (any_of HT_.out (by kernel_rfl)) (fun _ _ _ h => h) (Or.inl ⟨by rfl, ?_⟩) ?_ ?_
                 rotate_left
                 ·intro w'
                  go_simp
                  with_reducible rfl
                 rotate_left
                 ·simp only [Act.put, List.setIfInBounds_toArray, List.set_cons_zero, List.set_cons_succ, i64_w, i32_w]
                  rfl
                 refine pure_ (i := 1) (N := some 70) (v := ?_) (a' := ?_) #[true, true, false, false, false, false, false, false, false, false, false, false, false, false, false] rfl rfl (any_of HT_.out (by kernel_rfl)) (fun _ _ _ h => h) (Or.inl ⟨by rfl, ?_⟩) ?_ ?_
                 rotate_left
                 ·intro w'
                  go_simp
                  with_reducible rfl
                 rotate_left
                 ·simp only [Act.put, List.setIfInBounds_toArray, List.set_cons_zero, List.set_cons_succ, i64_w, i32_w]
                  rfl
                 refine pure_ (i := 2) (N := some 71) (v := ?_) (a' := ?_) #[true, true, true, false, false, false, false, false, false, false, false, false, false, false, false] rfl rfl (any_of HT_.out (by kernel_rfl)) (fun _ _ _ h => h) (Or.inl ⟨by rfl, ?_⟩) ?_ ?_
                 rotate_left
                 ·intro w'
                  go_simp
                  with_reducible rfl
                 rotate_left
                 ·simp only [Act.put, List.setIfInBounds_toArray, List.set_cons_zero, List.set_cons_succ, i64_w, i32_w]
                  rfl
                 refine pure_ (i := 3) (N := some 72) (v := ?_) (a' := ?_) #[true, true, true, true, false, false, false, false, false, false, false, false, false, false, false] rfl rfl (any_of HT_.out (by kernel_rfl)) (fun _ _ _ h => h) (Or.inl ⟨by rfl, ?_⟩) ?_ ?_
                 rotate_left
                 ·intro w'
                  go_simp
                  with_reducible rfl
                 rotate_left
                 ·simp only [Act.put, List.setIfInBounds_toArray, List.set_cons_zero, List.set_cons_succ, i64_w, i32_w]
                  rfl
                 refine pure_ (i := 4) (N := some 73) (v := ?_) (a' := ?_) #[true, true, true, true, true, false, false, false, false, false, false, false, false, false, false] rfl rfl (any_of HT_.out (by kernel_rfl)) (fun _ _ _ h => h) (Or.inl ⟨by rfl, ?_⟩) ?_ ?_
                 rotate_left
                 ·intro w'
                  go_simp
                  with_reducible rfl
                 rotate_left
                 ·simp only [Act.put, List.setIfInBounds_toArray, List.set_cons_zero, List.set_cons_succ, i64_w, i32_w]
                  rfl
                 refine pure_ (i := 6) (N := some 75) (v := ?_) (a' := ?_) #[true, true, true, true, true, false, true, false, false, false, false, false, false, false, false] rfl rfl (any_of HT_.out (by kernel_rfl)) (fun _ _ _ h => h) (Or.inl ⟨by rfl, ?_⟩) ?_ ?_
                 rotate_left
                 ·intro w'
                  go_simp
                  with_reducible rfl
                 rotate_left
                 ·simp only [Act.put, List.setIfInBounds_toArray, List.set_cons_zero, List.set_cons_succ, i64_w, i32_w]
                  rfl
                 refine pure_ (i := 7) (N := some 76) (v := ?_) (a' := ?_) #[true, true, true, true, true, false, true, true, false, false, false, false, false, false, false] rfl rfl (any_of HT_.out (by kernel_rfl)) (fun _ _ _ h => h) (Or.inl ⟨by rfl, ?_⟩) ?_ ?_
                 rotate_left
                 ·intro w'
                  go_simp
                  with_reducible rfl
                 rotate_left
                 ·simp only [Act.put, List.setIfInBounds_toArray, List.set_cons_zero, List.set_cons_succ, i64_w, i32_w]
                  rfl
                 refine pure_ (i := 8) (N := some 77) (v := ?_) (a' := ?_) #[true, true, true, true, true, false, true, true, true, false, false, false, false, false, false] rfl rfl (any_of HT_.out (by kernel_rfl)) (fun _ _ _ h => h) (Or.inl ⟨by rfl, ?_⟩) ?_ ?_
                 rotate_left
                 ·intro w'
                  go_simp
                  with_reducible rfl
                 rotate_left
                 ·simp only [Act.put, List.setIfInBounds_toArray, List.set_cons_zero, List.set_cons_succ, i64_w, i32_w]
                  rfl
                 refine pure_ (i := 9) (N := some 78) (v := ?_) (a' := ?_) #[true, true, true, true, true, false, true, true, true, true, false, false, false, false, false] rfl rfl (any_of HT_.out (by kernel_rfl)) (fun _ _ _ h => h) (Or.inl ⟨by rfl, ?_⟩) ?_ ?_
                 rotate_left
                 ·intro w'
                  go_simp
                  with_reducible rfl
                 rotate_left
                 ·simp only [Act.put, List.setIfInBounds_toArray, List.set_cons_zero, List.set_cons_succ, i64_w, i32_w]
                  rfl
                 refine pure_ (i := 10) (N := some 79) (v := ?_) (a' := ?_) #[true, true, true, true, true, false, true, true, true, true, true, false, false, false, false] rfl rfl (any_of HT_.out (by kernel_rfl)) (fun _ _ _ h => h) (Or.inl ⟨by rfl, ?_⟩) ?_ ?_
                 rotate_left
                 ·intro w'
                  go_simp
                  with_reducible rfl
                 rotate_left
                 ·simp only [Act.put, List.setIfInBounds_toArray, List.set_cons_zero, List.set_cons_succ, i64_w, i32_w]
                  rfl
                 refine take_ (i := 5) (N := some 74) (v := ?_) (a' := ?_) #[true, true, true, true, true, true, true, true, true, true, true, false, false, false, false] rfl rfl (take_ofW HT_.out HW_.out (by kernel_rfl)) (fun _ _ _ h => h) (Or.inl ⟨by rfl, ?_⟩) hHeld ?_ ?_
                 rotate_left
                 ·rintro w' ⟨s0, s1, s2, s3⟩
                  go_simp
                  with_reducible rfl
                 rotate_left
                 ·simp only [Act.put, List.setIfInBounds_toArray, List.set_cons_zero, List.set_cons_succ, i64_w, i32_w]
                  rfl
                 refine pure_ (i := 11) (N := some 80) (v := ?_) (a' := ?_) #[true, true, true, true, true, true, true, true, true, true, true, true, false, false, false] rfl rfl (any_of HT_.out (by kernel_rfl)) (fun _ _ _ h => h) (Or.inl ⟨by rfl, ?_⟩) ?_ ?_
                 rotate_left
                 ·intro w'
                  go_simp
                  with_reducible rfl
                 rotate_left
                 ·simp only [Act.put, List.setIfInBounds_toArray, List.set_cons_zero, List.set_cons_succ, i64_w, i32_w]
                  rfl
                 refine pure_ (i := 12) (N := some 81) (v := ?_) (a' := ?_) #[true, true, true, true, true, true, true, true, true, true, true, true, true, false, false] rfl rfl (any_of HT_.out (by kernel_rfl)) (fun _ _ _ h => h) (Or.inl ⟨by rfl, ?_⟩) ?_ ?_
                 rotate_left
                 ·intro w'
                  go_simp
                  with_reducible rfl
                 rotate_left
                 ·simp only [Act.put, List.setIfInBounds_toArray, List.set_cons_zero, List.set_cons_succ, i64_w, i32_w]
                  rfl
                 refine pure_ (i := 13) (N := some 82) (v := ?_) (a' := ?_) #[true, true, true, true, true, true, true, true, true, true, true, true, true, true, false] rfl rfl (any_of HT_.out (by kernel_rfl)) (fun _ _ _ h => h) (Or.inl ⟨by rfl, ?_⟩) ?_ ?_
                 rotate_left
                 ·intro w'
                  go_simp
                  with_reducible rfl
                 rotate_left
                 ·simp only [Act.put, List.setIfInBounds_toArray, List.set_cons_zero, List.set_cons_succ, i64_w, i32_w]
                  rfl
                 refine last_ (i := 14) (N := none) #[true, true, true, true, true, true, true, true, true, true, true, true, true, true, true] rfl rfl (one_of HT_.out (by kernel_rfl)) (by decide) (fun K hK => ?_)
                 refine skip_ (w1 := ?_) (by rfl) rfl ?_ ?_
                 rotate_left
                 ·go_simp
                  rfl
                 refine hK.out _ _ ?_
                 clear hK K
                 refine done_ (done_of HT_.out (by kernel_rfl)) ?_
                 try go_wp2
                 go_roundg k2
                 case measure => have := HJ3.out; have := HK2.out; omega
                 case rel => exact ⟨(y152), (wrap64 (x9_2 + 1)), (by first | rfl | (simp; done) | (simp [*]; done)), H', ⟨by have := HJ3.out; have := HK2.out; omega⟩, ⟨by (with_reducible repeat (first | apply Kd.R_alloc | apply Kd.R_drewN | apply Kd.R_drew)); exact HQ47.out⟩, ⟨by repeat (first | (with_reducible first | exact HB.out | apply below_alloc | apply pw_below_drewN | apply below_drew1 | refine below_set ?_ GB43.out) | exact HB.out)⟩⟩
                ·rw [if_neg c42] at H
                 exact absurd H (by simp)
               ·rw [if_neg c41] at H
                exact absurd H (by simp)
              ·rw [if_neg c40] at H
               exact absurd H (by simp)
             ·rw [if_neg c38] at H
              have c38b0 : (((rd_T43 x8_2 (ji35)).f0) == 2) = false := beq_eq_false_iff_ne.mpr c38
              have c38b1 : (((rd_T43 x8_2 (ji35)).f0) != 2) = true := bne_iff_ne.mpr c38
              by_cases c48 : x8_2.length < 3518437208883
              ·rw [if_pos c48] at H
               have LMc48 := Aside0.mk c48
               clear c48
               obtain ⟨y153, hy153⟩ : ∃ y_ : List (S43), y_ = (x8_2 ++ [(⟨2, 0, 0, (⟨#[]⟩ : ByteArray)⟩ : S43)]) := ⟨_, rfl⟩
               replace H : (if 0 ≤ (wrap64 ((wrap64 ((x8_2.length : Int) + 1)) - 1)) then (if (wrap64 ((wrap64 ((x8_2.length : Int) + 1)) - 1)) < (y153.length : Int) then (if x9_2 ≤ (wrap64 (x9_2 + 1)) then (if (wrap64 (x9_2 + 1)) ≤ (a1.size : Int) then (if ((rd_T43 y153 (wrap64 ((wrap64 ((x8_2.length : Int) + 1)) - 1))).f3).size + (a1.extract (x9_2 : Int).toNat ((wrap64 (x9_2 + 1)) : Int).toNat).size ≤ 9223372036854775807 then (spec_MakeOps.l0 k2 a0 a1 a2 (y153.set ((wrap64 ((wrap64 ((x8_2.length : Int) + 1)) - 1)) : Int).toNat (⟨(rd_T43 y153 (wrap64 ((wrap64 ((x8_2.length : Int) + 1)) - 1))).f0, (rd_T43 y153 (wrap64 ((wrap64 ((x8_2.length : Int) + 1)) - 1))).f1, (rd_T43 y153 (wrap64 ((wrap64 ((x8_2.length : Int) + 1)) - 1))).f2, ((rd_T43 y153 (wrap64 ((wrap64 ((x8_2.length : Int) + 1)) - 1))).f3) ++ (a1.extract (x9_2 : Int).toNat ((wrap64 (x9_2 + 1)) : Int).toNat)⟩ : S43)) (wrap64 (x9_2 + 1))) else (none)) else (none)) else (none)) else (none)) else (none)) = some (r1, r2) := by first | (rw [hy153]; with_reducible exact H) | (have H2_ := (Option.bind_some _ _).symm.trans H; rw [hy153]; with_reducible exact H2_) | (have H2_ := (Option.bind_some _ _).symm.trans H; with_reducible exact H2_) | with_reducible exact H | (rw [hy153]; exact H) | exact H
               have Ny153 := Aside0.mk hy153
               clear hy153
               obtain ⟨ji49, hji49⟩ : ∃ j_ : Int, (wrap64 ((wrap64 ((x8_2.length : Int) + 1)) - 1)) = j_ := ⟨_, rfl⟩
               replace H : (if 0 ≤ (ji49) then (if (ji49) < (y153.length : Int) then (if x9_2 ≤ (wrap64 (x9_2 + 1)) then (if (wrap64 (x9_2 + 1)) ≤ (a1.size : Int) then (if ((rd_T43 y153 (ji49)).f3).size + (a1.extract (x9_2 : Int).toNat ((wrap64 (x9_2 + 1)) : Int).toNat).size ≤ 9223372036854775807 then (spec_MakeOps.l0 k2 a0 a1 a2 (y153.set ((ji49) : Int).toNat (⟨(rd_T43 y153 (ji49)).f0, (rd_T43 y153 (ji49)).f1, (rd_T43 y153 (ji49)).f2, ((rd_T43 y153 (ji49)).f3) ++ (a1.extract (x9_2 : Int).toNat ((wrap64 (x9_2 + 1)) : Int).toNat)⟩ : S43)) (wrap64 (x9_2 + 1))) else (none)) else (none)) else (none)) else (none)) else (none)) = some (r1, r2) := by first | (rw [hji49] at H; exact H) | (simp only [hji49] at H ⊢; exact H)
               (try rw [hji49] at A14)
               have hji49w : (IntKind.i64.wrap ((wrap64 ((x8_2.length : Int) + 1)) - 1)) = ji49 := (i64_w _).trans hji49
               by_cases c50 : 0 ≤ (ji49)
               ·rw [if_pos c50] at H
                have c50b0 : decide (0 ≤ (ji49)) = true := decide_eq_true c50
                clear c50
                by_cases c51 : (ji49) < (y153.length : Int)
                ·rw [if_pos c51] at H
                 have c51b0 : decide ((ji49) < (y153.length : Int)) = true := decide_eq_true c51
                 clear c51
                 have c52b0 := eq_true (of_decide_eq_true (by first | (with_reducible assumption) | assumption) : 0 ≤ x9_2)
                 by_cases c53 : x9_2 ≤ (wrap64 (x9_2 + 1))
                 ·rw [if_pos c53] at H
                  have c53b0 := eq_true c53
                  have c53b1 : decide (x9_2 ≤ (wrap64 (x9_2 + 1))) = true := decide_eq_true c53
                  by_cases c54 : (wrap64 (x9_2 + 1)) ≤ (a1.size : Int)
                  ·rw [if_pos c54] at H
                   have c54b0 := eq_true c54
                   have c54b1 : decide ((wrap64 (x9_2 + 1)) ≤ (a1.size : Int)) = true := decide_eq_true c54
                   by_cases c55 : ((rd_T43 y153 (ji49)).f3).size + (a1.extract (x9_2 : Int).toNat ((wrap64 (x9_2 + 1)) : Int).toNat).size ≤ 9223372036854775807
                   ·rw [if_pos c55] at H
                    have c55b0 := eq_true c55
                    have c55b1 : decide (((rd_T43 y153 (ji49)).f3).size + (a1.extract (x9_2 : Int).toNat ((wrap64 (x9_2 + 1)) : Int).toNat).size ≤ 9223372036854775807) = true := decide_eq_true c55
                    try have c55b2 : (9223372036854775807 < ((rd_T43 y153 (ji49)).f3).size + (a1.extract (x9_2 : Int).toNat ((wrap64 (x9_2 + 1)) : Int).toNat).size) = False := eq_false (Nat.not_lt.2 c55)
                    have c55b3 : ∀ m_ n_ : Nat, m_ = ((rd_T43 y153 (ji49)).f3).size → n_ = (a1.extract (x9_2 : Int).toNat ((wrap64 (x9_2 + 1)) : Int).toNat).size → (9223372036854775807 < m_ + n_) = False := fun m_ n_ h1_ h2_ => by rw [h1_, h2_]; exact eq_false (Nat.not_lt.2 c55)
                    obtain ⟨y157, hy157⟩ : ∃ y_ : List (S43), y_ = (y153.set ((ji49) : Int).toNat (⟨(rd_T43 y153 (ji49)).f0, (rd_T43 y153 (ji49)).f1, (rd_T43 y153 (ji49)).f2, ((rd_T43 y153 (ji49)).f3) ++ (a1.extract (x9_2 : Int).toNat ((wrap64 (x9_2 + 1)) : Int).toNat)⟩ : S43)) := ⟨_, rfl⟩
                    replace H : (spec_MakeOps.l0 k2 a0 a1 a2 y157 (wrap64 (x9_2 + 1))) = some (r1, r2) := by first | (rw [hy157]; with_reducible exact H) | (have H2_ := (Option.bind_some _ _).symm.trans H; rw [hy157]; with_reducible exact H2_) | (have H2_ := (Option.bind_some _ _).symm.trans H; with_reducible exact H2_) | with_reducible exact H | (rw [hy157]; exact H) | exact H
                    have Ny157 := Aside0.mk hy157
                    clear hy157
                    have H' := Aside0.mk H
                    clear H
                    try go_wp2_with (first | ((with_reducible refine gate_callee (f := 66) rfl ?_); refine goesL_ (some 35) rfl rfl Try.func66 (by kernel_rfl) rfl #[.string a0, .string (a1.extract (x9_2 : Int).toNat a1.size)] rfl (by (try simp only [List.map_toArray, List.map_cons, List.map_nil]); first | done | rfl | (simp only [List.length_drop, List.length_take]; rfl)) ?_; (with_reducible refine (spec_l14Longest.calls k2 a0 (a1.extract (x9_2 : Int).toNat a1.size) t140 t141 _ A14.out).mono ?_); rintro e w57 ⟨rfl, hb⟩; refine ⟨_, rfl, ?_⟩; have n0_ := Aside0.mk (Kd.R_below (by (with_reducible repeat (first | apply Kd.R_alloc | apply Kd.R_drewN | apply Kd.R_drew)); exact HO_8.out) hb); have n1_ := Aside0.mk (below_step (by repeat (first | (with_reducible first | exact HB.out | apply below_alloc | apply pw_below_drewN | apply below_drew1) | exact HB.out)) hb); clear HO_8; clear HB; have HO_8 := n0_; have HB := n1_; clear n0_ n1_; (try clear hb); (try clear hb2); (try clear hk); (try clear hi); obtain ⟨Ao58, co58, eo58⟩ := Kd.R_slice HO_8.out; subst eo58; have p150 : 0 ≤ ((ji35) : Int) := of_decide_eq_true (by first | (with_reducible assumption) | assumption); have q150 : (ji35) < (x8_2.length : Int) := of_decide_eq_true (by first | (with_reducible assumption) | assumption); obtain ⟨ad150, e150, hx150_0, hx150_1, hx150_2, hx150_3⟩ := at_T43 (Kd.R_reads' HO_8.out).2.2 (ji35) p150 q150; cases e150; replace p150 := eq_true p150; replace q150 := eq_true q150) | ((with_reducible refine gate_builtin (b := .append) (xs := #[.tmp 63, .tmp 65]) rfl ?_); at_builtin; refine Kd.R_append k43 (w0 := w) w.heap.size rfl (.tmp 63) (.tmp 65) 26 43 (.agg #[(.int .i64 0), (.int .i64 0), (.int .i64 0), (.string ⟨#[]⟩)]) 40 rfl Try.underlying26 info43 rfl (by decide) (by omega) (.slice (some ad150) x8_2.length co58) x8_2 (⟨2, 0, 0, (⟨#[]⟩ : ByteArray)⟩ : S43) [.int .i64 2, .int .i64 0, .int .i64 0, .string (⟨#[]⟩ : ByteArray)] (fun _ => True) (fun _ => False) rfl rfl ?aP (fun _ hk => hk.elim) ?aF ?aO ?aB ?aS ?aL ?_; (case aP => exact k43_mkM _ _ _ (⟨2, 0, 0, (⟨#[]⟩ : ByteArray)⟩ : S43)); (case aB => exact (by repeat (first | (with_reducible first | exact HB.out | apply below_alloc | apply pw_below_drewN | apply below_drew1) | exact HB.out))); (case aF => exact (fun _ _ => trivial)); (case aO => exact (by (with_reducible repeat (first | apply Kd.R_alloc | apply Kd.R_drewN | apply Kd.R_drew)); exact HO_8.out)); (case aS => exact (below_size (by repeat (first | (with_reducible first | exact HB.out | apply below_alloc | apply pw_below_drewN | apply below_drew1) | exact HB.out)))); (case aL => have := LMc48.out; omega); intro v154 w59 ho hb hg hat; rw [← Ny153.out] at ho; have n0_ := Aside0.mk (hb); have n1_ := Aside0.mk (ho); clear HB; clear HO_8; have HB := n0_; have HO155 := n1_; clear n0_ n1_; clear ho hb hg hat))
                    have n0_ := Aside0.mk (Kd.R_drew HO155.out)
                    have n1_ := Aside0.mk (below_drew1 HB.out)
                    clear HO155
                    clear HB
                    have HO155 := n0_
                    have HB := n1_
                    clear n0_ n1_
                    obtain ⟨Ao61, co61, eo61⟩ := Kd.R_slice HO155.out
                    (first | subst eo61 | (injection eo61 with f1_ f2_ f3_; have f4_ := f1_.symm; have f5_ := f3_.symm; clear f1_ f2_ f3_; subst f4_; subst f5_))
                    have p156 : 0 ≤ ((ji49) : Int) := of_decide_eq_true (by first | (with_reducible assumption) | assumption)
                    have q156 : (ji49) < (y153.length : Int) := of_decide_eq_true (by first | (with_reducible assumption) | assumption)
                    obtain ⟨ad156, e156, hx156_0, hx156_1, hx156_2, hx156_3⟩ := at_T43 (Kd.R_reads' HO155.out).2.2 (ji49) p156 q156
                    cases e156
                    replace p156 := eq_true p156
                    replace q156 := eq_true q156
                    have p56 : 0 ≤ ((ji49) : Int) := of_decide_eq_true (by first | (with_reducible assumption) | assumption)
                    have q56 : ((ji49) : Int) < ((y153.length : Int) : Int) := of_decide_eq_true (by first | (with_reducible assumption) | assumption)
                    obtain ⟨go56, co56, eo56, gb56, gl56, cl56, HG56⟩ := Kd.R_form HO155.out (by omega)
                    (first | cases eo56 | (injection eo56 with ea_ en_ ec_; (first | subst ea_ | (injection ea_ with ea_; subst ea_)); subst ec_; clear en_))
                    have GB56 := Aside0.mk gb56
                    have GG56 := Aside0.mk HG56
                    clear gb56 gl56 HG56
                    (first | simp only [add_plain] at hx156_0 | skip)
                    (first | simp only [add_plain] at hx156_1 | skip)
                    (first | simp only [add_plain] at hx156_2 | skip)
                    (first | simp only [add_plain] at hx156_3 | skip)
                    obtain ⟨ce56, hcl56, hM56, hcc56, hfr56⟩ := Kd.R_elem HO155.out z43 ((ji49) : Int) p56 q56
                    obtain rfl := k43_openM hM56
                    have hx56_0 : World.cell? _ ⟨go56, ((ji49) : Int).toNat * 4, none⟩ = some (.int .i64 ((rd_T43 y153 (ji49)).f0)) := hcc56 0 _ rfl
                    have hx56_1 : World.cell? _ ⟨go56, ((ji49) : Int).toNat * 4 + 1, none⟩ = some (.int .i64 ((rd_T43 y153 (ji49)).f1)) := hcc56 1 _ rfl
                    have hx56_2 : World.cell? _ ⟨go56, ((ji49) : Int).toNat * 4 + 2, none⟩ = some (.int .i64 ((rd_T43 y153 (ji49)).f2)) := hcc56 2 _ rfl
                    have hx56_3 : World.cell? _ ⟨go56, ((ji49) : Int).toNat * 4 + 3, none⟩ = some (.string ((rd_T43 y153 (ji49)).f3)) := hcc56 3 _ rfl
                    have hf56_0 : World.frozen? _ ⟨go56, ((ji49) : Int).toNat * 4, none⟩ = false := hfr56 0
                    have hf56_1 : World.frozen? _ ⟨go56, ((ji49) : Int).toNat * 4 + 1, none⟩ = false := hfr56 1
                    have hf56_2 : World.frozen? _ ⟨go56, ((ji49) : Int).toNat * 4 + 2, none⟩ = false := hfr56 2
                    have hf56_3 : World.frozen? _ ⟨go56, ((ji49) : Int).toNat * 4 + 3, none⟩ = false := hfr56 3
                    clear hcl56 hcc56 hfr56 hM56
                    replace p56 := eq_true p56
                    replace q56 := eq_true q56
                    obtain ⟨ce62, hcl62, hM62, hcc62, hfr62⟩ := Kd.R_elem HO155.out z43 ((ji49) : Int) (of_decide_eq_true (by first | (with_reducible assumption) | assumption)) (by have h_ : ((ji49) : Int) < ((y153.length : Int) : Int) := of_decide_eq_true (by first | (with_reducible assumption) | assumption); first | exact h_ | (have e_ := (Kd.R_reads' HO155.out).1; omega) | simpa using h_)
                    obtain rfl := k43_openM hM62
                    have HP62 := (Kd.R_seg HO155.out ((ji49) : Int) (of_decide_eq_true (by first | (with_reducible assumption) | assumption)) (by have h_ : ((ji49) : Int) < ((y153.length : Int) : Int) := of_decide_eq_true (by first | (with_reducible assumption) | assumption); first | exact h_ | (have e_ := (Kd.R_reads' HO155.out).1; omega) | simpa using h_) (seg := [.string (((rd_T43 y153 (ji49)).f3) ++ (a1.extract (x9_2 : Int).toNat ((wrap64 (x9_2 + 1)) : Int).toNat))]) (j := 3) hcl62 hcc62 (show 4 ≤ 4 from by decide) (x' := (⟨(rd_T43 y153 (ji49)).f0, (rd_T43 y153 (ji49)).f1, (rd_T43 y153 (ji49)).f2, ((rd_T43 y153 (ji49)).f3) ++ (a1.extract (x9_2 : Int).toNat ((wrap64 (x9_2 + 1)) : Int).toNat)⟩ : S43)) (k43_mkM _ _ _ (⟨(rd_T43 y153 (ji49)).f0, (rd_T43 y153 (ji49)).f1, (rd_T43 y153 (ji49)).f2, ((rd_T43 y153 (ji49)).f3) ++ (a1.extract (x9_2 : Int).toNat ((wrap64 (x9_2 + 1)) : Int).toNat)⟩ : S43) ) (fun _ hk => hk)).1
                    rw [← Ny157.out] at HP62
                    have HQ62 := Aside0.mk HP62
                    clear hcl62 hcc62 hfr62 hM62 HP62
                    refine start_ (n := 15) (S := fun w' => w'.cell? ⟨go56, (((ji49)).toNat * 4), none⟩ = some (.int .i64 ((rd_T43 y153 (ji49)).f0)) ∧ w'.cell? ⟨go56, (((ji49)).toNat * 4) + 1, none⟩ = some (.int .i64 ((rd_T43 y153 (ji49)).f1)) ∧ w'.cell? ⟨go56, (((ji49)).toNat * 4) + 2, none⟩ = some (.int .i64 ((rd_T43 y153 (ji49)).f2)) ∧ w'.cell? ⟨go56, (((ji49)).toNat * 4) + 3, none⟩ = some (.string ((rd_T43 y153 (ji49)).f3))) (ds := [14]) #[false, false, false, false, false, false, false, false, false, false, false, false, false, false, false] (by kernel_rfl) rfl rfl ⟨hx156_0, hx156_1, hx156_2, hx156_3⟩ (fun hHeld => ?_); refine with_tabW spec_MakeOps.tab14 spec_MakeOps.bits14 (fun HT_ HW_ => ?_)
                    generalize w59.drew = w60 at HO155 HB GG56 HQ62 hf56_0 hf56_1 hf56_2 hf56_3 hx156_0 hx156_1 hx156_2 hx156_3 hx56_0 hx56_1 hx56_2 hx56_3 hHeld ⊢
                    refine pure_ (i := 0) (N := some 69) (v := ?_) (a' := ?_) #[true, false, false, false, false, false, false, false, false, false, false, false, false, false, false] rfl rfl (any_of HT_.out (by kernel_rfl)) (fun _ _ _ h => h) (Or.inl ⟨by rfl, ?_⟩) ?_ ?_
                    rotate_left
                    ·intro w'
                     go_simp
                     with_reducible rfl
                    rotate_left
                    ·simp only [Act.put, List.setIfInBounds_toArray, List.set_cons_zero, List.set_cons_succ, i64_w, i32_w]
                     rfl
                    refine pure_ (i := 1) (N := some 70) (v := ?_) (a' := ?_) #[true, true, false, false, false, false, false, false, false, false, false, false, false, false, false] rfl rfl (any_of HT_.out (by kernel_rfl)) (fun _ _ _ h => h) (Or.inl ⟨by rfl, ?_⟩) ?_ ?_
                    rotate_left
                    ·intro w'
                     go_simp
                     with_reducible rfl
                    rotate_left
                    ·simp only [Act.put, List.setIfInBounds_toArray, List.set_cons_zero, List.set_cons_succ, i64_w, i32_w]
                     rfl
                    refine pure_ (i := 2) (N := some 71) (v := ?_) (a' := ?_) #[true, true, true, false, false, false, false, false, false, false, false, false, false, false, false] rfl rfl (any_of HT_.out (by kernel_rfl)) (fun _ _ _ h => h) (Or.inl ⟨by rfl, ?_⟩) ?_ ?_
                    rotate_left
                    ·intro w'
                     go_simp
                     with_reducible rfl
                    rotate_left
                    ·simp only [Act.put, List.setIfInBounds_toArray, List.set_cons_zero, List.set_cons_succ, i64_w, i32_w]
                     rfl
                    refine pure_ (i := 3) (N := some 72) (v := ?_) (a' := ?_) #[true, true, true, true, false, false, false, false, false, false, false, false, false, false, false] rfl rfl (any_of HT_.out (by kernel_rfl)) (fun _ _ _ h => h) (Or.inl ⟨by rfl, ?_⟩) ?_ ?_
                    rotate_left
                    ·intro w'
                     go_simp
                     with_reducible rfl
                    rotate_left
                    ·simp only [Act.put, List.setIfInBounds_toArray, List.set_cons_zero, List.set_cons_succ, i64_w, i32_w]
                     rfl
                    refine pure_ (i := 4) (N := some 73) (v := ?_) (a' := ?_) #[true, true, true, true, true, false, false, false, false, false, false, false, false, false, false] rfl rfl (any_of HT_.out (by kernel_rfl)) (fun _ _ _ h => h) (Or.inl ⟨by rfl, ?_⟩) ?_ ?_
                    rotate_left
                    ·intro w'
                     go_simp
                     with_reducible rfl
                    rotate_left
                    ·simp only [Act.put, List.setIfInBounds_toArray, List.set_cons_zero, List.set_cons_succ, i64_w, i32_w]
                     rfl
                    refine pure_ (i := 6) (N := some 75) (v := ?_) (a' := ?_) #[true, true, true, true, true, false, true, false, false, false, false, false, false, false, false] rfl rfl (any_of HT_.out (by kernel_rfl)) (fun _ _ _ h => h) (Or.inl ⟨by rfl, ?_⟩) ?_ ?_
                    rotate_left
                    ·intro w'
                     go_simp
                     with_reducible rfl
                    rotate_left
                    ·simp only [Act.put, List.setIfInBounds_toArray, List.set_cons_zero, List.set_cons_succ, i64_w, i32_w]
                     rfl
                    refine pure_ (i := 7) (N := some 76) (v := ?_) (a' := ?_) #[true, true, true, true, true, false, true, true, false, false, false, false, false, false, false] rfl rfl (any_of HT_.out (by kernel_rfl)) (fun _ _ _ h => h) (Or.inl ⟨by rfl, ?_⟩) ?_ ?_
                    rotate_left
                    ·intro w'
                     go_simp
                     with_reducible rfl
                    rotate_left
                    ·simp only [Act.put, List.setIfInBounds_toArray, List.set_cons_zero, List.set_cons_succ, i64_w, i32_w]
                     rfl
                    refine pure_ (i := 8) (N := some 77) (v := ?_) (a' := ?_) #[true, true, true, true, true, false, true, true, true, false, false, false, false, false, false] rfl rfl (any_of HT_.out (by kernel_rfl)) (fun _ _ _ h => h) (Or.inl ⟨by rfl, ?_⟩) ?_ ?_
                    rotate_left
                    ·intro w'
                     go_simp
                     with_reducible rfl
                    rotate_left
                    ·simp only [Act.put, List.setIfInBounds_toArray, List.set_cons_zero, List.set_cons_succ, i64_w, i32_w]
                     rfl
                    refine pure_ (i := 9) (N := some 78) (v := ?_) (a' := ?_) #[true, true, true, true, true, false, true, true, true, true, false, false, false, false, false] rfl rfl (any_of HT_.out (by kernel_rfl)) (fun _ _ _ h => h) (Or.inl ⟨by rfl, ?_⟩) ?_ ?_
                    rotate_left
                    ·intro w'
                     go_simp
                     with_reducible rfl
                    rotate_left
                    ·simp only [Act.put, List.setIfInBounds_toArray, List.set_cons_zero, List.set_cons_succ, i64_w, i32_w]
                     rfl
                    refine pure_ (i := 10) (N := some 79) (v := ?_) (a' := ?_) #[true, true, true, true, true, false, true, true, true, true, true, false, false, false, false] rfl rfl (any_of HT_.out (by kernel_rfl)) (fun _ _ _ h => h) (Or.inl ⟨by rfl, ?_⟩) ?_ ?_
                    rotate_left
                    ·intro w'
                     go_simp
                     with_reducible rfl
                    rotate_left
                    ·simp only [Act.put, List.setIfInBounds_toArray, List.set_cons_zero, List.set_cons_succ, i64_w, i32_w]
                     rfl
                    refine take_ (i := 5) (N := some 74) (v := ?_) (a' := ?_) #[true, true, true, true, true, true, true, true, true, true, true, false, false, false, false] rfl rfl (take_ofW HT_.out HW_.out (by kernel_rfl)) (fun _ _ _ h => h) (Or.inl ⟨by rfl, ?_⟩) hHeld ?_ ?_
                    rotate_left
                    ·rintro w' ⟨s0, s1, s2, s3⟩
                     go_simp
                     with_reducible rfl
                    rotate_left
                    ·simp only [Act.put, List.setIfInBounds_toArray, List.set_cons_zero, List.set_cons_succ, i64_w, i32_w]
                     rfl
                    refine pure_ (i := 11) (N := some 80) (v := ?_) (a' := ?_) #[true, true, true, true, true, true, true, true, true, true, true, true, false, false, false] rfl rfl (any_of HT_.out (by kernel_rfl)) (fun _ _ _ h => h) (Or.inl ⟨by rfl, ?_⟩) ?_ ?_
                    rotate_left
                    ·intro w'
                     go_simp
                     with_reducible rfl
                    rotate_left
                    ·simp only [Act.put, List.setIfInBounds_toArray, List.set_cons_zero, List.set_cons_succ, i64_w, i32_w]
                     rfl
                    refine pure_ (i := 12) (N := some 81) (v := ?_) (a' := ?_) #[true, true, true, true, true, true, true, true, true, true, true, true, true, false, false] rfl rfl (any_of HT_.out (by kernel_rfl)) (fun _ _ _ h => h) (Or.inl ⟨by rfl, ?_⟩) ?_ ?_
                    rotate_left
                    ·intro w'
                     go_simp
                     with_reducible rfl
                    rotate_left
                    ·simp only [Act.put, List.setIfInBounds_toArray, List.set_cons_zero, List.set_cons_succ, i64_w, i32_w]
                     rfl
                    refine pure_ (i := 13) (N := some 82) (v := ?_) (a' := ?_) #[true, true, true, true, true, true, true, true, true, true, true, true, true, true, false] rfl rfl (any_of HT_.out (by kernel_rfl)) (fun _ _ _ h => h) (Or.inl ⟨by rfl, ?_⟩) ?_ ?_
                    rotate_left
                    ·intro w'
                     go_simp
                     with_reducible rfl
                    rotate_left
                    ·simp only [Act.put, List.setIfInBounds_toArray, List.set_cons_zero, List.set_cons_succ, i64_w, i32_w]
                     rfl
                    refine last_ (i := 14) (N := none) #[true, true, true, true, true, true, true, true, true, true, true, true, true, true, true] rfl rfl (one_of HT_.out (by kernel_rfl)) (by decide) (fun K hK => ?_)
                    refine skip_ (w1 := ?_) (by rfl) rfl ?_ ?_
                    rotate_left
                    ·go_simp
                     rfl
                    refine hK.out _ _ ?_
                    clear hK K
                    refine done_ (done_of HT_.out (by kernel_rfl)) ?_
                    try go_wp2
                    go_roundg k2
                    case measure => have := HJ3.out; have := HK2.out; omega
                    case rel => exact ⟨(y157), (wrap64 (x9_2 + 1)), (by first | rfl | (simp; done) | (simp [*]; done)), H', ⟨by have := HJ3.out; have := HK2.out; omega⟩, ⟨by (with_reducible repeat (first | apply Kd.R_alloc | apply Kd.R_drewN | apply Kd.R_drew)); exact HQ62.out⟩, ⟨by repeat (first | (with_reducible first | exact HB.out | apply below_alloc | apply pw_below_drewN | apply below_drew1 | refine below_set ?_ GB56.out) | exact HB.out)⟩⟩
                   ·rw [if_neg c55] at H
                    exact absurd H (by simp)
                  ·rw [if_neg c54] at H
                   exact absurd H (by simp)
                 ·rw [if_neg c53] at H
                  exact absurd H (by simp)
                ·rw [if_neg c51] at H
                 exact absurd H (by simp)
               ·rw [if_neg c50] at H
                exact absurd H (by simp)
              ·rw [if_neg c48] at H
               exact absurd H (by simp)
            ·rw [if_neg c37] at H
             exact absurd H (by simp)
           ·rw [if_neg c36] at H
            exact absurd H (by simp)
        ·rw [if_neg c13] at H
         exact absurd H (by simp)
       ·rw [if_neg c12] at H
        exact absurd H (by simp)
      ·rw [if_neg c11] at H
       have c11b0 : decide (x9_2 < (a1.size : Int)) = false := decide_eq_false c11
       clear c11
       simp only [Option.some.injEq, Prod.mk.injEq] at H
       obtain ⟨rfl, rfl⟩ := H
       go_wp2
       go_ret2
       exact ⟨_, by first | rfl | (simp [errW_none, errW_some] <;> rfl) | (simp [*, errW_none, errW_some] <;> rfl), by (with_reducible repeat (first | apply Kd.R_alloc | apply Kd.R_drewN | apply Kd.R_drew)); exact HO_8.out, by repeat (first | (with_reducible first | exact HB.out | apply below_alloc | apply pw_below_drewN | apply below_drew1) | exact HB.out)⟩

end Go.Proofs.Ytnhnlfkbngnkpaa.D
