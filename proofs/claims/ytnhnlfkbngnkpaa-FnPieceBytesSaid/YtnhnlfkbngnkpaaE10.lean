-- Made by a program of this session out of the translation; no hand has turned it.
import Derived.Test.YtnhnlfkbngnkpaaE0
import Derived.Test.YtnhnlfkbngnkpaaE3
import Derived.Test.YtnhnlfkbngnkpaaE9
namespace Go.Proofs.Ytnhnlfkbngnkpaa.E
open Go.RowKit Go.Proofs.YtnhnlfkbngnkpaaW.PrintWords Go.Proofs.YtnhnlfkbngnkpaaW.PrintLast Go.Proofs.YtnhnlfkbngnkpaaW.PrintMore
attribute [local go_sem] qXb qbc qac qec qZb qdc qYb qcc   -- for this text's walks alone
set_option linter.unusedVariables false
set_option linter.unusedSimpArgs false

/-! ### qS: function 26 -/
mutual
def qS.j0 : Nat → ByteArray → ByteArray → Int → Bool → Option ((List (S43)) × Bool)
 | 0, _, _, _, _ => none
 | k + 1, x0, x1, x2, x25 => if x25 = true then (some (([] : List (S43)), false)) else (qS.l0 k x0 x1 x2 ([] : List (S43)) 0)
def qS.l0 : Nat → ByteArray → ByteArray → Int → List (S43) → Int → Option ((List (S43)) × Bool)
 | 0, _, _, _, _, _ => none
 | k + 1, x0, x1, x2, x8, x9 => if x9 < (x1.size : Int) then (if 0 ≤ x9 then (if x9 ≤ (x1.size : Int) then ((qab.f k x0 (x1.extract (x9 : Int).toNat x1.size)).bind fun bt249 => (if bt249.2 ≥ x2 then (if x8.length < 3518437208883 then (qS.l0 k x0 x1 x2 (x8 ++ [(⟨1, bt249.1, bt249.2, (⟨#[]⟩ : ByteArray)⟩ : S43)]) (wrap64 (x9 + bt249.2))) else (none)) else (if (x8.length : Int) = 0 then (if x8.length < 3518437208883 then ((some (x8 ++ [(⟨2, 0, 0, (⟨#[]⟩ : ByteArray)⟩ : S43)] : List (S43))).bind fun y254 => (if 0 ≤ (wrap64 ((wrap64 ((x8.length : Int) + 1)) - 1)) then (if (wrap64 ((wrap64 ((x8.length : Int) + 1)) - 1)) < (y254.length : Int) then (if x9 ≤ (wrap64 (x9 + 1)) then (if (wrap64 (x9 + 1)) ≤ (x1.size : Int) then (if ((qc y254 (wrap64 ((wrap64 ((x8.length : Int) + 1)) - 1))).f3).size + (x1.extract (x9 : Int).toNat ((wrap64 (x9 + 1)) : Int).toNat).size ≤ 9223372036854775807 then (qS.l0 k x0 x1 x2 (y254.set ((wrap64 ((wrap64 ((x8.length : Int) + 1)) - 1)) : Int).toNat (⟨(qc y254 (wrap64 ((wrap64 ((x8.length : Int) + 1)) - 1))).f0, (qc y254 (wrap64 ((wrap64 ((x8.length : Int) + 1)) - 1))).f1, (qc y254 (wrap64 ((wrap64 ((x8.length : Int) + 1)) - 1))).f2, ((qc y254 (wrap64 ((wrap64 ((x8.length : Int) + 1)) - 1))).f3) ++ (x1.extract (x9 : Int).toNat ((wrap64 (x9 + 1)) : Int).toNat)⟩ : S43)) (wrap64 (x9 + 1))) else (none)) else (none)) else (none)) else (none)) else (none))) else (none)) else (if 0 ≤ (wrap64 ((x8.length : Int) - 1)) then (if (wrap64 ((x8.length : Int) - 1)) < (x8.length : Int) then (if ((qc x8 (wrap64 ((x8.length : Int) - 1))).f0) = 2 then (if x9 ≤ (wrap64 (x9 + 1)) then (if (wrap64 (x9 + 1)) ≤ (x1.size : Int) then (if ((qc x8 (wrap64 ((x8.length : Int) - 1))).f3).size + (x1.extract (x9 : Int).toNat ((wrap64 (x9 + 1)) : Int).toNat).size ≤ 9223372036854775807 then (qS.l0 k x0 x1 x2 (x8.set ((wrap64 ((x8.length : Int) - 1)) : Int).toNat (⟨(qc x8 (wrap64 ((x8.length : Int) - 1))).f0, (qc x8 (wrap64 ((x8.length : Int) - 1))).f1, (qc x8 (wrap64 ((x8.length : Int) - 1))).f2, ((qc x8 (wrap64 ((x8.length : Int) - 1))).f3) ++ (x1.extract (x9 : Int).toNat ((wrap64 (x9 + 1)) : Int).toNat)⟩ : S43)) (wrap64 (x9 + 1))) else (none)) else (none)) else (none)) else (if x8.length < 3518437208883 then ((some (x8 ++ [(⟨2, 0, 0, (⟨#[]⟩ : ByteArray)⟩ : S43)] : List (S43))).bind fun y262 => (if 0 ≤ (wrap64 ((wrap64 ((x8.length : Int) + 1)) - 1)) then (if (wrap64 ((wrap64 ((x8.length : Int) + 1)) - 1)) < (y262.length : Int) then (if x9 ≤ (wrap64 (x9 + 1)) then (if (wrap64 (x9 + 1)) ≤ (x1.size : Int) then (if ((qc y262 (wrap64 ((wrap64 ((x8.length : Int) + 1)) - 1))).f3).size + (x1.extract (x9 : Int).toNat ((wrap64 (x9 + 1)) : Int).toNat).size ≤ 9223372036854775807 then (qS.l0 k x0 x1 x2 (y262.set ((wrap64 ((wrap64 ((x8.length : Int) + 1)) - 1)) : Int).toNat (⟨(qc y262 (wrap64 ((wrap64 ((x8.length : Int) + 1)) - 1))).f0, (qc y262 (wrap64 ((wrap64 ((x8.length : Int) + 1)) - 1))).f1, (qc y262 (wrap64 ((wrap64 ((x8.length : Int) + 1)) - 1))).f2, ((qc y262 (wrap64 ((wrap64 ((x8.length : Int) + 1)) - 1))).f3) ++ (x1.extract (x9 : Int).toNat ((wrap64 (x9 + 1)) : Int).toNat)⟩ : S43)) (wrap64 (x9 + 1))) else (none)) else (none)) else (none)) else (none)) else (none))) else (none))) else (none)) else (none))))) else (none)) else (none)) else (some (x8, true))
end
def qS.f (k : Nat) (a0 : ByteArray) (a1 : ByteArray) (a2 : Int) : Option ((List (S43)) × Bool) := (qGb.f a0).bind fun t246 => (if t246 = true then ((qGb.f a1).bind fun t247 => (if t247 = true then ((qHb.f a2 1 300).bind fun t248 => (qS.j0 k a0 a1 a2 (!t248))) else (qS.j0 k a0 a1 a2 true))) else (qS.j0 k a0 a1 a2 true))
theorem qS.qjb : ∀ k, (∀ y0 y1 y2 y3, LeO (qS.j0 k y0 y1 y2 y3) (qS.j0 (k + 1) y0 y1 y2 y3)) ∧ (∀ y0 y1 y2 y3 y4, LeO (qS.l0 k y0 y1 y2 y3 y4) (qS.l0 (k + 1) y0 y1 y2 y3 y4))
 | 0 => ⟨fun _ _ _ _ r h => by simp [qS.j0] at h, fun _ _ _ _ _ r h => by simp [qS.l0] at h⟩
 | k + 1 => by
  obtain ⟨ih0, ih1⟩ := qS.qjb k
  refine ⟨?_, ?_⟩
  ·intro y0 y1 y2 y3
   unfold qS.j0
   repeat' first
   | (with_reducible exact ih0 _ _ _ _)
   | (with_reducible exact ih1 _ _ _ _ _)
   | (with_reducible exact qab.mono _ _ _)
   | (with_reducible exact LeO.refl _)
   | (with_reducible exact LeO.none _)
   | (with_reducible refine LeO.ite ?_ ?_)
   | (with_reducible refine LeO.bind ?_ (fun _ => ?_))
   | exact LeO.none _
   | refine LeO.ite ?_ ?_
   | refine LeO.bind ?_ (fun _ => ?_)
  ·intro y0 y1 y2 y3 y4
   unfold qS.l0
   repeat' first
   | (with_reducible exact ih0 _ _ _ _)
   | (with_reducible exact ih1 _ _ _ _ _)
   | (with_reducible exact qab.mono _ _ _)
   | (with_reducible exact LeO.refl _)
   | (with_reducible exact LeO.none _)
   | (with_reducible refine LeO.ite ?_ ?_)
   | (with_reducible refine LeO.bind ?_ (fun _ => ?_))
   | exact LeO.none _
   | refine LeO.ite ?_ ?_
   | refine LeO.bind ?_ (fun _ => ?_)
theorem qS.mono : ∀ a0 a1 a2 k, LeO (qS.f k a0 a1 a2) (qS.f (k + 1) a0 a1 a2) := by
 intro a0 a1 a2 k
 obtain ⟨ih0, ih1⟩ := qS.qjb k
 unfold qS.f
 repeat' first
   | (with_reducible exact ih0 _ _ _ _)
   | (with_reducible exact ih1 _ _ _ _ _)
   | (with_reducible exact qab.mono _ _ _)
   | (with_reducible exact LeO.refl _)
   | (with_reducible exact LeO.none _)
   | (with_reducible refine LeO.ite ?_ ?_)
   | (with_reducible refine LeO.bind ?_ (fun _ => ?_))
   | exact LeO.none _
   | refine LeO.ite ?_ ?_
   | refine LeO.bind ?_ (fun _ => ?_)
def qS.T14 : Bool × List (List Nat × List Nat) := (true, [([], []), ([], []), ([1], [1]), ([0, 2], [0, 2]), ([3], [3]), ([4], [4]), ([], []), ([], []), ([], []), ([8], [8]), ([6, 7, 9], [6, 7, 9]), ([5, 10], [5, 10]), ([0, 2, 0, 1, 2, 3, 4, 5, 6, 7, 8, 9, 10, 11], [0, 2]), ([12, 0, 1, 2, 3, 4, 5, 6, 7, 8, 9, 10, 11], [12]), ([13, 11, 0, 1, 2, 3, 4, 5, 6, 7, 8, 9, 10, 11], [11, 13])])
def qS.B14 : List Nat := [0, 0, 2, 7, 15, 31, 0, 0, 0, 256, 960, 2047, 4095, 8191, 16383]
theorem qS.tab14 : rtab .any (opsOf Try.f26 14) = qS.T14 := by kernel_rfl
theorem qS.bits14 : waitsOk qS.T14.2 qS.B14 = true := by kernel_rfl
set_option maxHeartbeats 8000000 in
set_option maxRecDepth 100000 in
theorem qS.calls (k : Nat) (a0 : ByteArray) (a1 : ByteArray) (a2 : Int) (r1 : List (S43)) (r2 : Bool) (w : World) (h : qS.f k a0 a1 a2 = some (r1, r2)) :
  Calls Try.prog 26 #[.string a0, .string a1, .int .i64 a2] w fun e w' => ∃ v0_ : Value, e = .returned (.tuple #[v0_, .bool r2]) ∧ Kd.R k43 43 w' w.heap.size (fun _ => True) v0_ r1 ∧ Below w.heap.size w w' := by
 have hu43 := Try.underlying43
 have HB := qb.mk (Below.refl w.heap.size w)
 have H : ((qGb.f a0).bind fun t246 => (if t246 = true then ((qGb.f a1).bind fun t247 => (if t247 = true then ((qHb.f a2 1 300).bind fun t248 => (qS.j0 k a0 a1 a2 (!t248))) else (qS.j0 k a0 a1 a2 true))) else (qS.j0 k a0 a1 a2 true))) = some (r1, r2) := h
 clear h
 have HC4 := qb.mk H
 clear H
 go_enter Try.func26, Try.ntmps26
 go_upto_region 1 with (fail)
 go_cut [25] (fun v25 wc => ∃ (kq : Nat) (x25_3 : Bool), v25 = .bool x25_3 ∧ qb (qS.j0 kq a0 a1 a2 x25_3 = some (r1, r2)) ∧ qb (kq ≤ k) ∧ qb (Below w.heap.size w wc))
 case first =>
  have H := HC4.out
  clear HC4
  replace H := Option.bind_eq_some_iff.mp H
  obtain ⟨t246, A50, H⟩ := H
  try dsimp only at H
  have A5 := qb.mk A50
  clear A50
  by_cases c6 : t246 = true
  ·subst c6
   rw [if_pos rfl] at H
   replace H := Option.bind_eq_some_iff.mp H
   obtain ⟨t247, A70, H⟩ := H
   try dsimp only at H
   have A7 := qb.mk A70
   clear A70
   by_cases c8 : t247 = true
   ·subst c8
    rw [if_pos rfl] at H
    replace H := Option.bind_eq_some_iff.mp H
    obtain ⟨t248, A90, H⟩ := H
    try dsimp only at H
    have A9 := qb.mk A90
    clear A90
    have H' := qb.mk H
    clear H
    go_wp2_with (first | ((with_reducible refine qy (f := 65) rfl ?_); refine qz (some 14) rfl rfl Try.func65 (by kernel_rfl) rfl #[.string a0] rfl (by (try simp only [List.map_toArray, List.map_cons, List.map_nil]); first | done | rfl | (simp only [List.length_drop, List.length_take]; rfl)) ?_; (with_reducible refine (qGb.calls a0 true _ A5.out).mono ?_); rintro e w' ⟨rfl, ⟨nd, rfl⟩⟩; refine ⟨_, rfl, ?_⟩) | (go_at_call 65; (with_reducible refine (qGb.calls a1 true _ A7.out).mono ?_); rintro e w' ⟨rfl, ⟨nd, rfl⟩⟩) | (go_at_call 54; (with_reducible refine (qHb.calls a2 1 300 t248 _ A9.out).mono ?_); rintro e w' ⟨rfl, ⟨nd, rfl⟩⟩))
    go_meet
    case rel => exact ⟨_, (!t248), (by first | rfl | (simp; done) | (simp [*]; done)), H', ⟨by first | omega | exact Nat.le_refl _⟩, ⟨by repeat (first | (with_reducible first | exact HB.out | apply qf | apply qg | apply qe) | exact HB.out)⟩⟩
   ·replace c8 := Bool.eq_false_iff.mpr c8
    subst c8
    rw [if_neg (show ¬ (false = true) by decide)] at H
    have H' := qb.mk H
    clear H
    go_wp2_with (first | ((with_reducible refine qy (f := 65) rfl ?_); refine qz (some 14) rfl rfl Try.func65 (by kernel_rfl) rfl #[.string a0] rfl (by (try simp only [List.map_toArray, List.map_cons, List.map_nil]); first | done | rfl | (simp only [List.length_drop, List.length_take]; rfl)) ?_; (with_reducible refine (qGb.calls a0 true _ A5.out).mono ?_); rintro e w' ⟨rfl, ⟨nd, rfl⟩⟩; refine ⟨_, rfl, ?_⟩) | (go_at_call 65; (with_reducible refine (qGb.calls a1 false _ A7.out).mono ?_); rintro e w' ⟨rfl, ⟨nd, rfl⟩⟩))
    go_meet
    case rel => exact ⟨_, (true), (by first | rfl | (simp; done) | (simp [*]; done)), H', ⟨by first | omega | exact Nat.le_refl _⟩, ⟨by repeat (first | (with_reducible first | exact HB.out | apply qf | apply qg | apply qe) | exact HB.out)⟩⟩
  ·replace c6 := Bool.eq_false_iff.mpr c6
   subst c6
   rw [if_neg (show ¬ (false = true) by decide)] at H
   have H' := qb.mk H
   clear H
   go_wp2_with (first | ((with_reducible refine qy (f := 65) rfl ?_); refine qz (some 14) rfl rfl Try.func65 (by kernel_rfl) rfl #[.string a0] rfl (by (try simp only [List.map_toArray, List.map_cons, List.map_nil]); first | done | rfl | (simp only [List.length_drop, List.length_take]; rfl)) ?_; (with_reducible refine (qGb.calls a0 false _ A5.out).mono ?_); rintro e w' ⟨rfl, ⟨nd, rfl⟩⟩; refine ⟨_, rfl, ?_⟩))
   go_meet
   case rel => exact ⟨_, (true), (by first | rfl | (simp; done) | (simp [*]; done)), H', ⟨by first | omega | exact Nat.le_refl _⟩, ⟨by repeat (first | (with_reducible first | exact HB.out | apply qf | apply qg | apply qe) | exact HB.out)⟩⟩
 case rest =>
  clear HC4
  try clear c2
  try clear p2
  try clear c6
  try clear c8
  obtain ⟨kq, x25_3, rfl, HA, HJ3, HB⟩ := hcut
  cases kq with
  | zero => exact absurd HA.out (by simp [qS.j0])
  | succ kj3 =>
   have H := HA.out
   clear HA
   simp only [qS.j0] at H
   by_cases c10 : x25_3 = true
   ·subst c10
    rw [if_pos rfl] at H
    simp only [Option.some.injEq, Prod.mk.injEq] at H
    obtain ⟨rfl, rfl⟩ := H
    go_wp2
    go_ret2
    exact ⟨_, by first | rfl | (simp [qv, qu] <;> rfl) | (simp [*, qv, qu] <;> rfl), by first | exact Kd.R_nil _ _ _ _ _ | exact Kd.N_nil _ _ _ _ _ | exact Kd.V_nil _ _ _ _ _ | exact Kd.Q_nil _ _ _ _ _ | exact Kd.S_nil _ _ _ _ _, by repeat (first | (with_reducible first | exact HB.out | apply qf | apply qg | apply qe) | exact HB.out)⟩
   ·replace c10 := Bool.eq_false_iff.mpr c10
    subst c10
    rw [if_neg (show ¬ (false = true) by decide)] at H
    have H' := qb.mk H
    clear H
    go_wp2
    go_loopg [8, 9] kj3 (fun kq v8 v9 w' => ∃ (x8_2 : List (S43)) (x9_2 : Int), v9 = .int .i64 x9_2 ∧ qb (qS.l0 kq a0 a1 a2 x8_2 x9_2 = some (r1, r2)) ∧ qb (kq ≤ kj3) ∧ qb (Kd.R k43 43 w' w.heap.size (fun _ => True) v8 x8_2) ∧ qb (Below w.heap.size w w'))
    case atStart => exact ⟨(([] : List (S43))), (0), (by first | rfl | (simp; done) | (simp [*]; done)), H', ⟨Nat.le_refl _⟩, ⟨by first | exact Kd.R_nil _ _ _ _ _ | exact Kd.N_nil _ _ _ _ _ | exact Kd.V_nil _ _ _ _ _ | exact Kd.Q_nil _ _ _ _ _ | exact Kd.S_nil _ _ _ _ _⟩, ⟨by repeat (first | (with_reducible first | exact HB.out | apply qf | apply qg | apply qe) | exact HB.out)⟩⟩
    case round =>
     clear H'
     try clear c1
     try clear c2
     try clear p2
     try clear c6
     try clear c8
     try clear c10
     try clear p2
     obtain ⟨x8_2, x9_2, rfl, HA, HK2, HO_8, HB⟩ := hrel
     cases gk with
     | zero => exact absurd HA.out (by simp [qS.l0])
     | succ k2 =>
      have H := HA.out
      clear HA
      simp only [qS.l0] at H
      by_cases c11 : x9_2 < (a1.size : Int)
      ·rw [if_pos c11] at H
       have c11b0 : decide (x9_2 < (a1.size : Int)) = true := decide_eq_true c11
       clear c11
       by_cases c12 : 0 ≤ x9_2
       ·rw [if_pos c12] at H
        have c12b0 := eq_true c12
        have c12b1 : decide (0 ≤ x9_2) = true := decide_eq_true c12
        clear c12
        by_cases c13 : x9_2 ≤ (a1.size : Int)
        ·rw [if_pos c13] at H
         have c13b0 := eq_true c13
         have c13b1 : decide (x9_2 ≤ (a1.size : Int)) = true := decide_eq_true c13
         clear c13
         replace H := Option.bind_eq_some_iff.mp H
         obtain ⟨⟨t249, t250⟩, A140, H⟩ := H
         try dsimp only at H
         have A14 := qb.mk A140
         clear A140
         by_cases c15 : t250 ≥ a2
         ·rw [if_pos c15] at H
          have c15b0 : decide (a2 ≤ t250) = true := decide_eq_true c15
          clear c15
          by_cases c16 : x8_2.length < 3518437208883
          ·rw [if_pos c16] at H
           have LMc16 := qb.mk c16
           clear c16
           obtain ⟨y251, hy251⟩ : ∃ y_ : List (S43), y_ = (x8_2 ++ [(⟨1, t249, t250, (⟨#[]⟩ : ByteArray)⟩ : S43)]) := ⟨_, rfl⟩
           replace H : (qS.l0 k2 a0 a1 a2 y251 (wrap64 (x9_2 + t250))) = some (r1, r2) := by first | (rw [hy251]; with_reducible exact H) | (have H2_ := (Option.bind_some _ _).symm.trans H; rw [hy251]; with_reducible exact H2_) | (have H2_ := (Option.bind_some _ _).symm.trans H; with_reducible exact H2_) | with_reducible exact H | (rw [hy251]; exact H) | exact H
           have Ny251 := qb.mk hy251
           clear hy251
           have H' := qb.mk H
           clear H
           go_wp2_with (first | ((with_reducible refine qy (f := 66) rfl ?_); refine qz (some 35) rfl rfl Try.func66 (by kernel_rfl) rfl #[.string a0, .string (a1.extract (x9_2 : Int).toNat a1.size)] rfl (by (try simp only [List.map_toArray, List.map_cons, List.map_nil]); first | done | rfl | (simp only [List.length_drop, List.length_take]; rfl)) ?_; (with_reducible refine (qab.calls k2 a0 (a1.extract (x9_2 : Int).toNat a1.size) t249 t250 _ A14.out).mono ?_); rintro e w17 ⟨rfl, hb⟩; refine ⟨_, rfl, ?_⟩; replace HO_8 := qb.mk (Kd.qX (by (with_reducible repeat (first | apply Kd.qo | apply Kd.qn | apply Kd.qm)); exact HO_8.out) hb); replace HB := qb.mk (qE (by repeat (first | (with_reducible first | exact HB.out | apply qf | apply qg | apply qe) | exact HB.out)) hb); (try clear hb); (try clear hb2); (try clear hk); (try clear hi)) | ((with_reducible refine qhc (b := .append) (xs := #[.tmp 41, .tmp 45]) rfl ?_); at_builtin; refine Kd.qkc k43 (w0 := w) w.heap.size rfl (.tmp 41) (.tmp 45) 26 43 (.agg #[(.int .i64 0), (.int .i64 0), (.int .i64 0), (.string ⟨#[]⟩)]) 40 rfl Try.underlying26 info43 rfl (by decide) (by omega) u8 x8_2 (⟨1, t249, t250, (⟨#[]⟩ : ByteArray)⟩ : S43) [.int .i64 1, .int .i64 t249, .int .i64 t250, .string (⟨#[]⟩ : ByteArray)] (fun _ => True) (fun _ => False) rfl rfl ?aP (fun _ hk => hk.elim) ?aF ?aO ?aB ?aS ?aL ?_; (case aP => exact qvb _ _ _ (⟨1, t249, t250, (⟨#[]⟩ : ByteArray)⟩ : S43)); (case aB => exact (by repeat (first | (with_reducible first | exact HB.out | apply qf | apply qg | apply qe) | exact HB.out))); (case aF => exact (fun _ _ => trivial)); (case aO => exact (by (with_reducible repeat (first | apply Kd.qo | apply Kd.qn | apply Kd.qm)); exact HO_8.out)); (case aS => exact (qG (by repeat (first | (with_reducible first | exact HB.out | apply qf | apply qg | apply qe) | exact HB.out)))); (case aL => have := LMc16.out; omega); intro v252 w18 ho hb hg hat; rw [← Ny251.out] at ho; have HO253 := qb.mk (ho); replace HB := qb.mk (hb); clear HO_8; clear ho hb hg hat))
           go_roundg k2
           case measure => have := HJ3.out; have := HK2.out; omega
           case rel => exact ⟨(y251), (wrap64 (x9_2 + t250)), (by first | rfl | (simp; done) | (simp [*]; done)), H', ⟨by have := HJ3.out; have := HK2.out; omega⟩, ⟨by (with_reducible repeat (first | apply Kd.qo | apply Kd.qn | apply Kd.qm)); exact HO253.out⟩, ⟨by repeat (first | (with_reducible first | exact HB.out | apply qf | apply qg | apply qe) | exact HB.out)⟩⟩
          ·rw [if_neg c16] at H
           exact absurd H (by simp)
         ·rw [if_neg c15] at H
          have c15b0 : decide (a2 ≤ t250) = false := decide_eq_false c15
          clear c15
          by_cases c19 : (x8_2.length : Int) = 0
          ·rw [if_pos c19] at H
           have c19b0 : ((x8_2.length : Int) == 0) = true := beq_iff_eq.mpr c19
           have c19b1 : ((x8_2.length : Int) != 0) = false := bne_eq_false_iff_eq.mpr c19
           clear c19
           by_cases c20 : x8_2.length < 3518437208883
           ·rw [if_pos c20] at H
            have LMc20 := qb.mk c20
            clear c20
            obtain ⟨y254, hy254⟩ : ∃ y_ : List (S43), y_ = (x8_2 ++ [(⟨2, 0, 0, (⟨#[]⟩ : ByteArray)⟩ : S43)]) := ⟨_, rfl⟩
            replace H : (if 0 ≤ (wrap64 ((wrap64 ((x8_2.length : Int) + 1)) - 1)) then (if (wrap64 ((wrap64 ((x8_2.length : Int) + 1)) - 1)) < (y254.length : Int) then (if x9_2 ≤ (wrap64 (x9_2 + 1)) then (if (wrap64 (x9_2 + 1)) ≤ (a1.size : Int) then (if ((qc y254 (wrap64 ((wrap64 ((x8_2.length : Int) + 1)) - 1))).f3).size + (a1.extract (x9_2 : Int).toNat ((wrap64 (x9_2 + 1)) : Int).toNat).size ≤ 9223372036854775807 then (qS.l0 k2 a0 a1 a2 (y254.set ((wrap64 ((wrap64 ((x8_2.length : Int) + 1)) - 1)) : Int).toNat (⟨(qc y254 (wrap64 ((wrap64 ((x8_2.length : Int) + 1)) - 1))).f0, (qc y254 (wrap64 ((wrap64 ((x8_2.length : Int) + 1)) - 1))).f1, (qc y254 (wrap64 ((wrap64 ((x8_2.length : Int) + 1)) - 1))).f2, ((qc y254 (wrap64 ((wrap64 ((x8_2.length : Int) + 1)) - 1))).f3) ++ (a1.extract (x9_2 : Int).toNat ((wrap64 (x9_2 + 1)) : Int).toNat)⟩ : S43)) (wrap64 (x9_2 + 1))) else (none)) else (none)) else (none)) else (none)) else (none)) = some (r1, r2) := by first | (rw [hy254]; with_reducible exact H) | (have H2_ := (Option.bind_some _ _).symm.trans H; rw [hy254]; with_reducible exact H2_) | (have H2_ := (Option.bind_some _ _).symm.trans H; with_reducible exact H2_) | with_reducible exact H | (rw [hy254]; exact H) | exact H
            have Ny254 := qb.mk hy254
            clear hy254
            obtain ⟨ji21, hji21⟩ : ∃ j_ : Int, (wrap64 ((wrap64 ((x8_2.length : Int) + 1)) - 1)) = j_ := ⟨_, rfl⟩
            replace H : (if 0 ≤ (ji21) then (if (ji21) < (y254.length : Int) then (if x9_2 ≤ (wrap64 (x9_2 + 1)) then (if (wrap64 (x9_2 + 1)) ≤ (a1.size : Int) then (if ((qc y254 (ji21)).f3).size + (a1.extract (x9_2 : Int).toNat ((wrap64 (x9_2 + 1)) : Int).toNat).size ≤ 9223372036854775807 then (qS.l0 k2 a0 a1 a2 (y254.set ((ji21) : Int).toNat (⟨(qc y254 (ji21)).f0, (qc y254 (ji21)).f1, (qc y254 (ji21)).f2, ((qc y254 (ji21)).f3) ++ (a1.extract (x9_2 : Int).toNat ((wrap64 (x9_2 + 1)) : Int).toNat)⟩ : S43)) (wrap64 (x9_2 + 1))) else (none)) else (none)) else (none)) else (none)) else (none)) = some (r1, r2) := by first | (rw [hji21] at H; exact H) | (simp only [hji21] at H ⊢; exact H)
            (try rw [hji21] at A14)
            have hji21w : (IntKind.i64.wrap ((wrap64 ((x8_2.length : Int) + 1)) - 1)) = ji21 := (i64_w _).trans hji21
            by_cases c22 : 0 ≤ (ji21)
            ·rw [if_pos c22] at H
             have c22b0 : decide (0 ≤ (ji21)) = true := decide_eq_true c22
             clear c22
             by_cases c23 : (ji21) < (y254.length : Int)
             ·rw [if_pos c23] at H
              have c23b0 : decide ((ji21) < (y254.length : Int)) = true := decide_eq_true c23
              clear c23
              have c24b0 := eq_true (of_decide_eq_true (by first | (with_reducible assumption) | assumption) : 0 ≤ x9_2)
              by_cases c25 : x9_2 ≤ (wrap64 (x9_2 + 1))
              ·rw [if_pos c25] at H
               have c25b0 := eq_true c25
               have c25b1 : decide (x9_2 ≤ (wrap64 (x9_2 + 1))) = true := decide_eq_true c25
               by_cases c26 : (wrap64 (x9_2 + 1)) ≤ (a1.size : Int)
               ·rw [if_pos c26] at H
                have c26b0 := eq_true c26
                have c26b1 : decide ((wrap64 (x9_2 + 1)) ≤ (a1.size : Int)) = true := decide_eq_true c26
                by_cases c27 : ((qc y254 (ji21)).f3).size + (a1.extract (x9_2 : Int).toNat ((wrap64 (x9_2 + 1)) : Int).toNat).size ≤ 9223372036854775807
                ·rw [if_pos c27] at H
                 have c27b0 := eq_true c27
                 have c27b1 : decide (((qc y254 (ji21)).f3).size + (a1.extract (x9_2 : Int).toNat ((wrap64 (x9_2 + 1)) : Int).toNat).size ≤ 9223372036854775807) = true := decide_eq_true c27
                 try have c27b2 : (9223372036854775807 < ((qc y254 (ji21)).f3).size + (a1.extract (x9_2 : Int).toNat ((wrap64 (x9_2 + 1)) : Int).toNat).size) = False := eq_false (Nat.not_lt.2 c27)
                 have c27b3 : ∀ m_ n_ : Nat, m_ = ((qc y254 (ji21)).f3).size → n_ = (a1.extract (x9_2 : Int).toNat ((wrap64 (x9_2 + 1)) : Int).toNat).size → (9223372036854775807 < m_ + n_) = False := fun m_ n_ h1_ h2_ => by rw [h1_, h2_]; exact eq_false (Nat.not_lt.2 c27)
                 obtain ⟨y258, hy258⟩ : ∃ y_ : List (S43), y_ = (y254.set ((ji21) : Int).toNat (⟨(qc y254 (ji21)).f0, (qc y254 (ji21)).f1, (qc y254 (ji21)).f2, ((qc y254 (ji21)).f3) ++ (a1.extract (x9_2 : Int).toNat ((wrap64 (x9_2 + 1)) : Int).toNat)⟩ : S43)) := ⟨_, rfl⟩
                 replace H : (qS.l0 k2 a0 a1 a2 y258 (wrap64 (x9_2 + 1))) = some (r1, r2) := by first | (rw [hy258]; with_reducible exact H) | (have H2_ := (Option.bind_some _ _).symm.trans H; rw [hy258]; with_reducible exact H2_) | (have H2_ := (Option.bind_some _ _).symm.trans H; with_reducible exact H2_) | with_reducible exact H | (rw [hy258]; exact H) | exact H
                 have Ny258 := qb.mk hy258
                 clear hy258
                 have H' := qb.mk H
                 clear H
                 try go_wp2_with (first | ((with_reducible refine qy (f := 66) rfl ?_); refine qz (some 35) rfl rfl Try.func66 (by kernel_rfl) rfl #[.string a0, .string (a1.extract (x9_2 : Int).toNat a1.size)] rfl (by (try simp only [List.map_toArray, List.map_cons, List.map_nil]); first | done | rfl | (simp only [List.length_drop, List.length_take]; rfl)) ?_; (with_reducible refine (qab.calls k2 a0 (a1.extract (x9_2 : Int).toNat a1.size) t249 t250 _ A14.out).mono ?_); rintro e w29 ⟨rfl, hb⟩; refine ⟨_, rfl, ?_⟩; replace HO_8 := qb.mk (Kd.qX (by (with_reducible repeat (first | apply Kd.qo | apply Kd.qn | apply Kd.qm)); exact HO_8.out) hb); replace HB := qb.mk (qE (by repeat (first | (with_reducible first | exact HB.out | apply qf | apply qg | apply qe) | exact HB.out)) hb); (try clear hb); (try clear hb2); (try clear hk); (try clear hi); obtain ⟨Ao30, co30, eo30⟩ := Kd.qfb HO_8.out; subst eo30) | ((with_reducible refine qhc (b := .append) (xs := #[.tmp 63, .tmp 65]) rfl ?_); at_builtin; refine Kd.qkc k43 (w0 := w) w.heap.size rfl (.tmp 63) (.tmp 65) 26 43 (.agg #[(.int .i64 0), (.int .i64 0), (.int .i64 0), (.string ⟨#[]⟩)]) 40 rfl Try.underlying26 info43 rfl (by decide) (by omega) (.slice Ao30 x8_2.length co30) x8_2 (⟨2, 0, 0, (⟨#[]⟩ : ByteArray)⟩ : S43) [.int .i64 2, .int .i64 0, .int .i64 0, .string (⟨#[]⟩ : ByteArray)] (fun _ => True) (fun _ => False) rfl rfl ?aP (fun _ hk => hk.elim) ?aF ?aO ?aB ?aS ?aL ?_; (case aP => exact qvb _ _ _ (⟨2, 0, 0, (⟨#[]⟩ : ByteArray)⟩ : S43)); (case aB => exact (by repeat (first | (with_reducible first | exact HB.out | apply qf | apply qg | apply qe) | exact HB.out))); (case aF => exact (fun _ _ => trivial)); (case aO => exact (by (with_reducible repeat (first | apply Kd.qo | apply Kd.qn | apply Kd.qm)); exact HO_8.out)); (case aS => exact (qG (by repeat (first | (with_reducible first | exact HB.out | apply qf | apply qg | apply qe) | exact HB.out)))); (case aL => have := LMc20.out; omega); intro v255 w31 ho hb hg hat; rw [← Ny254.out] at ho; have HO256 := qb.mk (ho); replace HB := qb.mk (hb); clear HO_8; clear ho hb hg hat))
                 replace HO256 := qb.mk (Kd.qm HO256.out)
                 replace HB := qb.mk (qe HB.out)
                 obtain ⟨Ao33, co33, eo33⟩ := Kd.qfb HO256.out
                 (first | subst eo33 | (injection eo33 with f1_ f2_ f3_; have f4_ := f1_.symm; have f5_ := f3_.symm; clear f1_ f2_ f3_; subst f4_; subst f5_))
                 have p257 : 0 ≤ ((ji21) : Int) := of_decide_eq_true (by first | (with_reducible assumption) | assumption)
                 have q257 : (ji21) < (y254.length : Int) := of_decide_eq_true (by first | (with_reducible assumption) | assumption)
                 obtain ⟨ad257, e257, hx257_0, hx257_1, hx257_2, hx257_3⟩ := qqb (Kd.qD HO256.out).2.2 (ji21) p257 q257
                 cases e257
                 replace p257 := eq_true p257
                 replace q257 := eq_true q257
                 have p28 : 0 ≤ ((ji21) : Int) := of_decide_eq_true (by first | (with_reducible assumption) | assumption)
                 have q28 : ((ji21) : Int) < ((y254.length : Int) : Int) := of_decide_eq_true (by first | (with_reducible assumption) | assumption)
                 obtain ⟨go28, co28, eo28, gb28, gl28, cl28, HG28⟩ := Kd.R_form HO256.out (by omega)
                 (first | cases eo28 | (injection eo28 with ea_ en_ ec_; (first | subst ea_ | (injection ea_ with ea_; subst ea_)); subst ec_; clear en_))
                 have GB28 := qb.mk gb28
                 have GG28 := qb.mk HG28
                 clear gb28 gl28 HG28
                 (first | simp only [add_plain] at hx257_0 | skip)
                 (first | simp only [add_plain] at hx257_1 | skip)
                 (first | simp only [add_plain] at hx257_2 | skip)
                 (first | simp only [add_plain] at hx257_3 | skip)
                 obtain ⟨ce28, hcl28, hM28, hcc28, hfr28⟩ := Kd.qkb HO256.out z43 ((ji21) : Int) p28 q28
                 obtain rfl := qmb hM28
                 have hx28_0 : World.cell? _ ⟨go28, ((ji21) : Int).toNat * 4, none⟩ = some (.int .i64 ((qc y254 (ji21)).f0)) := hcc28 0 _ rfl
                 have hx28_1 : World.cell? _ ⟨go28, ((ji21) : Int).toNat * 4 + 1, none⟩ = some (.int .i64 ((qc y254 (ji21)).f1)) := hcc28 1 _ rfl
                 have hx28_2 : World.cell? _ ⟨go28, ((ji21) : Int).toNat * 4 + 2, none⟩ = some (.int .i64 ((qc y254 (ji21)).f2)) := hcc28 2 _ rfl
                 have hx28_3 : World.cell? _ ⟨go28, ((ji21) : Int).toNat * 4 + 3, none⟩ = some (.string ((qc y254 (ji21)).f3)) := hcc28 3 _ rfl
                 have hf28_0 : World.frozen? _ ⟨go28, ((ji21) : Int).toNat * 4, none⟩ = false := hfr28 0
                 have hf28_1 : World.frozen? _ ⟨go28, ((ji21) : Int).toNat * 4 + 1, none⟩ = false := hfr28 1
                 have hf28_2 : World.frozen? _ ⟨go28, ((ji21) : Int).toNat * 4 + 2, none⟩ = false := hfr28 2
                 have hf28_3 : World.frozen? _ ⟨go28, ((ji21) : Int).toNat * 4 + 3, none⟩ = false := hfr28 3
                 clear hcl28 hcc28 hfr28 hM28
                 replace p28 := eq_true p28
                 replace q28 := eq_true q28
                 obtain ⟨ce34, hcl34, hM34, hcc34, hfr34⟩ := Kd.qkb HO256.out z43 ((ji21) : Int) (of_decide_eq_true (by first | (with_reducible assumption) | assumption)) (by have h_ : ((ji21) : Int) < ((y254.length : Int) : Int) := of_decide_eq_true (by first | (with_reducible assumption) | assumption); first | exact h_ | (have e_ := (Kd.qD HO256.out).1; omega) | simpa using h_)
                 obtain rfl := qmb hM34
                 have HP34 := (Kd.R_seg HO256.out ((ji21) : Int) (of_decide_eq_true (by first | (with_reducible assumption) | assumption)) (by have h_ : ((ji21) : Int) < ((y254.length : Int) : Int) := of_decide_eq_true (by first | (with_reducible assumption) | assumption); first | exact h_ | (have e_ := (Kd.qD HO256.out).1; omega) | simpa using h_) (seg := [.string (((qc y254 (ji21)).f3) ++ (a1.extract (x9_2 : Int).toNat ((wrap64 (x9_2 + 1)) : Int).toNat))]) (j := 3) hcl34 hcc34 (show 4 ≤ 4 from by decide) (x' := (⟨(qc y254 (ji21)).f0, (qc y254 (ji21)).f1, (qc y254 (ji21)).f2, ((qc y254 (ji21)).f3) ++ (a1.extract (x9_2 : Int).toNat ((wrap64 (x9_2 + 1)) : Int).toNat)⟩ : S43)) (qvb _ _ _ (⟨(qc y254 (ji21)).f0, (qc y254 (ji21)).f1, (qc y254 (ji21)).f2, ((qc y254 (ji21)).f3) ++ (a1.extract (x9_2 : Int).toNat ((wrap64 (x9_2 + 1)) : Int).toNat)⟩ : S43) ) (fun _ hk => hk)).1
                 rw [← Ny258.out] at HP34
                 have HQ34 := qb.mk HP34
                 clear hcl34 hcc34 hfr34 hM34 HP34
                 refine qAb (n := 15) (S := fun w' => w'.cell? ⟨go28, (((ji21)).toNat * 4), none⟩ = some (.int .i64 ((qc y254 (ji21)).f0)) ∧ w'.cell? ⟨go28, (((ji21)).toNat * 4) + 1, none⟩ = some (.int .i64 ((qc y254 (ji21)).f1)) ∧ w'.cell? ⟨go28, (((ji21)).toNat * 4) + 2, none⟩ = some (.int .i64 ((qc y254 (ji21)).f2)) ∧ w'.cell? ⟨go28, (((ji21)).toNat * 4) + 3, none⟩ = some (.string ((qc y254 (ji21)).f3))) (ds := [14]) (Extra.b [0, 15]) (by kernel_rfl) rfl rfl ⟨hx257_0, hx257_1, hx257_2, hx257_3⟩ (fun hHeld => ?_); refine qyb qS.tab14 qS.bits14 (fun HT_ HW_ => ?_)
                 generalize w31.drew = w32 at HO256 HB GG28 HQ34 hf28_0 hf28_1 hf28_2 hf28_3 hx257_0 hx257_1 hx257_2 hx257_3 hx28_0 hx28_1 hx28_2 hx28_3 hHeld ⊢
                 refine pure_ (i := 0) (N := some 69) (v := ?_) (a' := ?_) (Extra.b [1, 14]) rfl rfl (qw HT_.out (by kernel_rfl)) (fun _ _ _ h => h) (Or.inl ⟨by rfl, ?_⟩) ?_ ?_
                 rotate_left
                 ·intro w'
                  go_simp
                  with_reducible rfl
                 rotate_left
                 ·simp only [Act.put, List.setIfInBounds_toArray, List.set_cons_zero, List.set_cons_succ, i64_w, i32_w]
                  rfl
                 refine pure_ (i := 1) (N := some 70) (v := ?_) (a' := ?_) (Extra.b [2, 13]) rfl rfl (qw HT_.out (by kernel_rfl)) (fun _ _ _ h => h) (Or.inl ⟨by rfl, ?_⟩) ?_ ?_
                 rotate_left
                 ·intro w'
                  go_simp
                  with_reducible rfl
                 rotate_left
                 ·simp only [Act.put, List.setIfInBounds_toArray, List.set_cons_zero, List.set_cons_succ, i64_w, i32_w]
                  rfl
                 refine pure_ (i := 2) (N := some 71) (v := ?_) (a' := ?_) (Extra.b [3, 12]) rfl rfl (qw HT_.out (by kernel_rfl)) (fun _ _ _ h => h) (Or.inl ⟨by rfl, ?_⟩) ?_ ?_
                 rotate_left
                 ·intro w'
                  go_simp
                  with_reducible rfl
                 rotate_left
                 ·simp only [Act.put, List.setIfInBounds_toArray, List.set_cons_zero, List.set_cons_succ, i64_w, i32_w]
                  rfl
                 refine pure_ (i := 3) (N := some 72) (v := ?_) (a' := ?_) (Extra.b [4, 11]) rfl rfl (qw HT_.out (by kernel_rfl)) (fun _ _ _ h => h) (Or.inl ⟨by rfl, ?_⟩) ?_ ?_
                 rotate_left
                 ·intro w'
                  go_simp
                  with_reducible rfl
                 rotate_left
                 ·simp only [Act.put, List.setIfInBounds_toArray, List.set_cons_zero, List.set_cons_succ, i64_w, i32_w]
                  rfl
                 refine pure_ (i := 4) (N := some 73) (v := ?_) (a' := ?_) (Extra.b [5, 10]) rfl rfl (qw HT_.out (by kernel_rfl)) (fun _ _ _ h => h) (Or.inl ⟨by rfl, ?_⟩) ?_ ?_
                 rotate_left
                 ·intro w'
                  go_simp
                  with_reducible rfl
                 rotate_left
                 ·simp only [Act.put, List.setIfInBounds_toArray, List.set_cons_zero, List.set_cons_succ, i64_w, i32_w]
                  rfl
                 refine pure_ (i := 6) (N := some 75) (v := ?_) (a' := ?_) (Extra.b [5, 1, 1, 8]) rfl rfl (qw HT_.out (by kernel_rfl)) (fun _ _ _ h => h) (Or.inl ⟨by rfl, ?_⟩) ?_ ?_
                 rotate_left
                 ·intro w'
                  go_simp
                  with_reducible rfl
                 rotate_left
                 ·simp only [Act.put, List.setIfInBounds_toArray, List.set_cons_zero, List.set_cons_succ, i64_w, i32_w]
                  rfl
                 refine pure_ (i := 7) (N := some 76) (v := ?_) (a' := ?_) (Extra.b [5, 1, 2, 7]) rfl rfl (qw HT_.out (by kernel_rfl)) (fun _ _ _ h => h) (Or.inl ⟨by rfl, ?_⟩) ?_ ?_
                 rotate_left
                 ·intro w'
                  go_simp
                  with_reducible rfl
                 rotate_left
                 ·simp only [Act.put, List.setIfInBounds_toArray, List.set_cons_zero, List.set_cons_succ, i64_w, i32_w]
                  rfl
                 refine pure_ (i := 8) (N := some 77) (v := ?_) (a' := ?_) (Extra.b [5, 1, 3, 6]) rfl rfl (qw HT_.out (by kernel_rfl)) (fun _ _ _ h => h) (Or.inl ⟨by rfl, ?_⟩) ?_ ?_
                 rotate_left
                 ·intro w'
                  go_simp
                  with_reducible rfl
                 rotate_left
                 ·simp only [Act.put, List.setIfInBounds_toArray, List.set_cons_zero, List.set_cons_succ, i64_w, i32_w]
                  rfl
                 refine pure_ (i := 9) (N := some 78) (v := ?_) (a' := ?_) (Extra.b [5, 1, 4, 5]) rfl rfl (qw HT_.out (by kernel_rfl)) (fun _ _ _ h => h) (Or.inl ⟨by rfl, ?_⟩) ?_ ?_
                 rotate_left
                 ·intro w'
                  go_simp
                  with_reducible rfl
                 rotate_left
                 ·simp only [Act.put, List.setIfInBounds_toArray, List.set_cons_zero, List.set_cons_succ, i64_w, i32_w]
                  rfl
                 refine pure_ (i := 10) (N := some 79) (v := ?_) (a' := ?_) (Extra.b [5, 1, 5, 4]) rfl rfl (qw HT_.out (by kernel_rfl)) (fun _ _ _ h => h) (Or.inl ⟨by rfl, ?_⟩) ?_ ?_
                 rotate_left
                 ·intro w'
                  go_simp
                  with_reducible rfl
                 rotate_left
                 ·simp only [Act.put, List.setIfInBounds_toArray, List.set_cons_zero, List.set_cons_succ, i64_w, i32_w]
                  rfl
                 refine take_ (i := 5) (N := some 74) (v := ?_) (a' := ?_) (Extra.b [11, 4]) rfl rfl (qnb HT_.out HW_.out (by kernel_rfl)) (fun _ _ _ h => h) (Or.inl ⟨by rfl, ?_⟩) hHeld ?_ ?_
                 rotate_left
                 ·rintro w' ⟨s0, s1, s2, s3⟩
                  go_simp
                  with_reducible rfl
                 rotate_left
                 ·simp only [Act.put, List.setIfInBounds_toArray, List.set_cons_zero, List.set_cons_succ, i64_w, i32_w]
                  rfl
                 refine pure_ (i := 11) (N := some 80) (v := ?_) (a' := ?_) (Extra.b [12, 3]) rfl rfl (qw HT_.out (by kernel_rfl)) (fun _ _ _ h => h) (Or.inl ⟨by rfl, ?_⟩) ?_ ?_
                 rotate_left
                 ·intro w'
                  go_simp
                  with_reducible rfl
                 rotate_left
                 ·simp only [Act.put, List.setIfInBounds_toArray, List.set_cons_zero, List.set_cons_succ, i64_w, i32_w]
                  rfl
                 refine pure_ (i := 12) (N := some 81) (v := ?_) (a' := ?_) (Extra.b [13, 2]) rfl rfl (qw HT_.out (by kernel_rfl)) (fun _ _ _ h => h) (Or.inl ⟨by rfl, ?_⟩) ?_ ?_
                 rotate_left
                 ·intro w'
                  go_simp
                  with_reducible rfl
                 rotate_left
                 ·simp only [Act.put, List.setIfInBounds_toArray, List.set_cons_zero, List.set_cons_succ, i64_w, i32_w]
                  rfl
                 refine pure_ (i := 13) (N := some 82) (v := ?_) (a' := ?_) (Extra.b [14, 1]) rfl rfl (qw HT_.out (by kernel_rfl)) (fun _ _ _ h => h) (Or.inl ⟨by rfl, ?_⟩) ?_ ?_
                 rotate_left
                 ·intro w'
                  go_simp
                  with_reducible rfl
                 rotate_left
                 ·simp only [Act.put, List.setIfInBounds_toArray, List.set_cons_zero, List.set_cons_succ, i64_w, i32_w]
                  rfl
                 refine last_ (i := 14) (N := none) (Extra.b [15]) rfl rfl (qEb HT_.out (by kernel_rfl)) (by decide) (fun K hK => ?_)
                 refine skip_ (w1 := ?_) (by rfl) rfl ?_ ?_
                 rotate_left
                 ·go_simp
                  rfl
                 refine hK.out _ _ ?_
                 clear hK K
                 refine done_ (qzb HT_.out (by kernel_rfl)) ?_
                 try go_wp2
                 go_roundg k2
                 case measure => have := HJ3.out; have := HK2.out; omega
                 case rel => exact ⟨(y258), (wrap64 (x9_2 + 1)), (by first | rfl | (simp; done) | (simp [*]; done)), H', ⟨by have := HJ3.out; have := HK2.out; omega⟩, ⟨by (with_reducible repeat (first | apply Kd.qo | apply Kd.qn | apply Kd.qm)); exact HQ34.out⟩, ⟨by repeat (first | (with_reducible first | exact HB.out | apply qf | apply qg | apply qe | refine qk ?_ GB28.out) | exact HB.out)⟩⟩
                ·rw [if_neg c27] at H
                 exact absurd H (by simp)
               ·rw [if_neg c26] at H
                exact absurd H (by simp)
              ·rw [if_neg c25] at H
               exact absurd H (by simp)
             ·rw [if_neg c23] at H
              exact absurd H (by simp)
            ·rw [if_neg c22] at H
             exact absurd H (by simp)
           ·rw [if_neg c20] at H
            exact absurd H (by simp)
          ·rw [if_neg c19] at H
           have c19b0 : ((x8_2.length : Int) == 0) = false := beq_eq_false_iff_ne.mpr c19
           have c19b1 : ((x8_2.length : Int) != 0) = true := bne_iff_ne.mpr c19
           have c19b2 : ¬ (x8_2 = []) := fun h_ => c19 (by rw [h_]; rfl)
           obtain ⟨ji35, hji35⟩ : ∃ j_ : Int, (wrap64 ((x8_2.length : Int) - 1)) = j_ := ⟨_, rfl⟩
           replace H : (if 0 ≤ (ji35) then (if (ji35) < (x8_2.length : Int) then (if ((qc x8_2 (ji35)).f0) = 2 then (if x9_2 ≤ (wrap64 (x9_2 + 1)) then (if (wrap64 (x9_2 + 1)) ≤ (a1.size : Int) then (if ((qc x8_2 (ji35)).f3).size + (a1.extract (x9_2 : Int).toNat ((wrap64 (x9_2 + 1)) : Int).toNat).size ≤ 9223372036854775807 then (qS.l0 k2 a0 a1 a2 (x8_2.set ((ji35) : Int).toNat (⟨(qc x8_2 (ji35)).f0, (qc x8_2 (ji35)).f1, (qc x8_2 (ji35)).f2, ((qc x8_2 (ji35)).f3) ++ (a1.extract (x9_2 : Int).toNat ((wrap64 (x9_2 + 1)) : Int).toNat)⟩ : S43)) (wrap64 (x9_2 + 1))) else (none)) else (none)) else (none)) else (if x8_2.length < 3518437208883 then ((some (x8_2 ++ [(⟨2, 0, 0, (⟨#[]⟩ : ByteArray)⟩ : S43)] : List (S43))).bind fun y262 => (if 0 ≤ (wrap64 ((wrap64 ((x8_2.length : Int) + 1)) - 1)) then (if (wrap64 ((wrap64 ((x8_2.length : Int) + 1)) - 1)) < (y262.length : Int) then (if x9_2 ≤ (wrap64 (x9_2 + 1)) then (if (wrap64 (x9_2 + 1)) ≤ (a1.size : Int) then (if ((qc y262 (wrap64 ((wrap64 ((x8_2.length : Int) + 1)) - 1))).f3).size + (a1.extract (x9_2 : Int).toNat ((wrap64 (x9_2 + 1)) : Int).toNat).size ≤ 9223372036854775807 then (qS.l0 k2 a0 a1 a2 (y262.set ((wrap64 ((wrap64 ((x8_2.length : Int) + 1)) - 1)) : Int).toNat (⟨(qc y262 (wrap64 ((wrap64 ((x8_2.length : Int) + 1)) - 1))).f0, (qc y262 (wrap64 ((wrap64 ((x8_2.length : Int) + 1)) - 1))).f1, (qc y262 (wrap64 ((wrap64 ((x8_2.length : Int) + 1)) - 1))).f2, ((qc y262 (wrap64 ((wrap64 ((x8_2.length : Int) + 1)) - 1))).f3) ++ (a1.extract (x9_2 : Int).toNat ((wrap64 (x9_2 + 1)) : Int).toNat)⟩ : S43)) (wrap64 (x9_2 + 1))) else (none)) else (none)) else (none)) else (none)) else (none))) else (none))) else (none)) else (none)) = some (r1, r2) := by first | (rw [hji35] at H; exact H) | (simp only [hji35] at H ⊢; exact H)
           (try rw [hji35] at A14)
           have hji35w : (IntKind.i64.wrap ((x8_2.length : Int) - 1)) = ji35 := (i64_w _).trans hji35
           by_cases c36 : 0 ≤ (ji35)
           ·rw [if_pos c36] at H
            have c36b0 : decide (0 ≤ (ji35)) = true := decide_eq_true c36
            clear c36
            by_cases c37 : (ji35) < (x8_2.length : Int)
            ·rw [if_pos c37] at H
             have c37b0 : decide ((ji35) < (x8_2.length : Int)) = true := decide_eq_true c37
             clear c37
             by_cases c38 : ((qc x8_2 (ji35)).f0) = 2
             ·rw [if_pos c38] at H
              have c38b0 : (((qc x8_2 (ji35)).f0) == 2) = true := beq_iff_eq.mpr c38
              have c38b1 : (((qc x8_2 (ji35)).f0) != 2) = false := bne_eq_false_iff_eq.mpr c38
              clear c38
              have c39b0 := eq_true (of_decide_eq_true (by first | (with_reducible assumption) | assumption) : 0 ≤ x9_2)
              by_cases c40 : x9_2 ≤ (wrap64 (x9_2 + 1))
              ·rw [if_pos c40] at H
               have c40b0 := eq_true c40
               have c40b1 : decide (x9_2 ≤ (wrap64 (x9_2 + 1))) = true := decide_eq_true c40
               by_cases c41 : (wrap64 (x9_2 + 1)) ≤ (a1.size : Int)
               ·rw [if_pos c41] at H
                have c41b0 := eq_true c41
                have c41b1 : decide ((wrap64 (x9_2 + 1)) ≤ (a1.size : Int)) = true := decide_eq_true c41
                by_cases c42 : ((qc x8_2 (ji35)).f3).size + (a1.extract (x9_2 : Int).toNat ((wrap64 (x9_2 + 1)) : Int).toNat).size ≤ 9223372036854775807
                ·rw [if_pos c42] at H
                 have c42b0 := eq_true c42
                 have c42b1 : decide (((qc x8_2 (ji35)).f3).size + (a1.extract (x9_2 : Int).toNat ((wrap64 (x9_2 + 1)) : Int).toNat).size ≤ 9223372036854775807) = true := decide_eq_true c42
                 try have c42b2 : (9223372036854775807 < ((qc x8_2 (ji35)).f3).size + (a1.extract (x9_2 : Int).toNat ((wrap64 (x9_2 + 1)) : Int).toNat).size) = False := eq_false (Nat.not_lt.2 c42)
                 have c42b3 : ∀ m_ n_ : Nat, m_ = ((qc x8_2 (ji35)).f3).size → n_ = (a1.extract (x9_2 : Int).toNat ((wrap64 (x9_2 + 1)) : Int).toNat).size → (9223372036854775807 < m_ + n_) = False := fun m_ n_ h1_ h2_ => by rw [h1_, h2_]; exact eq_false (Nat.not_lt.2 c42)
                 obtain ⟨y261, hy261⟩ : ∃ y_ : List (S43), y_ = (x8_2.set ((ji35) : Int).toNat (⟨(qc x8_2 (ji35)).f0, (qc x8_2 (ji35)).f1, (qc x8_2 (ji35)).f2, ((qc x8_2 (ji35)).f3) ++ (a1.extract (x9_2 : Int).toNat ((wrap64 (x9_2 + 1)) : Int).toNat)⟩ : S43)) := ⟨_, rfl⟩
                 replace H : (qS.l0 k2 a0 a1 a2 y261 (wrap64 (x9_2 + 1))) = some (r1, r2) := by first | (rw [hy261]; with_reducible exact H) | (have H2_ := (Option.bind_some _ _).symm.trans H; rw [hy261]; with_reducible exact H2_) | (have H2_ := (Option.bind_some _ _).symm.trans H; with_reducible exact H2_) | with_reducible exact H | (rw [hy261]; exact H) | exact H
                 have Ny261 := qb.mk hy261
                 clear hy261
                 have H' := qb.mk H
                 clear H
                 try go_wp2_with (first | ((with_reducible refine qy (f := 66) rfl ?_); refine qz (some 35) rfl rfl Try.func66 (by kernel_rfl) rfl #[.string a0, .string (a1.extract (x9_2 : Int).toNat a1.size)] rfl (by (try simp only [List.map_toArray, List.map_cons, List.map_nil]); first | done | rfl | (simp only [List.length_drop, List.length_take]; rfl)) ?_; (with_reducible refine (qab.calls k2 a0 (a1.extract (x9_2 : Int).toNat a1.size) t249 t250 _ A14.out).mono ?_); rintro e w44 ⟨rfl, hb⟩; refine ⟨_, rfl, ?_⟩; replace HO_8 := qb.mk (Kd.qX (by (with_reducible repeat (first | apply Kd.qo | apply Kd.qn | apply Kd.qm)); exact HO_8.out) hb); replace HB := qb.mk (qE (by repeat (first | (with_reducible first | exact HB.out | apply qf | apply qg | apply qe) | exact HB.out)) hb); (try clear hb); (try clear hb2); (try clear hk); (try clear hi); obtain ⟨Ao45, co45, eo45⟩ := Kd.qfb HO_8.out; subst eo45; have p259 : 0 ≤ ((ji35) : Int) := of_decide_eq_true (by first | (with_reducible assumption) | assumption); have q259 : (ji35) < (x8_2.length : Int) := of_decide_eq_true (by first | (with_reducible assumption) | assumption); obtain ⟨ad259, e259, hx259_0, hx259_1, hx259_2, hx259_3⟩ := qqb (Kd.qD HO_8.out).2.2 (ji35) p259 q259; cases e259; replace p259 := eq_true p259; replace q259 := eq_true q259))
                 replace HO_8 := qb.mk (Kd.qm HO_8.out)
                 replace HB := qb.mk (qe HB.out)
                 have p260 : 0 ≤ ((ji35) : Int) := of_decide_eq_true (by first | (with_reducible assumption) | assumption)
                 have q260 : (ji35) < (x8_2.length : Int) := of_decide_eq_true (by first | (with_reducible assumption) | assumption)
                 obtain ⟨ad260, e260, hx260_0, hx260_1, hx260_2, hx260_3⟩ := qqb (Kd.qD HO_8.out).2.2 (ji35) p260 q260
                 obtain rfl : ad259 = ad260 := (by injection e260)
                 replace p260 := eq_true p260
                 replace q260 := eq_true q260
                 have p43 : 0 ≤ ((ji35) : Int) := of_decide_eq_true (by first | (with_reducible assumption) | assumption)
                 have q43 : ((ji35) : Int) < ((x8_2.length : Int) : Int) := of_decide_eq_true (by first | (with_reducible assumption) | assumption)
                 obtain ⟨go43, co43, eo43, gb43, gl43, cl43, HG43⟩ := Kd.R_form HO_8.out (by omega)
                 (first | cases eo43 | (injection eo43 with ea_ en_ ec_; (first | subst ea_ | (injection ea_ with ea_; subst ea_)); subst ec_; clear en_))
                 have GB43 := qb.mk gb43
                 have GG43 := qb.mk HG43
                 clear gb43 gl43 HG43
                 (first | simp only [add_plain] at hx259_0 | skip)
                 (first | simp only [add_plain] at hx259_1 | skip)
                 (first | simp only [add_plain] at hx259_2 | skip)
                 (first | simp only [add_plain] at hx259_3 | skip)
                 (first | simp only [add_plain] at hx260_0 | skip)
                 (first | simp only [add_plain] at hx260_1 | skip)
                 (first | simp only [add_plain] at hx260_2 | skip)
                 (first | simp only [add_plain] at hx260_3 | skip)
                 obtain ⟨ce43, hcl43, hM43, hcc43, hfr43⟩ := Kd.qkb HO_8.out z43 ((ji35) : Int) p43 q43
                 obtain rfl := qmb hM43
                 have hx43_0 : World.cell? _ ⟨go43, ((ji35) : Int).toNat * 4, none⟩ = some (.int .i64 ((qc x8_2 (ji35)).f0)) := hcc43 0 _ rfl
                 have hx43_1 : World.cell? _ ⟨go43, ((ji35) : Int).toNat * 4 + 1, none⟩ = some (.int .i64 ((qc x8_2 (ji35)).f1)) := hcc43 1 _ rfl
                 have hx43_2 : World.cell? _ ⟨go43, ((ji35) : Int).toNat * 4 + 2, none⟩ = some (.int .i64 ((qc x8_2 (ji35)).f2)) := hcc43 2 _ rfl
                 have hx43_3 : World.cell? _ ⟨go43, ((ji35) : Int).toNat * 4 + 3, none⟩ = some (.string ((qc x8_2 (ji35)).f3)) := hcc43 3 _ rfl
                 have hf43_0 : World.frozen? _ ⟨go43, ((ji35) : Int).toNat * 4, none⟩ = false := hfr43 0
                 have hf43_1 : World.frozen? _ ⟨go43, ((ji35) : Int).toNat * 4 + 1, none⟩ = false := hfr43 1
                 have hf43_2 : World.frozen? _ ⟨go43, ((ji35) : Int).toNat * 4 + 2, none⟩ = false := hfr43 2
                 have hf43_3 : World.frozen? _ ⟨go43, ((ji35) : Int).toNat * 4 + 3, none⟩ = false := hfr43 3
                 clear hcl43 hcc43 hfr43 hM43
                 replace p43 := eq_true p43
                 replace q43 := eq_true q43
                 obtain ⟨ce47, hcl47, hM47, hcc47, hfr47⟩ := Kd.qkb HO_8.out z43 ((ji35) : Int) (of_decide_eq_true (by first | (with_reducible assumption) | assumption)) (by have h_ : ((ji35) : Int) < ((x8_2.length : Int) : Int) := of_decide_eq_true (by first | (with_reducible assumption) | assumption); first | exact h_ | (have e_ := (Kd.qD HO_8.out).1; omega) | simpa using h_)
                 obtain rfl := qmb hM47
                 have HP47 := (Kd.R_seg HO_8.out ((ji35) : Int) (of_decide_eq_true (by first | (with_reducible assumption) | assumption)) (by have h_ : ((ji35) : Int) < ((x8_2.length : Int) : Int) := of_decide_eq_true (by first | (with_reducible assumption) | assumption); first | exact h_ | (have e_ := (Kd.qD HO_8.out).1; omega) | simpa using h_) (seg := [.string (((qc x8_2 (ji35)).f3) ++ (a1.extract (x9_2 : Int).toNat ((wrap64 (x9_2 + 1)) : Int).toNat))]) (j := 3) hcl47 hcc47 (show 4 ≤ 4 from by decide) (x' := (⟨(qc x8_2 (ji35)).f0, (qc x8_2 (ji35)).f1, (qc x8_2 (ji35)).f2, ((qc x8_2 (ji35)).f3) ++ (a1.extract (x9_2 : Int).toNat ((wrap64 (x9_2 + 1)) : Int).toNat)⟩ : S43)) (qvb _ _ _ (⟨(qc x8_2 (ji35)).f0, (qc x8_2 (ji35)).f1, (qc x8_2 (ji35)).f2, ((qc x8_2 (ji35)).f3) ++ (a1.extract (x9_2 : Int).toNat ((wrap64 (x9_2 + 1)) : Int).toNat)⟩ : S43) ) (fun _ hk => hk)).1
                 rw [← Ny261.out] at HP47
                 have HQ47 := qb.mk HP47
                 clear hcl47 hcc47 hfr47 hM47 HP47
                 refine qAb (n := 15) (S := fun w' => w'.cell? ⟨go43, (((ji35)).toNat * 4), none⟩ = some (.int .i64 ((qc x8_2 (ji35)).f0)) ∧ w'.cell? ⟨go43, (((ji35)).toNat * 4) + 1, none⟩ = some (.int .i64 ((qc x8_2 (ji35)).f1)) ∧ w'.cell? ⟨go43, (((ji35)).toNat * 4) + 2, none⟩ = some (.int .i64 ((qc x8_2 (ji35)).f2)) ∧ w'.cell? ⟨go43, (((ji35)).toNat * 4) + 3, none⟩ = some (.string ((qc x8_2 (ji35)).f3))) (ds := [14]) (Extra.b [0, 15]) (by kernel_rfl) rfl rfl ⟨hx260_0, hx260_1, hx260_2, hx260_3⟩ (fun hHeld => ?_); refine qyb qS.tab14 qS.bits14 (fun HT_ HW_ => ?_)
                 generalize w44.drew = w46 at HO_8 HB GG43 HQ47 hf43_0 hf43_1 hf43_2 hf43_3 hx259_0 hx259_1 hx259_2 hx259_3 hx260_0 hx260_1 hx260_2 hx260_3 hx43_0 hx43_1 hx43_2 hx43_3 hHeld ⊢
                 refine pure_ (i := 0) (N := some 69) (v := ?_) (a' := ?_) (Extra.b [1, 14]) rfl rfl (qw HT_.out (by kernel_rfl)) (fun _ _ _ h => h) (Or.inl ⟨by rfl, ?_⟩) ?_ ?_
                 rotate_left
                 ·intro w'
                  go_simp
                  with_reducible rfl
                 rotate_left
                 ·simp only [Act.put, List.setIfInBounds_toArray, List.set_cons_zero, List.set_cons_succ, i64_w, i32_w]
                  rfl
                 refine pure_ (i := 1) (N := some 70) (v := ?_) (a' := ?_) (Extra.b [2, 13]) rfl rfl (qw HT_.out (by kernel_rfl)) (fun _ _ _ h => h) (Or.inl ⟨by rfl, ?_⟩) ?_ ?_
                 rotate_left
                 ·intro w'
                  go_simp
                  with_reducible rfl
                 rotate_left
                 ·simp only [Act.put, List.setIfInBounds_toArray, List.set_cons_zero, List.set_cons_succ, i64_w, i32_w]
                  rfl
                 refine pure_ (i := 2) (N := some 71) (v := ?_) (a' := ?_) (Extra.b [3, 12]) rfl rfl (qw HT_.out (by kernel_rfl)) (fun _ _ _ h => h) (Or.inl ⟨by rfl, ?_⟩) ?_ ?_
                 rotate_left
                 ·intro w'
                  go_simp
                  with_reducible rfl
                 rotate_left
                 ·simp only [Act.put, List.setIfInBounds_toArray, List.set_cons_zero, List.set_cons_succ, i64_w, i32_w]
                  rfl
                 refine pure_ (i := 3) (N := some 72) (v := ?_) (a' := ?_) (Extra.b [4, 11]) rfl rfl (qw HT_.out (by kernel_rfl)) (fun _ _ _ h => h) (Or.inl ⟨by rfl, ?_⟩) ?_ ?_
                 rotate_left
                 ·intro w'
                  go_simp
                  with_reducible rfl
                 rotate_left
                 ·simp only [Act.put, List.setIfInBounds_toArray, List.set_cons_zero, List.set_cons_succ, i64_w, i32_w]
                  rfl
                 refine pure_ (i := 4) (N := some 73) (v := ?_) (a' := ?_) (Extra.b [5, 10]) rfl rfl (qw HT_.out (by kernel_rfl)) (fun _ _ _ h => h) (Or.inl ⟨by rfl, ?_⟩) ?_ ?_
                 rotate_left
                 ·intro w'
                  go_simp
                  with_reducible rfl
                 rotate_left
                 ·simp only [Act.put, List.setIfInBounds_toArray, List.set_cons_zero, List.set_cons_succ, i64_w, i32_w]
                  rfl
                 refine pure_ (i := 6) (N := some 75) (v := ?_) (a' := ?_) (Extra.b [5, 1, 1, 8]) rfl rfl (qw HT_.out (by kernel_rfl)) (fun _ _ _ h => h) (Or.inl ⟨by rfl, ?_⟩) ?_ ?_
                 rotate_left
                 ·intro w'
                  go_simp
                  with_reducible rfl
                 rotate_left
                 ·simp only [Act.put, List.setIfInBounds_toArray, List.set_cons_zero, List.set_cons_succ, i64_w, i32_w]
                  rfl
                 refine pure_ (i := 7) (N := some 76) (v := ?_) (a' := ?_) (Extra.b [5, 1, 2, 7]) rfl rfl (qw HT_.out (by kernel_rfl)) (fun _ _ _ h => h) (Or.inl ⟨by rfl, ?_⟩) ?_ ?_
                 rotate_left
                 ·intro w'
                  go_simp
                  with_reducible rfl
                 rotate_left
                 ·simp only [Act.put, List.setIfInBounds_toArray, List.set_cons_zero, List.set_cons_succ, i64_w, i32_w]
                  rfl
                 refine pure_ (i := 8) (N := some 77) (v := ?_) (a' := ?_) (Extra.b [5, 1, 3, 6]) rfl rfl (qw HT_.out (by kernel_rfl)) (fun _ _ _ h => h) (Or.inl ⟨by rfl, ?_⟩) ?_ ?_
                 rotate_left
                 ·intro w'
                  go_simp
                  with_reducible rfl
                 rotate_left
                 ·simp only [Act.put, List.setIfInBounds_toArray, List.set_cons_zero, List.set_cons_succ, i64_w, i32_w]
                  rfl
                 refine pure_ (i := 9) (N := some 78) (v := ?_) (a' := ?_) (Extra.b [5, 1, 4, 5]) rfl rfl (qw HT_.out (by kernel_rfl)) (fun _ _ _ h => h) (Or.inl ⟨by rfl, ?_⟩) ?_ ?_
                 rotate_left
                 ·intro w'
                  go_simp
                  with_reducible rfl
                 rotate_left
                 ·simp only [Act.put, List.setIfInBounds_toArray, List.set_cons_zero, List.set_cons_succ, i64_w, i32_w]
                  rfl
                 refine pure_ (i := 10) (N := some 79) (v := ?_) (a' := ?_) (Extra.b [5, 1, 5, 4]) rfl rfl (qw HT_.out (by kernel_rfl)) (fun _ _ _ h => h) (Or.inl ⟨by rfl, ?_⟩) ?_ ?_
                 rotate_left
                 ·intro w'
                  go_simp
                  with_reducible rfl
                 rotate_left
                 ·simp only [Act.put, List.setIfInBounds_toArray, List.set_cons_zero, List.set_cons_succ, i64_w, i32_w]
                  rfl
                 refine take_ (i := 5) (N := some 74) (v := ?_) (a' := ?_) (Extra.b [11, 4]) rfl rfl (qnb HT_.out HW_.out (by kernel_rfl)) (fun _ _ _ h => h) (Or.inl ⟨by rfl, ?_⟩) hHeld ?_ ?_
                 rotate_left
                 ·rintro w' ⟨s0, s1, s2, s3⟩
                  go_simp
                  with_reducible rfl
                 rotate_left
                 ·simp only [Act.put, List.setIfInBounds_toArray, List.set_cons_zero, List.set_cons_succ, i64_w, i32_w]
                  rfl
                 refine pure_ (i := 11) (N := some 80) (v := ?_) (a' := ?_) (Extra.b [12, 3]) rfl rfl (qw HT_.out (by kernel_rfl)) (fun _ _ _ h => h) (Or.inl ⟨by rfl, ?_⟩) ?_ ?_
                 rotate_left
                 ·intro w'
                  go_simp
                  with_reducible rfl
                 rotate_left
                 ·simp only [Act.put, List.setIfInBounds_toArray, List.set_cons_zero, List.set_cons_succ, i64_w, i32_w]
                  rfl
                 refine pure_ (i := 12) (N := some 81) (v := ?_) (a' := ?_) (Extra.b [13, 2]) rfl rfl (qw HT_.out (by kernel_rfl)) (fun _ _ _ h => h) (Or.inl ⟨by rfl, ?_⟩) ?_ ?_
                 rotate_left
                 ·intro w'
                  go_simp
                  with_reducible rfl
                 rotate_left
                 ·simp only [Act.put, List.setIfInBounds_toArray, List.set_cons_zero, List.set_cons_succ, i64_w, i32_w]
                  rfl
                 refine pure_ (i := 13) (N := some 82) (v := ?_) (a' := ?_) (Extra.b [14, 1]) rfl rfl (qw HT_.out (by kernel_rfl)) (fun _ _ _ h => h) (Or.inl ⟨by rfl, ?_⟩) ?_ ?_
                 rotate_left
                 ·intro w'
                  go_simp
                  with_reducible rfl
                 rotate_left
                 ·simp only [Act.put, List.setIfInBounds_toArray, List.set_cons_zero, List.set_cons_succ, i64_w, i32_w]
                  rfl
                 refine last_ (i := 14) (N := none) (Extra.b [15]) rfl rfl (qEb HT_.out (by kernel_rfl)) (by decide) (fun K hK => ?_)
                 refine skip_ (w1 := ?_) (by rfl) rfl ?_ ?_
                 rotate_left
                 ·go_simp
                  rfl
                 refine hK.out _ _ ?_
                 clear hK K
                 refine done_ (qzb HT_.out (by kernel_rfl)) ?_
                 try go_wp2
                 go_roundg k2
                 case measure => have := HJ3.out; have := HK2.out; omega
                 case rel => exact ⟨(y261), (wrap64 (x9_2 + 1)), (by first | rfl | (simp; done) | (simp [*]; done)), H', ⟨by have := HJ3.out; have := HK2.out; omega⟩, ⟨by (with_reducible repeat (first | apply Kd.qo | apply Kd.qn | apply Kd.qm)); exact HQ47.out⟩, ⟨by repeat (first | (with_reducible first | exact HB.out | apply qf | apply qg | apply qe | refine qk ?_ GB43.out) | exact HB.out)⟩⟩
                ·rw [if_neg c42] at H
                 exact absurd H (by simp)
               ·rw [if_neg c41] at H
                exact absurd H (by simp)
              ·rw [if_neg c40] at H
               exact absurd H (by simp)
             ·rw [if_neg c38] at H
              have c38b0 : (((qc x8_2 (ji35)).f0) == 2) = false := beq_eq_false_iff_ne.mpr c38
              have c38b1 : (((qc x8_2 (ji35)).f0) != 2) = true := bne_iff_ne.mpr c38
              by_cases c48 : x8_2.length < 3518437208883
              ·rw [if_pos c48] at H
               have LMc48 := qb.mk c48
               clear c48
               obtain ⟨y262, hy262⟩ : ∃ y_ : List (S43), y_ = (x8_2 ++ [(⟨2, 0, 0, (⟨#[]⟩ : ByteArray)⟩ : S43)]) := ⟨_, rfl⟩
               replace H : (if 0 ≤ (wrap64 ((wrap64 ((x8_2.length : Int) + 1)) - 1)) then (if (wrap64 ((wrap64 ((x8_2.length : Int) + 1)) - 1)) < (y262.length : Int) then (if x9_2 ≤ (wrap64 (x9_2 + 1)) then (if (wrap64 (x9_2 + 1)) ≤ (a1.size : Int) then (if ((qc y262 (wrap64 ((wrap64 ((x8_2.length : Int) + 1)) - 1))).f3).size + (a1.extract (x9_2 : Int).toNat ((wrap64 (x9_2 + 1)) : Int).toNat).size ≤ 9223372036854775807 then (qS.l0 k2 a0 a1 a2 (y262.set ((wrap64 ((wrap64 ((x8_2.length : Int) + 1)) - 1)) : Int).toNat (⟨(qc y262 (wrap64 ((wrap64 ((x8_2.length : Int) + 1)) - 1))).f0, (qc y262 (wrap64 ((wrap64 ((x8_2.length : Int) + 1)) - 1))).f1, (qc y262 (wrap64 ((wrap64 ((x8_2.length : Int) + 1)) - 1))).f2, ((qc y262 (wrap64 ((wrap64 ((x8_2.length : Int) + 1)) - 1))).f3) ++ (a1.extract (x9_2 : Int).toNat ((wrap64 (x9_2 + 1)) : Int).toNat)⟩ : S43)) (wrap64 (x9_2 + 1))) else (none)) else (none)) else (none)) else (none)) else (none)) = some (r1, r2) := by first | (rw [hy262]; with_reducible exact H) | (have H2_ := (Option.bind_some _ _).symm.trans H; rw [hy262]; with_reducible exact H2_) | (have H2_ := (Option.bind_some _ _).symm.trans H; with_reducible exact H2_) | with_reducible exact H | (rw [hy262]; exact H) | exact H
               have Ny262 := qb.mk hy262
               clear hy262
               obtain ⟨ji49, hji49⟩ : ∃ j_ : Int, (wrap64 ((wrap64 ((x8_2.length : Int) + 1)) - 1)) = j_ := ⟨_, rfl⟩
               replace H : (if 0 ≤ (ji49) then (if (ji49) < (y262.length : Int) then (if x9_2 ≤ (wrap64 (x9_2 + 1)) then (if (wrap64 (x9_2 + 1)) ≤ (a1.size : Int) then (if ((qc y262 (ji49)).f3).size + (a1.extract (x9_2 : Int).toNat ((wrap64 (x9_2 + 1)) : Int).toNat).size ≤ 9223372036854775807 then (qS.l0 k2 a0 a1 a2 (y262.set ((ji49) : Int).toNat (⟨(qc y262 (ji49)).f0, (qc y262 (ji49)).f1, (qc y262 (ji49)).f2, ((qc y262 (ji49)).f3) ++ (a1.extract (x9_2 : Int).toNat ((wrap64 (x9_2 + 1)) : Int).toNat)⟩ : S43)) (wrap64 (x9_2 + 1))) else (none)) else (none)) else (none)) else (none)) else (none)) = some (r1, r2) := by first | (rw [hji49] at H; exact H) | (simp only [hji49] at H ⊢; exact H)
               (try rw [hji49] at A14)
               have hji49w : (IntKind.i64.wrap ((wrap64 ((x8_2.length : Int) + 1)) - 1)) = ji49 := (i64_w _).trans hji49
               by_cases c50 : 0 ≤ (ji49)
               ·rw [if_pos c50] at H
                have c50b0 : decide (0 ≤ (ji49)) = true := decide_eq_true c50
                clear c50
                by_cases c51 : (ji49) < (y262.length : Int)
                ·rw [if_pos c51] at H
                 have c51b0 : decide ((ji49) < (y262.length : Int)) = true := decide_eq_true c51
                 clear c51
                 have c52b0 := eq_true (of_decide_eq_true (by first | (with_reducible assumption) | assumption) : 0 ≤ x9_2)
                 by_cases c53 : x9_2 ≤ (wrap64 (x9_2 + 1))
                 ·rw [if_pos c53] at H
                  have c53b0 := eq_true c53
                  have c53b1 : decide (x9_2 ≤ (wrap64 (x9_2 + 1))) = true := decide_eq_true c53
                  by_cases c54 : (wrap64 (x9_2 + 1)) ≤ (a1.size : Int)
                  ·rw [if_pos c54] at H
                   have c54b0 := eq_true c54
                   have c54b1 : decide ((wrap64 (x9_2 + 1)) ≤ (a1.size : Int)) = true := decide_eq_true c54
                   by_cases c55 : ((qc y262 (ji49)).f3).size + (a1.extract (x9_2 : Int).toNat ((wrap64 (x9_2 + 1)) : Int).toNat).size ≤ 9223372036854775807
                   ·rw [if_pos c55] at H
                    have c55b0 := eq_true c55
                    have c55b1 : decide (((qc y262 (ji49)).f3).size + (a1.extract (x9_2 : Int).toNat ((wrap64 (x9_2 + 1)) : Int).toNat).size ≤ 9223372036854775807) = true := decide_eq_true c55
                    try have c55b2 : (9223372036854775807 < ((qc y262 (ji49)).f3).size + (a1.extract (x9_2 : Int).toNat ((wrap64 (x9_2 + 1)) : Int).toNat).size) = False := eq_false (Nat.not_lt.2 c55)
                    have c55b3 : ∀ m_ n_ : Nat, m_ = ((qc y262 (ji49)).f3).size → n_ = (a1.extract (x9_2 : Int).toNat ((wrap64 (x9_2 + 1)) : Int).toNat).size → (9223372036854775807 < m_ + n_) = False := fun m_ n_ h1_ h2_ => by rw [h1_, h2_]; exact eq_false (Nat.not_lt.2 c55)
                    obtain ⟨y266, hy266⟩ : ∃ y_ : List (S43), y_ = (y262.set ((ji49) : Int).toNat (⟨(qc y262 (ji49)).f0, (qc y262 (ji49)).f1, (qc y262 (ji49)).f2, ((qc y262 (ji49)).f3) ++ (a1.extract (x9_2 : Int).toNat ((wrap64 (x9_2 + 1)) : Int).toNat)⟩ : S43)) := ⟨_, rfl⟩
                    replace H : (qS.l0 k2 a0 a1 a2 y266 (wrap64 (x9_2 + 1))) = some (r1, r2) := by first | (rw [hy266]; with_reducible exact H) | (have H2_ := (Option.bind_some _ _).symm.trans H; rw [hy266]; with_reducible exact H2_) | (have H2_ := (Option.bind_some _ _).symm.trans H; with_reducible exact H2_) | with_reducible exact H | (rw [hy266]; exact H) | exact H
                    have Ny266 := qb.mk hy266
                    clear hy266
                    have H' := qb.mk H
                    clear H
                    try go_wp2_with (first | ((with_reducible refine qy (f := 66) rfl ?_); refine qz (some 35) rfl rfl Try.func66 (by kernel_rfl) rfl #[.string a0, .string (a1.extract (x9_2 : Int).toNat a1.size)] rfl (by (try simp only [List.map_toArray, List.map_cons, List.map_nil]); first | done | rfl | (simp only [List.length_drop, List.length_take]; rfl)) ?_; (with_reducible refine (qab.calls k2 a0 (a1.extract (x9_2 : Int).toNat a1.size) t249 t250 _ A14.out).mono ?_); rintro e w57 ⟨rfl, hb⟩; refine ⟨_, rfl, ?_⟩; replace HO_8 := qb.mk (Kd.qX (by (with_reducible repeat (first | apply Kd.qo | apply Kd.qn | apply Kd.qm)); exact HO_8.out) hb); replace HB := qb.mk (qE (by repeat (first | (with_reducible first | exact HB.out | apply qf | apply qg | apply qe) | exact HB.out)) hb); (try clear hb); (try clear hb2); (try clear hk); (try clear hi); obtain ⟨Ao58, co58, eo58⟩ := Kd.qfb HO_8.out; subst eo58; have p259 : 0 ≤ ((ji35) : Int) := of_decide_eq_true (by first | (with_reducible assumption) | assumption); have q259 : (ji35) < (x8_2.length : Int) := of_decide_eq_true (by first | (with_reducible assumption) | assumption); obtain ⟨ad259, e259, hx259_0, hx259_1, hx259_2, hx259_3⟩ := qqb (Kd.qD HO_8.out).2.2 (ji35) p259 q259; cases e259; replace p259 := eq_true p259; replace q259 := eq_true q259) | ((with_reducible refine qhc (b := .append) (xs := #[.tmp 63, .tmp 65]) rfl ?_); at_builtin; refine Kd.qkc k43 (w0 := w) w.heap.size rfl (.tmp 63) (.tmp 65) 26 43 (.agg #[(.int .i64 0), (.int .i64 0), (.int .i64 0), (.string ⟨#[]⟩)]) 40 rfl Try.underlying26 info43 rfl (by decide) (by omega) (.slice (some ad259) x8_2.length co58) x8_2 (⟨2, 0, 0, (⟨#[]⟩ : ByteArray)⟩ : S43) [.int .i64 2, .int .i64 0, .int .i64 0, .string (⟨#[]⟩ : ByteArray)] (fun _ => True) (fun _ => False) rfl rfl ?aP (fun _ hk => hk.elim) ?aF ?aO ?aB ?aS ?aL ?_; (case aP => exact qvb _ _ _ (⟨2, 0, 0, (⟨#[]⟩ : ByteArray)⟩ : S43)); (case aB => exact (by repeat (first | (with_reducible first | exact HB.out | apply qf | apply qg | apply qe) | exact HB.out))); (case aF => exact (fun _ _ => trivial)); (case aO => exact (by (with_reducible repeat (first | apply Kd.qo | apply Kd.qn | apply Kd.qm)); exact HO_8.out)); (case aS => exact (qG (by repeat (first | (with_reducible first | exact HB.out | apply qf | apply qg | apply qe) | exact HB.out)))); (case aL => have := LMc48.out; omega); intro v263 w59 ho hb hg hat; rw [← Ny262.out] at ho; have HO264 := qb.mk (ho); replace HB := qb.mk (hb); clear HO_8; clear ho hb hg hat))
                    replace HO264 := qb.mk (Kd.qm HO264.out)
                    replace HB := qb.mk (qe HB.out)
                    obtain ⟨Ao61, co61, eo61⟩ := Kd.qfb HO264.out
                    (first | subst eo61 | (injection eo61 with f1_ f2_ f3_; have f4_ := f1_.symm; have f5_ := f3_.symm; clear f1_ f2_ f3_; subst f4_; subst f5_))
                    have p265 : 0 ≤ ((ji49) : Int) := of_decide_eq_true (by first | (with_reducible assumption) | assumption)
                    have q265 : (ji49) < (y262.length : Int) := of_decide_eq_true (by first | (with_reducible assumption) | assumption)
                    obtain ⟨ad265, e265, hx265_0, hx265_1, hx265_2, hx265_3⟩ := qqb (Kd.qD HO264.out).2.2 (ji49) p265 q265
                    cases e265
                    replace p265 := eq_true p265
                    replace q265 := eq_true q265
                    have p56 : 0 ≤ ((ji49) : Int) := of_decide_eq_true (by first | (with_reducible assumption) | assumption)
                    have q56 : ((ji49) : Int) < ((y262.length : Int) : Int) := of_decide_eq_true (by first | (with_reducible assumption) | assumption)
                    obtain ⟨go56, co56, eo56, gb56, gl56, cl56, HG56⟩ := Kd.R_form HO264.out (by omega)
                    (first | cases eo56 | (injection eo56 with ea_ en_ ec_; (first | subst ea_ | (injection ea_ with ea_; subst ea_)); subst ec_; clear en_))
                    have GB56 := qb.mk gb56
                    have GG56 := qb.mk HG56
                    clear gb56 gl56 HG56
                    (first | simp only [add_plain] at hx265_0 | skip)
                    (first | simp only [add_plain] at hx265_1 | skip)
                    (first | simp only [add_plain] at hx265_2 | skip)
                    (first | simp only [add_plain] at hx265_3 | skip)
                    obtain ⟨ce56, hcl56, hM56, hcc56, hfr56⟩ := Kd.qkb HO264.out z43 ((ji49) : Int) p56 q56
                    obtain rfl := qmb hM56
                    have hx56_0 : World.cell? _ ⟨go56, ((ji49) : Int).toNat * 4, none⟩ = some (.int .i64 ((qc y262 (ji49)).f0)) := hcc56 0 _ rfl
                    have hx56_1 : World.cell? _ ⟨go56, ((ji49) : Int).toNat * 4 + 1, none⟩ = some (.int .i64 ((qc y262 (ji49)).f1)) := hcc56 1 _ rfl
                    have hx56_2 : World.cell? _ ⟨go56, ((ji49) : Int).toNat * 4 + 2, none⟩ = some (.int .i64 ((qc y262 (ji49)).f2)) := hcc56 2 _ rfl
                    have hx56_3 : World.cell? _ ⟨go56, ((ji49) : Int).toNat * 4 + 3, none⟩ = some (.string ((qc y262 (ji49)).f3)) := hcc56 3 _ rfl
                    have hf56_0 : World.frozen? _ ⟨go56, ((ji49) : Int).toNat * 4, none⟩ = false := hfr56 0
                    have hf56_1 : World.frozen? _ ⟨go56, ((ji49) : Int).toNat * 4 + 1, none⟩ = false := hfr56 1
                    have hf56_2 : World.frozen? _ ⟨go56, ((ji49) : Int).toNat * 4 + 2, none⟩ = false := hfr56 2
                    have hf56_3 : World.frozen? _ ⟨go56, ((ji49) : Int).toNat * 4 + 3, none⟩ = false := hfr56 3
                    clear hcl56 hcc56 hfr56 hM56
                    replace p56 := eq_true p56
                    replace q56 := eq_true q56
                    obtain ⟨ce62, hcl62, hM62, hcc62, hfr62⟩ := Kd.qkb HO264.out z43 ((ji49) : Int) (of_decide_eq_true (by first | (with_reducible assumption) | assumption)) (by have h_ : ((ji49) : Int) < ((y262.length : Int) : Int) := of_decide_eq_true (by first | (with_reducible assumption) | assumption); first | exact h_ | (have e_ := (Kd.qD HO264.out).1; omega) | simpa using h_)
                    obtain rfl := qmb hM62
                    have HP62 := (Kd.R_seg HO264.out ((ji49) : Int) (of_decide_eq_true (by first | (with_reducible assumption) | assumption)) (by have h_ : ((ji49) : Int) < ((y262.length : Int) : Int) := of_decide_eq_true (by first | (with_reducible assumption) | assumption); first | exact h_ | (have e_ := (Kd.qD HO264.out).1; omega) | simpa using h_) (seg := [.string (((qc y262 (ji49)).f3) ++ (a1.extract (x9_2 : Int).toNat ((wrap64 (x9_2 + 1)) : Int).toNat))]) (j := 3) hcl62 hcc62 (show 4 ≤ 4 from by decide) (x' := (⟨(qc y262 (ji49)).f0, (qc y262 (ji49)).f1, (qc y262 (ji49)).f2, ((qc y262 (ji49)).f3) ++ (a1.extract (x9_2 : Int).toNat ((wrap64 (x9_2 + 1)) : Int).toNat)⟩ : S43)) (qvb _ _ _ (⟨(qc y262 (ji49)).f0, (qc y262 (ji49)).f1, (qc y262 (ji49)).f2, ((qc y262 (ji49)).f3) ++ (a1.extract (x9_2 : Int).toNat ((wrap64 (x9_2 + 1)) : Int).toNat)⟩ : S43) ) (fun _ hk => hk)).1
                    rw [← Ny266.out] at HP62
                    have HQ62 := qb.mk HP62
                    clear hcl62 hcc62 hfr62 hM62 HP62
                    refine qAb (n := 15) (S := fun w' => w'.cell? ⟨go56, (((ji49)).toNat * 4), none⟩ = some (.int .i64 ((qc y262 (ji49)).f0)) ∧ w'.cell? ⟨go56, (((ji49)).toNat * 4) + 1, none⟩ = some (.int .i64 ((qc y262 (ji49)).f1)) ∧ w'.cell? ⟨go56, (((ji49)).toNat * 4) + 2, none⟩ = some (.int .i64 ((qc y262 (ji49)).f2)) ∧ w'.cell? ⟨go56, (((ji49)).toNat * 4) + 3, none⟩ = some (.string ((qc y262 (ji49)).f3))) (ds := [14]) (Extra.b [0, 15]) (by kernel_rfl) rfl rfl ⟨hx265_0, hx265_1, hx265_2, hx265_3⟩ (fun hHeld => ?_); refine qyb qS.tab14 qS.bits14 (fun HT_ HW_ => ?_)
                    generalize w59.drew = w60 at HO264 HB GG56 HQ62 hf56_0 hf56_1 hf56_2 hf56_3 hx265_0 hx265_1 hx265_2 hx265_3 hx56_0 hx56_1 hx56_2 hx56_3 hHeld ⊢
                    refine pure_ (i := 0) (N := some 69) (v := ?_) (a' := ?_) (Extra.b [1, 14]) rfl rfl (qw HT_.out (by kernel_rfl)) (fun _ _ _ h => h) (Or.inl ⟨by rfl, ?_⟩) ?_ ?_
                    rotate_left
                    ·intro w'
                     go_simp
                     with_reducible rfl
                    rotate_left
                    ·simp only [Act.put, List.setIfInBounds_toArray, List.set_cons_zero, List.set_cons_succ, i64_w, i32_w]
                     rfl
                    refine pure_ (i := 1) (N := some 70) (v := ?_) (a' := ?_) (Extra.b [2, 13]) rfl rfl (qw HT_.out (by kernel_rfl)) (fun _ _ _ h => h) (Or.inl ⟨by rfl, ?_⟩) ?_ ?_
                    rotate_left
                    ·intro w'
                     go_simp
                     with_reducible rfl
                    rotate_left
                    ·simp only [Act.put, List.setIfInBounds_toArray, List.set_cons_zero, List.set_cons_succ, i64_w, i32_w]
                     rfl
                    refine pure_ (i := 2) (N := some 71) (v := ?_) (a' := ?_) (Extra.b [3, 12]) rfl rfl (qw HT_.out (by kernel_rfl)) (fun _ _ _ h => h) (Or.inl ⟨by rfl, ?_⟩) ?_ ?_
                    rotate_left
                    ·intro w'
                     go_simp
                     with_reducible rfl
                    rotate_left
                    ·simp only [Act.put, List.setIfInBounds_toArray, List.set_cons_zero, List.set_cons_succ, i64_w, i32_w]
                     rfl
                    refine pure_ (i := 3) (N := some 72) (v := ?_) (a' := ?_) (Extra.b [4, 11]) rfl rfl (qw HT_.out (by kernel_rfl)) (fun _ _ _ h => h) (Or.inl ⟨by rfl, ?_⟩) ?_ ?_
                    rotate_left
                    ·intro w'
                     go_simp
                     with_reducible rfl
                    rotate_left
                    ·simp only [Act.put, List.setIfInBounds_toArray, List.set_cons_zero, List.set_cons_succ, i64_w, i32_w]
                     rfl
                    refine pure_ (i := 4) (N := some 73) (v := ?_) (a' := ?_) (Extra.b [5, 10]) rfl rfl (qw HT_.out (by kernel_rfl)) (fun _ _ _ h => h) (Or.inl ⟨by rfl, ?_⟩) ?_ ?_
                    rotate_left
                    ·intro w'
                     go_simp
                     with_reducible rfl
                    rotate_left
                    ·simp only [Act.put, List.setIfInBounds_toArray, List.set_cons_zero, List.set_cons_succ, i64_w, i32_w]
                     rfl
                    refine pure_ (i := 6) (N := some 75) (v := ?_) (a' := ?_) (Extra.b [5, 1, 1, 8]) rfl rfl (qw HT_.out (by kernel_rfl)) (fun _ _ _ h => h) (Or.inl ⟨by rfl, ?_⟩) ?_ ?_
                    rotate_left
                    ·intro w'
                     go_simp
                     with_reducible rfl
                    rotate_left
                    ·simp only [Act.put, List.setIfInBounds_toArray, List.set_cons_zero, List.set_cons_succ, i64_w, i32_w]
                     rfl
                    refine pure_ (i := 7) (N := some 76) (v := ?_) (a' := ?_) (Extra.b [5, 1, 2, 7]) rfl rfl (qw HT_.out (by kernel_rfl)) (fun _ _ _ h => h) (Or.inl ⟨by rfl, ?_⟩) ?_ ?_
                    rotate_left
                    ·intro w'
                     go_simp
                     with_reducible rfl
                    rotate_left
                    ·simp only [Act.put, List.setIfInBounds_toArray, List.set_cons_zero, List.set_cons_succ, i64_w, i32_w]
                     rfl
                    refine pure_ (i := 8) (N := some 77) (v := ?_) (a' := ?_) (Extra.b [5, 1, 3, 6]) rfl rfl (qw HT_.out (by kernel_rfl)) (fun _ _ _ h => h) (Or.inl ⟨by rfl, ?_⟩) ?_ ?_
                    rotate_left
                    ·intro w'
                     go_simp
                     with_reducible rfl
                    rotate_left
                    ·simp only [Act.put, List.setIfInBounds_toArray, List.set_cons_zero, List.set_cons_succ, i64_w, i32_w]
                     rfl
                    refine pure_ (i := 9) (N := some 78) (v := ?_) (a' := ?_) (Extra.b [5, 1, 4, 5]) rfl rfl (qw HT_.out (by kernel_rfl)) (fun _ _ _ h => h) (Or.inl ⟨by rfl, ?_⟩) ?_ ?_
                    rotate_left
                    ·intro w'
                     go_simp
                     with_reducible rfl
                    rotate_left
                    ·simp only [Act.put, List.setIfInBounds_toArray, List.set_cons_zero, List.set_cons_succ, i64_w, i32_w]
                     rfl
                    refine pure_ (i := 10) (N := some 79) (v := ?_) (a' := ?_) (Extra.b [5, 1, 5, 4]) rfl rfl (qw HT_.out (by kernel_rfl)) (fun _ _ _ h => h) (Or.inl ⟨by rfl, ?_⟩) ?_ ?_
                    rotate_left
                    ·intro w'
                     go_simp
                     with_reducible rfl
                    rotate_left
                    ·simp only [Act.put, List.setIfInBounds_toArray, List.set_cons_zero, List.set_cons_succ, i64_w, i32_w]
                     rfl
                    refine take_ (i := 5) (N := some 74) (v := ?_) (a' := ?_) (Extra.b [11, 4]) rfl rfl (qnb HT_.out HW_.out (by kernel_rfl)) (fun _ _ _ h => h) (Or.inl ⟨by rfl, ?_⟩) hHeld ?_ ?_
                    rotate_left
                    ·rintro w' ⟨s0, s1, s2, s3⟩
                     go_simp
                     with_reducible rfl
                    rotate_left
                    ·simp only [Act.put, List.setIfInBounds_toArray, List.set_cons_zero, List.set_cons_succ, i64_w, i32_w]
                     rfl
                    refine pure_ (i := 11) (N := some 80) (v := ?_) (a' := ?_) (Extra.b [12, 3]) rfl rfl (qw HT_.out (by kernel_rfl)) (fun _ _ _ h => h) (Or.inl ⟨by rfl, ?_⟩) ?_ ?_
                    rotate_left
                    ·intro w'
                     go_simp
                     with_reducible rfl
                    rotate_left
                    ·simp only [Act.put, List.setIfInBounds_toArray, List.set_cons_zero, List.set_cons_succ, i64_w, i32_w]
                     rfl
                    refine pure_ (i := 12) (N := some 81) (v := ?_) (a' := ?_) (Extra.b [13, 2]) rfl rfl (qw HT_.out (by kernel_rfl)) (fun _ _ _ h => h) (Or.inl ⟨by rfl, ?_⟩) ?_ ?_
                    rotate_left
                    ·intro w'
                     go_simp
                     with_reducible rfl
                    rotate_left
                    ·simp only [Act.put, List.setIfInBounds_toArray, List.set_cons_zero, List.set_cons_succ, i64_w, i32_w]
                     rfl
                    refine pure_ (i := 13) (N := some 82) (v := ?_) (a' := ?_) (Extra.b [14, 1]) rfl rfl (qw HT_.out (by kernel_rfl)) (fun _ _ _ h => h) (Or.inl ⟨by rfl, ?_⟩) ?_ ?_
                    rotate_left
                    ·intro w'
                     go_simp
                     with_reducible rfl
                    rotate_left
                    ·simp only [Act.put, List.setIfInBounds_toArray, List.set_cons_zero, List.set_cons_succ, i64_w, i32_w]
                     rfl
                    refine last_ (i := 14) (N := none) (Extra.b [15]) rfl rfl (qEb HT_.out (by kernel_rfl)) (by decide) (fun K hK => ?_)
                    refine skip_ (w1 := ?_) (by rfl) rfl ?_ ?_
                    rotate_left
                    ·go_simp
                     rfl
                    refine hK.out _ _ ?_
                    clear hK K
                    refine done_ (qzb HT_.out (by kernel_rfl)) ?_
                    try go_wp2
                    go_roundg k2
                    case measure => have := HJ3.out; have := HK2.out; omega
                    case rel => exact ⟨(y266), (wrap64 (x9_2 + 1)), (by first | rfl | (simp; done) | (simp [*]; done)), H', ⟨by have := HJ3.out; have := HK2.out; omega⟩, ⟨by (with_reducible repeat (first | apply Kd.qo | apply Kd.qn | apply Kd.qm)); exact HQ62.out⟩, ⟨by repeat (first | (with_reducible first | exact HB.out | apply qf | apply qg | apply qe | refine qk ?_ GB56.out) | exact HB.out)⟩⟩
                   ·rw [if_neg c55] at H
                    exact absurd H (by simp)
                  ·rw [if_neg c54] at H
                   exact absurd H (by simp)
                 ·rw [if_neg c53] at H
                  exact absurd H (by simp)
                ·rw [if_neg c51] at H
                 exact absurd H (by simp)
               ·rw [if_neg c50] at H
                exact absurd H (by simp)
              ·rw [if_neg c48] at H
               exact absurd H (by simp)
            ·rw [if_neg c37] at H
             exact absurd H (by simp)
           ·rw [if_neg c36] at H
            exact absurd H (by simp)
        ·rw [if_neg c13] at H
         exact absurd H (by simp)
       ·rw [if_neg c12] at H
        exact absurd H (by simp)
      ·rw [if_neg c11] at H
       have c11b0 : decide (x9_2 < (a1.size : Int)) = false := decide_eq_false c11
       clear c11
       simp only [Option.some.injEq, Prod.mk.injEq] at H
       obtain ⟨rfl, rfl⟩ := H
       go_wp2
       go_ret2
       exact ⟨_, by first | rfl | (simp [qv, qu] <;> rfl) | (simp [*, qv, qu] <;> rfl), by (with_reducible repeat (first | apply Kd.qo | apply Kd.qn | apply Kd.qm)); exact HO_8.out, by repeat (first | (with_reducible first | exact HB.out | apply qf | apply qg | apply qe) | exact HB.out)⟩

end Go.Proofs.Ytnhnlfkbngnkpaa.E
