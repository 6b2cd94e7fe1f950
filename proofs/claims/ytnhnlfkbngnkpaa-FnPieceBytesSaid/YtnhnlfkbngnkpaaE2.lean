-- Made by a program of this session out of the translation; no hand has turned it.
import Derived.Test.YtnhnlfkbngnkpaaE0
namespace Go.Proofs.Ytnhnlfkbngnkpaa.E
open Go.RowKit Go.Proofs.YtnhnlfkbngnkpaaW.PrintWords Go.Proofs.YtnhnlfkbngnkpaaW.PrintLast Go.Proofs.YtnhnlfkbngnkpaaW.PrintMore
attribute [local go_sem] qXb qbc qac qec qZb qdc qYb qcc   -- for this text's walks alone
set_option linter.unusedVariables false
set_option linter.unusedSimpArgs false

/-! ### qic: function 58 -/
def qic.f (a0 : Int) (a1 : Int) (a2 : Int) : Option (Bool) := if a0 ≥ a1 then (some (decide (a0 ≤ a2))) else (some false)
set_option maxHeartbeats 8000000 in
set_option maxRecDepth 100000 in
theorem qic.calls (a0 : Int) (a1 : Int) (a2 : Int) (r : Bool) (w : World) (h : qic.f a0 a1 a2 = some r) :
  Calls Try.prog 58 #[.int .i64 a0, .int .i64 a1, .int .i64 a2] w fun e w' => e = .returned (.bool r) ∧ Drawn0 w w' := by
 have H : (if a0 ≥ a1 then (some (decide (a0 ≤ a2))) else (some false)) = some r := h
 clear h
 by_cases c4 : a0 ≥ a1
 ·rw [if_pos c4] at H
  have c4b0 : decide (a1 ≤ a0) = true := decide_eq_true c4
  clear c4
  obtain rfl := Option.some.inj H
  go_enter Try.func58, Try.ntmps58
  go_wp2
  go_ret
  exact ⟨by first | rfl | (simp; done) | (simp [*]; done), by repeat (first | exact Drawn0.refl _ | apply Drawn0.step)⟩
 ·rw [if_neg c4] at H
  have c4b0 : decide (a1 ≤ a0) = false := decide_eq_false c4
  clear c4
  obtain rfl := Option.some.inj H
  go_enter Try.func58, Try.ntmps58
  go_wp2
  go_ret
  exact ⟨by first | rfl | (simp; done) | (simp [*]; done), by repeat (first | exact Drawn0.refl _ | apply Drawn0.step)⟩

/-! ### qWb: function 67 -/
def qWb.f (a0 : ByteArray) : Option (Bool) := some (decide ((a0.size : Int) ≤ 300))
set_option maxHeartbeats 8000000 in
set_option maxRecDepth 100000 in
theorem qWb.calls (a0 : ByteArray) (r : Bool) (w : World) (h : qWb.f a0 = some r) :
  Calls Try.prog 67 #[.string a0] w fun e w' => e = .returned (.bool r) ∧ Drawn0 w w' := by
 have H : (some (decide ((a0.size : Int) ≤ 300))) = some r := h
 clear h
 obtain rfl := Option.some.inj H
 go_enter Try.func67, Try.ntmps67
 go_wp2
 go_ret
 exact ⟨by first | rfl | (simp; done) | (simp [*]; done), by repeat (first | exact Drawn0.refl _ | apply Drawn0.step)⟩

/-! ### qR: function 61 -/
mutual
def qR.j0 : Nat → ByteArray → List (S43) → Bool → Option (ByteArray × Bool)
 | 0, _, _, _ => none
 | k + 1, x0, x1, x16 => if x16 = true then (some ((⟨#[]⟩ : ByteArray), false)) else (qR.l0 k x0 (⟨#[]⟩ : ByteArray) x1 (x1.length : Int) 0)
def qR.l0 : Nat → ByteArray → ByteArray → List (S43) → Int → Int → Option (ByteArray × Bool)
 | 0, _, _, _, _, _ => none
 | k + 1, x0, x6, x17, x18, x19 => if x19 < x18 then (if 0 ≤ x19 then (if x19 < (x17.length : Int) then (if ((qc x17 x19).f0) = 1 then (if ((qc x17 x19).f3).toList = ([] : List UInt8) then ((qic.f ((qc x17 x19).f1) 0 (wrap64 ((x0.size : Int) - 1))).bind fun t104 => (if t104 = true then ((qic.f ((qc x17 x19).f2) 1 (wrap64 ((x0.size : Int) - ((qc x17 x19).f1)))).bind fun t105 => (qR.j2 k x0 x6 x17 x18 x19 t105 ((qc x17 x19).f0) ((qc x17 x19).f1) ((qc x17 x19).f2) ((qc x17 x19).f3))) else (qR.j2 k x0 x6 x17 x18 x19 false ((qc x17 x19).f0) ((qc x17 x19).f1) ((qc x17 x19).f2) ((qc x17 x19).f3)))) else (qR.j2 k x0 x6 x17 x18 x19 false ((qc x17 x19).f0) ((qc x17 x19).f1) ((qc x17 x19).f2) ((qc x17 x19).f3))) else (qR.j2 k x0 x6 x17 x18 x19 false ((qc x17 x19).f0) ((qc x17 x19).f1) ((qc x17 x19).f2) ((qc x17 x19).f3))) else (none)) else (none)) else (some (x6, true))
def qR.j2 : Nat → ByteArray → ByteArray → List (S43) → Int → Int → Bool → Int → Int → Int → ByteArray → Option (ByteArray × Bool)
 | 0, _, _, _, _, _, _, _, _, _, _ => none
 | k + 1, x0, x6, x17, x18, x19, x23, x104000, x104001, x104002, x104003 => if x23 = true then (if 0 ≤ x104001 then (if x104001 ≤ (wrap64 (x104001 + x104002)) then (if (wrap64 (x104001 + x104002)) ≤ (x0.size : Int) then (if x6.size + (x0.extract (x104001 : Int).toNat ((wrap64 (x104001 + x104002)) : Int).toNat).size ≤ 9223372036854775807 then ((qWb.f (x6 ++ (x0.extract (x104001 : Int).toNat ((wrap64 (x104001 + x104002)) : Int).toNat))).bind fun t106 => (if t106 = true then (qR.l0 k x0 (x6 ++ (x0.extract (x104001 : Int).toNat ((wrap64 (x104001 + x104002)) : Int).toNat)) x17 x18 (wrap64 (x19 + 1))) else (some ((⟨#[]⟩ : ByteArray), false)))) else (none)) else (none)) else (none)) else (none)) else (if x104000 = 2 then (if x104001 = 0 then (if x104002 = 0 then ((qic.f (x104003.size : Int) 1 300).bind fun t107 => (qR.j3 k x0 x6 x17 x18 x19 t107 x104000 x104001 x104002 x104003)) else (qR.j3 k x0 x6 x17 x18 x19 false x104000 x104001 x104002 x104003)) else (qR.j3 k x0 x6 x17 x18 x19 false x104000 x104001 x104002 x104003)) else (qR.j3 k x0 x6 x17 x18 x19 false x104000 x104001 x104002 x104003))
def qR.j3 : Nat → ByteArray → ByteArray → List (S43) → Int → Int → Bool → Int → Int → Int → ByteArray → Option (ByteArray × Bool)
 | 0, _, _, _, _, _, _, _, _, _, _ => none
 | k + 1, x0, x6, x17, x18, x19, x61, x104000, x104001, x104002, x104003 => if x61 = true then (if x6.size + x104003.size ≤ 9223372036854775807 then ((qWb.f (x6 ++ x104003)).bind fun t108 => (if t108 = true then (qR.l0 k x0 (x6 ++ x104003) x17 x18 (wrap64 (x19 + 1))) else (some ((⟨#[]⟩ : ByteArray), false)))) else (none)) else (some ((⟨#[]⟩ : ByteArray), false))
end
def qR.f (k : Nat) (a0 : ByteArray) (l1 : List (S43)) : Option (ByteArray × Bool) := (qWb.f a0).bind fun t101 => (if t101 = true then (qR.j0 k a0 l1 (decide ((l1.length : Int) > 300))) else (qR.j0 k a0 l1 true))
theorem qR.qjb : ∀ k, (∀ y0 y1 y2, LeO (qR.j0 k y0 y1 y2) (qR.j0 (k + 1) y0 y1 y2)) ∧ (∀ y0 y1 y2 y3 y4, LeO (qR.l0 k y0 y1 y2 y3 y4) (qR.l0 (k + 1) y0 y1 y2 y3 y4)) ∧ (∀ y0 y1 y2 y3 y4 y5 y6 y7 y8 y9, LeO (qR.j2 k y0 y1 y2 y3 y4 y5 y6 y7 y8 y9) (qR.j2 (k + 1) y0 y1 y2 y3 y4 y5 y6 y7 y8 y9)) ∧ (∀ y0 y1 y2 y3 y4 y5 y6 y7 y8 y9, LeO (qR.j3 k y0 y1 y2 y3 y4 y5 y6 y7 y8 y9) (qR.j3 (k + 1) y0 y1 y2 y3 y4 y5 y6 y7 y8 y9))
 | 0 => ⟨fun _ _ _ r h => by simp [qR.j0] at h, fun _ _ _ _ _ r h => by simp [qR.l0] at h, fun _ _ _ _ _ _ _ _ _ _ r h => by simp [qR.j2] at h, fun _ _ _ _ _ _ _ _ _ _ r h => by simp [qR.j3] at h⟩
 | k + 1 => by
  obtain ⟨ih0, ih1, ih2, ih3⟩ := qR.qjb k
  refine ⟨?_, ?_, ?_, ?_⟩
  ·intro y0 y1 y2
   unfold qR.j0
   repeat' first
   | (with_reducible exact ih0 _ _ _)
   | (with_reducible exact ih1 _ _ _ _ _)
   | (with_reducible exact ih2 _ _ _ _ _ _ _ _ _ _)
   | (with_reducible exact ih3 _ _ _ _ _ _ _ _ _ _)
   | (with_reducible exact LeO.refl _)
   | (with_reducible exact LeO.none _)
   | (with_reducible refine LeO.ite ?_ ?_)
   | (with_reducible refine LeO.bind ?_ (fun _ => ?_))
   | exact LeO.none _
   | refine LeO.ite ?_ ?_
   | refine LeO.bind ?_ (fun _ => ?_)
  ·intro y0 y1 y2 y3 y4
   unfold qR.l0
   repeat' first
   | (with_reducible exact ih0 _ _ _)
   | (with_reducible exact ih1 _ _ _ _ _)
   | (with_reducible exact ih2 _ _ _ _ _ _ _ _ _ _)
   | (with_reducible exact ih3 _ _ _ _ _ _ _ _ _ _)
   | (with_reducible exact LeO.refl _)
   | (with_reducible exact LeO.none _)
   | (with_reducible refine LeO.ite ?_ ?_)
   | (with_reducible refine LeO.bind ?_ (fun _ => ?_))
   | exact LeO.none _
   | refine LeO.ite ?_ ?_
   | refine LeO.bind ?_ (fun _ => ?_)
  ·intro y0 y1 y2 y3 y4 y5 y6 y7 y8 y9
   unfold qR.j2
   repeat' first
   | (with_reducible exact ih0 _ _ _)
   | (with_reducible exact ih1 _ _ _ _ _)
   | (with_reducible exact ih2 _ _ _ _ _ _ _ _ _ _)
   | (with_reducible exact ih3 _ _ _ _ _ _ _ _ _ _)
   | (with_reducible exact LeO.refl _)
   | (with_reducible exact LeO.none _)
   | (with_reducible refine LeO.ite ?_ ?_)
   | (with_reducible refine LeO.bind ?_ (fun _ => ?_))
   | exact LeO.none _
   | refine LeO.ite ?_ ?_
   | refine LeO.bind ?_ (fun _ => ?_)
  ·intro y0 y1 y2 y3 y4 y5 y6 y7 y8 y9
   unfold qR.j3
   repeat' first
   | (with_reducible exact ih0 _ _ _)
   | (with_reducible exact ih1 _ _ _ _ _)
   | (with_reducible exact ih2 _ _ _ _ _ _ _ _ _ _)
   | (with_reducible exact ih3 _ _ _ _ _ _ _ _ _ _)
   | (with_reducible exact LeO.refl _)
   | (with_reducible exact LeO.none _)
   | (with_reducible refine LeO.ite ?_ ?_)
   | (with_reducible refine LeO.bind ?_ (fun _ => ?_))
   | exact LeO.none _
   | refine LeO.ite ?_ ?_
   | refine LeO.bind ?_ (fun _ => ?_)
theorem qR.mono : ∀ a0 a1 k, LeO (qR.f k a0 a1) (qR.f (k + 1) a0 a1) := by
 intro a0 a1 k
 obtain ⟨ih0, ih1, ih2, ih3⟩ := qR.qjb k
 unfold qR.f
 repeat' first
   | (with_reducible exact ih0 _ _ _)
   | (with_reducible exact ih1 _ _ _ _ _)
   | (with_reducible exact ih2 _ _ _ _ _ _ _ _ _ _)
   | (with_reducible exact ih3 _ _ _ _ _ _ _ _ _ _)
   | (with_reducible exact LeO.refl _)
   | (with_reducible exact LeO.none _)
   | (with_reducible refine LeO.ite ?_ ?_)
   | (with_reducible refine LeO.bind ?_ (fun _ => ?_))
   | exact LeO.none _
   | refine LeO.ite ?_ ?_
   | refine LeO.bind ?_ (fun _ => ?_)
set_option maxHeartbeats 8000000 in
set_option maxRecDepth 100000 in
theorem qR.calls (k : Nat) (a0 : ByteArray) (A1 : Option Addr) (c1 : Nat) (l1 : List (S43)) (r1 : ByteArray) (r2 : Bool) (w : World) (hr1 : Kd.C k43 w A1 l1.length l1) (hc1 : l1.length ≤ c1) (h : qR.f k a0 l1 = some (r1, r2)) :
  Calls Try.prog 61 #[.string a0, .slice A1 l1.length c1] w fun e w' => e = .returned (.tuple #[.string r1, .bool r2]) ∧ Below w.heap.size w w' := by
 have hu43 := Try.underlying43
 have HR1 := qb.mk hr1
 have HC1 := qb.mk hc1
 clear hr1 hc1
 have HB := qb.mk (Below.refl w.heap.size w)
 have H : ((qWb.f a0).bind fun t101 => (if t101 = true then (qR.j0 k a0 l1 (decide ((l1.length : Int) > 300))) else (qR.j0 k a0 l1 true))) = some (r1, r2) := h
 clear h
 have HC3 := qb.mk H
 clear H
 go_enter Try.func61, Try.ntmps61
 go_upto_region 1 with (fail)
 go_cut [16] (fun v16 wc => ∃ (kq : Nat) (x16_2 : Bool), v16 = .bool x16_2 ∧ qb (qR.j0 kq a0 l1 x16_2 = some (r1, r2)) ∧ qb (kq ≤ k) ∧ qb (Below w.heap.size w wc))
 case first =>
  have H := HC3.out
  clear HC3
  replace H := Option.bind_eq_some_iff.mp H
  obtain ⟨t101, A40, H⟩ := H
  try dsimp only at H
  have A4 := qb.mk A40
  clear A40
  by_cases c5 : t101 = true
  ·subst c5
   rw [if_pos rfl] at H
   have H' := qb.mk H
   clear H
   go_wp2_with (first | ((with_reducible refine qy (f := 67) rfl ?_); refine qz (some 10) rfl rfl Try.func67 (by kernel_rfl) rfl #[.string a0] rfl (by (try simp only [List.map_toArray, List.map_cons, List.map_nil]); first | done | rfl | (simp only [List.length_drop, List.length_take]; rfl)) ?_; (with_reducible refine (qWb.calls a0 true _ A4.out).mono ?_); rintro e w' ⟨rfl, ⟨nd, rfl⟩⟩; refine ⟨_, rfl, ?_⟩))
   go_meet
   case rel => exact ⟨_, (decide ((l1.length : Int) > 300)), (by first | rfl | (simp; done) | (simp [*]; done)), H', ⟨by first | omega | exact Nat.le_refl _⟩, ⟨by repeat (first | (with_reducible first | exact HB.out | apply qf | apply qg | apply qe) | exact HB.out)⟩⟩
  ·replace c5 := Bool.eq_false_iff.mpr c5
   subst c5
   rw [if_neg (show ¬ (false = true) by decide)] at H
   have H' := qb.mk H
   clear H
   go_wp2_with (first | ((with_reducible refine qy (f := 67) rfl ?_); refine qz (some 10) rfl rfl Try.func67 (by kernel_rfl) rfl #[.string a0] rfl (by (try simp only [List.map_toArray, List.map_cons, List.map_nil]); first | done | rfl | (simp only [List.length_drop, List.length_take]; rfl)) ?_; (with_reducible refine (qWb.calls a0 false _ A4.out).mono ?_); rintro e w' ⟨rfl, ⟨nd, rfl⟩⟩; refine ⟨_, rfl, ?_⟩))
   go_meet
   case rel => exact ⟨_, (true), (by first | rfl | (simp; done) | (simp [*]; done)), H', ⟨by first | omega | exact Nat.le_refl _⟩, ⟨by repeat (first | (with_reducible first | exact HB.out | apply qf | apply qg | apply qe) | exact HB.out)⟩⟩
 case rest =>
  clear HC3
  try clear c1
  try clear p2
  try clear c5
  obtain ⟨kq, x16_2, rfl, HA, HJ2, HB⟩ := hcut
  cases kq with
  | zero => exact absurd HA.out (by simp [qR.j0])
  | succ kj2 =>
   have H := HA.out
   clear HA
   simp only [qR.j0] at H
   by_cases c6 : x16_2 = true
   ·subst c6
    rw [if_pos rfl] at H
    simp only [Option.some.injEq, Prod.mk.injEq] at H
    obtain ⟨rfl, rfl⟩ := H
    go_wp2
    go_ret2
    exact ⟨by first | rfl | (simp [qv, qu] <;> rfl) | (simp [*, qv, qu] <;> rfl), by repeat (first | (with_reducible first | exact HB.out | apply qf | apply qg | apply qe) | exact HB.out)⟩
   ·replace c6 := Bool.eq_false_iff.mpr c6
    subst c6
    rw [if_neg (show ¬ (false = true) by decide)] at H
    have H' := qb.mk H
    clear H
    go_wp2
    go_loopg [6, 19] kj2 (fun kq v6 v19 w' => ∃ (x6_2 : ByteArray) (x19_2 : Int), v6 = .string x6_2 ∧ v19 = .int .i64 x19_2 ∧ qb (qR.l0 kq a0 x6_2 l1 (l1.length : Int) x19_2 = some (r1, r2)) ∧ qb (kq ≤ kj2) ∧ qb (Below w.heap.size w w'))
    case atStart => exact ⟨((⟨#[]⟩ : ByteArray)), (0), (by first | rfl | (simp; done) | (simp [*]; done)), (by first | rfl | (simp; done) | (simp [*]; done)), H', ⟨Nat.le_refl _⟩, ⟨by repeat (first | (with_reducible first | exact HB.out | apply qf | apply qg | apply qe) | exact HB.out)⟩⟩
    case round =>
     clear H'
     try clear c1
     try clear p2
     try clear c5
     try clear c6
     try clear p2
     obtain ⟨x6_2, x19_2, rfl, rfl, HA, HK2, HB⟩ := hrel
     cases gk with
     | zero => exact absurd HA.out (by simp [qR.l0])
     | succ k2 =>
      have H := HA.out
      clear HA
      simp only [qR.l0] at H
      by_cases c7 : x19_2 < (l1.length : Int)
      ·rw [if_pos c7] at H
       have c7b0 : decide (x19_2 < (l1.length : Int)) = true := decide_eq_true c7
       clear c7
       by_cases c8 : 0 ≤ x19_2
       ·rw [if_pos c8] at H
        have c8b0 : decide (0 ≤ x19_2) = true := decide_eq_true c8
        clear c8
        by_cases c9 : x19_2 < (l1.length : Int)
        ·rw [if_pos c9] at H
         have c9b0 : decide (x19_2 < (l1.length : Int)) = true := decide_eq_true c9
         clear c9
         have HC10 := qb.mk H
         clear H
         have p102 : 0 ≤ (x19_2 : Int) := of_decide_eq_true (by first | (with_reducible assumption) | assumption)
         have q102 : x19_2 < (l1.length : Int) := of_decide_eq_true (by first | (with_reducible assumption) | assumption)
         obtain ⟨ad102, e102, hx102_0, hx102_1, hx102_2, hx102_3⟩ := qqb HR1.out x19_2 p102 q102
         cases e102
         replace hx102_0 := (HB.out.cell (World.block_lt_of_cell? w _ hx102_0)).trans hx102_0
         replace hx102_1 := (HB.out.cell (World.block_lt_of_cell? w _ hx102_1)).trans hx102_1
         replace hx102_2 := (HB.out.cell (World.block_lt_of_cell? w _ hx102_2)).trans hx102_2
         replace hx102_3 := (HB.out.cell (World.block_lt_of_cell? w _ hx102_3)).trans hx102_3
         replace p102 := eq_true p102
         replace q102 := eq_true q102
         go_upto_region 8 with (first | ((with_reducible refine qcb (N := 8) rfl ?_); (try (refine qub (by rfl) ?_; dsimp only)); refine qpb ?hg (N := 8) ?hd (cs := #[.int .i64 0, .int .i64 0, .int .i64 0, .string (⟨#[]⟩ : ByteArray)]) (t := 43) ?hr ?_; (case hd => rfl); (case hg => rfl); (case hr => first | (go_simp; done) | (go_simp; rfl)); intro gb103 hg w11 hbox hb; have BK103 := qb.mk (hbox); have GW103 := qb.mk ((by rw [hg]; exact (qG (by repeat (first | (with_reducible first | exact HB.out | apply qf | apply qg | apply qe) | exact HB.out))) : w.heap.size ≤ gb103)); have GE103 := qb.mk ((by rw [hg]; exact (qG (by repeat (first | (with_reducible first | exact HB.out | apply qf | apply qg | apply qe) | exact HB.out))) : w.heap.size ≤ gb103)); replace HB := qb.mk (qE (by repeat (first | (with_reducible first | exact HB.out | apply qf | apply qg | apply qe) | exact HB.out)) hb); clear hb hbox hg; have hcz12_0 : w11.cell? ⟨gb103, 0, none⟩ = some (.int .i64 0) := (ql BK103.out 0).trans rfl; have hcz12_1 : w11.cell? ⟨gb103, 1, none⟩ = some (.int .i64 0) := (ql BK103.out 1).trans rfl; have hcz12_2 : w11.cell? ⟨gb103, 2, none⟩ = some (.int .i64 0) := (ql BK103.out 2).trans rfl; have hcz12_3 : w11.cell? ⟨gb103, 3, none⟩ = some (.string (⟨#[]⟩ : ByteArray)) := (ql BK103.out 3).trans rfl; have hfz12_0 := qp BK103.out 0; have hfz12_1 := qp BK103.out 1; have hfz12_2 := qp BK103.out 2; have hfz12_3 := qp BK103.out 3))
         (try simp only [Act.put, List.setIfInBounds_toArray, List.set_cons_zero, List.set_cons_succ])
         go_cut [23] (fun v23 wc => ∃ (kq : Nat) (x23_9 : Bool), v23 = .bool x23_9 ∧ qb (qR.j2 kq a0 x6_2 l1 (l1.length : Int) x19_2 x23_9 ((qc l1 x19_2).f0) ((qc l1 x19_2).f1) ((qc l1 x19_2).f2) ((qc l1 x19_2).f3) = some (r1, r2)) ∧ qb (kq ≤ k2) ∧ qb (wc.heap[gb103]? = some (.cells #[.int .i64 ((qc l1 x19_2).f0), .int .i64 ((qc l1 x19_2).f1), .int .i64 ((qc l1 x19_2).f2), .string ((qc l1 x19_2).f3)] 43 (0, 0))) ∧ qb (Below w.heap.size w wc))
         case first =>
          have H := HC10.out
          clear HC10
          by_cases c13 : ((qc l1 x19_2).f0) = 1
          ·rw [if_pos c13] at H
           have c13b0 : (((qc l1 x19_2).f0) == 1) = true := beq_iff_eq.mpr c13
           have c13b1 : (((qc l1 x19_2).f0) != 1) = false := bne_eq_false_iff_eq.mpr c13
           clear c13
           (first | rw [c13b0] | (simp only [i64_w, i32_w]; rw [c13b0]) | skip)
           by_cases c14 : ((qc l1 x19_2).f3).toList = ([] : List UInt8)
           ·rw [if_pos c14] at H
            have c14b0 : (((qc l1 x19_2).f3).toList == ([] : List UInt8)) = true := beq_iff_eq.mpr c14
            have c14b1 : (((qc l1 x19_2).f3).toList != ([] : List UInt8)) = false := bne_eq_false_iff_eq.mpr c14
            clear c14
            replace H := Option.bind_eq_some_iff.mp H
            obtain ⟨t104, A150, H⟩ := H
            try dsimp only at H
            have A15 := qb.mk A150
            clear A150
            by_cases c16 : t104 = true
            ·subst c16
             rw [if_pos rfl] at H
             replace H := Option.bind_eq_some_iff.mp H
             obtain ⟨t105, A170, H⟩ := H
             try dsimp only at H
             have A17 := qb.mk A170
             clear A170
             have H' := qb.mk H
             clear H
             have hcz18_0 : w11.cell? ⟨gb103, 0, none⟩ = some (.int .i64 0) := (ql BK103.out 0).trans rfl
             have hcz18_1 : w11.cell? ⟨gb103, 1, none⟩ = some (.int .i64 0) := (ql BK103.out 1).trans rfl
             have hcz18_2 : w11.cell? ⟨gb103, 2, none⟩ = some (.int .i64 0) := (ql BK103.out 2).trans rfl
             have hcz18_3 : w11.cell? ⟨gb103, 3, none⟩ = some (.string (⟨#[]⟩ : ByteArray)) := (ql BK103.out 3).trans rfl
             have hfz18_0 := qp BK103.out 0
             have hfz18_1 := qp BK103.out 1
             have hfz18_2 := qp BK103.out 2
             have hfz18_3 := qp BK103.out 3
             go_wp2_with (first | (go_at_call 58; (with_reducible refine (qic.calls ((qc l1 x19_2).f1) 0 (wrap64 ((a0.size : Int) - 1)) true _ A15.out).mono ?_); rintro e w' ⟨rfl, ⟨nd, rfl⟩⟩) | (go_at_call 58; (with_reducible refine (qic.calls ((qc l1 x19_2).f2) 1 (wrap64 ((a0.size : Int) - ((qc l1 x19_2).f1))) t105 _ A17.out).mono ?_); rintro e w' ⟨rfl, ⟨nd, rfl⟩⟩))
             go_meet
             case rel => exact ⟨_, (t105), (by first | rfl | (simp; done) | (simp [*]; done)), H', ⟨by have := HJ2.out; have := HK2.out; first | omega | exact Nat.le_refl _⟩, ⟨by (with_reducible repeat (first | refine qB ?_ _ | refine qx ?_ | refine qC ?_ _)); refine qL (cs := #[.int .i64 ((qc l1 x19_2).f0), .int .i64 ((qc l1 x19_2).f1), .int .i64 ((qc l1 x19_2).f2), .string (⟨#[]⟩ : ByteArray)]) ?_ 3 _ rfl; (with_reducible repeat (first | refine qB ?_ _ | refine qx ?_ | refine qC ?_ _)); refine qL (cs := #[.int .i64 ((qc l1 x19_2).f0), .int .i64 ((qc l1 x19_2).f1), .int .i64 0, .string (⟨#[]⟩ : ByteArray)]) ?_ 2 _ rfl; (with_reducible repeat (first | refine qB ?_ _ | refine qx ?_ | refine qC ?_ _)); refine qL (cs := #[.int .i64 ((qc l1 x19_2).f0), .int .i64 0, .int .i64 0, .string (⟨#[]⟩ : ByteArray)]) ?_ 1 _ rfl; (with_reducible repeat (first | refine qB ?_ _ | refine qx ?_ | refine qC ?_ _)); refine qL (cs := #[.int .i64 0, .int .i64 0, .int .i64 0, .string (⟨#[]⟩ : ByteArray)]) ?_ 0 _ rfl; (with_reducible repeat (first | refine qB ?_ _ | refine qx ?_ | refine qC ?_ _)); exact BK103.out⟩, ⟨by repeat (first | (with_reducible first | exact HB.out | apply qf | apply qg | apply qe | refine qk ?_ GE103.out) | exact HB.out)⟩⟩
            ·replace c16 := Bool.eq_false_iff.mpr c16
             subst c16
             rw [if_neg (show ¬ (false = true) by decide)] at H
             have H' := qb.mk H
             clear H
             have hcz19_0 : w11.cell? ⟨gb103, 0, none⟩ = some (.int .i64 0) := (ql BK103.out 0).trans rfl
             have hcz19_1 : w11.cell? ⟨gb103, 1, none⟩ = some (.int .i64 0) := (ql BK103.out 1).trans rfl
             have hcz19_2 : w11.cell? ⟨gb103, 2, none⟩ = some (.int .i64 0) := (ql BK103.out 2).trans rfl
             have hcz19_3 : w11.cell? ⟨gb103, 3, none⟩ = some (.string (⟨#[]⟩ : ByteArray)) := (ql BK103.out 3).trans rfl
             have hfz19_0 := qp BK103.out 0
             have hfz19_1 := qp BK103.out 1
             have hfz19_2 := qp BK103.out 2
             have hfz19_3 := qp BK103.out 3
             go_wp2_with (first | (go_at_call 58; (with_reducible refine (qic.calls ((qc l1 x19_2).f1) 0 (wrap64 ((a0.size : Int) - 1)) false _ A15.out).mono ?_); rintro e w' ⟨rfl, ⟨nd, rfl⟩⟩))
             go_meet
             case rel => exact ⟨_, (false), (by first | rfl | (simp; done) | (simp [*]; done)), H', ⟨by have := HJ2.out; have := HK2.out; first | omega | exact Nat.le_refl _⟩, ⟨by (with_reducible repeat (first | refine qB ?_ _ | refine qx ?_ | refine qC ?_ _)); refine qL (cs := #[.int .i64 ((qc l1 x19_2).f0), .int .i64 ((qc l1 x19_2).f1), .int .i64 ((qc l1 x19_2).f2), .string (⟨#[]⟩ : ByteArray)]) ?_ 3 _ rfl; (with_reducible repeat (first | refine qB ?_ _ | refine qx ?_ | refine qC ?_ _)); refine qL (cs := #[.int .i64 ((qc l1 x19_2).f0), .int .i64 ((qc l1 x19_2).f1), .int .i64 0, .string (⟨#[]⟩ : ByteArray)]) ?_ 2 _ rfl; (with_reducible repeat (first | refine qB ?_ _ | refine qx ?_ | refine qC ?_ _)); refine qL (cs := #[.int .i64 ((qc l1 x19_2).f0), .int .i64 0, .int .i64 0, .string (⟨#[]⟩ : ByteArray)]) ?_ 1 _ rfl; (with_reducible repeat (first | refine qB ?_ _ | refine qx ?_ | refine qC ?_ _)); refine qL (cs := #[.int .i64 0, .int .i64 0, .int .i64 0, .string (⟨#[]⟩ : ByteArray)]) ?_ 0 _ rfl; (with_reducible repeat (first | refine qB ?_ _ | refine qx ?_ | refine qC ?_ _)); exact BK103.out⟩, ⟨by repeat (first | (with_reducible first | exact HB.out | apply qf | apply qg | apply qe | refine qk ?_ GE103.out) | exact HB.out)⟩⟩
           ·rw [if_neg c14] at H
            have c14b0 : (((qc l1 x19_2).f3).toList == ([] : List UInt8)) = false := beq_eq_false_iff_ne.mpr c14
            have c14b1 : (((qc l1 x19_2).f3).toList != ([] : List UInt8)) = true := bne_iff_ne.mpr c14
            have H' := qb.mk H
            clear H
            have hcz20_0 : w11.cell? ⟨gb103, 0, none⟩ = some (.int .i64 0) := (ql BK103.out 0).trans rfl
            have hcz20_1 : w11.cell? ⟨gb103, 1, none⟩ = some (.int .i64 0) := (ql BK103.out 1).trans rfl
            have hcz20_2 : w11.cell? ⟨gb103, 2, none⟩ = some (.int .i64 0) := (ql BK103.out 2).trans rfl
            have hcz20_3 : w11.cell? ⟨gb103, 3, none⟩ = some (.string (⟨#[]⟩ : ByteArray)) := (ql BK103.out 3).trans rfl
            have hfz20_0 := qp BK103.out 0
            have hfz20_1 := qp BK103.out 1
            have hfz20_2 := qp BK103.out 2
            have hfz20_3 := qp BK103.out 3
            go_wp2
            go_meet
            case rel => exact ⟨_, (false), (by first | rfl | (simp; done) | (simp [*]; done)), H', ⟨by have := HJ2.out; have := HK2.out; first | omega | exact Nat.le_refl _⟩, ⟨by (with_reducible repeat (first | refine qB ?_ _ | refine qx ?_ | refine qC ?_ _)); refine qL (cs := #[.int .i64 ((qc l1 x19_2).f0), .int .i64 ((qc l1 x19_2).f1), .int .i64 ((qc l1 x19_2).f2), .string (⟨#[]⟩ : ByteArray)]) ?_ 3 _ rfl; (with_reducible repeat (first | refine qB ?_ _ | refine qx ?_ | refine qC ?_ _)); refine qL (cs := #[.int .i64 ((qc l1 x19_2).f0), .int .i64 ((qc l1 x19_2).f1), .int .i64 0, .string (⟨#[]⟩ : ByteArray)]) ?_ 2 _ rfl; (with_reducible repeat (first | refine qB ?_ _ | refine qx ?_ | refine qC ?_ _)); refine qL (cs := #[.int .i64 ((qc l1 x19_2).f0), .int .i64 0, .int .i64 0, .string (⟨#[]⟩ : ByteArray)]) ?_ 1 _ rfl; (with_reducible repeat (first | refine qB ?_ _ | refine qx ?_ | refine qC ?_ _)); refine qL (cs := #[.int .i64 0, .int .i64 0, .int .i64 0, .string (⟨#[]⟩ : ByteArray)]) ?_ 0 _ rfl; (with_reducible repeat (first | refine qB ?_ _ | refine qx ?_ | refine qC ?_ _)); exact BK103.out⟩, ⟨by repeat (first | (with_reducible first | exact HB.out | apply qf | apply qg | apply qe | refine qk ?_ GE103.out) | exact HB.out)⟩⟩
          ·rw [if_neg c13] at H
           have c13b0 : (((qc l1 x19_2).f0) == 1) = false := beq_eq_false_iff_ne.mpr c13
           have c13b1 : (((qc l1 x19_2).f0) != 1) = true := bne_iff_ne.mpr c13
           (first | rw [c13b0] | (simp only [i64_w, i32_w]; rw [c13b0]) | skip)
           have H' := qb.mk H
           clear H
           have hcz21_0 : w11.cell? ⟨gb103, 0, none⟩ = some (.int .i64 0) := (ql BK103.out 0).trans rfl
           have hcz21_1 : w11.cell? ⟨gb103, 1, none⟩ = some (.int .i64 0) := (ql BK103.out 1).trans rfl
           have hcz21_2 : w11.cell? ⟨gb103, 2, none⟩ = some (.int .i64 0) := (ql BK103.out 2).trans rfl
           have hcz21_3 : w11.cell? ⟨gb103, 3, none⟩ = some (.string (⟨#[]⟩ : ByteArray)) := (ql BK103.out 3).trans rfl
           have hfz21_0 := qp BK103.out 0
           have hfz21_1 := qp BK103.out 1
           have hfz21_2 := qp BK103.out 2
           have hfz21_3 := qp BK103.out 3
           go_wp2
           go_meet
           case rel => exact ⟨_, (false), (by first | rfl | (simp; done) | (simp [*]; done)), H', ⟨by have := HJ2.out; have := HK2.out; first | omega | exact Nat.le_refl _⟩, ⟨by (with_reducible repeat (first | refine qB ?_ _ | refine qx ?_ | refine qC ?_ _)); refine qL (cs := #[.int .i64 ((qc l1 x19_2).f0), .int .i64 ((qc l1 x19_2).f1), .int .i64 ((qc l1 x19_2).f2), .string (⟨#[]⟩ : ByteArray)]) ?_ 3 _ rfl; (with_reducible repeat (first | refine qB ?_ _ | refine qx ?_ | refine qC ?_ _)); refine qL (cs := #[.int .i64 ((qc l1 x19_2).f0), .int .i64 ((qc l1 x19_2).f1), .int .i64 0, .string (⟨#[]⟩ : ByteArray)]) ?_ 2 _ rfl; (with_reducible repeat (first | refine qB ?_ _ | refine qx ?_ | refine qC ?_ _)); refine qL (cs := #[.int .i64 ((qc l1 x19_2).f0), .int .i64 0, .int .i64 0, .string (⟨#[]⟩ : ByteArray)]) ?_ 1 _ rfl; (with_reducible repeat (first | refine qB ?_ _ | refine qx ?_ | refine qC ?_ _)); refine qL (cs := #[.int .i64 0, .int .i64 0, .int .i64 0, .string (⟨#[]⟩ : ByteArray)]) ?_ 0 _ rfl; (with_reducible repeat (first | refine qB ?_ _ | refine qx ?_ | refine qC ?_ _)); exact BK103.out⟩, ⟨by repeat (first | (with_reducible first | exact HB.out | apply qf | apply qg | apply qe | refine qk ?_ GE103.out) | exact HB.out)⟩⟩
         case rest =>
          clear HC10
          try clear c1
          try clear p1
          try clear q1
          try clear hx1
          try clear p2
          try clear c5
          try clear c6
          try clear p6
          try clear c7
          try clear c7b0
          try clear c8
          try clear c8b0
          try clear c9
          try clear c9b0
          try clear p10
          try clear q10
          try clear hx10
          try clear c13
          try clear c13b0
          try clear c13b1
          try clear c14
          try clear c14b0
          try clear c14b1
          try clear c16
          try clear hcz12_0
          try clear hcz12_1
          try clear hcz12_2
          try clear hcz12_3
          try clear hcz18_0
          try clear hcz18_1
          try clear hcz18_2
          try clear hcz18_3
          try clear hcz19_0
          try clear hcz19_1
          try clear hcz19_2
          try clear hcz19_3
          try clear hcz20_0
          try clear hcz20_1
          try clear hcz20_2
          try clear hcz20_3
          try clear hcz21_0
          try clear hcz21_1
          try clear hcz21_2
          try clear hcz21_3
          try clear hfz12_0
          try clear hfz12_1
          try clear hfz12_2
          try clear hfz12_3
          try clear hfz18_0
          try clear hfz18_1
          try clear hfz18_2
          try clear hfz18_3
          try clear hfz19_0
          try clear hfz19_1
          try clear hfz19_2
          try clear hfz19_3
          try clear hfz20_0
          try clear hfz20_1
          try clear hfz20_2
          try clear hfz20_3
          try clear hfz21_0
          try clear hfz21_1
          try clear hfz21_2
          try clear hfz21_3
          try clear hx102_0
          try clear hx102_1
          try clear hx102_2
          try clear hx102_3
          try clear p102
          try clear p2
          try clear q102
          obtain ⟨kq, x23_9, rfl, HA, HJ9, BK103, HB⟩ := hcut
          cases kq with
          | zero => exact absurd HA.out (by simp [qR.j2])
          | succ kj9 =>
           have H := HA.out
           clear HA
           simp only [qR.j2] at H
           by_cases c22 : x23_9 = true
           ·subst c22
            rw [if_pos rfl] at H
            by_cases c23 : 0 ≤ ((qc l1 x19_2).f1)
            ·rw [if_pos c23] at H
             have c23b0 := eq_true c23
             have c23b1 : decide (0 ≤ ((qc l1 x19_2).f1)) = true := decide_eq_true c23
             clear c23
             by_cases c24 : ((qc l1 x19_2).f1) ≤ (wrap64 (((qc l1 x19_2).f1) + ((qc l1 x19_2).f2)))
             ·rw [if_pos c24] at H
              have c24b0 := eq_true c24
              have c24b1 : decide (((qc l1 x19_2).f1) ≤ (wrap64 (((qc l1 x19_2).f1) + ((qc l1 x19_2).f2)))) = true := decide_eq_true c24
              by_cases c25 : (wrap64 (((qc l1 x19_2).f1) + ((qc l1 x19_2).f2))) ≤ (a0.size : Int)
              ·rw [if_pos c25] at H
               have c25b0 := eq_true c25
               have c25b1 : decide ((wrap64 (((qc l1 x19_2).f1) + ((qc l1 x19_2).f2))) ≤ (a0.size : Int)) = true := decide_eq_true c25
               by_cases c26 : x6_2.size + (a0.extract (((qc l1 x19_2).f1) : Int).toNat ((wrap64 (((qc l1 x19_2).f1) + ((qc l1 x19_2).f2))) : Int).toNat).size ≤ 9223372036854775807
               ·rw [if_pos c26] at H
                have c26b0 := eq_true c26
                have c26b1 : decide (x6_2.size + (a0.extract (((qc l1 x19_2).f1) : Int).toNat ((wrap64 (((qc l1 x19_2).f1) + ((qc l1 x19_2).f2))) : Int).toNat).size ≤ 9223372036854775807) = true := decide_eq_true c26
                try have c26b2 : (9223372036854775807 < x6_2.size + (a0.extract (((qc l1 x19_2).f1) : Int).toNat ((wrap64 (((qc l1 x19_2).f1) + ((qc l1 x19_2).f2))) : Int).toNat).size) = False := eq_false (Nat.not_lt.2 c26)
                have c26b3 : ∀ m_ n_ : Nat, m_ = x6_2.size → n_ = (a0.extract (((qc l1 x19_2).f1) : Int).toNat ((wrap64 (((qc l1 x19_2).f1) + ((qc l1 x19_2).f2))) : Int).toNat).size → (9223372036854775807 < m_ + n_) = False := fun m_ n_ h1_ h2_ => by rw [h1_, h2_]; exact eq_false (Nat.not_lt.2 c26)
                replace H := Option.bind_eq_some_iff.mp H
                obtain ⟨t106, A270, H⟩ := H
                try dsimp only at H
                have A27 := qb.mk A270
                clear A270
                by_cases c28 : t106 = true
                ·subst c28
                 rw [if_pos rfl] at H
                 have H' := qb.mk H
                 clear H
                 have hcz29_0 : wc.cell? ⟨gb103, 0, none⟩ = some (.int .i64 ((qc l1 x19_2).f0)) := (ql BK103.out 0).trans rfl
                 have hcz29_1 : wc.cell? ⟨gb103, 1, none⟩ = some (.int .i64 ((qc l1 x19_2).f1)) := (ql BK103.out 1).trans rfl
                 have hcz29_2 : wc.cell? ⟨gb103, 2, none⟩ = some (.int .i64 ((qc l1 x19_2).f2)) := (ql BK103.out 2).trans rfl
                 have hcz29_3 : wc.cell? ⟨gb103, 3, none⟩ = some (.string ((qc l1 x19_2).f3)) := (ql BK103.out 3).trans rfl
                 have hfz29_0 := qp BK103.out 0
                 have hfz29_1 := qp BK103.out 1
                 have hfz29_2 := qp BK103.out 2
                 have hfz29_3 := qp BK103.out 3
                 go_wp2_with (first | ((with_reducible refine qy (f := 67) rfl ?_); refine qz (some 86) rfl rfl Try.func67 (by kernel_rfl) rfl #[.string (x6_2 ++ (a0.extract (((qc l1 x19_2).f1) : Int).toNat ((wrap64 (((qc l1 x19_2).f1) + ((qc l1 x19_2).f2))) : Int).toNat))] rfl (by (try simp only [List.map_toArray, List.map_cons, List.map_nil]); first | done | rfl | (simp only [List.length_drop, List.length_take]; rfl)) ?_; (with_reducible refine (qWb.calls (x6_2 ++ (a0.extract (((qc l1 x19_2).f1) : Int).toNat ((wrap64 (((qc l1 x19_2).f1) + ((qc l1 x19_2).f2))) : Int).toNat)) true _ A27.out).mono ?_); rintro e w' ⟨rfl, ⟨nd, rfl⟩⟩; refine ⟨_, rfl, ?_⟩))
                 go_roundg kj9
                 case measure => have := HJ2.out; have := HK2.out; have := HJ9.out; omega
                 case rel => exact ⟨(x6_2 ++ (a0.extract (((qc l1 x19_2).f1) : Int).toNat ((wrap64 (((qc l1 x19_2).f1) + ((qc l1 x19_2).f2))) : Int).toNat)), (wrap64 (x19_2 + 1)), (by first | rfl | (simp; done) | (simp [*]; done)), (by first | rfl | (simp; done) | (simp [*]; done)), H', ⟨by have := HJ2.out; have := HK2.out; have := HJ9.out; omega⟩, ⟨by repeat (first | (with_reducible first | exact HB.out | apply qf | apply qg | apply qe | refine qk ?_ GE103.out) | exact HB.out)⟩⟩
                ·replace c28 := Bool.eq_false_iff.mpr c28
                 subst c28
                 rw [if_neg (show ¬ (false = true) by decide)] at H
                 simp only [Option.some.injEq, Prod.mk.injEq] at H
                 obtain ⟨rfl, rfl⟩ := H
                 have hcz30_0 : wc.cell? ⟨gb103, 0, none⟩ = some (.int .i64 ((qc l1 x19_2).f0)) := (ql BK103.out 0).trans rfl
                 have hcz30_1 : wc.cell? ⟨gb103, 1, none⟩ = some (.int .i64 ((qc l1 x19_2).f1)) := (ql BK103.out 1).trans rfl
                 have hcz30_2 : wc.cell? ⟨gb103, 2, none⟩ = some (.int .i64 ((qc l1 x19_2).f2)) := (ql BK103.out 2).trans rfl
                 have hcz30_3 : wc.cell? ⟨gb103, 3, none⟩ = some (.string ((qc l1 x19_2).f3)) := (ql BK103.out 3).trans rfl
                 have hfz30_0 := qp BK103.out 0
                 have hfz30_1 := qp BK103.out 1
                 have hfz30_2 := qp BK103.out 2
                 have hfz30_3 := qp BK103.out 3
                 go_wp2_with (first | ((with_reducible refine qy (f := 67) rfl ?_); refine qz (some 86) rfl rfl Try.func67 (by kernel_rfl) rfl #[.string (x6_2 ++ (a0.extract (((qc l1 x19_2).f1) : Int).toNat ((wrap64 (((qc l1 x19_2).f1) + ((qc l1 x19_2).f2))) : Int).toNat))] rfl (by (try simp only [List.map_toArray, List.map_cons, List.map_nil]); first | done | rfl | (simp only [List.length_drop, List.length_take]; rfl)) ?_; (with_reducible refine (qWb.calls (x6_2 ++ (a0.extract (((qc l1 x19_2).f1) : Int).toNat ((wrap64 (((qc l1 x19_2).f1) + ((qc l1 x19_2).f2))) : Int).toNat)) false _ A27.out).mono ?_); rintro e w' ⟨rfl, ⟨nd, rfl⟩⟩; refine ⟨_, rfl, ?_⟩))
                 go_ret2
                 exact ⟨by first | rfl | (simp [qv, qu] <;> rfl) | (simp [*, qv, qu] <;> rfl), by repeat (first | (with_reducible first | exact HB.out | apply qf | apply qg | apply qe | refine qk ?_ GE103.out) | exact HB.out)⟩
               ·rw [if_neg c26] at H
                exact absurd H (by simp)
              ·rw [if_neg c25] at H
               exact absurd H (by simp)
             ·rw [if_neg c24] at H
              exact absurd H (by simp)
            ·rw [if_neg c23] at H
             exact absurd H (by simp)
           ·replace c22 := Bool.eq_false_iff.mpr c22
            subst c22
            rw [if_neg (show ¬ (false = true) by decide)] at H
            have HC31 := qb.mk H
            clear H
            go_upto_region 10 with (fail)
            go_cut [61] (fun v61 wc => ∃ (kq : Nat) (x61_30 : Bool), v61 = .bool x61_30 ∧ qb (qR.j3 kq a0 x6_2 l1 (l1.length : Int) x19_2 x61_30 ((qc l1 x19_2).f0) ((qc l1 x19_2).f1) ((qc l1 x19_2).f2) ((qc l1 x19_2).f3) = some (r1, r2)) ∧ qb (kq ≤ kj9) ∧ qb (wc.heap[gb103]? = some (.cells #[.int .i64 ((qc l1 x19_2).f0), .int .i64 ((qc l1 x19_2).f1), .int .i64 ((qc l1 x19_2).f2), .string ((qc l1 x19_2).f3)] 43 (0, 0))) ∧ qb (Below w.heap.size w wc))
            case first =>
             have H := HC31.out
             clear HC31
             by_cases c32 : ((qc l1 x19_2).f0) = 2
             ·rw [if_pos c32] at H
              have c32b0 : (((qc l1 x19_2).f0) == 2) = true := beq_iff_eq.mpr c32
              have c32b1 : (((qc l1 x19_2).f0) != 2) = false := bne_eq_false_iff_eq.mpr c32
              clear c32
              (first | rw [c32b0] | (simp only [i64_w, i32_w]; rw [c32b0]) | skip)
              by_cases c33 : ((qc l1 x19_2).f1) = 0
              ·rw [if_pos c33] at H
               have c33b0 : (((qc l1 x19_2).f1) == 0) = true := beq_iff_eq.mpr c33
               have c33b1 : (((qc l1 x19_2).f1) != 0) = false := bne_eq_false_iff_eq.mpr c33
               clear c33
               by_cases c34 : ((qc l1 x19_2).f2) = 0
               ·rw [if_pos c34] at H
                have c34b0 : (((qc l1 x19_2).f2) == 0) = true := beq_iff_eq.mpr c34
                have c34b1 : (((qc l1 x19_2).f2) != 0) = false := bne_eq_false_iff_eq.mpr c34
                clear c34
                replace H := Option.bind_eq_some_iff.mp H
                obtain ⟨t107, A350, H⟩ := H
                try dsimp only at H
                have A35 := qb.mk A350
                clear A350
                have H' := qb.mk H
                clear H
                have hcz36_0 : wc.cell? ⟨gb103, 0, none⟩ = some (.int .i64 ((qc l1 x19_2).f0)) := (ql BK103.out 0).trans rfl
                have hcz36_1 : wc.cell? ⟨gb103, 1, none⟩ = some (.int .i64 ((qc l1 x19_2).f1)) := (ql BK103.out 1).trans rfl
                have hcz36_2 : wc.cell? ⟨gb103, 2, none⟩ = some (.int .i64 ((qc l1 x19_2).f2)) := (ql BK103.out 2).trans rfl
                have hcz36_3 : wc.cell? ⟨gb103, 3, none⟩ = some (.string ((qc l1 x19_2).f3)) := (ql BK103.out 3).trans rfl
                have hfz36_0 := qp BK103.out 0
                have hfz36_1 := qp BK103.out 1
                have hfz36_2 := qp BK103.out 2
                have hfz36_3 := qp BK103.out 3
                go_wp2_with (first | (go_at_call 58; (with_reducible refine (qic.calls (((qc l1 x19_2).f3).size : Int) 1 300 t107 _ A35.out).mono ?_); rintro e w' ⟨rfl, ⟨nd, rfl⟩⟩))
                go_meet
                case rel => exact ⟨_, (t107), (by first | rfl | (simp; done) | (simp [*]; done)), H', ⟨by have := HJ2.out; have := HK2.out; have := HJ9.out; first | omega | exact Nat.le_refl _⟩, ⟨by (with_reducible repeat (first | refine qB ?_ _ | refine qx ?_ | refine qC ?_ _)); exact BK103.out⟩, ⟨by repeat (first | (with_reducible first | exact HB.out | apply qf | apply qg | apply qe | refine qk ?_ GE103.out) | exact HB.out)⟩⟩
               ·rw [if_neg c34] at H
                have c34b0 : (((qc l1 x19_2).f2) == 0) = false := beq_eq_false_iff_ne.mpr c34
                have c34b1 : (((qc l1 x19_2).f2) != 0) = true := bne_iff_ne.mpr c34
                have H' := qb.mk H
                clear H
                have hcz37_0 : wc.cell? ⟨gb103, 0, none⟩ = some (.int .i64 ((qc l1 x19_2).f0)) := (ql BK103.out 0).trans rfl
                have hcz37_1 : wc.cell? ⟨gb103, 1, none⟩ = some (.int .i64 ((qc l1 x19_2).f1)) := (ql BK103.out 1).trans rfl
                have hcz37_2 : wc.cell? ⟨gb103, 2, none⟩ = some (.int .i64 ((qc l1 x19_2).f2)) := (ql BK103.out 2).trans rfl
                have hcz37_3 : wc.cell? ⟨gb103, 3, none⟩ = some (.string ((qc l1 x19_2).f3)) := (ql BK103.out 3).trans rfl
                have hfz37_0 := qp BK103.out 0
                have hfz37_1 := qp BK103.out 1
                have hfz37_2 := qp BK103.out 2
                have hfz37_3 := qp BK103.out 3
                go_wp2
                go_meet
                case rel => exact ⟨_, (false), (by first | rfl | (simp; done) | (simp [*]; done)), H', ⟨by have := HJ2.out; have := HK2.out; have := HJ9.out; first | omega | exact Nat.le_refl _⟩, ⟨by (with_reducible repeat (first | refine qB ?_ _ | refine qx ?_ | refine qC ?_ _)); exact BK103.out⟩, ⟨by repeat (first | (with_reducible first | exact HB.out | apply qf | apply qg | apply qe | refine qk ?_ GE103.out) | exact HB.out)⟩⟩
              ·rw [if_neg c33] at H
               have c33b0 : (((qc l1 x19_2).f1) == 0) = false := beq_eq_false_iff_ne.mpr c33
               have c33b1 : (((qc l1 x19_2).f1) != 0) = true := bne_iff_ne.mpr c33
               have H' := qb.mk H
               clear H
               have hcz38_0 : wc.cell? ⟨gb103, 0, none⟩ = some (.int .i64 ((qc l1 x19_2).f0)) := (ql BK103.out 0).trans rfl
               have hcz38_1 : wc.cell? ⟨gb103, 1, none⟩ = some (.int .i64 ((qc l1 x19_2).f1)) := (ql BK103.out 1).trans rfl
               have hcz38_2 : wc.cell? ⟨gb103, 2, none⟩ = some (.int .i64 ((qc l1 x19_2).f2)) := (ql BK103.out 2).trans rfl
               have hcz38_3 : wc.cell? ⟨gb103, 3, none⟩ = some (.string ((qc l1 x19_2).f3)) := (ql BK103.out 3).trans rfl
               have hfz38_0 := qp BK103.out 0
               have hfz38_1 := qp BK103.out 1
               have hfz38_2 := qp BK103.out 2
               have hfz38_3 := qp BK103.out 3
               go_wp2
               go_meet
               case rel => exact ⟨_, (false), (by first | rfl | (simp; done) | (simp [*]; done)), H', ⟨by have := HJ2.out; have := HK2.out; have := HJ9.out; first | omega | exact Nat.le_refl _⟩, ⟨by (with_reducible repeat (first | refine qB ?_ _ | refine qx ?_ | refine qC ?_ _)); exact BK103.out⟩, ⟨by repeat (first | (with_reducible first | exact HB.out | apply qf | apply qg | apply qe | refine qk ?_ GE103.out) | exact HB.out)⟩⟩
             ·rw [if_neg c32] at H
              have c32b0 : (((qc l1 x19_2).f0) == 2) = false := beq_eq_false_iff_ne.mpr c32
              have c32b1 : (((qc l1 x19_2).f0) != 2) = true := bne_iff_ne.mpr c32
              (first | rw [c32b0] | (simp only [i64_w, i32_w]; rw [c32b0]) | skip)
              have H' := qb.mk H
              clear H
              have hcz39_0 : wc.cell? ⟨gb103, 0, none⟩ = some (.int .i64 ((qc l1 x19_2).f0)) := (ql BK103.out 0).trans rfl
              have hcz39_1 : wc.cell? ⟨gb103, 1, none⟩ = some (.int .i64 ((qc l1 x19_2).f1)) := (ql BK103.out 1).trans rfl
              have hcz39_2 : wc.cell? ⟨gb103, 2, none⟩ = some (.int .i64 ((qc l1 x19_2).f2)) := (ql BK103.out 2).trans rfl
              have hcz39_3 : wc.cell? ⟨gb103, 3, none⟩ = some (.string ((qc l1 x19_2).f3)) := (ql BK103.out 3).trans rfl
              have hfz39_0 := qp BK103.out 0
              have hfz39_1 := qp BK103.out 1
              have hfz39_2 := qp BK103.out 2
              have hfz39_3 := qp BK103.out 3
              go_wp2
              go_meet
              case rel => exact ⟨_, (false), (by first | rfl | (simp; done) | (simp [*]; done)), H', ⟨by have := HJ2.out; have := HK2.out; have := HJ9.out; first | omega | exact Nat.le_refl _⟩, ⟨by (with_reducible repeat (first | refine qB ?_ _ | refine qx ?_ | refine qC ?_ _)); exact BK103.out⟩, ⟨by repeat (first | (with_reducible first | exact HB.out | apply qf | apply qg | apply qe | refine qk ?_ GE103.out) | exact HB.out)⟩⟩
            case rest =>
             clear HC31
             try clear c1
             try clear p1
             try clear q1
             try clear hx1
             try clear c2
             try clear p2
             try clear c3
             try clear c5
             try clear c6
             try clear p6
             try clear c7
             try clear c7b0
             try clear c8
             try clear c8b0
             try clear c9
             try clear c9b0
             try clear p10
             try clear q10
             try clear hx10
             try clear c13
             try clear c13b0
             try clear c13b1
             try clear c14
             try clear c14b0
             try clear c14b1
             try clear c16
             try clear c22
             try clear c23
             try clear c23b0
             try clear c23b1
             try clear c24
             try clear c24b0
             try clear c24b1
             try clear c25
             try clear c25b0
             try clear c25b1
             try clear c26
             try clear c26b0
             try clear c26b1
             try clear c26b2
             try clear c28
             try clear c32
             try clear c32b0
             try clear c32b1
             try clear c33
             try clear c33b0
             try clear c33b1
             try clear c34
             try clear c34b0
             try clear c34b1
             try clear hcz12_0
             try clear hcz12_1
             try clear hcz12_2
             try clear hcz12_3
             try clear hcz18_0
             try clear hcz18_1
             try clear hcz18_2
             try clear hcz18_3
             try clear hcz19_0
             try clear hcz19_1
             try clear hcz19_2
             try clear hcz19_3
             try clear hcz20_0
             try clear hcz20_1
             try clear hcz20_2
             try clear hcz20_3
             try clear hcz21_0
             try clear hcz21_1
             try clear hcz21_2
             try clear hcz21_3
             try clear hcz29_0
             try clear hcz29_1
             try clear hcz29_2
             try clear hcz29_3
             try clear hcz30_0
             try clear hcz30_1
             try clear hcz30_2
             try clear hcz30_3
             try clear hcz36_0
             try clear hcz36_1
             try clear hcz36_2
             try clear hcz36_3
             try clear hcz37_0
             try clear hcz37_1
             try clear hcz37_2
             try clear hcz37_3
             try clear hcz38_0
             try clear hcz38_1
             try clear hcz38_2
             try clear hcz38_3
             try clear hcz39_0
             try clear hcz39_1
             try clear hcz39_2
             try clear hcz39_3
             try clear hfz12_0
             try clear hfz12_1
             try clear hfz12_2
             try clear hfz12_3
             try clear hfz18_0
             try clear hfz18_1
             try clear hfz18_2
             try clear hfz18_3
             try clear hfz19_0
             try clear hfz19_1
             try clear hfz19_2
             try clear hfz19_3
             try clear hfz20_0
             try clear hfz20_1
             try clear hfz20_2
             try clear hfz20_3
             try clear hfz21_0
             try clear hfz21_1
             try clear hfz21_2
             try clear hfz21_3
             try clear hfz29_0
             try clear hfz29_1
             try clear hfz29_2
             try clear hfz29_3
             try clear hfz30_0
             try clear hfz30_1
             try clear hfz30_2
             try clear hfz30_3
             try clear hfz36_0
             try clear hfz36_1
             try clear hfz36_2
             try clear hfz36_3
             try clear hfz37_0
             try clear hfz37_1
             try clear hfz37_2
             try clear hfz37_3
             try clear hfz38_0
             try clear hfz38_1
             try clear hfz38_2
             try clear hfz38_3
             try clear hfz39_0
             try clear hfz39_1
             try clear hfz39_2
             try clear hfz39_3
             try clear hx102_0
             try clear hx102_1
             try clear hx102_2
             try clear hx102_3
             try clear p1
             try clear p10
             try clear p102
             try clear p2
             try clear p6
             try clear q1
             try clear q10
             try clear q102
             obtain ⟨kq, x61_30, rfl, HA, HJ30, BK103, HB⟩ := hcut
             cases kq with
             | zero => exact absurd HA.out (by simp [qR.j3])
             | succ kj30 =>
              have H := HA.out
              clear HA
              simp only [qR.j3] at H
              by_cases c40 : x61_30 = true
              ·subst c40
               rw [if_pos rfl] at H
               by_cases c41 : x6_2.size + ((qc l1 x19_2).f3).size ≤ 9223372036854775807
               ·rw [if_pos c41] at H
                have c41b0 := eq_true c41
                have c41b1 : decide (x6_2.size + ((qc l1 x19_2).f3).size ≤ 9223372036854775807) = true := decide_eq_true c41
                try have c41b2 : (9223372036854775807 < x6_2.size + ((qc l1 x19_2).f3).size) = False := eq_false (Nat.not_lt.2 c41)
                replace H := Option.bind_eq_some_iff.mp H
                obtain ⟨t108, A420, H⟩ := H
                try dsimp only at H
                have A42 := qb.mk A420
                clear A420
                by_cases c43 : t108 = true
                ·subst c43
                 rw [if_pos rfl] at H
                 have H' := qb.mk H
                 clear H
                 have hcz44_0 : wc.cell? ⟨gb103, 0, none⟩ = some (.int .i64 ((qc l1 x19_2).f0)) := (ql BK103.out 0).trans rfl
                 have hcz44_1 : wc.cell? ⟨gb103, 1, none⟩ = some (.int .i64 ((qc l1 x19_2).f1)) := (ql BK103.out 1).trans rfl
                 have hcz44_2 : wc.cell? ⟨gb103, 2, none⟩ = some (.int .i64 ((qc l1 x19_2).f2)) := (ql BK103.out 2).trans rfl
                 have hcz44_3 : wc.cell? ⟨gb103, 3, none⟩ = some (.string ((qc l1 x19_2).f3)) := (ql BK103.out 3).trans rfl
                 have hfz44_0 := qp BK103.out 0
                 have hfz44_1 := qp BK103.out 1
                 have hfz44_2 := qp BK103.out 2
                 have hfz44_3 := qp BK103.out 3
                 go_wp2_with (first | ((with_reducible refine qy (f := 67) rfl ?_); refine qz (some 86) rfl rfl Try.func67 (by kernel_rfl) rfl #[.string (x6_2 ++ ((qc l1 x19_2).f3))] rfl (by (try simp only [List.map_toArray, List.map_cons, List.map_nil]); first | done | rfl | (simp only [List.length_drop, List.length_take]; rfl)) ?_; (with_reducible refine (qWb.calls (x6_2 ++ ((qc l1 x19_2).f3)) true _ A42.out).mono ?_); rintro e w' ⟨rfl, ⟨nd, rfl⟩⟩; refine ⟨_, rfl, ?_⟩))
                 go_roundg kj30
                 case measure => have := HJ2.out; have := HK2.out; have := HJ9.out; have := HJ30.out; omega
                 case rel => exact ⟨(x6_2 ++ ((qc l1 x19_2).f3)), (wrap64 (x19_2 + 1)), (by first | rfl | (simp; done) | (simp [*]; done)), (by first | rfl | (simp; done) | (simp [*]; done)), H', ⟨by have := HJ2.out; have := HK2.out; have := HJ9.out; have := HJ30.out; omega⟩, ⟨by repeat (first | (with_reducible first | exact HB.out | apply qf | apply qg | apply qe | refine qk ?_ GE103.out) | exact HB.out)⟩⟩
                ·replace c43 := Bool.eq_false_iff.mpr c43
                 subst c43
                 rw [if_neg (show ¬ (false = true) by decide)] at H
                 simp only [Option.some.injEq, Prod.mk.injEq] at H
                 obtain ⟨rfl, rfl⟩ := H
                 have hcz45_0 : wc.cell? ⟨gb103, 0, none⟩ = some (.int .i64 ((qc l1 x19_2).f0)) := (ql BK103.out 0).trans rfl
                 have hcz45_1 : wc.cell? ⟨gb103, 1, none⟩ = some (.int .i64 ((qc l1 x19_2).f1)) := (ql BK103.out 1).trans rfl
                 have hcz45_2 : wc.cell? ⟨gb103, 2, none⟩ = some (.int .i64 ((qc l1 x19_2).f2)) := (ql BK103.out 2).trans rfl
                 have hcz45_3 : wc.cell? ⟨gb103, 3, none⟩ = some (.string ((qc l1 x19_2).f3)) := (ql BK103.out 3).trans rfl
                 have hfz45_0 := qp BK103.out 0
                 have hfz45_1 := qp BK103.out 1
                 have hfz45_2 := qp BK103.out 2
                 have hfz45_3 := qp BK103.out 3
                 go_wp2_with (first | ((with_reducible refine qy (f := 67) rfl ?_); refine qz (some 86) rfl rfl Try.func67 (by kernel_rfl) rfl #[.string (x6_2 ++ ((qc l1 x19_2).f3))] rfl (by (try simp only [List.map_toArray, List.map_cons, List.map_nil]); first | done | rfl | (simp only [List.length_drop, List.length_take]; rfl)) ?_; (with_reducible refine (qWb.calls (x6_2 ++ ((qc l1 x19_2).f3)) false _ A42.out).mono ?_); rintro e w' ⟨rfl, ⟨nd, rfl⟩⟩; refine ⟨_, rfl, ?_⟩))
                 go_ret2
                 exact ⟨by first | rfl | (simp [qv, qu] <;> rfl) | (simp [*, qv, qu] <;> rfl), by repeat (first | (with_reducible first | exact HB.out | apply qf | apply qg | apply qe | refine qk ?_ GE103.out) | exact HB.out)⟩
               ·rw [if_neg c41] at H
                exact absurd H (by simp)
              ·replace c40 := Bool.eq_false_iff.mpr c40
               subst c40
               rw [if_neg (show ¬ (false = true) by decide)] at H
               simp only [Option.some.injEq, Prod.mk.injEq] at H
               obtain ⟨rfl, rfl⟩ := H
               go_wp2
               go_ret2
               exact ⟨by first | rfl | (simp [qv, qu] <;> rfl) | (simp [*, qv, qu] <;> rfl), by repeat (first | (with_reducible first | exact HB.out | apply qf | apply qg | apply qe | refine qk ?_ GE103.out) | exact HB.out)⟩
        ·rw [if_neg c9] at H
         exact absurd H (by simp)
       ·rw [if_neg c8] at H
        exact absurd H (by simp)
      ·rw [if_neg c7] at H
       have c7b0 : decide (x19_2 < (l1.length : Int)) = false := decide_eq_false c7
       clear c7
       simp only [Option.some.injEq, Prod.mk.injEq] at H
       obtain ⟨rfl, rfl⟩ := H
       go_wp2
       go_ret2
       exact ⟨by first | rfl | (simp [qv, qu] <;> rfl) | (simp [*, qv, qu] <;> rfl), by repeat (first | (with_reducible first | exact HB.out | apply qf | apply qg | apply qe) | exact HB.out)⟩

/-! ### qlb: function 21 -/
def qlb.f (k : Nat) (a0 : ByteArray) (l1 : List (S43)) : Option (Bool) := (qR.f k a0 l1).bind fun bt109 => (some bt109.2)
theorem qlb.mono : ∀ a0 a1 k, LeO (qlb.f k a0 a1) (qlb.f (k + 1) a0 a1) := by
 intro a0 a1 k
 unfold qlb.f
 repeat' first
   | (with_reducible exact qR.mono _ _ _)
   | (with_reducible exact LeO.refl _)
   | (with_reducible exact LeO.none _)
   | (with_reducible refine LeO.ite ?_ ?_)
   | (with_reducible refine LeO.bind ?_ (fun _ => ?_))
   | exact LeO.none _
   | refine LeO.ite ?_ ?_
   | refine LeO.bind ?_ (fun _ => ?_)
set_option maxHeartbeats 8000000 in
set_option maxRecDepth 100000 in
theorem qlb.calls (k : Nat) (a0 : ByteArray) (A1 : Option Addr) (c1 : Nat) (l1 : List (S43)) (r : Bool) (w : World) (hr1 : Kd.C k43 w A1 l1.length l1) (hc1 : l1.length ≤ c1) (h : qlb.f k a0 l1 = some r) :
  Calls Try.prog 21 #[.string a0, .slice A1 l1.length c1] w fun e w' => e = .returned (.bool r) ∧ Below w.heap.size w w' := by
 have HR1 := qb.mk hr1
 have HC1 := qb.mk hc1
 clear hr1 hc1
 have HB := qb.mk (Below.refl w.heap.size w)
 have H : ((qR.f k a0 l1).bind fun bt109 => (some bt109.2)) = some r := h
 clear h
 replace H := Option.bind_eq_some_iff.mp H
 obtain ⟨⟨t109, t110⟩, A30, H⟩ := H
 try dsimp only at H
 have A3 := qb.mk A30
 clear A30
 obtain rfl := Option.some.inj H
 go_enter Try.func21, Try.ntmps21
 go_wp2_with (first | ((with_reducible refine qy (f := 61) rfl ?_); refine qz (some 10) rfl rfl Try.func61 (by kernel_rfl) rfl #[.string a0, .slice A1 l1.length c1] rfl (by (try simp only [List.map_toArray, List.map_cons, List.map_nil]); first | done | rfl | (simp only [List.length_drop, List.length_take]; rfl)) ?_; (with_reducible refine (qR.calls k a0 _ _ l1 t109 t110 _ ?side1 ?side2 A3.out).mono ?_); (case side1 => repeat (first | exact HR1.out | (with_reducible refine Kd.qN ?_ _) | (with_reducible refine Kd.qM ?_ _) | (with_reducible refine Kd.qO ?_))); (case side2 => exact HC1.out); rintro e w4 ⟨rfl, hb⟩; refine ⟨_, rfl, ?_⟩; replace HB := qb.mk (qE (by repeat (first | (with_reducible first | exact HB.out | apply qf | apply qg | apply qe) | exact HB.out)) hb); (try clear hb); (try clear hb2); (try clear hk); (try clear hi)))
 go_ret
 exact ⟨by first | rfl | (simp [qv, qu] <;> rfl) | (simp [*, qv, qu] <;> rfl), by repeat (first | (with_reducible first | exact HB.out | apply qf | apply qg | apply qe) | exact HB.out)⟩

/-! ### qrb: function 23 -/
def qrb.f (k : Nat) (a0 : ByteArray) (l1 : List (S43)) : Option (ByteArray × Bool) := (qR.f k a0 l1).bind fun bt111 => (some (bt111.1, bt111.2))
theorem qrb.mono : ∀ a0 a1 k, LeO (qrb.f k a0 a1) (qrb.f (k + 1) a0 a1) := by
 intro a0 a1 k
 unfold qrb.f
 repeat' first
   | (with_reducible exact qR.mono _ _ _)
   | (with_reducible exact LeO.refl _)
   | (with_reducible exact LeO.none _)
   | (with_reducible refine LeO.ite ?_ ?_)
   | (with_reducible refine LeO.bind ?_ (fun _ => ?_))
   | exact LeO.none _
   | refine LeO.ite ?_ ?_
   | refine LeO.bind ?_ (fun _ => ?_)
set_option maxHeartbeats 8000000 in
set_option maxRecDepth 100000 in
theorem qrb.calls (k : Nat) (a0 : ByteArray) (A1 : Option Addr) (c1 : Nat) (l1 : List (S43)) (r1 : ByteArray) (r2 : Bool) (w : World) (hr1 : Kd.C k43 w A1 l1.length l1) (hc1 : l1.length ≤ c1) (h : qrb.f k a0 l1 = some (r1, r2)) :
  Calls Try.prog 23 #[.string a0, .slice A1 l1.length c1] w fun e w' => e = .returned (.tuple #[.string r1, .bool r2]) ∧ Below w.heap.size w w' := by
 have HR1 := qb.mk hr1
 have HC1 := qb.mk hc1
 clear hr1 hc1
 have HB := qb.mk (Below.refl w.heap.size w)
 have H : ((qR.f k a0 l1).bind fun bt111 => (some (bt111.1, bt111.2))) = some (r1, r2) := h
 clear h
 replace H := Option.bind_eq_some_iff.mp H
 obtain ⟨⟨t111, t112⟩, A30, H⟩ := H
 try dsimp only at H
 have A3 := qb.mk A30
 clear A30
 simp only [Option.some.injEq, Prod.mk.injEq] at H
 obtain ⟨rfl, rfl⟩ := H
 go_enter Try.func23, Try.ntmps23
 go_wp2_with (first | ((with_reducible refine qy (f := 61) rfl ?_); refine qz (some 8) rfl rfl Try.func61 (by kernel_rfl) rfl #[.string a0, .slice A1 l1.length c1] rfl (by (try simp only [List.map_toArray, List.map_cons, List.map_nil]); first | done | rfl | (simp only [List.length_drop, List.length_take]; rfl)) ?_; (with_reducible refine (qR.calls k a0 _ _ l1 t111 t112 _ ?side1 ?side2 A3.out).mono ?_); (case side1 => repeat (first | exact HR1.out | (with_reducible refine Kd.qN ?_ _) | (with_reducible refine Kd.qM ?_ _) | (with_reducible refine Kd.qO ?_))); (case side2 => exact HC1.out); rintro e w4 ⟨rfl, hb⟩; refine ⟨_, rfl, ?_⟩; replace HB := qb.mk (qE (by repeat (first | (with_reducible first | exact HB.out | apply qf | apply qg | apply qe) | exact HB.out)) hb); (try clear hb); (try clear hb2); (try clear hk); (try clear hi)))
 go_ret2
 exact ⟨by first | rfl | (simp [qv, qu] <;> rfl) | (simp [*, qv, qu] <;> rfl), by repeat (first | (with_reducible first | exact HB.out | apply qf | apply qg | apply qe) | exact HB.out)⟩

end Go.Proofs.Ytnhnlfkbngnkpaa.E
