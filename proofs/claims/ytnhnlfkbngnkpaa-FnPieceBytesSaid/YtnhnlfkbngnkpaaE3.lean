-- Made by a program of this session out of the translation; no hand has turned it.
import Derived.Test.YtnhnlfkbngnkpaaE0
namespace Go.Proofs.Ytnhnlfkbngnkpaa.E
open Go.RowKit Go.Proofs.YtnhnlfkbngnkpaaW.PrintWords Go.Proofs.YtnhnlfkbngnkpaaW.PrintLast Go.Proofs.YtnhnlfkbngnkpaaW.PrintMore
attribute [local go_sem] qXb qbc qac qec qZb qdc qYb qcc   -- for this text's walks alone
set_option linter.unusedVariables false
set_option linter.unusedSimpArgs false

/-! ### qGb: function 65 -/
def qGb.f (a0 : ByteArray) : Option (Bool) := some (decide ((a0.size : Int) ≤ 300))
set_option maxHeartbeats 8000000 in
set_option maxRecDepth 100000 in
theorem qGb.calls (a0 : ByteArray) (r : Bool) (w : World) (h : qGb.f a0 = some r) :
  Calls Try.prog 65 #[.string a0] w fun e w' => e = .returned (.bool r) ∧ Drawn0 w w' := by
 have H : (some (decide ((a0.size : Int) ≤ 300))) = some r := h
 clear h
 obtain rfl := Option.some.inj H
 go_enter Try.func65, Try.ntmps65
 go_wp2
 go_ret
 exact ⟨by first | rfl | (simp; done) | (simp [*]; done), by repeat (first | exact Drawn0.refl _ | apply Drawn0.step)⟩

/-! ### qHb: function 54 -/
def qHb.f (a0 : Int) (a1 : Int) (a2 : Int) : Option (Bool) := if a0 ≥ a1 then (some (decide (a0 ≤ a2))) else (some false)
set_option maxHeartbeats 8000000 in
set_option maxRecDepth 100000 in
theorem qHb.calls (a0 : Int) (a1 : Int) (a2 : Int) (r : Bool) (w : World) (h : qHb.f a0 a1 a2 = some r) :
  Calls Try.prog 54 #[.int .i64 a0, .int .i64 a1, .int .i64 a2] w fun e w' => e = .returned (.bool r) ∧ Drawn0 w w' := by
 have H : (if a0 ≥ a1 then (some (decide (a0 ≤ a2))) else (some false)) = some r := h
 clear h
 by_cases c4 : a0 ≥ a1
 ·rw [if_pos c4] at H
  have c4b0 : decide (a1 ≤ a0) = true := decide_eq_true c4
  clear c4
  obtain rfl := Option.some.inj H
  go_enter Try.func54, Try.ntmps54
  go_wp2
  go_ret
  exact ⟨by first | rfl | (simp; done) | (simp [*]; done), by repeat (first | exact Drawn0.refl _ | apply Drawn0.step)⟩
 ·rw [if_neg c4] at H
  have c4b0 : decide (a1 ≤ a0) = false := decide_eq_false c4
  clear c4
  obtain rfl := Option.some.inj H
  go_enter Try.func54, Try.ntmps54
  go_wp2
  go_ret
  exact ⟨by first | rfl | (simp; done) | (simp [*]; done), by repeat (first | exact Drawn0.refl _ | apply Drawn0.step)⟩

/-! ### qyc: function 89 -/
def qyc.f (a0 : ByteArray) (a1_0 : Int) (a1_1 : Int) (a1_2 : Int) (a1_3 : ByteArray) : Option (Bool) := if a1_0 = 1 then (if a1_3.toList = ([] : List UInt8) then ((qHb.f a1_2 1 (a0.size : Int)).bind fun t114 => (if t114 = true then ((qHb.f a1_1 0 (wrap64 ((a0.size : Int) - a1_2))).bind fun t115 => (some t115)) else (some false))) else (some false)) else (if a1_0 = 2 then (if a1_1 = 0 then (if a1_2 = 0 then ((qHb.f (a1_3.size : Int) 1 300).bind fun t116 => (some t116)) else (some false)) else (some false)) else (some false))
set_option maxHeartbeats 8000000 in
set_option maxRecDepth 100000 in
theorem qyc.calls (a0 : ByteArray) (a1_0 : Int) (a1_1 : Int) (a1_2 : Int) (a1_3 : ByteArray) (r : Bool) (w : World) (h : qyc.f a0 a1_0 a1_1 a1_2 a1_3 = some r) :
  Calls Try.prog 89 #[.string a0, .agg #[.int .i64 a1_0, .int .i64 a1_1, .int .i64 a1_2, .string a1_3]] w fun e w' => e = .returned (.bool r) ∧ Below w.heap.size w w' := by
 have hu43 := Try.underlying43
 have HB := qb.mk (Below.refl w.heap.size w)
 have H : (if a1_0 = 1 then (if a1_3.toList = ([] : List UInt8) then ((qHb.f a1_2 1 (a0.size : Int)).bind fun t114 => (if t114 = true then ((qHb.f a1_1 0 (wrap64 ((a0.size : Int) - a1_2))).bind fun t115 => (some t115)) else (some false))) else (some false)) else (if a1_0 = 2 then (if a1_1 = 0 then (if a1_2 = 0 then ((qHb.f (a1_3.size : Int) 1 300).bind fun t116 => (some t116)) else (some false)) else (some false)) else (some false))) = some r := h
 clear h
 by_cases c3 : a1_0 = 1
 ·rw [if_pos c3] at H
  have c3b0 : (a1_0 == 1) = true := beq_iff_eq.mpr c3
  have c3b1 : (a1_0 != 1) = false := bne_eq_false_iff_eq.mpr c3
  clear c3
  by_cases c4 : a1_3.toList = ([] : List UInt8)
  ·rw [if_pos c4] at H
   have c4b0 : (a1_3.toList == ([] : List UInt8)) = true := beq_iff_eq.mpr c4
   have c4b1 : (a1_3.toList != ([] : List UInt8)) = false := bne_eq_false_iff_eq.mpr c4
   clear c4
   replace H := Option.bind_eq_some_iff.mp H
   obtain ⟨t114, A50, H⟩ := H
   try dsimp only at H
   have A5 := qb.mk A50
   clear A50
   by_cases c6 : t114 = true
   ·subst c6
    rw [if_pos rfl] at H
    replace H := Option.bind_eq_some_iff.mp H
    obtain ⟨t115, A70, H⟩ := H
    try dsimp only at H
    have A7 := qb.mk A70
    clear A70
    obtain rfl := Option.some.inj H
    go_enter Try.func89, Try.ntmps89
    go_wp2_with (first | ((with_reducible refine qcb (N := 3) rfl ?_); (try (refine qub (by rfl) ?_; dsimp only)); refine qpb ?hg (N := 3) ?hd (cs := #[.int .i64 a1_0, .int .i64 a1_1, .int .i64 a1_2, .string a1_3]) (t := 43) ?hr ?_; (case hd => rfl); (case hg => rfl); (case hr => first | (go_simp; done) | (go_simp; rfl)); intro gb113 hg w8 hbox hb; have BK113 := qb.mk (hbox); have GW113 := qb.mk ((by rw [hg]; exact (qG (by repeat (first | (with_reducible first | exact HB.out | apply qf | apply qg | apply qe) | exact HB.out))) : w.heap.size ≤ gb113)); have GE113 := qb.mk ((by rw [hg]; exact (qG (by repeat (first | (with_reducible first | exact HB.out | apply qf | apply qg | apply qe) | exact HB.out))) : w.heap.size ≤ gb113)); replace HB := qb.mk (qE (by repeat (first | (with_reducible first | exact HB.out | apply qf | apply qg | apply qe) | exact HB.out)) hb); clear hb hbox hg; have hcz9_0 : w8.cell? ⟨gb113, 0, none⟩ = some (.int .i64 a1_0) := (ql BK113.out 0).trans rfl; have hcz9_1 : w8.cell? ⟨gb113, 1, none⟩ = some (.int .i64 a1_1) := (ql BK113.out 1).trans rfl; have hcz9_2 : w8.cell? ⟨gb113, 2, none⟩ = some (.int .i64 a1_2) := (ql BK113.out 2).trans rfl; have hcz9_3 : w8.cell? ⟨gb113, 3, none⟩ = some (.string a1_3) := (ql BK113.out 3).trans rfl; have hfz9_0 := qp BK113.out 0; have hfz9_1 := qp BK113.out 1; have hfz9_2 := qp BK113.out 2; have hfz9_3 := qp BK113.out 3) | (go_at_call 54; (with_reducible refine (qHb.calls a1_2 1 (a0.size : Int) true _ A5.out).mono ?_); rintro e w' ⟨rfl, ⟨nd, rfl⟩⟩) | (go_at_call 54; (with_reducible refine (qHb.calls a1_1 0 (wrap64 ((a0.size : Int) - a1_2)) t115 _ A7.out).mono ?_); rintro e w' ⟨rfl, ⟨nd, rfl⟩⟩))
    go_ret
    exact ⟨by first | rfl | (simp [qv, qu] <;> rfl) | (simp [*, qv, qu] <;> rfl), by repeat (first | (with_reducible first | exact HB.out | apply qf | apply qg | apply qe | refine qk ?_ GE113.out) | exact HB.out)⟩
   ·replace c6 := Bool.eq_false_iff.mpr c6
    subst c6
    rw [if_neg (show ¬ (false = true) by decide)] at H
    obtain rfl := Option.some.inj H
    go_enter Try.func89, Try.ntmps89
    go_wp2_with (first | ((with_reducible refine qcb (N := 3) rfl ?_); (try (refine qub (by rfl) ?_; dsimp only)); refine qpb ?hg (N := 3) ?hd (cs := #[.int .i64 a1_0, .int .i64 a1_1, .int .i64 a1_2, .string a1_3]) (t := 43) ?hr ?_; (case hd => rfl); (case hg => rfl); (case hr => first | (go_simp; done) | (go_simp; rfl)); intro gb113 hg w10 hbox hb; have BK113 := qb.mk (hbox); have GW113 := qb.mk ((by rw [hg]; exact (qG (by repeat (first | (with_reducible first | exact HB.out | apply qf | apply qg | apply qe) | exact HB.out))) : w.heap.size ≤ gb113)); have GE113 := qb.mk ((by rw [hg]; exact (qG (by repeat (first | (with_reducible first | exact HB.out | apply qf | apply qg | apply qe) | exact HB.out))) : w.heap.size ≤ gb113)); replace HB := qb.mk (qE (by repeat (first | (with_reducible first | exact HB.out | apply qf | apply qg | apply qe) | exact HB.out)) hb); clear hb hbox hg; have hcz11_0 : w10.cell? ⟨gb113, 0, none⟩ = some (.int .i64 a1_0) := (ql BK113.out 0).trans rfl; have hcz11_1 : w10.cell? ⟨gb113, 1, none⟩ = some (.int .i64 a1_1) := (ql BK113.out 1).trans rfl; have hcz11_2 : w10.cell? ⟨gb113, 2, none⟩ = some (.int .i64 a1_2) := (ql BK113.out 2).trans rfl; have hcz11_3 : w10.cell? ⟨gb113, 3, none⟩ = some (.string a1_3) := (ql BK113.out 3).trans rfl; have hfz11_0 := qp BK113.out 0; have hfz11_1 := qp BK113.out 1; have hfz11_2 := qp BK113.out 2; have hfz11_3 := qp BK113.out 3) | (go_at_call 54; (with_reducible refine (qHb.calls a1_2 1 (a0.size : Int) false _ A5.out).mono ?_); rintro e w' ⟨rfl, ⟨nd, rfl⟩⟩))
    go_ret
    exact ⟨by first | rfl | (simp [qv, qu] <;> rfl) | (simp [*, qv, qu] <;> rfl), by repeat (first | (with_reducible first | exact HB.out | apply qf | apply qg | apply qe | refine qk ?_ GE113.out) | exact HB.out)⟩
  ·rw [if_neg c4] at H
   have c4b0 : (a1_3.toList == ([] : List UInt8)) = false := beq_eq_false_iff_ne.mpr c4
   have c4b1 : (a1_3.toList != ([] : List UInt8)) = true := bne_iff_ne.mpr c4
   obtain rfl := Option.some.inj H
   go_enter Try.func89, Try.ntmps89
   go_wp2_with (first | ((with_reducible refine qcb (N := 3) rfl ?_); (try (refine qub (by rfl) ?_; dsimp only)); refine qpb ?hg (N := 3) ?hd (cs := #[.int .i64 a1_0, .int .i64 a1_1, .int .i64 a1_2, .string a1_3]) (t := 43) ?hr ?_; (case hd => rfl); (case hg => rfl); (case hr => first | (go_simp; done) | (go_simp; rfl)); intro gb113 hg w12 hbox hb; have BK113 := qb.mk (hbox); have GW113 := qb.mk ((by rw [hg]; exact (qG (by repeat (first | (with_reducible first | exact HB.out | apply qf | apply qg | apply qe) | exact HB.out))) : w.heap.size ≤ gb113)); have GE113 := qb.mk ((by rw [hg]; exact (qG (by repeat (first | (with_reducible first | exact HB.out | apply qf | apply qg | apply qe) | exact HB.out))) : w.heap.size ≤ gb113)); replace HB := qb.mk (qE (by repeat (first | (with_reducible first | exact HB.out | apply qf | apply qg | apply qe) | exact HB.out)) hb); clear hb hbox hg; have hcz13_0 : w12.cell? ⟨gb113, 0, none⟩ = some (.int .i64 a1_0) := (ql BK113.out 0).trans rfl; have hcz13_1 : w12.cell? ⟨gb113, 1, none⟩ = some (.int .i64 a1_1) := (ql BK113.out 1).trans rfl; have hcz13_2 : w12.cell? ⟨gb113, 2, none⟩ = some (.int .i64 a1_2) := (ql BK113.out 2).trans rfl; have hcz13_3 : w12.cell? ⟨gb113, 3, none⟩ = some (.string a1_3) := (ql BK113.out 3).trans rfl; have hfz13_0 := qp BK113.out 0; have hfz13_1 := qp BK113.out 1; have hfz13_2 := qp BK113.out 2; have hfz13_3 := qp BK113.out 3))
   go_ret
   exact ⟨by first | rfl | (simp [qv, qu] <;> rfl) | (simp [*, qv, qu] <;> rfl), by repeat (first | (with_reducible first | exact HB.out | apply qf | apply qg | apply qe | refine qk ?_ GE113.out) | exact HB.out)⟩
 ·rw [if_neg c3] at H
  have c3b0 : (a1_0 == 1) = false := beq_eq_false_iff_ne.mpr c3
  have c3b1 : (a1_0 != 1) = true := bne_iff_ne.mpr c3
  by_cases c14 : a1_0 = 2
  ·rw [if_pos c14] at H
   have c14b0 : (a1_0 == 2) = true := beq_iff_eq.mpr c14
   have c14b1 : (a1_0 != 2) = false := bne_eq_false_iff_eq.mpr c14
   clear c14
   by_cases c15 : a1_1 = 0
   ·rw [if_pos c15] at H
    have c15b0 : (a1_1 == 0) = true := beq_iff_eq.mpr c15
    have c15b1 : (a1_1 != 0) = false := bne_eq_false_iff_eq.mpr c15
    clear c15
    by_cases c16 : a1_2 = 0
    ·rw [if_pos c16] at H
     have c16b0 : (a1_2 == 0) = true := beq_iff_eq.mpr c16
     have c16b1 : (a1_2 != 0) = false := bne_eq_false_iff_eq.mpr c16
     clear c16
     replace H := Option.bind_eq_some_iff.mp H
     obtain ⟨t116, A170, H⟩ := H
     try dsimp only at H
     have A17 := qb.mk A170
     clear A170
     obtain rfl := Option.some.inj H
     go_enter Try.func89, Try.ntmps89
     go_wp2_with (first | ((with_reducible refine qcb (N := 3) rfl ?_); (try (refine qub (by rfl) ?_; dsimp only)); refine qpb ?hg (N := 3) ?hd (cs := #[.int .i64 a1_0, .int .i64 a1_1, .int .i64 a1_2, .string a1_3]) (t := 43) ?hr ?_; (case hd => rfl); (case hg => rfl); (case hr => first | (go_simp; done) | (go_simp; rfl)); intro gb113 hg w18 hbox hb; have BK113 := qb.mk (hbox); have GW113 := qb.mk ((by rw [hg]; exact (qG (by repeat (first | (with_reducible first | exact HB.out | apply qf | apply qg | apply qe) | exact HB.out))) : w.heap.size ≤ gb113)); have GE113 := qb.mk ((by rw [hg]; exact (qG (by repeat (first | (with_reducible first | exact HB.out | apply qf | apply qg | apply qe) | exact HB.out))) : w.heap.size ≤ gb113)); replace HB := qb.mk (qE (by repeat (first | (with_reducible first | exact HB.out | apply qf | apply qg | apply qe) | exact HB.out)) hb); clear hb hbox hg; have hcz19_0 : w18.cell? ⟨gb113, 0, none⟩ = some (.int .i64 a1_0) := (ql BK113.out 0).trans rfl; have hcz19_1 : w18.cell? ⟨gb113, 1, none⟩ = some (.int .i64 a1_1) := (ql BK113.out 1).trans rfl; have hcz19_2 : w18.cell? ⟨gb113, 2, none⟩ = some (.int .i64 a1_2) := (ql BK113.out 2).trans rfl; have hcz19_3 : w18.cell? ⟨gb113, 3, none⟩ = some (.string a1_3) := (ql BK113.out 3).trans rfl; have hfz19_0 := qp BK113.out 0; have hfz19_1 := qp BK113.out 1; have hfz19_2 := qp BK113.out 2; have hfz19_3 := qp BK113.out 3) | (go_at_call 54; (with_reducible refine (qHb.calls (a1_3.size : Int) 1 300 t116 _ A17.out).mono ?_); rintro e w' ⟨rfl, ⟨nd, rfl⟩⟩))
     go_ret
     exact ⟨by first | rfl | (simp [qv, qu] <;> rfl) | (simp [*, qv, qu] <;> rfl), by repeat (first | (with_reducible first | exact HB.out | apply qf | apply qg | apply qe | refine qk ?_ GE113.out) | exact HB.out)⟩
    ·rw [if_neg c16] at H
     have c16b0 : (a1_2 == 0) = false := beq_eq_false_iff_ne.mpr c16
     have c16b1 : (a1_2 != 0) = true := bne_iff_ne.mpr c16
     obtain rfl := Option.some.inj H
     go_enter Try.func89, Try.ntmps89
     go_wp2_with (first | ((with_reducible refine qcb (N := 3) rfl ?_); (try (refine qub (by rfl) ?_; dsimp only)); refine qpb ?hg (N := 3) ?hd (cs := #[.int .i64 a1_0, .int .i64 a1_1, .int .i64 a1_2, .string a1_3]) (t := 43) ?hr ?_; (case hd => rfl); (case hg => rfl); (case hr => first | (go_simp; done) | (go_simp; rfl)); intro gb113 hg w20 hbox hb; have BK113 := qb.mk (hbox); have GW113 := qb.mk ((by rw [hg]; exact (qG (by repeat (first | (with_reducible first | exact HB.out | apply qf | apply qg | apply qe) | exact HB.out))) : w.heap.size ≤ gb113)); have GE113 := qb.mk ((by rw [hg]; exact (qG (by repeat (first | (with_reducible first | exact HB.out | apply qf | apply qg | apply qe) | exact HB.out))) : w.heap.size ≤ gb113)); replace HB := qb.mk (qE (by repeat (first | (with_reducible first | exact HB.out | apply qf | apply qg | apply qe) | exact HB.out)) hb); clear hb hbox hg; have hcz21_0 : w20.cell? ⟨gb113, 0, none⟩ = some (.int .i64 a1_0) := (ql BK113.out 0).trans rfl; have hcz21_1 : w20.cell? ⟨gb113, 1, none⟩ = some (.int .i64 a1_1) := (ql BK113.out 1).trans rfl; have hcz21_2 : w20.cell? ⟨gb113, 2, none⟩ = some (.int .i64 a1_2) := (ql BK113.out 2).trans rfl; have hcz21_3 : w20.cell? ⟨gb113, 3, none⟩ = some (.string a1_3) := (ql BK113.out 3).trans rfl; have hfz21_0 := qp BK113.out 0; have hfz21_1 := qp BK113.out 1; have hfz21_2 := qp BK113.out 2; have hfz21_3 := qp BK113.out 3))
     go_ret
     exact ⟨by first | rfl | (simp [qv, qu] <;> rfl) | (simp [*, qv, qu] <;> rfl), by repeat (first | (with_reducible first | exact HB.out | apply qf | apply qg | apply qe | refine qk ?_ GE113.out) | exact HB.out)⟩
   ·rw [if_neg c15] at H
    have c15b0 : (a1_1 == 0) = false := beq_eq_false_iff_ne.mpr c15
    have c15b1 : (a1_1 != 0) = true := bne_iff_ne.mpr c15
    obtain rfl := Option.some.inj H
    go_enter Try.func89, Try.ntmps89
    go_wp2_with (first | ((with_reducible refine qcb (N := 3) rfl ?_); (try (refine qub (by rfl) ?_; dsimp only)); refine qpb ?hg (N := 3) ?hd (cs := #[.int .i64 a1_0, .int .i64 a1_1, .int .i64 a1_2, .string a1_3]) (t := 43) ?hr ?_; (case hd => rfl); (case hg => rfl); (case hr => first | (go_simp; done) | (go_simp; rfl)); intro gb113 hg w22 hbox hb; have BK113 := qb.mk (hbox); have GW113 := qb.mk ((by rw [hg]; exact (qG (by repeat (first | (with_reducible first | exact HB.out | apply qf | apply qg | apply qe) | exact HB.out))) : w.heap.size ≤ gb113)); have GE113 := qb.mk ((by rw [hg]; exact (qG (by repeat (first | (with_reducible first | exact HB.out | apply qf | apply qg | apply qe) | exact HB.out))) : w.heap.size ≤ gb113)); replace HB := qb.mk (qE (by repeat (first | (with_reducible first | exact HB.out | apply qf | apply qg | apply qe) | exact HB.out)) hb); clear hb hbox hg; have hcz23_0 : w22.cell? ⟨gb113, 0, none⟩ = some (.int .i64 a1_0) := (ql BK113.out 0).trans rfl; have hcz23_1 : w22.cell? ⟨gb113, 1, none⟩ = some (.int .i64 a1_1) := (ql BK113.out 1).trans rfl; have hcz23_2 : w22.cell? ⟨gb113, 2, none⟩ = some (.int .i64 a1_2) := (ql BK113.out 2).trans rfl; have hcz23_3 : w22.cell? ⟨gb113, 3, none⟩ = some (.string a1_3) := (ql BK113.out 3).trans rfl; have hfz23_0 := qp BK113.out 0; have hfz23_1 := qp BK113.out 1; have hfz23_2 := qp BK113.out 2; have hfz23_3 := qp BK113.out 3))
    go_ret
    exact ⟨by first | rfl | (simp [qv, qu] <;> rfl) | (simp [*, qv, qu] <;> rfl), by repeat (first | (with_reducible first | exact HB.out | apply qf | apply qg | apply qe | refine qk ?_ GE113.out) | exact HB.out)⟩
  ·rw [if_neg c14] at H
   have c14b0 : (a1_0 == 2) = false := beq_eq_false_iff_ne.mpr c14
   have c14b1 : (a1_0 != 2) = true := bne_iff_ne.mpr c14
   obtain rfl := Option.some.inj H
   go_enter Try.func89, Try.ntmps89
   go_wp2_with (first | ((with_reducible refine qcb (N := 3) rfl ?_); (try (refine qub (by rfl) ?_; dsimp only)); refine qpb ?hg (N := 3) ?hd (cs := #[.int .i64 a1_0, .int .i64 a1_1, .int .i64 a1_2, .string a1_3]) (t := 43) ?hr ?_; (case hd => rfl); (case hg => rfl); (case hr => first | (go_simp; done) | (go_simp; rfl)); intro gb113 hg w24 hbox hb; have BK113 := qb.mk (hbox); have GW113 := qb.mk ((by rw [hg]; exact (qG (by repeat (first | (with_reducible first | exact HB.out | apply qf | apply qg | apply qe) | exact HB.out))) : w.heap.size ≤ gb113)); have GE113 := qb.mk ((by rw [hg]; exact (qG (by repeat (first | (with_reducible first | exact HB.out | apply qf | apply qg | apply qe) | exact HB.out))) : w.heap.size ≤ gb113)); replace HB := qb.mk (qE (by repeat (first | (with_reducible first | exact HB.out | apply qf | apply qg | apply qe) | exact HB.out)) hb); clear hb hbox hg; have hcz25_0 : w24.cell? ⟨gb113, 0, none⟩ = some (.int .i64 a1_0) := (ql BK113.out 0).trans rfl; have hcz25_1 : w24.cell? ⟨gb113, 1, none⟩ = some (.int .i64 a1_1) := (ql BK113.out 1).trans rfl; have hcz25_2 : w24.cell? ⟨gb113, 2, none⟩ = some (.int .i64 a1_2) := (ql BK113.out 2).trans rfl; have hcz25_3 : w24.cell? ⟨gb113, 3, none⟩ = some (.string a1_3) := (ql BK113.out 3).trans rfl; have hfz25_0 := qp BK113.out 0; have hfz25_1 := qp BK113.out 1; have hfz25_2 := qp BK113.out 2; have hfz25_3 := qp BK113.out 3))
   go_ret
   exact ⟨by first | rfl | (simp [qv, qu] <;> rfl) | (simp [*, qv, qu] <;> rfl), by repeat (first | (with_reducible first | exact HB.out | apply qf | apply qg | apply qe | refine qk ?_ GE113.out) | exact HB.out)⟩

/-! ### qdb: function 60 -/
def qdb.l0 : Nat → ByteArray → List (S43) → Int → List (S43) → Int → Int → Option (Bool)
 | 0, _, _, _, _, _, _ => none
 | k + 1, x0, x1, x5, x8, x9, x10 => if x10 < x9 then (if 0 ≤ x10 then (if x10 < (x8.length : Int) then ((qyc.f x0 ((qc x8 x10).f0) ((qc x8 x10).f1) ((qc x8 x10).f2) ((qc x8 x10).f3)).bind fun t119 => (if t119 = true then (qdb.l0 k x0 x1 (wrap64 (x5 + (wrap64 (((qc x8 x10).f2) + (((qc x8 x10).f3).size : Int))))) x8 x9 (wrap64 (x10 + 1))) else (some false))) else (none)) else (none)) else ((qGb.f x0).bind fun t120 => (if t120 = true then (if (x1.length : Int) ≤ 300 then (some (decide (x5 ≤ 300))) else (some false)) else (some false)))
def qdb.f (k : Nat) (a0 : ByteArray) (l1 : List (S43)) : Option (Bool) := qdb.l0 k a0 l1 0 l1 (l1.length : Int) 0
theorem qdb.qjb : ∀ k, (∀ y0 y1 y2 y3 y4 y5, LeO (qdb.l0 k y0 y1 y2 y3 y4 y5) (qdb.l0 (k + 1) y0 y1 y2 y3 y4 y5))
 | 0 => fun _ _ _ _ _ _ r h => by simp [qdb.l0] at h
 | k + 1 => by
  have ih0 := qdb.qjb k
  ·intro y0 y1 y2 y3 y4 y5
   unfold qdb.l0
   repeat' first
   | (with_reducible exact ih0 _ _ _ _ _ _)
   | (with_reducible exact LeO.refl _)
   | (with_reducible exact LeO.none _)
   | (with_reducible refine LeO.ite ?_ ?_)
   | (with_reducible refine LeO.bind ?_ (fun _ => ?_))
   | exact LeO.none _
   | refine LeO.ite ?_ ?_
   | refine LeO.bind ?_ (fun _ => ?_)
theorem qdb.mono : ∀ a0 a1 k, LeO (qdb.f k a0 a1) (qdb.f (k + 1) a0 a1) := by
 intro a0 a1 k
 have ih0 := qdb.qjb k
 unfold qdb.f
 repeat' first
   | (with_reducible exact ih0 _ _ _ _ _ _)
   | (with_reducible exact LeO.refl _)
   | (with_reducible exact LeO.none _)
   | (with_reducible refine LeO.ite ?_ ?_)
   | (with_reducible refine LeO.bind ?_ (fun _ => ?_))
   | exact LeO.none _
   | refine LeO.ite ?_ ?_
   | refine LeO.bind ?_ (fun _ => ?_)
set_option maxHeartbeats 8000000 in
set_option maxRecDepth 100000 in
theorem qdb.calls (k : Nat) (a0 : ByteArray) (A1 : Option Addr) (c1 : Nat) (l1 : List (S43)) (r : Bool) (w : World) (hr1 : Kd.C k43 w A1 l1.length l1) (hc1 : l1.length ≤ c1) (h : qdb.f k a0 l1 = some r) :
  Calls Try.prog 60 #[.string a0, .slice A1 l1.length c1] w fun e w' => e = .returned (.bool r) ∧ Below w.heap.size w w' := by
 have hu43 := Try.underlying43
 have HR1 := qb.mk hr1
 have HC1 := qb.mk hc1
 clear hr1 hc1
 have HB := qb.mk (Below.refl w.heap.size w)
 have H : (qdb.l0 k a0 l1 0 l1 (l1.length : Int) 0) = some r := h
 clear h
 have H' := qb.mk H
 clear H
 go_enter Try.func60, Try.ntmps60
 go_wp2
 go_loopg [5, 10] k (fun kq v5 v10 w' => ∃ (x5_1 : Int) (x10_1 : Int), v5 = .int .i64 x5_1 ∧ v10 = .int .i64 x10_1 ∧ qb (qdb.l0 kq a0 l1 x5_1 l1 (l1.length : Int) x10_1 = some r) ∧ qb (kq ≤ k) ∧ qb (Below w.heap.size w w'))
 case atStart => exact ⟨(0), (0), (by first | rfl | (simp; done) | (simp [*]; done)), (by first | rfl | (simp; done) | (simp [*]; done)), H', ⟨Nat.le_refl _⟩, ⟨by repeat (first | (with_reducible first | exact HB.out | apply qf | apply qg | apply qe) | exact HB.out)⟩⟩
 case round =>
  clear H'
  try clear c1
  try clear p2
  obtain ⟨x5_1, x10_1, rfl, rfl, HA, HK1, HB⟩ := hrel
  cases gk with
  | zero => exact absurd HA.out (by simp [qdb.l0])
  | succ k1 =>
   have H := HA.out
   clear HA
   simp only [qdb.l0] at H
   by_cases c3 : x10_1 < (l1.length : Int)
   ·rw [if_pos c3] at H
    have c3b0 : decide (x10_1 < (l1.length : Int)) = true := decide_eq_true c3
    clear c3
    by_cases c4 : 0 ≤ x10_1
    ·rw [if_pos c4] at H
     have c4b0 : decide (0 ≤ x10_1) = true := decide_eq_true c4
     clear c4
     by_cases c5 : x10_1 < (l1.length : Int)
     ·rw [if_pos c5] at H
      have c5b0 : decide (x10_1 < (l1.length : Int)) = true := decide_eq_true c5
      clear c5
      replace H := Option.bind_eq_some_iff.mp H
      obtain ⟨t119, A60, H⟩ := H
      try dsimp only at H
      have A6 := qb.mk A60
      clear A60
      by_cases c7 : t119 = true
      ·subst c7
       rw [if_pos rfl] at H
       have H' := qb.mk H
       clear H
       have p117 : 0 ≤ (x10_1 : Int) := of_decide_eq_true (by first | (with_reducible assumption) | assumption)
       have q117 : x10_1 < (l1.length : Int) := of_decide_eq_true (by first | (with_reducible assumption) | assumption)
       obtain ⟨ad117, e117, hx117_0, hx117_1, hx117_2, hx117_3⟩ := qqb HR1.out x10_1 p117 q117
       cases e117
       replace hx117_0 := (HB.out.cell (World.block_lt_of_cell? w _ hx117_0)).trans hx117_0
       replace hx117_1 := (HB.out.cell (World.block_lt_of_cell? w _ hx117_1)).trans hx117_1
       replace hx117_2 := (HB.out.cell (World.block_lt_of_cell? w _ hx117_2)).trans hx117_2
       replace hx117_3 := (HB.out.cell (World.block_lt_of_cell? w _ hx117_3)).trans hx117_3
       replace p117 := eq_true p117
       replace q117 := eq_true q117
       go_wp2_with (first | ((with_reducible refine qcb (N := 7) rfl ?_); (try (refine qub (by rfl) ?_; dsimp only)); refine qpb ?hg (N := 7) ?hd (cs := #[.int .i64 0, .int .i64 0, .int .i64 0, .string (⟨#[]⟩ : ByteArray)]) (t := 43) ?hr ?_; (case hd => rfl); (case hg => rfl); (case hr => first | (go_simp; done) | (go_simp; rfl)); intro gb118 hg w8 hbox hb; have BK118 := qb.mk (hbox); have GW118 := qb.mk ((by rw [hg]; exact (qG (by repeat (first | (with_reducible first | exact HB.out | apply qf | apply qg | apply qe) | exact HB.out))) : w.heap.size ≤ gb118)); have GE118 := qb.mk ((by rw [hg]; exact (qG (by repeat (first | (with_reducible first | exact HB.out | apply qf | apply qg | apply qe) | exact HB.out))) : w.heap.size ≤ gb118)); replace HB := qb.mk (qE (by repeat (first | (with_reducible first | exact HB.out | apply qf | apply qg | apply qe) | exact HB.out)) hb); clear hb hbox hg; have hcz9_0 : w8.cell? ⟨gb118, 0, none⟩ = some (.int .i64 0) := (ql BK118.out 0).trans rfl; have hcz9_1 : w8.cell? ⟨gb118, 1, none⟩ = some (.int .i64 0) := (ql BK118.out 1).trans rfl; have hcz9_2 : w8.cell? ⟨gb118, 2, none⟩ = some (.int .i64 0) := (ql BK118.out 2).trans rfl; have hcz9_3 : w8.cell? ⟨gb118, 3, none⟩ = some (.string (⟨#[]⟩ : ByteArray)) := (ql BK118.out 3).trans rfl; have hfz9_0 := qp BK118.out 0; have hfz9_1 := qp BK118.out 1; have hfz9_2 := qp BK118.out 2; have hfz9_3 := qp BK118.out 3) | ((with_reducible refine qy (f := 89) rfl ?_); refine qz (some 16) rfl rfl Try.func89 (by kernel_rfl) rfl #[.string a0, .agg #[.int .i64 ((qc l1 x10_1).f0), .int .i64 ((qc l1 x10_1).f1), .int .i64 ((qc l1 x10_1).f2), .string ((qc l1 x10_1).f3)]] rfl (by (try simp only [List.map_toArray, List.map_cons, List.map_nil]); first | done | rfl | (simp only [List.length_drop, List.length_take]; rfl)) ?_; (with_reducible refine (qyc.calls a0 ((qc l1 x10_1).f0) ((qc l1 x10_1).f1) ((qc l1 x10_1).f2) ((qc l1 x10_1).f3) true _ A6.out).mono ?_); rintro e w10 ⟨rfl, hb⟩; refine ⟨_, rfl, ?_⟩; replace BK118 := qb.mk (qIb (g := gb118) (o := .cells #[.int .i64 ((qc l1 x10_1).f0), .int .i64 ((qc l1 x10_1).f1), .int .i64 ((qc l1 x10_1).f2), .string ((qc l1 x10_1).f3)] 43 (0, 0)) (by (with_reducible repeat (first | refine qB ?_ _ | refine qx ?_ | refine qC ?_ _)); refine qL (cs := #[.int .i64 ((qc l1 x10_1).f0), .int .i64 ((qc l1 x10_1).f1), .int .i64 ((qc l1 x10_1).f2), .string (⟨#[]⟩ : ByteArray)]) ?_ 3 _ rfl; (with_reducible repeat (first | refine qB ?_ _ | refine qx ?_ | refine qC ?_ _)); refine qL (cs := #[.int .i64 ((qc l1 x10_1).f0), .int .i64 ((qc l1 x10_1).f1), .int .i64 0, .string (⟨#[]⟩ : ByteArray)]) ?_ 2 _ rfl; (with_reducible repeat (first | refine qB ?_ _ | refine qx ?_ | refine qC ?_ _)); refine qL (cs := #[.int .i64 ((qc l1 x10_1).f0), .int .i64 0, .int .i64 0, .string (⟨#[]⟩ : ByteArray)]) ?_ 1 _ rfl; (with_reducible repeat (first | refine qB ?_ _ | refine qx ?_ | refine qC ?_ _)); refine qL (cs := #[.int .i64 0, .int .i64 0, .int .i64 0, .string (⟨#[]⟩ : ByteArray)]) ?_ 0 _ rfl; (with_reducible repeat (first | refine qB ?_ _ | refine qx ?_ | refine qC ?_ _)); exact BK118.out) hb); replace HB := qb.mk (qE (by repeat (first | (with_reducible first | exact HB.out | apply qf | apply qg | apply qe | refine qk ?_ GE118.out) | exact HB.out)) hb); (try clear hb); (try clear hb2); (try clear hk); (try clear hi); have hcz11_0 : w10.cell? ⟨gb118, 0, none⟩ = some (.int .i64 ((qc l1 x10_1).f0)) := (ql BK118.out 0).trans rfl; have hcz11_1 : w10.cell? ⟨gb118, 1, none⟩ = some (.int .i64 ((qc l1 x10_1).f1)) := (ql BK118.out 1).trans rfl; have hcz11_2 : w10.cell? ⟨gb118, 2, none⟩ = some (.int .i64 ((qc l1 x10_1).f2)) := (ql BK118.out 2).trans rfl; have hcz11_3 : w10.cell? ⟨gb118, 3, none⟩ = some (.string ((qc l1 x10_1).f3)) := (ql BK118.out 3).trans rfl; have hfz11_0 := qp BK118.out 0; have hfz11_1 := qp BK118.out 1; have hfz11_2 := qp BK118.out 2; have hfz11_3 := qp BK118.out 3))
       go_roundg k1
       case measure => have := HK1.out; omega
       case rel => exact ⟨(wrap64 (x5_1 + (wrap64 (((qc l1 x10_1).f2) + (((qc l1 x10_1).f3).size : Int))))), (wrap64 (x10_1 + 1)), (by first | rfl | (simp; done) | (simp [*]; done)), (by first | rfl | (simp; done) | (simp [*]; done)), H', ⟨by have := HK1.out; omega⟩, ⟨by repeat (first | (with_reducible first | exact HB.out | apply qf | apply qg | apply qe | refine qk ?_ GE118.out) | exact HB.out)⟩⟩
      ·replace c7 := Bool.eq_false_iff.mpr c7
       subst c7
       rw [if_neg (show ¬ (false = true) by decide)] at H
       obtain rfl := Option.some.inj H
       have p117 : 0 ≤ (x10_1 : Int) := of_decide_eq_true (by first | (with_reducible assumption) | assumption)
       have q117 : x10_1 < (l1.length : Int) := of_decide_eq_true (by first | (with_reducible assumption) | assumption)
       obtain ⟨ad117, e117, hx117_0, hx117_1, hx117_2, hx117_3⟩ := qqb HR1.out x10_1 p117 q117
       cases e117
       replace hx117_0 := (HB.out.cell (World.block_lt_of_cell? w _ hx117_0)).trans hx117_0
       replace hx117_1 := (HB.out.cell (World.block_lt_of_cell? w _ hx117_1)).trans hx117_1
       replace hx117_2 := (HB.out.cell (World.block_lt_of_cell? w _ hx117_2)).trans hx117_2
       replace hx117_3 := (HB.out.cell (World.block_lt_of_cell? w _ hx117_3)).trans hx117_3
       replace p117 := eq_true p117
       replace q117 := eq_true q117
       go_wp2_with (first | ((with_reducible refine qcb (N := 7) rfl ?_); (try (refine qub (by rfl) ?_; dsimp only)); refine qpb ?hg (N := 7) ?hd (cs := #[.int .i64 0, .int .i64 0, .int .i64 0, .string (⟨#[]⟩ : ByteArray)]) (t := 43) ?hr ?_; (case hd => rfl); (case hg => rfl); (case hr => first | (go_simp; done) | (go_simp; rfl)); intro gb118 hg w12 hbox hb; have BK118 := qb.mk (hbox); have GW118 := qb.mk ((by rw [hg]; exact (qG (by repeat (first | (with_reducible first | exact HB.out | apply qf | apply qg | apply qe) | exact HB.out))) : w.heap.size ≤ gb118)); have GE118 := qb.mk ((by rw [hg]; exact (qG (by repeat (first | (with_reducible first | exact HB.out | apply qf | apply qg | apply qe) | exact HB.out))) : w.heap.size ≤ gb118)); replace HB := qb.mk (qE (by repeat (first | (with_reducible first | exact HB.out | apply qf | apply qg | apply qe) | exact HB.out)) hb); clear hb hbox hg; have hcz13_0 : w12.cell? ⟨gb118, 0, none⟩ = some (.int .i64 0) := (ql BK118.out 0).trans rfl; have hcz13_1 : w12.cell? ⟨gb118, 1, none⟩ = some (.int .i64 0) := (ql BK118.out 1).trans rfl; have hcz13_2 : w12.cell? ⟨gb118, 2, none⟩ = some (.int .i64 0) := (ql BK118.out 2).trans rfl; have hcz13_3 : w12.cell? ⟨gb118, 3, none⟩ = some (.string (⟨#[]⟩ : ByteArray)) := (ql BK118.out 3).trans rfl; have hfz13_0 := qp BK118.out 0; have hfz13_1 := qp BK118.out 1; have hfz13_2 := qp BK118.out 2; have hfz13_3 := qp BK118.out 3) | ((with_reducible refine qy (f := 89) rfl ?_); refine qz (some 16) rfl rfl Try.func89 (by kernel_rfl) rfl #[.string a0, .agg #[.int .i64 ((qc l1 x10_1).f0), .int .i64 ((qc l1 x10_1).f1), .int .i64 ((qc l1 x10_1).f2), .string ((qc l1 x10_1).f3)]] rfl (by (try simp only [List.map_toArray, List.map_cons, List.map_nil]); first | done | rfl | (simp only [List.length_drop, List.length_take]; rfl)) ?_; (with_reducible refine (qyc.calls a0 ((qc l1 x10_1).f0) ((qc l1 x10_1).f1) ((qc l1 x10_1).f2) ((qc l1 x10_1).f3) false _ A6.out).mono ?_); rintro e w14 ⟨rfl, hb⟩; refine ⟨_, rfl, ?_⟩; replace BK118 := qb.mk (qIb (g := gb118) (o := .cells #[.int .i64 ((qc l1 x10_1).f0), .int .i64 ((qc l1 x10_1).f1), .int .i64 ((qc l1 x10_1).f2), .string ((qc l1 x10_1).f3)] 43 (0, 0)) (by (with_reducible repeat (first | refine qB ?_ _ | refine qx ?_ | refine qC ?_ _)); refine qL (cs := #[.int .i64 ((qc l1 x10_1).f0), .int .i64 ((qc l1 x10_1).f1), .int .i64 ((qc l1 x10_1).f2), .string (⟨#[]⟩ : ByteArray)]) ?_ 3 _ rfl; (with_reducible repeat (first | refine qB ?_ _ | refine qx ?_ | refine qC ?_ _)); refine qL (cs := #[.int .i64 ((qc l1 x10_1).f0), .int .i64 ((qc l1 x10_1).f1), .int .i64 0, .string (⟨#[]⟩ : ByteArray)]) ?_ 2 _ rfl; (with_reducible repeat (first | refine qB ?_ _ | refine qx ?_ | refine qC ?_ _)); refine qL (cs := #[.int .i64 ((qc l1 x10_1).f0), .int .i64 0, .int .i64 0, .string (⟨#[]⟩ : ByteArray)]) ?_ 1 _ rfl; (with_reducible repeat (first | refine qB ?_ _ | refine qx ?_ | refine qC ?_ _)); refine qL (cs := #[.int .i64 0, .int .i64 0, .int .i64 0, .string (⟨#[]⟩ : ByteArray)]) ?_ 0 _ rfl; (with_reducible repeat (first | refine qB ?_ _ | refine qx ?_ | refine qC ?_ _)); exact BK118.out) hb); replace HB := qb.mk (qE (by repeat (first | (with_reducible first | exact HB.out | apply qf | apply qg | apply qe | refine qk ?_ GE118.out) | exact HB.out)) hb); (try clear hb); (try clear hb2); (try clear hk); (try clear hi)))
       go_ret
       exact ⟨by first | rfl | (simp [qv, qu] <;> rfl) | (simp [*, qv, qu] <;> rfl), by repeat (first | (with_reducible first | exact HB.out | apply qf | apply qg | apply qe | refine qk ?_ GE118.out) | exact HB.out)⟩
     ·rw [if_neg c5] at H
      exact absurd H (by simp)
    ·rw [if_neg c4] at H
     exact absurd H (by simp)
   ·rw [if_neg c3] at H
    have c3b0 : decide (x10_1 < (l1.length : Int)) = false := decide_eq_false c3
    clear c3
    replace H := Option.bind_eq_some_iff.mp H
    obtain ⟨t120, A150, H⟩ := H
    try dsimp only at H
    have A15 := qb.mk A150
    clear A150
    by_cases c16 : t120 = true
    ·subst c16
     rw [if_pos rfl] at H
     by_cases c17 : (l1.length : Int) ≤ 300
     ·rw [if_pos c17] at H
      have c17b0 : decide ((l1.length : Int) ≤ 300) = true := decide_eq_true c17
      have c17b1 : decide (l1.length ≤ 300) = true := decide_eq_true (by omega)
      clear c17
      obtain rfl := Option.some.inj H
      go_wp2_with (first | ((with_reducible refine qy (f := 65) rfl ?_); refine qz (some 28) rfl rfl Try.func65 (by kernel_rfl) rfl #[.string a0] rfl (by (try simp only [List.map_toArray, List.map_cons, List.map_nil]); first | done | rfl | (simp only [List.length_drop, List.length_take]; rfl)) ?_; (with_reducible refine (qGb.calls a0 true _ A15.out).mono ?_); rintro e w' ⟨rfl, ⟨nd, rfl⟩⟩; refine ⟨_, rfl, ?_⟩))
      go_ret
      exact ⟨by first | rfl | (simp [qv, qu] <;> rfl) | (simp [*, qv, qu] <;> rfl), by repeat (first | (with_reducible first | exact HB.out | apply qf | apply qg | apply qe) | exact HB.out)⟩
     ·rw [if_neg c17] at H
      have c17b0 : decide ((l1.length : Int) ≤ 300) = false := decide_eq_false c17
      have c17b1 : decide (l1.length ≤ 300) = false := decide_eq_false (by omega)
      clear c17
      obtain rfl := Option.some.inj H
      go_wp2_with (first | ((with_reducible refine qy (f := 65) rfl ?_); refine qz (some 28) rfl rfl Try.func65 (by kernel_rfl) rfl #[.string a0] rfl (by (try simp only [List.map_toArray, List.map_cons, List.map_nil]); first | done | rfl | (simp only [List.length_drop, List.length_take]; rfl)) ?_; (with_reducible refine (qGb.calls a0 true _ A15.out).mono ?_); rintro e w' ⟨rfl, ⟨nd, rfl⟩⟩; refine ⟨_, rfl, ?_⟩))
      go_ret
      exact ⟨by first | rfl | (simp [qv, qu] <;> rfl) | (simp [*, qv, qu] <;> rfl), by repeat (first | (with_reducible first | exact HB.out | apply qf | apply qg | apply qe) | exact HB.out)⟩
    ·replace c16 := Bool.eq_false_iff.mpr c16
     subst c16
     rw [if_neg (show ¬ (false = true) by decide)] at H
     obtain rfl := Option.some.inj H
     go_wp2_with (first | ((with_reducible refine qy (f := 65) rfl ?_); refine qz (some 28) rfl rfl Try.func65 (by kernel_rfl) rfl #[.string a0] rfl (by (try simp only [List.map_toArray, List.map_cons, List.map_nil]); first | done | rfl | (simp only [List.length_drop, List.length_take]; rfl)) ?_; (with_reducible refine (qGb.calls a0 false _ A15.out).mono ?_); rintro e w' ⟨rfl, ⟨nd, rfl⟩⟩; refine ⟨_, rfl, ?_⟩))
     go_ret
     exact ⟨by first | rfl | (simp [qv, qu] <;> rfl) | (simp [*, qv, qu] <;> rfl), by repeat (first | (with_reducible first | exact HB.out | apply qf | apply qg | apply qe) | exact HB.out)⟩

/-! ### qNb: function 63 -/
def qNb.f (a0 : Int) : Option (ByteArray) := some (strOfNums (([(wrap64 (Int.tdiv a0 256)) % 256, (Int.tmod a0 256) % 256] : List Int)))
set_option maxHeartbeats 8000000 in
set_option maxRecDepth 100000 in
theorem qNb.calls (a0 : Int) (r : ByteArray) (w : World) (h : qNb.f a0 = some r) :
  Calls Try.prog 63 #[.int .i64 a0] w fun e w' => e = .returned (.string r) ∧ Below w.heap.size w w' := by
 have HB := qb.mk (Below.refl w.heap.size w)
 have H : (some (strOfNums (([(wrap64 (Int.tdiv a0 256)) % 256, (Int.tmod a0 256) % 256] : List Int)))) = some r := h
 clear h
 obtain ⟨y121, hy121⟩ : ∃ y_ : List Int, y_ = (([(wrap64 (Int.tdiv a0 256)) % 256, (Int.tmod a0 256) % 256] : List Int)) := ⟨_, rfl⟩
 replace H : (some (strOfNums y121)) = some r := by first | (rw [hy121]; with_reducible exact H) | (have H2_ := (Option.bind_some _ _).symm.trans H; rw [hy121]; with_reducible exact H2_) | (have H2_ := (Option.bind_some _ _).symm.trans H; with_reducible exact H2_) | with_reducible exact H | (rw [hy121]; exact H) | exact H
 have Ny121 := qb.mk hy121
 clear hy121
 obtain rfl := Option.some.inj H
 go_enter Try.func63, Try.ntmps63
 go_wp2_with (first | ((with_reducible refine qcb (N := 9) rfl ?_); refine Kd.R_lit (Kd.int .u8) _ 5 ?hg (N := 9) ?hd (xs := ([(wrap64 (Int.tdiv a0 256)) % 256, (Int.tmod a0 256) % 256] : List Int)) (inner := [.int .u8 ((wrap64 (Int.tdiv a0 256)) % 256), .int .u8 ((Int.tmod a0 256) % 256)]) (ok := fun _ => True) (okp := fun _ => True) ?hr ?hp (fun _ hk => hk) trivial (Below.refl _ _) (Nat.le_refl _) (by simp) ?_; (case hd => rfl); (case hg => rfl); (case hr => first | (go_simp; done) | (go_simp; rfl)); (case hp => exact (Reps.one (show Kd.M (Kd.int .u8) _ _ _ ((wrap64 (Int.tdiv a0 256)) % 256) [.int .u8 ((wrap64 (Int.tdiv a0 256)) % 256)] from rfl) (Reps.one (show Kd.M (Kd.int .u8) _ _ _ ((Int.tmod a0 256) % 256) [.int .u8 ((Int.tmod a0 256) % 256)] from rfl) (Reps.none _ _)))); intro v122 w2 ho3 hb hg_ hnew_; clear hg_ hnew_; (first | rw [← Ny121.out] at ho3 | (simp only [Int.reduceToNat] at ho3; rw [← Ny121.out] at ho3)); have HO123 := qb.mk (Kd.qU ho3 (qG (by repeat (first | (with_reducible first | exact HB.out | apply qf | apply qg | apply qe) | exact HB.out)))); replace HB := qb.mk (qE (by repeat (first | (with_reducible first | exact HB.out | apply qf | apply qg | apply qe) | exact HB.out)) hb); clear hb ho3; have hcv4 := qRb (P := Try.prog) Try.underlying38 Try.underlying5 Try.underlying9 (Kd.qQb HO123.out)))
 go_ret
 exact ⟨by first | rfl | (simp [qv, qu] <;> rfl) | (simp [*, qv, qu] <;> rfl), by repeat (first | (with_reducible first | exact HB.out | apply qf | apply qg | apply qe) | exact HB.out)⟩

/-! ### qW: function 24 -/
def qW.l0 : Nat → ByteArray → List (S43) → Int → Int → Option (ByteArray × Bool)
 | 0, _, _, _, _ => none
 | k + 1, x6, x16, x17, x18 => if x18 < x17 then (if 0 ≤ x18 then (if x18 < (x16.length : Int) then ((some (([((qc x16 x18).f0) % 256] : List Int) : List Int)).bind fun y128 => (if x6.size + (strOfNums y128).size ≤ 9223372036854775807 then (if ((qc x16 x18).f0) = 1 then ((qNb.f ((qc x16 x18).f1)).bind fun t131 => ((qNb.f ((qc x16 x18).f2)).bind fun t132 => (if t131.size + t132.size ≤ 9223372036854775807 then (if (x6 ++ (strOfNums y128)).size + (t131 ++ t132).size ≤ 9223372036854775807 then (qW.l0 k ((x6 ++ (strOfNums y128)) ++ (t131 ++ t132)) x16 x17 (wrap64 (x18 + 1))) else (none)) else (none)))) else ((qNb.f (((qc x16 x18).f3).size : Int)).bind fun t133 => (if t133.size + ((qc x16 x18).f3).size ≤ 9223372036854775807 then (if (x6 ++ (strOfNums y128)).size + (t133 ++ ((qc x16 x18).f3)).size ≤ 9223372036854775807 then (qW.l0 k ((x6 ++ (strOfNums y128)) ++ (t133 ++ ((qc x16 x18).f3))) x16 x17 (wrap64 (x18 + 1))) else (none)) else (none)))) else (none))) else (none)) else (none)) else (some (x6, true))
def qW.f (k : Nat) (a0 : ByteArray) (l1 : List (S43)) : Option (ByteArray × Bool) := (qdb.f k a0 l1).bind fun t124 => (if t124 = true then ((qNb.f (l1.length : Int)).bind fun t125 => (qW.l0 k t125 l1 (l1.length : Int) 0)) else (some ((⟨#[]⟩ : ByteArray), false)))
theorem qW.qjb : ∀ k, (∀ y0 y1 y2 y3, LeO (qW.l0 k y0 y1 y2 y3) (qW.l0 (k + 1) y0 y1 y2 y3))
 | 0 => fun _ _ _ _ r h => by simp [qW.l0] at h
 | k + 1 => by
  have ih0 := qW.qjb k
  ·intro y0 y1 y2 y3
   unfold qW.l0
   repeat' first
   | (with_reducible exact ih0 _ _ _ _)
   | (with_reducible exact qdb.mono _ _ _)
   | (with_reducible exact LeO.refl _)
   | (with_reducible exact LeO.none _)
   | (with_reducible refine LeO.ite ?_ ?_)
   | (with_reducible refine LeO.bind ?_ (fun _ => ?_))
   | exact LeO.none _
   | refine LeO.ite ?_ ?_
   | refine LeO.bind ?_ (fun _ => ?_)
theorem qW.mono : ∀ a0 a1 k, LeO (qW.f k a0 a1) (qW.f (k + 1) a0 a1) := by
 intro a0 a1 k
 have ih0 := qW.qjb k
 unfold qW.f
 repeat' first
   | (with_reducible exact ih0 _ _ _ _)
   | (with_reducible exact qdb.mono _ _ _)
   | (with_reducible exact LeO.refl _)
   | (with_reducible exact LeO.none _)
   | (with_reducible refine LeO.ite ?_ ?_)
   | (with_reducible refine LeO.bind ?_ (fun _ => ?_))
   | exact LeO.none _
   | refine LeO.ite ?_ ?_
   | refine LeO.bind ?_ (fun _ => ?_)
def qW.T9 : Bool × List (List Nat × List Nat) := (true, [([], []), ([], []), ([1], [1]), ([2], [2]), ([], []), ([4], [4]), ([5, 3], [5]), ([3, 6], [3, 6]), ([0, 7], [0, 7]), ([8, 6, 0, 1, 2, 3, 4, 5, 6, 7, 8], [0, 8])])
def qW.B9 : List Nat := [0, 0, 2, 6, 0, 16, 62, 126, 255, 511]
theorem qW.tab9 : rtab .any (opsOf Try.f24 9) = qW.T9 := by kernel_rfl
theorem qW.bits9 : waitsOk qW.T9.2 qW.B9 = true := by kernel_rfl
def qW.T10 : Bool × List (List Nat × List Nat) := (true, [([], []), ([], []), ([1], [1]), ([2], [2]), ([3], [3]), ([], []), ([5], [5]), ([4, 6], [4, 6]), ([0, 7], [0, 7]), ([8, 4, 0, 1, 2, 3, 4, 5, 6, 7, 8], [0, 8])])
def qW.B10 : List Nat := [0, 0, 2, 6, 14, 0, 32, 126, 255, 511]
theorem qW.tab10 : rtab .any (opsOf Try.f24 10) = qW.T10 := by kernel_rfl
theorem qW.bits10 : waitsOk qW.T10.2 qW.B10 = true := by kernel_rfl
set_option maxHeartbeats 8000000 in
set_option maxRecDepth 100000 in
theorem qW.calls (k : Nat) (a0 : ByteArray) (A1 : Option Addr) (c1 : Nat) (l1 : List (S43)) (r1 : ByteArray) (r2 : Bool) (w : World) (hr1 : Kd.C k43 w A1 l1.length l1) (hc1 : l1.length ≤ c1) (h : qW.f k a0 l1 = some (r1, r2)) :
  Calls Try.prog 24 #[.string a0, .slice A1 l1.length c1] w fun e w' => e = .returned (.tuple #[.string r1, .bool r2]) ∧ Below w.heap.size w w' := by
 have hu43 := Try.underlying43
 have HR1 := qb.mk hr1
 have HC1 := qb.mk hc1
 clear hr1 hc1
 have HB := qb.mk (Below.refl w.heap.size w)
 have H : ((qdb.f k a0 l1).bind fun t124 => (if t124 = true then ((qNb.f (l1.length : Int)).bind fun t125 => (qW.l0 k t125 l1 (l1.length : Int) 0)) else (some ((⟨#[]⟩ : ByteArray), false)))) = some (r1, r2) := h
 clear h
 replace H := Option.bind_eq_some_iff.mp H
 obtain ⟨t124, A30, H⟩ := H
 try dsimp only at H
 have A3 := qb.mk A30
 clear A30
 by_cases c4 : t124 = true
 ·subst c4
  rw [if_pos rfl] at H
  replace H := Option.bind_eq_some_iff.mp H
  obtain ⟨t125, A50, H⟩ := H
  try dsimp only at H
  have A5 := qb.mk A50
  clear A50
  have H' := qb.mk H
  clear H
  go_enter Try.func24, Try.ntmps24
  go_wp2_with (first | ((with_reducible refine qy (f := 60) rfl ?_); refine qz (some 11) rfl rfl Try.func60 (by kernel_rfl) rfl #[.string a0, .slice A1 l1.length c1] rfl (by (try simp only [List.map_toArray, List.map_cons, List.map_nil]); first | done | rfl | (simp only [List.length_drop, List.length_take]; rfl)) ?_; (with_reducible refine (qdb.calls k a0 _ _ l1 true _ ?side1 ?side2 A3.out).mono ?_); (case side1 => repeat (first | exact HR1.out | (with_reducible refine Kd.qN ?_ _) | (with_reducible refine Kd.qM ?_ _) | (with_reducible refine Kd.qO ?_))); (case side2 => exact HC1.out); rintro e w6 ⟨rfl, hb⟩; refine ⟨_, rfl, ?_⟩; replace HB := qb.mk (qE (by repeat (first | (with_reducible first | exact HB.out | apply qf | apply qg | apply qe) | exact HB.out)) hb); (try clear hb); (try clear hb2); (try clear hk); (try clear hi)) | ((with_reducible refine qy (f := 63) rfl ?_); refine qz (some 15) rfl rfl Try.func63 (by kernel_rfl) rfl #[.int .i64 (l1.length : Int)] rfl (by (try simp only [List.map_toArray, List.map_cons, List.map_nil]); first | done | rfl | (simp only [List.length_drop, List.length_take]; rfl)) ?_; (with_reducible refine (qNb.calls (l1.length : Int) t125 _ A5.out).mono ?_); rintro e w7 ⟨rfl, hb⟩; refine ⟨_, rfl, ?_⟩; replace HB := qb.mk (qE (by repeat (first | (with_reducible first | exact HB.out | apply qf | apply qg | apply qe) | exact HB.out)) hb); (try clear hb); (try clear hb2); (try clear hk); (try clear hi)))
  go_loopg [6, 18] k (fun kq v6 v18 w' => ∃ (x6_1 : ByteArray) (x18_1 : Int), v6 = .string x6_1 ∧ v18 = .int .i64 x18_1 ∧ qb (qW.l0 kq x6_1 l1 (l1.length : Int) x18_1 = some (r1, r2)) ∧ qb (kq ≤ k) ∧ qb (Below w.heap.size w w'))
  case atStart => exact ⟨(t125), (0), (by first | rfl | (simp; done) | (simp [*]; done)), (by first | rfl | (simp; done) | (simp [*]; done)), H', ⟨Nat.le_refl _⟩, ⟨by repeat (first | (with_reducible first | exact HB.out | apply qf | apply qg | apply qe) | exact HB.out)⟩⟩
  case round =>
   clear H'
   try clear c1
   try clear c2
   try clear p2
   try clear c4
   try clear c6
   obtain ⟨x6_1, x18_1, rfl, rfl, HA, HK1, HB⟩ := hrel
   cases gk with
   | zero => exact absurd HA.out (by simp [qW.l0])
   | succ k1 =>
    have H := HA.out
    clear HA
    simp only [qW.l0] at H
    by_cases c8 : x18_1 < (l1.length : Int)
    ·rw [if_pos c8] at H
     have c8b0 : decide (x18_1 < (l1.length : Int)) = true := decide_eq_true c8
     clear c8
     by_cases c9 : 0 ≤ x18_1
     ·rw [if_pos c9] at H
      have c9b0 : decide (0 ≤ x18_1) = true := decide_eq_true c9
      clear c9
      by_cases c10 : x18_1 < (l1.length : Int)
      ·rw [if_pos c10] at H
       have c10b0 : decide (x18_1 < (l1.length : Int)) = true := decide_eq_true c10
       clear c10
       obtain ⟨y128, hy128⟩ : ∃ y_ : List Int, y_ = (([((qc l1 x18_1).f0) % 256] : List Int)) := ⟨_, rfl⟩
       replace H : (if x6_1.size + (strOfNums y128).size ≤ 9223372036854775807 then (if ((qc l1 x18_1).f0) = 1 then ((qNb.f ((qc l1 x18_1).f1)).bind fun t131 => ((qNb.f ((qc l1 x18_1).f2)).bind fun t132 => (if t131.size + t132.size ≤ 9223372036854775807 then (if (x6_1 ++ (strOfNums y128)).size + (t131 ++ t132).size ≤ 9223372036854775807 then (qW.l0 k1 ((x6_1 ++ (strOfNums y128)) ++ (t131 ++ t132)) l1 (l1.length : Int) (wrap64 (x18_1 + 1))) else (none)) else (none)))) else ((qNb.f (((qc l1 x18_1).f3).size : Int)).bind fun t133 => (if t133.size + ((qc l1 x18_1).f3).size ≤ 9223372036854775807 then (if (x6_1 ++ (strOfNums y128)).size + (t133 ++ ((qc l1 x18_1).f3)).size ≤ 9223372036854775807 then (qW.l0 k1 ((x6_1 ++ (strOfNums y128)) ++ (t133 ++ ((qc l1 x18_1).f3))) l1 (l1.length : Int) (wrap64 (x18_1 + 1))) else (none)) else (none)))) else (none)) = some (r1, r2) := by first | (rw [hy128]; with_reducible exact H) | (have H2_ := (Option.bind_some _ _).symm.trans H; rw [hy128]; with_reducible exact H2_) | (have H2_ := (Option.bind_some _ _).symm.trans H; with_reducible exact H2_) | with_reducible exact H | (rw [hy128]; exact H) | exact H
       have Ny128 := qb.mk hy128
       clear hy128
       by_cases c11 : x6_1.size + (strOfNums y128).size ≤ 9223372036854775807
       ·rw [if_pos c11] at H
        have c11b0 := eq_true c11
        have c11b1 : decide (x6_1.size + (strOfNums y128).size ≤ 9223372036854775807) = true := decide_eq_true c11
        try have c11b2 : (9223372036854775807 < x6_1.size + (strOfNums y128).size) = False := eq_false (Nat.not_lt.2 c11)
        by_cases c12 : ((qc l1 x18_1).f0) = 1
        ·rw [if_pos c12] at H
         have c12b0 : (((qc l1 x18_1).f0) == 1) = true := beq_iff_eq.mpr c12
         have c12b1 : (((qc l1 x18_1).f0) != 1) = false := bne_eq_false_iff_eq.mpr c12
         clear c12
         replace H := Option.bind_eq_some_iff.mp H
         obtain ⟨t131, A130, H⟩ := H
         try dsimp only at H
         have A13 := qb.mk A130
         clear A130
         replace H := Option.bind_eq_some_iff.mp H
         obtain ⟨t132, A140, H⟩ := H
         try dsimp only at H
         have A14 := qb.mk A140
         clear A140
         by_cases c15 : t131.size + t132.size ≤ 9223372036854775807
         ·rw [if_pos c15] at H
          have c15b0 := eq_true c15
          have c15b1 : decide (t131.size + t132.size ≤ 9223372036854775807) = true := decide_eq_true c15
          try have c15b2 : (9223372036854775807 < t131.size + t132.size) = False := eq_false (Nat.not_lt.2 c15)
          by_cases c16 : (x6_1 ++ (strOfNums y128)).size + (t131 ++ t132).size ≤ 9223372036854775807
          ·rw [if_pos c16] at H
           have c16b0 := eq_true c16
           have c16b1 : decide ((x6_1 ++ (strOfNums y128)).size + (t131 ++ t132).size ≤ 9223372036854775807) = true := decide_eq_true c16
           try have c16b2 : (9223372036854775807 < (x6_1 ++ (strOfNums y128)).size + (t131 ++ t132).size) = False := eq_false (Nat.not_lt.2 c16)
           have c16b3 : ∀ m_ n_ : Nat, m_ = (x6_1 ++ (strOfNums y128)).size → n_ = (t131 ++ t132).size → (9223372036854775807 < m_ + n_) = False := fun m_ n_ h1_ h2_ => by rw [h1_, h2_]; exact eq_false (Nat.not_lt.2 c16)
           have H' := qb.mk H
           clear H
           have p126 : 0 ≤ (x18_1 : Int) := of_decide_eq_true (by first | (with_reducible assumption) | assumption)
           have q126 : x18_1 < (l1.length : Int) := of_decide_eq_true (by first | (with_reducible assumption) | assumption)
           obtain ⟨ad126, e126, hx126_0, hx126_1, hx126_2, hx126_3⟩ := qqb HR1.out x18_1 p126 q126
           cases e126
           replace hx126_0 := (HB.out.cell (World.block_lt_of_cell? w _ hx126_0)).trans hx126_0
           replace hx126_1 := (HB.out.cell (World.block_lt_of_cell? w _ hx126_1)).trans hx126_1
           replace hx126_2 := (HB.out.cell (World.block_lt_of_cell? w _ hx126_2)).trans hx126_2
           replace hx126_3 := (HB.out.cell (World.block_lt_of_cell? w _ hx126_3)).trans hx126_3
           replace p126 := eq_true p126
           replace q126 := eq_true q126
           try go_wp2_with (first | ((with_reducible refine qcb (N := 8) rfl ?_); refine qpb ?hg (N := 8) ?hd (cs := #[.int .i64 0, .int .i64 0, .int .i64 0, .string (⟨#[]⟩ : ByteArray)]) (t := 43) ?hr ?_; (case hd => rfl); (case hg => rfl); (case hr => first | (go_simp; done) | (go_simp; rfl)); intro gb127 hg w17 hbox hb; have BK127 := qb.mk (hbox); have GW127 := qb.mk ((by rw [hg]; exact (qG (by repeat (first | (with_reducible first | exact HB.out | apply qf | apply qg | apply qe) | exact HB.out))) : w.heap.size ≤ gb127)); have GE127 := qb.mk ((by rw [hg]; exact (qG (by repeat (first | (with_reducible first | exact HB.out | apply qf | apply qg | apply qe) | exact HB.out))) : w.heap.size ≤ gb127)); replace HB := qb.mk (qE (by repeat (first | (with_reducible first | exact HB.out | apply qf | apply qg | apply qe) | exact HB.out)) hb); clear hb hbox hg; have hcz18_0 : w17.cell? ⟨gb127, 0, none⟩ = some (.int .i64 0) := (ql BK127.out 0).trans rfl; have hcz18_1 : w17.cell? ⟨gb127, 1, none⟩ = some (.int .i64 0) := (ql BK127.out 1).trans rfl; have hcz18_2 : w17.cell? ⟨gb127, 2, none⟩ = some (.int .i64 0) := (ql BK127.out 2).trans rfl; have hcz18_3 : w17.cell? ⟨gb127, 3, none⟩ = some (.string (⟨#[]⟩ : ByteArray)) := (ql BK127.out 3).trans rfl; have hfz18_0 := qp BK127.out 0; have hfz18_1 := qp BK127.out 1; have hfz18_2 := qp BK127.out 2; have hfz18_3 := qp BK127.out 3) | ((with_reducible refine qcb (N := 26) rfl ?_); refine Kd.R_lit (Kd.int .u8) _ 5 ?hg (N := 26) ?hd (xs := ([((qc l1 x18_1).f0) % 256] : List Int)) (inner := [.int .u8 (((qc l1 x18_1).f0) % 256)]) (ok := fun _ => True) (okp := fun _ => True) ?hr ?hp (fun _ hk => hk) trivial (Below.refl _ _) (Nat.le_refl _) (by simp) ?_; (case hd => rfl); (case hg => rfl); (case hr => first | (go_simp; done) | (go_simp; rfl)); (case hp => exact (Reps.one (show Kd.M (Kd.int .u8) _ _ _ (((qc l1 x18_1).f0) % 256) [.int .u8 (((qc l1 x18_1).f0) % 256)] from rfl) (Reps.none _ _))); intro v129 w19 ho20 hb hg_ hnew_; clear hg_ hnew_; (first | rw [← Ny128.out] at ho20 | (simp only [Int.reduceToNat] at ho20; rw [← Ny128.out] at ho20)); have HO130 := qb.mk (Kd.qU ho20 (qG (by repeat (first | (with_reducible first | exact HB.out | apply qf | apply qg | apply qe | refine qk ?_ GE127.out) | exact HB.out)))); replace BK127 := qb.mk (qIb (g := gb127) (o := .cells #[.int .i64 ((qc l1 x18_1).f0), .int .i64 ((qc l1 x18_1).f1), .int .i64 ((qc l1 x18_1).f2), .string ((qc l1 x18_1).f3)] 43 (0, 0)) (by (with_reducible repeat (first | refine qB ?_ _ | refine qx ?_ | refine qC ?_ _)); refine qL (cs := #[.int .i64 ((qc l1 x18_1).f0), .int .i64 ((qc l1 x18_1).f1), .int .i64 ((qc l1 x18_1).f2), .string (⟨#[]⟩ : ByteArray)]) ?_ 3 _ rfl; (with_reducible repeat (first | refine qB ?_ _ | refine qx ?_ | refine qC ?_ _)); refine qL (cs := #[.int .i64 ((qc l1 x18_1).f0), .int .i64 ((qc l1 x18_1).f1), .int .i64 0, .string (⟨#[]⟩ : ByteArray)]) ?_ 2 _ rfl; (with_reducible repeat (first | refine qB ?_ _ | refine qx ?_ | refine qC ?_ _)); refine qL (cs := #[.int .i64 ((qc l1 x18_1).f0), .int .i64 0, .int .i64 0, .string (⟨#[]⟩ : ByteArray)]) ?_ 1 _ rfl; (with_reducible repeat (first | refine qB ?_ _ | refine qx ?_ | refine qC ?_ _)); refine qL (cs := #[.int .i64 0, .int .i64 0, .int .i64 0, .string (⟨#[]⟩ : ByteArray)]) ?_ 0 _ rfl; (with_reducible repeat (first | refine qB ?_ _ | refine qx ?_ | refine qC ?_ _)); exact BK127.out) hb); replace HB := qb.mk (qE (by repeat (first | (with_reducible first | exact HB.out | apply qf | apply qg | apply qe | refine qk ?_ GE127.out) | exact HB.out)) hb); clear hb ho20; have hcv21 := qRb (P := Try.prog) Try.underlying38 Try.underlying5 Try.underlying9 (Kd.qQb HO130.out); have hcz22_0 : w19.cell? ⟨gb127, 0, none⟩ = some (.int .i64 ((qc l1 x18_1).f0)) := (ql BK127.out 0).trans rfl; have hcz22_1 : w19.cell? ⟨gb127, 1, none⟩ = some (.int .i64 ((qc l1 x18_1).f1)) := (ql BK127.out 1).trans rfl; have hcz22_2 : w19.cell? ⟨gb127, 2, none⟩ = some (.int .i64 ((qc l1 x18_1).f2)) := (ql BK127.out 2).trans rfl; have hcz22_3 : w19.cell? ⟨gb127, 3, none⟩ = some (.string ((qc l1 x18_1).f3)) := (ql BK127.out 3).trans rfl; have hfz22_0 := qp BK127.out 0; have hfz22_1 := qp BK127.out 1; have hfz22_2 := qp BK127.out 2; have hfz22_3 := qp BK127.out 3))
           replace HO130 := qb.mk (Kd.qm HO130.out)
           replace BK127 := qb.mk (qx BK127.out)
           replace HB := qb.mk (qe HB.out)
           refine qAb (n := 10) (S := fun w' => w'.cell? ⟨gb127, 0, none⟩ = some (.int .i64 ((qc l1 x18_1).f0)) ∧ w'.cell? ⟨gb127, 1, none⟩ = some (.int .i64 ((qc l1 x18_1).f1)) ∧ w'.cell? ⟨gb127, 2, none⟩ = some (.int .i64 ((qc l1 x18_1).f2)) ∧ w'.cell? ⟨gb127, 3, none⟩ = some (.string ((qc l1 x18_1).f3))) (ds := []) (Extra.b [0, 10]) (by kernel_rfl) rfl rfl ⟨(ql BK127.out 0).trans rfl, (ql BK127.out 1).trans rfl, (ql BK127.out 2).trans rfl, (ql BK127.out 3).trans rfl⟩ (fun hHeld => ?_); refine qyb qW.tab9 qW.bits9 (fun HT_ HW_ => ?_)
           generalize w19.drew = w23 at HO130 BK127 HB hHeld ⊢
           refine pure_ (i := 0) (N := some 32) (v := ?_) (a' := ?_) (Extra.b [1, 9]) rfl rfl (qw HT_.out (by kernel_rfl)) (fun _ _ _ h => h) (Or.inl ⟨by rfl, ?_⟩) ?_ ?_
           rotate_left
           ·intro w'
            go_simp
            with_reducible rfl
           rotate_left
           ·simp only [Act.put, List.setIfInBounds_toArray, List.set_cons_zero, List.set_cons_succ, i64_w, i32_w]
            rfl
           refine pure_ (i := 1) (N := some 33) (v := ?_) (a' := ?_) (Extra.b [2, 8]) rfl rfl (qw HT_.out (by kernel_rfl)) (fun _ _ _ h => h) (Or.inl ⟨by rfl, ?_⟩) ?_ ?_
           rotate_left
           ·intro w'
            go_simp
            with_reducible rfl
           rotate_left
           ·simp only [Act.put, List.setIfInBounds_toArray, List.set_cons_zero, List.set_cons_succ, i64_w, i32_w]
            rfl
           refine pure_ (i := 4) (N := some 36) (v := ?_) (a' := ?_) (Extra.b [2, 2, 1, 5]) rfl rfl (qw HT_.out (by kernel_rfl)) (fun _ _ _ h => h) (Or.inl ⟨by rfl, ?_⟩) ?_ ?_
           rotate_left
           ·intro w'
            go_simp
            with_reducible rfl
           rotate_left
           ·simp only [Act.put, List.setIfInBounds_toArray, List.set_cons_zero, List.set_cons_succ, i64_w, i32_w]
            rfl
           refine take_ (i := 2) (N := some 34) (v := ?_) (a' := ?_) (Extra.b [3, 1, 1, 5]) rfl rfl (qnb HT_.out HW_.out (by kernel_rfl)) (fun _ _ _ h => h) (Or.inl ⟨by rfl, ?_⟩) hHeld ?_ ?_
           rotate_left
           ·rintro w' ⟨s0, s1, s2, s3⟩
            go_simp
            with_reducible rfl
           rotate_left
           ·simp only [Act.put, List.setIfInBounds_toArray, List.set_cons_zero, List.set_cons_succ, i64_w, i32_w]
            rfl
           refine take_ (i := 5) (N := some 37) (v := ?_) (a' := ?_) (Extra.b [3, 1, 2, 4]) rfl rfl (qnb HT_.out HW_.out (by kernel_rfl)) (fun _ _ _ h => h) (Or.inl ⟨by rfl, ?_⟩) hHeld ?_ ?_
           rotate_left
           ·rintro w' ⟨s0, s1, s2, s3⟩
            go_simp
            with_reducible rfl
           rotate_left
           ·simp only [Act.put, List.setIfInBounds_toArray, List.set_cons_zero, List.set_cons_succ, i64_w, i32_w]
            rfl
           refine one_ (i := 3) (N := some 35) (Extra.b [6, 4]) rfl rfl (qEb HT_.out (by kernel_rfl)) (by decide) (fun K hK => ?_)
           refine goes_ Try.func63 (by kernel_rfl) rfl #[.int .i64 ((qc l1 x18_1).f1)] (by rfl) rfl rfl (by (try simp only [List.map_toArray, List.map_cons, List.map_nil]); first | done | rfl | (simp only [List.length_drop, List.length_take]; rfl)) ?_
           with_reducible refine (qNb.calls ((qc l1 x18_1).f1) t131 _ A13.out).mono ?_
           rintro e w24 ⟨rfl, hb⟩
           refine ⟨_, rfl, ?_⟩
           replace HO130 := qb.mk (Kd.qX (by (with_reducible repeat (first | apply Kd.qo | apply Kd.qn | apply Kd.qm)); exact HO130.out) hb)
           replace BK127 := qb.mk (qIb (g := gb127) (o := .cells #[.int .i64 ((qc l1 x18_1).f0), .int .i64 ((qc l1 x18_1).f1), .int .i64 ((qc l1 x18_1).f2), .string ((qc l1 x18_1).f3)] 43 (0, 0)) (by (with_reducible repeat (first | refine qB ?_ _ | refine qx ?_ | refine qC ?_ _)); exact BK127.out) hb)
           replace HB := qb.mk (qE (by repeat (first | (with_reducible first | exact HB.out | apply qf | apply qg | apply qe | refine qk ?_ GE127.out) | exact HB.out)) hb)
           (try clear hb)
           (try clear hb2)
           (try clear hk)
           (try clear hi)
           refine hK.out _ _ ⟨(ql BK127.out 0).trans rfl, (ql BK127.out 1).trans rfl, (ql BK127.out 2).trans rfl, (ql BK127.out 3).trans rfl⟩ (fun hHeld => ?_)
           clear hK K
           refine norm_ (a' := ?_) ?_ ?_
           rotate_left
           ·show Act.put _ (some 35) _ = _
            simp only [Act.put, List.setIfInBounds_toArray, List.set_cons_zero, List.set_cons_succ, i64_w, i32_w]
            rfl
           refine one_ (i := 6) (N := some 38) (Extra.b [7, 3]) rfl rfl (qEb HT_.out (by kernel_rfl)) (by decide) (fun K hK => ?_)
           refine goes_ Try.func63 (by kernel_rfl) rfl #[.int .i64 ((qc l1 x18_1).f2)] (by rfl) rfl rfl (by (try simp only [List.map_toArray, List.map_cons, List.map_nil]); first | done | rfl | (simp only [List.length_drop, List.length_take]; rfl)) ?_
           with_reducible refine (qNb.calls ((qc l1 x18_1).f2) t132 _ A14.out).mono ?_
           rintro e w25 ⟨rfl, hb⟩
           refine ⟨_, rfl, ?_⟩
           replace HO130 := qb.mk (Kd.qX (by (with_reducible repeat (first | apply Kd.qo | apply Kd.qn | apply Kd.qm)); exact HO130.out) hb)
           replace BK127 := qb.mk (qIb (g := gb127) (o := .cells #[.int .i64 ((qc l1 x18_1).f0), .int .i64 ((qc l1 x18_1).f1), .int .i64 ((qc l1 x18_1).f2), .string ((qc l1 x18_1).f3)] 43 (0, 0)) (by (with_reducible repeat (first | refine qB ?_ _ | refine qx ?_ | refine qC ?_ _)); exact BK127.out) hb)
           replace HB := qb.mk (qE (by repeat (first | (with_reducible first | exact HB.out | apply qf | apply qg | apply qe | refine qk ?_ GE127.out) | exact HB.out)) hb)
           (try clear hb)
           (try clear hb2)
           (try clear hk)
           (try clear hi)
           refine hK.out _ _ ⟨(ql BK127.out 0).trans rfl, (ql BK127.out 1).trans rfl, (ql BK127.out 2).trans rfl, (ql BK127.out 3).trans rfl⟩ (fun hHeld => ?_)
           clear hK K
           refine norm_ (a' := ?_) ?_ ?_
           rotate_left
           ·show Act.put _ (some 38) _ = _
            simp only [Act.put, List.setIfInBounds_toArray, List.set_cons_zero, List.set_cons_succ, i64_w, i32_w]
            rfl
           refine pure_ (i := 7) (N := some 39) (v := ?_) (a' := ?_) (Extra.b [8, 2]) rfl rfl (qw HT_.out (by kernel_rfl)) (fun _ _ _ h => h) (Or.inl ⟨by rfl, ?_⟩) ?_ ?_
           rotate_left
           ·intro w'
            go_simp
            with_reducible rfl
           rotate_left
           ·simp only [Act.put, List.setIfInBounds_toArray, List.set_cons_zero, List.set_cons_succ, i64_w, i32_w]
            rfl
           refine pure_ (i := 8) (N := some 40) (v := ?_) (a' := ?_) (Extra.b [9, 1]) rfl rfl (qw HT_.out (by kernel_rfl)) (fun _ _ _ h => h) (Or.inl ⟨by rfl, ?_⟩) ?_ ?_
           rotate_left
           ·intro w'
            go_simp
            with_reducible rfl
           rotate_left
           ·simp only [Act.put, List.setIfInBounds_toArray, List.set_cons_zero, List.set_cons_succ, i64_w, i32_w]
            rfl
           refine pure_ (i := 9) (N := some 6) (v := ?_) (a' := ?_) (Extra.b [10]) rfl rfl (qw HT_.out (by kernel_rfl)) (fun _ _ _ h => h) (Or.inl ⟨by rfl, ?_⟩) ?_ ?_
           rotate_left
           ·intro w'
            go_simp
            with_reducible rfl
           rotate_left
           ·simp only [Act.put, List.setIfInBounds_toArray, List.set_cons_zero, List.set_cons_succ, i64_w, i32_w]
            rfl
           refine done_ (qzb HT_.out (by kernel_rfl)) ?_
           try go_wp2
           go_roundg k1
           case measure => have := HK1.out; omega
           case rel => exact ⟨((x6_1 ++ (strOfNums y128)) ++ (t131 ++ t132)), (wrap64 (x18_1 + 1)), (by first | rfl | (simp; done) | (simp [*]; done)), (by first | rfl | (simp; done) | (simp [*]; done)), H', ⟨by have := HK1.out; omega⟩, ⟨by repeat (first | (with_reducible first | exact HB.out | apply qf | apply qg | apply qe | refine qk ?_ GE127.out) | exact HB.out)⟩⟩
          ·rw [if_neg c16] at H
           exact absurd H (by simp)
         ·rw [if_neg c15] at H
          exact absurd H (by simp)
        ·rw [if_neg c12] at H
         have c12b0 : (((qc l1 x18_1).f0) == 1) = false := beq_eq_false_iff_ne.mpr c12
         have c12b1 : (((qc l1 x18_1).f0) != 1) = true := bne_iff_ne.mpr c12
         replace H := Option.bind_eq_some_iff.mp H
         obtain ⟨t133, A260, H⟩ := H
         try dsimp only at H
         have A26 := qb.mk A260
         clear A260
         by_cases c27 : t133.size + ((qc l1 x18_1).f3).size ≤ 9223372036854775807
         ·rw [if_pos c27] at H
          have c27b0 := eq_true c27
          have c27b1 : decide (t133.size + ((qc l1 x18_1).f3).size ≤ 9223372036854775807) = true := decide_eq_true c27
          try have c27b2 : (9223372036854775807 < t133.size + ((qc l1 x18_1).f3).size) = False := eq_false (Nat.not_lt.2 c27)
          by_cases c28 : (x6_1 ++ (strOfNums y128)).size + (t133 ++ ((qc l1 x18_1).f3)).size ≤ 9223372036854775807
          ·rw [if_pos c28] at H
           have c28b0 := eq_true c28
           have c28b1 : decide ((x6_1 ++ (strOfNums y128)).size + (t133 ++ ((qc l1 x18_1).f3)).size ≤ 9223372036854775807) = true := decide_eq_true c28
           try have c28b2 : (9223372036854775807 < (x6_1 ++ (strOfNums y128)).size + (t133 ++ ((qc l1 x18_1).f3)).size) = False := eq_false (Nat.not_lt.2 c28)
           have c28b3 : ∀ m_ n_ : Nat, m_ = (x6_1 ++ (strOfNums y128)).size → n_ = (t133 ++ ((qc l1 x18_1).f3)).size → (9223372036854775807 < m_ + n_) = False := fun m_ n_ h1_ h2_ => by rw [h1_, h2_]; exact eq_false (Nat.not_lt.2 c28)
           have H' := qb.mk H
           clear H
           have p126 : 0 ≤ (x18_1 : Int) := of_decide_eq_true (by first | (with_reducible assumption) | assumption)
           have q126 : x18_1 < (l1.length : Int) := of_decide_eq_true (by first | (with_reducible assumption) | assumption)
           obtain ⟨ad126, e126, hx126_0, hx126_1, hx126_2, hx126_3⟩ := qqb HR1.out x18_1 p126 q126
           cases e126
           replace hx126_0 := (HB.out.cell (World.block_lt_of_cell? w _ hx126_0)).trans hx126_0
           replace hx126_1 := (HB.out.cell (World.block_lt_of_cell? w _ hx126_1)).trans hx126_1
           replace hx126_2 := (HB.out.cell (World.block_lt_of_cell? w _ hx126_2)).trans hx126_2
           replace hx126_3 := (HB.out.cell (World.block_lt_of_cell? w _ hx126_3)).trans hx126_3
           replace p126 := eq_true p126
           replace q126 := eq_true q126
           try go_wp2_with (first | ((with_reducible refine qcb (N := 8) rfl ?_); refine qpb ?hg (N := 8) ?hd (cs := #[.int .i64 0, .int .i64 0, .int .i64 0, .string (⟨#[]⟩ : ByteArray)]) (t := 43) ?hr ?_; (case hd => rfl); (case hg => rfl); (case hr => first | (go_simp; done) | (go_simp; rfl)); intro gb127 hg w29 hbox hb; have BK127 := qb.mk (hbox); have GW127 := qb.mk ((by rw [hg]; exact (qG (by repeat (first | (with_reducible first | exact HB.out | apply qf | apply qg | apply qe) | exact HB.out))) : w.heap.size ≤ gb127)); have GE127 := qb.mk ((by rw [hg]; exact (qG (by repeat (first | (with_reducible first | exact HB.out | apply qf | apply qg | apply qe) | exact HB.out))) : w.heap.size ≤ gb127)); replace HB := qb.mk (qE (by repeat (first | (with_reducible first | exact HB.out | apply qf | apply qg | apply qe) | exact HB.out)) hb); clear hb hbox hg; have hcz30_0 : w29.cell? ⟨gb127, 0, none⟩ = some (.int .i64 0) := (ql BK127.out 0).trans rfl; have hcz30_1 : w29.cell? ⟨gb127, 1, none⟩ = some (.int .i64 0) := (ql BK127.out 1).trans rfl; have hcz30_2 : w29.cell? ⟨gb127, 2, none⟩ = some (.int .i64 0) := (ql BK127.out 2).trans rfl; have hcz30_3 : w29.cell? ⟨gb127, 3, none⟩ = some (.string (⟨#[]⟩ : ByteArray)) := (ql BK127.out 3).trans rfl; have hfz30_0 := qp BK127.out 0; have hfz30_1 := qp BK127.out 1; have hfz30_2 := qp BK127.out 2; have hfz30_3 := qp BK127.out 3) | ((with_reducible refine qcb (N := 26) rfl ?_); refine Kd.R_lit (Kd.int .u8) _ 5 ?hg (N := 26) ?hd (xs := ([((qc l1 x18_1).f0) % 256] : List Int)) (inner := [.int .u8 (((qc l1 x18_1).f0) % 256)]) (ok := fun _ => True) (okp := fun _ => True) ?hr ?hp (fun _ hk => hk) trivial (Below.refl _ _) (Nat.le_refl _) (by simp) ?_; (case hd => rfl); (case hg => rfl); (case hr => first | (go_simp; done) | (go_simp; rfl)); (case hp => exact (Reps.one (show Kd.M (Kd.int .u8) _ _ _ (((qc l1 x18_1).f0) % 256) [.int .u8 (((qc l1 x18_1).f0) % 256)] from rfl) (Reps.none _ _))); intro v129 w31 ho32 hb hg_ hnew_; clear hg_ hnew_; (first | rw [← Ny128.out] at ho32 | (simp only [Int.reduceToNat] at ho32; rw [← Ny128.out] at ho32)); have HO130 := qb.mk (Kd.qU ho32 (qG (by repeat (first | (with_reducible first | exact HB.out | apply qf | apply qg | apply qe | refine qk ?_ GE127.out) | exact HB.out)))); replace BK127 := qb.mk (qIb (g := gb127) (o := .cells #[.int .i64 ((qc l1 x18_1).f0), .int .i64 ((qc l1 x18_1).f1), .int .i64 ((qc l1 x18_1).f2), .string ((qc l1 x18_1).f3)] 43 (0, 0)) (by (with_reducible repeat (first | refine qB ?_ _ | refine qx ?_ | refine qC ?_ _)); refine qL (cs := #[.int .i64 ((qc l1 x18_1).f0), .int .i64 ((qc l1 x18_1).f1), .int .i64 ((qc l1 x18_1).f2), .string (⟨#[]⟩ : ByteArray)]) ?_ 3 _ rfl; (with_reducible repeat (first | refine qB ?_ _ | refine qx ?_ | refine qC ?_ _)); refine qL (cs := #[.int .i64 ((qc l1 x18_1).f0), .int .i64 ((qc l1 x18_1).f1), .int .i64 0, .string (⟨#[]⟩ : ByteArray)]) ?_ 2 _ rfl; (with_reducible repeat (first | refine qB ?_ _ | refine qx ?_ | refine qC ?_ _)); refine qL (cs := #[.int .i64 ((qc l1 x18_1).f0), .int .i64 0, .int .i64 0, .string (⟨#[]⟩ : ByteArray)]) ?_ 1 _ rfl; (with_reducible repeat (first | refine qB ?_ _ | refine qx ?_ | refine qC ?_ _)); refine qL (cs := #[.int .i64 0, .int .i64 0, .int .i64 0, .string (⟨#[]⟩ : ByteArray)]) ?_ 0 _ rfl; (with_reducible repeat (first | refine qB ?_ _ | refine qx ?_ | refine qC ?_ _)); exact BK127.out) hb); replace HB := qb.mk (qE (by repeat (first | (with_reducible first | exact HB.out | apply qf | apply qg | apply qe | refine qk ?_ GE127.out) | exact HB.out)) hb); clear hb ho32; have hcv33 := qRb (P := Try.prog) Try.underlying38 Try.underlying5 Try.underlying9 (Kd.qQb HO130.out); have hcz34_0 : w31.cell? ⟨gb127, 0, none⟩ = some (.int .i64 ((qc l1 x18_1).f0)) := (ql BK127.out 0).trans rfl; have hcz34_1 : w31.cell? ⟨gb127, 1, none⟩ = some (.int .i64 ((qc l1 x18_1).f1)) := (ql BK127.out 1).trans rfl; have hcz34_2 : w31.cell? ⟨gb127, 2, none⟩ = some (.int .i64 ((qc l1 x18_1).f2)) := (ql BK127.out 2).trans rfl; have hcz34_3 : w31.cell? ⟨gb127, 3, none⟩ = some (.string ((qc l1 x18_1).f3)) := (ql BK127.out 3).trans rfl; have hfz34_0 := qp BK127.out 0; have hfz34_1 := qp BK127.out 1; have hfz34_2 := qp BK127.out 2; have hfz34_3 := qp BK127.out 3))
           replace HO130 := qb.mk (Kd.qm HO130.out)
           replace BK127 := qb.mk (qx BK127.out)
           replace HB := qb.mk (qe HB.out)
           refine qAb (n := 10) (S := fun w' => w'.cell? ⟨gb127, 0, none⟩ = some (.int .i64 ((qc l1 x18_1).f0)) ∧ w'.cell? ⟨gb127, 1, none⟩ = some (.int .i64 ((qc l1 x18_1).f1)) ∧ w'.cell? ⟨gb127, 2, none⟩ = some (.int .i64 ((qc l1 x18_1).f2)) ∧ w'.cell? ⟨gb127, 3, none⟩ = some (.string ((qc l1 x18_1).f3))) (ds := []) (Extra.b [0, 10]) (by kernel_rfl) rfl rfl ⟨(ql BK127.out 0).trans rfl, (ql BK127.out 1).trans rfl, (ql BK127.out 2).trans rfl, (ql BK127.out 3).trans rfl⟩ (fun hHeld => ?_); refine qyb qW.tab10 qW.bits10 (fun HT_ HW_ => ?_)
           generalize w31.drew = w35 at HO130 BK127 HB hHeld ⊢
           refine pure_ (i := 0) (N := some 41) (v := ?_) (a' := ?_) (Extra.b [1, 9]) rfl rfl (qw HT_.out (by kernel_rfl)) (fun _ _ _ h => h) (Or.inl ⟨by rfl, ?_⟩) ?_ ?_
           rotate_left
           ·intro w'
            go_simp
            with_reducible rfl
           rotate_left
           ·simp only [Act.put, List.setIfInBounds_toArray, List.set_cons_zero, List.set_cons_succ, i64_w, i32_w]
            rfl
           refine pure_ (i := 1) (N := some 42) (v := ?_) (a' := ?_) (Extra.b [2, 8]) rfl rfl (qw HT_.out (by kernel_rfl)) (fun _ _ _ h => h) (Or.inl ⟨by rfl, ?_⟩) ?_ ?_
           rotate_left
           ·intro w'
            go_simp
            with_reducible rfl
           rotate_left
           ·simp only [Act.put, List.setIfInBounds_toArray, List.set_cons_zero, List.set_cons_succ, i64_w, i32_w]
            rfl
           refine pure_ (i := 5) (N := some 46) (v := ?_) (a' := ?_) (Extra.b [2, 3, 1, 4]) rfl rfl (qw HT_.out (by kernel_rfl)) (fun _ _ _ h => h) (Or.inl ⟨by rfl, ?_⟩) ?_ ?_
           rotate_left
           ·intro w'
            go_simp
            with_reducible rfl
           rotate_left
           ·simp only [Act.put, List.setIfInBounds_toArray, List.set_cons_zero, List.set_cons_succ, i64_w, i32_w]
            rfl
           refine take_ (i := 2) (N := some 43) (v := ?_) (a' := ?_) (Extra.b [3, 2, 1, 4]) rfl rfl (qnb HT_.out HW_.out (by kernel_rfl)) (fun _ _ _ h => h) (Or.inl ⟨by rfl, ?_⟩) hHeld ?_ ?_
           rotate_left
           ·rintro w' ⟨s0, s1, s2, s3⟩
            go_simp
            with_reducible rfl
           rotate_left
           ·simp only [Act.put, List.setIfInBounds_toArray, List.set_cons_zero, List.set_cons_succ, i64_w, i32_w]
            rfl
           refine pure_ (i := 3) (N := some 44) (v := ?_) (a' := ?_) (Extra.b [4, 1, 1, 4]) rfl rfl (qw HT_.out (by kernel_rfl)) (fun _ _ _ h => h) (Or.inl ⟨by rfl, ?_⟩) ?_ ?_
           rotate_left
           ·intro w'
            go_simp
            with_reducible rfl
           rotate_left
           ·simp only [Act.put, List.setIfInBounds_toArray, List.set_cons_zero, List.set_cons_succ, i64_w, i32_w]
            rfl
           refine take_ (i := 6) (N := some 47) (v := ?_) (a' := ?_) (Extra.b [4, 1, 2, 3]) rfl rfl (qnb HT_.out HW_.out (by kernel_rfl)) (fun _ _ _ h => h) (Or.inl ⟨by rfl, ?_⟩) hHeld ?_ ?_
           rotate_left
           ·rintro w' ⟨s0, s1, s2, s3⟩
            go_simp
            with_reducible rfl
           rotate_left
           ·simp only [Act.put, List.setIfInBounds_toArray, List.set_cons_zero, List.set_cons_succ, i64_w, i32_w]
            rfl
           refine one_ (i := 4) (N := some 45) (Extra.b [7, 3]) rfl rfl (qEb HT_.out (by kernel_rfl)) (by decide) (fun K hK => ?_)
           refine goes_ Try.func63 (by kernel_rfl) rfl #[.int .i64 (((qc l1 x18_1).f3).size : Int)] (by rfl) rfl rfl (by (try simp only [List.map_toArray, List.map_cons, List.map_nil]); first | done | rfl | (simp only [List.length_drop, List.length_take]; rfl)) ?_
           with_reducible refine (qNb.calls (((qc l1 x18_1).f3).size : Int) t133 _ A26.out).mono ?_
           rintro e w36 ⟨rfl, hb⟩
           refine ⟨_, rfl, ?_⟩
           replace HO130 := qb.mk (Kd.qX (by (with_reducible repeat (first | apply Kd.qo | apply Kd.qn | apply Kd.qm)); exact HO130.out) hb)
           replace BK127 := qb.mk (qIb (g := gb127) (o := .cells #[.int .i64 ((qc l1 x18_1).f0), .int .i64 ((qc l1 x18_1).f1), .int .i64 ((qc l1 x18_1).f2), .string ((qc l1 x18_1).f3)] 43 (0, 0)) (by (with_reducible repeat (first | refine qB ?_ _ | refine qx ?_ | refine qC ?_ _)); exact BK127.out) hb)
           replace HB := qb.mk (qE (by repeat (first | (with_reducible first | exact HB.out | apply qf | apply qg | apply qe | refine qk ?_ GE127.out) | exact HB.out)) hb)
           (try clear hb)
           (try clear hb2)
           (try clear hk)
           (try clear hi)
           refine hK.out _ _ ⟨(ql BK127.out 0).trans rfl, (ql BK127.out 1).trans rfl, (ql BK127.out 2).trans rfl, (ql BK127.out 3).trans rfl⟩ (fun hHeld => ?_)
           clear hK K
           refine norm_ (a' := ?_) ?_ ?_
           rotate_left
           ·show Act.put _ (some 45) _ = _
            simp only [Act.put, List.setIfInBounds_toArray, List.set_cons_zero, List.set_cons_succ, i64_w, i32_w]
            rfl
           refine pure_ (i := 7) (N := some 48) (v := ?_) (a' := ?_) (Extra.b [8, 2]) rfl rfl (qw HT_.out (by kernel_rfl)) (fun _ _ _ h => h) (Or.inl ⟨by rfl, ?_⟩) ?_ ?_
           rotate_left
           ·intro w'
            go_simp
            with_reducible rfl
           rotate_left
           ·simp only [Act.put, List.setIfInBounds_toArray, List.set_cons_zero, List.set_cons_succ, i64_w, i32_w]
            rfl
           refine pure_ (i := 8) (N := some 49) (v := ?_) (a' := ?_) (Extra.b [9, 1]) rfl rfl (qw HT_.out (by kernel_rfl)) (fun _ _ _ h => h) (Or.inl ⟨by rfl, ?_⟩) ?_ ?_
           rotate_left
           ·intro w'
            go_simp
            with_reducible rfl
           rotate_left
           ·simp only [Act.put, List.setIfInBounds_toArray, List.set_cons_zero, List.set_cons_succ, i64_w, i32_w]
            rfl
           refine pure_ (i := 9) (N := some 6) (v := ?_) (a' := ?_) (Extra.b [10]) rfl rfl (qw HT_.out (by kernel_rfl)) (fun _ _ _ h => h) (Or.inl ⟨by rfl, ?_⟩) ?_ ?_
           rotate_left
           ·intro w'
            go_simp
            with_reducible rfl
           rotate_left
           ·simp only [Act.put, List.setIfInBounds_toArray, List.set_cons_zero, List.set_cons_succ, i64_w, i32_w]
            rfl
           refine done_ (qzb HT_.out (by kernel_rfl)) ?_
           try go_wp2
           go_roundg k1
           case measure => have := HK1.out; omega
           case rel => exact ⟨((x6_1 ++ (strOfNums y128)) ++ (t133 ++ ((qc l1 x18_1).f3))), (wrap64 (x18_1 + 1)), (by first | rfl | (simp; done) | (simp [*]; done)), (by first | rfl | (simp; done) | (simp [*]; done)), H', ⟨by have := HK1.out; omega⟩, ⟨by repeat (first | (with_reducible first | exact HB.out | apply qf | apply qg | apply qe | refine qk ?_ GE127.out) | exact HB.out)⟩⟩
          ·rw [if_neg c28] at H
           exact absurd H (by simp)
         ·rw [if_neg c27] at H
          exact absurd H (by simp)
       ·rw [if_neg c11] at H
        exact absurd H (by simp)
      ·rw [if_neg c10] at H
       exact absurd H (by simp)
     ·rw [if_neg c9] at H
      exact absurd H (by simp)
    ·rw [if_neg c8] at H
     have c8b0 : decide (x18_1 < (l1.length : Int)) = false := decide_eq_false c8
     clear c8
     simp only [Option.some.injEq, Prod.mk.injEq] at H
     obtain ⟨rfl, rfl⟩ := H
     go_wp2
     go_ret2
     exact ⟨by first | rfl | (simp [qv, qu] <;> rfl) | (simp [*, qv, qu] <;> rfl), by repeat (first | (with_reducible first | exact HB.out | apply qf | apply qg | apply qe) | exact HB.out)⟩
 ·replace c4 := Bool.eq_false_iff.mpr c4
  subst c4
  rw [if_neg (show ¬ (false = true) by decide)] at H
  simp only [Option.some.injEq, Prod.mk.injEq] at H
  obtain ⟨rfl, rfl⟩ := H
  go_enter Try.func24, Try.ntmps24
  go_wp2_with (first | ((with_reducible refine qy (f := 60) rfl ?_); refine qz (some 11) rfl rfl Try.func60 (by kernel_rfl) rfl #[.string a0, .slice A1 l1.length c1] rfl (by (try simp only [List.map_toArray, List.map_cons, List.map_nil]); first | done | rfl | (simp only [List.length_drop, List.length_take]; rfl)) ?_; (with_reducible refine (qdb.calls k a0 _ _ l1 false _ ?side1 ?side2 A3.out).mono ?_); (case side1 => repeat (first | exact HR1.out | (with_reducible refine Kd.qN ?_ _) | (with_reducible refine Kd.qM ?_ _) | (with_reducible refine Kd.qO ?_))); (case side2 => exact HC1.out); rintro e w37 ⟨rfl, hb⟩; refine ⟨_, rfl, ?_⟩; replace HB := qb.mk (qE (by repeat (first | (with_reducible first | exact HB.out | apply qf | apply qg | apply qe) | exact HB.out)) hb); (try clear hb); (try clear hb2); (try clear hk); (try clear hi)))
  go_ret2
  exact ⟨by first | rfl | (simp [qv, qu] <;> rfl) | (simp [*, qv, qu] <;> rfl), by repeat (first | (with_reducible first | exact HB.out | apply qf | apply qg | apply qe) | exact HB.out)⟩

/-! ### qPb: function 64 -/
def qPb.f (a0 : Int) : Option (ByteArray) := some (strOfNums (([(a0 / 256) % 256, (a0) % 256] : List Int)))
set_option maxHeartbeats 8000000 in
set_option maxRecDepth 100000 in
theorem qPb.calls (a0 : Int) (r : ByteArray) (w : World) (h : qPb.f a0 = some r) :
  Calls Try.prog 64 #[.int .i64 a0] w fun e w' => e = .returned (.string r) ∧ Below w.heap.size w w' := by
 have HB := qb.mk (Below.refl w.heap.size w)
 have H : (some (strOfNums (([(a0 / 256) % 256, (a0) % 256] : List Int)))) = some r := h
 clear h
 obtain ⟨y134, hy134⟩ : ∃ y_ : List Int, y_ = (([(a0 / 256) % 256, (a0) % 256] : List Int)) := ⟨_, rfl⟩
 replace H : (some (strOfNums y134)) = some r := by first | (rw [hy134]; with_reducible exact H) | (have H2_ := (Option.bind_some _ _).symm.trans H; rw [hy134]; with_reducible exact H2_) | (have H2_ := (Option.bind_some _ _).symm.trans H; with_reducible exact H2_) | with_reducible exact H | (rw [hy134]; exact H) | exact H
 have Ny134 := qb.mk hy134
 clear hy134
 obtain rfl := Option.some.inj H
 go_enter Try.func64, Try.ntmps64
 go_wp2_with (first | ((with_reducible refine qcb (N := 8) rfl ?_); refine Kd.R_lit (Kd.int .u8) _ 5 ?hg (N := 8) ?hd (xs := ([(a0 / 256) % 256, (a0) % 256] : List Int)) (inner := [.int .u8 ((a0 / 256) % 256), .int .u8 ((a0) % 256)]) (ok := fun _ => True) (okp := fun _ => True) ?hr ?hp (fun _ hk => hk) trivial (Below.refl _ _) (Nat.le_refl _) (by simp) ?_; (case hd => rfl); (case hg => rfl); (case hr => first | (go_simp; done) | (go_simp; rfl)); (case hp => exact (Reps.one (show Kd.M (Kd.int .u8) _ _ _ ((a0 / 256) % 256) [.int .u8 ((a0 / 256) % 256)] from rfl) (Reps.one (show Kd.M (Kd.int .u8) _ _ _ ((a0) % 256) [.int .u8 ((a0) % 256)] from rfl) (Reps.none _ _)))); intro v135 w2 ho3 hb hg_ hnew_; clear hg_ hnew_; (first | rw [← Ny134.out] at ho3 | (simp only [Int.reduceToNat] at ho3; rw [← Ny134.out] at ho3)); have HO136 := qb.mk (Kd.qU ho3 (qG (by repeat (first | (with_reducible first | exact HB.out | apply qf | apply qg | apply qe) | exact HB.out)))); replace HB := qb.mk (qE (by repeat (first | (with_reducible first | exact HB.out | apply qf | apply qg | apply qe) | exact HB.out)) hb); clear hb ho3; have hcv4 := qRb (P := Try.prog) Try.underlying38 Try.underlying5 Try.underlying9 (Kd.qQb HO136.out)))
 go_ret
 exact ⟨by first | rfl | (simp [qv, qu] <;> rfl) | (simp [*, qv, qu] <;> rfl), by repeat (first | (with_reducible first | exact HB.out | apply qf | apply qg | apply qe) | exact HB.out)⟩

end Go.Proofs.Ytnhnlfkbngnkpaa.E
