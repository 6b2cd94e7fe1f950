-- Made by a program of this session out of the translation; no hand has turned it.
import Derived.Test.YtnhnlfkbngnkpaaE0
import Derived.Test.YtnhnlfkbngnkpaaE2
import Derived.Test.YtnhnlfkbngnkpaaE3
import Derived.Test.YtnhnlfkbngnkpaaE4
import Derived.Test.YtnhnlfkbngnkpaaE5
import Derived.Test.YtnhnlfkbngnkpaaE6
import Derived.Test.YtnhnlfkbngnkpaaE7
import Derived.Test.YtnhnlfkbngnkpaaE8
import Derived.Test.YtnhnlfkbngnkpaaE13
namespace Go.Proofs.Ytnhnlfkbngnkpaa.E
open Go.RowKit Go.Proofs.YtnhnlfkbngnkpaaW.PrintWords Go.Proofs.YtnhnlfkbngnkpaaW.PrintLast Go.Proofs.YtnhnlfkbngnkpaaW.PrintMore
attribute [local go_sem] qXb qbc qac qec qZb qdc qYb qcc   -- for this text's walks alone
set_option linter.unusedVariables false
set_option linter.unusedSimpArgs false

/-! ### qT: function 14 -/
mutual
def qT.j0 : Nat → List Int → ByteArray → List (S43) → ByteArray → Bool → Bool → Option (Bool)
 | 0, _, _, _, _, _, _ => none
 | k + 1, x1, x5, x6, x7, x8, x66 => if x66 = true then (some false) else (if x8 = true then ((qI.f k x5 x7).bind fun bt420 => (if 0 ≤ (wrap64 ((x7.size : Int) - 1)) then (if (wrap64 ((x7.size : Int) - 1)) ≤ (x7.size : Int) then ((qI.f k x5 (x7.extract 0 ((wrap64 ((x7.size : Int) - 1)) : Int).toNat)).bind fun bt425 => (if bt420.2.2 = true then (if bt420.2.1 = 0 then ((qgb.f k bt420.1 x6).bind fun t430 => (if t430 = true then (if bt425.2.2 = true then (some false) else (if bt425.2.1 = 1 then (qT.j1 k x1) else (some false))) else (some false))) else (some false)) else (some false))) else (none)) else (none))) else (qT.j1 k x1))
def qT.j1 : Nat → List Int → Option (Bool)
 | 0, _ => none
 | k + 1, x1 => (qLb.f k x1).bind fun bt431 => ((qI.f k bt431.1 bt431.2).bind fun bt433 => ((qQ.f k bt431.1 bt431.2).bind fun bt438 => (if (bt433.2.2 != bt438.2.2) = true then (qT.j2 k x1 bt431.1 bt431.2 bt433.1 bt433.2.2 true) else (if bt433.2.1 = bt438.2.1 then ((qgb.f k bt433.1 bt438.1).bind fun t443 => (qT.j2 k x1 bt431.1 bt431.2 bt433.1 bt433.2.2 (!t443))) else (qT.j2 k x1 bt431.1 bt431.2 bt433.1 bt433.2.2 true)))))
def qT.j2 : Nat → List Int → ByteArray → ByteArray → List (S43) → Bool → Bool → Option (Bool)
 | 0, _, _, _, _, _, _ => none
 | k + 1, x1, x17, x18, x19, x21, x137 => if x137 = true then (some false) else (if x21 = true then ((qY.f k x17 x19).bind fun bt444 => (if bt444.2 = true then (if bt444.1.toList = x18.toList then (qT.j3 k x1) else (some false)) else (some false))) else (qT.j3 k x1))
def qT.j3 : Nat → List Int → Option (Bool)
 | 0, _ => none
 | k + 1, x1 => (qMb.f k x1).bind fun bt446 => ((qH.f k bt446.1 bt446.2).bind fun bt450 => ((qJ.f k bt446.1 bt446.2).bind fun bt454 => (if (bt450.2 != bt454.2) = true then (qT.j4 k bt446.1 bt446.2 bt450.1 bt450.2 true) else ((qgb.f k bt450.1 bt454.1).bind fun t458 => (qT.j4 k bt446.1 bt446.2 bt450.1 bt450.2 (!t458))))))
def qT.j4 : Nat → ByteArray → List (S43) → List (S43) → Bool → Bool → Option (Bool)
 | 0, _, _, _, _, _ => none
 | k + 1, x27, x28, x29, x30, x177 => if x177 = true then (some false) else (if x30 = true then ((qrb.f k x27 x28).bind fun bt459 => ((qrb.f k x27 x29).bind fun bt461 => ((qH.f k x27 x29).bind fun bt463 => (if bt459.2 = true then (if bt461.2 = true then (if bt459.1.toList = bt461.1.toList then (if bt463.2 = true then ((qgb.f k bt463.1 x29).bind fun t467 => (if t467 = true then ((qlb.f k x27 x29).bind fun t468 => (some t468)) else (some false))) else (some false)) else (some false)) else (some false)) else (some false))))) else (some true))
end
def qT.f (k : Nat) (l0 : List Int) (l1 : List Int) : Option (Bool) := (qxc.f l0 l1).bind fun t411 => (if t411 = true then (some true) else ((qFb.f k l0).bind fun bt412 => ((qY.f k bt412.1 bt412.2).bind fun bt416 => ((qW.f k bt412.1 bt412.2).bind fun bt418 => (if (bt416.2 != bt418.2) = true then (qT.j0 k l1 bt412.1 bt412.2 bt416.1 bt416.2 true) else (qT.j0 k l1 bt412.1 bt412.2 bt416.1 bt416.2 (bt416.1.toList != bt418.1.toList)))))))
theorem qT.qjb : ∀ k, (∀ y0 y1 y2 y3 y4 y5, LeO (qT.j0 k y0 y1 y2 y3 y4 y5) (qT.j0 (k + 1) y0 y1 y2 y3 y4 y5)) ∧ (∀ y0, LeO (qT.j1 k y0) (qT.j1 (k + 1) y0)) ∧ (∀ y0 y1 y2 y3 y4 y5, LeO (qT.j2 k y0 y1 y2 y3 y4 y5) (qT.j2 (k + 1) y0 y1 y2 y3 y4 y5)) ∧ (∀ y0, LeO (qT.j3 k y0) (qT.j3 (k + 1) y0)) ∧ (∀ y0 y1 y2 y3 y4, LeO (qT.j4 k y0 y1 y2 y3 y4) (qT.j4 (k + 1) y0 y1 y2 y3 y4))
 | 0 => ⟨fun _ _ _ _ _ _ r h => by simp [qT.j0] at h, fun _ r h => by simp [qT.j1] at h, fun _ _ _ _ _ _ r h => by simp [qT.j2] at h, fun _ r h => by simp [qT.j3] at h, fun _ _ _ _ _ r h => by simp [qT.j4] at h⟩
 | k + 1 => by
  obtain ⟨ih0, ih1, ih2, ih3, ih4⟩ := qT.qjb k
  refine ⟨?_, ?_, ?_, ?_, ?_⟩
  ·intro y0 y1 y2 y3 y4 y5
   unfold qT.j0
   repeat' first
   | (with_reducible exact ih0 _ _ _ _ _ _)
   | (with_reducible exact ih1 _)
   | (with_reducible exact ih2 _ _ _ _ _ _)
   | (with_reducible exact ih3 _)
   | (with_reducible exact ih4 _ _ _ _ _)
   | (with_reducible exact qrb.mono _ _ _)
   | (with_reducible exact qlb.mono _ _ _)
   | (with_reducible exact qY.mono _ _ _)
   | (with_reducible exact qI.mono _ _ _)
   | (with_reducible exact qH.mono _ _ _)
   | (with_reducible exact qgb.mono _ _ _)
   | (with_reducible exact qFb.mono _ _)
   | (with_reducible exact qLb.mono _ _)
   | (with_reducible exact qMb.mono _ _)
   | (with_reducible exact qW.mono _ _ _)
   | (with_reducible exact qQ.mono _ _ _)
   | (with_reducible exact qJ.mono _ _ _)
   | (with_reducible exact LeO.refl _)
   | (with_reducible exact LeO.none _)
   | (with_reducible refine LeO.ite ?_ ?_)
   | (with_reducible refine LeO.bind ?_ (fun _ => ?_))
   | exact LeO.none _
   | refine LeO.ite ?_ ?_
   | refine LeO.bind ?_ (fun _ => ?_)
  ·intro y0
   unfold qT.j1
   repeat' first
   | (with_reducible exact ih0 _ _ _ _ _ _)
   | (with_reducible exact ih1 _)
   | (with_reducible exact ih2 _ _ _ _ _ _)
   | (with_reducible exact ih3 _)
   | (with_reducible exact ih4 _ _ _ _ _)
   | (with_reducible exact qrb.mono _ _ _)
   | (with_reducible exact qlb.mono _ _ _)
   | (with_reducible exact qY.mono _ _ _)
   | (with_reducible exact qI.mono _ _ _)
   | (with_reducible exact qH.mono _ _ _)
   | (with_reducible exact qgb.mono _ _ _)
   | (with_reducible exact qFb.mono _ _)
   | (with_reducible exact qLb.mono _ _)
   | (with_reducible exact qMb.mono _ _)
   | (with_reducible exact qW.mono _ _ _)
   | (with_reducible exact qQ.mono _ _ _)
   | (with_reducible exact qJ.mono _ _ _)
   | (with_reducible exact LeO.refl _)
   | (with_reducible exact LeO.none _)
   | (with_reducible refine LeO.ite ?_ ?_)
   | (with_reducible refine LeO.bind ?_ (fun _ => ?_))
   | exact LeO.none _
   | refine LeO.ite ?_ ?_
   | refine LeO.bind ?_ (fun _ => ?_)
  ·intro y0 y1 y2 y3 y4 y5
   unfold qT.j2
   repeat' first
   | (with_reducible exact ih0 _ _ _ _ _ _)
   | (with_reducible exact ih1 _)
   | (with_reducible exact ih2 _ _ _ _ _ _)
   | (with_reducible exact ih3 _)
   | (with_reducible exact ih4 _ _ _ _ _)
   | (with_reducible exact qrb.mono _ _ _)
   | (with_reducible exact qlb.mono _ _ _)
   | (with_reducible exact qY.mono _ _ _)
   | (with_reducible exact qI.mono _ _ _)
   | (with_reducible exact qH.mono _ _ _)
   | (with_reducible exact qgb.mono _ _ _)
   | (with_reducible exact qFb.mono _ _)
   | (with_reducible exact qLb.mono _ _)
   | (with_reducible exact qMb.mono _ _)
   | (with_reducible exact qW.mono _ _ _)
   | (with_reducible exact qQ.mono _ _ _)
   | (with_reducible exact qJ.mono _ _ _)
   | (with_reducible exact LeO.refl _)
   | (with_reducible exact LeO.none _)
   | (with_reducible refine LeO.ite ?_ ?_)
   | (with_reducible refine LeO.bind ?_ (fun _ => ?_))
   | exact LeO.none _
   | refine LeO.ite ?_ ?_
   | refine LeO.bind ?_ (fun _ => ?_)
  ·intro y0
   unfold qT.j3
   repeat' first
   | (with_reducible exact ih0 _ _ _ _ _ _)
   | (with_reducible exact ih1 _)
   | (with_reducible exact ih2 _ _ _ _ _ _)
   | (with_reducible exact ih3 _)
   | (with_reducible exact ih4 _ _ _ _ _)
   | (with_reducible exact qrb.mono _ _ _)
   | (with_reducible exact qlb.mono _ _ _)
   | (with_reducible exact qY.mono _ _ _)
   | (with_reducible exact qI.mono _ _ _)
   | (with_reducible exact qH.mono _ _ _)
   | (with_reducible exact qgb.mono _ _ _)
   | (with_reducible exact qFb.mono _ _)
   | (with_reducible exact qLb.mono _ _)
   | (with_reducible exact qMb.mono _ _)
   | (with_reducible exact qW.mono _ _ _)
   | (with_reducible exact qQ.mono _ _ _)
   | (with_reducible exact qJ.mono _ _ _)
   | (with_reducible exact LeO.refl _)
   | (with_reducible exact LeO.none _)
   | (with_reducible refine LeO.ite ?_ ?_)
   | (with_reducible refine LeO.bind ?_ (fun _ => ?_))
   | exact LeO.none _
   | refine LeO.ite ?_ ?_
   | refine LeO.bind ?_ (fun _ => ?_)
  ·intro y0 y1 y2 y3 y4
   unfold qT.j4
   repeat' first
   | (with_reducible exact ih0 _ _ _ _ _ _)
   | (with_reducible exact ih1 _)
   | (with_reducible exact ih2 _ _ _ _ _ _)
   | (with_reducible exact ih3 _)
   | (with_reducible exact ih4 _ _ _ _ _)
   | (with_reducible exact qrb.mono _ _ _)
   | (with_reducible exact qlb.mono _ _ _)
   | (with_reducible exact qY.mono _ _ _)
   | (with_reducible exact qI.mono _ _ _)
   | (with_reducible exact qH.mono _ _ _)
   | (with_reducible exact qgb.mono _ _ _)
   | (with_reducible exact qFb.mono _ _)
   | (with_reducible exact qLb.mono _ _)
   | (with_reducible exact qMb.mono _ _)
   | (with_reducible exact qW.mono _ _ _)
   | (with_reducible exact qQ.mono _ _ _)
   | (with_reducible exact qJ.mono _ _ _)
   | (with_reducible exact LeO.refl _)
   | (with_reducible exact LeO.none _)
   | (with_reducible refine LeO.ite ?_ ?_)
   | (with_reducible refine LeO.bind ?_ (fun _ => ?_))
   | exact LeO.none _
   | refine LeO.ite ?_ ?_
   | refine LeO.bind ?_ (fun _ => ?_)
theorem qT.mono : ∀ a0 a1 k, LeO (qT.f k a0 a1) (qT.f (k + 1) a0 a1) := by
 intro a0 a1 k
 obtain ⟨ih0, ih1, ih2, ih3, ih4⟩ := qT.qjb k
 unfold qT.f
 repeat' first
   | (with_reducible exact ih0 _ _ _ _ _ _)
   | (with_reducible exact ih1 _)
   | (with_reducible exact ih2 _ _ _ _ _ _)
   | (with_reducible exact ih3 _)
   | (with_reducible exact ih4 _ _ _ _ _)
   | (with_reducible exact qrb.mono _ _ _)
   | (with_reducible exact qlb.mono _ _ _)
   | (with_reducible exact qY.mono _ _ _)
   | (with_reducible exact qI.mono _ _ _)
   | (with_reducible exact qH.mono _ _ _)
   | (with_reducible exact qgb.mono _ _ _)
   | (with_reducible exact qFb.mono _ _)
   | (with_reducible exact qLb.mono _ _)
   | (with_reducible exact qMb.mono _ _)
   | (with_reducible exact qW.mono _ _ _)
   | (with_reducible exact qQ.mono _ _ _)
   | (with_reducible exact qJ.mono _ _ _)
   | (with_reducible exact LeO.refl _)
   | (with_reducible exact LeO.none _)
   | (with_reducible refine LeO.ite ?_ ?_)
   | (with_reducible refine LeO.bind ?_ (fun _ => ?_))
   | exact LeO.none _
   | refine LeO.ite ?_ ?_
   | refine LeO.bind ?_ (fun _ => ?_)
set_option maxHeartbeats 8000000 in
set_option maxRecDepth 100000 in
theorem qT.calls (k : Nat) (A0 : Option Addr) (c0 : Nat) (l0 : List Int) (A1 : Option Addr) (c1 : Nat) (l1 : List Int) (r : Bool) (w : World) (hr0 : Kd.C (Kd.int .u8) w A0 l0.length l0) (hc0 : l0.length ≤ c0) (hr1 : Kd.C (Kd.int .u8) w A1 l1.length l1) (hc1 : l1.length ≤ c1) (h : qT.f k l0 l1 = some r) :
  Calls Try.prog 14 #[.slice A0 l0.length c0, .slice A1 l1.length c1] w fun e w' => e = .returned (.bool r) ∧ Below w.heap.size w w' := by
 have HR0 := qb.mk hr0
 have HC0 := qb.mk hc0
 clear hr0 hc0
 have HR1 := qb.mk hr1
 have HC1 := qb.mk hc1
 clear hr1 hc1
 have HB := qb.mk (Below.refl w.heap.size w)
 have H : ((qxc.f l0 l1).bind fun t411 => (if t411 = true then (some true) else ((qFb.f k l0).bind fun bt412 => ((qY.f k bt412.1 bt412.2).bind fun bt416 => ((qW.f k bt412.1 bt412.2).bind fun bt418 => (if (bt416.2 != bt418.2) = true then (qT.j0 k l1 bt412.1 bt412.2 bt416.1 bt416.2 true) else (qT.j0 k l1 bt412.1 bt412.2 bt416.1 bt416.2 (bt416.1.toList != bt418.1.toList)))))))) = some r := h
 clear h
 replace H := Option.bind_eq_some_iff.mp H
 obtain ⟨t411, A30, H⟩ := H
 try dsimp only at H
 have A3 := qb.mk A30
 clear A30
 by_cases c4 : t411 = true
 ·subst c4
  rw [if_pos rfl] at H
  obtain rfl := Option.some.inj H
  go_enter Try.func14, Try.ntmps14
  go_wp2_with (first | ((with_reducible refine qy (f := 30) rfl ?_); refine qz (some 41) rfl rfl Try.func30 (by kernel_rfl) rfl #[.slice A0 l0.length c0, .slice A1 l1.length c1] rfl (by (try simp only [List.map_toArray, List.map_cons, List.map_nil]); first | done | rfl | (simp only [List.length_drop, List.length_take]; rfl)) ?_; (with_reducible refine (qxc.calls _ _ l0 _ _ l1 true _ ?side1 ?side2 ?side3 ?side4 A3.out).mono ?_); (case side1 => repeat (first | exact HR0.out | (with_reducible refine Kd.qN ?_ _) | (with_reducible refine Kd.qM ?_ _) | (with_reducible refine Kd.qO ?_))); (case side2 => exact HC0.out); (case side3 => repeat (first | exact HR1.out | (with_reducible refine Kd.qN ?_ _) | (with_reducible refine Kd.qM ?_ _) | (with_reducible refine Kd.qO ?_))); (case side4 => exact HC1.out); rintro e w' ⟨rfl, ⟨nd, rfl⟩⟩; refine ⟨_, rfl, ?_⟩))
  go_ret
  exact ⟨by first | rfl | (simp [qv, qu] <;> rfl) | (simp [*, qv, qu] <;> rfl), by repeat (first | (with_reducible first | exact HB.out | apply qf | apply qg | apply qe) | exact HB.out)⟩
 ·replace c4 := Bool.eq_false_iff.mpr c4
  subst c4
  rw [if_neg (show ¬ (false = true) by decide)] at H
  replace H := Option.bind_eq_some_iff.mp H
  obtain ⟨⟨t412, t413⟩, A50, H⟩ := H
  try dsimp only at H
  have A5 := qb.mk A50
  clear A50
  replace H := Option.bind_eq_some_iff.mp H
  obtain ⟨⟨t416, t417⟩, A60, H⟩ := H
  try dsimp only at H
  have A6 := qb.mk A60
  clear A60
  replace H := Option.bind_eq_some_iff.mp H
  obtain ⟨⟨t418, t419⟩, A70, H⟩ := H
  try dsimp only at H
  have A7 := qb.mk A70
  clear A70
  have HC8 := qb.mk H
  clear H
  go_enter Try.func14, Try.ntmps14
  go_upto_region 6 with (first | ((with_reducible refine qy (f := 30) rfl ?_); refine qz (some 41) rfl rfl Try.func30 (by kernel_rfl) rfl #[.slice A0 l0.length c0, .slice A1 l1.length c1] rfl (by (try simp only [List.map_toArray, List.map_cons, List.map_nil]); first | done | rfl | (simp only [List.length_drop, List.length_take]; rfl)) ?_; (with_reducible refine (qxc.calls _ _ l0 _ _ l1 false _ ?side1 ?side2 ?side3 ?side4 A3.out).mono ?_); (case side1 => repeat (first | exact HR0.out | (with_reducible refine Kd.qN ?_ _) | (with_reducible refine Kd.qM ?_ _) | (with_reducible refine Kd.qO ?_))); (case side2 => exact HC0.out); (case side3 => repeat (first | exact HR1.out | (with_reducible refine Kd.qN ?_ _) | (with_reducible refine Kd.qM ?_ _) | (with_reducible refine Kd.qO ?_))); (case side4 => exact HC1.out); rintro e w' ⟨rfl, ⟨nd, rfl⟩⟩; refine ⟨_, rfl, ?_⟩) | ((with_reducible refine qy (f := 50) rfl ?_); refine qz (some 44) rfl rfl Try.func50 (by kernel_rfl) rfl #[.slice A0 l0.length c0] rfl (by (try simp only [List.map_toArray, List.map_cons, List.map_nil]); first | done | rfl | (simp only [List.length_drop, List.length_take]; rfl)) ?_; (with_reducible refine (qFb.calls k _ _ l0 t412 t413 _ ?side1 ?side2 A5.out).mono ?_); (case side1 => repeat (first | exact HR0.out | (with_reducible refine Kd.qN ?_ _) | (with_reducible refine Kd.qM ?_ _) | (with_reducible refine Kd.qO ?_))); (case side2 => exact HC0.out); rintro e w9 ⟨v414, rfl, ho0, hb⟩; refine ⟨_, rfl, ?_⟩; have HO415 := qb.mk (Kd.qU ho0 (qG (by repeat (first | (with_reducible first | exact HB.out | apply qf | apply qg | apply qe) | exact HB.out)))); replace HB := qb.mk (qE (by repeat (first | (with_reducible first | exact HB.out | apply qf | apply qg | apply qe) | exact HB.out)) hb); (try clear hb); (try clear hb2); (try clear hk); (try clear hi); (try clear ho0); obtain ⟨Ao10, co10, eo10⟩ := Kd.qfb HO415.out; subst eo10) | ((with_reducible refine qy (f := 25) rfl ?_); refine qz (some 50) rfl rfl Try.func25 (by kernel_rfl) rfl #[.string t412, .slice Ao10 t413.length co10] rfl (by (try simp only [List.map_toArray, List.map_cons, List.map_nil]); first | done | rfl | (simp only [List.length_drop, List.length_take]; rfl)) ?_; (with_reducible refine (qY.calls k t412 _ _ t413 t416 t417 _ ?side1 ?side2 A6.out).mono ?_); (case side1 => repeat (first | exact (Kd.qD HO415.out).2.2 | (with_reducible refine Kd.qN ?_ _) | (with_reducible refine Kd.qM ?_ _) | (with_reducible refine Kd.qO ?_))); (case side2 => exact (Kd.qD HO415.out).2.1); rintro e w11 ⟨rfl, hb⟩; refine ⟨_, rfl, ?_⟩; replace HO415 := qb.mk (Kd.qX (by (with_reducible repeat (first | apply Kd.qo | apply Kd.qn | apply Kd.qm)); exact HO415.out) hb); replace HB := qb.mk (qE (by repeat (first | (with_reducible first | exact HB.out | apply qf | apply qg | apply qe) | exact HB.out)) hb); (try clear hb); (try clear hb2); (try clear hk); (try clear hi)) | ((with_reducible refine qy (f := 24) rfl ?_); refine qz (some 56) rfl rfl Try.func24 (by kernel_rfl) rfl #[.string t412, .slice Ao10 t413.length co10] rfl (by (try simp only [List.map_toArray, List.map_cons, List.map_nil]); first | done | rfl | (simp only [List.length_drop, List.length_take]; rfl)) ?_; (with_reducible refine (qW.calls k t412 _ _ t413 t418 t419 _ ?side1 ?side2 A7.out).mono ?_); (case side1 => repeat (first | exact (Kd.qD HO415.out).2.2 | (with_reducible refine Kd.qN ?_ _) | (with_reducible refine Kd.qM ?_ _) | (with_reducible refine Kd.qO ?_))); (case side2 => exact (Kd.qD HO415.out).2.1); rintro e w12 ⟨rfl, hb⟩; refine ⟨_, rfl, ?_⟩; replace HO415 := qb.mk (Kd.qX (by (with_reducible repeat (first | apply Kd.qo | apply Kd.qn | apply Kd.qm)); exact HO415.out) hb); replace HB := qb.mk (qE (by repeat (first | (with_reducible first | exact HB.out | apply qf | apply qg | apply qe) | exact HB.out)) hb); (try clear hb); (try clear hb2); (try clear hk); (try clear hi)))
  (try simp only [Act.put, List.setIfInBounds_toArray, List.set_cons_zero, List.set_cons_succ])
  go_cut [66] (fun v66 wc => ∃ (kq : Nat) (x66_7 : Bool), v66 = .bool x66_7 ∧ qb (qT.j0 kq l1 t412 t413 t416 t417 x66_7 = some r) ∧ qb (kq ≤ k) ∧ qb (Kd.R k43 43 wc w.heap.size (fun _ => True) (.slice Ao10 t413.length co10) t413) ∧ qb (Below w.heap.size w wc))
  case first => as_aux_lemma =>
   have H := HC8.out
   clear HC8
   by_cases c13 : (t417 != t419) = true
   ·rw [if_pos c13] at H
    have c13b0 : (t417 != t419) = true := c13
    (try (have c13b1 : decide (t417 = t419) = false := by simpa using c13))
    (try (have c13b2 : (t417 == t419) = false := by simpa using c13))
    (try (have c13b3 : ¬ (t417 = t419) := by simpa using c13))
    clear c13
    (first | rw [c13b0] | (simp only [i64_w, i32_w]; rw [c13b0]) | skip)
    have H' := qb.mk H
    clear H
    go_wp2
    go_meet
    case rel => exact ⟨_, (true), (by first | rfl | (simp; done) | (simp [*]; done)), H', ⟨by first | omega | exact Nat.le_refl _⟩, ⟨by (with_reducible repeat (first | apply Kd.qo | apply Kd.qn | apply Kd.qm)); exact HO415.out⟩, ⟨by repeat (first | (with_reducible first | exact HB.out | apply qf | apply qg | apply qe) | exact HB.out)⟩⟩
   ·rw [if_neg c13] at H
    have c13b0 : (t417 != t419) = false := by simpa using c13
    (try (have c13b1 : decide (t417 = t419) = true := by simpa using c13))
    (try (have c13b2 : (t417 == t419) = true := by simpa using c13))
    clear c13
    (first | rw [c13b0] | (simp only [i64_w, i32_w]; rw [c13b0]) | skip)
    have H' := qb.mk H
    clear H
    go_wp2
    go_meet
    case rel => exact ⟨_, ((t416.toList != t418.toList)), (by first | rfl | (simp; done) | (simp [*]; done)), H', ⟨by first | omega | exact Nat.le_refl _⟩, ⟨by (with_reducible repeat (first | apply Kd.qo | apply Kd.qn | apply Kd.qm)); exact HO415.out⟩, ⟨by repeat (first | (with_reducible first | exact HB.out | apply qf | apply qg | apply qe) | exact HB.out)⟩⟩
  case rest => as_aux_lemma =>
   clear HC8
   try clear c1
   try clear c2
   try clear p2
   try clear c3
   try clear c4
   try clear c5
   try clear c13
   try clear c13b0
   try clear c13b1
   try clear c13b2
   obtain ⟨kq, x66_7, rfl, HA, HJ7, HO_6, HB⟩ := hcut
   cases kq with
   | zero => exact absurd HA.out (by simp [qT.j0])
   | succ kj7 =>
    have H := HA.out
    clear HA
    simp only [qT.j0] at H
    by_cases c14 : x66_7 = true
    ·subst c14
     rw [if_pos rfl] at H
     obtain rfl := Option.some.inj H
     go_wp2
     go_ret
     exact ⟨by first | rfl | (simp [qv, qu] <;> rfl) | (simp [*, qv, qu] <;> rfl), by repeat (first | (with_reducible first | exact HB.out | apply qf | apply qg | apply qe) | exact HB.out)⟩
    ·replace c14 := Bool.eq_false_iff.mpr c14
     subst c14
     rw [if_neg (show ¬ (false = true) by decide)] at H
     have HC15 := qb.mk H
     clear H
     go_upto_if 67 with (fail)
     go_cut [] (fun wc => ∃ (kq : Nat), qb (qT.j1 kq l1 = some r) ∧ qb (kq ≤ kj7) ∧ qb (Below w.heap.size w wc))
     case first => as_aux_lemma =>
      have H := HC15.out
      clear HC15
      by_cases c16 : t417 = true
      ·subst c16
       rw [if_pos rfl] at H
       replace H := Option.bind_eq_some_iff.mp H
       obtain ⟨⟨t420, t421, t422⟩, A170, H⟩ := H
       try dsimp only at H
       have A17 := qb.mk A170
       clear A170
       obtain ⟨ji18, hji18⟩ : ∃ j_ : Int, (wrap64 ((t416.size : Int) - 1)) = j_ := ⟨_, rfl⟩
       replace H : (if 0 ≤ (ji18) then (if (ji18) ≤ (t416.size : Int) then ((qI.f kj7 t412 (t416.extract 0 ((ji18) : Int).toNat)).bind fun bt425 => (if t422 = true then (if t421 = 0 then ((qgb.f kj7 t420 t413).bind fun t430 => (if t430 = true then (if bt425.2.2 = true then (some false) else (if bt425.2.1 = 1 then (qT.j1 kj7 l1) else (some false))) else (some false))) else (some false)) else (some false))) else (none)) else (none)) = some r := by first | (rw [hji18] at H; exact H) | (simp only [hji18] at H ⊢; exact H)
       (try rw [hji18] at A17)
       have hji18w : (IntKind.i64.wrap ((t416.size : Int) - 1)) = ji18 := (i64_w _).trans hji18
       by_cases c19 : 0 ≤ (ji18)
       ·rw [if_pos c19] at H
        have c19b0 := eq_true c19
        have c19b1 : decide (0 ≤ (ji18)) = true := decide_eq_true c19
        clear c19
        by_cases c20 : (ji18) ≤ (t416.size : Int)
        ·rw [if_pos c20] at H
         have c20b0 := eq_true c20
         have c20b1 : decide ((ji18) ≤ (t416.size : Int)) = true := decide_eq_true c20
         clear c20
         replace H := Option.bind_eq_some_iff.mp H
         obtain ⟨⟨t425, t426, t427⟩, A210, H⟩ := H
         try dsimp only at H
         have A21 := qb.mk A210
         clear A210
         by_cases c22 : t422 = true
         ·subst c22
          rw [if_pos rfl] at H
          by_cases c23 : t421 = 0
          ·rw [if_pos c23] at H
           have c23b0 : (t421 == 0) = true := beq_iff_eq.mpr c23
           have c23b1 : (t421 != 0) = false := bne_eq_false_iff_eq.mpr c23
           clear c23
           (first | rw [c23b0] | (simp only [i64_w, i32_w]; rw [c23b0]) | skip)
           replace H := Option.bind_eq_some_iff.mp H
           obtain ⟨t430, A240, H⟩ := H
           try dsimp only at H
           have A24 := qb.mk A240
           clear A240
           by_cases c25 : t430 = true
           ·subst c25
            rw [if_pos rfl] at H
            by_cases c26 : t427 = true
            ·subst c26
             rw [if_pos rfl] at H
             obtain rfl := Option.some.inj H
             go_wp2_with (first | ((with_reducible refine qy (f := 36) rfl ?_); refine qz (some 71) rfl rfl Try.func36 (by kernel_rfl) rfl #[.string t412, .string t416] rfl (by (try simp only [List.map_toArray, List.map_cons, List.map_nil]); first | done | rfl | (simp only [List.length_drop, List.length_take]; rfl)) ?_; (with_reducible refine (qI.calls kj7 t412 t416 t420 t421 true _ A17.out).mono ?_); rintro e w27 ⟨v423, rfl, ho0, hb⟩; refine ⟨_, rfl, ?_⟩; have HO424 := qb.mk (Kd.qU (Kd.R_new' ho0 (Kd.R_lt (by (with_reducible repeat (first | apply Kd.qo | apply Kd.qn | apply Kd.qm)); exact HO_6.out))) (qG (by repeat (first | (with_reducible first | exact HB.out | apply qf | apply qg | apply qe) | exact HB.out)))); replace HO_6 := qb.mk (Kd.qhb (by (with_reducible repeat (first | apply Kd.qo | apply Kd.qn | apply Kd.qm)); exact HO_6.out) (Kd.qib ho0) hb); replace HB := qb.mk (qE (by repeat (first | (with_reducible first | exact HB.out | apply qf | apply qg | apply qe) | exact HB.out)) hb); (try clear hb); (try clear hb2); (try clear hk); (try clear hi); (try clear ho0)) | ((with_reducible refine qy (f := 36) rfl ?_); refine qz (some 82) rfl rfl Try.func36 (by kernel_rfl) rfl #[.string t412, .string (t416.extract 0 ((ji18) : Int).toNat)] rfl (by (try simp only [List.map_toArray, List.map_cons, List.map_nil]); first | done | (simp only [hji18]; rfl) | rfl | (simp only [List.length_drop, List.length_take]; rfl)) ?_; (with_reducible refine (qI.calls kj7 t412 (t416.extract 0 ((ji18) : Int).toNat) t425 t426 true _ A21.out).mono ?_); rintro e w28 ⟨v428, rfl, ho0, hb⟩; refine ⟨_, rfl, ?_⟩; have HO429 := qb.mk (Kd.qU (Kd.R_new' (Kd.R_new' ho0 (Kd.R_lt (by (with_reducible repeat (first | apply Kd.qo | apply Kd.qn | apply Kd.qm)); exact HO_6.out))) (Kd.R_lt (by (with_reducible repeat (first | apply Kd.qo | apply Kd.qn | apply Kd.qm)); exact HO424.out))) (qG (by repeat (first | (with_reducible first | exact HB.out | apply qf | apply qg | apply qe) | exact HB.out)))); replace HO_6 := qb.mk (Kd.qhb (by (with_reducible repeat (first | apply Kd.qo | apply Kd.qn | apply Kd.qm)); exact HO_6.out) (Kd.qib ho0) hb); replace HO424 := qb.mk (Kd.qhb (by (with_reducible repeat (first | apply Kd.qo | apply Kd.qn | apply Kd.qm)); exact HO424.out) (Kd.qib ho0) hb); replace HB := qb.mk (qE (by repeat (first | (with_reducible first | exact HB.out | apply qf | apply qg | apply qe) | exact HB.out)) hb); (try clear hb); (try clear hb2); (try clear hk); (try clear hi); (try clear ho0); obtain ⟨Ao29, co29, eo29⟩ := Kd.qfb HO424.out; subst eo29) | (go_at_call 32; (with_reducible refine (qgb.calls kj7 _ _ t420 _ _ t413 true _ ?side1 ?side2 ?side3 ?side4 A24.out).mono ?_); (case side1 => repeat (first | exact (Kd.qD HO424.out).2.2 | (with_reducible refine Kd.qN ?_ _) | (with_reducible refine Kd.qM ?_ _) | (with_reducible refine Kd.qO ?_))); (case side2 => exact (Kd.qD HO424.out).2.1); (case side3 => repeat (first | exact (Kd.qD HO_6.out).2.2 | (with_reducible refine Kd.qN ?_ _) | (with_reducible refine Kd.qM ?_ _) | (with_reducible refine Kd.qO ?_))); (case side4 => exact (Kd.qD HO_6.out).2.1); rintro e w' ⟨rfl, ⟨nd, rfl⟩⟩))
             go_ret
             exact ⟨by first | rfl | (simp [qv, qu] <;> rfl) | (simp only [← hji18]; first | rfl | (simp [qv, qu] <;> rfl)) | (simp [*, qv, qu] <;> rfl), by repeat (first | (with_reducible first | exact HB.out | apply qf | apply qg | apply qe) | exact HB.out)⟩
            ·replace c26 := Bool.eq_false_iff.mpr c26
             subst c26
             rw [if_neg (show ¬ (false = true) by decide)] at H
             by_cases c30 : t426 = 1
             ·rw [if_pos c30] at H
              have c30b0 : (t426 == 1) = true := beq_iff_eq.mpr c30
              have c30b1 : (t426 != 1) = false := bne_eq_false_iff_eq.mpr c30
              clear c30
              have H' := qb.mk H
              clear H
              go_wp2_with (first | ((with_reducible refine qy (f := 36) rfl ?_); refine qz (some 71) rfl rfl Try.func36 (by kernel_rfl) rfl #[.string t412, .string t416] rfl (by (try simp only [List.map_toArray, List.map_cons, List.map_nil]); first | done | rfl | (simp only [List.length_drop, List.length_take]; rfl)) ?_; (with_reducible refine (qI.calls kj7 t412 t416 t420 t421 true _ A17.out).mono ?_); rintro e w31 ⟨v423, rfl, ho0, hb⟩; refine ⟨_, rfl, ?_⟩; have HO424 := qb.mk (Kd.qU (Kd.R_new' ho0 (Kd.R_lt (by (with_reducible repeat (first | apply Kd.qo | apply Kd.qn | apply Kd.qm)); exact HO_6.out))) (qG (by repeat (first | (with_reducible first | exact HB.out | apply qf | apply qg | apply qe) | exact HB.out)))); replace HO_6 := qb.mk (Kd.qhb (by (with_reducible repeat (first | apply Kd.qo | apply Kd.qn | apply Kd.qm)); exact HO_6.out) (Kd.qib ho0) hb); replace HB := qb.mk (qE (by repeat (first | (with_reducible first | exact HB.out | apply qf | apply qg | apply qe) | exact HB.out)) hb); (try clear hb); (try clear hb2); (try clear hk); (try clear hi); (try clear ho0)) | ((with_reducible refine qy (f := 36) rfl ?_); refine qz (some 82) rfl rfl Try.func36 (by kernel_rfl) rfl #[.string t412, .string (t416.extract 0 ((ji18) : Int).toNat)] rfl (by (try simp only [List.map_toArray, List.map_cons, List.map_nil]); first | done | (simp only [hji18]; rfl) | rfl | (simp only [List.length_drop, List.length_take]; rfl)) ?_; (with_reducible refine (qI.calls kj7 t412 (t416.extract 0 ((ji18) : Int).toNat) t425 t426 false _ A21.out).mono ?_); rintro e w32 ⟨v428, rfl, ho0, hb⟩; refine ⟨_, rfl, ?_⟩; have HO429 := qb.mk (Kd.qU (Kd.R_new' (Kd.R_new' ho0 (Kd.R_lt (by (with_reducible repeat (first | apply Kd.qo | apply Kd.qn | apply Kd.qm)); exact HO_6.out))) (Kd.R_lt (by (with_reducible repeat (first | apply Kd.qo | apply Kd.qn | apply Kd.qm)); exact HO424.out))) (qG (by repeat (first | (with_reducible first | exact HB.out | apply qf | apply qg | apply qe) | exact HB.out)))); replace HO_6 := qb.mk (Kd.qhb (by (with_reducible repeat (first | apply Kd.qo | apply Kd.qn | apply Kd.qm)); exact HO_6.out) (Kd.qib ho0) hb); replace HO424 := qb.mk (Kd.qhb (by (with_reducible repeat (first | apply Kd.qo | apply Kd.qn | apply Kd.qm)); exact HO424.out) (Kd.qib ho0) hb); replace HB := qb.mk (qE (by repeat (first | (with_reducible first | exact HB.out | apply qf | apply qg | apply qe) | exact HB.out)) hb); (try clear hb); (try clear hb2); (try clear hk); (try clear hi); (try clear ho0); obtain ⟨Ao33, co33, eo33⟩ := Kd.qfb HO424.out; subst eo33) | (go_at_call 32; (with_reducible refine (qgb.calls kj7 _ _ t420 _ _ t413 true _ ?side1 ?side2 ?side3 ?side4 A24.out).mono ?_); (case side1 => repeat (first | exact (Kd.qD HO424.out).2.2 | (with_reducible refine Kd.qN ?_ _) | (with_reducible refine Kd.qM ?_ _) | (with_reducible refine Kd.qO ?_))); (case side2 => exact (Kd.qD HO424.out).2.1); (case side3 => repeat (first | exact (Kd.qD HO_6.out).2.2 | (with_reducible refine Kd.qN ?_ _) | (with_reducible refine Kd.qM ?_ _) | (with_reducible refine Kd.qO ?_))); (case side4 => exact (Kd.qD HO_6.out).2.1); rintro e w' ⟨rfl, ⟨nd, rfl⟩⟩))
              go_meet
              case rel => exact ⟨_, (by first | exact H' | (simp only [hji18]; exact H')), ⟨by have := HJ7.out; first | omega | exact Nat.le_refl _⟩, ⟨by repeat (first | (with_reducible first | exact HB.out | apply qf | apply qg | apply qe) | exact HB.out)⟩⟩
             ·rw [if_neg c30] at H
              have c30b0 : (t426 == 1) = false := beq_eq_false_iff_ne.mpr c30
              have c30b1 : (t426 != 1) = true := bne_iff_ne.mpr c30
              obtain rfl := Option.some.inj H
              go_wp2_with (first | ((with_reducible refine qy (f := 36) rfl ?_); refine qz (some 71) rfl rfl Try.func36 (by kernel_rfl) rfl #[.string t412, .string t416] rfl (by (try simp only [List.map_toArray, List.map_cons, List.map_nil]); first | done | rfl | (simp only [List.length_drop, List.length_take]; rfl)) ?_; (with_reducible refine (qI.calls kj7 t412 t416 t420 t421 true _ A17.out).mono ?_); rintro e w34 ⟨v423, rfl, ho0, hb⟩; refine ⟨_, rfl, ?_⟩; have HO424 := qb.mk (Kd.qU (Kd.R_new' ho0 (Kd.R_lt (by (with_reducible repeat (first | apply Kd.qo | apply Kd.qn | apply Kd.qm)); exact HO_6.out))) (qG (by repeat (first | (with_reducible first | exact HB.out | apply qf | apply qg | apply qe) | exact HB.out)))); replace HO_6 := qb.mk (Kd.qhb (by (with_reducible repeat (first | apply Kd.qo | apply Kd.qn | apply Kd.qm)); exact HO_6.out) (Kd.qib ho0) hb); replace HB := qb.mk (qE (by repeat (first | (with_reducible first | exact HB.out | apply qf | apply qg | apply qe) | exact HB.out)) hb); (try clear hb); (try clear hb2); (try clear hk); (try clear hi); (try clear ho0)) | ((with_reducible refine qy (f := 36) rfl ?_); refine qz (some 82) rfl rfl Try.func36 (by kernel_rfl) rfl #[.string t412, .string (t416.extract 0 ((ji18) : Int).toNat)] rfl (by (try simp only [List.map_toArray, List.map_cons, List.map_nil]); first | done | (simp only [hji18]; rfl) | rfl | (simp only [List.length_drop, List.length_take]; rfl)) ?_; (with_reducible refine (qI.calls kj7 t412 (t416.extract 0 ((ji18) : Int).toNat) t425 t426 false _ A21.out).mono ?_); rintro e w35 ⟨v428, rfl, ho0, hb⟩; refine ⟨_, rfl, ?_⟩; have HO429 := qb.mk (Kd.qU (Kd.R_new' (Kd.R_new' ho0 (Kd.R_lt (by (with_reducible repeat (first | apply Kd.qo | apply Kd.qn | apply Kd.qm)); exact HO_6.out))) (Kd.R_lt (by (with_reducible repeat (first | apply Kd.qo | apply Kd.qn | apply Kd.qm)); exact HO424.out))) (qG (by repeat (first | (with_reducible first | exact HB.out | apply qf | apply qg | apply qe) | exact HB.out)))); replace HO_6 := qb.mk (Kd.qhb (by (with_reducible repeat (first | apply Kd.qo | apply Kd.qn | apply Kd.qm)); exact HO_6.out) (Kd.qib ho0) hb); replace HO424 := qb.mk (Kd.qhb (by (with_reducible repeat (first | apply Kd.qo | apply Kd.qn | apply Kd.qm)); exact HO424.out) (Kd.qib ho0) hb); replace HB := qb.mk (qE (by repeat (first | (with_reducible first | exact HB.out | apply qf | apply qg | apply qe) | exact HB.out)) hb); (try clear hb); (try clear hb2); (try clear hk); (try clear hi); (try clear ho0); obtain ⟨Ao36, co36, eo36⟩ := Kd.qfb HO424.out; subst eo36) | (go_at_call 32; (with_reducible refine (qgb.calls kj7 _ _ t420 _ _ t413 true _ ?side1 ?side2 ?side3 ?side4 A24.out).mono ?_); (case side1 => repeat (first | exact (Kd.qD HO424.out).2.2 | (with_reducible refine Kd.qN ?_ _) | (with_reducible refine Kd.qM ?_ _) | (with_reducible refine Kd.qO ?_))); (case side2 => exact (Kd.qD HO424.out).2.1); (case side3 => repeat (first | exact (Kd.qD HO_6.out).2.2 | (with_reducible refine Kd.qN ?_ _) | (with_reducible refine Kd.qM ?_ _) | (with_reducible refine Kd.qO ?_))); (case side4 => exact (Kd.qD HO_6.out).2.1); rintro e w' ⟨rfl, ⟨nd, rfl⟩⟩))
              go_ret
              exact ⟨by first | rfl | (simp [qv, qu] <;> rfl) | (simp only [← hji18]; first | rfl | (simp [qv, qu] <;> rfl)) | (simp [*, qv, qu] <;> rfl), by repeat (first | (with_reducible first | exact HB.out | apply qf | apply qg | apply qe) | exact HB.out)⟩
           ·replace c25 := Bool.eq_false_iff.mpr c25
            subst c25
            rw [if_neg (show ¬ (false = true) by decide)] at H
            obtain rfl := Option.some.inj H
            go_wp2_with (first | ((with_reducible refine qy (f := 36) rfl ?_); refine qz (some 71) rfl rfl Try.func36 (by kernel_rfl) rfl #[.string t412, .string t416] rfl (by (try simp only [List.map_toArray, List.map_cons, List.map_nil]); first | done | rfl | (simp only [List.length_drop, List.length_take]; rfl)) ?_; (with_reducible refine (qI.calls kj7 t412 t416 t420 t421 true _ A17.out).mono ?_); rintro e w37 ⟨v423, rfl, ho0, hb⟩; refine ⟨_, rfl, ?_⟩; have HO424 := qb.mk (Kd.qU (Kd.R_new' ho0 (Kd.R_lt (by (with_reducible repeat (first | apply Kd.qo | apply Kd.qn | apply Kd.qm)); exact HO_6.out))) (qG (by repeat (first | (with_reducible first | exact HB.out | apply qf | apply qg | apply qe) | exact HB.out)))); replace HO_6 := qb.mk (Kd.qhb (by (with_reducible repeat (first | apply Kd.qo | apply Kd.qn | apply Kd.qm)); exact HO_6.out) (Kd.qib ho0) hb); replace HB := qb.mk (qE (by repeat (first | (with_reducible first | exact HB.out | apply qf | apply qg | apply qe) | exact HB.out)) hb); (try clear hb); (try clear hb2); (try clear hk); (try clear hi); (try clear ho0)) | ((with_reducible refine qy (f := 36) rfl ?_); refine qz (some 82) rfl rfl Try.func36 (by kernel_rfl) rfl #[.string t412, .string (t416.extract 0 ((ji18) : Int).toNat)] rfl (by (try simp only [List.map_toArray, List.map_cons, List.map_nil]); first | done | (simp only [hji18]; rfl) | rfl | (simp only [List.length_drop, List.length_take]; rfl)) ?_; (with_reducible refine (qI.calls kj7 t412 (t416.extract 0 ((ji18) : Int).toNat) t425 t426 t427 _ A21.out).mono ?_); rintro e w38 ⟨v428, rfl, ho0, hb⟩; refine ⟨_, rfl, ?_⟩; have HO429 := qb.mk (Kd.qU (Kd.R_new' (Kd.R_new' ho0 (Kd.R_lt (by (with_reducible repeat (first | apply Kd.qo | apply Kd.qn | apply Kd.qm)); exact HO_6.out))) (Kd.R_lt (by (with_reducible repeat (first | apply Kd.qo | apply Kd.qn | apply Kd.qm)); exact HO424.out))) (qG (by repeat (first | (with_reducible first | exact HB.out | apply qf | apply qg | apply qe) | exact HB.out)))); replace HO_6 := qb.mk (Kd.qhb (by (with_reducible repeat (first | apply Kd.qo | apply Kd.qn | apply Kd.qm)); exact HO_6.out) (Kd.qib ho0) hb); replace HO424 := qb.mk (Kd.qhb (by (with_reducible repeat (first | apply Kd.qo | apply Kd.qn | apply Kd.qm)); exact HO424.out) (Kd.qib ho0) hb); replace HB := qb.mk (qE (by repeat (first | (with_reducible first | exact HB.out | apply qf | apply qg | apply qe) | exact HB.out)) hb); (try clear hb); (try clear hb2); (try clear hk); (try clear hi); (try clear ho0); obtain ⟨Ao39, co39, eo39⟩ := Kd.qfb HO424.out; subst eo39) | (go_at_call 32; (with_reducible refine (qgb.calls kj7 _ _ t420 _ _ t413 false _ ?side1 ?side2 ?side3 ?side4 A24.out).mono ?_); (case side1 => repeat (first | exact (Kd.qD HO424.out).2.2 | (with_reducible refine Kd.qN ?_ _) | (with_reducible refine Kd.qM ?_ _) | (with_reducible refine Kd.qO ?_))); (case side2 => exact (Kd.qD HO424.out).2.1); (case side3 => repeat (first | exact (Kd.qD HO_6.out).2.2 | (with_reducible refine Kd.qN ?_ _) | (with_reducible refine Kd.qM ?_ _) | (with_reducible refine Kd.qO ?_))); (case side4 => exact (Kd.qD HO_6.out).2.1); rintro e w' ⟨rfl, ⟨nd, rfl⟩⟩))
            go_ret
            exact ⟨by first | rfl | (simp [qv, qu] <;> rfl) | (simp only [← hji18]; first | rfl | (simp [qv, qu] <;> rfl)) | (simp [*, qv, qu] <;> rfl), by repeat (first | (with_reducible first | exact HB.out | apply qf | apply qg | apply qe) | exact HB.out)⟩
          ·rw [if_neg c23] at H
           have c23b0 : (t421 == 0) = false := beq_eq_false_iff_ne.mpr c23
           have c23b1 : (t421 != 0) = true := bne_iff_ne.mpr c23
           (first | rw [c23b0] | (simp only [i64_w, i32_w]; rw [c23b0]) | skip)
           obtain rfl := Option.some.inj H
           go_wp2_with (first | ((with_reducible refine qy (f := 36) rfl ?_); refine qz (some 71) rfl rfl Try.func36 (by kernel_rfl) rfl #[.string t412, .string t416] rfl (by (try simp only [List.map_toArray, List.map_cons, List.map_nil]); first | done | rfl | (simp only [List.length_drop, List.length_take]; rfl)) ?_; (with_reducible refine (qI.calls kj7 t412 t416 t420 t421 true _ A17.out).mono ?_); rintro e w40 ⟨v423, rfl, ho0, hb⟩; refine ⟨_, rfl, ?_⟩; have HO424 := qb.mk (Kd.qU (Kd.R_new' ho0 (Kd.R_lt (by (with_reducible repeat (first | apply Kd.qo | apply Kd.qn | apply Kd.qm)); exact HO_6.out))) (qG (by repeat (first | (with_reducible first | exact HB.out | apply qf | apply qg | apply qe) | exact HB.out)))); replace HO_6 := qb.mk (Kd.qhb (by (with_reducible repeat (first | apply Kd.qo | apply Kd.qn | apply Kd.qm)); exact HO_6.out) (Kd.qib ho0) hb); replace HB := qb.mk (qE (by repeat (first | (with_reducible first | exact HB.out | apply qf | apply qg | apply qe) | exact HB.out)) hb); (try clear hb); (try clear hb2); (try clear hk); (try clear hi); (try clear ho0)) | ((with_reducible refine qy (f := 36) rfl ?_); refine qz (some 82) rfl rfl Try.func36 (by kernel_rfl) rfl #[.string t412, .string (t416.extract 0 ((ji18) : Int).toNat)] rfl (by (try simp only [List.map_toArray, List.map_cons, List.map_nil]); first | done | (simp only [hji18]; rfl) | rfl | (simp only [List.length_drop, List.length_take]; rfl)) ?_; (with_reducible refine (qI.calls kj7 t412 (t416.extract 0 ((ji18) : Int).toNat) t425 t426 t427 _ A21.out).mono ?_); rintro e w41 ⟨v428, rfl, ho0, hb⟩; refine ⟨_, rfl, ?_⟩; have HO429 := qb.mk (Kd.qU (Kd.R_new' (Kd.R_new' ho0 (Kd.R_lt (by (with_reducible repeat (first | apply Kd.qo | apply Kd.qn | apply Kd.qm)); exact HO_6.out))) (Kd.R_lt (by (with_reducible repeat (first | apply Kd.qo | apply Kd.qn | apply Kd.qm)); exact HO424.out))) (qG (by repeat (first | (with_reducible first | exact HB.out | apply qf | apply qg | apply qe) | exact HB.out)))); replace HO_6 := qb.mk (Kd.qhb (by (with_reducible repeat (first | apply Kd.qo | apply Kd.qn | apply Kd.qm)); exact HO_6.out) (Kd.qib ho0) hb); replace HO424 := qb.mk (Kd.qhb (by (with_reducible repeat (first | apply Kd.qo | apply Kd.qn | apply Kd.qm)); exact HO424.out) (Kd.qib ho0) hb); replace HB := qb.mk (qE (by repeat (first | (with_reducible first | exact HB.out | apply qf | apply qg | apply qe) | exact HB.out)) hb); (try clear hb); (try clear hb2); (try clear hk); (try clear hi); (try clear ho0)))
           go_ret
           exact ⟨by first | rfl | (simp [qv, qu] <;> rfl) | (simp only [← hji18]; first | rfl | (simp [qv, qu] <;> rfl)) | (simp [*, qv, qu] <;> rfl), by repeat (first | (with_reducible first | exact HB.out | apply qf | apply qg | apply qe) | exact HB.out)⟩
         ·replace c22 := Bool.eq_false_iff.mpr c22
          subst c22
          rw [if_neg (show ¬ (false = true) by decide)] at H
          obtain rfl := Option.some.inj H
          go_wp2_with (first | ((with_reducible refine qy (f := 36) rfl ?_); refine qz (some 71) rfl rfl Try.func36 (by kernel_rfl) rfl #[.string t412, .string t416] rfl (by (try simp only [List.map_toArray, List.map_cons, List.map_nil]); first | done | rfl | (simp only [List.length_drop, List.length_take]; rfl)) ?_; (with_reducible refine (qI.calls kj7 t412 t416 t420 t421 false _ A17.out).mono ?_); rintro e w42 ⟨v423, rfl, ho0, hb⟩; refine ⟨_, rfl, ?_⟩; have HO424 := qb.mk (Kd.qU (Kd.R_new' ho0 (Kd.R_lt (by (with_reducible repeat (first | apply Kd.qo | apply Kd.qn | apply Kd.qm)); exact HO_6.out))) (qG (by repeat (first | (with_reducible first | exact HB.out | apply qf | apply qg | apply qe) | exact HB.out)))); replace HO_6 := qb.mk (Kd.qhb (by (with_reducible repeat (first | apply Kd.qo | apply Kd.qn | apply Kd.qm)); exact HO_6.out) (Kd.qib ho0) hb); replace HB := qb.mk (qE (by repeat (first | (with_reducible first | exact HB.out | apply qf | apply qg | apply qe) | exact HB.out)) hb); (try clear hb); (try clear hb2); (try clear hk); (try clear hi); (try clear ho0)) | ((with_reducible refine qy (f := 36) rfl ?_); refine qz (some 82) rfl rfl Try.func36 (by kernel_rfl) rfl #[.string t412, .string (t416.extract 0 ((ji18) : Int).toNat)] rfl (by (try simp only [List.map_toArray, List.map_cons, List.map_nil]); first | done | (simp only [hji18]; rfl) | rfl | (simp only [List.length_drop, List.length_take]; rfl)) ?_; (with_reducible refine (qI.calls kj7 t412 (t416.extract 0 ((ji18) : Int).toNat) t425 t426 t427 _ A21.out).mono ?_); rintro e w43 ⟨v428, rfl, ho0, hb⟩; refine ⟨_, rfl, ?_⟩; have HO429 := qb.mk (Kd.qU (Kd.R_new' (Kd.R_new' ho0 (Kd.R_lt (by (with_reducible repeat (first | apply Kd.qo | apply Kd.qn | apply Kd.qm)); exact HO_6.out))) (Kd.R_lt (by (with_reducible repeat (first | apply Kd.qo | apply Kd.qn | apply Kd.qm)); exact HO424.out))) (qG (by repeat (first | (with_reducible first | exact HB.out | apply qf | apply qg | apply qe) | exact HB.out)))); replace HO_6 := qb.mk (Kd.qhb (by (with_reducible repeat (first | apply Kd.qo | apply Kd.qn | apply Kd.qm)); exact HO_6.out) (Kd.qib ho0) hb); replace HO424 := qb.mk (Kd.qhb (by (with_reducible repeat (first | apply Kd.qo | apply Kd.qn | apply Kd.qm)); exact HO424.out) (Kd.qib ho0) hb); replace HB := qb.mk (qE (by repeat (first | (with_reducible first | exact HB.out | apply qf | apply qg | apply qe) | exact HB.out)) hb); (try clear hb); (try clear hb2); (try clear hk); (try clear hi); (try clear ho0)))
          go_ret
          exact ⟨by first | rfl | (simp [qv, qu] <;> rfl) | (simp only [← hji18]; first | rfl | (simp [qv, qu] <;> rfl)) | (simp [*, qv, qu] <;> rfl), by repeat (first | (with_reducible first | exact HB.out | apply qf | apply qg | apply qe) | exact HB.out)⟩
        ·rw [if_neg c20] at H
         exact absurd H (by simp)
       ·rw [if_neg c19] at H
        exact absurd H (by simp)
      ·replace c16 := Bool.eq_false_iff.mpr c16
       subst c16
       rw [if_neg (show ¬ (false = true) by decide)] at H
       have H' := qb.mk H
       clear H
       go_wp2
       go_meet
       case rel => exact ⟨_, H', ⟨by have := HJ7.out; first | omega | exact Nat.le_refl _⟩, ⟨by repeat (first | (with_reducible first | exact HB.out | apply qf | apply qg | apply qe) | exact HB.out)⟩⟩
     case rest => as_aux_lemma =>
      clear HC15
      try clear c1
      try clear c2
      try clear p2
      try clear c3
      try clear c4
      try clear c5
      try clear p6
      try clear c13
      try clear c13b0
      try clear c13b1
      try clear c13b2
      try clear c14
      try clear c16
      try clear c19
      try clear c19b0
      try clear c19b1
      try clear c20
      try clear c20b0
      try clear c20b1
      try clear c22
      try clear c23
      try clear c23b0
      try clear c23b1
      try clear c24
      try clear c25
      try clear c26
      try clear c30
      try clear c30b0
      try clear c30b1
      try clear c36
      try clear p2
      obtain ⟨kq, HA, HJ14, HB⟩ := hcut
      cases kq with
      | zero => exact absurd HA.out (by simp [qT.j1])
      | succ kj14 =>
       have H := HA.out
       clear HA
       simp only [qT.j1] at H
       replace H := Option.bind_eq_some_iff.mp H
       obtain ⟨⟨t431, t432⟩, A440, H⟩ := H
       try dsimp only at H
       have A44 := qb.mk A440
       clear A440
       replace H := Option.bind_eq_some_iff.mp H
       obtain ⟨⟨t433, t434, t435⟩, A450, H⟩ := H
       try dsimp only at H
       have A45 := qb.mk A450
       clear A450
       replace H := Option.bind_eq_some_iff.mp H
       obtain ⟨⟨t438, t439, t440⟩, A460, H⟩ := H
       try dsimp only at H
       have A46 := qb.mk A460
       clear A460
       have HC47 := qb.mk H
       clear H
       go_upto_region 16 with (first | ((with_reducible refine qy (f := 51) rfl ?_); refine qz (some 107) rfl rfl Try.func51 (by kernel_rfl) rfl #[.slice A1 l1.length c1] rfl (by (try simp only [List.map_toArray, List.map_cons, List.map_nil]); first | done | rfl | (simp only [List.length_drop, List.length_take]; rfl)) ?_; (with_reducible refine (qLb.calls kj14 _ _ l1 t431 t432 _ ?side1 ?side2 A44.out).mono ?_); (case side1 => repeat (first | exact (Kd.qOb HR1.out HB.out) | (with_reducible refine Kd.qN ?_ _) | (with_reducible refine Kd.qM ?_ _) | (with_reducible refine Kd.qO ?_))); (case side2 => exact HC1.out); rintro e w48 ⟨rfl, hb⟩; refine ⟨_, rfl, ?_⟩; replace HB := qb.mk (qE (by repeat (first | (with_reducible first | exact HB.out | apply qf | apply qg | apply qe) | exact HB.out)) hb); (try clear hb); (try clear hb2); (try clear hk); (try clear hi)) | ((with_reducible refine qy (f := 36) rfl ?_); refine qz (some 113) rfl rfl Try.func36 (by kernel_rfl) rfl #[.string t431, .string t432] rfl (by (try simp only [List.map_toArray, List.map_cons, List.map_nil]); first | done | rfl | (simp only [List.length_drop, List.length_take]; rfl)) ?_; (with_reducible refine (qI.calls kj14 t431 t432 t433 t434 t435 _ A45.out).mono ?_); rintro e w49 ⟨v436, rfl, ho0, hb⟩; refine ⟨_, rfl, ?_⟩; have HO437 := qb.mk (Kd.qU ho0 (qG (by repeat (first | (with_reducible first | exact HB.out | apply qf | apply qg | apply qe) | exact HB.out)))); replace HB := qb.mk (qE (by repeat (first | (with_reducible first | exact HB.out | apply qf | apply qg | apply qe) | exact HB.out)) hb); (try clear hb); (try clear hb2); (try clear hk); (try clear hi); (try clear ho0)) | ((with_reducible refine qy (f := 35) rfl ?_); refine qz (some 120) rfl rfl Try.func35 (by kernel_rfl) rfl #[.string t431, .string t432] rfl (by (try simp only [List.map_toArray, List.map_cons, List.map_nil]); first | done | rfl | (simp only [List.length_drop, List.length_take]; rfl)) ?_; (with_reducible refine (qQ.calls kj14 t431 t432 t438 t439 t440 _ A46.out).mono ?_); rintro e w50 ⟨v441, rfl, ho0, hb⟩; refine ⟨_, rfl, ?_⟩; have HO442 := qb.mk (Kd.qU (Kd.R_new' ho0 (Kd.R_lt (by (with_reducible repeat (first | apply Kd.qo | apply Kd.qn | apply Kd.qm)); exact HO437.out))) (qG (by repeat (first | (with_reducible first | exact HB.out | apply qf | apply qg | apply qe) | exact HB.out)))); replace HO437 := qb.mk (Kd.qhb (by (with_reducible repeat (first | apply Kd.qo | apply Kd.qn | apply Kd.qm)); exact HO437.out) (Kd.qib ho0) hb); replace HB := qb.mk (qE (by repeat (first | (with_reducible first | exact HB.out | apply qf | apply qg | apply qe) | exact HB.out)) hb); (try clear hb); (try clear hb2); (try clear hk); (try clear hi); (try clear ho0)))
       (try simp only [Act.put, List.setIfInBounds_toArray, List.set_cons_zero, List.set_cons_succ])
       go_cut [137] (fun v137 wc => ∃ (kq : Nat) (x137_46 : Bool), v137 = .bool x137_46 ∧ qb (qT.j2 kq l1 t431 t432 t433 t435 x137_46 = some r) ∧ qb (kq ≤ kj14) ∧ qb (Kd.R k43 43 wc w.heap.size (fun _ => True) v436 t433) ∧ qb (Below w.heap.size w wc))
       case first => as_aux_lemma =>
        have H := HC47.out
        clear HC47
        by_cases c51 : (t435 != t440) = true
        ·rw [if_pos c51] at H
         have c51b0 : (t435 != t440) = true := c51
         (try (have c51b1 : decide (t435 = t440) = false := by simpa using c51))
         (try (have c51b2 : (t435 == t440) = false := by simpa using c51))
         (try (have c51b3 : ¬ (t435 = t440) := by simpa using c51))
         clear c51
         (first | rw [c51b0] | (simp only [i64_w, i32_w]; rw [c51b0]) | skip)
         have H' := qb.mk H
         clear H
         go_wp2
         go_meet
         case rel => exact ⟨_, (true), (by first | rfl | (simp; done) | (simp [*]; done)), H', ⟨by have := HJ7.out; have := HJ14.out; first | omega | exact Nat.le_refl _⟩, ⟨by (with_reducible repeat (first | apply Kd.qo | apply Kd.qn | apply Kd.qm)); exact Kd.qF HO437.out (fun _ hk => trivial)⟩, ⟨by repeat (first | (with_reducible first | exact HB.out | apply qf | apply qg | apply qe) | exact HB.out)⟩⟩
        ·rw [if_neg c51] at H
         have c51b0 : (t435 != t440) = false := by simpa using c51
         (try (have c51b1 : decide (t435 = t440) = true := by simpa using c51))
         (try (have c51b2 : (t435 == t440) = true := by simpa using c51))
         clear c51
         (first | rw [c51b0] | (simp only [i64_w, i32_w]; rw [c51b0]) | skip)
         by_cases c52 : t434 = t439
         ·rw [if_pos c52] at H
          have c52b0 : (t434 == t439) = true := beq_iff_eq.mpr c52
          have c52b1 : (t434 != t439) = false := bne_eq_false_iff_eq.mpr c52
          clear c52
          replace H := Option.bind_eq_some_iff.mp H
          obtain ⟨t443, A530, H⟩ := H
          try dsimp only at H
          have A53 := qb.mk A530
          clear A530
          have H' := qb.mk H
          clear H
          obtain ⟨Ao54, co54, eo54⟩ := Kd.qfb HO437.out
          subst eo54
          obtain ⟨Ao55, co55, eo55⟩ := Kd.qfb HO442.out
          subst eo55
          go_wp2_with (first | (go_at_call 32; (with_reducible refine (qgb.calls kj14 _ _ t433 _ _ t438 t443 _ ?side1 ?side2 ?side3 ?side4 A53.out).mono ?_); (case side1 => repeat (first | exact (Kd.qD HO437.out).2.2 | (with_reducible refine Kd.qN ?_ _) | (with_reducible refine Kd.qM ?_ _) | (with_reducible refine Kd.qO ?_))); (case side2 => exact (Kd.qD HO437.out).2.1); (case side3 => repeat (first | exact (Kd.qD HO442.out).2.2 | (with_reducible refine Kd.qN ?_ _) | (with_reducible refine Kd.qM ?_ _) | (with_reducible refine Kd.qO ?_))); (case side4 => exact (Kd.qD HO442.out).2.1); rintro e w' ⟨rfl, ⟨nd, rfl⟩⟩))
          go_meet
          case rel => exact ⟨_, (!t443), (by first | rfl | (simp; done) | (simp [*]; done)), H', ⟨by have := HJ7.out; have := HJ14.out; first | omega | exact Nat.le_refl _⟩, ⟨by (with_reducible repeat (first | apply Kd.qo | apply Kd.qn | apply Kd.qm)); exact Kd.qF HO437.out (fun _ hk => trivial)⟩, ⟨by repeat (first | (with_reducible first | exact HB.out | apply qf | apply qg | apply qe) | exact HB.out)⟩⟩
         ·rw [if_neg c52] at H
          have c52b0 : (t434 == t439) = false := beq_eq_false_iff_ne.mpr c52
          have c52b1 : (t434 != t439) = true := bne_iff_ne.mpr c52
          have H' := qb.mk H
          clear H
          go_wp2
          go_meet
          case rel => exact ⟨_, (true), (by first | rfl | (simp; done) | (simp [*]; done)), H', ⟨by have := HJ7.out; have := HJ14.out; first | omega | exact Nat.le_refl _⟩, ⟨by (with_reducible repeat (first | apply Kd.qo | apply Kd.qn | apply Kd.qm)); exact Kd.qF HO437.out (fun _ hk => trivial)⟩, ⟨by repeat (first | (with_reducible first | exact HB.out | apply qf | apply qg | apply qe) | exact HB.out)⟩⟩
       case rest => as_aux_lemma =>
        clear HC47
        try clear c1
        try clear c2
        try clear p2
        try clear c3
        try clear c4
        try clear c5
        try clear p6
        try clear c13
        try clear c13b0
        try clear c13b1
        try clear c13b2
        try clear c14
        try clear c16
        try clear c19
        try clear c19b0
        try clear c19b1
        try clear c20
        try clear c20b0
        try clear c20b1
        try clear c22
        try clear c23
        try clear c23b0
        try clear c23b1
        try clear c24
        try clear c25
        try clear c26
        try clear c30
        try clear c30b0
        try clear c30b1
        try clear c35
        try clear c36
        try clear c50
        try clear c51
        try clear c51b0
        try clear c51b1
        try clear c51b2
        try clear c52
        try clear c52b0
        try clear c52b1
        try clear p2
        try clear p6
        obtain ⟨kq, x137_46, rfl, HA, HJ46, HO_19, HB⟩ := hcut
        cases kq with
        | zero => exact absurd HA.out (by simp [qT.j2])
        | succ kj46 =>
         have H := HA.out
         clear HA
         simp only [qT.j2] at H
         by_cases c56 : x137_46 = true
         ·subst c56
          rw [if_pos rfl] at H
          obtain rfl := Option.some.inj H
          go_wp2
          go_ret
          exact ⟨by first | rfl | (simp [qv, qu] <;> rfl) | (simp [*, qv, qu] <;> rfl), by repeat (first | (with_reducible first | exact HB.out | apply qf | apply qg | apply qe) | exact HB.out)⟩
         ·replace c56 := Bool.eq_false_iff.mpr c56
          subst c56
          rw [if_neg (show ¬ (false = true) by decide)] at H
          have HC57 := qb.mk H
          clear H
          go_upto_if 138 with (fail)
          go_cut [] (fun wc => ∃ (kq : Nat), qb (qT.j3 kq l1 = some r) ∧ qb (kq ≤ kj46) ∧ qb (Below w.heap.size w wc))
          case first => as_aux_lemma =>
           have H := HC57.out
           clear HC57
           by_cases c58 : t435 = true
           ·subst c58
            rw [if_pos rfl] at H
            replace H := Option.bind_eq_some_iff.mp H
            obtain ⟨⟨t444, t445⟩, A590, H⟩ := H
            try dsimp only at H
            have A59 := qb.mk A590
            clear A590
            by_cases c60 : t445 = true
            ·subst c60
             rw [if_pos rfl] at H
             by_cases c61 : t444.toList = t432.toList
             ·rw [if_pos c61] at H
              have c61b0 : (t444.toList == t432.toList) = true := beq_iff_eq.mpr c61
              have c61b1 : (t444.toList != t432.toList) = false := bne_eq_false_iff_eq.mpr c61
              clear c61
              (first | rw [c61b0] | (simp only [i64_w, i32_w]; rw [c61b0]) | skip)
              have H' := qb.mk H
              clear H
              obtain ⟨Ao62, co62, eo62⟩ := Kd.qfb HO_19.out
              subst eo62
              go_wp2_with (first | ((with_reducible refine qy (f := 25) rfl ?_); refine qz (some 142) rfl rfl Try.func25 (by kernel_rfl) rfl #[.string t431, .slice Ao62 t433.length co62] rfl (by (try simp only [List.map_toArray, List.map_cons, List.map_nil]); first | done | rfl | (simp only [List.length_drop, List.length_take]; rfl)) ?_; (with_reducible refine (qY.calls kj46 t431 _ _ t433 t444 true _ ?side1 ?side2 A59.out).mono ?_); (case side1 => repeat (first | exact (Kd.qD HO_19.out).2.2 | (with_reducible refine Kd.qN ?_ _) | (with_reducible refine Kd.qM ?_ _) | (with_reducible refine Kd.qO ?_))); (case side2 => exact (Kd.qD HO_19.out).2.1); rintro e w63 ⟨rfl, hb⟩; refine ⟨_, rfl, ?_⟩; replace HO_19 := qb.mk (Kd.qX (by (with_reducible repeat (first | apply Kd.qo | apply Kd.qn | apply Kd.qm)); exact HO_19.out) hb); replace HB := qb.mk (qE (by repeat (first | (with_reducible first | exact HB.out | apply qf | apply qg | apply qe) | exact HB.out)) hb); (try clear hb); (try clear hb2); (try clear hk); (try clear hi)))
              go_meet
              case rel => exact ⟨_, H', ⟨by have := HJ7.out; have := HJ14.out; have := HJ46.out; first | omega | exact Nat.le_refl _⟩, ⟨by repeat (first | (with_reducible first | exact HB.out | apply qf | apply qg | apply qe) | exact HB.out)⟩⟩
             ·rw [if_neg c61] at H
              have c61b0 : (t444.toList == t432.toList) = false := beq_eq_false_iff_ne.mpr c61
              have c61b1 : (t444.toList != t432.toList) = true := bne_iff_ne.mpr c61
              (first | rw [c61b0] | (simp only [i64_w, i32_w]; rw [c61b0]) | skip)
              obtain rfl := Option.some.inj H
              obtain ⟨Ao64, co64, eo64⟩ := Kd.qfb HO_19.out
              subst eo64
              go_wp2_with (first | ((with_reducible refine qy (f := 25) rfl ?_); refine qz (some 142) rfl rfl Try.func25 (by kernel_rfl) rfl #[.string t431, .slice Ao64 t433.length co64] rfl (by (try simp only [List.map_toArray, List.map_cons, List.map_nil]); first | done | rfl | (simp only [List.length_drop, List.length_take]; rfl)) ?_; (with_reducible refine (qY.calls kj46 t431 _ _ t433 t444 true _ ?side1 ?side2 A59.out).mono ?_); (case side1 => repeat (first | exact (Kd.qD HO_19.out).2.2 | (with_reducible refine Kd.qN ?_ _) | (with_reducible refine Kd.qM ?_ _) | (with_reducible refine Kd.qO ?_))); (case side2 => exact (Kd.qD HO_19.out).2.1); rintro e w65 ⟨rfl, hb⟩; refine ⟨_, rfl, ?_⟩; replace HO_19 := qb.mk (Kd.qX (by (with_reducible repeat (first | apply Kd.qo | apply Kd.qn | apply Kd.qm)); exact HO_19.out) hb); replace HB := qb.mk (qE (by repeat (first | (with_reducible first | exact HB.out | apply qf | apply qg | apply qe) | exact HB.out)) hb); (try clear hb); (try clear hb2); (try clear hk); (try clear hi)))
              go_ret
              exact ⟨by first | rfl | (simp [qv, qu] <;> rfl) | (simp [*, qv, qu] <;> rfl), by repeat (first | (with_reducible first | exact HB.out | apply qf | apply qg | apply qe) | exact HB.out)⟩
            ·replace c60 := Bool.eq_false_iff.mpr c60
             subst c60
             rw [if_neg (show ¬ (false = true) by decide)] at H
             obtain rfl := Option.some.inj H
             obtain ⟨Ao66, co66, eo66⟩ := Kd.qfb HO_19.out
             subst eo66
             go_wp2_with (first | ((with_reducible refine qy (f := 25) rfl ?_); refine qz (some 142) rfl rfl Try.func25 (by kernel_rfl) rfl #[.string t431, .slice Ao66 t433.length co66] rfl (by (try simp only [List.map_toArray, List.map_cons, List.map_nil]); first | done | rfl | (simp only [List.length_drop, List.length_take]; rfl)) ?_; (with_reducible refine (qY.calls kj46 t431 _ _ t433 t444 false _ ?side1 ?side2 A59.out).mono ?_); (case side1 => repeat (first | exact (Kd.qD HO_19.out).2.2 | (with_reducible refine Kd.qN ?_ _) | (with_reducible refine Kd.qM ?_ _) | (with_reducible refine Kd.qO ?_))); (case side2 => exact (Kd.qD HO_19.out).2.1); rintro e w67 ⟨rfl, hb⟩; refine ⟨_, rfl, ?_⟩; replace HO_19 := qb.mk (Kd.qX (by (with_reducible repeat (first | apply Kd.qo | apply Kd.qn | apply Kd.qm)); exact HO_19.out) hb); replace HB := qb.mk (qE (by repeat (first | (with_reducible first | exact HB.out | apply qf | apply qg | apply qe) | exact HB.out)) hb); (try clear hb); (try clear hb2); (try clear hk); (try clear hi)))
             go_ret
             exact ⟨by first | rfl | (simp [qv, qu] <;> rfl) | (simp [*, qv, qu] <;> rfl), by repeat (first | (with_reducible first | exact HB.out | apply qf | apply qg | apply qe) | exact HB.out)⟩
           ·replace c58 := Bool.eq_false_iff.mpr c58
            subst c58
            rw [if_neg (show ¬ (false = true) by decide)] at H
            have H' := qb.mk H
            clear H
            go_wp2
            go_meet
            case rel => exact ⟨_, H', ⟨by have := HJ7.out; have := HJ14.out; have := HJ46.out; first | omega | exact Nat.le_refl _⟩, ⟨by repeat (first | (with_reducible first | exact HB.out | apply qf | apply qg | apply qe) | exact HB.out)⟩⟩
          case rest => as_aux_lemma =>
           clear HC57
           try clear c1
           try clear c2
           try clear p2
           try clear c3
           try clear c4
           try clear c5
           try clear c6
           try clear p6
           try clear c13
           try clear c13b0
           try clear c13b1
           try clear c13b2
           try clear c14
           try clear c16
           try clear c19
           try clear c19b0
           try clear c19b1
           try clear c20
           try clear c20b0
           try clear c20b1
           try clear c22
           try clear c23
           try clear c23b0
           try clear c23b1
           try clear c24
           try clear c25
           try clear c26
           try clear c30
           try clear c30b0
           try clear c30b1
           try clear c35
           try clear c36
           try clear c50
           try clear c51
           try clear c51b0
           try clear c51b1
           try clear c51b2
           try clear c52
           try clear c52b0
           try clear c52b1
           try clear c56
           try clear c58
           try clear c60
           try clear c61
           try clear c61b0
           try clear c61b1
           try clear p64
           try clear p2
           try clear p6
           obtain ⟨kq, HA, HJ56, HB⟩ := hcut
           cases kq with
           | zero => exact absurd HA.out (by simp [qT.j3])
           | succ kj56 =>
            have H := HA.out
            clear HA
            simp only [qT.j3] at H
            replace H := Option.bind_eq_some_iff.mp H
            obtain ⟨⟨t446, t447⟩, A680, H⟩ := H
            try dsimp only at H
            have A68 := qb.mk A680
            clear A680
            replace H := Option.bind_eq_some_iff.mp H
            obtain ⟨⟨t450, t451⟩, A690, H⟩ := H
            try dsimp only at H
            have A69 := qb.mk A690
            clear A690
            replace H := Option.bind_eq_some_iff.mp H
            obtain ⟨⟨t454, t455⟩, A700, H⟩ := H
            try dsimp only at H
            have A70 := qb.mk A700
            clear A700
            have HC71 := qb.mk H
            clear H
            go_upto_region 25 with (first | ((with_reducible refine qy (f := 52) rfl ?_); refine qz (some 154) rfl rfl Try.func52 (by kernel_rfl) rfl #[.slice A1 l1.length c1] rfl (by (try simp only [List.map_toArray, List.map_cons, List.map_nil]); first | done | rfl | (simp only [List.length_drop, List.length_take]; rfl)) ?_; (with_reducible refine (qMb.calls kj56 _ _ l1 t446 t447 _ ?side1 ?side2 A68.out).mono ?_); (case side1 => repeat (first | exact (Kd.qOb HR1.out HB.out) | (with_reducible refine Kd.qN ?_ _) | (with_reducible refine Kd.qM ?_ _) | (with_reducible refine Kd.qO ?_))); (case side2 => exact HC1.out); rintro e w72 ⟨v448, rfl, ho0, hb⟩; refine ⟨_, rfl, ?_⟩; have HO449 := qb.mk (Kd.qU ho0 (qG (by repeat (first | (with_reducible first | exact HB.out | apply qf | apply qg | apply qe) | exact HB.out)))); replace HB := qb.mk (qE (by repeat (first | (with_reducible first | exact HB.out | apply qf | apply qg | apply qe) | exact HB.out)) hb); (try clear hb); (try clear hb2); (try clear hk); (try clear hi); (try clear ho0); obtain ⟨Ao73, co73, eo73⟩ := Kd.qfb HO449.out; subst eo73) | ((with_reducible refine qy (f := 34) rfl ?_); refine qz (some 160) rfl rfl Try.func34 (by kernel_rfl) rfl #[.string t446, .slice Ao73 t447.length co73] rfl (by (try simp only [List.map_toArray, List.map_cons, List.map_nil]); first | done | rfl | (simp only [List.length_drop, List.length_take]; rfl)) ?_; (with_reducible refine (qH.calls kj56 t446 _ _ t447 t450 t451 _ ?side1 ?side2 A69.out).mono ?_); (case side1 => repeat (first | exact (Kd.qD HO449.out).2.2 | (with_reducible refine Kd.qN ?_ _) | (with_reducible refine Kd.qM ?_ _) | (with_reducible refine Kd.qO ?_))); (case side2 => exact (Kd.qD HO449.out).2.1); rintro e w74 ⟨v452, rfl, ho0, hb⟩; refine ⟨_, rfl, ?_⟩; have HO453 := qb.mk (Kd.qU (Kd.R_new' ho0 (Kd.R_lt (by (with_reducible repeat (first | apply Kd.qo | apply Kd.qn | apply Kd.qm)); exact HO449.out))) (qG (by repeat (first | (with_reducible first | exact HB.out | apply qf | apply qg | apply qe) | exact HB.out)))); replace HO449 := qb.mk (Kd.qhb (by (with_reducible repeat (first | apply Kd.qo | apply Kd.qn | apply Kd.qm)); exact HO449.out) (Kd.qib ho0) hb); replace HB := qb.mk (qE (by repeat (first | (with_reducible first | exact HB.out | apply qf | apply qg | apply qe) | exact HB.out)) hb); (try clear hb); (try clear hb2); (try clear hk); (try clear hi); (try clear ho0)) | ((with_reducible refine qy (f := 33) rfl ?_); refine qz (some 166) rfl rfl Try.func33 (by kernel_rfl) rfl #[.string t446, .slice Ao73 t447.length co73] rfl (by (try simp only [List.map_toArray, List.map_cons, List.map_nil]); first | done | rfl | (simp only [List.length_drop, List.length_take]; rfl)) ?_; (with_reducible refine (qJ.calls kj56 t446 _ _ t447 t454 t455 _ ?side1 ?side2 A70.out).mono ?_); (case side1 => repeat (first | exact (Kd.qD HO449.out).2.2 | (with_reducible refine Kd.qN ?_ _) | (with_reducible refine Kd.qM ?_ _) | (with_reducible refine Kd.qO ?_))); (case side2 => exact (Kd.qD HO449.out).2.1); rintro e w75 ⟨v456, rfl, ho0, hb⟩; refine ⟨_, rfl, ?_⟩; have HO457 := qb.mk (Kd.qU (Kd.R_new' (Kd.R_new' ho0 (Kd.R_lt (by (with_reducible repeat (first | apply Kd.qo | apply Kd.qn | apply Kd.qm)); exact HO449.out))) (Kd.R_lt (by (with_reducible repeat (first | apply Kd.qo | apply Kd.qn | apply Kd.qm)); exact HO453.out))) (qG (by repeat (first | (with_reducible first | exact HB.out | apply qf | apply qg | apply qe) | exact HB.out)))); replace HO449 := qb.mk (Kd.qhb (by (with_reducible repeat (first | apply Kd.qo | apply Kd.qn | apply Kd.qm)); exact HO449.out) (Kd.qib ho0) hb); replace HO453 := qb.mk (Kd.qhb (by (with_reducible repeat (first | apply Kd.qo | apply Kd.qn | apply Kd.qm)); exact HO453.out) (Kd.qib ho0) hb); replace HB := qb.mk (qE (by repeat (first | (with_reducible first | exact HB.out | apply qf | apply qg | apply qe) | exact HB.out)) hb); (try clear hb); (try clear hb2); (try clear hk); (try clear hi); (try clear ho0)))
            (try simp only [Act.put, List.setIfInBounds_toArray, List.set_cons_zero, List.set_cons_succ])
            go_cut [177] (fun v177 wc => ∃ (kq : Nat) (x177_70 : Bool), v177 = .bool x177_70 ∧ qb (qT.j4 kq t446 t447 t450 t451 x177_70 = some r) ∧ qb (kq ≤ kj56) ∧ qb (Kd.R k43 43 wc w.heap.size (fun k_ => some k_ ≠ (v452 : Value).ownBlock) (.slice Ao73 t447.length co73) t447) ∧ qb (Kd.R k43 43 wc w.heap.size (fun k_ => some k_ ≠ ((.slice Ao73 t447.length co73) : Value).ownBlock) v452 t450) ∧ qb (Below w.heap.size w wc))
            case first => as_aux_lemma =>
             have H := HC71.out
             clear HC71
             by_cases c76 : (t451 != t455) = true
             ·rw [if_pos c76] at H
              have c76b0 : (t451 != t455) = true := c76
              (try (have c76b1 : decide (t451 = t455) = false := by simpa using c76))
              (try (have c76b2 : (t451 == t455) = false := by simpa using c76))
              (try (have c76b3 : ¬ (t451 = t455) := by simpa using c76))
              clear c76
              (first | rw [c76b0] | (simp only [i64_w, i32_w]; rw [c76b0]) | skip)
              have H' := qb.mk H
              clear H
              go_wp2
              go_meet
              case rel => exact ⟨_, (true), (by first | rfl | (simp; done) | (simp [*]; done)), H', ⟨by have := HJ7.out; have := HJ14.out; have := HJ46.out; have := HJ56.out; first | omega | exact Nat.le_refl _⟩, ⟨by (with_reducible repeat (first | apply Kd.qo | apply Kd.qn | apply Kd.qm)); exact Kd.qF HO449.out (fun _ hk => hk.1.2)⟩, ⟨by (with_reducible repeat (first | apply Kd.qo | apply Kd.qn | apply Kd.qm)); exact Kd.qF HO453.out (fun _ hk => hk.1.2)⟩, ⟨by repeat (first | (with_reducible first | exact HB.out | apply qf | apply qg | apply qe) | exact HB.out)⟩⟩
             ·rw [if_neg c76] at H
              have c76b0 : (t451 != t455) = false := by simpa using c76
              (try (have c76b1 : decide (t451 = t455) = true := by simpa using c76))
              (try (have c76b2 : (t451 == t455) = true := by simpa using c76))
              clear c76
              (first | rw [c76b0] | (simp only [i64_w, i32_w]; rw [c76b0]) | skip)
              replace H := Option.bind_eq_some_iff.mp H
              obtain ⟨t458, A770, H⟩ := H
              try dsimp only at H
              have A77 := qb.mk A770
              clear A770
              have H' := qb.mk H
              clear H
              obtain ⟨Ao78, co78, eo78⟩ := Kd.qfb HO453.out
              subst eo78
              obtain ⟨Ao79, co79, eo79⟩ := Kd.qfb HO457.out
              subst eo79
              go_wp2_with (first | (go_at_call 32; (with_reducible refine (qgb.calls kj56 _ _ t450 _ _ t454 t458 _ ?side1 ?side2 ?side3 ?side4 A77.out).mono ?_); (case side1 => repeat (first | exact (Kd.qD HO453.out).2.2 | (with_reducible refine Kd.qN ?_ _) | (with_reducible refine Kd.qM ?_ _) | (with_reducible refine Kd.qO ?_))); (case side2 => exact (Kd.qD HO453.out).2.1); (case side3 => repeat (first | exact (Kd.qD HO457.out).2.2 | (with_reducible refine Kd.qN ?_ _) | (with_reducible refine Kd.qM ?_ _) | (with_reducible refine Kd.qO ?_))); (case side4 => exact (Kd.qD HO457.out).2.1); rintro e w' ⟨rfl, ⟨nd, rfl⟩⟩))
              go_meet
              case rel => exact ⟨_, (!t458), (by first | rfl | (simp; done) | (simp [*]; done)), H', ⟨by have := HJ7.out; have := HJ14.out; have := HJ46.out; have := HJ56.out; first | omega | exact Nat.le_refl _⟩, ⟨by (with_reducible repeat (first | apply Kd.qo | apply Kd.qn | apply Kd.qm)); exact Kd.qF HO449.out (fun _ hk => hk.1.2)⟩, ⟨by (with_reducible repeat (first | apply Kd.qo | apply Kd.qn | apply Kd.qm)); exact Kd.qF HO453.out (fun _ hk => hk.1.2)⟩, ⟨by repeat (first | (with_reducible first | exact HB.out | apply qf | apply qg | apply qe) | exact HB.out)⟩⟩
            case rest => as_aux_lemma =>
             clear HC71
             try clear c1
             try clear c2
             try clear p2
             try clear c3
             try clear c4
             try clear c5
             try clear c6
             try clear p6
             try clear c7
             try clear c13
             try clear c13b0
             try clear c13b1
             try clear c13b2
             try clear c14
             try clear c16
             try clear c19
             try clear c19b0
             try clear c19b1
             try clear c20
             try clear c20b0
             try clear c20b1
             try clear c22
             try clear c23
             try clear c23b0
             try clear c23b1
             try clear c24
             try clear c25
             try clear c26
             try clear c30
             try clear c30b0
             try clear c30b1
             try clear c33
             try clear c34
             try clear c35
             try clear c36
             try clear c50
             try clear c51
             try clear c51b0
             try clear c51b1
             try clear c51b2
             try clear c52
             try clear c52b0
             try clear c52b1
             try clear c56
             try clear c58
             try clear c60
             try clear c61
             try clear c61b0
             try clear c61b1
             try clear p64
             try clear c76
             try clear c76b0
             try clear c76b1
             try clear c76b2
             try clear p2
             try clear p6
             try clear p64
             obtain ⟨kq, x177_70, rfl, HA, HJ70, HO_28, HO_29, HB⟩ := hcut
             cases kq with
             | zero => exact absurd HA.out (by simp [qT.j4])
             | succ kj70 =>
              have H := HA.out
              clear HA
              simp only [qT.j4] at H
              by_cases c80 : x177_70 = true
              ·subst c80
               rw [if_pos rfl] at H
               obtain rfl := Option.some.inj H
               go_wp2
               go_ret
               exact ⟨by first | rfl | (simp [qv, qu] <;> rfl) | (simp [*, qv, qu] <;> rfl), by repeat (first | (with_reducible first | exact HB.out | apply qf | apply qg | apply qe) | exact HB.out)⟩
              ·replace c80 := Bool.eq_false_iff.mpr c80
               subst c80
               rw [if_neg (show ¬ (false = true) by decide)] at H
               by_cases c81 : t451 = true
               ·subst c81
                rw [if_pos rfl] at H
                replace H := Option.bind_eq_some_iff.mp H
                obtain ⟨⟨t459, t460⟩, A820, H⟩ := H
                try dsimp only at H
                have A82 := qb.mk A820
                clear A820
                replace H := Option.bind_eq_some_iff.mp H
                obtain ⟨⟨t461, t462⟩, A830, H⟩ := H
                try dsimp only at H
                have A83 := qb.mk A830
                clear A830
                replace H := Option.bind_eq_some_iff.mp H
                obtain ⟨⟨t463, t464⟩, A840, H⟩ := H
                try dsimp only at H
                have A84 := qb.mk A840
                clear A840
                by_cases c85 : t460 = true
                ·subst c85
                 rw [if_pos rfl] at H
                 by_cases c86 : t462 = true
                 ·subst c86
                  rw [if_pos rfl] at H
                  by_cases c87 : t459.toList = t461.toList
                  ·rw [if_pos c87] at H
                   have c87b0 : (t459.toList == t461.toList) = true := beq_iff_eq.mpr c87
                   have c87b1 : (t459.toList != t461.toList) = false := bne_eq_false_iff_eq.mpr c87
                   clear c87
                   by_cases c88 : t464 = true
                   ·subst c88
                    rw [if_pos rfl] at H
                    replace H := Option.bind_eq_some_iff.mp H
                    obtain ⟨t467, A890, H⟩ := H
                    try dsimp only at H
                    have A89 := qb.mk A890
                    clear A890
                    by_cases c90 : t467 = true
                    ·subst c90
                     rw [if_pos rfl] at H
                     replace H := Option.bind_eq_some_iff.mp H
                     obtain ⟨t468, A910, H⟩ := H
                     try dsimp only at H
                     have A91 := qb.mk A910
                     clear A910
                     obtain rfl := Option.some.inj H
                     go_wp2_with (first | ((with_reducible refine qy (f := 23) rfl ?_); refine qz (some 182) rfl rfl Try.func23 (by kernel_rfl) rfl #[.string t446, .slice Ao73 t447.length co73] rfl (by (try simp only [List.map_toArray, List.map_cons, List.map_nil]); first | done | rfl | (simp only [List.length_drop, List.length_take]; rfl)) ?_; (with_reducible refine (qrb.calls kj70 t446 _ _ t447 t459 true _ ?side1 ?side2 A82.out).mono ?_); (case side1 => repeat (first | exact (Kd.qD HO_28.out).2.2 | (with_reducible refine Kd.qN ?_ _) | (with_reducible refine Kd.qM ?_ _) | (with_reducible refine Kd.qO ?_))); (case side2 => exact (Kd.qD HO_28.out).2.1); rintro e w92 ⟨rfl, hb⟩; refine ⟨_, rfl, ?_⟩; replace HO_28 := qb.mk (Kd.qX (by (with_reducible repeat (first | apply Kd.qo | apply Kd.qn | apply Kd.qm)); exact HO_28.out) hb); replace HO_29 := qb.mk (Kd.qX (by (with_reducible repeat (first | apply Kd.qo | apply Kd.qn | apply Kd.qm)); exact HO_29.out) hb); replace HB := qb.mk (qE (by repeat (first | (with_reducible first | exact HB.out | apply qf | apply qg | apply qe) | exact HB.out)) hb); (try clear hb); (try clear hb2); (try clear hk); (try clear hi); obtain ⟨Ao93, co93, eo93⟩ := Kd.qfb HO_29.out; subst eo93) | ((with_reducible refine qy (f := 23) rfl ?_); refine qz (some 188) rfl rfl Try.func23 (by kernel_rfl) rfl #[.string t446, .slice Ao93 t450.length co93] rfl (by (try simp only [List.map_toArray, List.map_cons, List.map_nil]); first | done | rfl | (simp only [List.length_drop, List.length_take]; rfl)) ?_; (with_reducible refine (qrb.calls kj70 t446 _ _ t450 t461 true _ ?side1 ?side2 A83.out).mono ?_); (case side1 => repeat (first | exact (Kd.qD HO_29.out).2.2 | (with_reducible refine Kd.qN ?_ _) | (with_reducible refine Kd.qM ?_ _) | (with_reducible refine Kd.qO ?_))); (case side2 => exact (Kd.qD HO_29.out).2.1); rintro e w94 ⟨rfl, hb⟩; refine ⟨_, rfl, ?_⟩; replace HO_28 := qb.mk (Kd.qX (by (with_reducible repeat (first | apply Kd.qo | apply Kd.qn | apply Kd.qm)); exact HO_28.out) hb); replace HO_29 := qb.mk (Kd.qX (by (with_reducible repeat (first | apply Kd.qo | apply Kd.qn | apply Kd.qm)); exact HO_29.out) hb); replace HB := qb.mk (qE (by repeat (first | (with_reducible first | exact HB.out | apply qf | apply qg | apply qe) | exact HB.out)) hb); (try clear hb); (try clear hb2); (try clear hk); (try clear hi)) | ((with_reducible refine qy (f := 34) rfl ?_); refine qz (some 194) rfl rfl Try.func34 (by kernel_rfl) rfl #[.string t446, .slice Ao93 t450.length co93] rfl (by (try simp only [List.map_toArray, List.map_cons, List.map_nil]); first | done | rfl | (simp only [List.length_drop, List.length_take]; rfl)) ?_; (with_reducible refine (qH.calls kj70 t446 _ _ t450 t463 true _ ?side1 ?side2 A84.out).mono ?_); (case side1 => repeat (first | exact (Kd.qD HO_29.out).2.2 | (with_reducible refine Kd.qN ?_ _) | (with_reducible refine Kd.qM ?_ _) | (with_reducible refine Kd.qO ?_))); (case side2 => exact (Kd.qD HO_29.out).2.1); rintro e w95 ⟨v465, rfl, ho0, hb⟩; refine ⟨_, rfl, ?_⟩; have HO466 := qb.mk (Kd.qU (Kd.R_new' (Kd.R_new' ho0 (Kd.R_lt (by (with_reducible repeat (first | apply Kd.qo | apply Kd.qn | apply Kd.qm)); exact HO_28.out))) (Kd.R_lt (by (with_reducible repeat (first | apply Kd.qo | apply Kd.qn | apply Kd.qm)); exact HO_29.out))) (qG (by repeat (first | (with_reducible first | exact HB.out | apply qf | apply qg | apply qe) | exact HB.out)))); replace HO_28 := qb.mk (Kd.qhb (by (with_reducible repeat (first | apply Kd.qo | apply Kd.qn | apply Kd.qm)); exact HO_28.out) (Kd.qib ho0) hb); replace HO_29 := qb.mk (Kd.qhb (by (with_reducible repeat (first | apply Kd.qo | apply Kd.qn | apply Kd.qm)); exact HO_29.out) (Kd.qib ho0) hb); replace HB := qb.mk (qE (by repeat (first | (with_reducible first | exact HB.out | apply qf | apply qg | apply qe) | exact HB.out)) hb); (try clear hb); (try clear hb2); (try clear hk); (try clear hi); (try clear ho0); obtain ⟨Ao96, co96, eo96⟩ := Kd.qfb HO466.out; subst eo96) | (go_at_call 32; (with_reducible refine (qgb.calls kj70 _ _ t463 _ _ t450 true _ ?side1 ?side2 ?side3 ?side4 A89.out).mono ?_); (case side1 => repeat (first | exact (Kd.qD HO466.out).2.2 | (with_reducible refine Kd.qN ?_ _) | (with_reducible refine Kd.qM ?_ _) | (with_reducible refine Kd.qO ?_))); (case side2 => exact (Kd.qD HO466.out).2.1); (case side3 => repeat (first | exact (Kd.qD HO_29.out).2.2 | (with_reducible refine Kd.qN ?_ _) | (with_reducible refine Kd.qM ?_ _) | (with_reducible refine Kd.qO ?_))); (case side4 => exact (Kd.qD HO_29.out).2.1); rintro e w' ⟨rfl, ⟨nd, rfl⟩⟩) | (go_at_call 21; (with_reducible refine (qlb.calls kj70 t446 _ _ t450 t468 _ ?side1 ?side2 A91.out).mono ?_); (case side1 => repeat (first | exact (Kd.qD HO_29.out).2.2 | (with_reducible refine Kd.qN ?_ _) | (with_reducible refine Kd.qM ?_ _) | (with_reducible refine Kd.qO ?_))); (case side2 => exact (Kd.qD HO_29.out).2.1); rintro e w97 ⟨rfl, hb⟩; replace HO_28 := qb.mk (Kd.qX (by (with_reducible repeat (first | apply Kd.qo | apply Kd.qn | apply Kd.qm)); exact HO_28.out) hb); replace HO_29 := qb.mk (Kd.qX (by (with_reducible repeat (first | apply Kd.qo | apply Kd.qn | apply Kd.qm)); exact HO_29.out) hb); replace HO466 := qb.mk (Kd.qX (by (with_reducible repeat (first | apply Kd.qo | apply Kd.qn | apply Kd.qm)); exact HO466.out) hb); replace HB := qb.mk (qE (by repeat (first | (with_reducible first | exact HB.out | apply qf | apply qg | apply qe) | exact HB.out)) hb); (try clear hb); (try clear hb2); (try clear hk); (try clear hi)))
                     go_ret
                     exact ⟨by first | rfl | (simp [qv, qu] <;> rfl) | (simp [*, qv, qu] <;> rfl), by repeat (first | (with_reducible first | exact HB.out | apply qf | apply qg | apply qe) | exact HB.out)⟩
                    ·replace c90 := Bool.eq_false_iff.mpr c90
                     subst c90
                     rw [if_neg (show ¬ (false = true) by decide)] at H
                     obtain rfl := Option.some.inj H
                     go_wp2_with (first | ((with_reducible refine qy (f := 23) rfl ?_); refine qz (some 182) rfl rfl Try.func23 (by kernel_rfl) rfl #[.string t446, .slice Ao73 t447.length co73] rfl (by (try simp only [List.map_toArray, List.map_cons, List.map_nil]); first | done | rfl | (simp only [List.length_drop, List.length_take]; rfl)) ?_; (with_reducible refine (qrb.calls kj70 t446 _ _ t447 t459 true _ ?side1 ?side2 A82.out).mono ?_); (case side1 => repeat (first | exact (Kd.qD HO_28.out).2.2 | (with_reducible refine Kd.qN ?_ _) | (with_reducible refine Kd.qM ?_ _) | (with_reducible refine Kd.qO ?_))); (case side2 => exact (Kd.qD HO_28.out).2.1); rintro e w98 ⟨rfl, hb⟩; refine ⟨_, rfl, ?_⟩; replace HO_28 := qb.mk (Kd.qX (by (with_reducible repeat (first | apply Kd.qo | apply Kd.qn | apply Kd.qm)); exact HO_28.out) hb); replace HO_29 := qb.mk (Kd.qX (by (with_reducible repeat (first | apply Kd.qo | apply Kd.qn | apply Kd.qm)); exact HO_29.out) hb); replace HB := qb.mk (qE (by repeat (first | (with_reducible first | exact HB.out | apply qf | apply qg | apply qe) | exact HB.out)) hb); (try clear hb); (try clear hb2); (try clear hk); (try clear hi); obtain ⟨Ao99, co99, eo99⟩ := Kd.qfb HO_29.out; subst eo99) | ((with_reducible refine qy (f := 23) rfl ?_); refine qz (some 188) rfl rfl Try.func23 (by kernel_rfl) rfl #[.string t446, .slice Ao99 t450.length co99] rfl (by (try simp only [List.map_toArray, List.map_cons, List.map_nil]); first | done | rfl | (simp only [List.length_drop, List.length_take]; rfl)) ?_; (with_reducible refine (qrb.calls kj70 t446 _ _ t450 t461 true _ ?side1 ?side2 A83.out).mono ?_); (case side1 => repeat (first | exact (Kd.qD HO_29.out).2.2 | (with_reducible refine Kd.qN ?_ _) | (with_reducible refine Kd.qM ?_ _) | (with_reducible refine Kd.qO ?_))); (case side2 => exact (Kd.qD HO_29.out).2.1); rintro e w100 ⟨rfl, hb⟩; refine ⟨_, rfl, ?_⟩; replace HO_28 := qb.mk (Kd.qX (by (with_reducible repeat (first | apply Kd.qo | apply Kd.qn | apply Kd.qm)); exact HO_28.out) hb); replace HO_29 := qb.mk (Kd.qX (by (with_reducible repeat (first | apply Kd.qo | apply Kd.qn | apply Kd.qm)); exact HO_29.out) hb); replace HB := qb.mk (qE (by repeat (first | (with_reducible first | exact HB.out | apply qf | apply qg | apply qe) | exact HB.out)) hb); (try clear hb); (try clear hb2); (try clear hk); (try clear hi)) | ((with_reducible refine qy (f := 34) rfl ?_); refine qz (some 194) rfl rfl Try.func34 (by kernel_rfl) rfl #[.string t446, .slice Ao99 t450.length co99] rfl (by (try simp only [List.map_toArray, List.map_cons, List.map_nil]); first | done | rfl | (simp only [List.length_drop, List.length_take]; rfl)) ?_; (with_reducible refine (qH.calls kj70 t446 _ _ t450 t463 true _ ?side1 ?side2 A84.out).mono ?_); (case side1 => repeat (first | exact (Kd.qD HO_29.out).2.2 | (with_reducible refine Kd.qN ?_ _) | (with_reducible refine Kd.qM ?_ _) | (with_reducible refine Kd.qO ?_))); (case side2 => exact (Kd.qD HO_29.out).2.1); rintro e w101 ⟨v465, rfl, ho0, hb⟩; refine ⟨_, rfl, ?_⟩; have HO466 := qb.mk (Kd.qU (Kd.R_new' (Kd.R_new' ho0 (Kd.R_lt (by (with_reducible repeat (first | apply Kd.qo | apply Kd.qn | apply Kd.qm)); exact HO_28.out))) (Kd.R_lt (by (with_reducible repeat (first | apply Kd.qo | apply Kd.qn | apply Kd.qm)); exact HO_29.out))) (qG (by repeat (first | (with_reducible first | exact HB.out | apply qf | apply qg | apply qe) | exact HB.out)))); replace HO_28 := qb.mk (Kd.qhb (by (with_reducible repeat (first | apply Kd.qo | apply Kd.qn | apply Kd.qm)); exact HO_28.out) (Kd.qib ho0) hb); replace HO_29 := qb.mk (Kd.qhb (by (with_reducible repeat (first | apply Kd.qo | apply Kd.qn | apply Kd.qm)); exact HO_29.out) (Kd.qib ho0) hb); replace HB := qb.mk (qE (by repeat (first | (with_reducible first | exact HB.out | apply qf | apply qg | apply qe) | exact HB.out)) hb); (try clear hb); (try clear hb2); (try clear hk); (try clear hi); (try clear ho0); obtain ⟨Ao102, co102, eo102⟩ := Kd.qfb HO466.out; subst eo102) | (go_at_call 32; (with_reducible refine (qgb.calls kj70 _ _ t463 _ _ t450 false _ ?side1 ?side2 ?side3 ?side4 A89.out).mono ?_); (case side1 => repeat (first | exact (Kd.qD HO466.out).2.2 | (with_reducible refine Kd.qN ?_ _) | (with_reducible refine Kd.qM ?_ _) | (with_reducible refine Kd.qO ?_))); (case side2 => exact (Kd.qD HO466.out).2.1); (case side3 => repeat (first | exact (Kd.qD HO_29.out).2.2 | (with_reducible refine Kd.qN ?_ _) | (with_reducible refine Kd.qM ?_ _) | (with_reducible refine Kd.qO ?_))); (case side4 => exact (Kd.qD HO_29.out).2.1); rintro e w' ⟨rfl, ⟨nd, rfl⟩⟩))
                     go_ret
                     exact ⟨by first | rfl | (simp [qv, qu] <;> rfl) | (simp [*, qv, qu] <;> rfl), by repeat (first | (with_reducible first | exact HB.out | apply qf | apply qg | apply qe) | exact HB.out)⟩
                   ·replace c88 := Bool.eq_false_iff.mpr c88
                    subst c88
                    rw [if_neg (show ¬ (false = true) by decide)] at H
                    obtain rfl := Option.some.inj H
                    go_wp2_with (first | ((with_reducible refine qy (f := 23) rfl ?_); refine qz (some 182) rfl rfl Try.func23 (by kernel_rfl) rfl #[.string t446, .slice Ao73 t447.length co73] rfl (by (try simp only [List.map_toArray, List.map_cons, List.map_nil]); first | done | rfl | (simp only [List.length_drop, List.length_take]; rfl)) ?_; (with_reducible refine (qrb.calls kj70 t446 _ _ t447 t459 true _ ?side1 ?side2 A82.out).mono ?_); (case side1 => repeat (first | exact (Kd.qD HO_28.out).2.2 | (with_reducible refine Kd.qN ?_ _) | (with_reducible refine Kd.qM ?_ _) | (with_reducible refine Kd.qO ?_))); (case side2 => exact (Kd.qD HO_28.out).2.1); rintro e w103 ⟨rfl, hb⟩; refine ⟨_, rfl, ?_⟩; replace HO_28 := qb.mk (Kd.qX (by (with_reducible repeat (first | apply Kd.qo | apply Kd.qn | apply Kd.qm)); exact HO_28.out) hb); replace HO_29 := qb.mk (Kd.qX (by (with_reducible repeat (first | apply Kd.qo | apply Kd.qn | apply Kd.qm)); exact HO_29.out) hb); replace HB := qb.mk (qE (by repeat (first | (with_reducible first | exact HB.out | apply qf | apply qg | apply qe) | exact HB.out)) hb); (try clear hb); (try clear hb2); (try clear hk); (try clear hi); obtain ⟨Ao104, co104, eo104⟩ := Kd.qfb HO_29.out; subst eo104) | ((with_reducible refine qy (f := 23) rfl ?_); refine qz (some 188) rfl rfl Try.func23 (by kernel_rfl) rfl #[.string t446, .slice Ao104 t450.length co104] rfl (by (try simp only [List.map_toArray, List.map_cons, List.map_nil]); first | done | rfl | (simp only [List.length_drop, List.length_take]; rfl)) ?_; (with_reducible refine (qrb.calls kj70 t446 _ _ t450 t461 true _ ?side1 ?side2 A83.out).mono ?_); (case side1 => repeat (first | exact (Kd.qD HO_29.out).2.2 | (with_reducible refine Kd.qN ?_ _) | (with_reducible refine Kd.qM ?_ _) | (with_reducible refine Kd.qO ?_))); (case side2 => exact (Kd.qD HO_29.out).2.1); rintro e w105 ⟨rfl, hb⟩; refine ⟨_, rfl, ?_⟩; replace HO_28 := qb.mk (Kd.qX (by (with_reducible repeat (first | apply Kd.qo | apply Kd.qn | apply Kd.qm)); exact HO_28.out) hb); replace HO_29 := qb.mk (Kd.qX (by (with_reducible repeat (first | apply Kd.qo | apply Kd.qn | apply Kd.qm)); exact HO_29.out) hb); replace HB := qb.mk (qE (by repeat (first | (with_reducible first | exact HB.out | apply qf | apply qg | apply qe) | exact HB.out)) hb); (try clear hb); (try clear hb2); (try clear hk); (try clear hi)) | ((with_reducible refine qy (f := 34) rfl ?_); refine qz (some 194) rfl rfl Try.func34 (by kernel_rfl) rfl #[.string t446, .slice Ao104 t450.length co104] rfl (by (try simp only [List.map_toArray, List.map_cons, List.map_nil]); first | done | rfl | (simp only [List.length_drop, List.length_take]; rfl)) ?_; (with_reducible refine (qH.calls kj70 t446 _ _ t450 t463 false _ ?side1 ?side2 A84.out).mono ?_); (case side1 => repeat (first | exact (Kd.qD HO_29.out).2.2 | (with_reducible refine Kd.qN ?_ _) | (with_reducible refine Kd.qM ?_ _) | (with_reducible refine Kd.qO ?_))); (case side2 => exact (Kd.qD HO_29.out).2.1); rintro e w106 ⟨v465, rfl, ho0, hb⟩; refine ⟨_, rfl, ?_⟩; have HO466 := qb.mk (Kd.qU (Kd.R_new' (Kd.R_new' ho0 (Kd.R_lt (by (with_reducible repeat (first | apply Kd.qo | apply Kd.qn | apply Kd.qm)); exact HO_28.out))) (Kd.R_lt (by (with_reducible repeat (first | apply Kd.qo | apply Kd.qn | apply Kd.qm)); exact HO_29.out))) (qG (by repeat (first | (with_reducible first | exact HB.out | apply qf | apply qg | apply qe) | exact HB.out)))); replace HO_28 := qb.mk (Kd.qhb (by (with_reducible repeat (first | apply Kd.qo | apply Kd.qn | apply Kd.qm)); exact HO_28.out) (Kd.qib ho0) hb); replace HO_29 := qb.mk (Kd.qhb (by (with_reducible repeat (first | apply Kd.qo | apply Kd.qn | apply Kd.qm)); exact HO_29.out) (Kd.qib ho0) hb); replace HB := qb.mk (qE (by repeat (first | (with_reducible first | exact HB.out | apply qf | apply qg | apply qe) | exact HB.out)) hb); (try clear hb); (try clear hb2); (try clear hk); (try clear hi); (try clear ho0)))
                    go_ret
                    exact ⟨by first | rfl | (simp [qv, qu] <;> rfl) | (simp [*, qv, qu] <;> rfl), by repeat (first | (with_reducible first | exact HB.out | apply qf | apply qg | apply qe) | exact HB.out)⟩
                  ·rw [if_neg c87] at H
                   have c87b0 : (t459.toList == t461.toList) = false := beq_eq_false_iff_ne.mpr c87
                   have c87b1 : (t459.toList != t461.toList) = true := bne_iff_ne.mpr c87
                   obtain rfl := Option.some.inj H
                   go_wp2_with (first | ((with_reducible refine qy (f := 23) rfl ?_); refine qz (some 182) rfl rfl Try.func23 (by kernel_rfl) rfl #[.string t446, .slice Ao73 t447.length co73] rfl (by (try simp only [List.map_toArray, List.map_cons, List.map_nil]); first | done | rfl | (simp only [List.length_drop, List.length_take]; rfl)) ?_; (with_reducible refine (qrb.calls kj70 t446 _ _ t447 t459 true _ ?side1 ?side2 A82.out).mono ?_); (case side1 => repeat (first | exact (Kd.qD HO_28.out).2.2 | (with_reducible refine Kd.qN ?_ _) | (with_reducible refine Kd.qM ?_ _) | (with_reducible refine Kd.qO ?_))); (case side2 => exact (Kd.qD HO_28.out).2.1); rintro e w107 ⟨rfl, hb⟩; refine ⟨_, rfl, ?_⟩; replace HO_28 := qb.mk (Kd.qX (by (with_reducible repeat (first | apply Kd.qo | apply Kd.qn | apply Kd.qm)); exact HO_28.out) hb); replace HO_29 := qb.mk (Kd.qX (by (with_reducible repeat (first | apply Kd.qo | apply Kd.qn | apply Kd.qm)); exact HO_29.out) hb); replace HB := qb.mk (qE (by repeat (first | (with_reducible first | exact HB.out | apply qf | apply qg | apply qe) | exact HB.out)) hb); (try clear hb); (try clear hb2); (try clear hk); (try clear hi); obtain ⟨Ao108, co108, eo108⟩ := Kd.qfb HO_29.out; subst eo108) | ((with_reducible refine qy (f := 23) rfl ?_); refine qz (some 188) rfl rfl Try.func23 (by kernel_rfl) rfl #[.string t446, .slice Ao108 t450.length co108] rfl (by (try simp only [List.map_toArray, List.map_cons, List.map_nil]); first | done | rfl | (simp only [List.length_drop, List.length_take]; rfl)) ?_; (with_reducible refine (qrb.calls kj70 t446 _ _ t450 t461 true _ ?side1 ?side2 A83.out).mono ?_); (case side1 => repeat (first | exact (Kd.qD HO_29.out).2.2 | (with_reducible refine Kd.qN ?_ _) | (with_reducible refine Kd.qM ?_ _) | (with_reducible refine Kd.qO ?_))); (case side2 => exact (Kd.qD HO_29.out).2.1); rintro e w109 ⟨rfl, hb⟩; refine ⟨_, rfl, ?_⟩; replace HO_28 := qb.mk (Kd.qX (by (with_reducible repeat (first | apply Kd.qo | apply Kd.qn | apply Kd.qm)); exact HO_28.out) hb); replace HO_29 := qb.mk (Kd.qX (by (with_reducible repeat (first | apply Kd.qo | apply Kd.qn | apply Kd.qm)); exact HO_29.out) hb); replace HB := qb.mk (qE (by repeat (first | (with_reducible first | exact HB.out | apply qf | apply qg | apply qe) | exact HB.out)) hb); (try clear hb); (try clear hb2); (try clear hk); (try clear hi)) | ((with_reducible refine qy (f := 34) rfl ?_); refine qz (some 194) rfl rfl Try.func34 (by kernel_rfl) rfl #[.string t446, .slice Ao108 t450.length co108] rfl (by (try simp only [List.map_toArray, List.map_cons, List.map_nil]); first | done | rfl | (simp only [List.length_drop, List.length_take]; rfl)) ?_; (with_reducible refine (qH.calls kj70 t446 _ _ t450 t463 t464 _ ?side1 ?side2 A84.out).mono ?_); (case side1 => repeat (first | exact (Kd.qD HO_29.out).2.2 | (with_reducible refine Kd.qN ?_ _) | (with_reducible refine Kd.qM ?_ _) | (with_reducible refine Kd.qO ?_))); (case side2 => exact (Kd.qD HO_29.out).2.1); rintro e w110 ⟨v465, rfl, ho0, hb⟩; refine ⟨_, rfl, ?_⟩; have HO466 := qb.mk (Kd.qU (Kd.R_new' (Kd.R_new' ho0 (Kd.R_lt (by (with_reducible repeat (first | apply Kd.qo | apply Kd.qn | apply Kd.qm)); exact HO_28.out))) (Kd.R_lt (by (with_reducible repeat (first | apply Kd.qo | apply Kd.qn | apply Kd.qm)); exact HO_29.out))) (qG (by repeat (first | (with_reducible first | exact HB.out | apply qf | apply qg | apply qe) | exact HB.out)))); replace HO_28 := qb.mk (Kd.qhb (by (with_reducible repeat (first | apply Kd.qo | apply Kd.qn | apply Kd.qm)); exact HO_28.out) (Kd.qib ho0) hb); replace HO_29 := qb.mk (Kd.qhb (by (with_reducible repeat (first | apply Kd.qo | apply Kd.qn | apply Kd.qm)); exact HO_29.out) (Kd.qib ho0) hb); replace HB := qb.mk (qE (by repeat (first | (with_reducible first | exact HB.out | apply qf | apply qg | apply qe) | exact HB.out)) hb); (try clear hb); (try clear hb2); (try clear hk); (try clear hi); (try clear ho0)))
                   go_ret
                   exact ⟨by first | rfl | (simp [qv, qu] <;> rfl) | (simp [*, qv, qu] <;> rfl), by repeat (first | (with_reducible first | exact HB.out | apply qf | apply qg | apply qe) | exact HB.out)⟩
                 ·replace c86 := Bool.eq_false_iff.mpr c86
                  subst c86
                  rw [if_neg (show ¬ (false = true) by decide)] at H
                  obtain rfl := Option.some.inj H
                  go_wp2_with (first | ((with_reducible refine qy (f := 23) rfl ?_); refine qz (some 182) rfl rfl Try.func23 (by kernel_rfl) rfl #[.string t446, .slice Ao73 t447.length co73] rfl (by (try simp only [List.map_toArray, List.map_cons, List.map_nil]); first | done | rfl | (simp only [List.length_drop, List.length_take]; rfl)) ?_; (with_reducible refine (qrb.calls kj70 t446 _ _ t447 t459 true _ ?side1 ?side2 A82.out).mono ?_); (case side1 => repeat (first | exact (Kd.qD HO_28.out).2.2 | (with_reducible refine Kd.qN ?_ _) | (with_reducible refine Kd.qM ?_ _) | (with_reducible refine Kd.qO ?_))); (case side2 => exact (Kd.qD HO_28.out).2.1); rintro e w111 ⟨rfl, hb⟩; refine ⟨_, rfl, ?_⟩; replace HO_28 := qb.mk (Kd.qX (by (with_reducible repeat (first | apply Kd.qo | apply Kd.qn | apply Kd.qm)); exact HO_28.out) hb); replace HO_29 := qb.mk (Kd.qX (by (with_reducible repeat (first | apply Kd.qo | apply Kd.qn | apply Kd.qm)); exact HO_29.out) hb); replace HB := qb.mk (qE (by repeat (first | (with_reducible first | exact HB.out | apply qf | apply qg | apply qe) | exact HB.out)) hb); (try clear hb); (try clear hb2); (try clear hk); (try clear hi); obtain ⟨Ao112, co112, eo112⟩ := Kd.qfb HO_29.out; subst eo112) | ((with_reducible refine qy (f := 23) rfl ?_); refine qz (some 188) rfl rfl Try.func23 (by kernel_rfl) rfl #[.string t446, .slice Ao112 t450.length co112] rfl (by (try simp only [List.map_toArray, List.map_cons, List.map_nil]); first | done | rfl | (simp only [List.length_drop, List.length_take]; rfl)) ?_; (with_reducible refine (qrb.calls kj70 t446 _ _ t450 t461 false _ ?side1 ?side2 A83.out).mono ?_); (case side1 => repeat (first | exact (Kd.qD HO_29.out).2.2 | (with_reducible refine Kd.qN ?_ _) | (with_reducible refine Kd.qM ?_ _) | (with_reducible refine Kd.qO ?_))); (case side2 => exact (Kd.qD HO_29.out).2.1); rintro e w113 ⟨rfl, hb⟩; refine ⟨_, rfl, ?_⟩; replace HO_28 := qb.mk (Kd.qX (by (with_reducible repeat (first | apply Kd.qo | apply Kd.qn | apply Kd.qm)); exact HO_28.out) hb); replace HO_29 := qb.mk (Kd.qX (by (with_reducible repeat (first | apply Kd.qo | apply Kd.qn | apply Kd.qm)); exact HO_29.out) hb); replace HB := qb.mk (qE (by repeat (first | (with_reducible first | exact HB.out | apply qf | apply qg | apply qe) | exact HB.out)) hb); (try clear hb); (try clear hb2); (try clear hk); (try clear hi)) | ((with_reducible refine qy (f := 34) rfl ?_); refine qz (some 194) rfl rfl Try.func34 (by kernel_rfl) rfl #[.string t446, .slice Ao112 t450.length co112] rfl (by (try simp only [List.map_toArray, List.map_cons, List.map_nil]); first | done | rfl | (simp only [List.length_drop, List.length_take]; rfl)) ?_; (with_reducible refine (qH.calls kj70 t446 _ _ t450 t463 t464 _ ?side1 ?side2 A84.out).mono ?_); (case side1 => repeat (first | exact (Kd.qD HO_29.out).2.2 | (with_reducible refine Kd.qN ?_ _) | (with_reducible refine Kd.qM ?_ _) | (with_reducible refine Kd.qO ?_))); (case side2 => exact (Kd.qD HO_29.out).2.1); rintro e w114 ⟨v465, rfl, ho0, hb⟩; refine ⟨_, rfl, ?_⟩; have HO466 := qb.mk (Kd.qU (Kd.R_new' (Kd.R_new' ho0 (Kd.R_lt (by (with_reducible repeat (first | apply Kd.qo | apply Kd.qn | apply Kd.qm)); exact HO_28.out))) (Kd.R_lt (by (with_reducible repeat (first | apply Kd.qo | apply Kd.qn | apply Kd.qm)); exact HO_29.out))) (qG (by repeat (first | (with_reducible first | exact HB.out | apply qf | apply qg | apply qe) | exact HB.out)))); replace HO_28 := qb.mk (Kd.qhb (by (with_reducible repeat (first | apply Kd.qo | apply Kd.qn | apply Kd.qm)); exact HO_28.out) (Kd.qib ho0) hb); replace HO_29 := qb.mk (Kd.qhb (by (with_reducible repeat (first | apply Kd.qo | apply Kd.qn | apply Kd.qm)); exact HO_29.out) (Kd.qib ho0) hb); replace HB := qb.mk (qE (by repeat (first | (with_reducible first | exact HB.out | apply qf | apply qg | apply qe) | exact HB.out)) hb); (try clear hb); (try clear hb2); (try clear hk); (try clear hi); (try clear ho0)))
                  go_ret
                  exact ⟨by first | rfl | (simp [qv, qu] <;> rfl) | (simp [*, qv, qu] <;> rfl), by repeat (first | (with_reducible first | exact HB.out | apply qf | apply qg | apply qe) | exact HB.out)⟩
                ·replace c85 := Bool.eq_false_iff.mpr c85
                 subst c85
                 rw [if_neg (show ¬ (false = true) by decide)] at H
                 obtain rfl := Option.some.inj H
                 go_wp2_with (first | ((with_reducible refine qy (f := 23) rfl ?_); refine qz (some 182) rfl rfl Try.func23 (by kernel_rfl) rfl #[.string t446, .slice Ao73 t447.length co73] rfl (by (try simp only [List.map_toArray, List.map_cons, List.map_nil]); first | done | rfl | (simp only [List.length_drop, List.length_take]; rfl)) ?_; (with_reducible refine (qrb.calls kj70 t446 _ _ t447 t459 false _ ?side1 ?side2 A82.out).mono ?_); (case side1 => repeat (first | exact (Kd.qD HO_28.out).2.2 | (with_reducible refine Kd.qN ?_ _) | (with_reducible refine Kd.qM ?_ _) | (with_reducible refine Kd.qO ?_))); (case side2 => exact (Kd.qD HO_28.out).2.1); rintro e w115 ⟨rfl, hb⟩; refine ⟨_, rfl, ?_⟩; replace HO_28 := qb.mk (Kd.qX (by (with_reducible repeat (first | apply Kd.qo | apply Kd.qn | apply Kd.qm)); exact HO_28.out) hb); replace HO_29 := qb.mk (Kd.qX (by (with_reducible repeat (first | apply Kd.qo | apply Kd.qn | apply Kd.qm)); exact HO_29.out) hb); replace HB := qb.mk (qE (by repeat (first | (with_reducible first | exact HB.out | apply qf | apply qg | apply qe) | exact HB.out)) hb); (try clear hb); (try clear hb2); (try clear hk); (try clear hi); obtain ⟨Ao116, co116, eo116⟩ := Kd.qfb HO_29.out; subst eo116) | ((with_reducible refine qy (f := 23) rfl ?_); refine qz (some 188) rfl rfl Try.func23 (by kernel_rfl) rfl #[.string t446, .slice Ao116 t450.length co116] rfl (by (try simp only [List.map_toArray, List.map_cons, List.map_nil]); first | done | rfl | (simp only [List.length_drop, List.length_take]; rfl)) ?_; (with_reducible refine (qrb.calls kj70 t446 _ _ t450 t461 t462 _ ?side1 ?side2 A83.out).mono ?_); (case side1 => repeat (first | exact (Kd.qD HO_29.out).2.2 | (with_reducible refine Kd.qN ?_ _) | (with_reducible refine Kd.qM ?_ _) | (with_reducible refine Kd.qO ?_))); (case side2 => exact (Kd.qD HO_29.out).2.1); rintro e w117 ⟨rfl, hb⟩; refine ⟨_, rfl, ?_⟩; replace HO_28 := qb.mk (Kd.qX (by (with_reducible repeat (first | apply Kd.qo | apply Kd.qn | apply Kd.qm)); exact HO_28.out) hb); replace HO_29 := qb.mk (Kd.qX (by (with_reducible repeat (first | apply Kd.qo | apply Kd.qn | apply Kd.qm)); exact HO_29.out) hb); replace HB := qb.mk (qE (by repeat (first | (with_reducible first | exact HB.out | apply qf | apply qg | apply qe) | exact HB.out)) hb); (try clear hb); (try clear hb2); (try clear hk); (try clear hi)) | ((with_reducible refine qy (f := 34) rfl ?_); refine qz (some 194) rfl rfl Try.func34 (by kernel_rfl) rfl #[.string t446, .slice Ao116 t450.length co116] rfl (by (try simp only [List.map_toArray, List.map_cons, List.map_nil]); first | done | rfl | (simp only [List.length_drop, List.length_take]; rfl)) ?_; (with_reducible refine (qH.calls kj70 t446 _ _ t450 t463 t464 _ ?side1 ?side2 A84.out).mono ?_); (case side1 => repeat (first | exact (Kd.qD HO_29.out).2.2 | (with_reducible refine Kd.qN ?_ _) | (with_reducible refine Kd.qM ?_ _) | (with_reducible refine Kd.qO ?_))); (case side2 => exact (Kd.qD HO_29.out).2.1); rintro e w118 ⟨v465, rfl, ho0, hb⟩; refine ⟨_, rfl, ?_⟩; have HO466 := qb.mk (Kd.qU (Kd.R_new' (Kd.R_new' ho0 (Kd.R_lt (by (with_reducible repeat (first | apply Kd.qo | apply Kd.qn | apply Kd.qm)); exact HO_28.out))) (Kd.R_lt (by (with_reducible repeat (first | apply Kd.qo | apply Kd.qn | apply Kd.qm)); exact HO_29.out))) (qG (by repeat (first | (with_reducible first | exact HB.out | apply qf | apply qg | apply qe) | exact HB.out)))); replace HO_28 := qb.mk (Kd.qhb (by (with_reducible repeat (first | apply Kd.qo | apply Kd.qn | apply Kd.qm)); exact HO_28.out) (Kd.qib ho0) hb); replace HO_29 := qb.mk (Kd.qhb (by (with_reducible repeat (first | apply Kd.qo | apply Kd.qn | apply Kd.qm)); exact HO_29.out) (Kd.qib ho0) hb); replace HB := qb.mk (qE (by repeat (first | (with_reducible first | exact HB.out | apply qf | apply qg | apply qe) | exact HB.out)) hb); (try clear hb); (try clear hb2); (try clear hk); (try clear hi); (try clear ho0)))
                 go_ret
                 exact ⟨by first | rfl | (simp [qv, qu] <;> rfl) | (simp [*, qv, qu] <;> rfl), by repeat (first | (with_reducible first | exact HB.out | apply qf | apply qg | apply qe) | exact HB.out)⟩
               ·replace c81 := Bool.eq_false_iff.mpr c81
                subst c81
                rw [if_neg (show ¬ (false = true) by decide)] at H
                obtain rfl := Option.some.inj H
                go_wp2
                go_ret
                exact ⟨by first | rfl | (simp [qv, qu] <;> rfl) | (simp [*, qv, qu] <;> rfl), by repeat (first | (with_reducible first | exact HB.out | apply qf | apply qg | apply qe) | exact HB.out)⟩

/-- The pure statement of qT. -/
def qT.Pure : Prop := ∀ (l0 : List Int) (l1 : List Int), (l0.length * 1 ≤ 140737488351232 ∧ ∀ y0 ∈ l0, (Lit.int .u8 y0).wf = true) → (l1.length * 1 ≤ 140737488351232 ∧ ∀ y0 ∈ l1, (Lit.int .u8 y0).wf = true) → ∃ k, qT.f k l0 l1 = some true

end Go.Proofs.Ytnhnlfkbngnkpaa.E
