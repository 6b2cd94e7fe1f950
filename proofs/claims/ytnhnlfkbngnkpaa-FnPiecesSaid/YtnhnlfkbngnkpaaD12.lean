-- Made by a program of this session out of the translation; no hand has turned it.
import Derived.Test.YtnhnlfkbngnkpaaD0
import Derived.Test.YtnhnlfkbngnkpaaD2
import Derived.Test.YtnhnlfkbngnkpaaD3
import Derived.Test.YtnhnlfkbngnkpaaD4
import Derived.Test.YtnhnlfkbngnkpaaD5
import Derived.Test.YtnhnlfkbngnkpaaD6
import Derived.Test.YtnhnlfkbngnkpaaD7
import Derived.Test.YtnhnlfkbngnkpaaD8
import Derived.Test.YtnhnlfkbngnkpaaD9
import Derived.Test.YtnhnlfkbngnkpaaD11
namespace Go.Proofs.Ytnhnlfkbngnkpaa.D
open Go.RowKit Go.Proofs.YtnhnlfkbngnkpaaW.PrintWords Go.Proofs.YtnhnlfkbngnkpaaW.PrintLast Go.Proofs.YtnhnlfkbngnkpaaW.PrintMore
attribute [local go_sem] max2_int min2_int max_two min_two max_three min_three max_four min_four   -- for this text's walks alone
set_option linter.unusedVariables false
set_option linter.unusedSimpArgs false

/-! ### laws_FnPieces: function 11 -/
mutual
def laws_FnPieces.j0 : Nat → List Int → ByteArray → ByteArray → Int → List (S43) → Bool → Bool → Option (Bool)
 | 0, _, _, _, _, _, _, _ => none
 | k + 1, x1, x5, x6, x7, x8, x9, x67 => if x67 = true then (some false) else (if x9 = true then ((impl_DoOps.f k x5 x8).bind fun bt336 => ((impl_CopiedIn.f k x8).bind fun bt338 => ((impl_TidyOps.f k x5 x8).bind fun bt341 => ((impl_DoOps.f k x5 bt341.1).bind fun bt345 => (laws_FnPieces.j1 k x1 x5 x6 x7 x8 bt336.1 bt336.2 bt338.1 bt338.2.1 bt338.2.2 bt341.1 bt341.2 bt345.1 bt345.2))))) else (laws_FnPieces.j4 k x1))
def laws_FnPieces.j4 : Nat → List Int → Option (Bool)
 | 0, _ => none
 | k + 1, x1 => (spec_DrawDoOps.f k x1).bind fun bt350 => ((impl_DoOps.f k bt350.1 bt350.2).bind fun bt354 => ((spec_DoOps.f k bt350.1 bt350.2).bind fun bt356 => ((spec_DrawCopiedIn.f k x1).bind fun t358 => ((impl_CopiedIn.f k t358).bind fun bt361 => ((spec_CopiedIn.f k t358).bind fun bt364 => (laws_FnPieces.j5 k bt350.1 bt350.2 bt354.1 bt354.2 bt356.1 bt356.2 bt361.1 bt361.2.1 bt361.2.2 bt364.1 bt364.2.1 bt364.2.2))))))
def laws_FnPieces.j5 : Nat → ByteArray → List (S43) → ByteArray → Bool → ByteArray → Bool → Int → Int → Bool → Int → Int → Bool → Option (Bool)
 | 0, _, _, _, _, _, _, _, _, _, _, _, _ => none
 | k + 1, x23, x24, x25, x26, x27, x28, x30, x31, x32, x33, x34, x35 => if (x26 == x28) = true then (if x25.toList = x27.toList then (if (x32 == x35) = true then (if x30 = x33 then (if x31 = x34 then ((impl_GoodOps.f k x23 x24).bind fun t367 => ((spec_GoodOps.f k x23 x24).bind fun t368 => (some (t367 == t368)))) else (some false)) else (some false)) else (some false)) else (some false)) else (some false)
def laws_FnPieces.j1 : Nat → List Int → ByteArray → ByteArray → Int → List (S43) → ByteArray → Bool → Int → Int → Bool → List (S43) → Bool → ByteArray → Bool → Option (Bool)
 | 0, _, _, _, _, _, _, _, _, _, _, _, _, _, _ => none
 | k + 1, x1, x5, x6, x7, x8, x12, x13, x14, x15, x16, x17, x18, x19, x20 => (impl_GoodOps.f k x5 x8).bind fun t347 => (if t347 = true then (if x13 = true then (if x12.toList = x6.toList then (if x16 = true then (if (wrap64 (x14 + x15)) = (x6.size : Int) then (if x18 = true then (if x20 = true then (if x19.toList = x6.toList then (laws_FnPieces.j2 k x1 x7 x8 (decide ((x17.length : Int) > (x8.length : Int)))) else (laws_FnPieces.j2 k x1 x7 x8 true)) else (laws_FnPieces.j2 k x1 x7 x8 true)) else (laws_FnPieces.j2 k x1 x7 x8 true)) else (laws_FnPieces.j2 k x1 x7 x8 true)) else (laws_FnPieces.j2 k x1 x7 x8 true)) else (laws_FnPieces.j2 k x1 x7 x8 true)) else (laws_FnPieces.j2 k x1 x7 x8 true)) else (laws_FnPieces.j2 k x1 x7 x8 true))
def laws_FnPieces.j2 : Nat → List Int → Int → List (S43) → Bool → Option (Bool)
 | 0, _, _, _, _ => none
 | k + 1, x1, x7, x8, x137 => if x137 = true then (some false) else (laws_FnPieces.l0 k x1 x7 x8 (x8.length : Int) 0)
def laws_FnPieces.l0 : Nat → List Int → Int → List (S43) → Int → Int → Option (Bool)
 | 0, _, _, _, _, _ => none
 | k + 1, x1, x7, x138, x139, x140 => if x140 < x139 then (if 0 ≤ x140 then (if x140 < (x138.length : Int) then (if ((rd_T43 x138 x140).f0) = 1 then (if ((rd_T43 x138 x140).f2) < x7 then (some false) else (laws_FnPieces.l0 k x1 x7 x138 x139 (wrap64 (x140 + 1)))) else (laws_FnPieces.l0 k x1 x7 x138 x139 (wrap64 (x140 + 1)))) else (none)) else (none)) else (laws_FnPieces.j4 k x1)
end
def laws_FnPieces.f (k : Nat) (l0 : List Int) (l1 : List Int) : Option (Bool) := (laws_big.f l0 l1).bind fun t323 => (if t323 = true then (some true) else ((spec_DrawMakeOps.f k l0).bind fun bt324 => ((impl_MakeOps.f k bt324.1 bt324.2.1 bt324.2.2).bind fun bt327 => ((spec_MakeOps.f k bt324.1 bt324.2.1 bt324.2.2).bind fun bt331 => (if (bt327.2 != bt331.2) = true then (laws_FnPieces.j0 k l1 bt324.1 bt324.2.1 bt324.2.2 bt327.1 bt327.2 true) else ((laws_sameOps.f k bt327.1 bt331.1).bind fun t335 => (laws_FnPieces.j0 k l1 bt324.1 bt324.2.1 bt324.2.2 bt327.1 bt327.2 (!t335))))))))
theorem laws_FnPieces.mono_l : ∀ k, (∀ y0 y1 y2 y3 y4 y5 y6, LeO (laws_FnPieces.j0 k y0 y1 y2 y3 y4 y5 y6) (laws_FnPieces.j0 (k + 1) y0 y1 y2 y3 y4 y5 y6)) ∧ (∀ y0, LeO (laws_FnPieces.j4 k y0) (laws_FnPieces.j4 (k + 1) y0)) ∧ (∀ y0 y1 y2 y3 y4 y5 y6 y7 y8 y9 y10 y11, LeO (laws_FnPieces.j5 k y0 y1 y2 y3 y4 y5 y6 y7 y8 y9 y10 y11) (laws_FnPieces.j5 (k + 1) y0 y1 y2 y3 y4 y5 y6 y7 y8 y9 y10 y11)) ∧ (∀ y0 y1 y2 y3 y4 y5 y6 y7 y8 y9 y10 y11 y12 y13, LeO (laws_FnPieces.j1 k y0 y1 y2 y3 y4 y5 y6 y7 y8 y9 y10 y11 y12 y13) (laws_FnPieces.j1 (k + 1) y0 y1 y2 y3 y4 y5 y6 y7 y8 y9 y10 y11 y12 y13)) ∧ (∀ y0 y1 y2 y3, LeO (laws_FnPieces.j2 k y0 y1 y2 y3) (laws_FnPieces.j2 (k + 1) y0 y1 y2 y3)) ∧ (∀ y0 y1 y2 y3 y4, LeO (laws_FnPieces.l0 k y0 y1 y2 y3 y4) (laws_FnPieces.l0 (k + 1) y0 y1 y2 y3 y4))
 | 0 => ⟨fun _ _ _ _ _ _ _ r h => by simp [laws_FnPieces.j0] at h, fun _ r h => by simp [laws_FnPieces.j4] at h, fun _ _ _ _ _ _ _ _ _ _ _ _ r h => by simp [laws_FnPieces.j5] at h, fun _ _ _ _ _ _ _ _ _ _ _ _ _ _ r h => by simp [laws_FnPieces.j1] at h, fun _ _ _ _ r h => by simp [laws_FnPieces.j2] at h, fun _ _ _ _ _ r h => by simp [laws_FnPieces.l0] at h⟩
 | k + 1 => by
  obtain ⟨ih0, ih1, ih2, ih3, ih4, ih5⟩ := laws_FnPieces.mono_l k
  refine ⟨?_, ?_, ?_, ?_, ?_, ?_⟩
  ·intro y0 y1 y2 y3 y4 y5 y6
   unfold laws_FnPieces.j0
   repeat' first
   | (with_reducible exact ih0 _ _ _ _ _ _ _)
   | (with_reducible exact ih1 _)
   | (with_reducible exact ih2 _ _ _ _ _ _ _ _ _ _ _ _)
   | (with_reducible exact ih3 _ _ _ _ _ _ _ _ _ _ _ _ _ _)
   | (with_reducible exact ih4 _ _ _ _)
   | (with_reducible exact ih5 _ _ _ _ _)
   | (with_reducible exact impl_CopiedIn.mono _ _)
   | (with_reducible exact impl_DoOps.mono _ _ _)
   | (with_reducible exact impl_GoodOps.mono _ _ _)
   | (with_reducible exact impl_MakeOps.mono _ _ _ _)
   | (with_reducible exact impl_TidyOps.mono _ _ _)
   | (with_reducible exact laws_sameOps.mono _ _ _)
   | (with_reducible exact spec_CopiedIn.mono _ _)
   | (with_reducible exact spec_DoOps.mono _ _ _)
   | (with_reducible exact spec_DrawCopiedIn.mono _ _)
   | (with_reducible exact spec_DrawDoOps.mono _ _)
   | (with_reducible exact spec_DrawMakeOps.mono _ _)
   | (with_reducible exact spec_GoodOps.mono _ _ _)
   | (with_reducible exact spec_MakeOps.mono _ _ _ _)
   | (with_reducible exact LeO.refl _)
   | (with_reducible exact LeO.none _)
   | (with_reducible refine LeO.ite ?_ ?_)
   | (with_reducible refine LeO.bind ?_ (fun _ => ?_))
   | exact ih0 _ _ _ _ _ _ _
   | exact ih1 _
   | exact ih2 _ _ _ _ _ _ _ _ _ _ _ _
   | exact ih3 _ _ _ _ _ _ _ _ _ _ _ _ _ _
   | exact ih4 _ _ _ _
   | exact ih5 _ _ _ _ _
   | exact impl_CopiedIn.mono _ _
   | exact impl_DoOps.mono _ _ _
   | exact impl_GoodOps.mono _ _ _
   | exact impl_MakeOps.mono _ _ _ _
   | exact impl_TidyOps.mono _ _ _
   | exact laws_sameOps.mono _ _ _
   | exact spec_CopiedIn.mono _ _
   | exact spec_DoOps.mono _ _ _
   | exact spec_DrawCopiedIn.mono _ _
   | exact spec_DrawDoOps.mono _ _
   | exact spec_DrawMakeOps.mono _ _
   | exact spec_GoodOps.mono _ _ _
   | exact spec_MakeOps.mono _ _ _ _
   | exact LeO.none _
   | refine LeO.ite ?_ ?_
   | refine LeO.bind ?_ (fun _ => ?_)
  ·intro y0
   unfold laws_FnPieces.j4
   repeat' first
   | (with_reducible exact ih0 _ _ _ _ _ _ _)
   | (with_reducible exact ih1 _)
   | (with_reducible exact ih2 _ _ _ _ _ _ _ _ _ _ _ _)
   | (with_reducible exact ih3 _ _ _ _ _ _ _ _ _ _ _ _ _ _)
   | (with_reducible exact ih4 _ _ _ _)
   | (with_reducible exact ih5 _ _ _ _ _)
   | (with_reducible exact impl_CopiedIn.mono _ _)
   | (with_reducible exact impl_DoOps.mono _ _ _)
   | (with_reducible exact impl_GoodOps.mono _ _ _)
   | (with_reducible exact impl_MakeOps.mono _ _ _ _)
   | (with_reducible exact impl_TidyOps.mono _ _ _)
   | (with_reducible exact laws_sameOps.mono _ _ _)
   | (with_reducible exact spec_CopiedIn.mono _ _)
   | (with_reducible exact spec_DoOps.mono _ _ _)
   | (with_reducible exact spec_DrawCopiedIn.mono _ _)
   | (with_reducible exact spec_DrawDoOps.mono _ _)
   | (with_reducible exact spec_DrawMakeOps.mono _ _)
   | (with_reducible exact spec_GoodOps.mono _ _ _)
   | (with_reducible exact spec_MakeOps.mono _ _ _ _)
   | (with_reducible exact LeO.refl _)
   | (with_reducible exact LeO.none _)
   | (with_reducible refine LeO.ite ?_ ?_)
   | (with_reducible refine LeO.bind ?_ (fun _ => ?_))
   | exact ih0 _ _ _ _ _ _ _
   | exact ih1 _
   | exact ih2 _ _ _ _ _ _ _ _ _ _ _ _
   | exact ih3 _ _ _ _ _ _ _ _ _ _ _ _ _ _
   | exact ih4 _ _ _ _
   | exact ih5 _ _ _ _ _
   | exact impl_CopiedIn.mono _ _
   | exact impl_DoOps.mono _ _ _
   | exact impl_GoodOps.mono _ _ _
   | exact impl_MakeOps.mono _ _ _ _
   | exact impl_TidyOps.mono _ _ _
   | exact laws_sameOps.mono _ _ _
   | exact spec_CopiedIn.mono _ _
   | exact spec_DoOps.mono _ _ _
   | exact spec_DrawCopiedIn.mono _ _
   | exact spec_DrawDoOps.mono _ _
   | exact spec_DrawMakeOps.mono _ _
   | exact spec_GoodOps.mono _ _ _
   | exact spec_MakeOps.mono _ _ _ _
   | exact LeO.none _
   | refine LeO.ite ?_ ?_
   | refine LeO.bind ?_ (fun _ => ?_)
  ·intro y0 y1 y2 y3 y4 y5 y6 y7 y8 y9 y10 y11
   unfold laws_FnPieces.j5
   repeat' first
   | (with_reducible exact ih0 _ _ _ _ _ _ _)
   | (with_reducible exact ih1 _)
   | (with_reducible exact ih2 _ _ _ _ _ _ _ _ _ _ _ _)
   | (with_reducible exact ih3 _ _ _ _ _ _ _ _ _ _ _ _ _ _)
   | (with_reducible exact ih4 _ _ _ _)
   | (with_reducible exact ih5 _ _ _ _ _)
   | (with_reducible exact impl_CopiedIn.mono _ _)
   | (with_reducible exact impl_DoOps.mono _ _ _)
   | (with_reducible exact impl_GoodOps.mono _ _ _)
   | (with_reducible exact impl_MakeOps.mono _ _ _ _)
   | (with_reducible exact impl_TidyOps.mono _ _ _)
   | (with_reducible exact laws_sameOps.mono _ _ _)
   | (with_reducible exact spec_CopiedIn.mono _ _)
   | (with_reducible exact spec_DoOps.mono _ _ _)
   | (with_reducible exact spec_DrawCopiedIn.mono _ _)
   | (with_reducible exact spec_DrawDoOps.mono _ _)
   | (with_reducible exact spec_DrawMakeOps.mono _ _)
   | (with_reducible exact spec_GoodOps.mono _ _ _)
   | (with_reducible exact spec_MakeOps.mono _ _ _ _)
   | (with_reducible exact LeO.refl _)
   | (with_reducible exact LeO.none _)
   | (with_reducible refine LeO.ite ?_ ?_)
   | (with_reducible refine LeO.bind ?_ (fun _ => ?_))
   | exact ih0 _ _ _ _ _ _ _
   | exact ih1 _
   | exact ih2 _ _ _ _ _ _ _ _ _ _ _ _
   | exact ih3 _ _ _ _ _ _ _ _ _ _ _ _ _ _
   | exact ih4 _ _ _ _
   | exact ih5 _ _ _ _ _
   | exact impl_CopiedIn.mono _ _
   | exact impl_DoOps.mono _ _ _
   | exact impl_GoodOps.mono _ _ _
   | exact impl_MakeOps.mono _ _ _ _
   | exact impl_TidyOps.mono _ _ _
   | exact laws_sameOps.mono _ _ _
   | exact spec_CopiedIn.mono _ _
   | exact spec_DoOps.mono _ _ _
   | exact spec_DrawCopiedIn.mono _ _
   | exact spec_DrawDoOps.mono _ _
   | exact spec_DrawMakeOps.mono _ _
   | exact spec_GoodOps.mono _ _ _
   | exact spec_MakeOps.mono _ _ _ _
   | exact LeO.none _
   | refine LeO.ite ?_ ?_
   | refine LeO.bind ?_ (fun _ => ?_)
  ·intro y0 y1 y2 y3 y4 y5 y6 y7 y8 y9 y10 y11 y12 y13
   unfold laws_FnPieces.j1
   repeat' first
   | (with_reducible exact ih0 _ _ _ _ _ _ _)
   | (with_reducible exact ih1 _)
   | (with_reducible exact ih2 _ _ _ _ _ _ _ _ _ _ _ _)
   | (with_reducible exact ih3 _ _ _ _ _ _ _ _ _ _ _ _ _ _)
   | (with_reducible exact ih4 _ _ _ _)
   | (with_reducible exact ih5 _ _ _ _ _)
   | (with_reducible exact impl_CopiedIn.mono _ _)
   | (with_reducible exact impl_DoOps.mono _ _ _)
   | (with_reducible exact impl_GoodOps.mono _ _ _)
   | (with_reducible exact impl_MakeOps.mono _ _ _ _)
   | (with_reducible exact impl_TidyOps.mono _ _ _)
   | (with_reducible exact laws_sameOps.mono _ _ _)
   | (with_reducible exact spec_CopiedIn.mono _ _)
   | (with_reducible exact spec_DoOps.mono _ _ _)
   | (with_reducible exact spec_DrawCopiedIn.mono _ _)
   | (with_reducible exact spec_DrawDoOps.mono _ _)
   | (with_reducible exact spec_DrawMakeOps.mono _ _)
   | (with_reducible exact spec_GoodOps.mono _ _ _)
   | (with_reducible exact spec_MakeOps.mono _ _ _ _)
   | (with_reducible exact LeO.refl _)
   | (with_reducible exact LeO.none _)
   | (with_reducible refine LeO.ite ?_ ?_)
   | (with_reducible refine LeO.bind ?_ (fun _ => ?_))
   | exact ih0 _ _ _ _ _ _ _
   | exact ih1 _
   | exact ih2 _ _ _ _ _ _ _ _ _ _ _ _
   | exact ih3 _ _ _ _ _ _ _ _ _ _ _ _ _ _
   | exact ih4 _ _ _ _
   | exact ih5 _ _ _ _ _
   | exact impl_CopiedIn.mono _ _
   | exact impl_DoOps.mono _ _ _
   | exact impl_GoodOps.mono _ _ _
   | exact impl_MakeOps.mono _ _ _ _
   | exact impl_TidyOps.mono _ _ _
   | exact laws_sameOps.mono _ _ _
   | exact spec_CopiedIn.mono _ _
   | exact spec_DoOps.mono _ _ _
   | exact spec_DrawCopiedIn.mono _ _
   | exact spec_DrawDoOps.mono _ _
   | exact spec_DrawMakeOps.mono _ _
   | exact spec_GoodOps.mono _ _ _
   | exact spec_MakeOps.mono _ _ _ _
   | exact LeO.none _
   | refine LeO.ite ?_ ?_
   | refine LeO.bind ?_ (fun _ => ?_)
  ·intro y0 y1 y2 y3
   unfold laws_FnPieces.j2
   repeat' first
   | (with_reducible exact ih0 _ _ _ _ _ _ _)
   | (with_reducible exact ih1 _)
   | (with_reducible exact ih2 _ _ _ _ _ _ _ _ _ _ _ _)
   | (with_reducible exact ih3 _ _ _ _ _ _ _ _ _ _ _ _ _ _)
   | (with_reducible exact ih4 _ _ _ _)
   | (with_reducible exact ih5 _ _ _ _ _)
   | (with_reducible exact impl_CopiedIn.mono _ _)
   | (with_reducible exact impl_DoOps.mono _ _ _)
   | (with_reducible exact impl_GoodOps.mono _ _ _)
   | (with_reducible exact impl_MakeOps.mono _ _ _ _)
   | (with_reducible exact impl_TidyOps.mono _ _ _)
   | (with_reducible exact laws_sameOps.mono _ _ _)
   | (with_reducible exact spec_CopiedIn.mono _ _)
   | (with_reducible exact spec_DoOps.mono _ _ _)
   | (with_reducible exact spec_DrawCopiedIn.mono _ _)
   | (with_reducible exact spec_DrawDoOps.mono _ _)
   | (with_reducible exact spec_DrawMakeOps.mono _ _)
   | (with_reducible exact spec_GoodOps.mono _ _ _)
   | (with_reducible exact spec_MakeOps.mono _ _ _ _)
   | (with_reducible exact LeO.refl _)
   | (with_reducible exact LeO.none _)
   | (with_reducible refine LeO.ite ?_ ?_)
   | (with_reducible refine LeO.bind ?_ (fun _ => ?_))
   | exact ih0 _ _ _ _ _ _ _
   | exact ih1 _
   | exact ih2 _ _ _ _ _ _ _ _ _ _ _ _
   | exact ih3 _ _ _ _ _ _ _ _ _ _ _ _ _ _
   | exact ih4 _ _ _ _
   | exact ih5 _ _ _ _ _
   | exact impl_CopiedIn.mono _ _
   | exact impl_DoOps.mono _ _ _
   | exact impl_GoodOps.mono _ _ _
   | exact impl_MakeOps.mono _ _ _ _
   | exact impl_TidyOps.mono _ _ _
   | exact laws_sameOps.mono _ _ _
   | exact spec_CopiedIn.mono _ _
   | exact spec_DoOps.mono _ _ _
   | exact spec_DrawCopiedIn.mono _ _
   | exact spec_DrawDoOps.mono _ _
   | exact spec_DrawMakeOps.mono _ _
   | exact spec_GoodOps.mono _ _ _
   | exact spec_MakeOps.mono _ _ _ _
   | exact LeO.none _
   | refine LeO.ite ?_ ?_
   | refine LeO.bind ?_ (fun _ => ?_)
  ·intro y0 y1 y2 y3 y4
   unfold laws_FnPieces.l0
   repeat' first
   | (with_reducible exact ih0 _ _ _ _ _ _ _)
   | (with_reducible exact ih1 _)
   | (with_reducible exact ih2 _ _ _ _ _ _ _ _ _ _ _ _)
   | (with_reducible exact ih3 _ _ _ _ _ _ _ _ _ _ _ _ _ _)
   | (with_reducible exact ih4 _ _ _ _)
   | (with_reducible exact ih5 _ _ _ _ _)
   | (with_reducible exact impl_CopiedIn.mono _ _)
   | (with_reducible exact impl_DoOps.mono _ _ _)
   | (with_reducible exact impl_GoodOps.mono _ _ _)
   | (with_reducible exact impl_MakeOps.mono _ _ _ _)
   | (with_reducible exact impl_TidyOps.mono _ _ _)
   | (with_reducible exact laws_sameOps.mono _ _ _)
   | (with_reducible exact spec_CopiedIn.mono _ _)
   | (with_reducible exact spec_DoOps.mono _ _ _)
   | (with_reducible exact spec_DrawCopiedIn.mono _ _)
   | (with_reducible exact spec_DrawDoOps.mono _ _)
   | (with_reducible exact spec_DrawMakeOps.mono _ _)
   | (with_reducible exact spec_GoodOps.mono _ _ _)
   | (with_reducible exact spec_MakeOps.mono _ _ _ _)
   | (with_reducible exact LeO.refl _)
   | (with_reducible exact LeO.none _)
   | (with_reducible refine LeO.ite ?_ ?_)
   | (with_reducible refine LeO.bind ?_ (fun _ => ?_))
   | exact ih0 _ _ _ _ _ _ _
   | exact ih1 _
   | exact ih2 _ _ _ _ _ _ _ _ _ _ _ _
   | exact ih3 _ _ _ _ _ _ _ _ _ _ _ _ _ _
   | exact ih4 _ _ _ _
   | exact ih5 _ _ _ _ _
   | exact impl_CopiedIn.mono _ _
   | exact impl_DoOps.mono _ _ _
   | exact impl_GoodOps.mono _ _ _
   | exact impl_MakeOps.mono _ _ _ _
   | exact impl_TidyOps.mono _ _ _
   | exact laws_sameOps.mono _ _ _
   | exact spec_CopiedIn.mono _ _
   | exact spec_DoOps.mono _ _ _
   | exact spec_DrawCopiedIn.mono _ _
   | exact spec_DrawDoOps.mono _ _
   | exact spec_DrawMakeOps.mono _ _
   | exact spec_GoodOps.mono _ _ _
   | exact spec_MakeOps.mono _ _ _ _
   | exact LeO.none _
   | refine LeO.ite ?_ ?_
   | refine LeO.bind ?_ (fun _ => ?_)
theorem laws_FnPieces.mono : ∀ a0 a1 k, LeO (laws_FnPieces.f k a0 a1) (laws_FnPieces.f (k + 1) a0 a1) := by
 intro a0 a1 k
 obtain ⟨ih0, ih1, ih2, ih3, ih4, ih5⟩ := laws_FnPieces.mono_l k
 unfold laws_FnPieces.f
 repeat' first
   | (with_reducible exact ih0 _ _ _ _ _ _ _)
   | (with_reducible exact ih1 _)
   | (with_reducible exact ih2 _ _ _ _ _ _ _ _ _ _ _ _)
   | (with_reducible exact ih3 _ _ _ _ _ _ _ _ _ _ _ _ _ _)
   | (with_reducible exact ih4 _ _ _ _)
   | (with_reducible exact ih5 _ _ _ _ _)
   | (with_reducible exact impl_CopiedIn.mono _ _)
   | (with_reducible exact impl_DoOps.mono _ _ _)
   | (with_reducible exact impl_GoodOps.mono _ _ _)
   | (with_reducible exact impl_MakeOps.mono _ _ _ _)
   | (with_reducible exact impl_TidyOps.mono _ _ _)
   | (with_reducible exact laws_sameOps.mono _ _ _)
   | (with_reducible exact spec_CopiedIn.mono _ _)
   | (with_reducible exact spec_DoOps.mono _ _ _)
   | (with_reducible exact spec_DrawCopiedIn.mono _ _)
   | (with_reducible exact spec_DrawDoOps.mono _ _)
   | (with_reducible exact spec_DrawMakeOps.mono _ _)
   | (with_reducible exact spec_GoodOps.mono _ _ _)
   | (with_reducible exact spec_MakeOps.mono _ _ _ _)
   | (with_reducible exact LeO.refl _)
   | (with_reducible exact LeO.none _)
   | (with_reducible refine LeO.ite ?_ ?_)
   | (with_reducible refine LeO.bind ?_ (fun _ => ?_))
   | exact ih0 _ _ _ _ _ _ _
   | exact ih1 _
   | exact ih2 _ _ _ _ _ _ _ _ _ _ _ _
   | exact ih3 _ _ _ _ _ _ _ _ _ _ _ _ _ _
   | exact ih4 _ _ _ _
   | exact ih5 _ _ _ _ _
   | exact impl_CopiedIn.mono _ _
   | exact impl_DoOps.mono _ _ _
   | exact impl_GoodOps.mono _ _ _
   | exact impl_MakeOps.mono _ _ _ _
   | exact impl_TidyOps.mono _ _ _
   | exact laws_sameOps.mono _ _ _
   | exact spec_CopiedIn.mono _ _
   | exact spec_DoOps.mono _ _ _
   | exact spec_DrawCopiedIn.mono _ _
   | exact spec_DrawDoOps.mono _ _
   | exact spec_DrawMakeOps.mono _ _
   | exact spec_GoodOps.mono _ _ _
   | exact spec_MakeOps.mono _ _ _ _
   | exact LeO.none _
   | refine LeO.ite ?_ ?_
   | refine LeO.bind ?_ (fun _ => ?_)
set_option maxHeartbeats 8000000 in
set_option maxRecDepth 100000 in
theorem laws_FnPieces.calls (k : Nat) (A0 : Option Addr) (c0 : Nat) (l0 : List Int) (A1 : Option Addr) (c1 : Nat) (l1 : List Int) (r : Bool) (w : World) (hr0 : Kd.C (Kd.int .u8) w A0 l0.length l0) (hc0 : l0.length ≤ c0) (hr1 : Kd.C (Kd.int .u8) w A1 l1.length l1) (hc1 : l1.length ≤ c1) (h : laws_FnPieces.f k l0 l1 = some r) :
  Calls Try.prog 11 #[.slice A0 l0.length c0, .slice A1 l1.length c1] w fun e w' => e = .returned (.bool r) ∧ Below w.heap.size w w' := by
 have hu43 := Try.underlying43
 have HR0 := Aside0.mk hr0
 have HC0 := Aside0.mk hc0
 clear hr0 hc0
 have HR1 := Aside0.mk hr1
 have HC1 := Aside0.mk hc1
 clear hr1 hc1
 have HB := Aside0.mk (Below.refl w.heap.size w)
 have H : ((laws_big.f l0 l1).bind fun t323 => (if t323 = true then (some true) else ((spec_DrawMakeOps.f k l0).bind fun bt324 => ((impl_MakeOps.f k bt324.1 bt324.2.1 bt324.2.2).bind fun bt327 => ((spec_MakeOps.f k bt324.1 bt324.2.1 bt324.2.2).bind fun bt331 => (if (bt327.2 != bt331.2) = true then (laws_FnPieces.j0 k l1 bt324.1 bt324.2.1 bt324.2.2 bt327.1 bt327.2 true) else ((laws_sameOps.f k bt327.1 bt331.1).bind fun t335 => (laws_FnPieces.j0 k l1 bt324.1 bt324.2.1 bt324.2.2 bt327.1 bt327.2 (!t335))))))))) = some r := h
 clear h
 replace H := Option.bind_eq_some_iff.mp H
 obtain ⟨t323, A30, H⟩ := H
 replace H : (if t323 = true then (some true) else ((spec_DrawMakeOps.f k l0).bind fun bt324 => ((impl_MakeOps.f k bt324.1 bt324.2.1 bt324.2.2).bind fun bt327 => ((spec_MakeOps.f k bt324.1 bt324.2.1 bt324.2.2).bind fun bt331 => (if (bt327.2 != bt331.2) = true then (laws_FnPieces.j0 k l1 bt324.1 bt324.2.1 bt324.2.2 bt327.1 bt327.2 true) else ((laws_sameOps.f k bt327.1 bt331.1).bind fun t335 => (laws_FnPieces.j0 k l1 bt324.1 bt324.2.1 bt324.2.2 bt327.1 bt327.2 (!t335)))))))) = some r := H
 have A3 := Aside0.mk A30
 clear A30
 by_cases c4 : t323 = true
 ·subst c4
  have H1 : (some true) = some r := by rw [if_pos rfl] at H; exact H
  clear H
  have H := H1
  clear H1
  obtain rfl := Option.some.inj H
  go_enter Try.func11, Try.ntmps11
  go_wp2_with (first | ((with_reducible refine gate_callee (f := 30) rfl ?_); refine goesL_ (some 38) rfl rfl Try.func30 (by kernel_rfl) rfl #[.slice A0 l0.length c0, .slice A1 l1.length c1] rfl (by (try simp only [List.map_toArray, List.map_cons, List.map_nil]); first | done | rfl | (simp only [List.length_drop, List.length_take]; rfl)) ?_; (with_reducible refine (laws_big.calls _ _ l0 _ _ l1 true _ ?side1 ?side2 ?side3 ?side4 A3.out).mono ?_); (case side1 => repeat (first | exact HR0.out | (with_reducible refine Kd.C_alloc ?_ _) | (with_reducible refine Kd.C_drewN ?_ _) | (with_reducible refine Kd.C_drew ?_))); (case side2 => exact HC0.out); (case side3 => repeat (first | exact HR1.out | (with_reducible refine Kd.C_alloc ?_ _) | (with_reducible refine Kd.C_drewN ?_ _) | (with_reducible refine Kd.C_drew ?_))); (case side4 => exact HC1.out); rintro e w' ⟨rfl, ⟨nd, rfl⟩⟩; refine ⟨_, rfl, ?_⟩))
  go_ret
  exact ⟨by first | rfl | (simp [errW_none, errW_some] <;> rfl) | (simp [*, errW_none, errW_some] <;> rfl), by repeat (first | (with_reducible first | exact HB.out | apply below_alloc | apply pw_below_drewN | apply below_drew1) | exact HB.out)⟩
 ·replace c4 := Bool.eq_false_iff.mpr c4
  subst c4
  have H1 : ((spec_DrawMakeOps.f k l0).bind fun bt324 => ((impl_MakeOps.f k bt324.1 bt324.2.1 bt324.2.2).bind fun bt327 => ((spec_MakeOps.f k bt324.1 bt324.2.1 bt324.2.2).bind fun bt331 => (if (bt327.2 != bt331.2) = true then (laws_FnPieces.j0 k l1 bt324.1 bt324.2.1 bt324.2.2 bt327.1 bt327.2 true) else ((laws_sameOps.f k bt327.1 bt331.1).bind fun t335 => (laws_FnPieces.j0 k l1 bt324.1 bt324.2.1 bt324.2.2 bt327.1 bt327.2 (!t335))))))) = some r := by rw [if_neg (show ¬ (false = true) by decide)] at H; exact H
  clear H
  have H := H1
  clear H1
  replace H := Option.bind_eq_some_iff.mp H
  obtain ⟨⟨t324, t325, t326⟩, A50, H⟩ := H
  replace H : ((impl_MakeOps.f k t324 t325 t326).bind fun bt327 => ((spec_MakeOps.f k t324 t325 t326).bind fun bt331 => (if (bt327.2 != bt331.2) = true then (laws_FnPieces.j0 k l1 t324 t325 t326 bt327.1 bt327.2 true) else ((laws_sameOps.f k bt327.1 bt331.1).bind fun t335 => (laws_FnPieces.j0 k l1 t324 t325 t326 bt327.1 bt327.2 (!t335)))))) = some r := H
  have A5 := Aside0.mk A50
  clear A50
  replace H := Option.bind_eq_some_iff.mp H
  obtain ⟨⟨t327, t328⟩, A60, H⟩ := H
  replace H : ((spec_MakeOps.f k t324 t325 t326).bind fun bt331 => (if (t328 != bt331.2) = true then (laws_FnPieces.j0 k l1 t324 t325 t326 t327 t328 true) else ((laws_sameOps.f k t327 bt331.1).bind fun t335 => (laws_FnPieces.j0 k l1 t324 t325 t326 t327 t328 (!t335))))) = some r := H
  have A6 := Aside0.mk A60
  clear A60
  replace H := Option.bind_eq_some_iff.mp H
  obtain ⟨⟨t331, t332⟩, A70, H⟩ := H
  replace H : (if (t328 != t332) = true then (laws_FnPieces.j0 k l1 t324 t325 t326 t327 t328 true) else ((laws_sameOps.f k t327 t331).bind fun t335 => (laws_FnPieces.j0 k l1 t324 t325 t326 t327 t328 (!t335)))) = some r := H
  have A7 := Aside0.mk A70
  clear A70
  have HC8 := Aside0.mk H
  clear H
  go_enter Try.func11, Try.ntmps11
  go_upto_region 6 with (first | ((with_reducible refine gate_callee (f := 30) rfl ?_); refine goesL_ (some 38) rfl rfl Try.func30 (by kernel_rfl) rfl #[.slice A0 l0.length c0, .slice A1 l1.length c1] rfl (by (try simp only [List.map_toArray, List.map_cons, List.map_nil]); first | done | rfl | (simp only [List.length_drop, List.length_take]; rfl)) ?_; (with_reducible refine (laws_big.calls _ _ l0 _ _ l1 false _ ?side1 ?side2 ?side3 ?side4 A3.out).mono ?_); (case side1 => repeat (first | exact HR0.out | (with_reducible refine Kd.C_alloc ?_ _) | (with_reducible refine Kd.C_drewN ?_ _) | (with_reducible refine Kd.C_drew ?_))); (case side2 => exact HC0.out); (case side3 => repeat (first | exact HR1.out | (with_reducible refine Kd.C_alloc ?_ _) | (with_reducible refine Kd.C_drewN ?_ _) | (with_reducible refine Kd.C_drew ?_))); (case side4 => exact HC1.out); rintro e w' ⟨rfl, ⟨nd, rfl⟩⟩; refine ⟨_, rfl, ?_⟩) | ((with_reducible refine gate_callee (f := 31) rfl ?_); refine goesL_ (some 41) rfl rfl Try.func31 (by kernel_rfl) rfl #[.slice A0 l0.length c0] rfl (by (try simp only [List.map_toArray, List.map_cons, List.map_nil]); first | done | rfl | (simp only [List.length_drop, List.length_take]; rfl)) ?_; (with_reducible refine (spec_DrawMakeOps.calls k _ _ l0 t324 t325 t326 _ ?side1 ?side2 A5.out).mono ?_); (case side1 => repeat (first | exact HR0.out | (with_reducible refine Kd.C_alloc ?_ _) | (with_reducible refine Kd.C_drewN ?_ _) | (with_reducible refine Kd.C_drew ?_))); (case side2 => exact HC0.out); rintro e w9 ⟨rfl, hb⟩; refine ⟨_, rfl, ?_⟩; have n0_ := Aside0.mk (below_step (by repeat (first | (with_reducible first | exact HB.out | apply below_alloc | apply pw_below_drewN | apply below_drew1) | exact HB.out)) hb); clear HB; have HB := n0_; clear n0_; (try clear hb); (try clear hb2); (try clear hk); (try clear hi)) | ((with_reducible refine gate_callee (f := 27) rfl ?_); refine goesL_ (some 49) rfl rfl Try.func27 (by kernel_rfl) rfl #[.string t324, .string t325, .int .i64 t326] rfl (by (try simp only [List.map_toArray, List.map_cons, List.map_nil]); first | done | rfl | (simp only [List.length_drop, List.length_take]; rfl)) ?_; (with_reducible refine (impl_MakeOps.calls k t324 t325 t326 t327 t328 _ A6.out).mono ?_); rintro e w10 ⟨v329, rfl, ho0, hb⟩; refine ⟨_, rfl, ?_⟩; have n0_ := Aside0.mk (Kd.R_lower ho0 (below_size (by repeat (first | (with_reducible first | exact HB.out | apply below_alloc | apply pw_below_drewN | apply below_drew1) | exact HB.out)))); have n1_ := Aside0.mk (below_step (by repeat (first | (with_reducible first | exact HB.out | apply below_alloc | apply pw_below_drewN | apply below_drew1) | exact HB.out)) hb); clear HB; have HO330 := n0_; have HB := n1_; clear n0_ n1_; (try clear hb); (try clear hb2); (try clear hk); (try clear hi); (try clear ho0)) | ((with_reducible refine gate_callee (f := 26) rfl ?_); refine goesL_ (some 56) rfl rfl Try.func26 (by kernel_rfl) rfl #[.string t324, .string t325, .int .i64 t326] rfl (by (try simp only [List.map_toArray, List.map_cons, List.map_nil]); first | done | rfl | (simp only [List.length_drop, List.length_take]; rfl)) ?_; (with_reducible refine (spec_MakeOps.calls k t324 t325 t326 t331 t332 _ A7.out).mono ?_); rintro e w11 ⟨v333, rfl, ho0, hb⟩; refine ⟨_, rfl, ?_⟩; have n0_ := Aside0.mk (Kd.R_elder' (by (with_reducible repeat (first | apply Kd.R_alloc | apply Kd.R_drewN | apply Kd.R_drew)); exact HO330.out) (Kd.R_base ho0) hb); have n1_ := Aside0.mk (Kd.R_lower (Kd.R_new' ho0 (Kd.R_lt (by (with_reducible repeat (first | apply Kd.R_alloc | apply Kd.R_drewN | apply Kd.R_drew)); exact HO330.out))) (below_size (by repeat (first | (with_reducible first | exact HB.out | apply below_alloc | apply pw_below_drewN | apply below_drew1) | exact HB.out)))); have n2_ := Aside0.mk (below_step (by repeat (first | (with_reducible first | exact HB.out | apply below_alloc | apply pw_below_drewN | apply below_drew1) | exact HB.out)) hb); clear HO330; clear HB; have HO330 := n0_; have HO334 := n1_; have HB := n2_; clear n0_ n1_ n2_; (try clear hb); (try clear hb2); (try clear hk); (try clear hi); (try clear ho0)))
  (try simp only [Act.put, List.setIfInBounds_toArray, List.set_cons_zero, List.set_cons_succ])
  go_cut [67] (fun v67 wc => ∃ (kq : Nat) (x67_7 : Bool), v67 = .bool x67_7 ∧ Aside0 (laws_FnPieces.j0 kq l1 t324 t325 t326 t327 t328 x67_7 = some r) ∧ Aside0 (kq ≤ k) ∧ Aside0 (Kd.R k43 43 wc w.heap.size (fun _ => True) v329 t327) ∧ Aside0 (Below w.heap.size w wc))
  case first => as_aux_lemma =>
   have H := HC8.out
   clear HC8
   by_cases c12 : (t328 != t332) = true
   ·rw [if_pos c12] at H
    have c12b0 : (t328 != t332) = true := c12
    (try (have c12b1 : decide (t328 = t332) = false := by simpa using c12))
    (try (have c12b2 : (t328 == t332) = false := by simpa using c12))
    (try (have c12b3 : ¬ (t328 = t332) := by simpa using c12))
    clear c12
    (first | rw [c12b0] | (simp only [i64_w, i32_w]; rw [c12b0]) | skip)
    have H' := Aside0.mk H
    clear H
    go_wp2
    go_meet
    case rel => exact ⟨_, (true), (by first | rfl | (simp; done) | (simp [*]; done)), H', ⟨by first | omega | exact Nat.le_refl _⟩, ⟨by (with_reducible repeat (first | apply Kd.R_alloc | apply Kd.R_drewN | apply Kd.R_drew)); exact Kd.R_mono HO330.out (fun _ hk => trivial)⟩, ⟨by repeat (first | (with_reducible first | exact HB.out | apply below_alloc | apply pw_below_drewN | apply below_drew1) | exact HB.out)⟩⟩
   ·rw [if_neg c12] at H
    have c12b0 : (t328 != t332) = false := by simpa using c12
    (try (have c12b1 : decide (t328 = t332) = true := by simpa using c12))
    (try (have c12b2 : (t328 == t332) = true := by simpa using c12))
    clear c12
    (first | rw [c12b0] | (simp only [i64_w, i32_w]; rw [c12b0]) | skip)
    replace H := Option.bind_eq_some_iff.mp H
    obtain ⟨t335, A130, H⟩ := H
    replace H : (laws_FnPieces.j0 k l1 t324 t325 t326 t327 t328 (!t335)) = some r := H
    have A13 := Aside0.mk A130
    clear A130
    have H' := Aside0.mk H
    clear H
    obtain ⟨Ao14, co14, eo14⟩ := Kd.R_slice HO330.out
    subst eo14
    obtain ⟨Ao15, co15, eo15⟩ := Kd.R_slice HO334.out
    subst eo15
    go_wp2_with (first | (go_at_call 32; (with_reducible refine (laws_sameOps.calls k _ _ t327 _ _ t331 t335 _ ?side1 ?side2 ?side3 ?side4 A13.out).mono ?_); (case side1 => repeat (first | exact (Kd.R_reads' HO330.out).2.2 | (with_reducible refine Kd.C_alloc ?_ _) | (with_reducible refine Kd.C_drewN ?_ _) | (with_reducible refine Kd.C_drew ?_))); (case side2 => exact (Kd.R_reads' HO330.out).2.1); (case side3 => repeat (first | exact (Kd.R_reads' HO334.out).2.2 | (with_reducible refine Kd.C_alloc ?_ _) | (with_reducible refine Kd.C_drewN ?_ _) | (with_reducible refine Kd.C_drew ?_))); (case side4 => exact (Kd.R_reads' HO334.out).2.1); rintro e w' ⟨rfl, ⟨nd, rfl⟩⟩))
    go_meet
    case rel => exact ⟨_, (!t335), (by first | rfl | (simp; done) | (simp [*]; done)), H', ⟨by first | omega | exact Nat.le_refl _⟩, ⟨by (with_reducible repeat (first | apply Kd.R_alloc | apply Kd.R_drewN | apply Kd.R_drew)); exact Kd.R_mono HO330.out (fun _ hk => trivial)⟩, ⟨by repeat (first | (with_reducible first | exact HB.out | apply below_alloc | apply pw_below_drewN | apply below_drew1) | exact HB.out)⟩⟩
  case rest => as_aux_lemma =>
   clear HC8
   try clear c1
   try clear c2
   try clear p2
   try clear c3
   try clear c4
   try clear c11
   try clear c12
   try clear c12b0
   try clear c12b1
   try clear c12b2
   obtain ⟨kq, x67_7, rfl, HA, HJ7, HO_8, HB⟩ := hcut
   cases kq with
   | zero => exact absurd HA.out (by simp [laws_FnPieces.j0])
   | succ kj7 =>
    have H := HA.out
    clear HA
    simp only [laws_FnPieces.j0] at H
    by_cases c16 : x67_7 = true
    ·subst c16
     have H1 : (some false) = some r := by rw [if_pos rfl] at H; exact H
     clear H
     have H := H1
     clear H1
     obtain rfl := Option.some.inj H
     go_wp2
     go_ret
     exact ⟨by first | rfl | (simp [errW_none, errW_some] <;> rfl) | (simp [*, errW_none, errW_some] <;> rfl), by repeat (first | (with_reducible first | exact HB.out | apply below_alloc | apply pw_below_drewN | apply below_drew1) | exact HB.out)⟩
    ·replace c16 := Bool.eq_false_iff.mpr c16
     subst c16
     have H1 : (if t328 = true then ((impl_DoOps.f kj7 t324 t327).bind fun bt336 => ((impl_CopiedIn.f kj7 t327).bind fun bt338 => ((impl_TidyOps.f kj7 t324 t327).bind fun bt341 => ((impl_DoOps.f kj7 t324 bt341.1).bind fun bt345 => (laws_FnPieces.j1 kj7 l1 t324 t325 t326 t327 bt336.1 bt336.2 bt338.1 bt338.2.1 bt338.2.2 bt341.1 bt341.2 bt345.1 bt345.2))))) else (laws_FnPieces.j4 kj7 l1)) = some r := by rw [if_neg (show ¬ (false = true) by decide)] at H; exact H
     clear H
     have H := H1
     clear H1
     have HC17 := Aside0.mk H
     clear H
     go_upto_if 68 with (fail)
     go_cut [] (fun wc => ∃ (kq : Nat), Aside0 (laws_FnPieces.j4 kq l1 = some r) ∧ Aside0 (kq ≤ kj7) ∧ Aside0 (Below w.heap.size w wc))
     case first => as_aux_lemma =>
      have H := HC17.out
      clear HC17
      by_cases c18 : t328 = true
      ·subst c18
       have H1 : ((impl_DoOps.f kj7 t324 t327).bind fun bt336 => ((impl_CopiedIn.f kj7 t327).bind fun bt338 => ((impl_TidyOps.f kj7 t324 t327).bind fun bt341 => ((impl_DoOps.f kj7 t324 bt341.1).bind fun bt345 => (laws_FnPieces.j1 kj7 l1 t324 t325 t326 t327 bt336.1 bt336.2 bt338.1 bt338.2.1 bt338.2.2 bt341.1 bt341.2 bt345.1 bt345.2))))) = some r := by rw [if_pos rfl] at H; exact H
       clear H
       have H := H1
       clear H1
       replace H := Option.bind_eq_some_iff.mp H
       obtain ⟨⟨t336, t337⟩, A190, H⟩ := H
       replace H : ((impl_CopiedIn.f kj7 t327).bind fun bt338 => ((impl_TidyOps.f kj7 t324 t327).bind fun bt341 => ((impl_DoOps.f kj7 t324 bt341.1).bind fun bt345 => (laws_FnPieces.j1 kj7 l1 t324 t325 t326 t327 t336 t337 bt338.1 bt338.2.1 bt338.2.2 bt341.1 bt341.2 bt345.1 bt345.2)))) = some r := H
       have A19 := Aside0.mk A190
       clear A190
       replace H := Option.bind_eq_some_iff.mp H
       obtain ⟨⟨t338, t339, t340⟩, A200, H⟩ := H
       replace H : ((impl_TidyOps.f kj7 t324 t327).bind fun bt341 => ((impl_DoOps.f kj7 t324 bt341.1).bind fun bt345 => (laws_FnPieces.j1 kj7 l1 t324 t325 t326 t327 t336 t337 t338 t339 t340 bt341.1 bt341.2 bt345.1 bt345.2))) = some r := H
       have A20 := Aside0.mk A200
       clear A200
       replace H := Option.bind_eq_some_iff.mp H
       obtain ⟨⟨t341, t342⟩, A210, H⟩ := H
       replace H : ((impl_DoOps.f kj7 t324 t341).bind fun bt345 => (laws_FnPieces.j1 kj7 l1 t324 t325 t326 t327 t336 t337 t338 t339 t340 t341 t342 bt345.1 bt345.2)) = some r := H
       have A21 := Aside0.mk A210
       clear A210
       have HC22 := Aside0.mk H
       clear H
       obtain ⟨Ao23, co23, eo23⟩ := Kd.R_slice HO_8.out
       subst eo23
       go_upto_region 12 with (first | ((with_reducible refine gate_callee (f := 23) rfl ?_); refine goesL_ (some 72) rfl rfl Try.func23 (by kernel_rfl) rfl #[.string t324, .slice Ao23 t327.length co23] rfl (by (try simp only [List.map_toArray, List.map_cons, List.map_nil]); first | done | rfl | (simp only [List.length_drop, List.length_take]; rfl)) ?_; (with_reducible refine (impl_DoOps.calls kj7 t324 _ _ t327 t336 t337 _ ?side1 ?side2 A19.out).mono ?_); (case side1 => repeat (first | exact (Kd.R_reads' HO_8.out).2.2 | (with_reducible refine Kd.C_alloc ?_ _) | (with_reducible refine Kd.C_drewN ?_ _) | (with_reducible refine Kd.C_drew ?_))); (case side2 => exact (Kd.R_reads' HO_8.out).2.1); rintro e w24 ⟨rfl, hb⟩; refine ⟨_, rfl, ?_⟩; have n0_ := Aside0.mk (Kd.R_below (by (with_reducible repeat (first | apply Kd.R_alloc | apply Kd.R_drewN | apply Kd.R_drew)); exact HO_8.out) hb); have n1_ := Aside0.mk (below_step (by repeat (first | (with_reducible first | exact HB.out | apply below_alloc | apply pw_below_drewN | apply below_drew1) | exact HB.out)) hb); clear HO_8; clear HB; have HO_8 := n0_; have HB := n1_; clear n0_ n1_; (try clear hb); (try clear hb2); (try clear hk); (try clear hi)) | ((with_reducible refine gate_callee (f := 18) rfl ?_); refine goesL_ (some 77) rfl rfl Try.func18 (by kernel_rfl) rfl #[.slice Ao23 t327.length co23] rfl (by (try simp only [List.map_toArray, List.map_cons, List.map_nil]); first | done | rfl | (simp only [List.length_drop, List.length_take]; rfl)) ?_; (with_reducible refine (impl_CopiedIn.calls kj7 _ _ t327 t338 t339 t340 _ ?side1 ?side2 A20.out).mono ?_); (case side1 => repeat (first | exact (Kd.R_reads' HO_8.out).2.2 | (with_reducible refine Kd.C_alloc ?_ _) | (with_reducible refine Kd.C_drewN ?_ _) | (with_reducible refine Kd.C_drew ?_))); (case side2 => exact (Kd.R_reads' HO_8.out).2.1); rintro e w25 ⟨rfl, hb⟩; refine ⟨_, rfl, ?_⟩; have n0_ := Aside0.mk (Kd.R_below (by (with_reducible repeat (first | apply Kd.R_alloc | apply Kd.R_drewN | apply Kd.R_drew)); exact HO_8.out) hb); have n1_ := Aside0.mk (below_step (by repeat (first | (with_reducible first | exact HB.out | apply below_alloc | apply pw_below_drewN | apply below_drew1) | exact HB.out)) hb); clear HO_8; clear HB; have HO_8 := n0_; have HB := n1_; clear n0_ n1_; (try clear hb); (try clear hb2); (try clear hk); (try clear hi)) | ((with_reducible refine gate_callee (f := 34) rfl ?_); refine goesL_ (some 84) rfl rfl Try.func34 (by kernel_rfl) rfl #[.string t324, .slice Ao23 t327.length co23] rfl (by (try simp only [List.map_toArray, List.map_cons, List.map_nil]); first | done | rfl | (simp only [List.length_drop, List.length_take]; rfl)) ?_; (with_reducible refine (impl_TidyOps.calls kj7 t324 _ _ t327 t341 t342 _ ?side1 ?side2 A21.out).mono ?_); (case side1 => repeat (first | exact (Kd.R_reads' HO_8.out).2.2 | (with_reducible refine Kd.C_alloc ?_ _) | (with_reducible refine Kd.C_drewN ?_ _) | (with_reducible refine Kd.C_drew ?_))); (case side2 => exact (Kd.R_reads' HO_8.out).2.1); rintro e w26 ⟨v343, rfl, ho0, hb⟩; refine ⟨_, rfl, ?_⟩; have n0_ := Aside0.mk (Kd.R_elder' (by (with_reducible repeat (first | apply Kd.R_alloc | apply Kd.R_drewN | apply Kd.R_drew)); exact HO_8.out) (Kd.R_base ho0) hb); have n1_ := Aside0.mk (Kd.R_lower (Kd.R_new' ho0 (Kd.R_lt (by (with_reducible repeat (first | apply Kd.R_alloc | apply Kd.R_drewN | apply Kd.R_drew)); exact HO_8.out))) (below_size (by repeat (first | (with_reducible first | exact HB.out | apply below_alloc | apply pw_below_drewN | apply below_drew1) | exact HB.out)))); have n2_ := Aside0.mk (below_step (by repeat (first | (with_reducible first | exact HB.out | apply below_alloc | apply pw_below_drewN | apply below_drew1) | exact HB.out)) hb); clear HO_8; clear HB; have HO_8 := n0_; have HO344 := n1_; have HB := n2_; clear n0_ n1_ n2_; (try clear hb); (try clear hb2); (try clear hk); (try clear hi); (try clear ho0)))
       (try simp only [Act.put, List.setIfInBounds_toArray, List.set_cons_zero, List.set_cons_succ])
       go_cut [19, 20] (fun v19 v20 wc => ∃ (kq : Nat) (x19_21 : ByteArray) (x20_21 : Bool), v19 = .string x19_21 ∧ v20 = .bool x20_21 ∧ Aside0 (laws_FnPieces.j1 kq l1 t324 t325 t326 t327 t336 t337 t338 t339 t340 t341 t342 x19_21 x20_21 = some r) ∧ Aside0 (kq ≤ kj7) ∧ Aside0 (Kd.R k43 43 wc w.heap.size (fun k_ => some k_ ≠ (v343 : Value).ownBlock) (.slice Ao23 t327.length co23) t327) ∧ Aside0 (Kd.R k43 43 wc w.heap.size (fun k_ => some k_ ≠ ((.slice Ao23 t327.length co23) : Value).ownBlock) v343 t341) ∧ Aside0 (Below w.heap.size w wc))
       case first => as_aux_lemma =>
        have H := HC22.out
        clear HC22
        replace H := Option.bind_eq_some_iff.mp H
        obtain ⟨⟨t345, t346⟩, A270, H⟩ := H
        replace H : (laws_FnPieces.j1 kj7 l1 t324 t325 t326 t327 t336 t337 t338 t339 t340 t341 t342 t345 t346) = some r := H
        have A27 := Aside0.mk A270
        clear A270
        have H' := Aside0.mk H
        clear H
        obtain ⟨Ao28, co28, eo28⟩ := Kd.R_slice HO344.out
        subst eo28
        go_wp2_with (first | ((with_reducible refine gate_callee (f := 23) rfl ?_); refine goesL_ (some 90) rfl rfl Try.func23 (by kernel_rfl) rfl #[.string t324, .slice Ao28 t341.length co28] rfl (by (try simp only [List.map_toArray, List.map_cons, List.map_nil]); first | done | rfl | (simp only [List.length_drop, List.length_take]; rfl)) ?_; (with_reducible refine (impl_DoOps.calls kj7 t324 _ _ t341 t345 t346 _ ?side1 ?side2 A27.out).mono ?_); (case side1 => repeat (first | exact (Kd.R_reads' HO344.out).2.2 | (with_reducible refine Kd.C_alloc ?_ _) | (with_reducible refine Kd.C_drewN ?_ _) | (with_reducible refine Kd.C_drew ?_))); (case side2 => exact (Kd.R_reads' HO344.out).2.1); rintro e w29 ⟨rfl, hb⟩; refine ⟨_, rfl, ?_⟩; have n0_ := Aside0.mk (Kd.R_below (by (with_reducible repeat (first | apply Kd.R_alloc | apply Kd.R_drewN | apply Kd.R_drew)); exact HO_8.out) hb); have n1_ := Aside0.mk (Kd.R_below (by (with_reducible repeat (first | apply Kd.R_alloc | apply Kd.R_drewN | apply Kd.R_drew)); exact HO344.out) hb); have n2_ := Aside0.mk (below_step (by repeat (first | (with_reducible first | exact HB.out | apply below_alloc | apply pw_below_drewN | apply below_drew1) | exact HB.out)) hb); clear HO_8; clear HO344; clear HB; have HO_8 := n0_; have HO344 := n1_; have HB := n2_; clear n0_ n1_ n2_; (try clear hb); (try clear hb2); (try clear hk); (try clear hi)))
        go_meet
        case rel => exact ⟨_, (t345), (t346), (by first | rfl | (simp; done) | (simp [*]; done)), (by first | rfl | (simp; done) | (simp [*]; done)), H', ⟨by have := HJ7.out; first | omega | exact Nat.le_refl _⟩, ⟨by (with_reducible repeat (first | apply Kd.R_alloc | apply Kd.R_drewN | apply Kd.R_drew)); exact Kd.R_mono HO_8.out (fun _ hk => hk.2)⟩, ⟨by (with_reducible repeat (first | apply Kd.R_alloc | apply Kd.R_drewN | apply Kd.R_drew)); exact Kd.R_mono HO344.out (fun _ hk => hk.2)⟩, ⟨by repeat (first | (with_reducible first | exact HB.out | apply below_alloc | apply pw_below_drewN | apply below_drew1) | exact HB.out)⟩⟩
       case rest => as_aux_lemma =>
        clear HC22
        try clear c1
        try clear c2
        try clear p2
        try clear c3
        try clear c4
        try clear c11
        try clear c12
        try clear c12b0
        try clear c12b1
        try clear c12b2
        try clear c16
        try clear c18
        try clear c23
        try clear c26
        try clear c27
        try clear p2
        obtain ⟨kq, x19_21, x20_21, rfl, rfl, HA, HJ21, HO_8, HO_17, HB⟩ := hcut
        cases kq with
        | zero => exact absurd HA.out (by simp [laws_FnPieces.j1])
        | succ kj21 =>
         have H := HA.out
         clear HA
         simp only [laws_FnPieces.j1] at H
         have HC30 := Aside0.mk H
         clear H
         go_upto_region 13 with (fail)
         go_cut [137] (fun v137 wc => ∃ (kq : Nat) (x137_29 : Bool), v137 = .bool x137_29 ∧ Aside0 (laws_FnPieces.j2 kq l1 t326 t327 x137_29 = some r) ∧ Aside0 (kq ≤ kj21) ∧ Aside0 (Kd.R k43 43 wc w.heap.size (fun _ => True) (.slice Ao23 t327.length co23) t327) ∧ Aside0 (Below w.heap.size w wc))
         case first => as_aux_lemma =>
          have H := HC30.out
          clear HC30
          replace H := Option.bind_eq_some_iff.mp H
          obtain ⟨t347, A310, H⟩ := H
          replace H : (if t347 = true then (if t337 = true then (if t336.toList = t325.toList then (if t340 = true then (if (wrap64 (t338 + t339)) = (t325.size : Int) then (if t342 = true then (if x20_21 = true then (if x19_21.toList = t325.toList then (laws_FnPieces.j2 kj21 l1 t326 t327 (decide ((t341.length : Int) > (t327.length : Int)))) else (laws_FnPieces.j2 kj21 l1 t326 t327 true)) else (laws_FnPieces.j2 kj21 l1 t326 t327 true)) else (laws_FnPieces.j2 kj21 l1 t326 t327 true)) else (laws_FnPieces.j2 kj21 l1 t326 t327 true)) else (laws_FnPieces.j2 kj21 l1 t326 t327 true)) else (laws_FnPieces.j2 kj21 l1 t326 t327 true)) else (laws_FnPieces.j2 kj21 l1 t326 t327 true)) else (laws_FnPieces.j2 kj21 l1 t326 t327 true)) = some r := H
          have A31 := Aside0.mk A310
          clear A310
          by_cases c32 : t347 = true
          ·subst c32
           have H1 : (if t337 = true then (if t336.toList = t325.toList then (if t340 = true then (if (wrap64 (t338 + t339)) = (t325.size : Int) then (if t342 = true then (if x20_21 = true then (if x19_21.toList = t325.toList then (laws_FnPieces.j2 kj21 l1 t326 t327 (decide ((t341.length : Int) > (t327.length : Int)))) else (laws_FnPieces.j2 kj21 l1 t326 t327 true)) else (laws_FnPieces.j2 kj21 l1 t326 t327 true)) else (laws_FnPieces.j2 kj21 l1 t326 t327 true)) else (laws_FnPieces.j2 kj21 l1 t326 t327 true)) else (laws_FnPieces.j2 kj21 l1 t326 t327 true)) else (laws_FnPieces.j2 kj21 l1 t326 t327 true)) else (laws_FnPieces.j2 kj21 l1 t326 t327 true)) = some r := by rw [if_pos rfl] at H; exact H
           clear H
           have H := H1
           clear H1
           by_cases c33 : t337 = true
           ·subst c33
            have H1 : (if t336.toList = t325.toList then (if t340 = true then (if (wrap64 (t338 + t339)) = (t325.size : Int) then (if t342 = true then (if x20_21 = true then (if x19_21.toList = t325.toList then (laws_FnPieces.j2 kj21 l1 t326 t327 (decide ((t341.length : Int) > (t327.length : Int)))) else (laws_FnPieces.j2 kj21 l1 t326 t327 true)) else (laws_FnPieces.j2 kj21 l1 t326 t327 true)) else (laws_FnPieces.j2 kj21 l1 t326 t327 true)) else (laws_FnPieces.j2 kj21 l1 t326 t327 true)) else (laws_FnPieces.j2 kj21 l1 t326 t327 true)) else (laws_FnPieces.j2 kj21 l1 t326 t327 true)) = some r := by rw [if_pos rfl] at H; exact H
            clear H
            have H := H1
            clear H1
            by_cases c34 : t336.toList = t325.toList
            ·rw [if_pos c34] at H
             have c34b0 : (t336.toList == t325.toList) = true := beq_iff_eq.mpr c34
             have c34b1 : (t336.toList != t325.toList) = false := bne_eq_false_iff_eq.mpr c34
             clear c34
             (first | rw [c34b0] | (simp only [i64_w, i32_w]; rw [c34b0]) | skip)
             by_cases c35 : t340 = true
             ·subst c35
              have H1 : (if (wrap64 (t338 + t339)) = (t325.size : Int) then (if t342 = true then (if x20_21 = true then (if x19_21.toList = t325.toList then (laws_FnPieces.j2 kj21 l1 t326 t327 (decide ((t341.length : Int) > (t327.length : Int)))) else (laws_FnPieces.j2 kj21 l1 t326 t327 true)) else (laws_FnPieces.j2 kj21 l1 t326 t327 true)) else (laws_FnPieces.j2 kj21 l1 t326 t327 true)) else (laws_FnPieces.j2 kj21 l1 t326 t327 true)) = some r := by rw [if_pos rfl] at H; exact H
              clear H
              have H := H1
              clear H1
              by_cases c36 : (wrap64 (t338 + t339)) = (t325.size : Int)
              ·rw [if_pos c36] at H
               have c36b0 : ((wrap64 (t338 + t339)) == (t325.size : Int)) = true := beq_iff_eq.mpr c36
               have c36b1 : ((wrap64 (t338 + t339)) != (t325.size : Int)) = false := bne_eq_false_iff_eq.mpr c36
               clear c36
               by_cases c37 : t342 = true
               ·subst c37
                have H1 : (if x20_21 = true then (if x19_21.toList = t325.toList then (laws_FnPieces.j2 kj21 l1 t326 t327 (decide ((t341.length : Int) > (t327.length : Int)))) else (laws_FnPieces.j2 kj21 l1 t326 t327 true)) else (laws_FnPieces.j2 kj21 l1 t326 t327 true)) = some r := by rw [if_pos rfl] at H; exact H
                clear H
                have H := H1
                clear H1
                by_cases c38 : x20_21 = true
                ·subst c38
                 have H1 : (if x19_21.toList = t325.toList then (laws_FnPieces.j2 kj21 l1 t326 t327 (decide ((t341.length : Int) > (t327.length : Int)))) else (laws_FnPieces.j2 kj21 l1 t326 t327 true)) = some r := by rw [if_pos rfl] at H; exact H
                 clear H
                 have H := H1
                 clear H1
                 by_cases c39 : x19_21.toList = t325.toList
                 ·rw [if_pos c39] at H
                  have c39b0 : (x19_21.toList == t325.toList) = true := beq_iff_eq.mpr c39
                  have c39b1 : (x19_21.toList != t325.toList) = false := bne_eq_false_iff_eq.mpr c39
                  clear c39
                  have H' := Aside0.mk H
                  clear H
                  go_wp2_with (first | ((with_reducible refine gate_callee (f := 21) rfl ?_); refine goesL_ (some 95) rfl rfl Try.func21 (by kernel_rfl) rfl #[.string t324, .slice Ao23 t327.length co23] rfl (by (try simp only [List.map_toArray, List.map_cons, List.map_nil]); first | done | rfl | (simp only [List.length_drop, List.length_take]; rfl)) ?_; (with_reducible refine (impl_GoodOps.calls kj21 t324 _ _ t327 true _ ?side1 ?side2 A31.out).mono ?_); (case side1 => repeat (first | exact (Kd.R_reads' HO_8.out).2.2 | (with_reducible refine Kd.C_alloc ?_ _) | (with_reducible refine Kd.C_drewN ?_ _) | (with_reducible refine Kd.C_drew ?_))); (case side2 => exact (Kd.R_reads' HO_8.out).2.1); rintro e w40 ⟨rfl, hb⟩; refine ⟨_, rfl, ?_⟩; have n0_ := Aside0.mk (Kd.R_below (by (with_reducible repeat (first | apply Kd.R_alloc | apply Kd.R_drewN | apply Kd.R_drew)); exact HO_8.out) hb); have n1_ := Aside0.mk (Kd.R_below (by (with_reducible repeat (first | apply Kd.R_alloc | apply Kd.R_drewN | apply Kd.R_drew)); exact HO_17.out) hb); have n2_ := Aside0.mk (below_step (by repeat (first | (with_reducible first | exact HB.out | apply below_alloc | apply pw_below_drewN | apply below_drew1) | exact HB.out)) hb); clear HO_8; clear HO_17; clear HB; have HO_8 := n0_; have HO_17 := n1_; have HB := n2_; clear n0_ n1_ n2_; (try clear hb); (try clear hb2); (try clear hk); (try clear hi); obtain ⟨Ao41, co41, eo41⟩ := Kd.R_slice HO_17.out; subst eo41))
                  go_meet
                  case rel => exact ⟨_, (decide ((t341.length : Int) > (t327.length : Int))), (by first | rfl | (simp; done) | (simp [*]; done)), H', ⟨by have := HJ7.out; have := HJ21.out; first | omega | exact Nat.le_refl _⟩, ⟨by (with_reducible repeat (first | apply Kd.R_alloc | apply Kd.R_drewN | apply Kd.R_drew)); exact Kd.R_mono HO_8.out (fun _ hk => trivial)⟩, ⟨by repeat (first | (with_reducible first | exact HB.out | apply below_alloc | apply pw_below_drewN | apply below_drew1) | exact HB.out)⟩⟩
                 ·rw [if_neg c39] at H
                  have c39b0 : (x19_21.toList == t325.toList) = false := beq_eq_false_iff_ne.mpr c39
                  have c39b1 : (x19_21.toList != t325.toList) = true := bne_iff_ne.mpr c39
                  have H' := Aside0.mk H
                  clear H
                  go_wp2_with (first | ((with_reducible refine gate_callee (f := 21) rfl ?_); refine goesL_ (some 95) rfl rfl Try.func21 (by kernel_rfl) rfl #[.string t324, .slice Ao23 t327.length co23] rfl (by (try simp only [List.map_toArray, List.map_cons, List.map_nil]); first | done | rfl | (simp only [List.length_drop, List.length_take]; rfl)) ?_; (with_reducible refine (impl_GoodOps.calls kj21 t324 _ _ t327 true _ ?side1 ?side2 A31.out).mono ?_); (case side1 => repeat (first | exact (Kd.R_reads' HO_8.out).2.2 | (with_reducible refine Kd.C_alloc ?_ _) | (with_reducible refine Kd.C_drewN ?_ _) | (with_reducible refine Kd.C_drew ?_))); (case side2 => exact (Kd.R_reads' HO_8.out).2.1); rintro e w42 ⟨rfl, hb⟩; refine ⟨_, rfl, ?_⟩; have n0_ := Aside0.mk (Kd.R_below (by (with_reducible repeat (first | apply Kd.R_alloc | apply Kd.R_drewN | apply Kd.R_drew)); exact HO_8.out) hb); have n1_ := Aside0.mk (Kd.R_below (by (with_reducible repeat (first | apply Kd.R_alloc | apply Kd.R_drewN | apply Kd.R_drew)); exact HO_17.out) hb); have n2_ := Aside0.mk (below_step (by repeat (first | (with_reducible first | exact HB.out | apply below_alloc | apply pw_below_drewN | apply below_drew1) | exact HB.out)) hb); clear HO_8; clear HO_17; clear HB; have HO_8 := n0_; have HO_17 := n1_; have HB := n2_; clear n0_ n1_ n2_; (try clear hb); (try clear hb2); (try clear hk); (try clear hi)))
                  go_meet
                  case rel => exact ⟨_, (true), (by first | rfl | (simp; done) | (simp [*]; done)), H', ⟨by have := HJ7.out; have := HJ21.out; first | omega | exact Nat.le_refl _⟩, ⟨by (with_reducible repeat (first | apply Kd.R_alloc | apply Kd.R_drewN | apply Kd.R_drew)); exact Kd.R_mono HO_8.out (fun _ hk => trivial)⟩, ⟨by repeat (first | (with_reducible first | exact HB.out | apply below_alloc | apply pw_below_drewN | apply below_drew1) | exact HB.out)⟩⟩
                ·replace c38 := Bool.eq_false_iff.mpr c38
                 subst c38
                 have H1 : (laws_FnPieces.j2 kj21 l1 t326 t327 true) = some r := by rw [if_neg (show ¬ (false = true) by decide)] at H; exact H
                 clear H
                 have H := H1
                 clear H1
                 have H' := Aside0.mk H
                 clear H
                 go_wp2_with (first | ((with_reducible refine gate_callee (f := 21) rfl ?_); refine goesL_ (some 95) rfl rfl Try.func21 (by kernel_rfl) rfl #[.string t324, .slice Ao23 t327.length co23] rfl (by (try simp only [List.map_toArray, List.map_cons, List.map_nil]); first | done | rfl | (simp only [List.length_drop, List.length_take]; rfl)) ?_; (with_reducible refine (impl_GoodOps.calls kj21 t324 _ _ t327 true _ ?side1 ?side2 A31.out).mono ?_); (case side1 => repeat (first | exact (Kd.R_reads' HO_8.out).2.2 | (with_reducible refine Kd.C_alloc ?_ _) | (with_reducible refine Kd.C_drewN ?_ _) | (with_reducible refine Kd.C_drew ?_))); (case side2 => exact (Kd.R_reads' HO_8.out).2.1); rintro e w43 ⟨rfl, hb⟩; refine ⟨_, rfl, ?_⟩; have n0_ := Aside0.mk (Kd.R_below (by (with_reducible repeat (first | apply Kd.R_alloc | apply Kd.R_drewN | apply Kd.R_drew)); exact HO_8.out) hb); have n1_ := Aside0.mk (Kd.R_below (by (with_reducible repeat (first | apply Kd.R_alloc | apply Kd.R_drewN | apply Kd.R_drew)); exact HO_17.out) hb); have n2_ := Aside0.mk (below_step (by repeat (first | (with_reducible first | exact HB.out | apply below_alloc | apply pw_below_drewN | apply below_drew1) | exact HB.out)) hb); clear HO_8; clear HO_17; clear HB; have HO_8 := n0_; have HO_17 := n1_; have HB := n2_; clear n0_ n1_ n2_; (try clear hb); (try clear hb2); (try clear hk); (try clear hi)))
                 go_meet
                 case rel => exact ⟨_, (true), (by first | rfl | (simp; done) | (simp [*]; done)), H', ⟨by have := HJ7.out; have := HJ21.out; first | omega | exact Nat.le_refl _⟩, ⟨by (with_reducible repeat (first | apply Kd.R_alloc | apply Kd.R_drewN | apply Kd.R_drew)); exact Kd.R_mono HO_8.out (fun _ hk => trivial)⟩, ⟨by repeat (first | (with_reducible first | exact HB.out | apply below_alloc | apply pw_below_drewN | apply below_drew1) | exact HB.out)⟩⟩
               ·replace c37 := Bool.eq_false_iff.mpr c37
                subst c37
                have H1 : (laws_FnPieces.j2 kj21 l1 t326 t327 true) = some r := by rw [if_neg (show ¬ (false = true) by decide)] at H; exact H
                clear H
                have H := H1
                clear H1
                have H' := Aside0.mk H
                clear H
                go_wp2_with (first | ((with_reducible refine gate_callee (f := 21) rfl ?_); refine goesL_ (some 95) rfl rfl Try.func21 (by kernel_rfl) rfl #[.string t324, .slice Ao23 t327.length co23] rfl (by (try simp only [List.map_toArray, List.map_cons, List.map_nil]); first | done | rfl | (simp only [List.length_drop, List.length_take]; rfl)) ?_; (with_reducible refine (impl_GoodOps.calls kj21 t324 _ _ t327 true _ ?side1 ?side2 A31.out).mono ?_); (case side1 => repeat (first | exact (Kd.R_reads' HO_8.out).2.2 | (with_reducible refine Kd.C_alloc ?_ _) | (with_reducible refine Kd.C_drewN ?_ _) | (with_reducible refine Kd.C_drew ?_))); (case side2 => exact (Kd.R_reads' HO_8.out).2.1); rintro e w44 ⟨rfl, hb⟩; refine ⟨_, rfl, ?_⟩; have n0_ := Aside0.mk (Kd.R_below (by (with_reducible repeat (first | apply Kd.R_alloc | apply Kd.R_drewN | apply Kd.R_drew)); exact HO_8.out) hb); have n1_ := Aside0.mk (Kd.R_below (by (with_reducible repeat (first | apply Kd.R_alloc | apply Kd.R_drewN | apply Kd.R_drew)); exact HO_17.out) hb); have n2_ := Aside0.mk (below_step (by repeat (first | (with_reducible first | exact HB.out | apply below_alloc | apply pw_below_drewN | apply below_drew1) | exact HB.out)) hb); clear HO_8; clear HO_17; clear HB; have HO_8 := n0_; have HO_17 := n1_; have HB := n2_; clear n0_ n1_ n2_; (try clear hb); (try clear hb2); (try clear hk); (try clear hi)))
                go_meet
                case rel => exact ⟨_, (true), (by first | rfl | (simp; done) | (simp [*]; done)), H', ⟨by have := HJ7.out; have := HJ21.out; first | omega | exact Nat.le_refl _⟩, ⟨by (with_reducible repeat (first | apply Kd.R_alloc | apply Kd.R_drewN | apply Kd.R_drew)); exact Kd.R_mono HO_8.out (fun _ hk => trivial)⟩, ⟨by repeat (first | (with_reducible first | exact HB.out | apply below_alloc | apply pw_below_drewN | apply below_drew1) | exact HB.out)⟩⟩
              ·rw [if_neg c36] at H
               have c36b0 : ((wrap64 (t338 + t339)) == (t325.size : Int)) = false := beq_eq_false_iff_ne.mpr c36
               have c36b1 : ((wrap64 (t338 + t339)) != (t325.size : Int)) = true := bne_iff_ne.mpr c36
               have H' := Aside0.mk H
               clear H
               go_wp2_with (first | ((with_reducible refine gate_callee (f := 21) rfl ?_); refine goesL_ (some 95) rfl rfl Try.func21 (by kernel_rfl) rfl #[.string t324, .slice Ao23 t327.length co23] rfl (by (try simp only [List.map_toArray, List.map_cons, List.map_nil]); first | done | rfl | (simp only [List.length_drop, List.length_take]; rfl)) ?_; (with_reducible refine (impl_GoodOps.calls kj21 t324 _ _ t327 true _ ?side1 ?side2 A31.out).mono ?_); (case side1 => repeat (first | exact (Kd.R_reads' HO_8.out).2.2 | (with_reducible refine Kd.C_alloc ?_ _) | (with_reducible refine Kd.C_drewN ?_ _) | (with_reducible refine Kd.C_drew ?_))); (case side2 => exact (Kd.R_reads' HO_8.out).2.1); rintro e w45 ⟨rfl, hb⟩; refine ⟨_, rfl, ?_⟩; have n0_ := Aside0.mk (Kd.R_below (by (with_reducible repeat (first | apply Kd.R_alloc | apply Kd.R_drewN | apply Kd.R_drew)); exact HO_8.out) hb); have n1_ := Aside0.mk (Kd.R_below (by (with_reducible repeat (first | apply Kd.R_alloc | apply Kd.R_drewN | apply Kd.R_drew)); exact HO_17.out) hb); have n2_ := Aside0.mk (below_step (by repeat (first | (with_reducible first | exact HB.out | apply below_alloc | apply pw_below_drewN | apply below_drew1) | exact HB.out)) hb); clear HO_8; clear HO_17; clear HB; have HO_8 := n0_; have HO_17 := n1_; have HB := n2_; clear n0_ n1_ n2_; (try clear hb); (try clear hb2); (try clear hk); (try clear hi)))
               go_meet
               case rel => exact ⟨_, (true), (by first | rfl | (simp; done) | (simp [*]; done)), H', ⟨by have := HJ7.out; have := HJ21.out; first | omega | exact Nat.le_refl _⟩, ⟨by (with_reducible repeat (first | apply Kd.R_alloc | apply Kd.R_drewN | apply Kd.R_drew)); exact Kd.R_mono HO_8.out (fun _ hk => trivial)⟩, ⟨by repeat (first | (with_reducible first | exact HB.out | apply below_alloc | apply pw_below_drewN | apply below_drew1) | exact HB.out)⟩⟩
             ·replace c35 := Bool.eq_false_iff.mpr c35
              subst c35
              have H1 : (laws_FnPieces.j2 kj21 l1 t326 t327 true) = some r := by rw [if_neg (show ¬ (false = true) by decide)] at H; exact H
              clear H
              have H := H1
              clear H1
              have H' := Aside0.mk H
              clear H
              go_wp2_with (first | ((with_reducible refine gate_callee (f := 21) rfl ?_); refine goesL_ (some 95) rfl rfl Try.func21 (by kernel_rfl) rfl #[.string t324, .slice Ao23 t327.length co23] rfl (by (try simp only [List.map_toArray, List.map_cons, List.map_nil]); first | done | rfl | (simp only [List.length_drop, List.length_take]; rfl)) ?_; (with_reducible refine (impl_GoodOps.calls kj21 t324 _ _ t327 true _ ?side1 ?side2 A31.out).mono ?_); (case side1 => repeat (first | exact (Kd.R_reads' HO_8.out).2.2 | (with_reducible refine Kd.C_alloc ?_ _) | (with_reducible refine Kd.C_drewN ?_ _) | (with_reducible refine Kd.C_drew ?_))); (case side2 => exact (Kd.R_reads' HO_8.out).2.1); rintro e w46 ⟨rfl, hb⟩; refine ⟨_, rfl, ?_⟩; have n0_ := Aside0.mk (Kd.R_below (by (with_reducible repeat (first | apply Kd.R_alloc | apply Kd.R_drewN | apply Kd.R_drew)); exact HO_8.out) hb); have n1_ := Aside0.mk (Kd.R_below (by (with_reducible repeat (first | apply Kd.R_alloc | apply Kd.R_drewN | apply Kd.R_drew)); exact HO_17.out) hb); have n2_ := Aside0.mk (below_step (by repeat (first | (with_reducible first | exact HB.out | apply below_alloc | apply pw_below_drewN | apply below_drew1) | exact HB.out)) hb); clear HO_8; clear HO_17; clear HB; have HO_8 := n0_; have HO_17 := n1_; have HB := n2_; clear n0_ n1_ n2_; (try clear hb); (try clear hb2); (try clear hk); (try clear hi)))
              go_meet
              case rel => exact ⟨_, (true), (by first | rfl | (simp; done) | (simp [*]; done)), H', ⟨by have := HJ7.out; have := HJ21.out; first | omega | exact Nat.le_refl _⟩, ⟨by (with_reducible repeat (first | apply Kd.R_alloc | apply Kd.R_drewN | apply Kd.R_drew)); exact Kd.R_mono HO_8.out (fun _ hk => trivial)⟩, ⟨by repeat (first | (with_reducible first | exact HB.out | apply below_alloc | apply pw_below_drewN | apply below_drew1) | exact HB.out)⟩⟩
            ·rw [if_neg c34] at H
             have c34b0 : (t336.toList == t325.toList) = false := beq_eq_false_iff_ne.mpr c34
             have c34b1 : (t336.toList != t325.toList) = true := bne_iff_ne.mpr c34
             (first | rw [c34b0] | (simp only [i64_w, i32_w]; rw [c34b0]) | skip)
             have H' := Aside0.mk H
             clear H
             go_wp2_with (first | ((with_reducible refine gate_callee (f := 21) rfl ?_); refine goesL_ (some 95) rfl rfl Try.func21 (by kernel_rfl) rfl #[.string t324, .slice Ao23 t327.length co23] rfl (by (try simp only [List.map_toArray, List.map_cons, List.map_nil]); first | done | rfl | (simp only [List.length_drop, List.length_take]; rfl)) ?_; (with_reducible refine (impl_GoodOps.calls kj21 t324 _ _ t327 true _ ?side1 ?side2 A31.out).mono ?_); (case side1 => repeat (first | exact (Kd.R_reads' HO_8.out).2.2 | (with_reducible refine Kd.C_alloc ?_ _) | (with_reducible refine Kd.C_drewN ?_ _) | (with_reducible refine Kd.C_drew ?_))); (case side2 => exact (Kd.R_reads' HO_8.out).2.1); rintro e w47 ⟨rfl, hb⟩; refine ⟨_, rfl, ?_⟩; have n0_ := Aside0.mk (Kd.R_below (by (with_reducible repeat (first | apply Kd.R_alloc | apply Kd.R_drewN | apply Kd.R_drew)); exact HO_8.out) hb); have n1_ := Aside0.mk (Kd.R_below (by (with_reducible repeat (first | apply Kd.R_alloc | apply Kd.R_drewN | apply Kd.R_drew)); exact HO_17.out) hb); have n2_ := Aside0.mk (below_step (by repeat (first | (with_reducible first | exact HB.out | apply below_alloc | apply pw_below_drewN | apply below_drew1) | exact HB.out)) hb); clear HO_8; clear HO_17; clear HB; have HO_8 := n0_; have HO_17 := n1_; have HB := n2_; clear n0_ n1_ n2_; (try clear hb); (try clear hb2); (try clear hk); (try clear hi)))
             go_meet
             case rel => exact ⟨_, (true), (by first | rfl | (simp; done) | (simp [*]; done)), H', ⟨by have := HJ7.out; have := HJ21.out; first | omega | exact Nat.le_refl _⟩, ⟨by (with_reducible repeat (first | apply Kd.R_alloc | apply Kd.R_drewN | apply Kd.R_drew)); exact Kd.R_mono HO_8.out (fun _ hk => trivial)⟩, ⟨by repeat (first | (with_reducible first | exact HB.out | apply below_alloc | apply pw_below_drewN | apply below_drew1) | exact HB.out)⟩⟩
           ·replace c33 := Bool.eq_false_iff.mpr c33
            subst c33
            have H1 : (laws_FnPieces.j2 kj21 l1 t326 t327 true) = some r := by rw [if_neg (show ¬ (false = true) by decide)] at H; exact H
            clear H
            have H := H1
            clear H1
            have H' := Aside0.mk H
            clear H
            go_wp2_with (first | ((with_reducible refine gate_callee (f := 21) rfl ?_); refine goesL_ (some 95) rfl rfl Try.func21 (by kernel_rfl) rfl #[.string t324, .slice Ao23 t327.length co23] rfl (by (try simp only [List.map_toArray, List.map_cons, List.map_nil]); first | done | rfl | (simp only [List.length_drop, List.length_take]; rfl)) ?_; (with_reducible refine (impl_GoodOps.calls kj21 t324 _ _ t327 true _ ?side1 ?side2 A31.out).mono ?_); (case side1 => repeat (first | exact (Kd.R_reads' HO_8.out).2.2 | (with_reducible refine Kd.C_alloc ?_ _) | (with_reducible refine Kd.C_drewN ?_ _) | (with_reducible refine Kd.C_drew ?_))); (case side2 => exact (Kd.R_reads' HO_8.out).2.1); rintro e w48 ⟨rfl, hb⟩; refine ⟨_, rfl, ?_⟩; have n0_ := Aside0.mk (Kd.R_below (by (with_reducible repeat (first | apply Kd.R_alloc | apply Kd.R_drewN | apply Kd.R_drew)); exact HO_8.out) hb); have n1_ := Aside0.mk (Kd.R_below (by (with_reducible repeat (first | apply Kd.R_alloc | apply Kd.R_drewN | apply Kd.R_drew)); exact HO_17.out) hb); have n2_ := Aside0.mk (below_step (by repeat (first | (with_reducible first | exact HB.out | apply below_alloc | apply pw_below_drewN | apply below_drew1) | exact HB.out)) hb); clear HO_8; clear HO_17; clear HB; have HO_8 := n0_; have HO_17 := n1_; have HB := n2_; clear n0_ n1_ n2_; (try clear hb); (try clear hb2); (try clear hk); (try clear hi)))
            go_meet
            case rel => exact ⟨_, (true), (by first | rfl | (simp; done) | (simp [*]; done)), H', ⟨by have := HJ7.out; have := HJ21.out; first | omega | exact Nat.le_refl _⟩, ⟨by (with_reducible repeat (first | apply Kd.R_alloc | apply Kd.R_drewN | apply Kd.R_drew)); exact Kd.R_mono HO_8.out (fun _ hk => trivial)⟩, ⟨by repeat (first | (with_reducible first | exact HB.out | apply below_alloc | apply pw_below_drewN | apply below_drew1) | exact HB.out)⟩⟩
          ·replace c32 := Bool.eq_false_iff.mpr c32
           subst c32
           have H1 : (laws_FnPieces.j2 kj21 l1 t326 t327 true) = some r := by rw [if_neg (show ¬ (false = true) by decide)] at H; exact H
           clear H
           have H := H1
           clear H1
           have H' := Aside0.mk H
           clear H
           go_wp2_with (first | ((with_reducible refine gate_callee (f := 21) rfl ?_); refine goesL_ (some 95) rfl rfl Try.func21 (by kernel_rfl) rfl #[.string t324, .slice Ao23 t327.length co23] rfl (by (try simp only [List.map_toArray, List.map_cons, List.map_nil]); first | done | rfl | (simp only [List.length_drop, List.length_take]; rfl)) ?_; (with_reducible refine (impl_GoodOps.calls kj21 t324 _ _ t327 false _ ?side1 ?side2 A31.out).mono ?_); (case side1 => repeat (first | exact (Kd.R_reads' HO_8.out).2.2 | (with_reducible refine Kd.C_alloc ?_ _) | (with_reducible refine Kd.C_drewN ?_ _) | (with_reducible refine Kd.C_drew ?_))); (case side2 => exact (Kd.R_reads' HO_8.out).2.1); rintro e w49 ⟨rfl, hb⟩; refine ⟨_, rfl, ?_⟩; have n0_ := Aside0.mk (Kd.R_below (by (with_reducible repeat (first | apply Kd.R_alloc | apply Kd.R_drewN | apply Kd.R_drew)); exact HO_8.out) hb); have n1_ := Aside0.mk (Kd.R_below (by (with_reducible repeat (first | apply Kd.R_alloc | apply Kd.R_drewN | apply Kd.R_drew)); exact HO_17.out) hb); have n2_ := Aside0.mk (below_step (by repeat (first | (with_reducible first | exact HB.out | apply below_alloc | apply pw_below_drewN | apply below_drew1) | exact HB.out)) hb); clear HO_8; clear HO_17; clear HB; have HO_8 := n0_; have HO_17 := n1_; have HB := n2_; clear n0_ n1_ n2_; (try clear hb); (try clear hb2); (try clear hk); (try clear hi)))
           go_meet
           case rel => exact ⟨_, (true), (by first | rfl | (simp; done) | (simp [*]; done)), H', ⟨by have := HJ7.out; have := HJ21.out; first | omega | exact Nat.le_refl _⟩, ⟨by (with_reducible repeat (first | apply Kd.R_alloc | apply Kd.R_drewN | apply Kd.R_drew)); exact Kd.R_mono HO_8.out (fun _ hk => trivial)⟩, ⟨by repeat (first | (with_reducible first | exact HB.out | apply below_alloc | apply pw_below_drewN | apply below_drew1) | exact HB.out)⟩⟩
         case rest => as_aux_lemma =>
          clear HC30
          try clear c1
          try clear c2
          try clear p2
          try clear c3
          try clear c4
          try clear p6
          try clear c11
          try clear c12
          try clear c12b0
          try clear c12b1
          try clear c12b2
          try clear c16
          try clear c18
          try clear c21
          try clear c23
          try clear c26
          try clear c27
          try clear c30
          try clear c31
          try clear c32
          try clear c33
          try clear c34
          try clear c34b0
          try clear c34b1
          try clear c35
          try clear c36
          try clear c36b0
          try clear c36b1
          try clear c37
          try clear c38
          try clear c39
          try clear c39b0
          try clear c39b1
          try clear p2
          obtain ⟨kq, x137_29, rfl, HA, HJ29, HO_8, HB⟩ := hcut
          cases kq with
          | zero => exact absurd HA.out (by simp [laws_FnPieces.j2])
          | succ kj29 =>
           have H := HA.out
           clear HA
           simp only [laws_FnPieces.j2] at H
           by_cases c50 : x137_29 = true
           ·subst c50
            have H1 : (some false) = some r := by rw [if_pos rfl] at H; exact H
            clear H
            have H := H1
            clear H1
            obtain rfl := Option.some.inj H
            go_wp2
            go_ret
            exact ⟨by first | rfl | (simp [errW_none, errW_some] <;> rfl) | (simp [*, errW_none, errW_some] <;> rfl), by repeat (first | (with_reducible first | exact HB.out | apply below_alloc | apply pw_below_drewN | apply below_drew1) | exact HB.out)⟩
           ·replace c50 := Bool.eq_false_iff.mpr c50
            subst c50
            have H1 : (laws_FnPieces.l0 kj29 l1 t326 t327 (t327.length : Int) 0) = some r := by rw [if_neg (show ¬ (false = true) by decide)] at H; exact H
            clear H
            have H := H1
            clear H1
            have H' := Aside0.mk H
            clear H
            go_wp2
            go_loopg [140] kj29 (fun kq v140 w' => ∃ (x140_4 : Int), v140 = .int .i64 x140_4 ∧ Aside0 (laws_FnPieces.l0 kq l1 t326 t327 (t327.length : Int) x140_4 = some r) ∧ Aside0 (kq ≤ kj29) ∧ Aside0 (Kd.R k43 43 w' w.heap.size (fun _ => True) (.slice Ao23 t327.length co23) t327) ∧ Aside0 (Below w.heap.size w w'))
            case atStart => exact ⟨(0), (by first | rfl | (simp; done) | (simp [*]; done)), H', ⟨Nat.le_refl _⟩, ⟨by (with_reducible repeat (first | apply Kd.R_alloc | apply Kd.R_drewN | apply Kd.R_drew)); exact HO_8.out⟩, ⟨by repeat (first | (with_reducible first | exact HB.out | apply below_alloc | apply pw_below_drewN | apply below_drew1) | exact HB.out)⟩⟩
            case round =>
             clear H'
             try clear c1
             try clear c2
             try clear p2
             try clear c3
             try clear c4
             try clear c5
             try clear p6
             try clear c11
             try clear c12
             try clear c12b0
             try clear c12b1
             try clear c12b2
             try clear c16
             try clear c18
             try clear c21
             try clear c23
             try clear c26
             try clear c27
             try clear c30
             try clear c31
             try clear c32
             try clear c33
             try clear c34
             try clear c34b0
             try clear c34b1
             try clear c35
             try clear c36
             try clear c36b0
             try clear c36b1
             try clear c37
             try clear c38
             try clear c39
             try clear c39b0
             try clear c39b1
             try clear c50
             try clear p2
             try clear p6
             obtain ⟨x140_4, rfl, HA, HK4, HO_138, HB⟩ := hrel
             cases gk with
             | zero => exact absurd HA.out (by simp [laws_FnPieces.l0])
             | succ k4 =>
              have H := HA.out
              clear HA
              simp only [laws_FnPieces.l0] at H
              by_cases c51 : x140_4 < (t327.length : Int)
              ·rw [if_pos c51] at H
               have c51b0 : decide (x140_4 < (t327.length : Int)) = true := decide_eq_true c51
               clear c51
               by_cases c52 : 0 ≤ x140_4
               ·rw [if_pos c52] at H
                have c52b0 : decide (0 ≤ x140_4) = true := decide_eq_true c52
                clear c52
                by_cases c53 : x140_4 < (t327.length : Int)
                ·rw [if_pos c53] at H
                 have c53b0 : decide (x140_4 < (t327.length : Int)) = true := decide_eq_true c53
                 clear c53
                 by_cases c54 : ((rd_T43 t327 x140_4).f0) = 1
                 ·rw [if_pos c54] at H
                  have c54b0 : (((rd_T43 t327 x140_4).f0) == 1) = true := beq_iff_eq.mpr c54
                  have c54b1 : (((rd_T43 t327 x140_4).f0) != 1) = false := bne_eq_false_iff_eq.mpr c54
                  clear c54
                  by_cases c55 : ((rd_T43 t327 x140_4).f2) < t326
                  ·rw [if_pos c55] at H
                   have c55b0 : decide (((rd_T43 t327 x140_4).f2) < t326) = true := decide_eq_true c55
                   clear c55
                   obtain rfl := Option.some.inj H
                   have p348 : 0 ≤ (x140_4 : Int) := of_decide_eq_true (by first | (with_reducible assumption) | assumption)
                   have q348 : x140_4 < (t327.length : Int) := of_decide_eq_true (by first | (with_reducible assumption) | assumption)
                   obtain ⟨ad348, e348, hx348_0, hx348_1, hx348_2, hx348_3⟩ := at_T43 (Kd.R_reads' HO_138.out).2.2 x140_4 p348 q348
                   cases e348
                   replace p348 := eq_true p348
                   replace q348 := eq_true q348
                   go_wp2_with (first | ((with_reducible refine gate_dst (N := 22) rfl ?_); (try (refine gate_guard (by rfl) ?_; dsimp only)); refine box_event ?hg (N := 22) ?hd (cs := #[.int .i64 0, .int .i64 0, .int .i64 0, .string (⟨#[]⟩ : ByteArray)]) (t := 43) ?hr ?_; (case hd => rfl); (case hg => rfl); (case hr => first | (go_simp; done) | (go_simp; rfl)); intro gb349 hg w56 hbox hb; have n0_ := Aside0.mk (Kd.R_below (Kd.R_elderB (by (with_reducible repeat (first | apply Kd.R_alloc | apply Kd.R_drewN | apply Kd.R_drew)); exact HO_138.out) gb349 (Nat.le_of_eq hg.symm)) hb); have n1_ := Aside0.mk (below_step (by repeat (first | (with_reducible first | exact HB.out | apply below_alloc | apply pw_below_drewN | apply below_drew1) | exact HB.out)) hb); have n2_ := Aside0.mk (hbox); have n3_ := Aside0.mk ((by rw [hg]; exact (below_size (by repeat (first | (with_reducible first | exact HB.out | apply below_alloc | apply pw_below_drewN | apply below_drew1) | exact HB.out))) : w.heap.size ≤ gb349)); have n4_ := Aside0.mk ((by rw [hg]; exact (below_size (by repeat (first | (with_reducible first | exact HB.out | apply below_alloc | apply pw_below_drewN | apply below_drew1) | exact HB.out))) : w.heap.size ≤ gb349)); clear HO_138; clear HB; have HO_138 := n0_; have HB := n1_; have BK349 := n2_; have GW349 := n3_; have GE349 := n4_; clear n0_ n1_ n2_ n3_ n4_; clear hb hbox hg; have hcz57_0 : w56.cell? ⟨gb349, 0, none⟩ = some (.int .i64 0) := (blk_cell BK349.out 0).trans rfl; have hcz57_1 : w56.cell? ⟨gb349, 1, none⟩ = some (.int .i64 0) := (blk_cell BK349.out 1).trans rfl; have hcz57_2 : w56.cell? ⟨gb349, 2, none⟩ = some (.int .i64 0) := (blk_cell BK349.out 2).trans rfl; have hcz57_3 : w56.cell? ⟨gb349, 3, none⟩ = some (.string (⟨#[]⟩ : ByteArray)) := (blk_cell BK349.out 3).trans rfl; have hfz57_0 := blk_frozen BK349.out 0; have hfz57_1 := blk_frozen BK349.out 1; have hfz57_2 := blk_frozen BK349.out 2; have hfz57_3 := blk_frozen BK349.out 3))
                   go_ret
                   exact ⟨by first | rfl | (simp [errW_none, errW_some] <;> rfl) | (simp [*, errW_none, errW_some] <;> rfl), by repeat (first | (with_reducible first | exact HB.out | apply below_alloc | apply pw_below_drewN | apply below_drew1 | refine below_set ?_ GE349.out) | exact HB.out)⟩
                  ·rw [if_neg c55] at H
                   have c55b0 : decide (((rd_T43 t327 x140_4).f2) < t326) = false := decide_eq_false c55
                   clear c55
                   have H' := Aside0.mk H
                   clear H
                   have p348 : 0 ≤ (x140_4 : Int) := of_decide_eq_true (by first | (with_reducible assumption) | assumption)
                   have q348 : x140_4 < (t327.length : Int) := of_decide_eq_true (by first | (with_reducible assumption) | assumption)
                   obtain ⟨ad348, e348, hx348_0, hx348_1, hx348_2, hx348_3⟩ := at_T43 (Kd.R_reads' HO_138.out).2.2 x140_4 p348 q348
                   cases e348
                   replace p348 := eq_true p348
                   replace q348 := eq_true q348
                   go_wp2_with (first | ((with_reducible refine gate_dst (N := 22) rfl ?_); (try (refine gate_guard (by rfl) ?_; dsimp only)); refine box_event ?hg (N := 22) ?hd (cs := #[.int .i64 0, .int .i64 0, .int .i64 0, .string (⟨#[]⟩ : ByteArray)]) (t := 43) ?hr ?_; (case hd => rfl); (case hg => rfl); (case hr => first | (go_simp; done) | (go_simp; rfl)); intro gb349 hg w58 hbox hb; have n0_ := Aside0.mk (Kd.R_below (Kd.R_elderB (by (with_reducible repeat (first | apply Kd.R_alloc | apply Kd.R_drewN | apply Kd.R_drew)); exact HO_138.out) gb349 (Nat.le_of_eq hg.symm)) hb); have n1_ := Aside0.mk (below_step (by repeat (first | (with_reducible first | exact HB.out | apply below_alloc | apply pw_below_drewN | apply below_drew1) | exact HB.out)) hb); have n2_ := Aside0.mk (hbox); have n3_ := Aside0.mk ((by rw [hg]; exact (below_size (by repeat (first | (with_reducible first | exact HB.out | apply below_alloc | apply pw_below_drewN | apply below_drew1) | exact HB.out))) : w.heap.size ≤ gb349)); have n4_ := Aside0.mk ((by rw [hg]; exact (below_size (by repeat (first | (with_reducible first | exact HB.out | apply below_alloc | apply pw_below_drewN | apply below_drew1) | exact HB.out))) : w.heap.size ≤ gb349)); clear HO_138; clear HB; have HO_138 := n0_; have HB := n1_; have BK349 := n2_; have GW349 := n3_; have GE349 := n4_; clear n0_ n1_ n2_ n3_ n4_; clear hb hbox hg; have hcz59_0 : w58.cell? ⟨gb349, 0, none⟩ = some (.int .i64 0) := (blk_cell BK349.out 0).trans rfl; have hcz59_1 : w58.cell? ⟨gb349, 1, none⟩ = some (.int .i64 0) := (blk_cell BK349.out 1).trans rfl; have hcz59_2 : w58.cell? ⟨gb349, 2, none⟩ = some (.int .i64 0) := (blk_cell BK349.out 2).trans rfl; have hcz59_3 : w58.cell? ⟨gb349, 3, none⟩ = some (.string (⟨#[]⟩ : ByteArray)) := (blk_cell BK349.out 3).trans rfl; have hfz59_0 := blk_frozen BK349.out 0; have hfz59_1 := blk_frozen BK349.out 1; have hfz59_2 := blk_frozen BK349.out 2; have hfz59_3 := blk_frozen BK349.out 3))
                   go_roundg k4
                   case measure => have := HJ7.out; have := HJ21.out; have := HJ29.out; have := HK4.out; omega
                   case rel => exact ⟨(wrap64 (x140_4 + 1)), (by first | rfl | (simp; done) | (simp [*]; done)), H', ⟨by have := HJ7.out; have := HJ21.out; have := HJ29.out; have := HK4.out; omega⟩, ⟨by (with_reducible repeat (first | apply Kd.R_alloc | apply Kd.R_drewN | apply Kd.R_drew)); exact Kd.R_mono (Kd.R_far (p := ⟨gb349, 3, none⟩) (Kd.R_far (p := ⟨gb349, 2, none⟩) (Kd.R_far (p := ⟨gb349, 1, none⟩) (Kd.R_far (p := ⟨gb349, 0, none⟩) (Kd.R_mono HO_138.out (fun k_ hk => (⟨hk, hk.2⟩ : _ ∧ k_ ≠ gb349))) (fun _ hk => hk.2) (.int .i64 ((rd_T43 t327 x140_4).f0))) (fun _ hk => hk.2) (.int .i64 ((rd_T43 t327 x140_4).f1))) (fun _ hk => hk.2) (.int .i64 ((rd_T43 t327 x140_4).f2))) (fun _ hk => hk.2) (.string ((rd_T43 t327 x140_4).f3))) (fun _ hk => trivial)⟩, ⟨by repeat (first | (with_reducible first | exact HB.out | apply below_alloc | apply pw_below_drewN | apply below_drew1 | refine below_set ?_ GE349.out) | exact HB.out)⟩⟩
                 ·rw [if_neg c54] at H
                  have c54b0 : (((rd_T43 t327 x140_4).f0) == 1) = false := beq_eq_false_iff_ne.mpr c54
                  have c54b1 : (((rd_T43 t327 x140_4).f0) != 1) = true := bne_iff_ne.mpr c54
                  have H' := Aside0.mk H
                  clear H
                  have p348 : 0 ≤ (x140_4 : Int) := of_decide_eq_true (by first | (with_reducible assumption) | assumption)
                  have q348 : x140_4 < (t327.length : Int) := of_decide_eq_true (by first | (with_reducible assumption) | assumption)
                  obtain ⟨ad348, e348, hx348_0, hx348_1, hx348_2, hx348_3⟩ := at_T43 (Kd.R_reads' HO_138.out).2.2 x140_4 p348 q348
                  cases e348
                  replace p348 := eq_true p348
                  replace q348 := eq_true q348
                  go_wp2_with (first | ((with_reducible refine gate_dst (N := 22) rfl ?_); (try (refine gate_guard (by rfl) ?_; dsimp only)); refine box_event ?hg (N := 22) ?hd (cs := #[.int .i64 0, .int .i64 0, .int .i64 0, .string (⟨#[]⟩ : ByteArray)]) (t := 43) ?hr ?_; (case hd => rfl); (case hg => rfl); (case hr => first | (go_simp; done) | (go_simp; rfl)); intro gb349 hg w60 hbox hb; have n0_ := Aside0.mk (Kd.R_below (Kd.R_elderB (by (with_reducible repeat (first | apply Kd.R_alloc | apply Kd.R_drewN | apply Kd.R_drew)); exact HO_138.out) gb349 (Nat.le_of_eq hg.symm)) hb); have n1_ := Aside0.mk (below_step (by repeat (first | (with_reducible first | exact HB.out | apply below_alloc | apply pw_below_drewN | apply below_drew1) | exact HB.out)) hb); have n2_ := Aside0.mk (hbox); have n3_ := Aside0.mk ((by rw [hg]; exact (below_size (by repeat (first | (with_reducible first | exact HB.out | apply below_alloc | apply pw_below_drewN | apply below_drew1) | exact HB.out))) : w.heap.size ≤ gb349)); have n4_ := Aside0.mk ((by rw [hg]; exact (below_size (by repeat (first | (with_reducible first | exact HB.out | apply below_alloc | apply pw_below_drewN | apply below_drew1) | exact HB.out))) : w.heap.size ≤ gb349)); clear HO_138; clear HB; have HO_138 := n0_; have HB := n1_; have BK349 := n2_; have GW349 := n3_; have GE349 := n4_; clear n0_ n1_ n2_ n3_ n4_; clear hb hbox hg; have hcz61_0 : w60.cell? ⟨gb349, 0, none⟩ = some (.int .i64 0) := (blk_cell BK349.out 0).trans rfl; have hcz61_1 : w60.cell? ⟨gb349, 1, none⟩ = some (.int .i64 0) := (blk_cell BK349.out 1).trans rfl; have hcz61_2 : w60.cell? ⟨gb349, 2, none⟩ = some (.int .i64 0) := (blk_cell BK349.out 2).trans rfl; have hcz61_3 : w60.cell? ⟨gb349, 3, none⟩ = some (.string (⟨#[]⟩ : ByteArray)) := (blk_cell BK349.out 3).trans rfl; have hfz61_0 := blk_frozen BK349.out 0; have hfz61_1 := blk_frozen BK349.out 1; have hfz61_2 := blk_frozen BK349.out 2; have hfz61_3 := blk_frozen BK349.out 3))
                  go_roundg k4
                  case measure => have := HJ7.out; have := HJ21.out; have := HJ29.out; have := HK4.out; omega
                  case rel => exact ⟨(wrap64 (x140_4 + 1)), (by first | rfl | (simp; done) | (simp [*]; done)), H', ⟨by have := HJ7.out; have := HJ21.out; have := HJ29.out; have := HK4.out; omega⟩, ⟨by (with_reducible repeat (first | apply Kd.R_alloc | apply Kd.R_drewN | apply Kd.R_drew)); exact Kd.R_mono (Kd.R_far (p := ⟨gb349, 3, none⟩) (Kd.R_far (p := ⟨gb349, 2, none⟩) (Kd.R_far (p := ⟨gb349, 1, none⟩) (Kd.R_far (p := ⟨gb349, 0, none⟩) (Kd.R_mono HO_138.out (fun k_ hk => (⟨hk, hk.2⟩ : _ ∧ k_ ≠ gb349))) (fun _ hk => hk.2) (.int .i64 ((rd_T43 t327 x140_4).f0))) (fun _ hk => hk.2) (.int .i64 ((rd_T43 t327 x140_4).f1))) (fun _ hk => hk.2) (.int .i64 ((rd_T43 t327 x140_4).f2))) (fun _ hk => hk.2) (.string ((rd_T43 t327 x140_4).f3))) (fun _ hk => trivial)⟩, ⟨by repeat (first | (with_reducible first | exact HB.out | apply below_alloc | apply pw_below_drewN | apply below_drew1 | refine below_set ?_ GE349.out) | exact HB.out)⟩⟩
                ·rw [if_neg c53] at H
                 exact absurd H (by simp)
               ·rw [if_neg c52] at H
                exact absurd H (by simp)
              ·rw [if_neg c51] at H
               have c51b0 : decide (x140_4 < (t327.length : Int)) = false := decide_eq_false c51
               clear c51
               have H' := Aside0.mk H
               clear H
               go_wp2
               go_meet
               case rel => exact ⟨_, H', ⟨by have := HJ7.out; have := HJ21.out; have := HJ29.out; have := HK4.out; first | omega | exact Nat.le_refl _⟩, ⟨by repeat (first | (with_reducible first | exact HB.out | apply below_alloc | apply pw_below_drewN | apply below_drew1) | exact HB.out)⟩⟩
      ·replace c18 := Bool.eq_false_iff.mpr c18
       subst c18
       have H1 : (laws_FnPieces.j4 kj7 l1) = some r := by rw [if_neg (show ¬ (false = true) by decide)] at H; exact H
       clear H
       have H := H1
       clear H1
       have H' := Aside0.mk H
       clear H
       go_wp2
       go_meet
       case rel => exact ⟨_, H', ⟨by have := HJ7.out; first | omega | exact Nat.le_refl _⟩, ⟨by repeat (first | (with_reducible first | exact HB.out | apply below_alloc | apply pw_below_drewN | apply below_drew1) | exact HB.out)⟩⟩
     case rest => as_aux_lemma =>
      clear HC17
      try clear c1
      try clear c2
      try clear p2
      try clear c3
      try clear p3
      try clear q3
      try clear hx3
      try clear c4
      try clear c5
      try clear p6
      try clear c11
      try clear c12
      try clear c12b0
      try clear c12b1
      try clear c12b2
      try clear c16
      try clear c18
      try clear c21
      try clear c23
      try clear c26
      try clear c27
      try clear c30
      try clear c31
      try clear c32
      try clear c33
      try clear c34
      try clear c34b0
      try clear c34b1
      try clear p34
      try clear q34
      try clear hx34
      try clear c35
      try clear c36
      try clear c36b0
      try clear c36b1
      try clear c37
      try clear c38
      try clear c39
      try clear c39b0
      try clear c39b1
      try clear c50
      try clear c51
      try clear c51b0
      try clear c52
      try clear c52b0
      try clear c53
      try clear c53b0
      try clear c54
      try clear c54b0
      try clear c54b1
      try clear c55
      try clear c55b0
      try clear hcz57_0
      try clear hcz57_1
      try clear hcz57_2
      try clear hcz57_3
      try clear hcz59_0
      try clear hcz59_1
      try clear hcz59_2
      try clear hcz59_3
      try clear hcz61_0
      try clear hcz61_1
      try clear hcz61_2
      try clear hcz61_3
      try clear hfz57_0
      try clear hfz57_1
      try clear hfz57_2
      try clear hfz57_3
      try clear hfz59_0
      try clear hfz59_1
      try clear hfz59_2
      try clear hfz59_3
      try clear hfz61_0
      try clear hfz61_1
      try clear hfz61_2
      try clear hfz61_3
      try clear hx348_0
      try clear hx348_1
      try clear hx348_2
      try clear hx348_3
      try clear p2
      try clear p348
      try clear p6
      try clear q348
      obtain ⟨kq, HA, HJ16, HB⟩ := hcut
      cases kq with
      | zero => exact absurd HA.out (by simp [laws_FnPieces.j4])
      | succ kj16 =>
       have H := HA.out
       clear HA
       simp only [laws_FnPieces.j4] at H
       replace H := Option.bind_eq_some_iff.mp H
       obtain ⟨⟨t350, t351⟩, A620, H⟩ := H
       replace H : ((impl_DoOps.f kj16 t350 t351).bind fun bt354 => ((spec_DoOps.f kj16 t350 t351).bind fun bt356 => ((spec_DrawCopiedIn.f kj16 l1).bind fun t358 => ((impl_CopiedIn.f kj16 t358).bind fun bt361 => ((spec_CopiedIn.f kj16 t358).bind fun bt364 => (laws_FnPieces.j5 kj16 t350 t351 bt354.1 bt354.2 bt356.1 bt356.2 bt361.1 bt361.2.1 bt361.2.2 bt364.1 bt364.2.1 bt364.2.2)))))) = some r := H
       have A62 := Aside0.mk A620
       clear A620
       replace H := Option.bind_eq_some_iff.mp H
       obtain ⟨⟨t354, t355⟩, A630, H⟩ := H
       replace H : ((spec_DoOps.f kj16 t350 t351).bind fun bt356 => ((spec_DrawCopiedIn.f kj16 l1).bind fun t358 => ((impl_CopiedIn.f kj16 t358).bind fun bt361 => ((spec_CopiedIn.f kj16 t358).bind fun bt364 => (laws_FnPieces.j5 kj16 t350 t351 t354 t355 bt356.1 bt356.2 bt361.1 bt361.2.1 bt361.2.2 bt364.1 bt364.2.1 bt364.2.2))))) = some r := H
       have A63 := Aside0.mk A630
       clear A630
       replace H := Option.bind_eq_some_iff.mp H
       obtain ⟨⟨t356, t357⟩, A640, H⟩ := H
       replace H : ((spec_DrawCopiedIn.f kj16 l1).bind fun t358 => ((impl_CopiedIn.f kj16 t358).bind fun bt361 => ((spec_CopiedIn.f kj16 t358).bind fun bt364 => (laws_FnPieces.j5 kj16 t350 t351 t354 t355 t356 t357 bt361.1 bt361.2.1 bt361.2.2 bt364.1 bt364.2.1 bt364.2.2)))) = some r := H
       have A64 := Aside0.mk A640
       clear A640
       replace H := Option.bind_eq_some_iff.mp H
       obtain ⟨t358, A650, H⟩ := H
       replace H : ((impl_CopiedIn.f kj16 t358).bind fun bt361 => ((spec_CopiedIn.f kj16 t358).bind fun bt364 => (laws_FnPieces.j5 kj16 t350 t351 t354 t355 t356 t357 bt361.1 bt361.2.1 bt361.2.2 bt364.1 bt364.2.1 bt364.2.2))) = some r := H
       have A65 := Aside0.mk A650
       clear A650
       replace H := Option.bind_eq_some_iff.mp H
       obtain ⟨⟨t361, t362, t363⟩, A660, H⟩ := H
       replace H : ((spec_CopiedIn.f kj16 t358).bind fun bt364 => (laws_FnPieces.j5 kj16 t350 t351 t354 t355 t356 t357 t361 t362 t363 bt364.1 bt364.2.1 bt364.2.2)) = some r := H
       have A66 := Aside0.mk A660
       clear A660
       have HC67 := Aside0.mk H
       clear H
       go_upto_region 26 with (first | ((with_reducible refine gate_callee (f := 37) rfl ?_); refine goesL_ (some 156) rfl rfl Try.func37 (by kernel_rfl) rfl #[.slice A1 l1.length c1] rfl (by (try simp only [List.map_toArray, List.map_cons, List.map_nil]); first | done | rfl | (simp only [List.length_drop, List.length_take]; rfl)) ?_; (with_reducible refine (spec_DrawDoOps.calls kj16 _ _ l1 t350 t351 _ ?side1 ?side2 A62.out).mono ?_); (case side1 => repeat (first | exact (Kd.C_below HR1.out HB.out) | (with_reducible refine Kd.C_alloc ?_ _) | (with_reducible refine Kd.C_drewN ?_ _) | (with_reducible refine Kd.C_drew ?_))); (case side2 => exact HC1.out); rintro e w68 ⟨v352, rfl, ho0, hb⟩; refine ⟨_, rfl, ?_⟩; have n0_ := Aside0.mk (Kd.R_lower ho0 (below_size (by repeat (first | (with_reducible first | exact HB.out | apply below_alloc | apply pw_below_drewN | apply below_drew1) | exact HB.out)))); have n1_ := Aside0.mk (below_step (by repeat (first | (with_reducible first | exact HB.out | apply below_alloc | apply pw_below_drewN | apply below_drew1) | exact HB.out)) hb); clear HB; have HO353 := n0_; have HB := n1_; clear n0_ n1_; (try clear hb); (try clear hb2); (try clear hk); (try clear hi); (try clear ho0); obtain ⟨Ao69, co69, eo69⟩ := Kd.R_slice HO353.out; subst eo69) | ((with_reducible refine gate_callee (f := 23) rfl ?_); refine goesL_ (some 162) rfl rfl Try.func23 (by kernel_rfl) rfl #[.string t350, .slice Ao69 t351.length co69] rfl (by (try simp only [List.map_toArray, List.map_cons, List.map_nil]); first | done | rfl | (simp only [List.length_drop, List.length_take]; rfl)) ?_; (with_reducible refine (impl_DoOps.calls kj16 t350 _ _ t351 t354 t355 _ ?side1 ?side2 A63.out).mono ?_); (case side1 => repeat (first | exact (Kd.R_reads' HO353.out).2.2 | (with_reducible refine Kd.C_alloc ?_ _) | (with_reducible refine Kd.C_drewN ?_ _) | (with_reducible refine Kd.C_drew ?_))); (case side2 => exact (Kd.R_reads' HO353.out).2.1); rintro e w70 ⟨rfl, hb⟩; refine ⟨_, rfl, ?_⟩; have n0_ := Aside0.mk (Kd.R_below (by (with_reducible repeat (first | apply Kd.R_alloc | apply Kd.R_drewN | apply Kd.R_drew)); exact HO353.out) hb); have n1_ := Aside0.mk (below_step (by repeat (first | (with_reducible first | exact HB.out | apply below_alloc | apply pw_below_drewN | apply below_drew1) | exact HB.out)) hb); clear HO353; clear HB; have HO353 := n0_; have HB := n1_; clear n0_ n1_; (try clear hb); (try clear hb2); (try clear hk); (try clear hi)) | ((with_reducible refine gate_callee (f := 22) rfl ?_); refine goesL_ (some 168) rfl rfl Try.func22 (by kernel_rfl) rfl #[.string t350, .slice Ao69 t351.length co69] rfl (by (try simp only [List.map_toArray, List.map_cons, List.map_nil]); first | done | rfl | (simp only [List.length_drop, List.length_take]; rfl)) ?_; (with_reducible refine (spec_DoOps.calls kj16 t350 _ _ t351 t356 t357 _ ?side1 ?side2 A64.out).mono ?_); (case side1 => repeat (first | exact (Kd.R_reads' HO353.out).2.2 | (with_reducible refine Kd.C_alloc ?_ _) | (with_reducible refine Kd.C_drewN ?_ _) | (with_reducible refine Kd.C_drew ?_))); (case side2 => exact (Kd.R_reads' HO353.out).2.1); rintro e w71 ⟨rfl, hb⟩; refine ⟨_, rfl, ?_⟩; have n0_ := Aside0.mk (Kd.R_below (by (with_reducible repeat (first | apply Kd.R_alloc | apply Kd.R_drewN | apply Kd.R_drew)); exact HO353.out) hb); have n1_ := Aside0.mk (below_step (by repeat (first | (with_reducible first | exact HB.out | apply below_alloc | apply pw_below_drewN | apply below_drew1) | exact HB.out)) hb); clear HO353; clear HB; have HO353 := n0_; have HB := n1_; clear n0_ n1_; (try clear hb); (try clear hb2); (try clear hk); (try clear hi)) | ((with_reducible refine gate_callee (f := 38) rfl ?_); refine goesL_ (some 172) rfl rfl Try.func38 (by kernel_rfl) rfl #[.slice A1 l1.length c1] rfl (by (try simp only [List.map_toArray, List.map_cons, List.map_nil]); first | done | rfl | (simp only [List.length_drop, List.length_take]; rfl)) ?_; (with_reducible refine (spec_DrawCopiedIn.calls kj16 _ _ l1 t358 _ ?side1 ?side2 A65.out).mono ?_); (case side1 => repeat (first | exact (Kd.C_below HR1.out HB.out) | (with_reducible refine Kd.C_alloc ?_ _) | (with_reducible refine Kd.C_drewN ?_ _) | (with_reducible refine Kd.C_drew ?_))); (case side2 => exact HC1.out); rintro e w72 ⟨v359, rfl, ho0, hb⟩; refine ⟨_, rfl, ?_⟩; have n0_ := Aside0.mk (Kd.R_elder' (by (with_reducible repeat (first | apply Kd.R_alloc | apply Kd.R_drewN | apply Kd.R_drew)); exact HO353.out) (Kd.R_base ho0) hb); have n1_ := Aside0.mk (Kd.R_lower (Kd.R_new' ho0 (Kd.R_lt (by (with_reducible repeat (first | apply Kd.R_alloc | apply Kd.R_drewN | apply Kd.R_drew)); exact HO353.out))) (below_size (by repeat (first | (with_reducible first | exact HB.out | apply below_alloc | apply pw_below_drewN | apply below_drew1) | exact HB.out)))); have n2_ := Aside0.mk (below_step (by repeat (first | (with_reducible first | exact HB.out | apply below_alloc | apply pw_below_drewN | apply below_drew1) | exact HB.out)) hb); clear HO353; clear HB; have HO353 := n0_; have HO360 := n1_; have HB := n2_; clear n0_ n1_ n2_; (try clear hb); (try clear hb2); (try clear hk); (try clear hi); (try clear ho0); obtain ⟨Ao73, co73, eo73⟩ := Kd.R_slice HO360.out; subst eo73) | ((with_reducible refine gate_callee (f := 18) rfl ?_); refine goesL_ (some 175) rfl rfl Try.func18 (by kernel_rfl) rfl #[.slice Ao73 t358.length co73] rfl (by (try simp only [List.map_toArray, List.map_cons, List.map_nil]); first | done | rfl | (simp only [List.length_drop, List.length_take]; rfl)) ?_; (with_reducible refine (impl_CopiedIn.calls kj16 _ _ t358 t361 t362 t363 _ ?side1 ?side2 A66.out).mono ?_); (case side1 => repeat (first | exact (Kd.R_reads' HO360.out).2.2 | (with_reducible refine Kd.C_alloc ?_ _) | (with_reducible refine Kd.C_drewN ?_ _) | (with_reducible refine Kd.C_drew ?_))); (case side2 => exact (Kd.R_reads' HO360.out).2.1); rintro e w74 ⟨rfl, hb⟩; refine ⟨_, rfl, ?_⟩; have n0_ := Aside0.mk (Kd.R_below (by (with_reducible repeat (first | apply Kd.R_alloc | apply Kd.R_drewN | apply Kd.R_drew)); exact HO353.out) hb); have n1_ := Aside0.mk (Kd.R_below (by (with_reducible repeat (first | apply Kd.R_alloc | apply Kd.R_drewN | apply Kd.R_drew)); exact HO360.out) hb); have n2_ := Aside0.mk (below_step (by repeat (first | (with_reducible first | exact HB.out | apply below_alloc | apply pw_below_drewN | apply below_drew1) | exact HB.out)) hb); clear HO353; clear HO360; clear HB; have HO353 := n0_; have HO360 := n1_; have HB := n2_; clear n0_ n1_ n2_; (try clear hb); (try clear hb2); (try clear hk); (try clear hi)))
       (try simp only [Act.put, List.setIfInBounds_toArray, List.set_cons_zero, List.set_cons_succ])
       go_cut [33, 34, 35] (fun v33 v34 v35 wc => ∃ (kq : Nat) (x33_66 : Int) (x34_66 : Int) (x35_66 : Bool), v33 = .int .i64 x33_66 ∧ v34 = .int .i64 x34_66 ∧ v35 = .bool x35_66 ∧ Aside0 (laws_FnPieces.j5 kq t350 t351 t354 t355 t356 t357 t361 t362 t363 x33_66 x34_66 x35_66 = some r) ∧ Aside0 (kq ≤ kj16) ∧ Aside0 (Kd.R k43 43 wc w.heap.size (fun _ => True) (.slice Ao69 t351.length co69) t351) ∧ Aside0 (Below w.heap.size w wc))
       case first => as_aux_lemma =>
        have H := HC67.out
        clear HC67
        replace H := Option.bind_eq_some_iff.mp H
        obtain ⟨⟨t364, t365, t366⟩, A750, H⟩ := H
        replace H : (laws_FnPieces.j5 kj16 t350 t351 t354 t355 t356 t357 t361 t362 t363 t364 t365 t366) = some r := H
        have A75 := Aside0.mk A750
        clear A750
        have H' := Aside0.mk H
        clear H
        go_wp2_with (first | ((with_reducible refine gate_callee (f := 16) rfl ?_); refine goesL_ (some 181) rfl rfl Try.func16 (by kernel_rfl) rfl #[.slice Ao73 t358.length co73] rfl (by (try simp only [List.map_toArray, List.map_cons, List.map_nil]); first | done | rfl | (simp only [List.length_drop, List.length_take]; rfl)) ?_; (with_reducible refine (spec_CopiedIn.calls kj16 _ _ t358 t364 t365 t366 _ ?side1 ?side2 A75.out).mono ?_); (case side1 => repeat (first | exact (Kd.R_reads' HO360.out).2.2 | (with_reducible refine Kd.C_alloc ?_ _) | (with_reducible refine Kd.C_drewN ?_ _) | (with_reducible refine Kd.C_drew ?_))); (case side2 => exact (Kd.R_reads' HO360.out).2.1); rintro e w76 ⟨rfl, hb⟩; refine ⟨_, rfl, ?_⟩; have n0_ := Aside0.mk (Kd.R_below (by (with_reducible repeat (first | apply Kd.R_alloc | apply Kd.R_drewN | apply Kd.R_drew)); exact HO353.out) hb); have n1_ := Aside0.mk (Kd.R_below (by (with_reducible repeat (first | apply Kd.R_alloc | apply Kd.R_drewN | apply Kd.R_drew)); exact HO360.out) hb); have n2_ := Aside0.mk (below_step (by repeat (first | (with_reducible first | exact HB.out | apply below_alloc | apply pw_below_drewN | apply below_drew1) | exact HB.out)) hb); clear HO353; clear HO360; clear HB; have HO353 := n0_; have HO360 := n1_; have HB := n2_; clear n0_ n1_ n2_; (try clear hb); (try clear hb2); (try clear hk); (try clear hi)))
        go_meet
        case rel => exact ⟨_, (t364), (t365), (t366), (by first | rfl | (simp; done) | (simp [*]; done)), (by first | rfl | (simp; done) | (simp [*]; done)), (by first | rfl | (simp; done) | (simp [*]; done)), H', ⟨by have := HJ7.out; have := HJ16.out; first | omega | exact Nat.le_refl _⟩, ⟨by (with_reducible repeat (first | apply Kd.R_alloc | apply Kd.R_drewN | apply Kd.R_drew)); exact Kd.R_mono HO353.out (fun _ hk => trivial)⟩, ⟨by repeat (first | (with_reducible first | exact HB.out | apply below_alloc | apply pw_below_drewN | apply below_drew1) | exact HB.out)⟩⟩
       case rest => as_aux_lemma =>
        clear HC67
        try clear c1
        try clear c2
        try clear p2
        try clear c3
        try clear p3
        try clear q3
        try clear hx3
        try clear c4
        try clear c5
        try clear p6
        try clear c11
        try clear c12
        try clear c12b0
        try clear c12b1
        try clear c12b2
        try clear c16
        try clear c18
        try clear c21
        try clear c22
        try clear c23
        try clear c26
        try clear c27
        try clear c30
        try clear c31
        try clear c32
        try clear c33
        try clear c34
        try clear c34b0
        try clear c34b1
        try clear p34
        try clear q34
        try clear hx34
        try clear c35
        try clear c36
        try clear c36b0
        try clear c36b1
        try clear c37
        try clear c38
        try clear c39
        try clear c39b0
        try clear c39b1
        try clear c50
        try clear c51
        try clear c51b0
        try clear c52
        try clear c52b0
        try clear c53
        try clear c53b0
        try clear c54
        try clear c54b0
        try clear c54b1
        try clear c55
        try clear c55b0
        try clear p64
        try clear hcz57_0
        try clear hcz57_1
        try clear hcz57_2
        try clear hcz57_3
        try clear hcz59_0
        try clear hcz59_1
        try clear hcz59_2
        try clear hcz59_3
        try clear hcz61_0
        try clear hcz61_1
        try clear hcz61_2
        try clear hcz61_3
        try clear hfz57_0
        try clear hfz57_1
        try clear hfz57_2
        try clear hfz57_3
        try clear hfz59_0
        try clear hfz59_1
        try clear hfz59_2
        try clear hfz59_3
        try clear hfz61_0
        try clear hfz61_1
        try clear hfz61_2
        try clear hfz61_3
        try clear hx348_0
        try clear hx348_1
        try clear hx348_2
        try clear hx348_3
        try clear p2
        try clear p3
        try clear p34
        try clear p348
        try clear p6
        try clear q3
        try clear q34
        try clear q348
        obtain ⟨kq, x33_66, x34_66, x35_66, rfl, rfl, rfl, HA, HJ66, HO_24, HB⟩ := hcut
        cases kq with
        | zero => exact absurd HA.out (by simp [laws_FnPieces.j5])
        | succ kj66 =>
         have H := HA.out
         clear HA
         simp only [laws_FnPieces.j5] at H
         by_cases c77 : (t355 == t357) = true
         ·rw [if_pos c77] at H
          have c77b0 : (t355 == t357) = true := c77
          (try (have c77b1 : decide (t355 = t357) = true := by simpa using c77))
          (try (have c77b2 : (t355 == t357) = true := by simpa using c77))
          clear c77
          by_cases c78 : t354.toList = t356.toList
          ·rw [if_pos c78] at H
           have c78b0 : (t354.toList == t356.toList) = true := beq_iff_eq.mpr c78
           have c78b1 : (t354.toList != t356.toList) = false := bne_eq_false_iff_eq.mpr c78
           clear c78
           by_cases c79 : (t363 == x35_66) = true
           ·rw [if_pos c79] at H
            have c79b0 : (t363 == x35_66) = true := c79
            (try (have c79b1 : decide (t363 = x35_66) = true := by simpa using c79))
            (try (have c79b2 : (t363 == x35_66) = true := by simpa using c79))
            clear c79
            by_cases c80 : t361 = x33_66
            ·rw [if_pos c80] at H
             have c80b0 : (t361 == x33_66) = true := beq_iff_eq.mpr c80
             have c80b1 : (t361 != x33_66) = false := bne_eq_false_iff_eq.mpr c80
             clear c80
             by_cases c81 : t362 = x34_66
             ·rw [if_pos c81] at H
              have c81b0 : (t362 == x34_66) = true := beq_iff_eq.mpr c81
              have c81b1 : (t362 != x34_66) = false := bne_eq_false_iff_eq.mpr c81
              clear c81
              replace H := Option.bind_eq_some_iff.mp H
              obtain ⟨t367, A820, H⟩ := H
              replace H : ((spec_GoodOps.f kj66 t350 t351).bind fun t368 => (some (t367 == t368))) = some r := H
              have A82 := Aside0.mk A820
              clear A820
              replace H := Option.bind_eq_some_iff.mp H
              obtain ⟨t368, A830, H⟩ := H
              replace H : (some (t367 == t368)) = some r := H
              have A83 := Aside0.mk A830
              clear A830
              obtain rfl := Option.some.inj H
              go_wp2_with (first | (go_at_call 21; (with_reducible refine (impl_GoodOps.calls kj66 t350 _ _ t351 t367 _ ?side1 ?side2 A82.out).mono ?_); (case side1 => repeat (first | exact (Kd.R_reads' HO_24.out).2.2 | (with_reducible refine Kd.C_alloc ?_ _) | (with_reducible refine Kd.C_drewN ?_ _) | (with_reducible refine Kd.C_drew ?_))); (case side2 => exact (Kd.R_reads' HO_24.out).2.1); rintro e w84 ⟨rfl, hb⟩; have n0_ := Aside0.mk (Kd.R_below (by (with_reducible repeat (first | apply Kd.R_alloc | apply Kd.R_drewN | apply Kd.R_drew)); exact HO_24.out) hb); have n1_ := Aside0.mk (below_step (by repeat (first | (with_reducible first | exact HB.out | apply below_alloc | apply pw_below_drewN | apply below_drew1) | exact HB.out)) hb); clear HO_24; clear HB; have HO_24 := n0_; have HB := n1_; clear n0_ n1_; (try clear hb); (try clear hb2); (try clear hk); (try clear hi)) | (go_at_call 20; (with_reducible refine (spec_GoodOps.calls kj66 t350 _ _ t351 t368 _ ?side1 ?side2 A83.out).mono ?_); (case side1 => repeat (first | exact (Kd.R_reads' HO_24.out).2.2 | (with_reducible refine Kd.C_alloc ?_ _) | (with_reducible refine Kd.C_drewN ?_ _) | (with_reducible refine Kd.C_drew ?_))); (case side2 => exact (Kd.R_reads' HO_24.out).2.1); rintro e w85 ⟨rfl, hb⟩; have n0_ := Aside0.mk (Kd.R_below (by (with_reducible repeat (first | apply Kd.R_alloc | apply Kd.R_drewN | apply Kd.R_drew)); exact HO_24.out) hb); have n1_ := Aside0.mk (below_step (by repeat (first | (with_reducible first | exact HB.out | apply below_alloc | apply pw_below_drewN | apply below_drew1) | exact HB.out)) hb); clear HO_24; clear HB; have HO_24 := n0_; have HB := n1_; clear n0_ n1_; (try clear hb); (try clear hb2); (try clear hk); (try clear hi)))
              go_ret
              exact ⟨by first | rfl | (simp [errW_none, errW_some] <;> rfl) | (simp [*, errW_none, errW_some] <;> rfl), by repeat (first | (with_reducible first | exact HB.out | apply below_alloc | apply pw_below_drewN | apply below_drew1) | exact HB.out)⟩
             ·rw [if_neg c81] at H
              have c81b0 : (t362 == x34_66) = false := beq_eq_false_iff_ne.mpr c81
              have c81b1 : (t362 != x34_66) = true := bne_iff_ne.mpr c81
              obtain rfl := Option.some.inj H
              go_wp2
              go_ret
              exact ⟨by first | rfl | (simp [errW_none, errW_some] <;> rfl) | (simp [*, errW_none, errW_some] <;> rfl), by repeat (first | (with_reducible first | exact HB.out | apply below_alloc | apply pw_below_drewN | apply below_drew1) | exact HB.out)⟩
            ·rw [if_neg c80] at H
             have c80b0 : (t361 == x33_66) = false := beq_eq_false_iff_ne.mpr c80
             have c80b1 : (t361 != x33_66) = true := bne_iff_ne.mpr c80
             obtain rfl := Option.some.inj H
             go_wp2
             go_ret
             exact ⟨by first | rfl | (simp [errW_none, errW_some] <;> rfl) | (simp [*, errW_none, errW_some] <;> rfl), by repeat (first | (with_reducible first | exact HB.out | apply below_alloc | apply pw_below_drewN | apply below_drew1) | exact HB.out)⟩
           ·rw [if_neg c79] at H
            have c79b0 : (t363 == x35_66) = false := by simpa using c79
            (try (have c79b1 : decide (t363 = x35_66) = false := by simpa using c79))
            (try (have c79b2 : (t363 == x35_66) = false := by simpa using c79))
            (try (have c79b3 : ¬ (t363 = x35_66) := by simpa using c79))
            clear c79
            obtain rfl := Option.some.inj H
            go_wp2
            go_ret
            exact ⟨by first | rfl | (simp [errW_none, errW_some] <;> rfl) | (simp [*, errW_none, errW_some] <;> rfl), by repeat (first | (with_reducible first | exact HB.out | apply below_alloc | apply pw_below_drewN | apply below_drew1) | exact HB.out)⟩
          ·rw [if_neg c78] at H
           have c78b0 : (t354.toList == t356.toList) = false := beq_eq_false_iff_ne.mpr c78
           have c78b1 : (t354.toList != t356.toList) = true := bne_iff_ne.mpr c78
           obtain rfl := Option.some.inj H
           go_wp2
           go_ret
           exact ⟨by first | rfl | (simp [errW_none, errW_some] <;> rfl) | (simp [*, errW_none, errW_some] <;> rfl), by repeat (first | (with_reducible first | exact HB.out | apply below_alloc | apply pw_below_drewN | apply below_drew1) | exact HB.out)⟩
         ·rw [if_neg c77] at H
          have c77b0 : (t355 == t357) = false := by simpa using c77
          (try (have c77b1 : decide (t355 = t357) = false := by simpa using c77))
          (try (have c77b2 : (t355 == t357) = false := by simpa using c77))
          (try (have c77b3 : ¬ (t355 = t357) := by simpa using c77))
          clear c77
          obtain rfl := Option.some.inj H
          go_wp2
          go_ret
          exact ⟨by first | rfl | (simp [errW_none, errW_some] <;> rfl) | (simp [*, errW_none, errW_some] <;> rfl), by repeat (first | (with_reducible first | exact HB.out | apply below_alloc | apply pw_below_drewN | apply below_drew1) | exact HB.out)⟩

/-- The pure statement of laws_FnPieces. -/
def laws_FnPieces.Pure : Prop := ∀ (l0 : List Int) (l1 : List Int), (l0.length * 1 ≤ 140737488351232 ∧ ∀ y0 ∈ l0, (Lit.int .u8 y0).wf = true) → (l1.length * 1 ≤ 140737488351232 ∧ ∀ y0 ∈ l1, (Lit.int .u8 y0).wf = true) → ∃ k, laws_FnPieces.f k l0 l1 = some true

end Go.Proofs.Ytnhnlfkbngnkpaa.D
