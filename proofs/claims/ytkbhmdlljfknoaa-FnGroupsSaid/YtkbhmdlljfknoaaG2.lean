import Derived.Test.YtkbhmdlljfknoaaG
set_option linter.unusedVariables false
set_option linter.unusedSimpArgs false
set_option linter.unusedSectionVars false
namespace Go.Abs.G
open Go Go.Abs Go.Proofs
theorem spec_WidthOf.l20_eq (most : Int) (x : Int × Int × List (Int × ByteArray)) (n : Int) (m : Int) (t12 : List (Int × Int × List (Int × ByteArray))) (t13 : Int) (t14 : Int) : spec_WidthOf.l20 most x n m t12 t13 t14 =
  (bif (decide (m < (x.2.2.length : Int))) then (bif ((decide (0 ≤ (w64 ((w64 ((x.2.2.length : Int) - 1)) - m)))) && (decide ((w64 ((w64 ((x.2.2.length : Int) - 1)) - m)) < (x.2.2.length : Int)))) then (bif (decide ((x.2.2.getD ((w64 ((w64 ((x.2.2.length : Int) - 1)) - m))).toNat (0, em)).1 = 1)) then (spec_WidthOf.l20 most x n (w64 (m + 1)) t12 t13 t14) else
    ((spec_l1Most.f n m).bind fun y107 =>
     (spec_l1Most.f most y107).bind fun y108 =>
     spec_WidthOf.l10 y108 t12 t13 (w64 (t14 + 1)))) else none) else
  ((spec_l1Most.f n m).bind fun y107 =>
   (spec_l1Most.f most y107).bind fun y108 =>
   spec_WidthOf.l10 y108 t12 t13 (w64 (t14 + 1)))) :=
  (fixP_eq spec_WidthOf.E spec_WidthOf.T spec_WidthOf.C spec_WidthOf.K 20 spec_WidthOf.D20 (most, x, n, m, t12, t13, t14)).trans (by kernel_rfl)
theorem spec_WidthOf.l21_eq (most : Int) (x : Int × Int × List (Int × ByteArray)) (n : Int) (m : Int) (t12 : List (Int × Int × List (Int × ByteArray))) (t13 : Int) (t14 : Int) : spec_WidthOf.l21 most x n m t12 t13 t14 =
  (spec_WidthOf.l20 most x n m t12 t13 t14) :=
  (fixP_eq spec_WidthOf.E spec_WidthOf.T spec_WidthOf.C spec_WidthOf.K 21 spec_WidthOf.D21 (most, x, n, m, t12, t13, t14)).trans (by kernel_rfl)
theorem spec_WidthOf.f_eq (g : List (Int × Int × List (Int × ByteArray))) : spec_WidthOf.f g =
  ((spec_l6Good.f g).bind fun y107 =>
  bif (!y107) then (some (0, false)) else
  (spec_WidthOf.l10 0 g (g.length : Int) 0)) := by kernel_rfl
noncomputable def spec_WidthOf.S : Abs.Sum := ⟨spec_WidthOf.P, spec_WidthOf.R, fun _ => Fn spec_WidthOf.E spec_WidthOf.T spec_WidthOf.C spec_WidthOf.P spec_WidthOf.R spec_WidthOf.X⟩
theorem spec_WidthOf.meets : Meets Try.prog 70 spec_WidthOf.S := meets_tab (S := spec_WidthOf.U) tabOk_all (AllMeets.cons spec_l6Good.meets (AllMeets.cons spec_l1Most.meets AllMeets.nil)) (AllStill.cons (fun _ _ _ => rfl) (AllStill.cons (fun _ _ _ => rfl) AllStill.nil)) follows (by kernel_rfl : Try.prog.funcs[70]? = some Try.f70) (by kernel_rfl) (by kernel_rfl) (by kernel_rfl)
noncomputable def impl_GoodGroups.C : Code := Try.f71.body.getD .skip
def impl_GoodGroups.P : Par := (.cons (.val (.list (.pair (.int .i64) (.pair (.int .i64) (.one (.list (.pair (.int .i64) (.one .str)))))))) .nil)
noncomputable def impl_GoodGroups.U : SumTab := [(128, [], impl_goodGroups.S)]
noncomputable def impl_GoodGroups.E : Env := mkEnv TY AR impl_GoodGroups.U
noncomputable def impl_GoodGroups.T : Tab := fun k => look k []
def impl_GoodGroups.R : List (Nat × Ty) := [(0, .bool)]
def impl_GoodGroups.X : List ResultVar := [.tmp 2]
noncomputable def impl_GoodGroups.f (g : List (Int × Int × List (Int × ByteArray))) : Option (Bool) := Fn impl_GoodGroups.E impl_GoodGroups.T impl_GoodGroups.C impl_GoodGroups.P impl_GoodGroups.R impl_GoodGroups.X g
theorem impl_GoodGroups.f_eq (g : List (Int × Int × List (Int × ByteArray))) : impl_GoodGroups.f g =
  ((impl_goodGroups.f g).bind fun y107 =>
  some y107) := by kernel_rfl
noncomputable def impl_GoodGroups.S : Abs.Sum := ⟨impl_GoodGroups.P, impl_GoodGroups.R, fun _ => Fn impl_GoodGroups.E impl_GoodGroups.T impl_GoodGroups.C impl_GoodGroups.P impl_GoodGroups.R impl_GoodGroups.X⟩
theorem impl_GoodGroups.meets : Meets Try.prog 71 impl_GoodGroups.S := meets_tab (S := impl_GoodGroups.U) tabOk_all (AllMeets.cons impl_goodGroups.meets AllMeets.nil) (AllStill.cons (fun _ _ _ => rfl) AllStill.nil) follows (by kernel_rfl : Try.prog.funcs[71]? = some Try.f71) (by kernel_rfl) (by kernel_rfl) (by kernel_rfl)
noncomputable def spec_GoodGroups.C : Code := Try.f72.body.getD .skip
def spec_GoodGroups.P : Par := (.cons (.val (.list (.pair (.int .i64) (.pair (.int .i64) (.one (.list (.pair (.int .i64) (.one .str)))))))) .nil)
noncomputable def spec_GoodGroups.U : SumTab := [(124, [], spec_l6Good.S)]
noncomputable def spec_GoodGroups.E : Env := mkEnv TY AR spec_GoodGroups.U
noncomputable def spec_GoodGroups.T : Tab := fun k => look k []
def spec_GoodGroups.R : List (Nat × Ty) := [(0, .bool)]
def spec_GoodGroups.X : List ResultVar := [.tmp 2]
noncomputable def spec_GoodGroups.f (g : List (Int × Int × List (Int × ByteArray))) : Option (Bool) := Fn spec_GoodGroups.E spec_GoodGroups.T spec_GoodGroups.C spec_GoodGroups.P spec_GoodGroups.R spec_GoodGroups.X g
theorem spec_GoodGroups.f_eq (g : List (Int × Int × List (Int × ByteArray))) : spec_GoodGroups.f g =
  ((spec_l6Good.f g).bind fun y107 =>
  some y107) := by kernel_rfl
noncomputable def spec_GoodGroups.S : Abs.Sum := ⟨spec_GoodGroups.P, spec_GoodGroups.R, fun _ => Fn spec_GoodGroups.E spec_GoodGroups.T spec_GoodGroups.C spec_GoodGroups.P spec_GoodGroups.R spec_GoodGroups.X⟩
theorem spec_GoodGroups.meets : Meets Try.prog 72 spec_GoodGroups.S := meets_tab (S := spec_GoodGroups.U) tabOk_all (AllMeets.cons spec_l6Good.meets AllMeets.nil) (AllStill.cons (fun _ _ _ => rfl) AllStill.nil) follows (by kernel_rfl : Try.prog.funcs[72]? = some Try.f72) (by kernel_rfl) (by kernel_rfl) (by kernel_rfl)
noncomputable def laws_FnGroups.C : Code := Try.f8.body.getD .skip
def laws_FnGroups.P : Par := (.cons (.val (.list (.int .u8))) (.cons (.val (.list (.int .u8))) .nil))
noncomputable def laws_FnGroups.U : SumTab := [(21, [], laws_big.S), (60, [], spec_DrawGroupsOf.S), (61, [], impl_GroupsOf.S), (62, [], spec_GroupsOf.S), (41, [], laws_sameGroups.S), (63, [], impl_GroupHunks.S), (64, [], impl_WidthOf.S), (65, [], laws_sameHunks.S), (30, [], impl_OldOf.S), (66, [], impl_FitsAt.S), (67, [], spec_DrawGroupHunks.S), (68, [], spec_GroupHunks.S), (69, [], spec_DrawWidthOf.S), (70, [], spec_WidthOf.S), (71, [], impl_GoodGroups.S), (72, [], spec_GoodGroups.S)]
def laws_FnGroups.Z : List (Nat × List Nat) := [(13, [8])]
noncomputable def laws_FnGroups.E : Env := mkEnvZ TY AR laws_FnGroups.U laws_FnGroups.Z
def laws_FnGroups.D17 : CutD := ⟨[1, 5, 6, 7, 8, 9], (.cons (.val (.list (.int .u8))) (.cons (.val (.list .str)) (.cons (.own 8 (.pair (.int .i64) (.pair (.int .i64) (.one (.list .str))))) (.cons (.val (.int .i64)) (.cons (.own 8 (.pair (.int .i64) (.pair (.int .i64) (.one (.list (.pair (.int .i64) (.one .str))))))) (.cons (.val .bool) .nil))))))⟩
def laws_FnGroups.D27 : CutD := ⟨[1, 5, 8], (.cons (.val (.list (.int .u8))) (.cons (.val (.list .str)) (.cons (.own 8 (.pair (.int .i64) (.pair (.int .i64) (.one (.list (.pair (.int .i64) (.one .str))))))) .nil)))⟩
def laws_FnGroups.D28 : CutD := ⟨[1, 5, 8, 104, 105, 106], (.cons (.val (.list (.int .u8))) (.cons (.val (.list .str)) (.cons (.val (.list (.pair (.int .i64) (.pair (.int .i64) (.one (.list (.pair (.int .i64) (.one .str)))))))) (.cons (.val (.list (.pair (.int .i64) (.pair (.int .i64) (.one (.list (.pair (.int .i64) (.one .str)))))))) (.cons (.val (.int .i64)) (.cons (.val (.int .i64)) .nil))))))⟩
def laws_FnGroups.D41 : CutD := ⟨[1, 5, 8, 17, 18, 19, 104, 105, 106], (.cons (.val (.list (.int .u8))) (.cons (.val (.list .str)) (.cons (.val (.list (.pair (.int .i64) (.pair (.int .i64) (.one (.list (.pair (.int .i64) (.one .str)))))))) (.cons (.val (.int .i64)) (.cons (.box 0 (.pair (.int .i64) (.pair (.int .i64) (.one (.list (.pair (.int .i64) (.one .str))))))) (.cons (.own 8 .str) (.cons (.val (.list (.pair (.int .i64) (.pair (.int .i64) (.one (.list (.pair (.int .i64) (.one .str)))))))) (.cons (.val (.int .i64)) (.cons (.val (.int .i64)) .nil)))))))))⟩
def laws_FnGroups.D49 : CutD := ⟨[1, 5, 8, 18, 19, 104, 105, 106], (.cons (.val (.list (.int .u8))) (.cons (.val (.list .str)) (.cons (.val (.list (.pair (.int .i64) (.pair (.int .i64) (.one (.list (.pair (.int .i64) (.one .str)))))))) (.cons (.box 0 (.pair (.int .i64) (.pair (.int .i64) (.one (.list (.pair (.int .i64) (.one .str))))))) (.cons (.own 8 .str) (.cons (.val (.list (.pair (.int .i64) (.pair (.int .i64) (.one (.list (.pair (.int .i64) (.one .str)))))))) (.cons (.val (.int .i64)) (.cons (.val (.int .i64)) .nil))))))))⟩
def laws_FnGroups.D55 : CutD := ⟨[1], (.cons (.val (.list (.int .u8))) .nil)⟩
noncomputable def laws_FnGroups.T : Tab := fun k => look k [(17, laws_FnGroups.D17), (27, laws_FnGroups.D27), (28, laws_FnGroups.D28), (41, laws_FnGroups.D41), (49, laws_FnGroups.D49), (55, laws_FnGroups.D55)]
def laws_FnGroups.R : List (Nat × Ty) := [(0, .bool)]
def laws_FnGroups.X : List ResultVar := [.tmp 4]
noncomputable def laws_FnGroups.K := fin laws_FnGroups.E ⟨laws_FnGroups.P, laws_FnGroups.R, fun _ _ => none⟩ laws_FnGroups.X laws_FnGroups.P.len 0
noncomputable def laws_FnGroups.l17 (more : List Int) (l : List ByteArray) (h : List (Int × Int × List ByteArray)) (width : Int) (g : List (Int × Int × List (Int × ByteArray))) (ok : Bool) : Option (Bool) := fixP laws_FnGroups.E laws_FnGroups.T laws_FnGroups.C laws_FnGroups.K 17 laws_FnGroups.D17 (more, l, h, width, g, ok)
noncomputable def laws_FnGroups.l27 (more : List Int) (l : List ByteArray) (g : List (Int × Int × List (Int × ByteArray))) : Option (Bool) := fixP laws_FnGroups.E laws_FnGroups.T laws_FnGroups.C laws_FnGroups.K 27 laws_FnGroups.D27 (more, l, g)
noncomputable def laws_FnGroups.l28 (more : List Int) (l : List ByteArray) (g : List (Int × Int × List (Int × ByteArray))) (t104 : List (Int × Int × List (Int × ByteArray))) (t105 : Int) (t106 : Int) : Option (Bool) := fixP laws_FnGroups.E laws_FnGroups.T laws_FnGroups.C laws_FnGroups.K 28 laws_FnGroups.D28 (more, l, g, t104, t105, t106)
noncomputable def laws_FnGroups.l41 (more : List Int) (l : List ByteArray) (g : List (Int × Int × List (Int × ByteArray))) (k : Int) (y : Int × Int × List (Int × ByteArray)) (t19 : List ByteArray) (t104 : List (Int × Int × List (Int × ByteArray))) (t105 : Int) (t106 : Int) : Option (Bool) := fixP laws_FnGroups.E laws_FnGroups.T laws_FnGroups.C laws_FnGroups.K 41 laws_FnGroups.D41 (more, l, g, k, y, t19, t104, t105, t106)
noncomputable def laws_FnGroups.l49 (more : List Int) (l : List ByteArray) (g : List (Int × Int × List (Int × ByteArray))) (y : Int × Int × List (Int × ByteArray)) (t19 : List ByteArray) (t104 : List (Int × Int × List (Int × ByteArray))) (t105 : Int) (t106 : Int) : Option (Bool) := fixP laws_FnGroups.E laws_FnGroups.T laws_FnGroups.C laws_FnGroups.K 49 laws_FnGroups.D49 (more, l, g, y, t19, t104, t105, t106)
noncomputable def laws_FnGroups.l55 (more : List Int) : Option (Bool) := fixP laws_FnGroups.E laws_FnGroups.T laws_FnGroups.C laws_FnGroups.K 55 laws_FnGroups.D55 more
noncomputable def laws_FnGroups.f (code : List Int) (more : List Int) : Option (Bool) := Fn laws_FnGroups.E laws_FnGroups.T laws_FnGroups.C laws_FnGroups.P laws_FnGroups.R laws_FnGroups.X (code, more)
theorem laws_FnGroups.l17_eq (more : List Int) (l : List ByteArray) (h : List (Int × Int × List ByteArray)) (width : Int) (g : List (Int × Int × List (Int × ByteArray))) (ok : Bool) : laws_FnGroups.l17 more l h width g ok =
  (bif ok then ((impl_GroupHunks.f l g).bind fun y107 =>
   (impl_WidthOf.f g).bind fun y108 =>
   bif (!y107.2.2) then (some false) else
   (bif (!(decide (y107.2.1 = 0))) then (some false) else
    ((laws_sameHunks.f y107.1 h).bind fun y109 =>
     bif (!y109) then (some false) else
     (bif (!y108.2) then (some false) else
      (bif (decide (y108.1 > width)) then (some false) else
       (laws_FnGroups.l27 more l g)))))) else
  (laws_FnGroups.l55 more)) :=
  (fixP_eq laws_FnGroups.E laws_FnGroups.T laws_FnGroups.C laws_FnGroups.K 17 laws_FnGroups.D17 (more, l, h, width, g, ok)).trans (by kernel_rfl)
theorem laws_FnGroups.l27_eq (more : List Int) (l : List ByteArray) (g : List (Int × Int × List (Int × ByteArray))) : laws_FnGroups.l27 more l g =
  (laws_FnGroups.l28 more l g g (g.length : Int) 0) :=
  (fixP_eq laws_FnGroups.E laws_FnGroups.T laws_FnGroups.C laws_FnGroups.K 27 laws_FnGroups.D27 (more, l, g)).trans (by kernel_rfl)
theorem laws_FnGroups.l28_eq (more : List Int) (l : List ByteArray) (g : List (Int × Int × List (Int × ByteArray))) (t104 : List (Int × Int × List (Int × ByteArray))) (t105 : Int) (t106 : Int) : laws_FnGroups.l28 more l g t104 t105 t106 =
  (bif (decide (t106 < t105)) then (bif ((decide (0 ≤ t106)) && (decide (t106 < (t104.length : Int)))) then ((impl_OldOf.f (t104.getD (t106).toNat (0, 0, ([] : List (Int × ByteArray))))).bind fun y107 =>
    (impl_FitsAt.f l (t104.getD (t106).toNat (0, 0, ([] : List (Int × ByteArray)))) (t104.getD (t106).toNat (0, 0, ([] : List (Int × ByteArray)))).1).bind fun y108 =>
    bif (!y107.2) then (some false) else
    (bif (!y108.2) then (some false) else
     (bif (!y108.1) then (some false) else
      (laws_FnGroups.l41 more l g t106 (t104.getD (t106).toNat (0, 0, ([] : List (Int × ByteArray)))) y107.1 t104 t105 t106)))) else none) else
  (laws_FnGroups.l55 more)) :=
  (fixP_eq laws_FnGroups.E laws_FnGroups.T laws_FnGroups.C laws_FnGroups.K 28 laws_FnGroups.D28 (more, l, g, t104, t105, t106)).trans (by kernel_rfl)
theorem laws_FnGroups.l41_eq (more : List Int) (l : List ByteArray) (g : List (Int × Int × List (Int × ByteArray))) (k : Int) (y : Int × Int × List (Int × ByteArray)) (t19 : List ByteArray) (t104 : List (Int × Int × List (Int × ByteArray))) (t105 : Int) (t106 : Int) : laws_FnGroups.l41 more l g k y t19 t104 t105 t106 =
  (bif (decide (k > 0)) then (bif ((decide (0 ≤ (w64 (k - 1)))) && (decide ((w64 (k - 1)) < (g.length : Int)))) then ((impl_OldOf.f (g.getD ((w64 (k - 1))).toNat (0, 0, ([] : List (Int × ByteArray))))).bind fun y107 =>
    bif (!y107.2) then (some false) else
    (bif ((decide (0 ≤ (w64 (k - 1)))) && (decide ((w64 (k - 1)) < (g.length : Int)))) then (bif (decide (y.1 < (w64 ((g.getD ((w64 (k - 1))).toNat (0, 0, ([] : List (Int × ByteArray)))).1 + (y107.1.length : Int))))) then (some false) else
      (laws_FnGroups.l49 more l g y t19 t104 t105 t106)) else none)) else none) else
  (laws_FnGroups.l49 more l g y t19 t104 t105 t106)) :=
  (fixP_eq laws_FnGroups.E laws_FnGroups.T laws_FnGroups.C laws_FnGroups.K 41 laws_FnGroups.D41 (more, l, g, k, y, t19, t104, t105, t106)).trans (by kernel_rfl)
theorem laws_FnGroups.l49_eq (more : List Int) (l : List ByteArray) (g : List (Int × Int × List (Int × ByteArray))) (y : Int × Int × List (Int × ByteArray)) (t19 : List ByteArray) (t104 : List (Int × Int × List (Int × ByteArray))) (t105 : Int) (t106 : Int) : laws_FnGroups.l49 more l g y t19 t104 t105 t106 =
  (bif (decide ((w64 (y.1 + (t19.length : Int))) > (l.length : Int))) then (some false) else
  (laws_FnGroups.l28 more l g t104 t105 (w64 (t106 + 1)))) :=
  (fixP_eq laws_FnGroups.E laws_FnGroups.T laws_FnGroups.C laws_FnGroups.K 49 laws_FnGroups.D49 (more, l, g, y, t19, t104, t105, t106)).trans (by kernel_rfl)
theorem laws_FnGroups.l55_eq (more : List Int) : laws_FnGroups.l55 more =
  ((spec_DrawGroupHunks.f more).bind fun y107 =>
  (impl_GroupHunks.f y107.1 y107.2).bind fun y108 =>
  (spec_GroupHunks.f y107.1 y107.2).bind fun y109 =>
  (spec_DrawWidthOf.f more).bind fun y110 =>
  (impl_WidthOf.f y110).bind fun y111 =>
  (spec_WidthOf.f y110).bind fun y112 =>
  bif (y108.2.2 == y109.2.2) then (bif (decide (y108.2.1 = y109.2.1)) then ((laws_sameHunks.f y108.1 y109.1).bind fun y113 =>
    bif y113 then (bif (y111.2 == y112.2) then (bif (decide (y111.1 = y112.1)) then ((impl_GoodGroups.f y110).bind fun y114 =>
       (spec_GoodGroups.f y110).bind fun y115 =>
       some (y114 == y115)) else (some false)) else (some false)) else (some false)) else (some false)) else (some false)) :=
  (fixP_eq laws_FnGroups.E laws_FnGroups.T laws_FnGroups.C laws_FnGroups.K 55 laws_FnGroups.D55 more).trans (by kernel_rfl)
theorem laws_FnGroups.f_eq (code : List Int) (more : List Int) : laws_FnGroups.f code more =
  ((laws_big.f code more).bind fun y107 =>
  bif y107 then (some true) else
  ((spec_DrawGroupsOf.f code).bind fun y108 =>
   (impl_GroupsOf.f y108.1 y108.2.1 y108.2.2).bind fun y109 =>
   (spec_GroupsOf.f y108.1 y108.2.1 y108.2.2).bind fun y110 =>
   bif (!(y109.2 == y110.2)) then (some false) else
   ((laws_sameGroups.f y109.1 y110.1).bind fun y111 =>
    bif (!y111) then (some false) else
    (laws_FnGroups.l17 more y108.1 y108.2.1 y108.2.2 y109.1 y109.2)))) := by kernel_rfl
noncomputable def laws_FnGroups.S : Abs.Sum := ⟨laws_FnGroups.P, laws_FnGroups.R, fun _ => Fn laws_FnGroups.E laws_FnGroups.T laws_FnGroups.C laws_FnGroups.P laws_FnGroups.R laws_FnGroups.X⟩
theorem laws_FnGroups.meets : Meets Try.prog 8 laws_FnGroups.S := meets_tabZ laws_FnGroups.Z (S := laws_FnGroups.U) tabOk_all (AllMeets.cons laws_big.meets (AllMeets.cons spec_DrawGroupsOf.meets (AllMeets.cons impl_GroupsOf.meets (AllMeets.cons spec_GroupsOf.meets (AllMeets.cons laws_sameGroups.meets (AllMeets.cons impl_GroupHunks.meets (AllMeets.cons impl_WidthOf.meets (AllMeets.cons laws_sameHunks.meets (AllMeets.cons impl_OldOf.meets (AllMeets.cons impl_FitsAt.meets (AllMeets.cons spec_DrawGroupHunks.meets (AllMeets.cons spec_GroupHunks.meets (AllMeets.cons spec_DrawWidthOf.meets (AllMeets.cons spec_WidthOf.meets (AllMeets.cons impl_GoodGroups.meets (AllMeets.cons spec_GoodGroups.meets AllMeets.nil)))))))))))))))) (AllStill.cons (fun _ _ _ => rfl) (AllStill.cons (fun _ _ _ => rfl) (AllStill.cons (fun _ _ _ => rfl) (AllStill.cons (fun _ _ _ => rfl) (AllStill.cons (fun _ _ _ => rfl) (AllStill.cons (fun _ _ _ => rfl) (AllStill.cons (fun _ _ _ => rfl) (AllStill.cons (fun _ _ _ => rfl) (AllStill.cons (fun _ _ _ => rfl) (AllStill.cons (fun _ _ _ => rfl) (AllStill.cons (fun _ _ _ => rfl) (AllStill.cons (fun _ _ _ => rfl) (AllStill.cons (fun _ _ _ => rfl) (AllStill.cons (fun _ _ _ => rfl) (AllStill.cons (fun _ _ _ => rfl) (AllStill.cons (fun _ _ _ => rfl) AllStill.nil)))))))))))))))) follows (by kernel_rfl : Try.prog.funcs[8]? = some Try.f8) (by kernel_rfl) (by kernel_rfl) (by kernel_rfl)
end Go.Abs.G
