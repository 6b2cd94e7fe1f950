import Derived.Test.YtkbhmdlljfknoaaGreatDoorGB
set_option linter.unusedVariables false
set_option linter.unusedSimpArgs false
set_option linter.unusedSectionVars false
namespace Go.Abs.G
open Go Go.Abs Go.Proofs
noncomputable def laws_szRow.C : Code := Tryz.f76.body.getD .skip
def laws_szRow.P : Par := (.cons (.val (.pair (.int .i64) (.one .str))) (.cons (.val (.int .i64)) .nil))
noncomputable def laws_szRow.U : SumTab := []
noncomputable def laws_szRow.E : Env := mkEnv TY AR laws_szRow.U
noncomputable def laws_szRow.T : Tab := fun k => look k []
def laws_szRow.R : List (Nat × Ty) := [(0, .int .i64)]
def laws_szRow.X : List ResultVar := [.tmp 4]
noncomputable def laws_szRow.f (a : Int × ByteArray) (left : Int) : Option (Int) := Fn laws_szRow.E laws_szRow.T laws_szRow.C laws_szRow.P laws_szRow.R laws_szRow.X (a, left)
theorem laws_szRow.f_eq (a : Int × ByteArray) (left : Int) : laws_szRow.f a left =
  (bif (decide ((w64 (left - (a.2.size : Int))) < 0)) then (some (-1)) else (some (w64 (left - (a.2.size : Int))))) := by kernel_rfl
noncomputable def laws_szRow.S : Abs.Sum := ⟨laws_szRow.P, laws_szRow.R, fun _ => Fn laws_szRow.E laws_szRow.T laws_szRow.C laws_szRow.P laws_szRow.R laws_szRow.X⟩
theorem laws_szRow.meets : Meets Tryz.prog 76 laws_szRow.S := meets_tab (S := laws_szRow.U) tabOk_all AllMeets.nil AllStill.nil follows (by kernel_rfl : Tryz.prog.funcs[76]? = some Tryz.f76) (by kernel_rfl) (by kernel_rfl) (by kernel_rfl)
noncomputable def laws_szRowS.C : Code := Tryz.f55.body.getD .skip
def laws_szRowS.P : Par := (.cons (.val (.list (.pair (.int .i64) (.one .str)))) (.cons (.val (.int .i64)) .nil))
noncomputable def laws_szRowS.U : SumTab := [(76, [], laws_szRow.S)]
noncomputable def laws_szRowS.E : Env := mkEnv TY AR laws_szRowS.U
def laws_szRowS.D10 : CutD := ⟨[0, 1, 5], (.cons (.val (.list (.pair (.int .i64) (.one .str)))) (.cons (.val (.int .i64)) (.cons (.val (.int .i64)) .nil)))⟩
noncomputable def laws_szRowS.T : Tab := fun k => look k [(10, laws_szRowS.D10)]
def laws_szRowS.R : List (Nat × Ty) := [(0, .int .i64)]
def laws_szRowS.X : List ResultVar := [.tmp 4]
noncomputable def laws_szRowS.K := fin laws_szRowS.E ⟨laws_szRowS.P, laws_szRowS.R, fun _ _ => none⟩ laws_szRowS.X laws_szRowS.P.len 0
noncomputable def laws_szRowS.l10 (a : List (Int × ByteArray)) (left : Int) (i : Int) : Option (Int) := fixP laws_szRowS.E laws_szRowS.T laws_szRowS.C laws_szRowS.K 10 laws_szRowS.D10 (a, left, i)
noncomputable def laws_szRowS.f (a : List (Int × ByteArray)) (left : Int) : Option (Int) := Fn laws_szRowS.E laws_szRowS.T laws_szRowS.C laws_szRowS.P laws_szRowS.R laws_szRowS.X (a, left)
theorem laws_szRowS.l10_eq (a : List (Int × ByteArray)) (left : Int) (i : Int) : laws_szRowS.l10 a left i =
  (bif (decide (i < (a.length : Int))) then (bif ((decide (0 ≤ i)) && (decide (i < (a.length : Int)))) then ((laws_szRow.f (a.getD (i).toNat (0, em)) left).bind fun y1 =>
    bif (decide (y1 < 0)) then (some (-1)) else
    (laws_szRowS.l10 a y1 (w64 (i + 1)))) else none) else (some left)) :=
  (fixP_eq laws_szRowS.E laws_szRowS.T laws_szRowS.C laws_szRowS.K 10 laws_szRowS.D10 (a, left, i)).trans (by kernel_rfl)
theorem laws_szRowS.f_eq (a : List (Int × ByteArray)) (left : Int) : laws_szRowS.f a left =
  (bif (decide ((w64 (left - (a.length : Int))) < 0)) then (some (-1)) else
  (laws_szRowS.l10 a (w64 (left - (a.length : Int))) 0)) := by kernel_rfl
noncomputable def laws_szRowS.S : Abs.Sum := ⟨laws_szRowS.P, laws_szRowS.R, fun _ => Fn laws_szRowS.E laws_szRowS.T laws_szRowS.C laws_szRowS.P laws_szRowS.R laws_szRowS.X⟩
theorem laws_szRowS.meets : Meets Tryz.prog 55 laws_szRowS.S := meets_tab (S := laws_szRowS.U) tabOk_all (AllMeets.cons laws_szRow.meets AllMeets.nil) (AllStill.cons (fun _ _ _ => rfl) AllStill.nil) follows (by kernel_rfl : Tryz.prog.funcs[55]? = some Tryz.f55) (by kernel_rfl) (by kernel_rfl) (by kernel_rfl)
noncomputable def laws_szGroup.C : Code := Tryz.f35.body.getD .skip
def laws_szGroup.P : Par := (.cons (.val (.pair (.int .i64) (.pair (.int .i64) (.one (.list (.pair (.int .i64) (.one .str))))))) (.cons (.val (.int .i64)) .nil))
noncomputable def laws_szGroup.U : SumTab := [(55, [], laws_szRowS.S)]
noncomputable def laws_szGroup.E : Env := mkEnv TY AR laws_szGroup.U
noncomputable def laws_szGroup.T : Tab := fun k => look k []
def laws_szGroup.R : List (Nat × Ty) := [(0, .int .i64)]
def laws_szGroup.X : List ResultVar := [.tmp 4]
noncomputable def laws_szGroup.f (a : Int × Int × List (Int × ByteArray)) (left : Int) : Option (Int) := Fn laws_szGroup.E laws_szGroup.T laws_szGroup.C laws_szGroup.P laws_szGroup.R laws_szGroup.X (a, left)
theorem laws_szGroup.f_eq (a : Int × Int × List (Int × ByteArray)) (left : Int) : laws_szGroup.f a left =
  ((laws_szRowS.f a.2.2 left).bind fun y1 =>
  bif (decide (y1 < 0)) then (some (-1)) else (some y1)) := by kernel_rfl
noncomputable def laws_szGroup.S : Abs.Sum := ⟨laws_szGroup.P, laws_szGroup.R, fun _ => Fn laws_szGroup.E laws_szGroup.T laws_szGroup.C laws_szGroup.P laws_szGroup.R laws_szGroup.X⟩
theorem laws_szGroup.meets : Meets Tryz.prog 35 laws_szGroup.S := meets_tab (S := laws_szGroup.U) tabOk_all (AllMeets.cons laws_szRowS.meets AllMeets.nil) (AllStill.cons (fun _ _ _ => rfl) AllStill.nil) follows (by kernel_rfl : Tryz.prog.funcs[35]? = some Tryz.f35) (by kernel_rfl) (by kernel_rfl) (by kernel_rfl)
noncomputable def laws_szGroupS.C : Code := Tryz.f19.body.getD .skip
def laws_szGroupS.P : Par := (.cons (.val (.list (.pair (.int .i64) (.pair (.int .i64) (.one (.list (.pair (.int .i64) (.one .str)))))))) (.cons (.val (.int .i64)) .nil))
noncomputable def laws_szGroupS.U : SumTab := [(35, [], laws_szGroup.S)]
noncomputable def laws_szGroupS.E : Env := mkEnv TY AR laws_szGroupS.U
def laws_szGroupS.D10 : CutD := ⟨[0, 1, 5], (.cons (.val (.list (.pair (.int .i64) (.pair (.int .i64) (.one (.list (.pair (.int .i64) (.one .str)))))))) (.cons (.val (.int .i64)) (.cons (.val (.int .i64)) .nil)))⟩
noncomputable def laws_szGroupS.T : Tab := fun k => look k [(10, laws_szGroupS.D10)]
def laws_szGroupS.R : List (Nat × Ty) := [(0, .int .i64)]
def laws_szGroupS.X : List ResultVar := [.tmp 4]
noncomputable def laws_szGroupS.K := fin laws_szGroupS.E ⟨laws_szGroupS.P, laws_szGroupS.R, fun _ _ => none⟩ laws_szGroupS.X laws_szGroupS.P.len 0
noncomputable def laws_szGroupS.l10 (a : List (Int × Int × List (Int × ByteArray))) (left : Int) (i : Int) : Option (Int) := fixP laws_szGroupS.E laws_szGroupS.T laws_szGroupS.C laws_szGroupS.K 10 laws_szGroupS.D10 (a, left, i)
noncomputable def laws_szGroupS.f (a : List (Int × Int × List (Int × ByteArray))) (left : Int) : Option (Int) := Fn laws_szGroupS.E laws_szGroupS.T laws_szGroupS.C laws_szGroupS.P laws_szGroupS.R laws_szGroupS.X (a, left)
theorem laws_szGroupS.l10_eq (a : List (Int × Int × List (Int × ByteArray))) (left : Int) (i : Int) : laws_szGroupS.l10 a left i =
  (bif (decide (i < (a.length : Int))) then (bif ((decide (0 ≤ i)) && (decide (i < (a.length : Int)))) then ((laws_szGroup.f (a.getD (i).toNat (0, 0, ([] : List (Int × ByteArray)))) left).bind fun y1 =>
    bif (decide (y1 < 0)) then (some (-1)) else
    (laws_szGroupS.l10 a y1 (w64 (i + 1)))) else none) else (some left)) :=
  (fixP_eq laws_szGroupS.E laws_szGroupS.T laws_szGroupS.C laws_szGroupS.K 10 laws_szGroupS.D10 (a, left, i)).trans (by kernel_rfl)
theorem laws_szGroupS.f_eq (a : List (Int × Int × List (Int × ByteArray))) (left : Int) : laws_szGroupS.f a left =
  (bif (decide ((w64 (left - (a.length : Int))) < 0)) then (some (-1)) else
  (laws_szGroupS.l10 a (w64 (left - (a.length : Int))) 0)) := by kernel_rfl
noncomputable def laws_szGroupS.S : Abs.Sum := ⟨laws_szGroupS.P, laws_szGroupS.R, fun _ => Fn laws_szGroupS.E laws_szGroupS.T laws_szGroupS.C laws_szGroupS.P laws_szGroupS.R laws_szGroupS.X⟩
theorem laws_szGroupS.meets : Meets Tryz.prog 19 laws_szGroupS.S := meets_tab (S := laws_szGroupS.U) tabOk_all (AllMeets.cons laws_szGroup.meets AllMeets.nil) (AllStill.cons (fun _ _ _ => rfl) AllStill.nil) follows (by kernel_rfl : Tryz.prog.funcs[19]? = some Tryz.f19) (by kernel_rfl) (by kernel_rfl) (by kernel_rfl)
noncomputable def laws_szFileDiff.C : Code := Tryz.f9.body.getD .skip
def laws_szFileDiff.P : Par := (.cons (.val (.pair .str (.pair (.int .i64) (.one (.list (.pair (.int .i64) (.pair (.int .i64) (.one (.list (.pair (.int .i64) (.one .str))))))))))) (.cons (.val (.int .i64)) .nil))
noncomputable def laws_szFileDiff.U : SumTab := [(19, [], laws_szGroupS.S)]
noncomputable def laws_szFileDiff.E : Env := mkEnv TY AR laws_szFileDiff.U
noncomputable def laws_szFileDiff.T : Tab := fun k => look k []
def laws_szFileDiff.R : List (Nat × Ty) := [(0, .int .i64)]
def laws_szFileDiff.X : List ResultVar := [.tmp 4]
noncomputable def laws_szFileDiff.f (a : ByteArray × Int × List (Int × Int × List (Int × ByteArray))) (left : Int) : Option (Int) := Fn laws_szFileDiff.E laws_szFileDiff.T laws_szFileDiff.C laws_szFileDiff.P laws_szFileDiff.R laws_szFileDiff.X (a, left)
theorem laws_szFileDiff.f_eq (a : ByteArray × Int × List (Int × Int × List (Int × ByteArray))) (left : Int) : laws_szFileDiff.f a left =
  (bif (decide ((w64 (left - (a.1.size : Int))) < 0)) then (some (-1)) else
  ((laws_szGroupS.f a.2.2 (w64 (left - (a.1.size : Int)))).bind fun y1 =>
   bif (decide (y1 < 0)) then (some (-1)) else (some y1))) := by kernel_rfl
noncomputable def laws_szFileDiff.S : Abs.Sum := ⟨laws_szFileDiff.P, laws_szFileDiff.R, fun _ => Fn laws_szFileDiff.E laws_szFileDiff.T laws_szFileDiff.C laws_szFileDiff.P laws_szFileDiff.R laws_szFileDiff.X⟩
theorem laws_szFileDiff.meets : Meets Tryz.prog 9 laws_szFileDiff.S := meets_tab (S := laws_szFileDiff.U) tabOk_all (AllMeets.cons laws_szGroupS.meets AllMeets.nil) (AllStill.cons (fun _ _ _ => rfl) AllStill.nil) follows (by kernel_rfl : Tryz.prog.funcs[9]? = some Tryz.f9) (by kernel_rfl) (by kernel_rfl) (by kernel_rfl)
noncomputable def laws_szFileDiffS.C : Code := Tryz.f4.body.getD .skip
def laws_szFileDiffS.P : Par := (.cons (.val (.list (.pair .str (.pair (.int .i64) (.one (.list (.pair (.int .i64) (.pair (.int .i64) (.one (.list (.pair (.int .i64) (.one .str)))))))))))) (.cons (.val (.int .i64)) .nil))
noncomputable def laws_szFileDiffS.U : SumTab := [(9, [], laws_szFileDiff.S)]
noncomputable def laws_szFileDiffS.E : Env := mkEnv TY AR laws_szFileDiffS.U
def laws_szFileDiffS.D10 : CutD := ⟨[0, 1, 5], (.cons (.val (.list (.pair .str (.pair (.int .i64) (.one (.list (.pair (.int .i64) (.pair (.int .i64) (.one (.list (.pair (.int .i64) (.one .str)))))))))))) (.cons (.val (.int .i64)) (.cons (.val (.int .i64)) .nil)))⟩
noncomputable def laws_szFileDiffS.T : Tab := fun k => look k [(10, laws_szFileDiffS.D10)]
def laws_szFileDiffS.R : List (Nat × Ty) := [(0, .int .i64)]
def laws_szFileDiffS.X : List ResultVar := [.tmp 4]
noncomputable def laws_szFileDiffS.K := fin laws_szFileDiffS.E ⟨laws_szFileDiffS.P, laws_szFileDiffS.R, fun _ _ => none⟩ laws_szFileDiffS.X laws_szFileDiffS.P.len 0
noncomputable def laws_szFileDiffS.l10 (a : List (ByteArray × Int × List (Int × Int × List (Int × ByteArray)))) (left : Int) (i : Int) : Option (Int) := fixP laws_szFileDiffS.E laws_szFileDiffS.T laws_szFileDiffS.C laws_szFileDiffS.K 10 laws_szFileDiffS.D10 (a, left, i)
noncomputable def laws_szFileDiffS.f (a : List (ByteArray × Int × List (Int × Int × List (Int × ByteArray)))) (left : Int) : Option (Int) := Fn laws_szFileDiffS.E laws_szFileDiffS.T laws_szFileDiffS.C laws_szFileDiffS.P laws_szFileDiffS.R laws_szFileDiffS.X (a, left)
theorem laws_szFileDiffS.l10_eq (a : List (ByteArray × Int × List (Int × Int × List (Int × ByteArray)))) (left : Int) (i : Int) : laws_szFileDiffS.l10 a left i =
  (bif (decide (i < (a.length : Int))) then (bif ((decide (0 ≤ i)) && (decide (i < (a.length : Int)))) then ((laws_szFileDiff.f (a.getD (i).toNat (em, 0, ([] : List (Int × Int × List (Int × ByteArray))))) left).bind fun y1 =>
    bif (decide (y1 < 0)) then (some (-1)) else
    (laws_szFileDiffS.l10 a y1 (w64 (i + 1)))) else none) else (some left)) :=
  (fixP_eq laws_szFileDiffS.E laws_szFileDiffS.T laws_szFileDiffS.C laws_szFileDiffS.K 10 laws_szFileDiffS.D10 (a, left, i)).trans (by kernel_rfl)
theorem laws_szFileDiffS.f_eq (a : List (ByteArray × Int × List (Int × Int × List (Int × ByteArray)))) (left : Int) : laws_szFileDiffS.f a left =
  (bif (decide ((w64 (left - (a.length : Int))) < 0)) then (some (-1)) else
  (laws_szFileDiffS.l10 a (w64 (left - (a.length : Int))) 0)) := by kernel_rfl
noncomputable def laws_szFileDiffS.S : Abs.Sum := ⟨laws_szFileDiffS.P, laws_szFileDiffS.R, fun _ => Fn laws_szFileDiffS.E laws_szFileDiffS.T laws_szFileDiffS.C laws_szFileDiffS.P laws_szFileDiffS.R laws_szFileDiffS.X⟩
theorem laws_szFileDiffS.meets : Meets Tryz.prog 4 laws_szFileDiffS.S := meets_tab (S := laws_szFileDiffS.U) tabOk_all (AllMeets.cons laws_szFileDiff.meets AllMeets.nil) (AllStill.cons (fun _ _ _ => rfl) AllStill.nil) follows (by kernel_rfl : Tryz.prog.funcs[4]? = some Tryz.f4) (by kernel_rfl) (by kernel_rfl) (by kernel_rfl)
noncomputable def laws_toRow.C : Code := Tryz.f79.body.getD .skip
def laws_toRow.P : Par := (.cons (.val (.pair (.int .i64) (.one .str))) .nil)
noncomputable def laws_toRow.U : SumTab := []
noncomputable def laws_toRow.E : Env := mkEnv TY AR laws_toRow.U
noncomputable def laws_toRow.T : Tab := fun k => look k []
def laws_toRow.R : List (Nat × Ty) := [(0, .pair (.int .i64) (.one .str))]
def laws_toRow.X : List ResultVar := [.cell 2 66]
noncomputable def laws_toRow.f (a : Int × ByteArray) : Option ((Int × ByteArray)) := Fn laws_toRow.E laws_toRow.T laws_toRow.C laws_toRow.P laws_toRow.R laws_toRow.X a
theorem laws_toRow.f_eq (a : Int × ByteArray) : laws_toRow.f a =
  (some (a.1, a.2)) := by kernel_rfl
noncomputable def laws_toRow.S : Abs.Sum := ⟨laws_toRow.P, laws_toRow.R, fun _ => Fn laws_toRow.E laws_toRow.T laws_toRow.C laws_toRow.P laws_toRow.R laws_toRow.X⟩
theorem laws_toRow.meets : Meets Tryz.prog 79 laws_toRow.S := meets_tab (S := laws_toRow.U) tabOk_all AllMeets.nil AllStill.nil follows (by kernel_rfl : Tryz.prog.funcs[79]? = some Tryz.f79) (by kernel_rfl) (by kernel_rfl) (by kernel_rfl)
noncomputable def laws_toRowS.C : Code := Tryz.f62.body.getD .skip
def laws_toRowS.P : Par := (.cons (.val (.list (.pair (.int .i64) (.one .str)))) .nil)
noncomputable def laws_toRowS.U : SumTab := [(79, [], laws_toRow.S)]
noncomputable def laws_toRowS.E : Env := mkEnv TY AR laws_toRowS.U
def laws_toRowS.D6 : CutD := ⟨[0, 3, 4], (.cons (.val (.list (.pair (.int .i64) (.one .str)))) (.cons (.own 9 (.pair (.int .i64) (.one .str))) (.cons (.val (.int .i64)) .nil)))⟩
noncomputable def laws_toRowS.T : Tab := fun k => look k [(6, laws_toRowS.D6)]
def laws_toRowS.R : List (Nat × Ty) := [(9, .list (.pair (.int .i64) (.one .str)))]
def laws_toRowS.X : List ResultVar := [.tmp 2]
noncomputable def laws_toRowS.K := fin laws_toRowS.E ⟨laws_toRowS.P, laws_toRowS.R, fun _ _ => none⟩ laws_toRowS.X laws_toRowS.P.len 0
noncomputable def laws_toRowS.l6 (a : List (Int × ByteArray)) (out : List (Int × ByteArray)) (i : Int) : Option ((List (Int × ByteArray))) := fixP laws_toRowS.E laws_toRowS.T laws_toRowS.C laws_toRowS.K 6 laws_toRowS.D6 (a, out, i)
noncomputable def laws_toRowS.f (a : List (Int × ByteArray)) : Option ((List (Int × ByteArray))) := Fn laws_toRowS.E laws_toRowS.T laws_toRowS.C laws_toRowS.P laws_toRowS.R laws_toRowS.X a
theorem laws_toRowS.l6_eq (a : List (Int × ByteArray)) (out : List (Int × ByteArray)) (i : Int) : laws_toRowS.l6 a out i =
  (bif (decide (i < (a.length : Int))) then (bif ((decide (0 ≤ i)) && (decide (i < (a.length : Int)))) then ((laws_toRow.f (a.getD (i).toNat (0, em))).bind fun y1 =>
    bif ((decide (0 ≤ i)) && (decide (i < (out.length : Int)))) then (laws_toRowS.l6 a (out.set (i).toNat y1) (w64 (i + 1))) else none) else none) else (some out)) :=
  (fixP_eq laws_toRowS.E laws_toRowS.T laws_toRowS.C laws_toRowS.K 6 laws_toRowS.D6 (a, out, i)).trans (by kernel_rfl)
theorem laws_toRowS.f_eq (a : List (Int × ByteArray)) : laws_toRowS.f a =
  (bif ((decide (0 ≤ (a.length : Int))) && (decide (((a.length : Int)).toNat ≤ room 24))) then (laws_toRowS.l6 a (List.replicate ((a.length : Int)).toNat (0, em)) 0) else none) := by kernel_rfl
noncomputable def laws_toRowS.S : Abs.Sum := ⟨laws_toRowS.P, laws_toRowS.R, fun _ => Fn laws_toRowS.E laws_toRowS.T laws_toRowS.C laws_toRowS.P laws_toRowS.R laws_toRowS.X⟩
theorem laws_toRowS.meets : Meets Tryz.prog 62 laws_toRowS.S := meets_tab (S := laws_toRowS.U) tabOk_all (AllMeets.cons laws_toRow.meets AllMeets.nil) (AllStill.cons (fun _ _ _ => rfl) AllStill.nil) follows (by kernel_rfl : Tryz.prog.funcs[62]? = some Tryz.f62) (by kernel_rfl) (by kernel_rfl) (by kernel_rfl)
noncomputable def laws_toGroup.C : Code := Tryz.f42.body.getD .skip
def laws_toGroup.P : Par := (.cons (.val (.pair (.int .i64) (.pair (.int .i64) (.one (.list (.pair (.int .i64) (.one .str))))))) .nil)
noncomputable def laws_toGroup.U : SumTab := [(62, [], laws_toRowS.S)]
noncomputable def laws_toGroup.E : Env := mkEnv TY AR laws_toGroup.U
noncomputable def laws_toGroup.T : Tab := fun k => look k []
def laws_toGroup.R : List (Nat × Ty) := [(9, .pair (.int .i64) (.pair (.int .i64) (.one (.list (.pair (.int .i64) (.one .str))))))]
def laws_toGroup.X : List ResultVar := [.cell 2 53]
noncomputable def laws_toGroup.f (a : Int × Int × List (Int × ByteArray)) : Option ((Int × Int × List (Int × ByteArray))) := Fn laws_toGroup.E laws_toGroup.T laws_toGroup.C laws_toGroup.P laws_toGroup.R laws_toGroup.X a
theorem laws_toGroup.f_eq (a : Int × Int × List (Int × ByteArray)) : laws_toGroup.f a =
  ((laws_toRowS.f a.2.2).bind fun y1 =>
  some (a.1, a.2.1, y1)) := by kernel_rfl
noncomputable def laws_toGroup.S : Abs.Sum := ⟨laws_toGroup.P, laws_toGroup.R, fun _ => Fn laws_toGroup.E laws_toGroup.T laws_toGroup.C laws_toGroup.P laws_toGroup.R laws_toGroup.X⟩
theorem laws_toGroup.meets : Meets Tryz.prog 42 laws_toGroup.S := meets_tab (S := laws_toGroup.U) tabOk_all (AllMeets.cons laws_toRowS.meets AllMeets.nil) (AllStill.cons (fun _ _ _ => rfl) AllStill.nil) follows (by kernel_rfl : Tryz.prog.funcs[42]? = some Tryz.f42) (by kernel_rfl) (by kernel_rfl) (by kernel_rfl)
noncomputable def laws_toGroupS.C : Code := Tryz.f23.body.getD .skip
def laws_toGroupS.P : Par := (.cons (.val (.list (.pair (.int .i64) (.pair (.int .i64) (.one (.list (.pair (.int .i64) (.one .str)))))))) .nil)
noncomputable def laws_toGroupS.U : SumTab := [(42, [], laws_toGroup.S)]
noncomputable def laws_toGroupS.E : Env := mkEnv TY AR laws_toGroupS.U
def laws_toGroupS.D6 : CutD := ⟨[0, 3, 4], (.cons (.val (.list (.pair (.int .i64) (.pair (.int .i64) (.one (.list (.pair (.int .i64) (.one .str)))))))) (.cons (.own 9 (.pair (.int .i64) (.pair (.int .i64) (.one (.list (.pair (.int .i64) (.one .str))))))) (.cons (.val (.int .i64)) .nil)))⟩
noncomputable def laws_toGroupS.T : Tab := fun k => look k [(6, laws_toGroupS.D6)]
def laws_toGroupS.R : List (Nat × Ty) := [(9, .list (.pair (.int .i64) (.pair (.int .i64) (.one (.list (.pair (.int .i64) (.one .str)))))))]
def laws_toGroupS.X : List ResultVar := [.tmp 2]
noncomputable def laws_toGroupS.K := fin laws_toGroupS.E ⟨laws_toGroupS.P, laws_toGroupS.R, fun _ _ => none⟩ laws_toGroupS.X laws_toGroupS.P.len 0
noncomputable def laws_toGroupS.l6 (a : List (Int × Int × List (Int × ByteArray))) (out : List (Int × Int × List (Int × ByteArray))) (i : Int) : Option ((List (Int × Int × List (Int × ByteArray)))) := fixP laws_toGroupS.E laws_toGroupS.T laws_toGroupS.C laws_toGroupS.K 6 laws_toGroupS.D6 (a, out, i)
noncomputable def laws_toGroupS.f (a : List (Int × Int × List (Int × ByteArray))) : Option ((List (Int × Int × List (Int × ByteArray)))) := Fn laws_toGroupS.E laws_toGroupS.T laws_toGroupS.C laws_toGroupS.P laws_toGroupS.R laws_toGroupS.X a
theorem laws_toGroupS.l6_eq (a : List (Int × Int × List (Int × ByteArray))) (out : List (Int × Int × List (Int × ByteArray))) (i : Int) : laws_toGroupS.l6 a out i =
  (bif (decide (i < (a.length : Int))) then (bif ((decide (0 ≤ i)) && (decide (i < (a.length : Int)))) then ((laws_toGroup.f (a.getD (i).toNat (0, 0, ([] : List (Int × ByteArray))))).bind fun y1 =>
    bif ((decide (0 ≤ i)) && (decide (i < (out.length : Int)))) then (laws_toGroupS.l6 a (out.set (i).toNat (y1.1, y1.2.1, y1.2.2)) (w64 (i + 1))) else none) else none) else (some out)) :=
  (fixP_eq laws_toGroupS.E laws_toGroupS.T laws_toGroupS.C laws_toGroupS.K 6 laws_toGroupS.D6 (a, out, i)).trans (by kernel_rfl)
theorem laws_toGroupS.f_eq (a : List (Int × Int × List (Int × ByteArray))) : laws_toGroupS.f a =
  (bif ((decide (0 ≤ (a.length : Int))) && (decide (((a.length : Int)).toNat ≤ room 40))) then (laws_toGroupS.l6 a (List.replicate ((a.length : Int)).toNat (0, 0, ([] : List (Int × ByteArray)))) 0) else none) := by kernel_rfl
noncomputable def laws_toGroupS.S : Abs.Sum := ⟨laws_toGroupS.P, laws_toGroupS.R, fun _ => Fn laws_toGroupS.E laws_toGroupS.T laws_toGroupS.C laws_toGroupS.P laws_toGroupS.R laws_toGroupS.X⟩
theorem laws_toGroupS.meets : Meets Tryz.prog 23 laws_toGroupS.S := meets_tab (S := laws_toGroupS.U) tabOk_all (AllMeets.cons laws_toGroup.meets AllMeets.nil) (AllStill.cons (fun _ _ _ => rfl) AllStill.nil) follows (by kernel_rfl : Tryz.prog.funcs[23]? = some Tryz.f23) (by kernel_rfl) (by kernel_rfl) (by kernel_rfl)
noncomputable def laws_toFileDiff.C : Code := Tryz.f12.body.getD .skip
def laws_toFileDiff.P : Par := (.cons (.val (.pair .str (.pair (.int .i64) (.one (.list (.pair (.int .i64) (.pair (.int .i64) (.one (.list (.pair (.int .i64) (.one .str))))))))))) .nil)
noncomputable def laws_toFileDiff.U : SumTab := [(23, [], laws_toGroupS.S)]
noncomputable def laws_toFileDiff.E : Env := mkEnv TY AR laws_toFileDiff.U
noncomputable def laws_toFileDiff.T : Tab := fun k => look k []
def laws_toFileDiff.R : List (Nat × Ty) := [(9, .pair .str (.pair (.int .i64) (.one (.list (.pair (.int .i64) (.pair (.int .i64) (.one (.list (.pair (.int .i64) (.one .str))))))))))]
def laws_toFileDiff.X : List ResultVar := [.cell 2 38]
noncomputable def laws_toFileDiff.f (a : ByteArray × Int × List (Int × Int × List (Int × ByteArray))) : Option ((ByteArray × Int × List (Int × Int × List (Int × ByteArray)))) := Fn laws_toFileDiff.E laws_toFileDiff.T laws_toFileDiff.C laws_toFileDiff.P laws_toFileDiff.R laws_toFileDiff.X a
theorem laws_toFileDiff.f_eq (a : ByteArray × Int × List (Int × Int × List (Int × ByteArray))) : laws_toFileDiff.f a =
  ((laws_toGroupS.f a.2.2).bind fun y1 =>
  some (a.1, a.2.1, y1)) := by kernel_rfl
noncomputable def laws_toFileDiff.S : Abs.Sum := ⟨laws_toFileDiff.P, laws_toFileDiff.R, fun _ => Fn laws_toFileDiff.E laws_toFileDiff.T laws_toFileDiff.C laws_toFileDiff.P laws_toFileDiff.R laws_toFileDiff.X⟩
theorem laws_toFileDiff.meets : Meets Tryz.prog 12 laws_toFileDiff.S := meets_tab (S := laws_toFileDiff.U) tabOk_all (AllMeets.cons laws_toGroupS.meets AllMeets.nil) (AllStill.cons (fun _ _ _ => rfl) AllStill.nil) follows (by kernel_rfl : Tryz.prog.funcs[12]? = some Tryz.f12) (by kernel_rfl) (by kernel_rfl) (by kernel_rfl)
noncomputable def laws_toFileDiffS.C : Code := Tryz.f6.body.getD .skip
def laws_toFileDiffS.P : Par := (.cons (.val (.list (.pair .str (.pair (.int .i64) (.one (.list (.pair (.int .i64) (.pair (.int .i64) (.one (.list (.pair (.int .i64) (.one .str)))))))))))) .nil)
noncomputable def laws_toFileDiffS.U : SumTab := [(12, [], laws_toFileDiff.S)]
noncomputable def laws_toFileDiffS.E : Env := mkEnv TY AR laws_toFileDiffS.U
def laws_toFileDiffS.D6 : CutD := ⟨[0, 3, 4], (.cons (.val (.list (.pair .str (.pair (.int .i64) (.one (.list (.pair (.int .i64) (.pair (.int .i64) (.one (.list (.pair (.int .i64) (.one .str)))))))))))) (.cons (.own 9 (.pair .str (.pair (.int .i64) (.one (.list (.pair (.int .i64) (.pair (.int .i64) (.one (.list (.pair (.int .i64) (.one .str))))))))))) (.cons (.val (.int .i64)) .nil)))⟩
noncomputable def laws_toFileDiffS.T : Tab := fun k => look k [(6, laws_toFileDiffS.D6)]
def laws_toFileDiffS.R : List (Nat × Ty) := [(9, .list (.pair .str (.pair (.int .i64) (.one (.list (.pair (.int .i64) (.pair (.int .i64) (.one (.list (.pair (.int .i64) (.one .str)))))))))))]
def laws_toFileDiffS.X : List ResultVar := [.tmp 2]
noncomputable def laws_toFileDiffS.K := fin laws_toFileDiffS.E ⟨laws_toFileDiffS.P, laws_toFileDiffS.R, fun _ _ => none⟩ laws_toFileDiffS.X laws_toFileDiffS.P.len 0
noncomputable def laws_toFileDiffS.l6 (a : List (ByteArray × Int × List (Int × Int × List (Int × ByteArray)))) (out : List (ByteArray × Int × List (Int × Int × List (Int × ByteArray)))) (i : Int) : Option ((List (ByteArray × Int × List (Int × Int × List (Int × ByteArray))))) := fixP laws_toFileDiffS.E laws_toFileDiffS.T laws_toFileDiffS.C laws_toFileDiffS.K 6 laws_toFileDiffS.D6 (a, out, i)
noncomputable def laws_toFileDiffS.f (a : List (ByteArray × Int × List (Int × Int × List (Int × ByteArray)))) : Option ((List (ByteArray × Int × List (Int × Int × List (Int × ByteArray))))) := Fn laws_toFileDiffS.E laws_toFileDiffS.T laws_toFileDiffS.C laws_toFileDiffS.P laws_toFileDiffS.R laws_toFileDiffS.X a
theorem laws_toFileDiffS.l6_eq (a : List (ByteArray × Int × List (Int × Int × List (Int × ByteArray)))) (out : List (ByteArray × Int × List (Int × Int × List (Int × ByteArray)))) (i : Int) : laws_toFileDiffS.l6 a out i =
  (bif (decide (i < (a.length : Int))) then (bif ((decide (0 ≤ i)) && (decide (i < (a.length : Int)))) then ((laws_toFileDiff.f (a.getD (i).toNat (em, 0, ([] : List (Int × Int × List (Int × ByteArray)))))).bind fun y1 =>
    bif ((decide (0 ≤ i)) && (decide (i < (out.length : Int)))) then (laws_toFileDiffS.l6 a (out.set (i).toNat (y1.1, y1.2.1, y1.2.2)) (w64 (i + 1))) else none) else none) else (some out)) :=
  (fixP_eq laws_toFileDiffS.E laws_toFileDiffS.T laws_toFileDiffS.C laws_toFileDiffS.K 6 laws_toFileDiffS.D6 (a, out, i)).trans (by kernel_rfl)
theorem laws_toFileDiffS.f_eq (a : List (ByteArray × Int × List (Int × Int × List (Int × ByteArray)))) : laws_toFileDiffS.f a =
  (bif ((decide (0 ≤ (a.length : Int))) && (decide (((a.length : Int)).toNat ≤ room 48))) then (laws_toFileDiffS.l6 a (List.replicate ((a.length : Int)).toNat (em, 0, ([] : List (Int × Int × List (Int × ByteArray))))) 0) else none) := by kernel_rfl
noncomputable def laws_toFileDiffS.S : Abs.Sum := ⟨laws_toFileDiffS.P, laws_toFileDiffS.R, fun _ => Fn laws_toFileDiffS.E laws_toFileDiffS.T laws_toFileDiffS.C laws_toFileDiffS.P laws_toFileDiffS.R laws_toFileDiffS.X⟩
theorem laws_toFileDiffS.meets : Meets Tryz.prog 6 laws_toFileDiffS.S := meets_tab (S := laws_toFileDiffS.U) tabOk_all (AllMeets.cons laws_toFileDiff.meets AllMeets.nil) (AllStill.cons (fun _ _ _ => rfl) AllStill.nil) follows (by kernel_rfl : Tryz.prog.funcs[6]? = some Tryz.f6) (by kernel_rfl) (by kernel_rfl) (by kernel_rfl)
noncomputable def spec_l1In.C : Code := Tryz.f77.body.getD .skip
def spec_l1In.P : Par := (.cons (.val (.int .i64)) (.cons (.val (.int .i64)) (.cons (.val (.int .i64)) .nil)))
noncomputable def spec_l1In.U : SumTab := []
noncomputable def spec_l1In.E : Env := mkEnv TY AR spec_l1In.U
noncomputable def spec_l1In.T : Tab := fun k => look k []
def spec_l1In.R : List (Nat × Ty) := [(0, .bool)]
def spec_l1In.X : List ResultVar := [.tmp 6]
noncomputable def spec_l1In.f (n : Int) (lo : Int) (hi : Int) : Option (Bool) := Fn spec_l1In.E spec_l1In.T spec_l1In.C spec_l1In.P spec_l1In.R spec_l1In.X (n, lo, hi)
theorem spec_l1In.f_eq (n : Int) (lo : Int) (hi : Int) : spec_l1In.f n lo hi =
  (bif (decide (n ≥ lo)) then (some (decide (n ≤ hi))) else (some false)) := by kernel_rfl
noncomputable def spec_l1In.S : Abs.Sum := ⟨spec_l1In.P, spec_l1In.R, fun _ => Fn spec_l1In.E spec_l1In.T spec_l1In.C spec_l1In.P spec_l1In.R spec_l1In.X⟩
theorem spec_l1In.meets : Meets Tryz.prog 77 spec_l1In.S := meets_tab (S := spec_l1In.U) tabOk_all AllMeets.nil AllStill.nil follows (by kernel_rfl : Tryz.prog.funcs[77]? = some Tryz.f77) (by kernel_rfl) (by kernel_rfl) (by kernel_rfl)
noncomputable def spec_l15Name.C : Code := Tryz.f56.body.getD .skip
def spec_l15Name.P : Par := (.cons (.val .str) .nil)
noncomputable def spec_l15Name.U : SumTab := [(77, [], spec_l1In.S)]
noncomputable def spec_l15Name.E : Env := mkEnv TY AR spec_l15Name.U
def spec_l15Name.D4 : CutD := ⟨[0, 3], (.cons (.val .str) (.cons (.val (.int .i64)) .nil))⟩
def spec_l15Name.D7 : CutD := ⟨[0, 3], (.cons (.val .str) (.cons (.val (.int .i64)) .nil))⟩
noncomputable def spec_l15Name.T : Tab := fun k => look k [(4, spec_l15Name.D4), (7, spec_l15Name.D7)]
def spec_l15Name.R : List (Nat × Ty) := [(0, .bool)]
def spec_l15Name.X : List ResultVar := [.tmp 2]
noncomputable def spec_l15Name.K := fin spec_l15Name.E ⟨spec_l15Name.P, spec_l15Name.R, fun _ _ => none⟩ spec_l15Name.X spec_l15Name.P.len 0
noncomputable def spec_l15Name.l4 (s : ByteArray) (i : Int) : Option (Bool) := fixP spec_l15Name.E spec_l15Name.T spec_l15Name.C spec_l15Name.K 4 spec_l15Name.D4 (s, i)
noncomputable def spec_l15Name.l7 (s : ByteArray) (i : Int) : Option (Bool) := fixP spec_l15Name.E spec_l15Name.T spec_l15Name.C spec_l15Name.K 7 spec_l15Name.D7 (s, i)
noncomputable def spec_l15Name.f (s : ByteArray) : Option (Bool) := Fn spec_l15Name.E spec_l15Name.T spec_l15Name.C spec_l15Name.P spec_l15Name.R spec_l15Name.X s
theorem spec_l15Name.l4_eq (s : ByteArray) (i : Int) : spec_l15Name.l4 s i =
  (bif (decide (i < (s.size : Int))) then (bif ((decide (0 ≤ i)) && (decide (i < (s.size : Int)))) then (bif (decide ((bt s i) < 97)) then (bif (decide ((bt s i) < 48)) then (bif (!(decide ((bt s i) = 46))) then (bif (!(decide ((bt s i) = 47))) then (some false) else
       (spec_l15Name.l7 s i)) else
      (spec_l15Name.l7 s i)) else
     (bif (decide ((bt s i) > 57)) then (bif (!(decide ((bt s i) = 46))) then (bif (!(decide ((bt s i) = 47))) then (some false) else
        (spec_l15Name.l7 s i)) else
       (spec_l15Name.l7 s i)) else
      (spec_l15Name.l7 s i))) else
    (bif (decide ((bt s i) > 122)) then (bif (decide ((bt s i) < 48)) then (bif (!(decide ((bt s i) = 46))) then (bif (!(decide ((bt s i) = 47))) then (some false) else
        (spec_l15Name.l7 s i)) else
       (spec_l15Name.l7 s i)) else
      (bif (decide ((bt s i) > 57)) then (bif (!(decide ((bt s i) = 46))) then (bif (!(decide ((bt s i) = 47))) then (some false) else
         (spec_l15Name.l7 s i)) else
        (spec_l15Name.l7 s i)) else
       (spec_l15Name.l7 s i))) else
     (spec_l15Name.l7 s i))) else none) else
  ((spec_l1In.f (s.size : Int) 1 12).bind fun y1 =>
   some y1)) :=
  (fixP_eq spec_l15Name.E spec_l15Name.T spec_l15Name.C spec_l15Name.K 4 spec_l15Name.D4 (s, i)).trans (by kernel_rfl)
theorem spec_l15Name.l7_eq (s : ByteArray) (i : Int) : spec_l15Name.l7 s i =
  (spec_l15Name.l4 s (w64 (i + 1))) :=
  (fixP_eq spec_l15Name.E spec_l15Name.T spec_l15Name.C spec_l15Name.K 7 spec_l15Name.D7 (s, i)).trans (by kernel_rfl)
theorem spec_l15Name.f_eq (s : ByteArray) : spec_l15Name.f s =
  (spec_l15Name.l4 s 0) := by kernel_rfl
noncomputable def spec_l15Name.S : Abs.Sum := ⟨spec_l15Name.P, spec_l15Name.R, fun _ => Fn spec_l15Name.E spec_l15Name.T spec_l15Name.C spec_l15Name.P spec_l15Name.R spec_l15Name.X⟩
theorem spec_l15Name.meets : Meets Tryz.prog 56 spec_l15Name.S := meets_tab (S := spec_l15Name.U) tabOk_all (AllMeets.cons spec_l1In.meets AllMeets.nil) (AllStill.cons (fun _ _ _ => rfl) AllStill.nil) follows (by kernel_rfl : Tryz.prog.funcs[56]? = some Tryz.f56) (by kernel_rfl) (by kernel_rfl) (by kernel_rfl)
noncomputable def spec_l1Line.C : Code := Tryz.f89.body.getD .skip
def spec_l1Line.P : Par := (.cons (.val .str) .nil)
noncomputable def spec_l1Line.U : SumTab := [(77, [], spec_l1In.S)]
noncomputable def spec_l1Line.E : Env := mkEnv TY AR spec_l1Line.U
def spec_l1Line.D4 : CutD := ⟨[0, 3], (.cons (.val .str) (.cons (.val (.int .i64)) .nil))⟩
noncomputable def spec_l1Line.T : Tab := fun k => look k [(4, spec_l1Line.D4)]
def spec_l1Line.R : List (Nat × Ty) := [(0, .bool)]
def spec_l1Line.X : List ResultVar := [.tmp 2]
noncomputable def spec_l1Line.K := fin spec_l1Line.E ⟨spec_l1Line.P, spec_l1Line.R, fun _ _ => none⟩ spec_l1Line.X spec_l1Line.P.len 0
noncomputable def spec_l1Line.l4 (s : ByteArray) (i : Int) : Option (Bool) := fixP spec_l1Line.E spec_l1Line.T spec_l1Line.C spec_l1Line.K 4 spec_l1Line.D4 (s, i)
noncomputable def spec_l1Line.f (s : ByteArray) : Option (Bool) := Fn spec_l1Line.E spec_l1Line.T spec_l1Line.C spec_l1Line.P spec_l1Line.R spec_l1Line.X s
theorem spec_l1Line.l4_eq (s : ByteArray) (i : Int) : spec_l1Line.l4 s i =
  (bif (decide (i < (w64 ((s.size : Int) - 1)))) then (bif ((decide (0 ≤ i)) && (decide (i < (s.size : Int)))) then (bif (decide ((bt s i) = 10)) then (some false) else
    (spec_l1Line.l4 s (w64 (i + 1)))) else none) else
  ((spec_l1In.f (s.size : Int) 1 30).bind fun y1 =>
   some y1)) :=
  (fixP_eq spec_l1Line.E spec_l1Line.T spec_l1Line.C spec_l1Line.K 4 spec_l1Line.D4 (s, i)).trans (by kernel_rfl)
theorem spec_l1Line.f_eq (s : ByteArray) : spec_l1Line.f s =
  (spec_l1Line.l4 s 0) := by kernel_rfl
noncomputable def spec_l1Line.S : Abs.Sum := ⟨spec_l1Line.P, spec_l1Line.R, fun _ => Fn spec_l1Line.E spec_l1Line.T spec_l1Line.C spec_l1Line.P spec_l1Line.R spec_l1Line.X⟩
theorem spec_l1Line.meets : Meets Tryz.prog 89 spec_l1Line.S := meets_tab (S := spec_l1Line.U) tabOk_all (AllMeets.cons spec_l1In.meets AllMeets.nil) (AllStill.cons (fun _ _ _ => rfl) AllStill.nil) follows (by kernel_rfl : Tryz.prog.funcs[89]? = some Tryz.f89) (by kernel_rfl) (by kernel_rfl) (by kernel_rfl)
noncomputable def spec_l6Old.C : Code := Tryz.f38.body.getD .skip
def spec_l6Old.P : Par := (.cons (.val (.pair (.int .i64) (.pair (.int .i64) (.one (.list (.pair (.int .i64) (.one .str))))))) .nil)
noncomputable def spec_l6Old.U : SumTab := []
noncomputable def spec_l6Old.E : Env := mkEnv TY AR spec_l6Old.U
def spec_l6Old.D6 : CutD := ⟨[3, 7, 8, 9], (.cons (.own 9 .str) (.cons (.val (.list (.pair (.int .i64) (.one .str)))) (.cons (.val (.int .i64)) (.cons (.val (.int .i64)) .nil))))⟩
noncomputable def spec_l6Old.T : Tab := fun k => look k [(6, spec_l6Old.D6)]
def spec_l6Old.R : List (Nat × Ty) := [(9, .list .str)]
def spec_l6Old.X : List ResultVar := [.tmp 2]
noncomputable def spec_l6Old.K := fin spec_l6Old.E ⟨spec_l6Old.P, spec_l6Old.R, fun _ _ => none⟩ spec_l6Old.X spec_l6Old.P.len 0
noncomputable def spec_l6Old.l6 (out : List ByteArray) (t7 : List (Int × ByteArray)) (t8 : Int) (t9 : Int) : Option ((List ByteArray)) := fixP spec_l6Old.E spec_l6Old.T spec_l6Old.C spec_l6Old.K 6 spec_l6Old.D6 (out, t7, t8, t9)
noncomputable def spec_l6Old.f (g : Int × Int × List (Int × ByteArray)) : Option ((List ByteArray)) := Fn spec_l6Old.E spec_l6Old.T spec_l6Old.C spec_l6Old.P spec_l6Old.R spec_l6Old.X g
theorem spec_l6Old.l6_eq (out : List ByteArray) (t7 : List (Int × ByteArray)) (t8 : Int) (t9 : Int) : spec_l6Old.l6 out t7 t8 t9 =
  (bif (decide (t9 < t8)) then (bif ((decide (0 ≤ t9)) && (decide (t9 < (t7.length : Int)))) then (bif (!(decide ((t7.getD (t9).toNat (0, em)).1 = 3))) then (bif (decide ((out.length + [(t7.getD (t9).toNat (0, em)).2].length) ≤ room 16)) then (spec_l6Old.l6 (out ++ [(t7.getD (t9).toNat (0, em)).2]) t7 t8 (w64 (t9 + 1))) else none) else
    (spec_l6Old.l6 out t7 t8 (w64 (t9 + 1)))) else none) else (some out)) :=
  (fixP_eq spec_l6Old.E spec_l6Old.T spec_l6Old.C spec_l6Old.K 6 spec_l6Old.D6 (out, t7, t8, t9)).trans (by kernel_rfl)
theorem spec_l6Old.f_eq (g : Int × Int × List (Int × ByteArray)) : spec_l6Old.f g =
  (spec_l6Old.l6 ([] : List ByteArray) g.2.2 (g.2.2.length : Int) 0) := by kernel_rfl
noncomputable def spec_l6Old.S : Abs.Sum := ⟨spec_l6Old.P, spec_l6Old.R, fun _ => Fn spec_l6Old.E spec_l6Old.T spec_l6Old.C spec_l6Old.P spec_l6Old.R spec_l6Old.X⟩
theorem spec_l6Old.meets : Meets Tryz.prog 38 spec_l6Old.S := meets_tab (S := spec_l6Old.U) tabOk_all AllMeets.nil AllStill.nil follows (by kernel_rfl : Tryz.prog.funcs[38]? = some Tryz.f38) (by kernel_rfl) (by kernel_rfl) (by kernel_rfl)
noncomputable def spec_l6New.C : Code := Tryz.f39.body.getD .skip
def spec_l6New.P : Par := (.cons (.val (.pair (.int .i64) (.pair (.int .i64) (.one (.list (.pair (.int .i64) (.one .str))))))) .nil)
noncomputable def spec_l6New.U : SumTab := []
noncomputable def spec_l6New.E : Env := mkEnv TY AR spec_l6New.U
def spec_l6New.D6 : CutD := ⟨[3, 7, 8, 9], (.cons (.own 9 .str) (.cons (.val (.list (.pair (.int .i64) (.one .str)))) (.cons (.val (.int .i64)) (.cons (.val (.int .i64)) .nil))))⟩
noncomputable def spec_l6New.T : Tab := fun k => look k [(6, spec_l6New.D6)]
def spec_l6New.R : List (Nat × Ty) := [(9, .list .str)]
def spec_l6New.X : List ResultVar := [.tmp 2]
noncomputable def spec_l6New.K := fin spec_l6New.E ⟨spec_l6New.P, spec_l6New.R, fun _ _ => none⟩ spec_l6New.X spec_l6New.P.len 0
noncomputable def spec_l6New.l6 (out : List ByteArray) (t7 : List (Int × ByteArray)) (t8 : Int) (t9 : Int) : Option ((List ByteArray)) := fixP spec_l6New.E spec_l6New.T spec_l6New.C spec_l6New.K 6 spec_l6New.D6 (out, t7, t8, t9)
noncomputable def spec_l6New.f (g : Int × Int × List (Int × ByteArray)) : Option ((List ByteArray)) := Fn spec_l6New.E spec_l6New.T spec_l6New.C spec_l6New.P spec_l6New.R spec_l6New.X g
theorem spec_l6New.l6_eq (out : List ByteArray) (t7 : List (Int × ByteArray)) (t8 : Int) (t9 : Int) : spec_l6New.l6 out t7 t8 t9 =
  (bif (decide (t9 < t8)) then (bif ((decide (0 ≤ t9)) && (decide (t9 < (t7.length : Int)))) then (bif (!(decide ((t7.getD (t9).toNat (0, em)).1 = 2))) then (bif (decide ((out.length + [(t7.getD (t9).toNat (0, em)).2].length) ≤ room 16)) then (spec_l6New.l6 (out ++ [(t7.getD (t9).toNat (0, em)).2]) t7 t8 (w64 (t9 + 1))) else none) else
    (spec_l6New.l6 out t7 t8 (w64 (t9 + 1)))) else none) else (some out)) :=
  (fixP_eq spec_l6New.E spec_l6New.T spec_l6New.C spec_l6New.K 6 spec_l6New.D6 (out, t7, t8, t9)).trans (by kernel_rfl)
theorem spec_l6New.f_eq (g : Int × Int × List (Int × ByteArray)) : spec_l6New.f g =
  (spec_l6New.l6 ([] : List ByteArray) g.2.2 (g.2.2.length : Int) 0) := by kernel_rfl
noncomputable def spec_l6New.S : Abs.Sum := ⟨spec_l6New.P, spec_l6New.R, fun _ => Fn spec_l6New.E spec_l6New.T spec_l6New.C spec_l6New.P spec_l6New.R spec_l6New.X⟩
theorem spec_l6New.meets : Meets Tryz.prog 39 spec_l6New.S := meets_tab (S := spec_l6New.U) tabOk_all AllMeets.nil AllStill.nil follows (by kernel_rfl : Tryz.prog.funcs[39]? = some Tryz.f39) (by kernel_rfl) (by kernel_rfl) (by kernel_rfl)
noncomputable def spec_l1Ends.C : Code := Tryz.f61.body.getD .skip
def spec_l1Ends.P : Par := (.cons (.val .str) .nil)
noncomputable def spec_l1Ends.U : SumTab := []
noncomputable def spec_l1Ends.E : Env := mkEnv TY AR spec_l1Ends.U
noncomputable def spec_l1Ends.T : Tab := fun k => look k []
def spec_l1Ends.R : List (Nat × Ty) := [(0, .bool)]
def spec_l1Ends.X : List ResultVar := [.tmp 2]
noncomputable def spec_l1Ends.f (s : ByteArray) : Option (Bool) := Fn spec_l1Ends.E spec_l1Ends.T spec_l1Ends.C spec_l1Ends.P spec_l1Ends.R spec_l1Ends.X s
theorem spec_l1Ends.f_eq (s : ByteArray) : spec_l1Ends.f s =
  (bif ((decide (0 ≤ (w64 ((s.size : Int) - 1)))) && (decide ((w64 ((s.size : Int) - 1)) < (s.size : Int)))) then (some (decide ((bt s (w64 ((s.size : Int) - 1))) = 10))) else none) := by kernel_rfl
noncomputable def spec_l1Ends.S : Abs.Sum := ⟨spec_l1Ends.P, spec_l1Ends.R, fun _ => Fn spec_l1Ends.E spec_l1Ends.T spec_l1Ends.C spec_l1Ends.P spec_l1Ends.R spec_l1Ends.X⟩
theorem spec_l1Ends.meets : Meets Tryz.prog 61 spec_l1Ends.S := meets_tab (S := spec_l1Ends.U) tabOk_all AllMeets.nil AllStill.nil follows (by kernel_rfl : Tryz.prog.funcs[61]? = some Tryz.f61) (by kernel_rfl) (by kernel_rfl) (by kernel_rfl)
noncomputable def spec_l5Lines.C : Code := Tryz.f90.body.getD .skip
def spec_l5Lines.P : Par := (.cons (.val (.list .str)) .nil)
noncomputable def spec_l5Lines.U : SumTab := [(89, [], spec_l1Line.S), (61, [], spec_l1Ends.S)]
noncomputable def spec_l5Lines.E : Env := mkEnv TY AR spec_l5Lines.U
def spec_l5Lines.D4 : CutD := ⟨[0, 5, 6, 7], (.cons (.val (.list .str)) (.cons (.val (.list .str)) (.cons (.val (.int .i64)) (.cons (.val (.int .i64)) .nil))))⟩
noncomputable def spec_l5Lines.T : Tab := fun k => look k [(4, spec_l5Lines.D4)]
def spec_l5Lines.R : List (Nat × Ty) := [(0, .bool)]
def spec_l5Lines.X : List ResultVar := [.tmp 2]
noncomputable def spec_l5Lines.K := fin spec_l5Lines.E ⟨spec_l5Lines.P, spec_l5Lines.R, fun _ _ => none⟩ spec_l5Lines.X spec_l5Lines.P.len 0
noncomputable def spec_l5Lines.l4 (l : List ByteArray) (t5 : List ByteArray) (t6 : Int) (t7 : Int) : Option (Bool) := fixP spec_l5Lines.E spec_l5Lines.T spec_l5Lines.C spec_l5Lines.K 4 spec_l5Lines.D4 (l, t5, t6, t7)
noncomputable def spec_l5Lines.f (l : List ByteArray) : Option (Bool) := Fn spec_l5Lines.E spec_l5Lines.T spec_l5Lines.C spec_l5Lines.P spec_l5Lines.R spec_l5Lines.X l
theorem spec_l5Lines.l4_eq (l : List ByteArray) (t5 : List ByteArray) (t6 : Int) (t7 : Int) : spec_l5Lines.l4 l t5 t6 t7 =
  (bif (decide (t7 < t6)) then (bif ((decide (0 ≤ t7)) && (decide (t7 < (t5.length : Int)))) then ((spec_l1Line.f (t5.getD (t7).toNat em)).bind fun y1 =>
    bif (!y1) then (some false) else
    (bif (decide (t7 < (w64 ((l.length : Int) - 1)))) then ((spec_l1Ends.f (t5.getD (t7).toNat em)).bind fun y2 =>
      bif (!y2) then (some false) else
      (spec_l5Lines.l4 l t5 t6 (w64 (t7 + 1)))) else
     (spec_l5Lines.l4 l t5 t6 (w64 (t7 + 1))))) else none) else (some (decide ((l.length : Int) ≤ 40)))) :=
  (fixP_eq spec_l5Lines.E spec_l5Lines.T spec_l5Lines.C spec_l5Lines.K 4 spec_l5Lines.D4 (l, t5, t6, t7)).trans (by kernel_rfl)
theorem spec_l5Lines.f_eq (l : List ByteArray) : spec_l5Lines.f l =
  (spec_l5Lines.l4 l l (l.length : Int) 0) := by kernel_rfl
noncomputable def spec_l5Lines.S : Abs.Sum := ⟨spec_l5Lines.P, spec_l5Lines.R, fun _ => Fn spec_l5Lines.E spec_l5Lines.T spec_l5Lines.C spec_l5Lines.P spec_l5Lines.R spec_l5Lines.X⟩
theorem spec_l5Lines.meets : Meets Tryz.prog 90 spec_l5Lines.S := meets_tab (S := spec_l5Lines.U) tabOk_all (AllMeets.cons spec_l1Line.meets (AllMeets.cons spec_l1Ends.meets AllMeets.nil)) (AllStill.cons (fun _ _ _ => rfl) (AllStill.cons (fun _ _ _ => rfl) AllStill.nil)) follows (by kernel_rfl : Tryz.prog.funcs[90]? = some Tryz.f90) (by kernel_rfl) (by kernel_rfl) (by kernel_rfl)
noncomputable def spec_l6Group.C : Code := Tryz.f78.body.getD .skip
def spec_l6Group.P : Par := (.cons (.val (.pair (.int .i64) (.pair (.int .i64) (.one (.list (.pair (.int .i64) (.one .str))))))) .nil)
noncomputable def spec_l6Group.U : SumTab := [(77, [], spec_l1In.S), (89, [], spec_l1Line.S), (38, [], spec_l6Old.S), (39, [], spec_l6New.S), (90, [], spec_l5Lines.S)]
noncomputable def spec_l6Group.E : Env := mkEnv TY AR spec_l6Group.U
def spec_l6Group.D6 : CutD := ⟨[1, 3, 7, 8, 9], (.cons (.box 0 (.pair (.int .i64) (.pair (.int .i64) (.one (.list (.pair (.int .i64) (.one .str))))))) (.cons (.val .bool) (.cons (.val (.list (.pair (.int .i64) (.one .str)))) (.cons (.val (.int .i64)) (.cons (.val (.int .i64)) .nil)))))⟩
def spec_l6Group.D15 : CutD := ⟨[1, 3, 5, 7, 8, 9], (.cons (.box 0 (.pair (.int .i64) (.pair (.int .i64) (.one (.list (.pair (.int .i64) (.one .str))))))) (.cons (.val .bool) (.cons (.box 9 (.pair (.int .i64) (.one .str))) (.cons (.val (.list (.pair (.int .i64) (.one .str)))) (.cons (.val (.int .i64)) (.cons (.val (.int .i64)) .nil))))))⟩
noncomputable def spec_l6Group.T : Tab := fun k => look k [(6, spec_l6Group.D6), (15, spec_l6Group.D15)]
def spec_l6Group.R : List (Nat × Ty) := [(0, .bool)]
def spec_l6Group.X : List ResultVar := [.tmp 2]
noncomputable def spec_l6Group.K := fin spec_l6Group.E ⟨spec_l6Group.P, spec_l6Group.R, fun _ _ => none⟩ spec_l6Group.X spec_l6Group.P.len 0
noncomputable def spec_l6Group.l6 (g : Int × Int × List (Int × ByteArray)) (t3 : Bool) (t7 : List (Int × ByteArray)) (t8 : Int) (t9 : Int) : Option (Bool) := fixP spec_l6Group.E spec_l6Group.T spec_l6Group.C spec_l6Group.K 6 spec_l6Group.D6 (g, t3, t7, t8, t9)
noncomputable def spec_l6Group.l15 (g : Int × Int × List (Int × ByteArray)) (t3 : Bool) (r : Int × ByteArray) (t7 : List (Int × ByteArray)) (t8 : Int) (t9 : Int) : Option (Bool) := fixP spec_l6Group.E spec_l6Group.T spec_l6Group.C spec_l6Group.K 15 spec_l6Group.D15 (g, t3, r, t7, t8, t9)
noncomputable def spec_l6Group.f (g : Int × Int × List (Int × ByteArray)) : Option (Bool) := Fn spec_l6Group.E spec_l6Group.T spec_l6Group.C spec_l6Group.P spec_l6Group.R spec_l6Group.X g
theorem spec_l6Group.l6_eq (g : Int × Int × List (Int × ByteArray)) (t3 : Bool) (t7 : List (Int × ByteArray)) (t8 : Int) (t9 : Int) : spec_l6Group.l6 g t3 t7 t8 t9 =
  (bif (decide (t9 < t8)) then (bif ((decide (0 ≤ t9)) && (decide (t9 < (t7.length : Int)))) then ((spec_l1In.f (t7.getD (t9).toNat (0, em)).1 1 3).bind fun y1 =>
    bif (!y1) then (some false) else
    ((spec_l1Line.f (t7.getD (t9).toNat (0, em)).2).bind fun y2 =>
     bif (!y2) then (some false) else
     (bif (decide (t9 > 0)) then (bif (decide ((t7.getD (t9).toNat (0, em)).1 = 2)) then (bif ((decide (0 ≤ (w64 (t9 - 1)))) && (decide ((w64 (t9 - 1)) < (g.2.2.length : Int)))) then (bif (decide ((g.2.2.getD ((w64 (t9 - 1))).toNat (0, em)).1 = 3)) then (some false) else
         (spec_l6Group.l15 g t3 (t7.getD (t9).toNat (0, em)) t7 t8 t9)) else none) else
       (spec_l6Group.l15 g t3 (t7.getD (t9).toNat (0, em)) t7 t8 t9)) else
      (spec_l6Group.l15 g t3 (t7.getD (t9).toNat (0, em)) t7 t8 t9)))) else none) else
  (bif t3 then ((spec_l1In.f g.1 0 999).bind fun y1 =>
    bif y1 then ((spec_l1In.f g.2.1 0 999).bind fun y2 =>
     bif y2 then ((spec_l6Old.f g).bind fun y3 =>
      bif (decide ((w64 (g.1 + (y3.length : Int))) ≤ 1000)) then ((spec_l6New.f g).bind fun y4 =>
       bif (decide ((w64 (g.2.1 + (y4.length : Int))) ≤ 1000)) then (bif (decide ((g.2.2.length : Int) ≤ 80)) then ((spec_l6Old.f g).bind fun y5 =>
         (spec_l5Lines.f y5).bind fun y6 =>
         bif y6 then ((spec_l6New.f g).bind fun y7 =>
          (spec_l5Lines.f y7).bind fun y8 =>
          some y8) else (some false)) else (some false)) else (some false)) else (some false)) else (some false)) else (some false)) else (some false))) :=
  (fixP_eq spec_l6Group.E spec_l6Group.T spec_l6Group.C spec_l6Group.K 6 spec_l6Group.D6 (g, t3, t7, t8, t9)).trans (by kernel_rfl)
theorem spec_l6Group.l15_eq (g : Int × Int × List (Int × ByteArray)) (t3 : Bool) (r : Int × ByteArray) (t7 : List (Int × ByteArray)) (t8 : Int) (t9 : Int) : spec_l6Group.l15 g t3 r t7 t8 t9 =
  (bif t3 then (spec_l6Group.l6 g true t7 t8 (w64 (t9 + 1))) else
  (spec_l6Group.l6 g (!(decide (r.1 = 1))) t7 t8 (w64 (t9 + 1)))) :=
  (fixP_eq spec_l6Group.E spec_l6Group.T spec_l6Group.C spec_l6Group.K 15 spec_l6Group.D15 (g, t3, r, t7, t8, t9)).trans (by kernel_rfl)
theorem spec_l6Group.f_eq (g : Int × Int × List (Int × ByteArray)) : spec_l6Group.f g =
  (spec_l6Group.l6 g false g.2.2 (g.2.2.length : Int) 0) := by kernel_rfl
noncomputable def spec_l6Group.S : Abs.Sum := ⟨spec_l6Group.P, spec_l6Group.R, fun _ => Fn spec_l6Group.E spec_l6Group.T spec_l6Group.C spec_l6Group.P spec_l6Group.R spec_l6Group.X⟩
theorem spec_l6Group.meets : Meets Tryz.prog 78 spec_l6Group.S := meets_tab (S := spec_l6Group.U) tabOk_all (AllMeets.cons spec_l1In.meets (AllMeets.cons spec_l1Line.meets (AllMeets.cons spec_l6Old.meets (AllMeets.cons spec_l6New.meets (AllMeets.cons spec_l5Lines.meets AllMeets.nil))))) (AllStill.cons (fun _ _ _ => rfl) (AllStill.cons (fun _ _ _ => rfl) (AllStill.cons (fun _ _ _ => rfl) (AllStill.cons (fun _ _ _ => rfl) (AllStill.cons (fun _ _ _ => rfl) AllStill.nil))))) follows (by kernel_rfl : Tryz.prog.funcs[78]? = some Tryz.f78) (by kernel_rfl) (by kernel_rfl) (by kernel_rfl)
noncomputable def spec_l6Good.C : Code := Tryz.f57.body.getD .skip
def spec_l6Good.P : Par := (.cons (.val (.list (.pair (.int .i64) (.pair (.int .i64) (.one (.list (.pair (.int .i64) (.one .str)))))))) .nil)
noncomputable def spec_l6Good.U : SumTab := [(78, [], spec_l6Group.S), (38, [], spec_l6Old.S), (39, [], spec_l6New.S)]
noncomputable def spec_l6Good.E : Env := mkEnv TY AR spec_l6Good.U
def spec_l6Good.D4 : CutD := ⟨[0, 5, 6, 7], (.cons (.val (.list (.pair (.int .i64) (.pair (.int .i64) (.one (.list (.pair (.int .i64) (.one .str)))))))) (.cons (.val (.list (.pair (.int .i64) (.pair (.int .i64) (.one (.list (.pair (.int .i64) (.one .str)))))))) (.cons (.val (.int .i64)) (.cons (.val (.int .i64)) .nil))))⟩
noncomputable def spec_l6Good.T : Tab := fun k => look k [(4, spec_l6Good.D4)]
def spec_l6Good.R : List (Nat × Ty) := [(0, .bool)]
def spec_l6Good.X : List ResultVar := [.tmp 2]
noncomputable def spec_l6Good.K := fin spec_l6Good.E ⟨spec_l6Good.P, spec_l6Good.R, fun _ _ => none⟩ spec_l6Good.X spec_l6Good.P.len 0
noncomputable def spec_l6Good.l4 (g : List (Int × Int × List (Int × ByteArray))) (t5 : List (Int × Int × List (Int × ByteArray))) (t6 : Int) (t7 : Int) : Option (Bool) := fixP spec_l6Good.E spec_l6Good.T spec_l6Good.C spec_l6Good.K 4 spec_l6Good.D4 (g, t5, t6, t7)
noncomputable def spec_l6Good.f (g : List (Int × Int × List (Int × ByteArray))) : Option (Bool) := Fn spec_l6Good.E spec_l6Good.T spec_l6Good.C spec_l6Good.P spec_l6Good.R spec_l6Good.X g
theorem spec_l6Good.l4_eq (g : List (Int × Int × List (Int × ByteArray))) (t5 : List (Int × Int × List (Int × ByteArray))) (t6 : Int) (t7 : Int) : spec_l6Good.l4 g t5 t6 t7 =
  (bif (decide (t7 < t6)) then (bif ((decide (0 ≤ t7)) && (decide (t7 < (t5.length : Int)))) then ((spec_l6Group.f (t5.getD (t7).toNat (0, 0, ([] : List (Int × ByteArray))))).bind fun y1 =>
    bif (!y1) then (some false) else
    (bif (decide (t7 > 0)) then (bif ((decide (0 ≤ (w64 (t7 - 1)))) && (decide ((w64 (t7 - 1)) < (g.length : Int)))) then (bif ((decide (0 ≤ (w64 (t7 - 1)))) && (decide ((w64 (t7 - 1)) < (g.length : Int)))) then ((spec_l6Old.f (g.getD ((w64 (t7 - 1))).toNat (0, 0, ([] : List (Int × ByteArray))))).bind fun y2 =>
        bif (decide ((t5.getD (t7).toNat (0, 0, ([] : List (Int × ByteArray)))).1 < (w64 ((g.getD ((w64 (t7 - 1))).toNat (0, 0, ([] : List (Int × ByteArray)))).1 + (y2.length : Int))))) then (some false) else
        (bif ((decide (0 ≤ (w64 (t7 - 1)))) && (decide ((w64 (t7 - 1)) < (g.length : Int)))) then (bif ((decide (0 ≤ (w64 (t7 - 1)))) && (decide ((w64 (t7 - 1)) < (g.length : Int)))) then ((spec_l6New.f (g.getD ((w64 (t7 - 1))).toNat (0, 0, ([] : List (Int × ByteArray))))).bind fun y3 =>
           bif (decide ((t5.getD (t7).toNat (0, 0, ([] : List (Int × ByteArray)))).2.1 < (w64 ((g.getD ((w64 (t7 - 1))).toNat (0, 0, ([] : List (Int × ByteArray)))).2.1 + (y3.length : Int))))) then (some false) else
           (spec_l6Good.l4 g t5 t6 (w64 (t7 + 1)))) else none) else none)) else none) else none) else
     (spec_l6Good.l4 g t5 t6 (w64 (t7 + 1))))) else none) else (some (decide ((g.length : Int) ≤ 20)))) :=
  (fixP_eq spec_l6Good.E spec_l6Good.T spec_l6Good.C spec_l6Good.K 4 spec_l6Good.D4 (g, t5, t6, t7)).trans (by kernel_rfl)
theorem spec_l6Good.f_eq (g : List (Int × Int × List (Int × ByteArray))) : spec_l6Good.f g =
  (spec_l6Good.l4 g g (g.length : Int) 0) := by kernel_rfl
noncomputable def spec_l6Good.S : Abs.Sum := ⟨spec_l6Good.P, spec_l6Good.R, fun _ => Fn spec_l6Good.E spec_l6Good.T spec_l6Good.C spec_l6Good.P spec_l6Good.R spec_l6Good.X⟩
theorem spec_l6Good.meets : Meets Tryz.prog 57 spec_l6Good.S := meets_tab (S := spec_l6Good.U) tabOk_all (AllMeets.cons spec_l6Group.meets (AllMeets.cons spec_l6Old.meets (AllMeets.cons spec_l6New.meets AllMeets.nil))) (AllStill.cons (fun _ _ _ => rfl) (AllStill.cons (fun _ _ _ => rfl) (AllStill.cons (fun _ _ _ => rfl) AllStill.nil))) follows (by kernel_rfl : Tryz.prog.funcs[57]? = some Tryz.f57) (by kernel_rfl) (by kernel_rfl) (by kernel_rfl)
noncomputable def spec_l15All.C : Code := Tryz.f58.body.getD .skip
def spec_l15All.P : Par := (.cons (.val (.list (.pair (.int .i64) (.pair (.int .i64) (.one (.list (.pair (.int .i64) (.one .str)))))))) (.cons (.val (.int .i64)) .nil))
noncomputable def spec_l15All.U : SumTab := []
noncomputable def spec_l15All.E : Env := mkEnv TY AR spec_l15All.U
def spec_l15All.D4 : CutD := ⟨[0, 1, 9, 10, 11], (.cons (.val (.list (.pair (.int .i64) (.pair (.int .i64) (.one (.list (.pair (.int .i64) (.one .str)))))))) (.cons (.val (.int .i64)) (.cons (.val (.list (.pair (.int .i64) (.pair (.int .i64) (.one (.list (.pair (.int .i64) (.one .str)))))))) (.cons (.val (.int .i64)) (.cons (.val (.int .i64)) .nil)))))⟩
def spec_l15All.D10 : CutD := ⟨[0, 1, 6, 9, 10, 11, 16, 17, 18], (.cons (.val (.list (.pair (.int .i64) (.pair (.int .i64) (.one (.list (.pair (.int .i64) (.one .str)))))))) (.cons (.val (.int .i64)) (.cons (.box 0 (.pair (.int .i64) (.pair (.int .i64) (.one (.list (.pair (.int .i64) (.one .str))))))) (.cons (.val (.list (.pair (.int .i64) (.pair (.int .i64) (.one (.list (.pair (.int .i64) (.one .str)))))))) (.cons (.val (.int .i64)) (.cons (.val (.int .i64)) (.cons (.val (.list (.pair (.int .i64) (.one .str)))) (.cons (.val (.int .i64)) (.cons (.val (.int .i64)) .nil)))))))))⟩
noncomputable def spec_l15All.T : Tab := fun k => look k [(4, spec_l15All.D4), (10, spec_l15All.D10)]
def spec_l15All.R : List (Nat × Ty) := [(0, .bool)]
def spec_l15All.X : List ResultVar := [.tmp 4]
noncomputable def spec_l15All.K := fin spec_l15All.E ⟨spec_l15All.P, spec_l15All.R, fun _ _ => none⟩ spec_l15All.X spec_l15All.P.len 0
noncomputable def spec_l15All.l4 (g : List (Int × Int × List (Int × ByteArray))) (kind : Int) (t9 : List (Int × Int × List (Int × ByteArray))) (t10 : Int) (t11 : Int) : Option (Bool) := fixP spec_l15All.E spec_l15All.T spec_l15All.C spec_l15All.K 4 spec_l15All.D4 (g, kind, t9, t10, t11)
noncomputable def spec_l15All.l10 (g : List (Int × Int × List (Int × ByteArray))) (kind : Int) (x : Int × Int × List (Int × ByteArray)) (t9 : List (Int × Int × List (Int × ByteArray))) (t10 : Int) (t11 : Int) (t16 : List (Int × ByteArray)) (t17 : Int) (t18 : Int) : Option (Bool) := fixP spec_l15All.E spec_l15All.T spec_l15All.C spec_l15All.K 10 spec_l15All.D10 (g, kind, x, t9, t10, t11, t16, t17, t18)
noncomputable def spec_l15All.f (g : List (Int × Int × List (Int × ByteArray))) (kind : Int) : Option (Bool) := Fn spec_l15All.E spec_l15All.T spec_l15All.C spec_l15All.P spec_l15All.R spec_l15All.X (g, kind)
theorem spec_l15All.l4_eq (g : List (Int × Int × List (Int × ByteArray))) (kind : Int) (t9 : List (Int × Int × List (Int × ByteArray))) (t10 : Int) (t11 : Int) : spec_l15All.l4 g kind t9 t10 t11 =
  (bif (decide (t11 < t10)) then (bif ((decide (0 ≤ t11)) && (decide (t11 < (t9.length : Int)))) then (spec_l15All.l10 g kind (t9.getD (t11).toNat (0, 0, ([] : List (Int × ByteArray)))) t9 t10 t11 (t9.getD (t11).toNat (0, 0, ([] : List (Int × ByteArray)))).2.2 ((t9.getD (t11).toNat (0, 0, ([] : List (Int × ByteArray)))).2.2.length : Int) 0) else none) else (some (decide ((g.length : Int) ≤ 1)))) :=
  (fixP_eq spec_l15All.E spec_l15All.T spec_l15All.C spec_l15All.K 4 spec_l15All.D4 (g, kind, t9, t10, t11)).trans (by kernel_rfl)
theorem spec_l15All.l10_eq (g : List (Int × Int × List (Int × ByteArray))) (kind : Int) (x : Int × Int × List (Int × ByteArray)) (t9 : List (Int × Int × List (Int × ByteArray))) (t10 : Int) (t11 : Int) (t16 : List (Int × ByteArray)) (t17 : Int) (t18 : Int) : spec_l15All.l10 g kind x t9 t10 t11 t16 t17 t18 =
  (bif (decide (t18 < t17)) then (bif ((decide (0 ≤ t18)) && (decide (t18 < (t16.length : Int)))) then (bif (!(decide ((t16.getD (t18).toNat (0, em)).1 = kind))) then (some false) else
    (spec_l15All.l10 g kind x t9 t10 t11 t16 t17 (w64 (t18 + 1)))) else none) else
  (bif (!(decide (x.1 = 0))) then (some false) else
   (bif (!(decide (x.2.1 = 0))) then (some false) else
    (spec_l15All.l4 g kind t9 t10 (w64 (t11 + 1)))))) :=
  (fixP_eq spec_l15All.E spec_l15All.T spec_l15All.C spec_l15All.K 10 spec_l15All.D10 (g, kind, x, t9, t10, t11, t16, t17, t18)).trans (by kernel_rfl)
theorem spec_l15All.f_eq (g : List (Int × Int × List (Int × ByteArray))) (kind : Int) : spec_l15All.f g kind =
  (spec_l15All.l4 g kind g (g.length : Int) 0) := by kernel_rfl
noncomputable def spec_l15All.S : Abs.Sum := ⟨spec_l15All.P, spec_l15All.R, fun _ => Fn spec_l15All.E spec_l15All.T spec_l15All.C spec_l15All.P spec_l15All.R spec_l15All.X⟩
theorem spec_l15All.meets : Meets Tryz.prog 58 spec_l15All.S := meets_tab (S := spec_l15All.U) tabOk_all AllMeets.nil AllStill.nil follows (by kernel_rfl : Tryz.prog.funcs[58]? = some Tryz.f58) (by kernel_rfl) (by kernel_rfl) (by kernel_rfl)
noncomputable def spec_l15Diff.C : Code := Tryz.f36.body.getD .skip
def spec_l15Diff.P : Par := (.cons (.val (.pair .str (.pair (.int .i64) (.one (.list (.pair (.int .i64) (.pair (.int .i64) (.one (.list (.pair (.int .i64) (.one .str))))))))))) .nil)
noncomputable def spec_l15Diff.U : SumTab := [(56, [], spec_l15Name.S), (57, [], spec_l6Good.S), (58, [], spec_l15All.S)]
noncomputable def spec_l15Diff.E : Env := mkEnv TY AR spec_l15Diff.U
def spec_l15Diff.D7 : CutD := ⟨[1], (.cons (.box 0 (.pair .str (.pair (.int .i64) (.one (.list (.pair (.int .i64) (.pair (.int .i64) (.one (.list (.pair (.int .i64) (.one .str))))))))))) .nil)⟩
noncomputable def spec_l15Diff.T : Tab := fun k => look k [(7, spec_l15Diff.D7)]
def spec_l15Diff.R : List (Nat × Ty) := [(0, .bool)]
def spec_l15Diff.X : List ResultVar := [.tmp 2]
noncomputable def spec_l15Diff.K := fin spec_l15Diff.E ⟨spec_l15Diff.P, spec_l15Diff.R, fun _ _ => none⟩ spec_l15Diff.X spec_l15Diff.P.len 0
noncomputable def spec_l15Diff.l7 (x : ByteArray × Int × List (Int × Int × List (Int × ByteArray))) : Option (Bool) := fixP spec_l15Diff.E spec_l15Diff.T spec_l15Diff.C spec_l15Diff.K 7 spec_l15Diff.D7 x
noncomputable def spec_l15Diff.f (x : ByteArray × Int × List (Int × Int × List (Int × ByteArray))) : Option (Bool) := Fn spec_l15Diff.E spec_l15Diff.T spec_l15Diff.C spec_l15Diff.P spec_l15Diff.R spec_l15Diff.X x
theorem spec_l15Diff.l7_eq (x : ByteArray × Int × List (Int × Int × List (Int × ByteArray))) : spec_l15Diff.l7 x =
  (bif (decide (x.2.1 = 1)) then ((spec_l15All.f x.2.2 3).bind fun y1 =>
   some y1) else
  (bif (decide (x.2.1 = 2)) then ((spec_l15All.f x.2.2 2).bind fun y1 =>
    some y1) else
   (bif (decide (x.2.1 = 3)) then (some (decide ((x.2.2.length : Int) > 0))) else (some false)))) :=
  (fixP_eq spec_l15Diff.E spec_l15Diff.T spec_l15Diff.C spec_l15Diff.K 7 spec_l15Diff.D7 x).trans (by kernel_rfl)
theorem spec_l15Diff.f_eq (x : ByteArray × Int × List (Int × Int × List (Int × ByteArray))) : spec_l15Diff.f x =
  ((spec_l15Name.f x.1).bind fun y1 =>
  bif (!y1) then (some false) else
  ((spec_l6Good.f x.2.2).bind fun y2 =>
   bif (!y2) then (some false) else
   (spec_l15Diff.l7 x))) := by kernel_rfl
noncomputable def spec_l15Diff.S : Abs.Sum := ⟨spec_l15Diff.P, spec_l15Diff.R, fun _ => Fn spec_l15Diff.E spec_l15Diff.T spec_l15Diff.C spec_l15Diff.P spec_l15Diff.R spec_l15Diff.X⟩
theorem spec_l15Diff.meets : Meets Tryz.prog 36 spec_l15Diff.S := meets_tab (S := spec_l15Diff.U) tabOk_all (AllMeets.cons spec_l15Name.meets (AllMeets.cons spec_l6Good.meets (AllMeets.cons spec_l15All.meets AllMeets.nil))) (AllStill.cons (fun _ _ _ => rfl) (AllStill.cons (fun _ _ _ => rfl) (AllStill.cons (fun _ _ _ => rfl) AllStill.nil))) follows (by kernel_rfl : Tryz.prog.funcs[36]? = some Tryz.f36) (by kernel_rfl) (by kernel_rfl) (by kernel_rfl)
noncomputable def spec_l15Diffs.C : Code := Tryz.f20.body.getD .skip
def spec_l15Diffs.P : Par := (.cons (.val (.list (.pair .str (.pair (.int .i64) (.one (.list (.pair (.int .i64) (.pair (.int .i64) (.one (.list (.pair (.int .i64) (.one .str)))))))))))) .nil)
noncomputable def spec_l15Diffs.U : SumTab := [(36, [], spec_l15Diff.S)]
noncomputable def spec_l15Diffs.E : Env := mkEnv TY AR spec_l15Diffs.U
def spec_l15Diffs.D4 : CutD := ⟨[0, 5, 6, 7], (.cons (.val (.list (.pair .str (.pair (.int .i64) (.one (.list (.pair (.int .i64) (.pair (.int .i64) (.one (.list (.pair (.int .i64) (.one .str)))))))))))) (.cons (.val (.list (.pair .str (.pair (.int .i64) (.one (.list (.pair (.int .i64) (.pair (.int .i64) (.one (.list (.pair (.int .i64) (.one .str)))))))))))) (.cons (.val (.int .i64)) (.cons (.val (.int .i64)) .nil))))⟩
noncomputable def spec_l15Diffs.T : Tab := fun k => look k [(4, spec_l15Diffs.D4)]
def spec_l15Diffs.R : List (Nat × Ty) := [(0, .bool)]
def spec_l15Diffs.X : List ResultVar := [.tmp 2]
noncomputable def spec_l15Diffs.K := fin spec_l15Diffs.E ⟨spec_l15Diffs.P, spec_l15Diffs.R, fun _ _ => none⟩ spec_l15Diffs.X spec_l15Diffs.P.len 0
noncomputable def spec_l15Diffs.l4 (d : List (ByteArray × Int × List (Int × Int × List (Int × ByteArray)))) (t5 : List (ByteArray × Int × List (Int × Int × List (Int × ByteArray)))) (t6 : Int) (t7 : Int) : Option (Bool) := fixP spec_l15Diffs.E spec_l15Diffs.T spec_l15Diffs.C spec_l15Diffs.K 4 spec_l15Diffs.D4 (d, t5, t6, t7)
noncomputable def spec_l15Diffs.f (d : List (ByteArray × Int × List (Int × Int × List (Int × ByteArray)))) : Option (Bool) := Fn spec_l15Diffs.E spec_l15Diffs.T spec_l15Diffs.C spec_l15Diffs.P spec_l15Diffs.R spec_l15Diffs.X d
theorem spec_l15Diffs.l4_eq (d : List (ByteArray × Int × List (Int × Int × List (Int × ByteArray)))) (t5 : List (ByteArray × Int × List (Int × Int × List (Int × ByteArray)))) (t6 : Int) (t7 : Int) : spec_l15Diffs.l4 d t5 t6 t7 =
  (bif (decide (t7 < t6)) then (bif ((decide (0 ≤ t7)) && (decide (t7 < (t5.length : Int)))) then ((spec_l15Diff.f (t5.getD (t7).toNat (em, 0, ([] : List (Int × Int × List (Int × ByteArray)))))).bind fun y1 =>
    bif (!y1) then (some false) else
    (bif (decide (t7 > 0)) then (bif ((decide (0 ≤ (w64 (t7 - 1)))) && (decide ((w64 (t7 - 1)) < (d.length : Int)))) then (bif (!(Op.bytesLess (d.getD ((w64 (t7 - 1))).toNat (em, 0, ([] : List (Int × Int × List (Int × ByteArray))))).1.toList (t5.getD (t7).toNat (em, 0, ([] : List (Int × Int × List (Int × ByteArray))))).1.toList)) then (some false) else
       (spec_l15Diffs.l4 d t5 t6 (w64 (t7 + 1)))) else none) else
     (spec_l15Diffs.l4 d t5 t6 (w64 (t7 + 1))))) else none) else (some (decide ((d.length : Int) ≤ 16)))) :=
  (fixP_eq spec_l15Diffs.E spec_l15Diffs.T spec_l15Diffs.C spec_l15Diffs.K 4 spec_l15Diffs.D4 (d, t5, t6, t7)).trans (by kernel_rfl)
theorem spec_l15Diffs.f_eq (d : List (ByteArray × Int × List (Int × Int × List (Int × ByteArray)))) : spec_l15Diffs.f d =
  (spec_l15Diffs.l4 d d (d.length : Int) 0) := by kernel_rfl
noncomputable def spec_l15Diffs.S : Abs.Sum := ⟨spec_l15Diffs.P, spec_l15Diffs.R, fun _ => Fn spec_l15Diffs.E spec_l15Diffs.T spec_l15Diffs.C spec_l15Diffs.P spec_l15Diffs.R spec_l15Diffs.X⟩
theorem spec_l15Diffs.meets : Meets Tryz.prog 20 spec_l15Diffs.S := meets_tab (S := spec_l15Diffs.U) tabOk_all (AllMeets.cons spec_l15Diff.meets AllMeets.nil) (AllStill.cons (fun _ _ _ => rfl) AllStill.nil) follows (by kernel_rfl : Tryz.prog.funcs[20]? = some Tryz.f20) (by kernel_rfl) (by kernel_rfl) (by kernel_rfl)
noncomputable def spec_l15Named.C : Code := Tryz.f10.body.getD .skip
def spec_l15Named.P : Par := (.cons (.val (.list (.pair .str (.pair (.int .i64) (.one (.list (.pair (.int .i64) (.pair (.int .i64) (.one (.list (.pair (.int .i64) (.one .str)))))))))))) .nil)
noncomputable def spec_l15Named.U : SumTab := [(20, [], spec_l15Diffs.S)]
noncomputable def spec_l15Named.E : Env := mkEnv TY AR spec_l15Named.U
def spec_l15Named.D4 : CutD := ⟨[0, 5, 6, 7], (.cons (.val (.list (.pair .str (.pair (.int .i64) (.one (.list (.pair (.int .i64) (.pair (.int .i64) (.one (.list (.pair (.int .i64) (.one .str)))))))))))) (.cons (.val (.list (.pair .str (.pair (.int .i64) (.one (.list (.pair (.int .i64) (.pair (.int .i64) (.one (.list (.pair (.int .i64) (.one .str)))))))))))) (.cons (.val (.int .i64)) (.cons (.val (.int .i64)) .nil))))⟩
noncomputable def spec_l15Named.T : Tab := fun k => look k [(4, spec_l15Named.D4)]
def spec_l15Named.R : List (Nat × Ty) := [(0, .bool)]
def spec_l15Named.X : List ResultVar := [.tmp 2]
noncomputable def spec_l15Named.K := fin spec_l15Named.E ⟨spec_l15Named.P, spec_l15Named.R, fun _ _ => none⟩ spec_l15Named.X spec_l15Named.P.len 0
noncomputable def spec_l15Named.l4 (d : List (ByteArray × Int × List (Int × Int × List (Int × ByteArray)))) (t5 : List (ByteArray × Int × List (Int × Int × List (Int × ByteArray)))) (t6 : Int) (t7 : Int) : Option (Bool) := fixP spec_l15Named.E spec_l15Named.T spec_l15Named.C spec_l15Named.K 4 spec_l15Named.D4 (d, t5, t6, t7)
noncomputable def spec_l15Named.f (d : List (ByteArray × Int × List (Int × Int × List (Int × ByteArray)))) : Option (Bool) := Fn spec_l15Named.E spec_l15Named.T spec_l15Named.C spec_l15Named.P spec_l15Named.R spec_l15Named.X d
theorem spec_l15Named.l4_eq (d : List (ByteArray × Int × List (Int × Int × List (Int × ByteArray)))) (t5 : List (ByteArray × Int × List (Int × Int × List (Int × ByteArray)))) (t6 : Int) (t7 : Int) : spec_l15Named.l4 d t5 t6 t7 =
  (bif (decide (t7 < t6)) then (bif ((decide (0 ≤ t7)) && (decide (t7 < (t5.length : Int)))) then (bif ((t5.getD (t7).toNat (em, 0, ([] : List (Int × Int × List (Int × ByteArray))))).1.toList == (⟨#[110, 111, 110, 101]⟩ : ByteArray).toList) then (some false) else
    (spec_l15Named.l4 d t5 t6 (w64 (t7 + 1)))) else none) else
  ((spec_l15Diffs.f d).bind fun y1 =>
   some y1)) :=
  (fixP_eq spec_l15Named.E spec_l15Named.T spec_l15Named.C spec_l15Named.K 4 spec_l15Named.D4 (d, t5, t6, t7)).trans (by kernel_rfl)
theorem spec_l15Named.f_eq (d : List (ByteArray × Int × List (Int × Int × List (Int × ByteArray)))) : spec_l15Named.f d =
  (spec_l15Named.l4 d d (d.length : Int) 0) := by kernel_rfl
noncomputable def spec_l15Named.S : Abs.Sum := ⟨spec_l15Named.P, spec_l15Named.R, fun _ => Fn spec_l15Named.E spec_l15Named.T spec_l15Named.C spec_l15Named.P spec_l15Named.R spec_l15Named.X⟩
theorem spec_l15Named.meets : Meets Tryz.prog 10 spec_l15Named.S := meets_tab (S := spec_l15Named.U) tabOk_all (AllMeets.cons spec_l15Diffs.meets AllMeets.nil) (AllStill.cons (fun _ _ _ => rfl) AllStill.nil) follows (by kernel_rfl : Tryz.prog.funcs[10]? = some Tryz.f10) (by kernel_rfl) (by kernel_rfl) (by kernel_rfl)
noncomputable def spec_l15Heads.C : Code := Tryz.f21.body.getD .skip
def spec_l15Heads.P : Par := (.cons (.val (.pair .str (.pair (.int .i64) (.one (.list (.pair (.int .i64) (.pair (.int .i64) (.one (.list (.pair (.int .i64) (.one .str))))))))))) .nil)
noncomputable def spec_l15Heads.U : SumTab := []
noncomputable def spec_l15Heads.E : Env := mkEnv TY AR spec_l15Heads.U
def spec_l15Heads.D15 : CutD := ⟨[3, 4], (.cons (.val .str) (.cons (.val .str) .nil))⟩
noncomputable def spec_l15Heads.T : Tab := fun k => look k [(15, spec_l15Heads.D15)]
def spec_l15Heads.R : List (Nat × Ty) := [(0, .str)]
def spec_l15Heads.X : List ResultVar := [.tmp 2]
noncomputable def spec_l15Heads.K := fin spec_l15Heads.E ⟨spec_l15Heads.P, spec_l15Heads.R, fun _ _ => none⟩ spec_l15Heads.X spec_l15Heads.P.len 0
noncomputable def spec_l15Heads.l15 (a : ByteArray) (b : ByteArray) : Option (ByteArray) := fixP spec_l15Heads.E spec_l15Heads.T spec_l15Heads.C spec_l15Heads.K 15 spec_l15Heads.D15 (a, b)
noncomputable def spec_l15Heads.f (x : ByteArray × Int × List (Int × Int × List (Int × ByteArray))) : Option (ByteArray) := Fn spec_l15Heads.E spec_l15Heads.T spec_l15Heads.C spec_l15Heads.P spec_l15Heads.R spec_l15Heads.X x
theorem spec_l15Heads.l15_eq (a : ByteArray) (b : ByteArray) : spec_l15Heads.l15 a b =
  (bif (decide (((⟨#[45, 45, 45, 32]⟩ : ByteArray).size + a.size) ≤ 9223372036854775807)) then (bif (decide ((((⟨#[45, 45, 45, 32]⟩ : ByteArray) ++ a).size + (⟨#[10, 43, 43, 43, 32]⟩ : ByteArray).size) ≤ 9223372036854775807)) then (bif (decide (((((⟨#[45, 45, 45, 32]⟩ : ByteArray) ++ a) ++ (⟨#[10, 43, 43, 43, 32]⟩ : ByteArray)).size + b.size) ≤ 9223372036854775807)) then (bif (decide ((((((⟨#[45, 45, 45, 32]⟩ : ByteArray) ++ a) ++ (⟨#[10, 43, 43, 43, 32]⟩ : ByteArray)) ++ b).size + (⟨#[10]⟩ : ByteArray).size) ≤ 9223372036854775807)) then (some (((((⟨#[45, 45, 45, 32]⟩ : ByteArray) ++ a) ++ (⟨#[10, 43, 43, 43, 32]⟩ : ByteArray)) ++ b) ++ (⟨#[10]⟩ : ByteArray))) else none) else none) else none) else none) :=
  (fixP_eq spec_l15Heads.E spec_l15Heads.T spec_l15Heads.C spec_l15Heads.K 15 spec_l15Heads.D15 (a, b)).trans (by kernel_rfl)
theorem spec_l15Heads.f_eq (x : ByteArray × Int × List (Int × Int × List (Int × ByteArray))) : spec_l15Heads.f x =
  (bif (decide (x.2.1 = 1)) then (spec_l15Heads.l15 (⟨#[110, 111, 110, 101]⟩ : ByteArray) x.1) else
  (bif (decide (x.2.1 = 2)) then (spec_l15Heads.l15 x.1 (⟨#[110, 111, 110, 101]⟩ : ByteArray)) else
   (spec_l15Heads.l15 x.1 x.1))) := by kernel_rfl
noncomputable def spec_l15Heads.S : Abs.Sum := ⟨spec_l15Heads.P, spec_l15Heads.R, fun _ => Fn spec_l15Heads.E spec_l15Heads.T spec_l15Heads.C spec_l15Heads.P spec_l15Heads.R spec_l15Heads.X⟩
theorem spec_l15Heads.meets : Meets Tryz.prog 21 spec_l15Heads.S := meets_tab (S := spec_l15Heads.U) tabOk_all AllMeets.nil AllStill.nil follows (by kernel_rfl : Tryz.prog.funcs[21]? = some Tryz.f21) (by kernel_rfl) (by kernel_rfl) (by kernel_rfl)
noncomputable def spec_l4Number.C : Code := Tryz.f60.body.getD .skip
def spec_l4Number.P : Par := (.cons (.val (.int .i64)) (.cons (.val (.int .i64)) .nil))
noncomputable def spec_l4Number.U : SumTab := []
noncomputable def spec_l4Number.E : Env := mkEnv TY AR spec_l4Number.U
noncomputable def spec_l4Number.T : Tab := fun k => look k []
def spec_l4Number.R : List (Nat × Ty) := [(0, .int .i64)]
def spec_l4Number.X : List ResultVar := [.tmp 4]
noncomputable def spec_l4Number.f (t0 : Int) (many : Int) : Option (Int) := Fn spec_l4Number.E spec_l4Number.T spec_l4Number.C spec_l4Number.P spec_l4Number.R spec_l4Number.X (t0, many)
theorem spec_l4Number.f_eq (t0 : Int) (many : Int) : spec_l4Number.f t0 many =
  (bif (decide (many > 0)) then (some (w64 (t0 + 1))) else (some t0)) := by kernel_rfl
noncomputable def spec_l4Number.S : Abs.Sum := ⟨spec_l4Number.P, spec_l4Number.R, fun _ => Fn spec_l4Number.E spec_l4Number.T spec_l4Number.C spec_l4Number.P spec_l4Number.R spec_l4Number.X⟩
theorem spec_l4Number.meets : Meets Tryz.prog 60 spec_l4Number.S := meets_tab (S := spec_l4Number.U) tabOk_all AllMeets.nil AllStill.nil follows (by kernel_rfl : Tryz.prog.funcs[60]? = some Tryz.f60) (by kernel_rfl) (by kernel_rfl) (by kernel_rfl)
noncomputable def spec_l1Num_0.C : Code := Tryz.f59.body.getD .skip
def spec_l1Num_0.P : Par := (.cons (.val (.int .i64)) .nil)
noncomputable def spec_l1Num_0.U : SumTab := [(59, [], spec_l1Num_z.S)]
noncomputable def spec_l1Num_0.E : Env := mkEnv TY AR spec_l1Num_0.U
noncomputable def spec_l1Num_0.T : Tab := fun k => look k []
def spec_l1Num_0.R : List (Nat × Ty) := [(0, .str)]
def spec_l1Num_0.X : List ResultVar := [.tmp 2]
noncomputable def spec_l1Num_0.f (n : Int) : Option (ByteArray) := Fn spec_l1Num_0.E spec_l1Num_0.T spec_l1Num_0.C spec_l1Num_0.P spec_l1Num_0.R spec_l1Num_0.X n
theorem spec_l1Num_0.f_eq (n : Int) : spec_l1Num_0.f n =
  (bif (decide (n < 10)) then (some (strOf [(IntKind.wrap .u8 (w64 (48 + n)))])) else
  ((spec_l1Num_z.f (w64 (n.tdiv 10))).bind fun y1 =>
   bif (decide ((y1.size + (strOf [(IntKind.wrap .u8 (w64 (48 + (n.tmod 10))))]).size) ≤ 9223372036854775807)) then (some (y1 ++ (strOf [(IntKind.wrap .u8 (w64 (48 + (n.tmod 10))))]))) else none)) := by kernel_rfl
noncomputable def spec_l1Num_0.S : Abs.Sum := ⟨spec_l1Num_0.P, spec_l1Num_0.R, fun _ => Fn spec_l1Num_0.E spec_l1Num_0.T spec_l1Num_0.C spec_l1Num_0.P spec_l1Num_0.R spec_l1Num_0.X⟩
theorem spec_l1Num_0.meets : Meets Tryz.prog 59 spec_l1Num_0.S := meets_tab (S := spec_l1Num_0.U) tabOk_all (AllMeets.cons spec_l1Num_z.meets AllMeets.nil) (AllStill.cons (fun _ _ _ => rfl) AllStill.nil) follows (by kernel_rfl : Tryz.prog.funcs[59]? = some Tryz.f59) (by kernel_rfl) (by kernel_rfl) (by kernel_rfl)
noncomputable def spec_l1Num_1.C : Code := Tryz.f59.body.getD .skip
def spec_l1Num_1.P : Par := (.cons (.val (.int .i64)) .nil)
noncomputable def spec_l1Num_1.U : SumTab := [(59, [], spec_l1Num_0.S)]
noncomputable def spec_l1Num_1.E : Env := mkEnv TY AR spec_l1Num_1.U
noncomputable def spec_l1Num_1.T : Tab := fun k => look k []
def spec_l1Num_1.R : List (Nat × Ty) := [(0, .str)]
def spec_l1Num_1.X : List ResultVar := [.tmp 2]
noncomputable def spec_l1Num_1.f (n : Int) : Option (ByteArray) := Fn spec_l1Num_1.E spec_l1Num_1.T spec_l1Num_1.C spec_l1Num_1.P spec_l1Num_1.R spec_l1Num_1.X n
theorem spec_l1Num_1.f_eq (n : Int) : spec_l1Num_1.f n =
  (bif (decide (n < 10)) then (some (strOf [(IntKind.wrap .u8 (w64 (48 + n)))])) else
  ((spec_l1Num_0.f (w64 (n.tdiv 10))).bind fun y1 =>
   bif (decide ((y1.size + (strOf [(IntKind.wrap .u8 (w64 (48 + (n.tmod 10))))]).size) ≤ 9223372036854775807)) then (some (y1 ++ (strOf [(IntKind.wrap .u8 (w64 (48 + (n.tmod 10))))]))) else none)) := by kernel_rfl
noncomputable def spec_l1Num_1.S : Abs.Sum := ⟨spec_l1Num_1.P, spec_l1Num_1.R, fun _ => Fn spec_l1Num_1.E spec_l1Num_1.T spec_l1Num_1.C spec_l1Num_1.P spec_l1Num_1.R spec_l1Num_1.X⟩
theorem spec_l1Num_1.meets : Meets Tryz.prog 59 spec_l1Num_1.S := meets_tab (S := spec_l1Num_1.U) tabOk_all (AllMeets.cons spec_l1Num_0.meets AllMeets.nil) (AllStill.cons (fun _ _ _ => rfl) AllStill.nil) follows (by kernel_rfl : Tryz.prog.funcs[59]? = some Tryz.f59) (by kernel_rfl) (by kernel_rfl) (by kernel_rfl)
noncomputable def spec_l1Num_2.C : Code := Tryz.f59.body.getD .skip
def spec_l1Num_2.P : Par := (.cons (.val (.int .i64)) .nil)
noncomputable def spec_l1Num_2.U : SumTab := [(59, [], spec_l1Num_1.S)]
noncomputable def spec_l1Num_2.E : Env := mkEnv TY AR spec_l1Num_2.U
noncomputable def spec_l1Num_2.T : Tab := fun k => look k []
def spec_l1Num_2.R : List (Nat × Ty) := [(0, .str)]
def spec_l1Num_2.X : List ResultVar := [.tmp 2]
noncomputable def spec_l1Num_2.f (n : Int) : Option (ByteArray) := Fn spec_l1Num_2.E spec_l1Num_2.T spec_l1Num_2.C spec_l1Num_2.P spec_l1Num_2.R spec_l1Num_2.X n
theorem spec_l1Num_2.f_eq (n : Int) : spec_l1Num_2.f n =
  (bif (decide (n < 10)) then (some (strOf [(IntKind.wrap .u8 (w64 (48 + n)))])) else
  ((spec_l1Num_1.f (w64 (n.tdiv 10))).bind fun y1 =>
   bif (decide ((y1.size + (strOf [(IntKind.wrap .u8 (w64 (48 + (n.tmod 10))))]).size) ≤ 9223372036854775807)) then (some (y1 ++ (strOf [(IntKind.wrap .u8 (w64 (48 + (n.tmod 10))))]))) else none)) := by kernel_rfl
noncomputable def spec_l1Num_2.S : Abs.Sum := ⟨spec_l1Num_2.P, spec_l1Num_2.R, fun _ => Fn spec_l1Num_2.E spec_l1Num_2.T spec_l1Num_2.C spec_l1Num_2.P spec_l1Num_2.R spec_l1Num_2.X⟩
theorem spec_l1Num_2.meets : Meets Tryz.prog 59 spec_l1Num_2.S := meets_tab (S := spec_l1Num_2.U) tabOk_all (AllMeets.cons spec_l1Num_1.meets AllMeets.nil) (AllStill.cons (fun _ _ _ => rfl) AllStill.nil) follows (by kernel_rfl : Tryz.prog.funcs[59]? = some Tryz.f59) (by kernel_rfl) (by kernel_rfl) (by kernel_rfl)
noncomputable def spec_l1Num_3.C : Code := Tryz.f59.body.getD .skip
def spec_l1Num_3.P : Par := (.cons (.val (.int .i64)) .nil)
noncomputable def spec_l1Num_3.U : SumTab := [(59, [], spec_l1Num_2.S)]
noncomputable def spec_l1Num_3.E : Env := mkEnv TY AR spec_l1Num_3.U
noncomputable def spec_l1Num_3.T : Tab := fun k => look k []
def spec_l1Num_3.R : List (Nat × Ty) := [(0, .str)]
def spec_l1Num_3.X : List ResultVar := [.tmp 2]
noncomputable def spec_l1Num_3.f (n : Int) : Option (ByteArray) := Fn spec_l1Num_3.E spec_l1Num_3.T spec_l1Num_3.C spec_l1Num_3.P spec_l1Num_3.R spec_l1Num_3.X n
theorem spec_l1Num_3.f_eq (n : Int) : spec_l1Num_3.f n =
  (bif (decide (n < 10)) then (some (strOf [(IntKind.wrap .u8 (w64 (48 + n)))])) else
  ((spec_l1Num_2.f (w64 (n.tdiv 10))).bind fun y1 =>
   bif (decide ((y1.size + (strOf [(IntKind.wrap .u8 (w64 (48 + (n.tmod 10))))]).size) ≤ 9223372036854775807)) then (some (y1 ++ (strOf [(IntKind.wrap .u8 (w64 (48 + (n.tmod 10))))]))) else none)) := by kernel_rfl
noncomputable def spec_l1Num_3.S : Abs.Sum := ⟨spec_l1Num_3.P, spec_l1Num_3.R, fun _ => Fn spec_l1Num_3.E spec_l1Num_3.T spec_l1Num_3.C spec_l1Num_3.P spec_l1Num_3.R spec_l1Num_3.X⟩
theorem spec_l1Num_3.meets : Meets Tryz.prog 59 spec_l1Num_3.S := meets_tab (S := spec_l1Num_3.U) tabOk_all (AllMeets.cons spec_l1Num_2.meets AllMeets.nil) (AllStill.cons (fun _ _ _ => rfl) AllStill.nil) follows (by kernel_rfl : Tryz.prog.funcs[59]? = some Tryz.f59) (by kernel_rfl) (by kernel_rfl) (by kernel_rfl)
noncomputable def spec_l1Num_4.C : Code := Tryz.f59.body.getD .skip
def spec_l1Num_4.P : Par := (.cons (.val (.int .i64)) .nil)
noncomputable def spec_l1Num_4.U : SumTab := [(59, [], spec_l1Num_3.S)]
noncomputable def spec_l1Num_4.E : Env := mkEnv TY AR spec_l1Num_4.U
noncomputable def spec_l1Num_4.T : Tab := fun k => look k []
def spec_l1Num_4.R : List (Nat × Ty) := [(0, .str)]
def spec_l1Num_4.X : List ResultVar := [.tmp 2]
noncomputable def spec_l1Num_4.f (n : Int) : Option (ByteArray) := Fn spec_l1Num_4.E spec_l1Num_4.T spec_l1Num_4.C spec_l1Num_4.P spec_l1Num_4.R spec_l1Num_4.X n
theorem spec_l1Num_4.f_eq (n : Int) : spec_l1Num_4.f n =
  (bif (decide (n < 10)) then (some (strOf [(IntKind.wrap .u8 (w64 (48 + n)))])) else
  ((spec_l1Num_3.f (w64 (n.tdiv 10))).bind fun y1 =>
   bif (decide ((y1.size + (strOf [(IntKind.wrap .u8 (w64 (48 + (n.tmod 10))))]).size) ≤ 9223372036854775807)) then (some (y1 ++ (strOf [(IntKind.wrap .u8 (w64 (48 + (n.tmod 10))))]))) else none)) := by kernel_rfl
noncomputable def spec_l1Num_4.S : Abs.Sum := ⟨spec_l1Num_4.P, spec_l1Num_4.R, fun _ => Fn spec_l1Num_4.E spec_l1Num_4.T spec_l1Num_4.C spec_l1Num_4.P spec_l1Num_4.R spec_l1Num_4.X⟩
theorem spec_l1Num_4.meets : Meets Tryz.prog 59 spec_l1Num_4.S := meets_tab (S := spec_l1Num_4.U) tabOk_all (AllMeets.cons spec_l1Num_3.meets AllMeets.nil) (AllStill.cons (fun _ _ _ => rfl) AllStill.nil) follows (by kernel_rfl : Tryz.prog.funcs[59]? = some Tryz.f59) (by kernel_rfl) (by kernel_rfl) (by kernel_rfl)
noncomputable def spec_l1Num_5.C : Code := Tryz.f59.body.getD .skip
def spec_l1Num_5.P : Par := (.cons (.val (.int .i64)) .nil)
noncomputable def spec_l1Num_5.U : SumTab := [(59, [], spec_l1Num_4.S)]
noncomputable def spec_l1Num_5.E : Env := mkEnv TY AR spec_l1Num_5.U
noncomputable def spec_l1Num_5.T : Tab := fun k => look k []
def spec_l1Num_5.R : List (Nat × Ty) := [(0, .str)]
def spec_l1Num_5.X : List ResultVar := [.tmp 2]
noncomputable def spec_l1Num_5.f (n : Int) : Option (ByteArray) := Fn spec_l1Num_5.E spec_l1Num_5.T spec_l1Num_5.C spec_l1Num_5.P spec_l1Num_5.R spec_l1Num_5.X n
theorem spec_l1Num_5.f_eq (n : Int) : spec_l1Num_5.f n =
  (bif (decide (n < 10)) then (some (strOf [(IntKind.wrap .u8 (w64 (48 + n)))])) else
  ((spec_l1Num_4.f (w64 (n.tdiv 10))).bind fun y1 =>
   bif (decide ((y1.size + (strOf [(IntKind.wrap .u8 (w64 (48 + (n.tmod 10))))]).size) ≤ 9223372036854775807)) then (some (y1 ++ (strOf [(IntKind.wrap .u8 (w64 (48 + (n.tmod 10))))]))) else none)) := by kernel_rfl
noncomputable def spec_l1Num_5.S : Abs.Sum := ⟨spec_l1Num_5.P, spec_l1Num_5.R, fun _ => Fn spec_l1Num_5.E spec_l1Num_5.T spec_l1Num_5.C spec_l1Num_5.P spec_l1Num_5.R spec_l1Num_5.X⟩
theorem spec_l1Num_5.meets : Meets Tryz.prog 59 spec_l1Num_5.S := meets_tab (S := spec_l1Num_5.U) tabOk_all (AllMeets.cons spec_l1Num_4.meets AllMeets.nil) (AllStill.cons (fun _ _ _ => rfl) AllStill.nil) follows (by kernel_rfl : Tryz.prog.funcs[59]? = some Tryz.f59) (by kernel_rfl) (by kernel_rfl) (by kernel_rfl)
noncomputable def spec_l1Num_6.C : Code := Tryz.f59.body.getD .skip
def spec_l1Num_6.P : Par := (.cons (.val (.int .i64)) .nil)
noncomputable def spec_l1Num_6.U : SumTab := [(59, [], spec_l1Num_5.S)]
noncomputable def spec_l1Num_6.E : Env := mkEnv TY AR spec_l1Num_6.U
noncomputable def spec_l1Num_6.T : Tab := fun k => look k []
def spec_l1Num_6.R : List (Nat × Ty) := [(0, .str)]
def spec_l1Num_6.X : List ResultVar := [.tmp 2]
noncomputable def spec_l1Num_6.f (n : Int) : Option (ByteArray) := Fn spec_l1Num_6.E spec_l1Num_6.T spec_l1Num_6.C spec_l1Num_6.P spec_l1Num_6.R spec_l1Num_6.X n
theorem spec_l1Num_6.f_eq (n : Int) : spec_l1Num_6.f n =
  (bif (decide (n < 10)) then (some (strOf [(IntKind.wrap .u8 (w64 (48 + n)))])) else
  ((spec_l1Num_5.f (w64 (n.tdiv 10))).bind fun y1 =>
   bif (decide ((y1.size + (strOf [(IntKind.wrap .u8 (w64 (48 + (n.tmod 10))))]).size) ≤ 9223372036854775807)) then (some (y1 ++ (strOf [(IntKind.wrap .u8 (w64 (48 + (n.tmod 10))))]))) else none)) := by kernel_rfl
noncomputable def spec_l1Num_6.S : Abs.Sum := ⟨spec_l1Num_6.P, spec_l1Num_6.R, fun _ => Fn spec_l1Num_6.E spec_l1Num_6.T spec_l1Num_6.C spec_l1Num_6.P spec_l1Num_6.R spec_l1Num_6.X⟩
theorem spec_l1Num_6.meets : Meets Tryz.prog 59 spec_l1Num_6.S := meets_tab (S := spec_l1Num_6.U) tabOk_all (AllMeets.cons spec_l1Num_5.meets AllMeets.nil) (AllStill.cons (fun _ _ _ => rfl) AllStill.nil) follows (by kernel_rfl : Tryz.prog.funcs[59]? = some Tryz.f59) (by kernel_rfl) (by kernel_rfl) (by kernel_rfl)
noncomputable def spec_l1Num.C : Code := Tryz.f59.body.getD .skip
def spec_l1Num.P : Par := (.cons (.val (.int .i64)) .nil)
noncomputable def spec_l1Num.U : SumTab := [(59, [], spec_l1Num_6.S)]
noncomputable def spec_l1Num.E : Env := mkEnv TY AR spec_l1Num.U
noncomputable def spec_l1Num.T : Tab := fun k => look k []
def spec_l1Num.R : List (Nat × Ty) := [(0, .str)]
def spec_l1Num.X : List ResultVar := [.tmp 2]
noncomputable def spec_l1Num.f (n : Int) : Option (ByteArray) := Fn spec_l1Num.E spec_l1Num.T spec_l1Num.C spec_l1Num.P spec_l1Num.R spec_l1Num.X n
theorem spec_l1Num.f_eq (n : Int) : spec_l1Num.f n =
  (bif (decide (n < 10)) then (some (strOf [(IntKind.wrap .u8 (w64 (48 + n)))])) else
  ((spec_l1Num_6.f (w64 (n.tdiv 10))).bind fun y1 =>
   bif (decide ((y1.size + (strOf [(IntKind.wrap .u8 (w64 (48 + (n.tmod 10))))]).size) ≤ 9223372036854775807)) then (some (y1 ++ (strOf [(IntKind.wrap .u8 (w64 (48 + (n.tmod 10))))]))) else none)) := by kernel_rfl
noncomputable def spec_l1Num.S : Abs.Sum := ⟨spec_l1Num.P, spec_l1Num.R, fun _ => Fn spec_l1Num.E spec_l1Num.T spec_l1Num.C spec_l1Num.P spec_l1Num.R spec_l1Num.X⟩
theorem spec_l1Num.meets : Meets Tryz.prog 59 spec_l1Num.S := meets_tab (S := spec_l1Num.U) tabOk_all (AllMeets.cons spec_l1Num_6.meets AllMeets.nil) (AllStill.cons (fun _ _ _ => rfl) AllStill.nil) follows (by kernel_rfl : Tryz.prog.funcs[59]? = some Tryz.f59) (by kernel_rfl) (by kernel_rfl) (by kernel_rfl)
noncomputable def spec_l4Count.C : Code := Tryz.f37.body.getD .skip
def spec_l4Count.P : Par := (.cons (.val (.int .i64)) (.cons (.val (.int .i64)) .nil))
noncomputable def spec_l4Count.U : SumTab := [(60, [], spec_l4Number.S), (59, [], spec_l1Num.S)]
noncomputable def spec_l4Count.E : Env := mkEnv TY AR spec_l4Count.U
noncomputable def spec_l4Count.T : Tab := fun k => look k []
def spec_l4Count.R : List (Nat × Ty) := [(0, .str)]
def spec_l4Count.X : List ResultVar := [.tmp 4]
noncomputable def spec_l4Count.f (t0 : Int) (many : Int) : Option (ByteArray) := Fn spec_l4Count.E spec_l4Count.T spec_l4Count.C spec_l4Count.P spec_l4Count.R spec_l4Count.X (t0, many)
theorem spec_l4Count.f_eq (t0 : Int) (many : Int) : spec_l4Count.f t0 many =
  ((spec_l4Number.f t0 many).bind fun y1 =>
  (spec_l1Num.f y1).bind fun y2 =>
  bif (!(decide (many = 1))) then ((spec_l1Num.f many).bind fun y3 =>
   bif (decide (((⟨#[44]⟩ : ByteArray).size + y3.size) ≤ 9223372036854775807)) then (bif (decide ((y2.size + ((⟨#[44]⟩ : ByteArray) ++ y3).size) ≤ 9223372036854775807)) then (some (y2 ++ ((⟨#[44]⟩ : ByteArray) ++ y3))) else none) else none) else (some y2)) := by kernel_rfl
noncomputable def spec_l4Count.S : Abs.Sum := ⟨spec_l4Count.P, spec_l4Count.R, fun _ => Fn spec_l4Count.E spec_l4Count.T spec_l4Count.C spec_l4Count.P spec_l4Count.R spec_l4Count.X⟩
theorem spec_l4Count.meets : Meets Tryz.prog 37 spec_l4Count.S := meets_tab (S := spec_l4Count.U) tabOk_all (AllMeets.cons spec_l4Number.meets (AllMeets.cons spec_l1Num.meets AllMeets.nil)) (AllStill.cons (fun _ _ _ => rfl) (AllStill.cons (fun _ _ _ => rfl) AllStill.nil)) follows (by kernel_rfl : Tryz.prog.funcs[37]? = some Tryz.f37) (by kernel_rfl) (by kernel_rfl) (by kernel_rfl)
noncomputable def spec_l7Sign.C : Code := Tryz.f41.body.getD .skip
def spec_l7Sign.P : Par := (.cons (.val (.int .i64)) .nil)
noncomputable def spec_l7Sign.U : SumTab := []
noncomputable def spec_l7Sign.E : Env := mkEnv TY AR spec_l7Sign.U
noncomputable def spec_l7Sign.T : Tab := fun k => look k []
def spec_l7Sign.R : List (Nat × Ty) := [(0, .str)]
def spec_l7Sign.X : List ResultVar := [.tmp 2]
noncomputable def spec_l7Sign.f (kind : Int) : Option (ByteArray) := Fn spec_l7Sign.E spec_l7Sign.T spec_l7Sign.C spec_l7Sign.P spec_l7Sign.R spec_l7Sign.X kind
theorem spec_l7Sign.f_eq (kind : Int) : spec_l7Sign.f kind =
  (bif ((decide (0 ≤ kind)) && ((decide (kind ≤ (w64 (kind + 1)))) && (decide ((w64 (kind + 1)) ≤ 4)))) then (some ((⟨#[63, 32, 45, 43]⟩ : ByteArray).extract (kind).toNat ((w64 (kind + 1))).toNat)) else none) := by kernel_rfl
noncomputable def spec_l7Sign.S : Abs.Sum := ⟨spec_l7Sign.P, spec_l7Sign.R, fun _ => Fn spec_l7Sign.E spec_l7Sign.T spec_l7Sign.C spec_l7Sign.P spec_l7Sign.R spec_l7Sign.X⟩
theorem spec_l7Sign.meets : Meets Tryz.prog 41 spec_l7Sign.S := meets_tab (S := spec_l7Sign.U) tabOk_all AllMeets.nil AllStill.nil follows (by kernel_rfl : Tryz.prog.funcs[41]? = some Tryz.f41) (by kernel_rfl) (by kernel_rfl) (by kernel_rfl)
noncomputable def spec_l5Shown.C : Code := Tryz.f40.body.getD .skip
def spec_l5Shown.P : Par := (.cons (.val .str) (.cons (.val .str) .nil))
noncomputable def spec_l5Shown.U : SumTab := [(61, [], spec_l1Ends.S)]
noncomputable def spec_l5Shown.E : Env := mkEnv TY AR spec_l5Shown.U
noncomputable def spec_l5Shown.T : Tab := fun k => look k []
def spec_l5Shown.R : List (Nat × Ty) := [(0, .str)]
def spec_l5Shown.X : List ResultVar := [.tmp 4]
noncomputable def spec_l5Shown.f (sign : ByteArray) (s : ByteArray) : Option (ByteArray) := Fn spec_l5Shown.E spec_l5Shown.T spec_l5Shown.C spec_l5Shown.P spec_l5Shown.R spec_l5Shown.X (sign, s)
theorem spec_l5Shown.f_eq (sign : ByteArray) (s : ByteArray) : spec_l5Shown.f sign s =
  ((spec_l1Ends.f s).bind fun y1 =>
  bif y1 then (bif (decide ((sign.size + s.size) ≤ 9223372036854775807)) then (some (sign ++ s)) else none) else
  (bif (decide ((sign.size + s.size) ≤ 9223372036854775807)) then (bif (decide (((sign ++ s).size + (⟨#[10, 92, 32, 110, 111, 110, 101, 10]⟩ : ByteArray).size) ≤ 9223372036854775807)) then (some ((sign ++ s) ++ (⟨#[10, 92, 32, 110, 111, 110, 101, 10]⟩ : ByteArray))) else none) else none)) := by kernel_rfl
noncomputable def spec_l5Shown.S : Abs.Sum := ⟨spec_l5Shown.P, spec_l5Shown.R, fun _ => Fn spec_l5Shown.E spec_l5Shown.T spec_l5Shown.C spec_l5Shown.P spec_l5Shown.R spec_l5Shown.X⟩
theorem spec_l5Shown.meets : Meets Tryz.prog 40 spec_l5Shown.S := meets_tab (S := spec_l5Shown.U) tabOk_all (AllMeets.cons spec_l1Ends.meets AllMeets.nil) (AllStill.cons (fun _ _ _ => rfl) AllStill.nil) follows (by kernel_rfl : Tryz.prog.funcs[40]? = some Tryz.f40) (by kernel_rfl) (by kernel_rfl) (by kernel_rfl)
noncomputable def spec_l7Text.C : Code := Tryz.f22.body.getD .skip
def spec_l7Text.P : Par := (.cons (.val (.list (.pair (.int .i64) (.pair (.int .i64) (.one (.list (.pair (.int .i64) (.one .str)))))))) .nil)
noncomputable def spec_l7Text.U : SumTab := [(38, [], spec_l6Old.S), (37, [], spec_l4Count.S), (39, [], spec_l6New.S), (41, [], spec_l7Sign.S), (40, [], spec_l5Shown.S)]
noncomputable def spec_l7Text.E : Env := mkEnv TY AR spec_l7Text.U
def spec_l7Text.D6 : CutD := ⟨[3, 8, 9, 10], (.cons (.val .str) (.cons (.val (.list (.pair (.int .i64) (.pair (.int .i64) (.one (.list (.pair (.int .i64) (.one .str)))))))) (.cons (.val (.int .i64)) (.cons (.val (.int .i64)) .nil))))⟩
def spec_l7Text.D14 : CutD := ⟨[3, 8, 9, 10, 33, 34, 35], (.cons (.val .str) (.cons (.val (.list (.pair (.int .i64) (.pair (.int .i64) (.one (.list (.pair (.int .i64) (.one .str)))))))) (.cons (.val (.int .i64)) (.cons (.val (.int .i64)) (.cons (.val (.list (.pair (.int .i64) (.one .str)))) (.cons (.val (.int .i64)) (.cons (.val (.int .i64)) .nil)))))))⟩
noncomputable def spec_l7Text.T : Tab := fun k => look k [(6, spec_l7Text.D6), (14, spec_l7Text.D14)]
def spec_l7Text.R : List (Nat × Ty) := [(0, .str)]
def spec_l7Text.X : List ResultVar := [.tmp 2]
noncomputable def spec_l7Text.K := fin spec_l7Text.E ⟨spec_l7Text.P, spec_l7Text.R, fun _ _ => none⟩ spec_l7Text.X spec_l7Text.P.len 0
noncomputable def spec_l7Text.l6 (t : ByteArray) (t8 : List (Int × Int × List (Int × ByteArray))) (t9 : Int) (t10 : Int) : Option (ByteArray) := fixP spec_l7Text.E spec_l7Text.T spec_l7Text.C spec_l7Text.K 6 spec_l7Text.D6 (t, t8, t9, t10)
noncomputable def spec_l7Text.l14 (t : ByteArray) (t8 : List (Int × Int × List (Int × ByteArray))) (t9 : Int) (t10 : Int) (t33 : List (Int × ByteArray)) (t34 : Int) (t35 : Int) : Option (ByteArray) := fixP spec_l7Text.E spec_l7Text.T spec_l7Text.C spec_l7Text.K 14 spec_l7Text.D14 (t, t8, t9, t10, t33, t34, t35)
noncomputable def spec_l7Text.f (g : List (Int × Int × List (Int × ByteArray))) : Option (ByteArray) := Fn spec_l7Text.E spec_l7Text.T spec_l7Text.C spec_l7Text.P spec_l7Text.R spec_l7Text.X g
theorem spec_l7Text.l6_eq (t : ByteArray) (t8 : List (Int × Int × List (Int × ByteArray))) (t9 : Int) (t10 : Int) : spec_l7Text.l6 t t8 t9 t10 =
  (bif (decide (t10 < t9)) then (bif ((decide (0 ≤ t10)) && (decide (t10 < (t8.length : Int)))) then ((spec_l6Old.f (t8.getD (t10).toNat (0, 0, ([] : List (Int × ByteArray))))).bind fun y1 =>
    (spec_l4Count.f (t8.getD (t10).toNat (0, 0, ([] : List (Int × ByteArray)))).1 (y1.length : Int)).bind fun y2 =>
    bif (decide (((⟨#[64, 64, 32, 45]⟩ : ByteArray).size + y2.size) ≤ 9223372036854775807)) then (bif (decide ((((⟨#[64, 64, 32, 45]⟩ : ByteArray) ++ y2).size + (⟨#[32, 43]⟩ : ByteArray).size) ≤ 9223372036854775807)) then ((spec_l6New.f (t8.getD (t10).toNat (0, 0, ([] : List (Int × ByteArray))))).bind fun y3 =>
      (spec_l4Count.f (t8.getD (t10).toNat (0, 0, ([] : List (Int × ByteArray)))).2.1 (y3.length : Int)).bind fun y4 =>
      bif (decide (((((⟨#[64, 64, 32, 45]⟩ : ByteArray) ++ y2) ++ (⟨#[32, 43]⟩ : ByteArray)).size + y4.size) ≤ 9223372036854775807)) then (bif (decide ((((((⟨#[64, 64, 32, 45]⟩ : ByteArray) ++ y2) ++ (⟨#[32, 43]⟩ : ByteArray)) ++ y4).size + (⟨#[32, 64, 64, 10]⟩ : ByteArray).size) ≤ 9223372036854775807)) then (bif (decide ((t.size + (((((⟨#[64, 64, 32, 45]⟩ : ByteArray) ++ y2) ++ (⟨#[32, 43]⟩ : ByteArray)) ++ y4) ++ (⟨#[32, 64, 64, 10]⟩ : ByteArray)).size) ≤ 9223372036854775807)) then (spec_l7Text.l14 (t ++ (((((⟨#[64, 64, 32, 45]⟩ : ByteArray) ++ y2) ++ (⟨#[32, 43]⟩ : ByteArray)) ++ y4) ++ (⟨#[32, 64, 64, 10]⟩ : ByteArray))) t8 t9 t10 (t8.getD (t10).toNat (0, 0, ([] : List (Int × ByteArray)))).2.2 ((t8.getD (t10).toNat (0, 0, ([] : List (Int × ByteArray)))).2.2.length : Int) 0) else none) else none) else none) else none) else none) else none) else (some t)) :=
  (fixP_eq spec_l7Text.E spec_l7Text.T spec_l7Text.C spec_l7Text.K 6 spec_l7Text.D6 (t, t8, t9, t10)).trans (by kernel_rfl)
theorem spec_l7Text.l14_eq (t : ByteArray) (t8 : List (Int × Int × List (Int × ByteArray))) (t9 : Int) (t10 : Int) (t33 : List (Int × ByteArray)) (t34 : Int) (t35 : Int) : spec_l7Text.l14 t t8 t9 t10 t33 t34 t35 =
  (bif (decide (t35 < t34)) then (bif ((decide (0 ≤ t35)) && (decide (t35 < (t33.length : Int)))) then ((spec_l7Sign.f (t33.getD (t35).toNat (0, em)).1).bind fun y1 =>
    (spec_l5Shown.f y1 (t33.getD (t35).toNat (0, em)).2).bind fun y2 =>
    bif (decide ((t.size + y2.size) ≤ 9223372036854775807)) then (spec_l7Text.l14 (t ++ y2) t8 t9 t10 t33 t34 (w64 (t35 + 1))) else none) else none) else
  (spec_l7Text.l6 t t8 t9 (w64 (t10 + 1)))) :=
  (fixP_eq spec_l7Text.E spec_l7Text.T spec_l7Text.C spec_l7Text.K 14 spec_l7Text.D14 (t, t8, t9, t10, t33, t34, t35)).trans (by kernel_rfl)
theorem spec_l7Text.f_eq (g : List (Int × Int × List (Int × ByteArray))) : spec_l7Text.f g =
  (spec_l7Text.l6 em g (g.length : Int) 0) := by kernel_rfl
noncomputable def spec_l7Text.S : Abs.Sum := ⟨spec_l7Text.P, spec_l7Text.R, fun _ => Fn spec_l7Text.E spec_l7Text.T spec_l7Text.C spec_l7Text.P spec_l7Text.R spec_l7Text.X⟩
theorem spec_l7Text.meets : Meets Tryz.prog 22 spec_l7Text.S := meets_tab (S := spec_l7Text.U) tabOk_all (AllMeets.cons spec_l6Old.meets (AllMeets.cons spec_l4Count.meets (AllMeets.cons spec_l6New.meets (AllMeets.cons spec_l7Sign.meets (AllMeets.cons spec_l5Shown.meets AllMeets.nil))))) (AllStill.cons (fun _ _ _ => rfl) (AllStill.cons (fun _ _ _ => rfl) (AllStill.cons (fun _ _ _ => rfl) (AllStill.cons (fun _ _ _ => rfl) (AllStill.cons (fun _ _ _ => rfl) AllStill.nil))))) follows (by kernel_rfl : Tryz.prog.funcs[22]? = some Tryz.f22) (by kernel_rfl) (by kernel_rfl) (by kernel_rfl)
noncomputable def spec_l15Text.C : Code := Tryz.f11.body.getD .skip
def spec_l15Text.P : Par := (.cons (.val (.list (.pair .str (.pair (.int .i64) (.one (.list (.pair (.int .i64) (.pair (.int .i64) (.one (.list (.pair (.int .i64) (.one .str)))))))))))) .nil)
noncomputable def spec_l15Text.U : SumTab := [(21, [], spec_l15Heads.S), (22, [], spec_l7Text.S)]
noncomputable def spec_l15Text.E : Env := mkEnv TY AR spec_l15Text.U
def spec_l15Text.D6 : CutD := ⟨[3, 6, 7, 8], (.cons (.val .str) (.cons (.val (.list (.pair .str (.pair (.int .i64) (.one (.list (.pair (.int .i64) (.pair (.int .i64) (.one (.list (.pair (.int .i64) (.one .str)))))))))))) (.cons (.val (.int .i64)) (.cons (.val (.int .i64)) .nil))))⟩
noncomputable def spec_l15Text.T : Tab := fun k => look k [(6, spec_l15Text.D6)]
def spec_l15Text.R : List (Nat × Ty) := [(0, .str)]
def spec_l15Text.X : List ResultVar := [.tmp 2]
noncomputable def spec_l15Text.K := fin spec_l15Text.E ⟨spec_l15Text.P, spec_l15Text.R, fun _ _ => none⟩ spec_l15Text.X spec_l15Text.P.len 0
noncomputable def spec_l15Text.l6 (t : ByteArray) (t6 : List (ByteArray × Int × List (Int × Int × List (Int × ByteArray)))) (t7 : Int) (t8 : Int) : Option (ByteArray) := fixP spec_l15Text.E spec_l15Text.T spec_l15Text.C spec_l15Text.K 6 spec_l15Text.D6 (t, t6, t7, t8)
noncomputable def spec_l15Text.f (d : List (ByteArray × Int × List (Int × Int × List (Int × ByteArray)))) : Option (ByteArray) := Fn spec_l15Text.E spec_l15Text.T spec_l15Text.C spec_l15Text.P spec_l15Text.R spec_l15Text.X d
theorem spec_l15Text.l6_eq (t : ByteArray) (t6 : List (ByteArray × Int × List (Int × Int × List (Int × ByteArray)))) (t7 : Int) (t8 : Int) : spec_l15Text.l6 t t6 t7 t8 =
  (bif (decide (t8 < t7)) then (bif ((decide (0 ≤ t8)) && (decide (t8 < (t6.length : Int)))) then ((spec_l15Heads.f (t6.getD (t8).toNat (em, 0, ([] : List (Int × Int × List (Int × ByteArray)))))).bind fun y1 =>
    (spec_l7Text.f (t6.getD (t8).toNat (em, 0, ([] : List (Int × Int × List (Int × ByteArray))))).2.2).bind fun y2 =>
    bif (decide ((y1.size + y2.size) ≤ 9223372036854775807)) then (bif (decide ((t.size + (y1 ++ y2).size) ≤ 9223372036854775807)) then (spec_l15Text.l6 (t ++ (y1 ++ y2)) t6 t7 (w64 (t8 + 1))) else none) else none) else none) else (some t)) :=
  (fixP_eq spec_l15Text.E spec_l15Text.T spec_l15Text.C spec_l15Text.K 6 spec_l15Text.D6 (t, t6, t7, t8)).trans (by kernel_rfl)
theorem spec_l15Text.f_eq (d : List (ByteArray × Int × List (Int × Int × List (Int × ByteArray)))) : spec_l15Text.f d =
  (spec_l15Text.l6 em d (d.length : Int) 0) := by kernel_rfl
noncomputable def spec_l15Text.S : Abs.Sum := ⟨spec_l15Text.P, spec_l15Text.R, fun _ => Fn spec_l15Text.E spec_l15Text.T spec_l15Text.C spec_l15Text.P spec_l15Text.R spec_l15Text.X⟩
theorem spec_l15Text.meets : Meets Tryz.prog 11 spec_l15Text.S := meets_tab (S := spec_l15Text.U) tabOk_all (AllMeets.cons spec_l15Heads.meets (AllMeets.cons spec_l7Text.meets AllMeets.nil)) (AllStill.cons (fun _ _ _ => rfl) (AllStill.cons (fun _ _ _ => rfl) AllStill.nil)) follows (by kernel_rfl : Tryz.prog.funcs[11]? = some Tryz.f11) (by kernel_rfl) (by kernel_rfl) (by kernel_rfl)
noncomputable def spec_FilesText.C : Code := Tryz.f5.body.getD .skip
def spec_FilesText.P : Par := (.cons (.val (.list (.pair .str (.pair (.int .i64) (.one (.list (.pair (.int .i64) (.pair (.int .i64) (.one (.list (.pair (.int .i64) (.one .str)))))))))))) .nil)
noncomputable def spec_FilesText.U : SumTab := [(10, [], spec_l15Named.S), (11, [], spec_l15Text.S)]
noncomputable def spec_FilesText.E : Env := mkEnv TY AR spec_FilesText.U
noncomputable def spec_FilesText.T : Tab := fun k => look k []
def spec_FilesText.R : List (Nat × Ty) := [(0, .str), (0, .bool)]
def spec_FilesText.X : List ResultVar := [.tmp 2, .tmp 3]
noncomputable def spec_FilesText.f (d : List (ByteArray × Int × List (Int × Int × List (Int × ByteArray)))) : Option (ByteArray × Bool) := Fn spec_FilesText.E spec_FilesText.T spec_FilesText.C spec_FilesText.P spec_FilesText.R spec_FilesText.X d
theorem spec_FilesText.f_eq (d : List (ByteArray × Int × List (Int × Int × List (Int × ByteArray)))) : spec_FilesText.f d =
  ((spec_l15Named.f d).bind fun y1 =>
  bif (!y1) then (some (em, false)) else
  ((spec_l15Text.f d).bind fun y2 =>
   bif (decide ((y2.size : Int) > 3000)) then (some (em, false)) else
   ((spec_l15Text.f d).bind fun y3 =>
    some (y3, true)))) := by kernel_rfl
noncomputable def spec_FilesText.S : Abs.Sum := ⟨spec_FilesText.P, spec_FilesText.R, fun _ => Fn spec_FilesText.E spec_FilesText.T spec_FilesText.C spec_FilesText.P spec_FilesText.R spec_FilesText.X⟩
theorem spec_FilesText.meets : Meets Tryz.prog 5 spec_FilesText.S := meets_tab (S := spec_FilesText.U) tabOk_all (AllMeets.cons spec_l15Named.meets (AllMeets.cons spec_l15Text.meets AllMeets.nil)) (AllStill.cons (fun _ _ _ => rfl) (AllStill.cons (fun _ _ _ => rfl) AllStill.nil)) follows (by kernel_rfl : Tryz.prog.funcs[5]? = some Tryz.f5) (by kernel_rfl) (by kernel_rfl) (by kernel_rfl)
noncomputable def impl_in.C : Code := Tryz.f43.body.getD .skip
def impl_in.P : Par := (.cons (.val (.int .i64)) (.cons (.val (.int .i64)) (.cons (.val (.int .i64)) .nil)))
noncomputable def impl_in.U : SumTab := []
noncomputable def impl_in.E : Env := mkEnv TY AR impl_in.U
noncomputable def impl_in.T : Tab := fun k => look k []
def impl_in.R : List (Nat × Ty) := [(0, .bool)]
def impl_in.X : List ResultVar := [.tmp 6]
noncomputable def impl_in.f (n : Int) (low : Int) (high : Int) : Option (Bool) := Fn impl_in.E impl_in.T impl_in.C impl_in.P impl_in.R impl_in.X (n, low, high)
theorem impl_in.f_eq (n : Int) (low : Int) (high : Int) : impl_in.f n low high =
  (bif (decide (n ≥ low)) then (some (decide (n ≤ high))) else (some false)) := by kernel_rfl
noncomputable def impl_in.S : Abs.Sum := ⟨impl_in.P, impl_in.R, fun _ => Fn impl_in.E impl_in.T impl_in.C impl_in.P impl_in.R impl_in.X⟩
theorem impl_in.meets : Meets Tryz.prog 43 impl_in.S := meets_tab (S := impl_in.U) tabOk_all AllMeets.nil AllStill.nil follows (by kernel_rfl : Tryz.prog.funcs[43]? = some Tryz.f43) (by kernel_rfl) (by kernel_rfl) (by kernel_rfl)
noncomputable def impl_isName.C : Code := Tryz.f24.body.getD .skip
def impl_isName.P : Par := (.cons (.val .str) .nil)
noncomputable def impl_isName.U : SumTab := [(43, [], impl_in.S), (44, [], strings_Trim.S)]
noncomputable def impl_isName.E : Env := mkEnv TY AR impl_isName.U
noncomputable def impl_isName.T : Tab := fun k => look k []
def impl_isName.R : List (Nat × Ty) := [(0, .bool)]
def impl_isName.X : List ResultVar := [.tmp 2]
noncomputable def impl_isName.f (s : ByteArray) : Option (Bool) := Fn impl_isName.E impl_isName.T impl_isName.C impl_isName.P impl_isName.R impl_isName.X s
theorem impl_isName.f_eq (s : ByteArray) : impl_isName.f s =
  ((impl_in.f (s.size : Int) 1 12).bind fun y1 =>
  bif y1 then ((strings_Trim.f s (⟨#[97, 98, 99, 100, 101, 102, 103, 104, 105, 106, 107, 108, 109, 110, 111, 112, 113, 114, 115, 116, 117, 118, 119, 120, 121, 122, 48, 49, 50, 51, 52, 53, 54, 55, 56, 57, 46, 47]⟩ : ByteArray)).bind fun y2 =>
   some (y2.toList == em.toList)) else (some false)) := by kernel_rfl
noncomputable def impl_isName.S : Abs.Sum := ⟨impl_isName.P, impl_isName.R, fun _ => Fn impl_isName.E impl_isName.T impl_isName.C impl_isName.P impl_isName.R impl_isName.X⟩
theorem impl_isName.meets : Meets Tryz.prog 24 impl_isName.S := meets_tab (S := impl_isName.U) tabOk_all (AllMeets.cons impl_in.meets (AllMeets.cons strings_Trim.meets AllMeets.nil)) (AllStill.cons (fun _ _ _ => rfl) (AllStill.cons (fun _ _ _ => rfl) AllStill.nil)) follows (by kernel_rfl : Tryz.prog.funcs[24]? = some Tryz.f24) (by kernel_rfl) (by kernel_rfl) (by kernel_rfl)
noncomputable def impl_isLine.C : Code := Tryz.f70.body.getD .skip
def impl_isLine.P : Par := (.cons (.val .str) .nil)
noncomputable def impl_isLine.U : SumTab := [(43, [], impl_in.S), (84, [], strings_Contains.S)]
noncomputable def impl_isLine.E : Env := mkEnv TY AR impl_isLine.U
noncomputable def impl_isLine.T : Tab := fun k => look k []
def impl_isLine.R : List (Nat × Ty) := [(0, .bool)]
def impl_isLine.X : List ResultVar := [.tmp 2]
noncomputable def impl_isLine.f (line : ByteArray) : Option (Bool) := Fn impl_isLine.E impl_isLine.T impl_isLine.C impl_isLine.P impl_isLine.R impl_isLine.X line
theorem impl_isLine.f_eq (line : ByteArray) : impl_isLine.f line =
  ((impl_in.f (line.size : Int) 1 30).bind fun y1 =>
  bif y1 then (bif ((decide (0 ≤ (w64 ((line.size : Int) - 1)))) && (decide ((w64 ((line.size : Int) - 1)) ≤ (line.size : Int)))) then ((strings_Contains.f (line.extract 0 ((w64 ((line.size : Int) - 1))).toNat) (⟨#[10]⟩ : ByteArray)).bind fun y2 =>
    some (!y2)) else none) else (some false)) := by kernel_rfl
noncomputable def impl_isLine.S : Abs.Sum := ⟨impl_isLine.P, impl_isLine.R, fun _ => Fn impl_isLine.E impl_isLine.T impl_isLine.C impl_isLine.P impl_isLine.R impl_isLine.X⟩
theorem impl_isLine.meets : Meets Tryz.prog 70 impl_isLine.S := meets_tab (S := impl_isLine.U) tabOk_all (AllMeets.cons impl_in.meets (AllMeets.cons strings_Contains.meets AllMeets.nil)) (AllStill.cons (fun _ _ _ => rfl) (AllStill.cons (fun _ _ _ => rfl) AllStill.nil)) follows (by kernel_rfl : Tryz.prog.funcs[70]? = some Tryz.f70) (by kernel_rfl) (by kernel_rfl) (by kernel_rfl)
noncomputable def impl_sideOf.C : Code := Tryz.f51.body.getD .skip
def impl_sideOf.P : Par := (.cons (.val (.list (.pair (.int .i64) (.one .str)))) (.cons (.val (.int .i64)) .nil))
noncomputable def impl_sideOf.U : SumTab := []
noncomputable def impl_sideOf.E : Env := mkEnv TY AR impl_sideOf.U
def impl_sideOf.D6 : CutD := ⟨[1, 5, 9, 10, 11], (.cons (.val (.int .i64)) (.cons (.own 9 .str) (.cons (.val (.list (.pair (.int .i64) (.one .str)))) (.cons (.val (.int .i64)) (.cons (.val (.int .i64)) .nil)))))⟩
noncomputable def impl_sideOf.T : Tab := fun k => look k [(6, impl_sideOf.D6)]
def impl_sideOf.R : List (Nat × Ty) := [(9, .list .str)]
def impl_sideOf.X : List ResultVar := [.tmp 4]
noncomputable def impl_sideOf.K := fin impl_sideOf.E ⟨impl_sideOf.P, impl_sideOf.R, fun _ _ => none⟩ impl_sideOf.X impl_sideOf.P.len 0
noncomputable def impl_sideOf.l6 (not : Int) (out : List ByteArray) (t9 : List (Int × ByteArray)) (t10 : Int) (t11 : Int) : Option ((List ByteArray)) := fixP impl_sideOf.E impl_sideOf.T impl_sideOf.C impl_sideOf.K 6 impl_sideOf.D6 (not, out, t9, t10, t11)
noncomputable def impl_sideOf.f (rows : List (Int × ByteArray)) (not : Int) : Option ((List ByteArray)) := Fn impl_sideOf.E impl_sideOf.T impl_sideOf.C impl_sideOf.P impl_sideOf.R impl_sideOf.X (rows, not)
theorem impl_sideOf.l6_eq (not : Int) (out : List ByteArray) (t9 : List (Int × ByteArray)) (t10 : Int) (t11 : Int) : impl_sideOf.l6 not out t9 t10 t11 =
  (bif (decide (t11 < t10)) then (bif ((decide (0 ≤ t11)) && (decide (t11 < (t9.length : Int)))) then (bif (!(decide ((t9.getD (t11).toNat (0, em)).1 = not))) then (bif (decide ((out.length + [(t9.getD (t11).toNat (0, em)).2].length) ≤ room 16)) then (impl_sideOf.l6 not (out ++ [(t9.getD (t11).toNat (0, em)).2]) t9 t10 (w64 (t11 + 1))) else none) else
    (impl_sideOf.l6 not out t9 t10 (w64 (t11 + 1)))) else none) else (some out)) :=
  (fixP_eq impl_sideOf.E impl_sideOf.T impl_sideOf.C impl_sideOf.K 6 impl_sideOf.D6 (not, out, t9, t10, t11)).trans (by kernel_rfl)
theorem impl_sideOf.f_eq (rows : List (Int × ByteArray)) (not : Int) : impl_sideOf.f rows not =
  (impl_sideOf.l6 not ([] : List ByteArray) rows (rows.length : Int) 0) := by kernel_rfl
noncomputable def impl_sideOf.S : Abs.Sum := ⟨impl_sideOf.P, impl_sideOf.R, fun _ => Fn impl_sideOf.E impl_sideOf.T impl_sideOf.C impl_sideOf.P impl_sideOf.R impl_sideOf.X⟩
theorem impl_sideOf.meets : Meets Tryz.prog 51 impl_sideOf.S := meets_tab (S := impl_sideOf.U) tabOk_all AllMeets.nil AllStill.nil follows (by kernel_rfl : Tryz.prog.funcs[51]? = some Tryz.f51) (by kernel_rfl) (by kernel_rfl) (by kernel_rfl)
noncomputable def impl_Group_old.C : Code := Tryz.f31.body.getD .skip
def impl_Group_old.P : Par := (.cons (.val (.pair (.int .i64) (.pair (.int .i64) (.one (.list (.pair (.int .i64) (.one .str))))))) .nil)
noncomputable def impl_Group_old.U : SumTab := [(51, [], impl_sideOf.S)]
noncomputable def impl_Group_old.E : Env := mkEnv TY AR impl_Group_old.U
noncomputable def impl_Group_old.T : Tab := fun k => look k []
def impl_Group_old.R : List (Nat × Ty) := [(9, .list .str)]
def impl_Group_old.X : List ResultVar := [.tmp 2]
noncomputable def impl_Group_old.f (g : Int × Int × List (Int × ByteArray)) : Option ((List ByteArray)) := Fn impl_Group_old.E impl_Group_old.T impl_Group_old.C impl_Group_old.P impl_Group_old.R impl_Group_old.X g
theorem impl_Group_old.f_eq (g : Int × Int × List (Int × ByteArray)) : impl_Group_old.f g =
  ((impl_sideOf.f g.2.2 3).bind fun y1 =>
  some y1) := by kernel_rfl
noncomputable def impl_Group_old.S : Abs.Sum := ⟨impl_Group_old.P, impl_Group_old.R, fun _ => Fn impl_Group_old.E impl_Group_old.T impl_Group_old.C impl_Group_old.P impl_Group_old.R impl_Group_old.X⟩
theorem impl_Group_old.meets : Meets Tryz.prog 31 impl_Group_old.S := meets_tab (S := impl_Group_old.U) tabOk_all (AllMeets.cons impl_sideOf.meets AllMeets.nil) (AllStill.cons (fun _ _ _ => rfl) AllStill.nil) follows (by kernel_rfl : Tryz.prog.funcs[31]? = some Tryz.f31) (by kernel_rfl) (by kernel_rfl) (by kernel_rfl)
noncomputable def impl_Group_fresh.C : Code := Tryz.f32.body.getD .skip
def impl_Group_fresh.P : Par := (.cons (.val (.pair (.int .i64) (.pair (.int .i64) (.one (.list (.pair (.int .i64) (.one .str))))))) .nil)
noncomputable def impl_Group_fresh.U : SumTab := [(51, [], impl_sideOf.S)]
noncomputable def impl_Group_fresh.E : Env := mkEnv TY AR impl_Group_fresh.U
noncomputable def impl_Group_fresh.T : Tab := fun k => look k []
def impl_Group_fresh.R : List (Nat × Ty) := [(9, .list .str)]
def impl_Group_fresh.X : List ResultVar := [.tmp 2]
noncomputable def impl_Group_fresh.f (g : Int × Int × List (Int × ByteArray)) : Option ((List ByteArray)) := Fn impl_Group_fresh.E impl_Group_fresh.T impl_Group_fresh.C impl_Group_fresh.P impl_Group_fresh.R impl_Group_fresh.X g
theorem impl_Group_fresh.f_eq (g : Int × Int × List (Int × ByteArray)) : impl_Group_fresh.f g =
  ((impl_sideOf.f g.2.2 2).bind fun y1 =>
  some y1) := by kernel_rfl
noncomputable def impl_Group_fresh.S : Abs.Sum := ⟨impl_Group_fresh.P, impl_Group_fresh.R, fun _ => Fn impl_Group_fresh.E impl_Group_fresh.T impl_Group_fresh.C impl_Group_fresh.P impl_Group_fresh.R impl_Group_fresh.X⟩
theorem impl_Group_fresh.meets : Meets Tryz.prog 32 impl_Group_fresh.S := meets_tab (S := impl_Group_fresh.U) tabOk_all (AllMeets.cons impl_sideOf.meets AllMeets.nil) (AllStill.cons (fun _ _ _ => rfl) AllStill.nil) follows (by kernel_rfl : Tryz.prog.funcs[32]? = some Tryz.f32) (by kernel_rfl) (by kernel_rfl) (by kernel_rfl)
noncomputable def impl_areLines_1.C : Code := Tryz.f96.body.getD .skip
def impl_areLines_1.P : Par := (.cons (.val .str) .nil)
noncomputable def impl_areLines_1.U : SumTab := [(70, [], impl_isLine.S)]
noncomputable def impl_areLines_1.E : Env := mkEnv TY AR impl_areLines_1.U
noncomputable def impl_areLines_1.T : Tab := fun k => look k []
def impl_areLines_1.R : List (Nat × Ty) := [(0, .bool)]
def impl_areLines_1.X : List ResultVar := [.tmp 2]
noncomputable def impl_areLines_1.f (line : ByteArray) : Option (Bool) := Fn impl_areLines_1.E impl_areLines_1.T impl_areLines_1.C impl_areLines_1.P impl_areLines_1.R impl_areLines_1.X line
theorem impl_areLines_1.f_eq (line : ByteArray) : impl_areLines_1.f line =
  ((impl_isLine.f line).bind fun y1 =>
  some (!y1)) := by kernel_rfl
noncomputable def impl_areLines_1.S : Abs.Sum := ⟨impl_areLines_1.P, impl_areLines_1.R, fun _ => Fn impl_areLines_1.E impl_areLines_1.T impl_areLines_1.C impl_areLines_1.P impl_areLines_1.R impl_areLines_1.X⟩
theorem impl_areLines_1.meets : Meets Tryz.prog 96 impl_areLines_1.S := meets_tab (S := impl_areLines_1.U) tabOk_all (AllMeets.cons impl_isLine.meets AllMeets.nil) (AllStill.cons (fun _ _ _ => rfl) AllStill.nil) follows (by kernel_rfl : Tryz.prog.funcs[96]? = some Tryz.f96) (by kernel_rfl) (by kernel_rfl) (by kernel_rfl)
noncomputable def slices_IndexFunc_Lstring_string__impl_areLines_1.C : Code := Tryz.f107.body.getD .skip
def slices_IndexFunc_Lstring_string__impl_areLines_1.P : Par := (.cons (.val (.list .str)) (.cons (.fn 96 .nil) .nil))
noncomputable def slices_IndexFunc_Lstring_string__impl_areLines_1.U : SumTab := [(96, [], impl_areLines_1.S)]
noncomputable def slices_IndexFunc_Lstring_string__impl_areLines_1.E : Env := mkEnv TY AR slices_IndexFunc_Lstring_string__impl_areLines_1.U
def slices_IndexFunc_Lstring_string__impl_areLines_1.D4 : CutD := ⟨[0, 1, 7, 8], (.cons (.val (.list .str)) (.cons (.fn 96 .nil) (.cons (.val (.int .i64)) (.cons (.val (.int .i64)) .nil))))⟩
noncomputable def slices_IndexFunc_Lstring_string__impl_areLines_1.T : Tab := fun k => look k [(4, slices_IndexFunc_Lstring_string__impl_areLines_1.D4)]
def slices_IndexFunc_Lstring_string__impl_areLines_1.R : List (Nat × Ty) := [(0, .int .i64)]
def slices_IndexFunc_Lstring_string__impl_areLines_1.X : List ResultVar := [.tmp 4]
noncomputable def slices_IndexFunc_Lstring_string__impl_areLines_1.K := fin slices_IndexFunc_Lstring_string__impl_areLines_1.E ⟨slices_IndexFunc_Lstring_string__impl_areLines_1.P, slices_IndexFunc_Lstring_string__impl_areLines_1.R, fun _ _ => none⟩ slices_IndexFunc_Lstring_string__impl_areLines_1.X slices_IndexFunc_Lstring_string__impl_areLines_1.P.len 0
noncomputable def slices_IndexFunc_Lstring_string__impl_areLines_1.l4 (s : List ByteArray) (t7 : Int) (t8 : Int) : Option (Int) := fixP slices_IndexFunc_Lstring_string__impl_areLines_1.E slices_IndexFunc_Lstring_string__impl_areLines_1.T slices_IndexFunc_Lstring_string__impl_areLines_1.C slices_IndexFunc_Lstring_string__impl_areLines_1.K 4 slices_IndexFunc_Lstring_string__impl_areLines_1.D4 (s, t7, t8)
noncomputable def slices_IndexFunc_Lstring_string__impl_areLines_1.f (s : List ByteArray) : Option (Int) := Fn slices_IndexFunc_Lstring_string__impl_areLines_1.E slices_IndexFunc_Lstring_string__impl_areLines_1.T slices_IndexFunc_Lstring_string__impl_areLines_1.C slices_IndexFunc_Lstring_string__impl_areLines_1.P slices_IndexFunc_Lstring_string__impl_areLines_1.R slices_IndexFunc_Lstring_string__impl_areLines_1.X s
theorem slices_IndexFunc_Lstring_string__impl_areLines_1.l4_eq (s : List ByteArray) (t7 : Int) (t8 : Int) : slices_IndexFunc_Lstring_string__impl_areLines_1.l4 s t7 t8 =
  (bif (decide (t8 < t7)) then (bif ((decide (0 ≤ t8)) && (decide (t8 < (s.length : Int)))) then ((impl_areLines_1.f (s.getD (t8).toNat em)).bind fun y1 =>
    bif y1 then (some t8) else
    (slices_IndexFunc_Lstring_string__impl_areLines_1.l4 s t7 (w64 (t8 + 1)))) else none) else (some (-1))) :=
  (fixP_eq slices_IndexFunc_Lstring_string__impl_areLines_1.E slices_IndexFunc_Lstring_string__impl_areLines_1.T slices_IndexFunc_Lstring_string__impl_areLines_1.C slices_IndexFunc_Lstring_string__impl_areLines_1.K 4 slices_IndexFunc_Lstring_string__impl_areLines_1.D4 (s, t7, t8)).trans (by kernel_rfl)
theorem slices_IndexFunc_Lstring_string__impl_areLines_1.f_eq (s : List ByteArray) : slices_IndexFunc_Lstring_string__impl_areLines_1.f s =
  (slices_IndexFunc_Lstring_string__impl_areLines_1.l4 s (s.length : Int) 0) := by kernel_rfl
noncomputable def slices_IndexFunc_Lstring_string__impl_areLines_1.S : Abs.Sum := ⟨slices_IndexFunc_Lstring_string__impl_areLines_1.P, slices_IndexFunc_Lstring_string__impl_areLines_1.R, fun _ => Fn slices_IndexFunc_Lstring_string__impl_areLines_1.E slices_IndexFunc_Lstring_string__impl_areLines_1.T slices_IndexFunc_Lstring_string__impl_areLines_1.C slices_IndexFunc_Lstring_string__impl_areLines_1.P slices_IndexFunc_Lstring_string__impl_areLines_1.R slices_IndexFunc_Lstring_string__impl_areLines_1.X⟩
theorem slices_IndexFunc_Lstring_string__impl_areLines_1.meets : Meets Tryz.prog 107 slices_IndexFunc_Lstring_string__impl_areLines_1.S := meets_tab (S := slices_IndexFunc_Lstring_string__impl_areLines_1.U) tabOk_all (AllMeets.cons impl_areLines_1.meets AllMeets.nil) (AllStill.cons (fun _ _ _ => rfl) AllStill.nil) follows (by kernel_rfl : Tryz.prog.funcs[107]? = some Tryz.f107) (by kernel_rfl) (by kernel_rfl) (by kernel_rfl)
noncomputable def slices_ContainsFunc_Lstring_string__impl_areLines_1.C : Code := Tryz.f95.body.getD .skip
def slices_ContainsFunc_Lstring_string__impl_areLines_1.P : Par := (.cons (.val (.list .str)) (.cons (.fn 96 .nil) .nil))
noncomputable def slices_ContainsFunc_Lstring_string__impl_areLines_1.U : SumTab := [(107, [96], slices_IndexFunc_Lstring_string__impl_areLines_1.S)]
noncomputable def slices_ContainsFunc_Lstring_string__impl_areLines_1.E : Env := mkEnv TY AR slices_ContainsFunc_Lstring_string__impl_areLines_1.U
noncomputable def slices_ContainsFunc_Lstring_string__impl_areLines_1.T : Tab := fun k => look k []
def slices_ContainsFunc_Lstring_string__impl_areLines_1.R : List (Nat × Ty) := [(0, .bool)]
def slices_ContainsFunc_Lstring_string__impl_areLines_1.X : List ResultVar := [.tmp 4]
noncomputable def slices_ContainsFunc_Lstring_string__impl_areLines_1.f (s : List ByteArray) : Option (Bool) := Fn slices_ContainsFunc_Lstring_string__impl_areLines_1.E slices_ContainsFunc_Lstring_string__impl_areLines_1.T slices_ContainsFunc_Lstring_string__impl_areLines_1.C slices_ContainsFunc_Lstring_string__impl_areLines_1.P slices_ContainsFunc_Lstring_string__impl_areLines_1.R slices_ContainsFunc_Lstring_string__impl_areLines_1.X s
theorem slices_ContainsFunc_Lstring_string__impl_areLines_1.f_eq (s : List ByteArray) : slices_ContainsFunc_Lstring_string__impl_areLines_1.f s =
  ((slices_IndexFunc_Lstring_string__impl_areLines_1.f s).bind fun y1 =>
  some (decide (y1 ≥ 0))) := by kernel_rfl
noncomputable def slices_ContainsFunc_Lstring_string__impl_areLines_1.S : Abs.Sum := ⟨slices_ContainsFunc_Lstring_string__impl_areLines_1.P, slices_ContainsFunc_Lstring_string__impl_areLines_1.R, fun _ => Fn slices_ContainsFunc_Lstring_string__impl_areLines_1.E slices_ContainsFunc_Lstring_string__impl_areLines_1.T slices_ContainsFunc_Lstring_string__impl_areLines_1.C slices_ContainsFunc_Lstring_string__impl_areLines_1.P slices_ContainsFunc_Lstring_string__impl_areLines_1.R slices_ContainsFunc_Lstring_string__impl_areLines_1.X⟩
theorem slices_ContainsFunc_Lstring_string__impl_areLines_1.meets : Meets Tryz.prog 95 slices_ContainsFunc_Lstring_string__impl_areLines_1.S := meets_tab (S := slices_ContainsFunc_Lstring_string__impl_areLines_1.U) tabOk_all (AllMeets.cons slices_IndexFunc_Lstring_string__impl_areLines_1.meets AllMeets.nil) (AllStill.cons (fun _ _ _ => rfl) AllStill.nil) follows (by kernel_rfl : Tryz.prog.funcs[95]? = some Tryz.f95) (by kernel_rfl) (by kernel_rfl) (by kernel_rfl)
noncomputable def impl_areLines.C : Code := Tryz.f85.body.getD .skip
def impl_areLines.P : Par := (.cons (.val (.list .str)) .nil)
noncomputable def impl_areLines.U : SumTab := [(95, [96], slices_ContainsFunc_Lstring_string__impl_areLines_1.S)]
noncomputable def impl_areLines.E : Env := mkEnv TY AR impl_areLines.U
noncomputable def impl_areLines.T : Tab := fun k => look k []
def impl_areLines.R : List (Nat × Ty) := [(0, .bool)]
def impl_areLines.X : List ResultVar := [.tmp 2]
noncomputable def impl_areLines.f (l : List ByteArray) : Option (Bool) := Fn impl_areLines.E impl_areLines.T impl_areLines.C impl_areLines.P impl_areLines.R impl_areLines.X l
theorem impl_areLines.f_eq (l : List ByteArray) : impl_areLines.f l =
  (bif (decide ((l.length : Int) ≤ 40)) then ((slices_ContainsFunc_Lstring_string__impl_areLines_1.f l).bind fun y1 =>
   some (!y1)) else (some false)) := by kernel_rfl
noncomputable def impl_areLines.S : Abs.Sum := ⟨impl_areLines.P, impl_areLines.R, fun _ => Fn impl_areLines.E impl_areLines.T impl_areLines.C impl_areLines.P impl_areLines.R impl_areLines.X⟩
theorem impl_areLines.meets : Meets Tryz.prog 85 impl_areLines.S := meets_tab (S := impl_areLines.U) tabOk_all (AllMeets.cons slices_ContainsFunc_Lstring_string__impl_areLines_1.meets AllMeets.nil) (AllStill.cons (fun _ _ _ => rfl) AllStill.nil) follows (by kernel_rfl : Tryz.prog.funcs[85]? = some Tryz.f85) (by kernel_rfl) (by kernel_rfl) (by kernel_rfl)
noncomputable def internal_stringslite_HasSuffix.C : Code := Tryz.f101.body.getD .skip
def internal_stringslite_HasSuffix.P : Par := (.cons (.val .str) (.cons (.val .str) .nil))
noncomputable def internal_stringslite_HasSuffix.U : SumTab := []
noncomputable def internal_stringslite_HasSuffix.E : Env := mkEnv TY AR internal_stringslite_HasSuffix.U
noncomputable def internal_stringslite_HasSuffix.T : Tab := fun k => look k []
def internal_stringslite_HasSuffix.R : List (Nat × Ty) := [(0, .bool)]
def internal_stringslite_HasSuffix.X : List ResultVar := [.tmp 4]
noncomputable def internal_stringslite_HasSuffix.f (s : ByteArray) (suffix : ByteArray) : Option (Bool) := Fn internal_stringslite_HasSuffix.E internal_stringslite_HasSuffix.T internal_stringslite_HasSuffix.C internal_stringslite_HasSuffix.P internal_stringslite_HasSuffix.R internal_stringslite_HasSuffix.X (s, suffix)
theorem internal_stringslite_HasSuffix.f_eq (s : ByteArray) (suffix : ByteArray) : internal_stringslite_HasSuffix.f s suffix =
  (bif (decide ((s.size : Int) ≥ (suffix.size : Int))) then (bif ((decide (0 ≤ (w64 ((s.size : Int) - (suffix.size : Int))))) && (decide ((w64 ((s.size : Int) - (suffix.size : Int))) ≤ (s.size : Int)))) then (some ((s.extract ((w64 ((s.size : Int) - (suffix.size : Int)))).toNat s.size).toList == suffix.toList)) else none) else (some false)) := by kernel_rfl
noncomputable def internal_stringslite_HasSuffix.S : Abs.Sum := ⟨internal_stringslite_HasSuffix.P, internal_stringslite_HasSuffix.R, fun _ => Fn internal_stringslite_HasSuffix.E internal_stringslite_HasSuffix.T internal_stringslite_HasSuffix.C internal_stringslite_HasSuffix.P internal_stringslite_HasSuffix.R internal_stringslite_HasSuffix.X⟩
theorem internal_stringslite_HasSuffix.meets : Meets Tryz.prog 101 internal_stringslite_HasSuffix.S := meets_tab (S := internal_stringslite_HasSuffix.U) tabOk_all AllMeets.nil AllStill.nil follows (by kernel_rfl : Tryz.prog.funcs[101]? = some Tryz.f101) (by kernel_rfl) (by kernel_rfl) (by kernel_rfl)
noncomputable def strings_HasSuffix.C : Code := Tryz.f87.body.getD .skip
def strings_HasSuffix.P : Par := (.cons (.val .str) (.cons (.val .str) .nil))
noncomputable def strings_HasSuffix.U : SumTab := [(101, [], internal_stringslite_HasSuffix.S)]
noncomputable def strings_HasSuffix.E : Env := mkEnv TY AR strings_HasSuffix.U
noncomputable def strings_HasSuffix.T : Tab := fun k => look k []
def strings_HasSuffix.R : List (Nat × Ty) := [(0, .bool)]
def strings_HasSuffix.X : List ResultVar := [.tmp 4]
noncomputable def strings_HasSuffix.f (s : ByteArray) (suffix : ByteArray) : Option (Bool) := Fn strings_HasSuffix.E strings_HasSuffix.T strings_HasSuffix.C strings_HasSuffix.P strings_HasSuffix.R strings_HasSuffix.X (s, suffix)
theorem strings_HasSuffix.f_eq (s : ByteArray) (suffix : ByteArray) : strings_HasSuffix.f s suffix =
  ((internal_stringslite_HasSuffix.f s suffix).bind fun y1 =>
  some y1) := by kernel_rfl
noncomputable def strings_HasSuffix.S : Abs.Sum := ⟨strings_HasSuffix.P, strings_HasSuffix.R, fun _ => Fn strings_HasSuffix.E strings_HasSuffix.T strings_HasSuffix.C strings_HasSuffix.P strings_HasSuffix.R strings_HasSuffix.X⟩
theorem strings_HasSuffix.meets : Meets Tryz.prog 87 strings_HasSuffix.S := meets_tab (S := strings_HasSuffix.U) tabOk_all (AllMeets.cons internal_stringslite_HasSuffix.meets AllMeets.nil) (AllStill.cons (fun _ _ _ => rfl) AllStill.nil) follows (by kernel_rfl : Tryz.prog.funcs[87]? = some Tryz.f87) (by kernel_rfl) (by kernel_rfl) (by kernel_rfl)
noncomputable def impl_isEnded.C : Code := Tryz.f74.body.getD .skip
def impl_isEnded.P : Par := (.cons (.val .str) .nil)
noncomputable def impl_isEnded.U : SumTab := [(87, [], strings_HasSuffix.S)]
noncomputable def impl_isEnded.E : Env := mkEnv TY AR impl_isEnded.U
noncomputable def impl_isEnded.T : Tab := fun k => look k []
def impl_isEnded.R : List (Nat × Ty) := [(0, .bool)]
def impl_isEnded.X : List ResultVar := [.tmp 2]
noncomputable def impl_isEnded.f (line : ByteArray) : Option (Bool) := Fn impl_isEnded.E impl_isEnded.T impl_isEnded.C impl_isEnded.P impl_isEnded.R impl_isEnded.X line
theorem impl_isEnded.f_eq (line : ByteArray) : impl_isEnded.f line =
  ((strings_HasSuffix.f line (⟨#[10]⟩ : ByteArray)).bind fun y1 =>
  some y1) := by kernel_rfl
noncomputable def impl_isEnded.S : Abs.Sum := ⟨impl_isEnded.P, impl_isEnded.R, fun _ => Fn impl_isEnded.E impl_isEnded.T impl_isEnded.C impl_isEnded.P impl_isEnded.R impl_isEnded.X⟩
theorem impl_isEnded.meets : Meets Tryz.prog 74 impl_isEnded.S := meets_tab (S := impl_isEnded.U) tabOk_all (AllMeets.cons strings_HasSuffix.meets AllMeets.nil) (AllStill.cons (fun _ _ _ => rfl) AllStill.nil) follows (by kernel_rfl : Tryz.prog.funcs[74]? = some Tryz.f74) (by kernel_rfl) (by kernel_rfl) (by kernel_rfl)
noncomputable def impl_goodLines.C : Code := Tryz.f71.body.getD .skip
def impl_goodLines.P : Par := (.cons (.val (.list .str)) .nil)
noncomputable def impl_goodLines.U : SumTab := [(85, [], impl_areLines.S), (74, [], impl_isEnded.S)]
noncomputable def impl_goodLines.E : Env := mkEnv TY AR impl_goodLines.U
def impl_goodLines.D8 : CutD := ⟨[0, 8, 9, 10], (.cons (.val (.list .str)) (.cons (.val (.list .str)) (.cons (.val (.int .i64)) (.cons (.val (.int .i64)) .nil))))⟩
noncomputable def impl_goodLines.T : Tab := fun k => look k [(8, impl_goodLines.D8)]
def impl_goodLines.R : List (Nat × Ty) := [(0, .bool)]
def impl_goodLines.X : List ResultVar := [.tmp 2]
noncomputable def impl_goodLines.K := fin impl_goodLines.E ⟨impl_goodLines.P, impl_goodLines.R, fun _ _ => none⟩ impl_goodLines.X impl_goodLines.P.len 0
noncomputable def impl_goodLines.l8 (l : List ByteArray) (t8 : List ByteArray) (t9 : Int) (t10 : Int) : Option (Bool) := fixP impl_goodLines.E impl_goodLines.T impl_goodLines.C impl_goodLines.K 8 impl_goodLines.D8 (l, t8, t9, t10)
noncomputable def impl_goodLines.f (l : List ByteArray) : Option (Bool) := Fn impl_goodLines.E impl_goodLines.T impl_goodLines.C impl_goodLines.P impl_goodLines.R impl_goodLines.X l
theorem impl_goodLines.l8_eq (l : List ByteArray) (t8 : List ByteArray) (t9 : Int) (t10 : Int) : impl_goodLines.l8 l t8 t9 t10 =
  (bif (decide (t10 < t9)) then (bif ((decide (0 ≤ t10)) && (decide (t10 < (t8.length : Int)))) then (bif (decide (t10 < (w64 ((l.length : Int) - 1)))) then ((impl_isEnded.f (t8.getD (t10).toNat em)).bind fun y1 =>
     bif (!y1) then (some false) else
     (impl_goodLines.l8 l t8 t9 (w64 (t10 + 1)))) else
    (impl_goodLines.l8 l t8 t9 (w64 (t10 + 1)))) else none) else (some true)) :=
  (fixP_eq impl_goodLines.E impl_goodLines.T impl_goodLines.C impl_goodLines.K 8 impl_goodLines.D8 (l, t8, t9, t10)).trans (by kernel_rfl)
theorem impl_goodLines.f_eq (l : List ByteArray) : impl_goodLines.f l =
  ((impl_areLines.f l).bind fun y1 =>
  bif (!y1) then (some false) else
  (impl_goodLines.l8 l l (l.length : Int) 0)) := by kernel_rfl
noncomputable def impl_goodLines.S : Abs.Sum := ⟨impl_goodLines.P, impl_goodLines.R, fun _ => Fn impl_goodLines.E impl_goodLines.T impl_goodLines.C impl_goodLines.P impl_goodLines.R impl_goodLines.X⟩
theorem impl_goodLines.meets : Meets Tryz.prog 71 impl_goodLines.S := meets_tab (S := impl_goodLines.U) tabOk_all (AllMeets.cons impl_areLines.meets (AllMeets.cons impl_isEnded.meets AllMeets.nil)) (AllStill.cons (fun _ _ _ => rfl) (AllStill.cons (fun _ _ _ => rfl) AllStill.nil)) follows (by kernel_rfl : Tryz.prog.funcs[71]? = some Tryz.f71) (by kernel_rfl) (by kernel_rfl) (by kernel_rfl)
noncomputable def impl_goodGroup.C : Code := Tryz.f45.body.getD .skip
def impl_goodGroup.P : Par := (.cons (.val (.pair (.int .i64) (.pair (.int .i64) (.one (.list (.pair (.int .i64) (.one .str))))))) .nil)
noncomputable def impl_goodGroup.U : SumTab := [(43, [], impl_in.S), (70, [], impl_isLine.S), (31, [], impl_Group_old.S), (32, [], impl_Group_fresh.S), (71, [], impl_goodLines.S)]
noncomputable def impl_goodGroup.E : Env := mkEnv TY AR impl_goodGroup.U
def impl_goodGroup.D7 : CutD := ⟨[1], (.cons (.box 0 (.pair (.int .i64) (.pair (.int .i64) (.one (.list (.pair (.int .i64) (.one .str))))))) .nil)⟩
def impl_goodGroup.D10 : CutD := ⟨[1, 3, 26, 27, 28], (.cons (.box 0 (.pair (.int .i64) (.pair (.int .i64) (.one (.list (.pair (.int .i64) (.one .str))))))) (.cons (.val .bool) (.cons (.val (.list (.pair (.int .i64) (.one .str)))) (.cons (.val (.int .i64)) (.cons (.val (.int .i64)) .nil)))))⟩
def impl_goodGroup.D19 : CutD := ⟨[1, 3, 5, 26, 27, 28], (.cons (.box 0 (.pair (.int .i64) (.pair (.int .i64) (.one (.list (.pair (.int .i64) (.one .str))))))) (.cons (.val .bool) (.cons (.box 9 (.pair (.int .i64) (.one .str))) (.cons (.val (.list (.pair (.int .i64) (.one .str)))) (.cons (.val (.int .i64)) (.cons (.val (.int .i64)) .nil))))))⟩
noncomputable def impl_goodGroup.T : Tab := fun k => look k [(7, impl_goodGroup.D7), (10, impl_goodGroup.D10), (19, impl_goodGroup.D19)]
def impl_goodGroup.R : List (Nat × Ty) := [(0, .bool)]
def impl_goodGroup.X : List ResultVar := [.tmp 2]
noncomputable def impl_goodGroup.K := fin impl_goodGroup.E ⟨impl_goodGroup.P, impl_goodGroup.R, fun _ _ => none⟩ impl_goodGroup.X impl_goodGroup.P.len 0
noncomputable def impl_goodGroup.l7 (g : Int × Int × List (Int × ByteArray)) : Option (Bool) := fixP impl_goodGroup.E impl_goodGroup.T impl_goodGroup.C impl_goodGroup.K 7 impl_goodGroup.D7 g
noncomputable def impl_goodGroup.l10 (g : Int × Int × List (Int × ByteArray)) (changes : Bool) (t26 : List (Int × ByteArray)) (t27 : Int) (t28 : Int) : Option (Bool) := fixP impl_goodGroup.E impl_goodGroup.T impl_goodGroup.C impl_goodGroup.K 10 impl_goodGroup.D10 (g, changes, t26, t27, t28)
noncomputable def impl_goodGroup.l19 (g : Int × Int × List (Int × ByteArray)) (changes : Bool) (r : Int × ByteArray) (t26 : List (Int × ByteArray)) (t27 : Int) (t28 : Int) : Option (Bool) := fixP impl_goodGroup.E impl_goodGroup.T impl_goodGroup.C impl_goodGroup.K 19 impl_goodGroup.D19 (g, changes, r, t26, t27, t28)
noncomputable def impl_goodGroup.f (g : Int × Int × List (Int × ByteArray)) : Option (Bool) := Fn impl_goodGroup.E impl_goodGroup.T impl_goodGroup.C impl_goodGroup.P impl_goodGroup.R impl_goodGroup.X g
theorem impl_goodGroup.l7_eq (g : Int × Int × List (Int × ByteArray)) : impl_goodGroup.l7 g =
  (impl_goodGroup.l10 g false g.2.2 (g.2.2.length : Int) 0) :=
  (fixP_eq impl_goodGroup.E impl_goodGroup.T impl_goodGroup.C impl_goodGroup.K 7 impl_goodGroup.D7 g).trans (by kernel_rfl)
theorem impl_goodGroup.l10_eq (g : Int × Int × List (Int × ByteArray)) (changes : Bool) (t26 : List (Int × ByteArray)) (t27 : Int) (t28 : Int) : impl_goodGroup.l10 g changes t26 t27 t28 =
  (bif (decide (t28 < t27)) then (bif ((decide (0 ≤ t28)) && (decide (t28 < (t26.length : Int)))) then ((impl_in.f (t26.getD (t28).toNat (0, em)).1 1 3).bind fun y1 =>
    bif (!y1) then (some false) else
    ((impl_isLine.f (t26.getD (t28).toNat (0, em)).2).bind fun y2 =>
     bif (!y2) then (some false) else
     (bif (decide (t28 > 0)) then (bif (decide ((t26.getD (t28).toNat (0, em)).1 = 2)) then (bif ((decide (0 ≤ (w64 (t28 - 1)))) && (decide ((w64 (t28 - 1)) < (g.2.2.length : Int)))) then (bif (decide ((g.2.2.getD ((w64 (t28 - 1))).toNat (0, em)).1 = 3)) then (some false) else
         (impl_goodGroup.l19 g changes (t26.getD (t28).toNat (0, em)) t26 t27 t28)) else none) else
       (impl_goodGroup.l19 g changes (t26.getD (t28).toNat (0, em)) t26 t27 t28)) else
      (impl_goodGroup.l19 g changes (t26.getD (t28).toNat (0, em)) t26 t27 t28)))) else none) else
  ((impl_Group_old.f g).bind fun y1 =>
   (impl_Group_fresh.f g).bind fun y2 =>
   bif changes then ((impl_goodLines.f y1).bind fun y3 =>
    bif y3 then ((impl_goodLines.f y2).bind fun y4 =>
     bif y4 then (bif (decide ((w64 (g.1 + (y1.length : Int))) ≤ 1000)) then (some (decide ((w64 (g.2.1 + (y2.length : Int))) ≤ 1000))) else (some false)) else (some false)) else (some false)) else (some false))) :=
  (fixP_eq impl_goodGroup.E impl_goodGroup.T impl_goodGroup.C impl_goodGroup.K 10 impl_goodGroup.D10 (g, changes, t26, t27, t28)).trans (by kernel_rfl)
theorem impl_goodGroup.l19_eq (g : Int × Int × List (Int × ByteArray)) (changes : Bool) (r : Int × ByteArray) (t26 : List (Int × ByteArray)) (t27 : Int) (t28 : Int) : impl_goodGroup.l19 g changes r t26 t27 t28 =
  (bif changes then (impl_goodGroup.l10 g true t26 t27 (w64 (t28 + 1))) else
  (impl_goodGroup.l10 g (!(decide (r.1 = 1))) t26 t27 (w64 (t28 + 1)))) :=
  (fixP_eq impl_goodGroup.E impl_goodGroup.T impl_goodGroup.C impl_goodGroup.K 19 impl_goodGroup.D19 (g, changes, r, t26, t27, t28)).trans (by kernel_rfl)
theorem impl_goodGroup.f_eq (g : Int × Int × List (Int × ByteArray)) : impl_goodGroup.f g =
  ((impl_in.f g.1 0 999).bind fun y1 =>
  bif (!y1) then (some false) else
  ((impl_in.f g.2.1 0 999).bind fun y2 =>
   bif (!y2) then (some false) else
   ((impl_in.f (g.2.2.length : Int) 1 80).bind fun y3 =>
    bif (!y3) then (some false) else
    (impl_goodGroup.l7 g)))) := by kernel_rfl
noncomputable def impl_goodGroup.S : Abs.Sum := ⟨impl_goodGroup.P, impl_goodGroup.R, fun _ => Fn impl_goodGroup.E impl_goodGroup.T impl_goodGroup.C impl_goodGroup.P impl_goodGroup.R impl_goodGroup.X⟩
theorem impl_goodGroup.meets : Meets Tryz.prog 45 impl_goodGroup.S := meets_tab (S := impl_goodGroup.U) tabOk_all (AllMeets.cons impl_in.meets (AllMeets.cons impl_isLine.meets (AllMeets.cons impl_Group_old.meets (AllMeets.cons impl_Group_fresh.meets (AllMeets.cons impl_goodLines.meets AllMeets.nil))))) (AllStill.cons (fun _ _ _ => rfl) (AllStill.cons (fun _ _ _ => rfl) (AllStill.cons (fun _ _ _ => rfl) (AllStill.cons (fun _ _ _ => rfl) (AllStill.cons (fun _ _ _ => rfl) AllStill.nil))))) follows (by kernel_rfl : Tryz.prog.funcs[45]? = some Tryz.f45) (by kernel_rfl) (by kernel_rfl) (by kernel_rfl)
noncomputable def impl_goodGroups.C : Code := Tryz.f25.body.getD .skip
def impl_goodGroups.P : Par := (.cons (.val (.list (.pair (.int .i64) (.pair (.int .i64) (.one (.list (.pair (.int .i64) (.one .str)))))))) .nil)
noncomputable def impl_goodGroups.U : SumTab := [(45, [], impl_goodGroup.S), (31, [], impl_Group_old.S), (32, [], impl_Group_fresh.S)]
noncomputable def impl_goodGroups.E : Env := mkEnv TY AR impl_goodGroups.U
def impl_goodGroups.D8 : CutD := ⟨[0, 8, 9, 10], (.cons (.val (.list (.pair (.int .i64) (.pair (.int .i64) (.one (.list (.pair (.int .i64) (.one .str)))))))) (.cons (.val (.list (.pair (.int .i64) (.pair (.int .i64) (.one (.list (.pair (.int .i64) (.one .str)))))))) (.cons (.val (.int .i64)) (.cons (.val (.int .i64)) .nil))))⟩
noncomputable def impl_goodGroups.T : Tab := fun k => look k [(8, impl_goodGroups.D8)]
def impl_goodGroups.R : List (Nat × Ty) := [(0, .bool)]
def impl_goodGroups.X : List ResultVar := [.tmp 2]
noncomputable def impl_goodGroups.K := fin impl_goodGroups.E ⟨impl_goodGroups.P, impl_goodGroups.R, fun _ _ => none⟩ impl_goodGroups.X impl_goodGroups.P.len 0
noncomputable def impl_goodGroups.l8 (g : List (Int × Int × List (Int × ByteArray))) (t8 : List (Int × Int × List (Int × ByteArray))) (t9 : Int) (t10 : Int) : Option (Bool) := fixP impl_goodGroups.E impl_goodGroups.T impl_goodGroups.C impl_goodGroups.K 8 impl_goodGroups.D8 (g, t8, t9, t10)
noncomputable def impl_goodGroups.f (g : List (Int × Int × List (Int × ByteArray))) : Option (Bool) := Fn impl_goodGroups.E impl_goodGroups.T impl_goodGroups.C impl_goodGroups.P impl_goodGroups.R impl_goodGroups.X g
theorem impl_goodGroups.l8_eq (g : List (Int × Int × List (Int × ByteArray))) (t8 : List (Int × Int × List (Int × ByteArray))) (t9 : Int) (t10 : Int) : impl_goodGroups.l8 g t8 t9 t10 =
  (bif (decide (t10 < t9)) then (bif ((decide (0 ≤ t10)) && (decide (t10 < (t8.length : Int)))) then ((impl_goodGroup.f (t8.getD (t10).toNat (0, 0, ([] : List (Int × ByteArray))))).bind fun y1 =>
    bif (!y1) then (some false) else
    (bif (decide (t10 > 0)) then (bif ((decide (0 ≤ (w64 (t10 - 1)))) && (decide ((w64 (t10 - 1)) < (g.length : Int)))) then (bif ((decide (0 ≤ (w64 (t10 - 1)))) && (decide ((w64 (t10 - 1)) < (g.length : Int)))) then ((impl_Group_old.f (g.getD ((w64 (t10 - 1))).toNat (0, 0, ([] : List (Int × ByteArray))))).bind fun y2 =>
        bif (decide ((t8.getD (t10).toNat (0, 0, ([] : List (Int × ByteArray)))).1 < (w64 ((g.getD ((w64 (t10 - 1))).toNat (0, 0, ([] : List (Int × ByteArray)))).1 + (y2.length : Int))))) then (some false) else
        (bif ((decide (0 ≤ (w64 (t10 - 1)))) && (decide ((w64 (t10 - 1)) < (g.length : Int)))) then (bif ((decide (0 ≤ (w64 (t10 - 1)))) && (decide ((w64 (t10 - 1)) < (g.length : Int)))) then ((impl_Group_fresh.f (g.getD ((w64 (t10 - 1))).toNat (0, 0, ([] : List (Int × ByteArray))))).bind fun y3 =>
           bif (decide ((t8.getD (t10).toNat (0, 0, ([] : List (Int × ByteArray)))).2.1 < (w64 ((g.getD ((w64 (t10 - 1))).toNat (0, 0, ([] : List (Int × ByteArray)))).2.1 + (y3.length : Int))))) then (some false) else
           (impl_goodGroups.l8 g t8 t9 (w64 (t10 + 1)))) else none) else none)) else none) else none) else
     (impl_goodGroups.l8 g t8 t9 (w64 (t10 + 1))))) else none) else (some true)) :=
  (fixP_eq impl_goodGroups.E impl_goodGroups.T impl_goodGroups.C impl_goodGroups.K 8 impl_goodGroups.D8 (g, t8, t9, t10)).trans (by kernel_rfl)
theorem impl_goodGroups.f_eq (g : List (Int × Int × List (Int × ByteArray))) : impl_goodGroups.f g =
  (bif (decide ((g.length : Int) > 20)) then (some false) else
  (impl_goodGroups.l8 g g (g.length : Int) 0)) := by kernel_rfl
noncomputable def impl_goodGroups.S : Abs.Sum := ⟨impl_goodGroups.P, impl_goodGroups.R, fun _ => Fn impl_goodGroups.E impl_goodGroups.T impl_goodGroups.C impl_goodGroups.P impl_goodGroups.R impl_goodGroups.X⟩
theorem impl_goodGroups.meets : Meets Tryz.prog 25 impl_goodGroups.S := meets_tab (S := impl_goodGroups.U) tabOk_all (AllMeets.cons impl_goodGroup.meets (AllMeets.cons impl_Group_old.meets (AllMeets.cons impl_Group_fresh.meets AllMeets.nil))) (AllStill.cons (fun _ _ _ => rfl) (AllStill.cons (fun _ _ _ => rfl) (AllStill.cons (fun _ _ _ => rfl) AllStill.nil))) follows (by kernel_rfl : Tryz.prog.funcs[25]? = some Tryz.f25) (by kernel_rfl) (by kernel_rfl) (by kernel_rfl)
noncomputable def impl_isAll_1.C : Code := Tryz.f47.body.getD .skip
def impl_isAll_1.P : Par := (.cons (.val (.pair (.int .i64) (.one .str))) (.cons (.box 9 (.int .i64)) .nil))
noncomputable def impl_isAll_1.U : SumTab := []
noncomputable def impl_isAll_1.E : Env := mkEnv TY AR impl_isAll_1.U
noncomputable def impl_isAll_1.T : Tab := fun k => look k []
def impl_isAll_1.R : List (Nat × Ty) := [(0, .bool)]
def impl_isAll_1.X : List ResultVar := [.tmp 3]
noncomputable def impl_isAll_1.f (r : Int × ByteArray) (t1 : Int) : Option (Bool × Int) := Fn impl_isAll_1.E impl_isAll_1.T impl_isAll_1.C impl_isAll_1.P impl_isAll_1.R impl_isAll_1.X (r, t1)
theorem impl_isAll_1.f_eq (r : Int × ByteArray) (t1 : Int) : impl_isAll_1.f r t1 =
  (some ((!(decide (r.1 = t1))), t1)) := by kernel_rfl
noncomputable def impl_isAll_1.S : Abs.Sum := ⟨impl_isAll_1.P, impl_isAll_1.R, fun _ => Fn impl_isAll_1.E impl_isAll_1.T impl_isAll_1.C impl_isAll_1.P impl_isAll_1.R impl_isAll_1.X⟩
theorem impl_isAll_1.meets : Meets Tryz.prog 47 impl_isAll_1.S := meets_tab (S := impl_isAll_1.U) tabOk_all AllMeets.nil AllStill.nil follows (by kernel_rfl : Tryz.prog.funcs[47]? = some Tryz.f47) (by kernel_rfl) (by kernel_rfl) (by kernel_rfl)
noncomputable def slices_IndexFunc_Limpl_Row_impl_Row__impl_isAll_1.C : Code := Tryz.f72.body.getD .skip
def slices_IndexFunc_Limpl_Row_impl_Row__impl_isAll_1.P : Par := (.cons (.val (.list (.pair (.int .i64) (.one .str)))) (.cons (.fn 47 (.cons (.box 9 (.int .i64)) .nil)) .nil))
noncomputable def slices_IndexFunc_Limpl_Row_impl_Row__impl_isAll_1.U : SumTab := [(47, [], impl_isAll_1.S)]
noncomputable def slices_IndexFunc_Limpl_Row_impl_Row__impl_isAll_1.E : Env := mkEnv TY AR slices_IndexFunc_Limpl_Row_impl_Row__impl_isAll_1.U
def slices_IndexFunc_Limpl_Row_impl_Row__impl_isAll_1.D4 : CutD := ⟨[0, 1, 7, 8], (.cons (.val (.list (.pair (.int .i64) (.one .str)))) (.cons (.fn 47 (.cons (.box 9 (.int .i64)) .nil)) (.cons (.val (.int .i64)) (.cons (.val (.int .i64)) .nil))))⟩
noncomputable def slices_IndexFunc_Limpl_Row_impl_Row__impl_isAll_1.T : Tab := fun k => look k [(4, slices_IndexFunc_Limpl_Row_impl_Row__impl_isAll_1.D4)]
def slices_IndexFunc_Limpl_Row_impl_Row__impl_isAll_1.R : List (Nat × Ty) := [(0, .int .i64)]
def slices_IndexFunc_Limpl_Row_impl_Row__impl_isAll_1.X : List ResultVar := [.tmp 4]
noncomputable def slices_IndexFunc_Limpl_Row_impl_Row__impl_isAll_1.K := fin slices_IndexFunc_Limpl_Row_impl_Row__impl_isAll_1.E ⟨slices_IndexFunc_Limpl_Row_impl_Row__impl_isAll_1.P, slices_IndexFunc_Limpl_Row_impl_Row__impl_isAll_1.R, fun _ _ => none⟩ slices_IndexFunc_Limpl_Row_impl_Row__impl_isAll_1.X slices_IndexFunc_Limpl_Row_impl_Row__impl_isAll_1.P.len 0
noncomputable def slices_IndexFunc_Limpl_Row_impl_Row__impl_isAll_1.l4 (s : List (Int × ByteArray)) (f : Int) (t7 : Int) (t8 : Int) : Option (Int × Int) := fixP slices_IndexFunc_Limpl_Row_impl_Row__impl_isAll_1.E slices_IndexFunc_Limpl_Row_impl_Row__impl_isAll_1.T slices_IndexFunc_Limpl_Row_impl_Row__impl_isAll_1.C slices_IndexFunc_Limpl_Row_impl_Row__impl_isAll_1.K 4 slices_IndexFunc_Limpl_Row_impl_Row__impl_isAll_1.D4 (s, f, t7, t8)
noncomputable def slices_IndexFunc_Limpl_Row_impl_Row__impl_isAll_1.f (s : List (Int × ByteArray)) (f : Int) : Option (Int × Int) := Fn slices_IndexFunc_Limpl_Row_impl_Row__impl_isAll_1.E slices_IndexFunc_Limpl_Row_impl_Row__impl_isAll_1.T slices_IndexFunc_Limpl_Row_impl_Row__impl_isAll_1.C slices_IndexFunc_Limpl_Row_impl_Row__impl_isAll_1.P slices_IndexFunc_Limpl_Row_impl_Row__impl_isAll_1.R slices_IndexFunc_Limpl_Row_impl_Row__impl_isAll_1.X (s, f)
theorem slices_IndexFunc_Limpl_Row_impl_Row__impl_isAll_1.l4_eq (s : List (Int × ByteArray)) (f : Int) (t7 : Int) (t8 : Int) : slices_IndexFunc_Limpl_Row_impl_Row__impl_isAll_1.l4 s f t7 t8 =
  (bif (decide (t8 < t7)) then (bif ((decide (0 ≤ t8)) && (decide (t8 < (s.length : Int)))) then ((impl_isAll_1.f (s.getD (t8).toNat (0, em)) f).bind fun y1 =>
    bif y1.1 then (some (t8, y1.2)) else
    (slices_IndexFunc_Limpl_Row_impl_Row__impl_isAll_1.l4 s y1.2 t7 (w64 (t8 + 1)))) else none) else (some ((-1), f))) :=
  (fixP_eq slices_IndexFunc_Limpl_Row_impl_Row__impl_isAll_1.E slices_IndexFunc_Limpl_Row_impl_Row__impl_isAll_1.T slices_IndexFunc_Limpl_Row_impl_Row__impl_isAll_1.C slices_IndexFunc_Limpl_Row_impl_Row__impl_isAll_1.K 4 slices_IndexFunc_Limpl_Row_impl_Row__impl_isAll_1.D4 (s, f, t7, t8)).trans (by kernel_rfl)
theorem slices_IndexFunc_Limpl_Row_impl_Row__impl_isAll_1.f_eq (s : List (Int × ByteArray)) (f : Int) : slices_IndexFunc_Limpl_Row_impl_Row__impl_isAll_1.f s f =
  (slices_IndexFunc_Limpl_Row_impl_Row__impl_isAll_1.l4 s f (s.length : Int) 0) := by kernel_rfl
noncomputable def slices_IndexFunc_Limpl_Row_impl_Row__impl_isAll_1.S : Abs.Sum := ⟨slices_IndexFunc_Limpl_Row_impl_Row__impl_isAll_1.P, slices_IndexFunc_Limpl_Row_impl_Row__impl_isAll_1.R, fun _ => Fn slices_IndexFunc_Limpl_Row_impl_Row__impl_isAll_1.E slices_IndexFunc_Limpl_Row_impl_Row__impl_isAll_1.T slices_IndexFunc_Limpl_Row_impl_Row__impl_isAll_1.C slices_IndexFunc_Limpl_Row_impl_Row__impl_isAll_1.P slices_IndexFunc_Limpl_Row_impl_Row__impl_isAll_1.R slices_IndexFunc_Limpl_Row_impl_Row__impl_isAll_1.X⟩
theorem slices_IndexFunc_Limpl_Row_impl_Row__impl_isAll_1.meets : Meets Tryz.prog 72 slices_IndexFunc_Limpl_Row_impl_Row__impl_isAll_1.S := meets_tab (S := slices_IndexFunc_Limpl_Row_impl_Row__impl_isAll_1.U) tabOk_all (AllMeets.cons impl_isAll_1.meets AllMeets.nil) (AllStill.cons (fun _ _ _ => rfl) AllStill.nil) follows (by kernel_rfl : Tryz.prog.funcs[72]? = some Tryz.f72) (by kernel_rfl) (by kernel_rfl) (by kernel_rfl)
noncomputable def slices_ContainsFunc_Limpl_Row_impl_Row__impl_isAll_1.C : Code := Tryz.f46.body.getD .skip
def slices_ContainsFunc_Limpl_Row_impl_Row__impl_isAll_1.P : Par := (.cons (.val (.list (.pair (.int .i64) (.one .str)))) (.cons (.fn 47 (.cons (.box 9 (.int .i64)) .nil)) .nil))
noncomputable def slices_ContainsFunc_Limpl_Row_impl_Row__impl_isAll_1.U : SumTab := [(72, [47], slices_IndexFunc_Limpl_Row_impl_Row__impl_isAll_1.S)]
noncomputable def slices_ContainsFunc_Limpl_Row_impl_Row__impl_isAll_1.E : Env := mkEnv TY AR slices_ContainsFunc_Limpl_Row_impl_Row__impl_isAll_1.U
noncomputable def slices_ContainsFunc_Limpl_Row_impl_Row__impl_isAll_1.T : Tab := fun k => look k []
def slices_ContainsFunc_Limpl_Row_impl_Row__impl_isAll_1.R : List (Nat × Ty) := [(0, .bool)]
def slices_ContainsFunc_Limpl_Row_impl_Row__impl_isAll_1.X : List ResultVar := [.tmp 4]
noncomputable def slices_ContainsFunc_Limpl_Row_impl_Row__impl_isAll_1.f (s : List (Int × ByteArray)) (f : Int) : Option (Bool × Int) := Fn slices_ContainsFunc_Limpl_Row_impl_Row__impl_isAll_1.E slices_ContainsFunc_Limpl_Row_impl_Row__impl_isAll_1.T slices_ContainsFunc_Limpl_Row_impl_Row__impl_isAll_1.C slices_ContainsFunc_Limpl_Row_impl_Row__impl_isAll_1.P slices_ContainsFunc_Limpl_Row_impl_Row__impl_isAll_1.R slices_ContainsFunc_Limpl_Row_impl_Row__impl_isAll_1.X (s, f)
theorem slices_ContainsFunc_Limpl_Row_impl_Row__impl_isAll_1.f_eq (s : List (Int × ByteArray)) (f : Int) : slices_ContainsFunc_Limpl_Row_impl_Row__impl_isAll_1.f s f =
  ((slices_IndexFunc_Limpl_Row_impl_Row__impl_isAll_1.f s f).bind fun y1 =>
  some ((decide (y1.1 ≥ 0)), y1.2)) := by kernel_rfl
noncomputable def slices_ContainsFunc_Limpl_Row_impl_Row__impl_isAll_1.S : Abs.Sum := ⟨slices_ContainsFunc_Limpl_Row_impl_Row__impl_isAll_1.P, slices_ContainsFunc_Limpl_Row_impl_Row__impl_isAll_1.R, fun _ => Fn slices_ContainsFunc_Limpl_Row_impl_Row__impl_isAll_1.E slices_ContainsFunc_Limpl_Row_impl_Row__impl_isAll_1.T slices_ContainsFunc_Limpl_Row_impl_Row__impl_isAll_1.C slices_ContainsFunc_Limpl_Row_impl_Row__impl_isAll_1.P slices_ContainsFunc_Limpl_Row_impl_Row__impl_isAll_1.R slices_ContainsFunc_Limpl_Row_impl_Row__impl_isAll_1.X⟩
theorem slices_ContainsFunc_Limpl_Row_impl_Row__impl_isAll_1.meets : Meets Tryz.prog 46 slices_ContainsFunc_Limpl_Row_impl_Row__impl_isAll_1.S := meets_tab (S := slices_ContainsFunc_Limpl_Row_impl_Row__impl_isAll_1.U) tabOk_all (AllMeets.cons slices_IndexFunc_Limpl_Row_impl_Row__impl_isAll_1.meets AllMeets.nil) (AllStill.cons (fun _ _ _ => rfl) AllStill.nil) follows (by kernel_rfl : Tryz.prog.funcs[46]? = some Tryz.f46) (by kernel_rfl) (by kernel_rfl) (by kernel_rfl)
noncomputable def impl_isAll.C : Code := Tryz.f26.body.getD .skip
def impl_isAll.P : Par := (.cons (.val (.list (.pair (.int .i64) (.pair (.int .i64) (.one (.list (.pair (.int .i64) (.one .str)))))))) (.cons (.val (.int .i64)) .nil))
noncomputable def impl_isAll.U : SumTab := [(46, [47], slices_ContainsFunc_Limpl_Row_impl_Row__impl_isAll_1.S)]
noncomputable def impl_isAll.E : Env := mkEnv TY AR impl_isAll.U
noncomputable def impl_isAll.T : Tab := fun k => look k []
def impl_isAll.R : List (Nat × Ty) := [(0, .bool)]
def impl_isAll.X : List ResultVar := [.tmp 4]
noncomputable def impl_isAll.f (g : List (Int × Int × List (Int × ByteArray))) (kind : Int) : Option (Bool) := Fn impl_isAll.E impl_isAll.T impl_isAll.C impl_isAll.P impl_isAll.R impl_isAll.X (g, kind)
theorem impl_isAll.f_eq (g : List (Int × Int × List (Int × ByteArray))) (kind : Int) : impl_isAll.f g kind =
  (bif (decide ((g.length : Int) = 0)) then (some true) else
  (bif (decide ((g.length : Int) = 1)) then (bif (decide (0 < (g.length : Int))) then (bif (decide ((g.getD 0 (0, 0, ([] : List (Int × ByteArray)))).1 = 0)) then (bif (decide (0 < (g.length : Int))) then (bif (decide ((g.getD 0 (0, 0, ([] : List (Int × ByteArray)))).2.1 = 0)) then (bif (decide (0 < (g.length : Int))) then ((slices_ContainsFunc_Limpl_Row_impl_Row__impl_isAll_1.f (g.getD 0 (0, 0, ([] : List (Int × ByteArray)))).2.2 kind).bind fun y1 =>
         some (!y1.1)) else none) else (some false)) else none) else (some false)) else none) else (some false))) := by kernel_rfl
noncomputable def impl_isAll.S : Abs.Sum := ⟨impl_isAll.P, impl_isAll.R, fun _ => Fn impl_isAll.E impl_isAll.T impl_isAll.C impl_isAll.P impl_isAll.R impl_isAll.X⟩
theorem impl_isAll.meets : Meets Tryz.prog 26 impl_isAll.S := meets_tab (S := impl_isAll.U) tabOk_all (AllMeets.cons slices_ContainsFunc_Limpl_Row_impl_Row__impl_isAll_1.meets AllMeets.nil) (AllStill.cons (fun _ _ _ => rfl) AllStill.nil) follows (by kernel_rfl : Tryz.prog.funcs[26]? = some Tryz.f26) (by kernel_rfl) (by kernel_rfl) (by kernel_rfl)
noncomputable def impl_goodDiffs.C : Code := Tryz.f13.body.getD .skip
def impl_goodDiffs.P : Par := (.cons (.val (.list (.pair .str (.pair (.int .i64) (.one (.list (.pair (.int .i64) (.pair (.int .i64) (.one (.list (.pair (.int .i64) (.one .str)))))))))))) .nil)
noncomputable def impl_goodDiffs.U : SumTab := [(24, [], impl_isName.S), (25, [], impl_goodGroups.S), (26, [], impl_isAll.S)]
noncomputable def impl_goodDiffs.E : Env := mkEnv TY AR impl_goodDiffs.U
def impl_goodDiffs.D4 : CutD := ⟨[0, 6, 7, 8], (.cons (.val (.list (.pair .str (.pair (.int .i64) (.one (.list (.pair (.int .i64) (.pair (.int .i64) (.one (.list (.pair (.int .i64) (.one .str)))))))))))) (.cons (.val (.list (.pair .str (.pair (.int .i64) (.one (.list (.pair (.int .i64) (.pair (.int .i64) (.one (.list (.pair (.int .i64) (.one .str)))))))))))) (.cons (.val (.int .i64)) (.cons (.val (.int .i64)) .nil))))⟩
def impl_goodDiffs.D13 : CutD := ⟨[0, 4, 6, 7, 8], (.cons (.val (.list (.pair .str (.pair (.int .i64) (.one (.list (.pair (.int .i64) (.pair (.int .i64) (.one (.list (.pair (.int .i64) (.one .str)))))))))))) (.cons (.box 0 (.pair .str (.pair (.int .i64) (.one (.list (.pair (.int .i64) (.pair (.int .i64) (.one (.list (.pair (.int .i64) (.one .str))))))))))) (.cons (.val (.list (.pair .str (.pair (.int .i64) (.one (.list (.pair (.int .i64) (.pair (.int .i64) (.one (.list (.pair (.int .i64) (.one .str)))))))))))) (.cons (.val (.int .i64)) (.cons (.val (.int .i64)) .nil)))))⟩
def impl_goodDiffs.D29 : CutD := ⟨[0, 5, 6, 7, 8], (.cons (.val (.list (.pair .str (.pair (.int .i64) (.one (.list (.pair (.int .i64) (.pair (.int .i64) (.one (.list (.pair (.int .i64) (.one .str)))))))))))) (.cons (.val .bool) (.cons (.val (.list (.pair .str (.pair (.int .i64) (.one (.list (.pair (.int .i64) (.pair (.int .i64) (.one (.list (.pair (.int .i64) (.one .str)))))))))))) (.cons (.val (.int .i64)) (.cons (.val (.int .i64)) .nil)))))⟩
noncomputable def impl_goodDiffs.T : Tab := fun k => look k [(4, impl_goodDiffs.D4), (13, impl_goodDiffs.D13), (29, impl_goodDiffs.D29)]
def impl_goodDiffs.R : List (Nat × Ty) := [(0, .bool)]
def impl_goodDiffs.X : List ResultVar := [.tmp 2]
noncomputable def impl_goodDiffs.K := fin impl_goodDiffs.E ⟨impl_goodDiffs.P, impl_goodDiffs.R, fun _ _ => none⟩ impl_goodDiffs.X impl_goodDiffs.P.len 0
noncomputable def impl_goodDiffs.l4 (d : List (ByteArray × Int × List (Int × Int × List (Int × ByteArray)))) (t6 : List (ByteArray × Int × List (Int × Int × List (Int × ByteArray)))) (t7 : Int) (t8 : Int) : Option (Bool) := fixP impl_goodDiffs.E impl_goodDiffs.T impl_goodDiffs.C impl_goodDiffs.K 4 impl_goodDiffs.D4 (d, t6, t7, t8)
noncomputable def impl_goodDiffs.l13 (d : List (ByteArray × Int × List (Int × Int × List (Int × ByteArray)))) (x : ByteArray × Int × List (Int × Int × List (Int × ByteArray))) (t6 : List (ByteArray × Int × List (Int × Int × List (Int × ByteArray)))) (t7 : Int) (t8 : Int) : Option (Bool) := fixP impl_goodDiffs.E impl_goodDiffs.T impl_goodDiffs.C impl_goodDiffs.K 13 impl_goodDiffs.D13 (d, x, t6, t7, t8)
noncomputable def impl_goodDiffs.l29 (d : List (ByteArray × Int × List (Int × Int × List (Int × ByteArray)))) (ok : Bool) (t6 : List (ByteArray × Int × List (Int × Int × List (Int × ByteArray)))) (t7 : Int) (t8 : Int) : Option (Bool) := fixP impl_goodDiffs.E impl_goodDiffs.T impl_goodDiffs.C impl_goodDiffs.K 29 impl_goodDiffs.D29 (d, ok, t6, t7, t8)
noncomputable def impl_goodDiffs.f (d : List (ByteArray × Int × List (Int × Int × List (Int × ByteArray)))) : Option (Bool) := Fn impl_goodDiffs.E impl_goodDiffs.T impl_goodDiffs.C impl_goodDiffs.P impl_goodDiffs.R impl_goodDiffs.X d
theorem impl_goodDiffs.l4_eq (d : List (ByteArray × Int × List (Int × Int × List (Int × ByteArray)))) (t6 : List (ByteArray × Int × List (Int × Int × List (Int × ByteArray)))) (t7 : Int) (t8 : Int) : impl_goodDiffs.l4 d t6 t7 t8 =
  (bif (decide (t8 < t7)) then (bif ((decide (0 ≤ t8)) && (decide (t8 < (t6.length : Int)))) then ((impl_isName.f (t6.getD (t8).toNat (em, 0, ([] : List (Int × Int × List (Int × ByteArray))))).1).bind fun y1 =>
    bif (!y1) then (some false) else
    ((impl_goodGroups.f (t6.getD (t8).toNat (em, 0, ([] : List (Int × Int × List (Int × ByteArray))))).2.2).bind fun y2 =>
     bif (!y2) then (some false) else
     (bif (decide (t8 > 0)) then (bif ((decide (0 ≤ (w64 (t8 - 1)))) && (decide ((w64 (t8 - 1)) < (d.length : Int)))) then (bif ((Op.bytesLess (t6.getD (t8).toNat (em, 0, ([] : List (Int × Int × List (Int × ByteArray))))).1.toList (d.getD ((w64 (t8 - 1))).toNat (em, 0, ([] : List (Int × Int × List (Int × ByteArray))))).1.toList) || ((t6.getD (t8).toNat (em, 0, ([] : List (Int × Int × List (Int × ByteArray))))).1.toList == (d.getD ((w64 (t8 - 1))).toNat (em, 0, ([] : List (Int × Int × List (Int × ByteArray))))).1.toList)) then (some false) else
        (impl_goodDiffs.l13 d (t6.getD (t8).toNat (em, 0, ([] : List (Int × Int × List (Int × ByteArray))))) t6 t7 t8)) else none) else
      (impl_goodDiffs.l13 d (t6.getD (t8).toNat (em, 0, ([] : List (Int × Int × List (Int × ByteArray))))) t6 t7 t8)))) else none) else (some (decide ((d.length : Int) ≤ 16)))) :=
  (fixP_eq impl_goodDiffs.E impl_goodDiffs.T impl_goodDiffs.C impl_goodDiffs.K 4 impl_goodDiffs.D4 (d, t6, t7, t8)).trans (by kernel_rfl)
theorem impl_goodDiffs.l13_eq (d : List (ByteArray × Int × List (Int × Int × List (Int × ByteArray)))) (x : ByteArray × Int × List (Int × Int × List (Int × ByteArray))) (t6 : List (ByteArray × Int × List (Int × Int × List (Int × ByteArray)))) (t7 : Int) (t8 : Int) : impl_goodDiffs.l13 d x t6 t7 t8 =
  (bif (decide (x.2.1 = 1)) then ((impl_isAll.f x.2.2 3).bind fun y1 =>
   impl_goodDiffs.l29 d y1 t6 t7 t8) else
  (bif (decide (x.2.1 = 2)) then ((impl_isAll.f x.2.2 2).bind fun y1 =>
    impl_goodDiffs.l29 d y1 t6 t7 t8) else
   (bif (decide (x.2.1 = 3)) then (impl_goodDiffs.l29 d (decide ((x.2.2.length : Int) > 0)) t6 t7 t8) else
    (impl_goodDiffs.l29 d false t6 t7 t8)))) :=
  (fixP_eq impl_goodDiffs.E impl_goodDiffs.T impl_goodDiffs.C impl_goodDiffs.K 13 impl_goodDiffs.D13 (d, x, t6, t7, t8)).trans (by kernel_rfl)
theorem impl_goodDiffs.l29_eq (d : List (ByteArray × Int × List (Int × Int × List (Int × ByteArray)))) (ok : Bool) (t6 : List (ByteArray × Int × List (Int × Int × List (Int × ByteArray)))) (t7 : Int) (t8 : Int) : impl_goodDiffs.l29 d ok t6 t7 t8 =
  (bif (!ok) then (some false) else
  (impl_goodDiffs.l4 d t6 t7 (w64 (t8 + 1)))) :=
  (fixP_eq impl_goodDiffs.E impl_goodDiffs.T impl_goodDiffs.C impl_goodDiffs.K 29 impl_goodDiffs.D29 (d, ok, t6, t7, t8)).trans (by kernel_rfl)
theorem impl_goodDiffs.f_eq (d : List (ByteArray × Int × List (Int × Int × List (Int × ByteArray)))) : impl_goodDiffs.f d =
  (impl_goodDiffs.l4 d d (d.length : Int) 0) := by kernel_rfl
noncomputable def impl_goodDiffs.S : Abs.Sum := ⟨impl_goodDiffs.P, impl_goodDiffs.R, fun _ => Fn impl_goodDiffs.E impl_goodDiffs.T impl_goodDiffs.C impl_goodDiffs.P impl_goodDiffs.R impl_goodDiffs.X⟩
theorem impl_goodDiffs.meets : Meets Tryz.prog 13 impl_goodDiffs.S := meets_tab (S := impl_goodDiffs.U) tabOk_all (AllMeets.cons impl_isName.meets (AllMeets.cons impl_goodGroups.meets (AllMeets.cons impl_isAll.meets AllMeets.nil))) (AllStill.cons (fun _ _ _ => rfl) (AllStill.cons (fun _ _ _ => rfl) (AllStill.cons (fun _ _ _ => rfl) AllStill.nil))) follows (by kernel_rfl : Tryz.prog.funcs[13]? = some Tryz.f13) (by kernel_rfl) (by kernel_rfl) (by kernel_rfl)
noncomputable def impl_areNamed_1.C : Code := Tryz.f28.body.getD .skip
def impl_areNamed_1.P : Par := (.cons (.val (.pair .str (.pair (.int .i64) (.one (.list (.pair (.int .i64) (.pair (.int .i64) (.one (.list (.pair (.int .i64) (.one .str))))))))))) .nil)
noncomputable def impl_areNamed_1.U : SumTab := []
noncomputable def impl_areNamed_1.E : Env := mkEnv TY AR impl_areNamed_1.U
noncomputable def impl_areNamed_1.T : Tab := fun k => look k []
def impl_areNamed_1.R : List (Nat × Ty) := [(0, .bool)]
def impl_areNamed_1.X : List ResultVar := [.tmp 2]
noncomputable def impl_areNamed_1.f (x : ByteArray × Int × List (Int × Int × List (Int × ByteArray))) : Option (Bool) := Fn impl_areNamed_1.E impl_areNamed_1.T impl_areNamed_1.C impl_areNamed_1.P impl_areNamed_1.R impl_areNamed_1.X x
theorem impl_areNamed_1.f_eq (x : ByteArray × Int × List (Int × Int × List (Int × ByteArray))) : impl_areNamed_1.f x =
  (some (x.1.toList == (⟨#[110, 111, 110, 101]⟩ : ByteArray).toList)) := by kernel_rfl
noncomputable def impl_areNamed_1.S : Abs.Sum := ⟨impl_areNamed_1.P, impl_areNamed_1.R, fun _ => Fn impl_areNamed_1.E impl_areNamed_1.T impl_areNamed_1.C impl_areNamed_1.P impl_areNamed_1.R impl_areNamed_1.X⟩
theorem impl_areNamed_1.meets : Meets Tryz.prog 28 impl_areNamed_1.S := meets_tab (S := impl_areNamed_1.U) tabOk_all AllMeets.nil AllStill.nil follows (by kernel_rfl : Tryz.prog.funcs[28]? = some Tryz.f28) (by kernel_rfl) (by kernel_rfl) (by kernel_rfl)
noncomputable def slices_IndexFunc_Limpl_FileDiff_impl_FileDiff__impl_areNamed_1.C : Code := Tryz.f48.body.getD .skip
def slices_IndexFunc_Limpl_FileDiff_impl_FileDiff__impl_areNamed_1.P : Par := (.cons (.val (.list (.pair .str (.pair (.int .i64) (.one (.list (.pair (.int .i64) (.pair (.int .i64) (.one (.list (.pair (.int .i64) (.one .str)))))))))))) (.cons (.fn 28 .nil) .nil))
noncomputable def slices_IndexFunc_Limpl_FileDiff_impl_FileDiff__impl_areNamed_1.U : SumTab := [(28, [], impl_areNamed_1.S)]
noncomputable def slices_IndexFunc_Limpl_FileDiff_impl_FileDiff__impl_areNamed_1.E : Env := mkEnv TY AR slices_IndexFunc_Limpl_FileDiff_impl_FileDiff__impl_areNamed_1.U
def slices_IndexFunc_Limpl_FileDiff_impl_FileDiff__impl_areNamed_1.D4 : CutD := ⟨[0, 1, 7, 8], (.cons (.val (.list (.pair .str (.pair (.int .i64) (.one (.list (.pair (.int .i64) (.pair (.int .i64) (.one (.list (.pair (.int .i64) (.one .str)))))))))))) (.cons (.fn 28 .nil) (.cons (.val (.int .i64)) (.cons (.val (.int .i64)) .nil))))⟩
noncomputable def slices_IndexFunc_Limpl_FileDiff_impl_FileDiff__impl_areNamed_1.T : Tab := fun k => look k [(4, slices_IndexFunc_Limpl_FileDiff_impl_FileDiff__impl_areNamed_1.D4)]
def slices_IndexFunc_Limpl_FileDiff_impl_FileDiff__impl_areNamed_1.R : List (Nat × Ty) := [(0, .int .i64)]
def slices_IndexFunc_Limpl_FileDiff_impl_FileDiff__impl_areNamed_1.X : List ResultVar := [.tmp 4]
noncomputable def slices_IndexFunc_Limpl_FileDiff_impl_FileDiff__impl_areNamed_1.K := fin slices_IndexFunc_Limpl_FileDiff_impl_FileDiff__impl_areNamed_1.E ⟨slices_IndexFunc_Limpl_FileDiff_impl_FileDiff__impl_areNamed_1.P, slices_IndexFunc_Limpl_FileDiff_impl_FileDiff__impl_areNamed_1.R, fun _ _ => none⟩ slices_IndexFunc_Limpl_FileDiff_impl_FileDiff__impl_areNamed_1.X slices_IndexFunc_Limpl_FileDiff_impl_FileDiff__impl_areNamed_1.P.len 0
noncomputable def slices_IndexFunc_Limpl_FileDiff_impl_FileDiff__impl_areNamed_1.l4 (s : List (ByteArray × Int × List (Int × Int × List (Int × ByteArray)))) (t7 : Int) (t8 : Int) : Option (Int) := fixP slices_IndexFunc_Limpl_FileDiff_impl_FileDiff__impl_areNamed_1.E slices_IndexFunc_Limpl_FileDiff_impl_FileDiff__impl_areNamed_1.T slices_IndexFunc_Limpl_FileDiff_impl_FileDiff__impl_areNamed_1.C slices_IndexFunc_Limpl_FileDiff_impl_FileDiff__impl_areNamed_1.K 4 slices_IndexFunc_Limpl_FileDiff_impl_FileDiff__impl_areNamed_1.D4 (s, t7, t8)
noncomputable def slices_IndexFunc_Limpl_FileDiff_impl_FileDiff__impl_areNamed_1.f (s : List (ByteArray × Int × List (Int × Int × List (Int × ByteArray)))) : Option (Int) := Fn slices_IndexFunc_Limpl_FileDiff_impl_FileDiff__impl_areNamed_1.E slices_IndexFunc_Limpl_FileDiff_impl_FileDiff__impl_areNamed_1.T slices_IndexFunc_Limpl_FileDiff_impl_FileDiff__impl_areNamed_1.C slices_IndexFunc_Limpl_FileDiff_impl_FileDiff__impl_areNamed_1.P slices_IndexFunc_Limpl_FileDiff_impl_FileDiff__impl_areNamed_1.R slices_IndexFunc_Limpl_FileDiff_impl_FileDiff__impl_areNamed_1.X s
theorem slices_IndexFunc_Limpl_FileDiff_impl_FileDiff__impl_areNamed_1.l4_eq (s : List (ByteArray × Int × List (Int × Int × List (Int × ByteArray)))) (t7 : Int) (t8 : Int) : slices_IndexFunc_Limpl_FileDiff_impl_FileDiff__impl_areNamed_1.l4 s t7 t8 =
  (bif (decide (t8 < t7)) then (bif ((decide (0 ≤ t8)) && (decide (t8 < (s.length : Int)))) then ((impl_areNamed_1.f (s.getD (t8).toNat (em, 0, ([] : List (Int × Int × List (Int × ByteArray)))))).bind fun y1 =>
    bif y1 then (some t8) else
    (slices_IndexFunc_Limpl_FileDiff_impl_FileDiff__impl_areNamed_1.l4 s t7 (w64 (t8 + 1)))) else none) else (some (-1))) :=
  (fixP_eq slices_IndexFunc_Limpl_FileDiff_impl_FileDiff__impl_areNamed_1.E slices_IndexFunc_Limpl_FileDiff_impl_FileDiff__impl_areNamed_1.T slices_IndexFunc_Limpl_FileDiff_impl_FileDiff__impl_areNamed_1.C slices_IndexFunc_Limpl_FileDiff_impl_FileDiff__impl_areNamed_1.K 4 slices_IndexFunc_Limpl_FileDiff_impl_FileDiff__impl_areNamed_1.D4 (s, t7, t8)).trans (by kernel_rfl)
theorem slices_IndexFunc_Limpl_FileDiff_impl_FileDiff__impl_areNamed_1.f_eq (s : List (ByteArray × Int × List (Int × Int × List (Int × ByteArray)))) : slices_IndexFunc_Limpl_FileDiff_impl_FileDiff__impl_areNamed_1.f s =
  (slices_IndexFunc_Limpl_FileDiff_impl_FileDiff__impl_areNamed_1.l4 s (s.length : Int) 0) := by kernel_rfl
noncomputable def slices_IndexFunc_Limpl_FileDiff_impl_FileDiff__impl_areNamed_1.S : Abs.Sum := ⟨slices_IndexFunc_Limpl_FileDiff_impl_FileDiff__impl_areNamed_1.P, slices_IndexFunc_Limpl_FileDiff_impl_FileDiff__impl_areNamed_1.R, fun _ => Fn slices_IndexFunc_Limpl_FileDiff_impl_FileDiff__impl_areNamed_1.E slices_IndexFunc_Limpl_FileDiff_impl_FileDiff__impl_areNamed_1.T slices_IndexFunc_Limpl_FileDiff_impl_FileDiff__impl_areNamed_1.C slices_IndexFunc_Limpl_FileDiff_impl_FileDiff__impl_areNamed_1.P slices_IndexFunc_Limpl_FileDiff_impl_FileDiff__impl_areNamed_1.R slices_IndexFunc_Limpl_FileDiff_impl_FileDiff__impl_areNamed_1.X⟩
theorem slices_IndexFunc_Limpl_FileDiff_impl_FileDiff__impl_areNamed_1.meets : Meets Tryz.prog 48 slices_IndexFunc_Limpl_FileDiff_impl_FileDiff__impl_areNamed_1.S := meets_tab (S := slices_IndexFunc_Limpl_FileDiff_impl_FileDiff__impl_areNamed_1.U) tabOk_all (AllMeets.cons impl_areNamed_1.meets AllMeets.nil) (AllStill.cons (fun _ _ _ => rfl) AllStill.nil) follows (by kernel_rfl : Tryz.prog.funcs[48]? = some Tryz.f48) (by kernel_rfl) (by kernel_rfl) (by kernel_rfl)
noncomputable def slices_ContainsFunc_Limpl_FileDiff_impl_FileDiff__impl_areNamed_1.C : Code := Tryz.f27.body.getD .skip
def slices_ContainsFunc_Limpl_FileDiff_impl_FileDiff__impl_areNamed_1.P : Par := (.cons (.val (.list (.pair .str (.pair (.int .i64) (.one (.list (.pair (.int .i64) (.pair (.int .i64) (.one (.list (.pair (.int .i64) (.one .str)))))))))))) (.cons (.fn 28 .nil) .nil))
noncomputable def slices_ContainsFunc_Limpl_FileDiff_impl_FileDiff__impl_areNamed_1.U : SumTab := [(48, [28], slices_IndexFunc_Limpl_FileDiff_impl_FileDiff__impl_areNamed_1.S)]
noncomputable def slices_ContainsFunc_Limpl_FileDiff_impl_FileDiff__impl_areNamed_1.E : Env := mkEnv TY AR slices_ContainsFunc_Limpl_FileDiff_impl_FileDiff__impl_areNamed_1.U
noncomputable def slices_ContainsFunc_Limpl_FileDiff_impl_FileDiff__impl_areNamed_1.T : Tab := fun k => look k []
def slices_ContainsFunc_Limpl_FileDiff_impl_FileDiff__impl_areNamed_1.R : List (Nat × Ty) := [(0, .bool)]
def slices_ContainsFunc_Limpl_FileDiff_impl_FileDiff__impl_areNamed_1.X : List ResultVar := [.tmp 4]
noncomputable def slices_ContainsFunc_Limpl_FileDiff_impl_FileDiff__impl_areNamed_1.f (s : List (ByteArray × Int × List (Int × Int × List (Int × ByteArray)))) : Option (Bool) := Fn slices_ContainsFunc_Limpl_FileDiff_impl_FileDiff__impl_areNamed_1.E slices_ContainsFunc_Limpl_FileDiff_impl_FileDiff__impl_areNamed_1.T slices_ContainsFunc_Limpl_FileDiff_impl_FileDiff__impl_areNamed_1.C slices_ContainsFunc_Limpl_FileDiff_impl_FileDiff__impl_areNamed_1.P slices_ContainsFunc_Limpl_FileDiff_impl_FileDiff__impl_areNamed_1.R slices_ContainsFunc_Limpl_FileDiff_impl_FileDiff__impl_areNamed_1.X s
theorem slices_ContainsFunc_Limpl_FileDiff_impl_FileDiff__impl_areNamed_1.f_eq (s : List (ByteArray × Int × List (Int × Int × List (Int × ByteArray)))) : slices_ContainsFunc_Limpl_FileDiff_impl_FileDiff__impl_areNamed_1.f s =
  ((slices_IndexFunc_Limpl_FileDiff_impl_FileDiff__impl_areNamed_1.f s).bind fun y1 =>
  some (decide (y1 ≥ 0))) := by kernel_rfl
noncomputable def slices_ContainsFunc_Limpl_FileDiff_impl_FileDiff__impl_areNamed_1.S : Abs.Sum := ⟨slices_ContainsFunc_Limpl_FileDiff_impl_FileDiff__impl_areNamed_1.P, slices_ContainsFunc_Limpl_FileDiff_impl_FileDiff__impl_areNamed_1.R, fun _ => Fn slices_ContainsFunc_Limpl_FileDiff_impl_FileDiff__impl_areNamed_1.E slices_ContainsFunc_Limpl_FileDiff_impl_FileDiff__impl_areNamed_1.T slices_ContainsFunc_Limpl_FileDiff_impl_FileDiff__impl_areNamed_1.C slices_ContainsFunc_Limpl_FileDiff_impl_FileDiff__impl_areNamed_1.P slices_ContainsFunc_Limpl_FileDiff_impl_FileDiff__impl_areNamed_1.R slices_ContainsFunc_Limpl_FileDiff_impl_FileDiff__impl_areNamed_1.X⟩
theorem slices_ContainsFunc_Limpl_FileDiff_impl_FileDiff__impl_areNamed_1.meets : Meets Tryz.prog 27 slices_ContainsFunc_Limpl_FileDiff_impl_FileDiff__impl_areNamed_1.S := meets_tab (S := slices_ContainsFunc_Limpl_FileDiff_impl_FileDiff__impl_areNamed_1.U) tabOk_all (AllMeets.cons slices_IndexFunc_Limpl_FileDiff_impl_FileDiff__impl_areNamed_1.meets AllMeets.nil) (AllStill.cons (fun _ _ _ => rfl) AllStill.nil) follows (by kernel_rfl : Tryz.prog.funcs[27]? = some Tryz.f27) (by kernel_rfl) (by kernel_rfl) (by kernel_rfl)
noncomputable def impl_areNamed.C : Code := Tryz.f14.body.getD .skip
def impl_areNamed.P : Par := (.cons (.val (.list (.pair .str (.pair (.int .i64) (.one (.list (.pair (.int .i64) (.pair (.int .i64) (.one (.list (.pair (.int .i64) (.one .str)))))))))))) .nil)
noncomputable def impl_areNamed.U : SumTab := [(27, [28], slices_ContainsFunc_Limpl_FileDiff_impl_FileDiff__impl_areNamed_1.S)]
noncomputable def impl_areNamed.E : Env := mkEnv TY AR impl_areNamed.U
noncomputable def impl_areNamed.T : Tab := fun k => look k []
def impl_areNamed.R : List (Nat × Ty) := [(0, .bool)]
def impl_areNamed.X : List ResultVar := [.tmp 2]
noncomputable def impl_areNamed.f (d : List (ByteArray × Int × List (Int × Int × List (Int × ByteArray)))) : Option (Bool) := Fn impl_areNamed.E impl_areNamed.T impl_areNamed.C impl_areNamed.P impl_areNamed.R impl_areNamed.X d
theorem impl_areNamed.f_eq (d : List (ByteArray × Int × List (Int × Int × List (Int × ByteArray)))) : impl_areNamed.f d =
  ((slices_ContainsFunc_Limpl_FileDiff_impl_FileDiff__impl_areNamed_1.f d).bind fun y1 =>
  some (!y1)) := by kernel_rfl
noncomputable def impl_areNamed.S : Abs.Sum := ⟨impl_areNamed.P, impl_areNamed.R, fun _ => Fn impl_areNamed.E impl_areNamed.T impl_areNamed.C impl_areNamed.P impl_areNamed.R impl_areNamed.X⟩
theorem impl_areNamed.meets : Meets Tryz.prog 14 impl_areNamed.S := meets_tab (S := impl_areNamed.U) tabOk_all (AllMeets.cons slices_ContainsFunc_Limpl_FileDiff_impl_FileDiff__impl_areNamed_1.meets AllMeets.nil) (AllStill.cons (fun _ _ _ => rfl) AllStill.nil) follows (by kernel_rfl : Tryz.prog.funcs[14]? = some Tryz.f14) (by kernel_rfl) (by kernel_rfl) (by kernel_rfl)
noncomputable def impl_fileHead.C : Code := Tryz.f15.body.getD .skip
def impl_fileHead.P : Par := (.cons (.val (.pair .str (.pair (.int .i64) (.one (.list (.pair (.int .i64) (.pair (.int .i64) (.one (.list (.pair (.int .i64) (.one .str))))))))))) .nil)
noncomputable def impl_fileHead.U : SumTab := []
noncomputable def impl_fileHead.E : Env := mkEnv TY AR impl_fileHead.U
def impl_fileHead.D15 : CutD := ⟨[3, 4], (.cons (.val .str) (.cons (.val .str) .nil))⟩
noncomputable def impl_fileHead.T : Tab := fun k => look k [(15, impl_fileHead.D15)]
def impl_fileHead.R : List (Nat × Ty) := [(0, .str)]
def impl_fileHead.X : List ResultVar := [.tmp 2]
noncomputable def impl_fileHead.K := fin impl_fileHead.E ⟨impl_fileHead.P, impl_fileHead.R, fun _ _ => none⟩ impl_fileHead.X impl_fileHead.P.len 0
noncomputable def impl_fileHead.l15 (t3 : ByteArray) (fresh : ByteArray) : Option (ByteArray) := fixP impl_fileHead.E impl_fileHead.T impl_fileHead.C impl_fileHead.K 15 impl_fileHead.D15 (t3, fresh)
noncomputable def impl_fileHead.f (x : ByteArray × Int × List (Int × Int × List (Int × ByteArray))) : Option (ByteArray) := Fn impl_fileHead.E impl_fileHead.T impl_fileHead.C impl_fileHead.P impl_fileHead.R impl_fileHead.X x
theorem impl_fileHead.l15_eq (t3 : ByteArray) (fresh : ByteArray) : impl_fileHead.l15 t3 fresh =
  (bif (decide (((⟨#[45, 45, 45, 32]⟩ : ByteArray).size + t3.size) ≤ 9223372036854775807)) then (bif (decide ((((⟨#[45, 45, 45, 32]⟩ : ByteArray) ++ t3).size + (⟨#[10, 43, 43, 43, 32]⟩ : ByteArray).size) ≤ 9223372036854775807)) then (bif (decide (((((⟨#[45, 45, 45, 32]⟩ : ByteArray) ++ t3) ++ (⟨#[10, 43, 43, 43, 32]⟩ : ByteArray)).size + fresh.size) ≤ 9223372036854775807)) then (bif (decide ((((((⟨#[45, 45, 45, 32]⟩ : ByteArray) ++ t3) ++ (⟨#[10, 43, 43, 43, 32]⟩ : ByteArray)) ++ fresh).size + (⟨#[10]⟩ : ByteArray).size) ≤ 9223372036854775807)) then (some (((((⟨#[45, 45, 45, 32]⟩ : ByteArray) ++ t3) ++ (⟨#[10, 43, 43, 43, 32]⟩ : ByteArray)) ++ fresh) ++ (⟨#[10]⟩ : ByteArray))) else none) else none) else none) else none) :=
  (fixP_eq impl_fileHead.E impl_fileHead.T impl_fileHead.C impl_fileHead.K 15 impl_fileHead.D15 (t3, fresh)).trans (by kernel_rfl)
theorem impl_fileHead.f_eq (x : ByteArray × Int × List (Int × Int × List (Int × ByteArray))) : impl_fileHead.f x =
  (bif (decide (x.2.1 = 1)) then (impl_fileHead.l15 (⟨#[110, 111, 110, 101]⟩ : ByteArray) x.1) else
  (bif (decide (x.2.1 = 2)) then (impl_fileHead.l15 x.1 (⟨#[110, 111, 110, 101]⟩ : ByteArray)) else
   (impl_fileHead.l15 x.1 x.1))) := by kernel_rfl
noncomputable def impl_fileHead.S : Abs.Sum := ⟨impl_fileHead.P, impl_fileHead.R, fun _ => Fn impl_fileHead.E impl_fileHead.T impl_fileHead.C impl_fileHead.P impl_fileHead.R impl_fileHead.X⟩
theorem impl_fileHead.meets : Meets Tryz.prog 15 impl_fileHead.S := meets_tab (S := impl_fileHead.U) tabOk_all AllMeets.nil AllStill.nil follows (by kernel_rfl : Tryz.prog.funcs[15]? = some Tryz.f15) (by kernel_rfl) (by kernel_rfl) (by kernel_rfl)
noncomputable def impl_numberOf.C : Code := Tryz.f50.body.getD .skip
def impl_numberOf.P : Par := (.cons (.val (.int .i64)) (.cons (.val (.int .i64)) .nil))
noncomputable def impl_numberOf.U : SumTab := []
noncomputable def impl_numberOf.E : Env := mkEnv TY AR impl_numberOf.U
noncomputable def impl_numberOf.T : Tab := fun k => look k []
def impl_numberOf.R : List (Nat × Ty) := [(0, .int .i64)]
def impl_numberOf.X : List ResultVar := [.tmp 4]
noncomputable def impl_numberOf.f (t0 : Int) (many : Int) : Option (Int) := Fn impl_numberOf.E impl_numberOf.T impl_numberOf.C impl_numberOf.P impl_numberOf.R impl_numberOf.X (t0, many)
theorem impl_numberOf.f_eq (t0 : Int) (many : Int) : impl_numberOf.f t0 many =
  (bif (decide (many > 0)) then (some (w64 (t0 + 1))) else (some t0)) := by kernel_rfl
noncomputable def impl_numberOf.S : Abs.Sum := ⟨impl_numberOf.P, impl_numberOf.R, fun _ => Fn impl_numberOf.E impl_numberOf.T impl_numberOf.C impl_numberOf.P impl_numberOf.R impl_numberOf.X⟩
theorem impl_numberOf.meets : Meets Tryz.prog 50 impl_numberOf.S := meets_tab (S := impl_numberOf.U) tabOk_all AllMeets.nil AllStill.nil follows (by kernel_rfl : Tryz.prog.funcs[50]? = some Tryz.f50) (by kernel_rfl) (by kernel_rfl) (by kernel_rfl)
noncomputable def impl_countOf.C : Code := Tryz.f30.body.getD .skip
def impl_countOf.P : Par := (.cons (.val (.int .i64)) (.cons (.val (.int .i64)) .nil))
noncomputable def impl_countOf.U : SumTab := [(50, [], impl_numberOf.S), (49, [], strconv_Itoa.S)]
noncomputable def impl_countOf.E : Env := mkEnv TY AR impl_countOf.U
noncomputable def impl_countOf.T : Tab := fun k => look k []
def impl_countOf.R : List (Nat × Ty) := [(0, .str)]
def impl_countOf.X : List ResultVar := [.tmp 4]
noncomputable def impl_countOf.f (t0 : Int) (many : Int) : Option (ByteArray) := Fn impl_countOf.E impl_countOf.T impl_countOf.C impl_countOf.P impl_countOf.R impl_countOf.X (t0, many)
theorem impl_countOf.f_eq (t0 : Int) (many : Int) : impl_countOf.f t0 many =
  ((impl_numberOf.f t0 many).bind fun y1 =>
  (strconv_Itoa.f y1).bind fun y2 =>
  bif (!(decide (many = 1))) then ((strconv_Itoa.f many).bind fun y3 =>
   bif (decide (((⟨#[44]⟩ : ByteArray).size + y3.size) ≤ 9223372036854775807)) then (bif (decide ((y2.size + ((⟨#[44]⟩ : ByteArray) ++ y3).size) ≤ 9223372036854775807)) then (some (y2 ++ ((⟨#[44]⟩ : ByteArray) ++ y3))) else none) else none) else (some y2)) := by kernel_rfl
noncomputable def impl_countOf.S : Abs.Sum := ⟨impl_countOf.P, impl_countOf.R, fun _ => Fn impl_countOf.E impl_countOf.T impl_countOf.C impl_countOf.P impl_countOf.R impl_countOf.X⟩
theorem impl_countOf.meets : Meets Tryz.prog 30 impl_countOf.S := meets_tab (S := impl_countOf.U) tabOk_all (AllMeets.cons impl_numberOf.meets (AllMeets.cons strconv_Itoa.meets AllMeets.nil)) (AllStill.cons (fun _ _ _ => rfl) (AllStill.cons (fun _ _ _ => rfl) AllStill.nil)) follows (by kernel_rfl : Tryz.prog.funcs[30]? = some Tryz.f30) (by kernel_rfl) (by kernel_rfl) (by kernel_rfl)
noncomputable def impl_headText.C : Code := Tryz.f29.body.getD .skip
def impl_headText.P : Par := (.cons (.val .str) (.cons (.val .str) .nil))
noncomputable def impl_headText.U : SumTab := []
noncomputable def impl_headText.E : Env := mkEnv TY AR impl_headText.U
noncomputable def impl_headText.T : Tab := fun k => look k []
def impl_headText.R : List (Nat × Ty) := [(0, .str)]
def impl_headText.X : List ResultVar := [.tmp 4]
noncomputable def impl_headText.f (t0 : ByteArray) (fresh : ByteArray) : Option (ByteArray) := Fn impl_headText.E impl_headText.T impl_headText.C impl_headText.P impl_headText.R impl_headText.X (t0, fresh)
theorem impl_headText.f_eq (t0 : ByteArray) (fresh : ByteArray) : impl_headText.f t0 fresh =
  (bif (decide (((⟨#[64, 64, 32, 45]⟩ : ByteArray).size + t0.size) ≤ 9223372036854775807)) then (bif (decide ((((⟨#[64, 64, 32, 45]⟩ : ByteArray) ++ t0).size + (⟨#[32, 43]⟩ : ByteArray).size) ≤ 9223372036854775807)) then (bif (decide (((((⟨#[64, 64, 32, 45]⟩ : ByteArray) ++ t0) ++ (⟨#[32, 43]⟩ : ByteArray)).size + fresh.size) ≤ 9223372036854775807)) then (bif (decide ((((((⟨#[64, 64, 32, 45]⟩ : ByteArray) ++ t0) ++ (⟨#[32, 43]⟩ : ByteArray)) ++ fresh).size + (⟨#[32, 64, 64, 10]⟩ : ByteArray).size) ≤ 9223372036854775807)) then (some (((((⟨#[64, 64, 32, 45]⟩ : ByteArray) ++ t0) ++ (⟨#[32, 43]⟩ : ByteArray)) ++ fresh) ++ (⟨#[32, 64, 64, 10]⟩ : ByteArray))) else none) else none) else none) else none) := by kernel_rfl
noncomputable def impl_headText.S : Abs.Sum := ⟨impl_headText.P, impl_headText.R, fun _ => Fn impl_headText.E impl_headText.T impl_headText.C impl_headText.P impl_headText.R impl_headText.X⟩
theorem impl_headText.meets : Meets Tryz.prog 29 impl_headText.S := meets_tab (S := impl_headText.U) tabOk_all AllMeets.nil AllStill.nil follows (by kernel_rfl : Tryz.prog.funcs[29]? = some Tryz.f29) (by kernel_rfl) (by kernel_rfl) (by kernel_rfl)
noncomputable def impl_Row_sign.C : Code := Tryz.f53.body.getD .skip
def impl_Row_sign.P : Par := (.cons (.val (.pair (.int .i64) (.one .str))) .nil)
noncomputable def impl_Row_sign.U : SumTab := []
noncomputable def impl_Row_sign.E : Env := mkEnv TY AR impl_Row_sign.U
noncomputable def impl_Row_sign.T : Tab := fun k => look k []
def impl_Row_sign.R : List (Nat × Ty) := [(0, .str)]
def impl_Row_sign.X : List ResultVar := [.tmp 2]
noncomputable def impl_Row_sign.f (r : Int × ByteArray) : Option (ByteArray) := Fn impl_Row_sign.E impl_Row_sign.T impl_Row_sign.C impl_Row_sign.P impl_Row_sign.R impl_Row_sign.X r
theorem impl_Row_sign.f_eq (r : Int × ByteArray) : impl_Row_sign.f r =
  (bif ((decide (0 ≤ r.1)) && ((decide (r.1 ≤ (w64 (r.1 + 1)))) && (decide ((w64 (r.1 + 1)) ≤ 4)))) then (some ((⟨#[63, 32, 45, 43]⟩ : ByteArray).extract (r.1).toNat ((w64 (r.1 + 1))).toNat)) else none) := by kernel_rfl
noncomputable def impl_Row_sign.S : Abs.Sum := ⟨impl_Row_sign.P, impl_Row_sign.R, fun _ => Fn impl_Row_sign.E impl_Row_sign.T impl_Row_sign.C impl_Row_sign.P impl_Row_sign.R impl_Row_sign.X⟩
theorem impl_Row_sign.meets : Meets Tryz.prog 53 impl_Row_sign.S := meets_tab (S := impl_Row_sign.U) tabOk_all AllMeets.nil AllStill.nil follows (by kernel_rfl : Tryz.prog.funcs[53]? = some Tryz.f53) (by kernel_rfl) (by kernel_rfl) (by kernel_rfl)
noncomputable def impl_shown.C : Code := Tryz.f52.body.getD .skip
def impl_shown.P : Par := (.cons (.val .str) (.cons (.val .str) .nil))
noncomputable def impl_shown.U : SumTab := [(74, [], impl_isEnded.S)]
noncomputable def impl_shown.E : Env := mkEnv TY AR impl_shown.U
noncomputable def impl_shown.T : Tab := fun k => look k []
def impl_shown.R : List (Nat × Ty) := [(0, .str)]
def impl_shown.X : List ResultVar := [.tmp 4]
noncomputable def impl_shown.f (sign : ByteArray) (line : ByteArray) : Option (ByteArray) := Fn impl_shown.E impl_shown.T impl_shown.C impl_shown.P impl_shown.R impl_shown.X (sign, line)
theorem impl_shown.f_eq (sign : ByteArray) (line : ByteArray) : impl_shown.f sign line =
  ((impl_isEnded.f line).bind fun y1 =>
  bif y1 then (bif (decide ((sign.size + line.size) ≤ 9223372036854775807)) then (some (sign ++ line)) else none) else
  (bif (decide ((sign.size + line.size) ≤ 9223372036854775807)) then (bif (decide (((sign ++ line).size + (⟨#[10]⟩ : ByteArray).size) ≤ 9223372036854775807)) then (bif (decide ((((sign ++ line) ++ (⟨#[10]⟩ : ByteArray)).size + (⟨#[92, 32, 110, 111, 110, 101, 10]⟩ : ByteArray).size) ≤ 9223372036854775807)) then (some (((sign ++ line) ++ (⟨#[10]⟩ : ByteArray)) ++ (⟨#[92, 32, 110, 111, 110, 101, 10]⟩ : ByteArray))) else none) else none) else none)) := by kernel_rfl
noncomputable def impl_shown.S : Abs.Sum := ⟨impl_shown.P, impl_shown.R, fun _ => Fn impl_shown.E impl_shown.T impl_shown.C impl_shown.P impl_shown.R impl_shown.X⟩
theorem impl_shown.meets : Meets Tryz.prog 52 impl_shown.S := meets_tab (S := impl_shown.U) tabOk_all (AllMeets.cons impl_isEnded.meets AllMeets.nil) (AllStill.cons (fun _ _ _ => rfl) AllStill.nil) follows (by kernel_rfl : Tryz.prog.funcs[52]? = some Tryz.f52) (by kernel_rfl) (by kernel_rfl) (by kernel_rfl)
noncomputable def impl_rowsText.C : Code := Tryz.f33.body.getD .skip
def impl_rowsText.P : Par := (.cons (.val (.list (.pair (.int .i64) (.one .str)))) .nil)
noncomputable def impl_rowsText.U : SumTab := [(53, [], impl_Row_sign.S), (52, [], impl_shown.S)]
noncomputable def impl_rowsText.E : Env := mkEnv TY AR impl_rowsText.U
def impl_rowsText.D6 : CutD := ⟨[3, 6, 7, 8], (.cons (.val .str) (.cons (.val (.list (.pair (.int .i64) (.one .str)))) (.cons (.val (.int .i64)) (.cons (.val (.int .i64)) .nil))))⟩
noncomputable def impl_rowsText.T : Tab := fun k => look k [(6, impl_rowsText.D6)]
def impl_rowsText.R : List (Nat × Ty) := [(0, .str)]
def impl_rowsText.X : List ResultVar := [.tmp 2]
noncomputable def impl_rowsText.K := fin impl_rowsText.E ⟨impl_rowsText.P, impl_rowsText.R, fun _ _ => none⟩ impl_rowsText.X impl_rowsText.P.len 0
noncomputable def impl_rowsText.l6 (out : ByteArray) (t6 : List (Int × ByteArray)) (t7 : Int) (t8 : Int) : Option (ByteArray) := fixP impl_rowsText.E impl_rowsText.T impl_rowsText.C impl_rowsText.K 6 impl_rowsText.D6 (out, t6, t7, t8)
noncomputable def impl_rowsText.f (rows : List (Int × ByteArray)) : Option (ByteArray) := Fn impl_rowsText.E impl_rowsText.T impl_rowsText.C impl_rowsText.P impl_rowsText.R impl_rowsText.X rows
theorem impl_rowsText.l6_eq (out : ByteArray) (t6 : List (Int × ByteArray)) (t7 : Int) (t8 : Int) : impl_rowsText.l6 out t6 t7 t8 =
  (bif (decide (t8 < t7)) then (bif ((decide (0 ≤ t8)) && (decide (t8 < (t6.length : Int)))) then ((impl_Row_sign.f (t6.getD (t8).toNat (0, em))).bind fun y1 =>
    (impl_shown.f y1 (t6.getD (t8).toNat (0, em)).2).bind fun y2 =>
    bif (decide ((out.size + y2.size) ≤ 9223372036854775807)) then (impl_rowsText.l6 (out ++ y2) t6 t7 (w64 (t8 + 1))) else none) else none) else (some out)) :=
  (fixP_eq impl_rowsText.E impl_rowsText.T impl_rowsText.C impl_rowsText.K 6 impl_rowsText.D6 (out, t6, t7, t8)).trans (by kernel_rfl)
theorem impl_rowsText.f_eq (rows : List (Int × ByteArray)) : impl_rowsText.f rows =
  (impl_rowsText.l6 em rows (rows.length : Int) 0) := by kernel_rfl
noncomputable def impl_rowsText.S : Abs.Sum := ⟨impl_rowsText.P, impl_rowsText.R, fun _ => Fn impl_rowsText.E impl_rowsText.T impl_rowsText.C impl_rowsText.P impl_rowsText.R impl_rowsText.X⟩
theorem impl_rowsText.meets : Meets Tryz.prog 33 impl_rowsText.S := meets_tab (S := impl_rowsText.U) tabOk_all (AllMeets.cons impl_Row_sign.meets (AllMeets.cons impl_shown.meets AllMeets.nil)) (AllStill.cons (fun _ _ _ => rfl) (AllStill.cons (fun _ _ _ => rfl) AllStill.nil)) follows (by kernel_rfl : Tryz.prog.funcs[33]? = some Tryz.f33) (by kernel_rfl) (by kernel_rfl) (by kernel_rfl)
noncomputable def impl_groupsText.C : Code := Tryz.f16.body.getD .skip
def impl_groupsText.P : Par := (.cons (.val (.list (.pair (.int .i64) (.pair (.int .i64) (.one (.list (.pair (.int .i64) (.one .str)))))))) .nil)
noncomputable def impl_groupsText.U : SumTab := [(31, [], impl_Group_old.S), (30, [], impl_countOf.S), (32, [], impl_Group_fresh.S), (29, [], impl_headText.S), (33, [], impl_rowsText.S)]
noncomputable def impl_groupsText.E : Env := mkEnv TY AR impl_groupsText.U
def impl_groupsText.D6 : CutD := ⟨[3, 6, 7, 8], (.cons (.val .str) (.cons (.val (.list (.pair (.int .i64) (.pair (.int .i64) (.one (.list (.pair (.int .i64) (.one .str)))))))) (.cons (.val (.int .i64)) (.cons (.val (.int .i64)) .nil))))⟩
noncomputable def impl_groupsText.T : Tab := fun k => look k [(6, impl_groupsText.D6)]
def impl_groupsText.R : List (Nat × Ty) := [(0, .str)]
def impl_groupsText.X : List ResultVar := [.tmp 2]
noncomputable def impl_groupsText.K := fin impl_groupsText.E ⟨impl_groupsText.P, impl_groupsText.R, fun _ _ => none⟩ impl_groupsText.X impl_groupsText.P.len 0
noncomputable def impl_groupsText.l6 (out : ByteArray) (t6 : List (Int × Int × List (Int × ByteArray))) (t7 : Int) (t8 : Int) : Option (ByteArray) := fixP impl_groupsText.E impl_groupsText.T impl_groupsText.C impl_groupsText.K 6 impl_groupsText.D6 (out, t6, t7, t8)
noncomputable def impl_groupsText.f (g : List (Int × Int × List (Int × ByteArray))) : Option (ByteArray) := Fn impl_groupsText.E impl_groupsText.T impl_groupsText.C impl_groupsText.P impl_groupsText.R impl_groupsText.X g
theorem impl_groupsText.l6_eq (out : ByteArray) (t6 : List (Int × Int × List (Int × ByteArray))) (t7 : Int) (t8 : Int) : impl_groupsText.l6 out t6 t7 t8 =
  (bif (decide (t8 < t7)) then (bif ((decide (0 ≤ t8)) && (decide (t8 < (t6.length : Int)))) then ((impl_Group_old.f (t6.getD (t8).toNat (0, 0, ([] : List (Int × ByteArray))))).bind fun y1 =>
    (impl_countOf.f (t6.getD (t8).toNat (0, 0, ([] : List (Int × ByteArray)))).1 (y1.length : Int)).bind fun y2 =>
    (impl_Group_fresh.f (t6.getD (t8).toNat (0, 0, ([] : List (Int × ByteArray))))).bind fun y3 =>
    (impl_countOf.f (t6.getD (t8).toNat (0, 0, ([] : List (Int × ByteArray)))).2.1 (y3.length : Int)).bind fun y4 =>
    (impl_headText.f y2 y4).bind fun y5 =>
    (impl_rowsText.f (t6.getD (t8).toNat (0, 0, ([] : List (Int × ByteArray)))).2.2).bind fun y6 =>
    bif (decide ((y5.size + y6.size) ≤ 9223372036854775807)) then (bif (decide ((out.size + (y5 ++ y6).size) ≤ 9223372036854775807)) then (impl_groupsText.l6 (out ++ (y5 ++ y6)) t6 t7 (w64 (t8 + 1))) else none) else none) else none) else (some out)) :=
  (fixP_eq impl_groupsText.E impl_groupsText.T impl_groupsText.C impl_groupsText.K 6 impl_groupsText.D6 (out, t6, t7, t8)).trans (by kernel_rfl)
theorem impl_groupsText.f_eq (g : List (Int × Int × List (Int × ByteArray))) : impl_groupsText.f g =
  (impl_groupsText.l6 em g (g.length : Int) 0) := by kernel_rfl
noncomputable def impl_groupsText.S : Abs.Sum := ⟨impl_groupsText.P, impl_groupsText.R, fun _ => Fn impl_groupsText.E impl_groupsText.T impl_groupsText.C impl_groupsText.P impl_groupsText.R impl_groupsText.X⟩
theorem impl_groupsText.meets : Meets Tryz.prog 16 impl_groupsText.S := meets_tab (S := impl_groupsText.U) tabOk_all (AllMeets.cons impl_Group_old.meets (AllMeets.cons impl_countOf.meets (AllMeets.cons impl_Group_fresh.meets (AllMeets.cons impl_headText.meets (AllMeets.cons impl_rowsText.meets AllMeets.nil))))) (AllStill.cons (fun _ _ _ => rfl) (AllStill.cons (fun _ _ _ => rfl) (AllStill.cons (fun _ _ _ => rfl) (AllStill.cons (fun _ _ _ => rfl) (AllStill.cons (fun _ _ _ => rfl) AllStill.nil))))) follows (by kernel_rfl : Tryz.prog.funcs[16]? = some Tryz.f16) (by kernel_rfl) (by kernel_rfl) (by kernel_rfl)
noncomputable def impl_short.C : Code := Tryz.f17.body.getD .skip
def impl_short.P : Par := (.cons (.val .str) .nil)
noncomputable def impl_short.U : SumTab := []
noncomputable def impl_short.E : Env := mkEnv TY AR impl_short.U
noncomputable def impl_short.T : Tab := fun k => look k []
def impl_short.R : List (Nat × Ty) := [(0, .str), (0, .bool)]
def impl_short.X : List ResultVar := [.tmp 2, .tmp 3]
noncomputable def impl_short.f (s : ByteArray) : Option (ByteArray × Bool) := Fn impl_short.E impl_short.T impl_short.C impl_short.P impl_short.R impl_short.X s
theorem impl_short.f_eq (s : ByteArray) : impl_short.f s =
  (bif (decide ((s.size : Int) > 3000)) then (some (em, false)) else (some (s, true))) := by kernel_rfl
noncomputable def impl_short.S : Abs.Sum := ⟨impl_short.P, impl_short.R, fun _ => Fn impl_short.E impl_short.T impl_short.C impl_short.P impl_short.R impl_short.X⟩
theorem impl_short.meets : Meets Tryz.prog 17 impl_short.S := meets_tab (S := impl_short.U) tabOk_all AllMeets.nil AllStill.nil follows (by kernel_rfl : Tryz.prog.funcs[17]? = some Tryz.f17) (by kernel_rfl) (by kernel_rfl) (by kernel_rfl)
noncomputable def impl_FilesText.C : Code := Tryz.f7.body.getD .skip
def impl_FilesText.P : Par := (.cons (.val (.list (.pair .str (.pair (.int .i64) (.one (.list (.pair (.int .i64) (.pair (.int .i64) (.one (.list (.pair (.int .i64) (.one .str)))))))))))) .nil)
noncomputable def impl_FilesText.U : SumTab := [(13, [], impl_goodDiffs.S), (14, [], impl_areNamed.S), (15, [], impl_fileHead.S), (16, [], impl_groupsText.S), (17, [], impl_short.S)]
noncomputable def impl_FilesText.E : Env := mkEnv TY AR impl_FilesText.U
def impl_FilesText.D7 : CutD := ⟨[0], (.cons (.val (.list (.pair .str (.pair (.int .i64) (.one (.list (.pair (.int .i64) (.pair (.int .i64) (.one (.list (.pair (.int .i64) (.one .str)))))))))))) .nil)⟩
def impl_FilesText.D10 : CutD := ⟨[4, 15, 16, 17], (.cons (.val .str) (.cons (.val (.list (.pair .str (.pair (.int .i64) (.one (.list (.pair (.int .i64) (.pair (.int .i64) (.one (.list (.pair (.int .i64) (.one .str)))))))))))) (.cons (.val (.int .i64)) (.cons (.val (.int .i64)) .nil))))⟩
noncomputable def impl_FilesText.T : Tab := fun k => look k [(7, impl_FilesText.D7), (10, impl_FilesText.D10)]
def impl_FilesText.R : List (Nat × Ty) := [(0, .str), (0, .bool)]
def impl_FilesText.X : List ResultVar := [.tmp 2, .tmp 3]
noncomputable def impl_FilesText.K := fin impl_FilesText.E ⟨impl_FilesText.P, impl_FilesText.R, fun _ _ => none⟩ impl_FilesText.X impl_FilesText.P.len 0
noncomputable def impl_FilesText.l7 (d : List (ByteArray × Int × List (Int × Int × List (Int × ByteArray)))) : Option (ByteArray × Bool) := fixP impl_FilesText.E impl_FilesText.T impl_FilesText.C impl_FilesText.K 7 impl_FilesText.D7 d
noncomputable def impl_FilesText.l10 (out : ByteArray) (t15 : List (ByteArray × Int × List (Int × Int × List (Int × ByteArray)))) (t16 : Int) (t17 : Int) : Option (ByteArray × Bool) := fixP impl_FilesText.E impl_FilesText.T impl_FilesText.C impl_FilesText.K 10 impl_FilesText.D10 (out, t15, t16, t17)
noncomputable def impl_FilesText.f (d : List (ByteArray × Int × List (Int × Int × List (Int × ByteArray)))) : Option (ByteArray × Bool) := Fn impl_FilesText.E impl_FilesText.T impl_FilesText.C impl_FilesText.P impl_FilesText.R impl_FilesText.X d
theorem impl_FilesText.l7_eq (d : List (ByteArray × Int × List (Int × Int × List (Int × ByteArray)))) : impl_FilesText.l7 d =
  (impl_FilesText.l10 em d (d.length : Int) 0) :=
  (fixP_eq impl_FilesText.E impl_FilesText.T impl_FilesText.C impl_FilesText.K 7 impl_FilesText.D7 d).trans (by kernel_rfl)
theorem impl_FilesText.l10_eq (out : ByteArray) (t15 : List (ByteArray × Int × List (Int × Int × List (Int × ByteArray)))) (t16 : Int) (t17 : Int) : impl_FilesText.l10 out t15 t16 t17 =
  (bif (decide (t17 < t16)) then (bif ((decide (0 ≤ t17)) && (decide (t17 < (t15.length : Int)))) then ((impl_fileHead.f (t15.getD (t17).toNat (em, 0, ([] : List (Int × Int × List (Int × ByteArray)))))).bind fun y1 =>
    (impl_groupsText.f (t15.getD (t17).toNat (em, 0, ([] : List (Int × Int × List (Int × ByteArray))))).2.2).bind fun y2 =>
    bif (decide ((y1.size + y2.size) ≤ 9223372036854775807)) then (bif (decide ((out.size + (y1 ++ y2).size) ≤ 9223372036854775807)) then (impl_FilesText.l10 (out ++ (y1 ++ y2)) t15 t16 (w64 (t17 + 1))) else none) else none) else none) else
  ((impl_short.f out).bind fun y1 =>
   some (y1.1, y1.2))) :=
  (fixP_eq impl_FilesText.E impl_FilesText.T impl_FilesText.C impl_FilesText.K 10 impl_FilesText.D10 (out, t15, t16, t17)).trans (by kernel_rfl)
theorem impl_FilesText.f_eq (d : List (ByteArray × Int × List (Int × Int × List (Int × ByteArray)))) : impl_FilesText.f d =
  ((impl_goodDiffs.f d).bind fun y1 =>
  bif (!y1) then (some (em, false)) else
  ((impl_areNamed.f d).bind fun y2 =>
   bif (!y2) then (some (em, false)) else
   (impl_FilesText.l7 d))) := by kernel_rfl
noncomputable def impl_FilesText.S : Abs.Sum := ⟨impl_FilesText.P, impl_FilesText.R, fun _ => Fn impl_FilesText.E impl_FilesText.T impl_FilesText.C impl_FilesText.P impl_FilesText.R impl_FilesText.X⟩
theorem impl_FilesText.meets : Meets Tryz.prog 7 impl_FilesText.S := meets_tab (S := impl_FilesText.U) tabOk_all (AllMeets.cons impl_goodDiffs.meets (AllMeets.cons impl_areNamed.meets (AllMeets.cons impl_fileHead.meets (AllMeets.cons impl_groupsText.meets (AllMeets.cons impl_short.meets AllMeets.nil))))) (AllStill.cons (fun _ _ _ => rfl) (AllStill.cons (fun _ _ _ => rfl) (AllStill.cons (fun _ _ _ => rfl) (AllStill.cons (fun _ _ _ => rfl) (AllStill.cons (fun _ _ _ => rfl) AllStill.nil))))) follows (by kernel_rfl : Tryz.prog.funcs[7]? = some Tryz.f7) (by kernel_rfl) (by kernel_rfl) (by kernel_rfl)
noncomputable def laws_eqRow.C : Code := Tryz.f88.body.getD .skip
def laws_eqRow.P : Par := (.cons (.val (.pair (.int .i64) (.one .str))) (.cons (.val (.pair (.int .i64) (.one .str))) .nil))
noncomputable def laws_eqRow.U : SumTab := []
noncomputable def laws_eqRow.E : Env := mkEnv TY AR laws_eqRow.U
noncomputable def laws_eqRow.T : Tab := fun k => look k []
def laws_eqRow.R : List (Nat × Ty) := [(0, .bool)]
def laws_eqRow.X : List ResultVar := [.tmp 4]
noncomputable def laws_eqRow.f (a : Int × ByteArray) (b : Int × ByteArray) : Option (Bool) := Fn laws_eqRow.E laws_eqRow.T laws_eqRow.C laws_eqRow.P laws_eqRow.R laws_eqRow.X (a, b)
theorem laws_eqRow.f_eq (a : Int × ByteArray) (b : Int × ByteArray) : laws_eqRow.f a b =
  (bif (!(decide (a.1 = b.1))) then (some false) else
  (bif (!(a.2.toList == b.2.toList)) then (some false) else (some true))) := by kernel_rfl
noncomputable def laws_eqRow.S : Abs.Sum := ⟨laws_eqRow.P, laws_eqRow.R, fun _ => Fn laws_eqRow.E laws_eqRow.T laws_eqRow.C laws_eqRow.P laws_eqRow.R laws_eqRow.X⟩
theorem laws_eqRow.meets : Meets Tryz.prog 88 laws_eqRow.S := meets_tab (S := laws_eqRow.U) tabOk_all AllMeets.nil AllStill.nil follows (by kernel_rfl : Tryz.prog.funcs[88]? = some Tryz.f88) (by kernel_rfl) (by kernel_rfl) (by kernel_rfl)
noncomputable def laws_eqRowS.C : Code := Tryz.f75.body.getD .skip
def laws_eqRowS.P : Par := (.cons (.val (.list (.pair (.int .i64) (.one .str)))) (.cons (.val (.list (.pair (.int .i64) (.one .str)))) .nil))
noncomputable def laws_eqRowS.U : SumTab := [(88, [], laws_eqRow.S)]
noncomputable def laws_eqRowS.E : Env := mkEnv TY AR laws_eqRowS.U
def laws_eqRowS.D8 : CutD := ⟨[0, 1, 5], (.cons (.val (.list (.pair (.int .i64) (.one .str)))) (.cons (.val (.list (.pair (.int .i64) (.one .str)))) (.cons (.val (.int .i64)) .nil)))⟩
noncomputable def laws_eqRowS.T : Tab := fun k => look k [(8, laws_eqRowS.D8)]
def laws_eqRowS.R : List (Nat × Ty) := [(0, .bool)]
def laws_eqRowS.X : List ResultVar := [.tmp 4]
noncomputable def laws_eqRowS.K := fin laws_eqRowS.E ⟨laws_eqRowS.P, laws_eqRowS.R, fun _ _ => none⟩ laws_eqRowS.X laws_eqRowS.P.len 0
noncomputable def laws_eqRowS.l8 (a : List (Int × ByteArray)) (b : List (Int × ByteArray)) (i : Int) : Option (Bool) := fixP laws_eqRowS.E laws_eqRowS.T laws_eqRowS.C laws_eqRowS.K 8 laws_eqRowS.D8 (a, b, i)
noncomputable def laws_eqRowS.f (a : List (Int × ByteArray)) (b : List (Int × ByteArray)) : Option (Bool) := Fn laws_eqRowS.E laws_eqRowS.T laws_eqRowS.C laws_eqRowS.P laws_eqRowS.R laws_eqRowS.X (a, b)
theorem laws_eqRowS.l8_eq (a : List (Int × ByteArray)) (b : List (Int × ByteArray)) (i : Int) : laws_eqRowS.l8 a b i =
  (bif (decide (i < (a.length : Int))) then (bif ((decide (0 ≤ i)) && (decide (i < (a.length : Int)))) then (bif ((decide (0 ≤ i)) && (decide (i < (b.length : Int)))) then ((laws_eqRow.f (a.getD (i).toNat (0, em)) (b.getD (i).toNat (0, em))).bind fun y1 =>
     bif (!y1) then (some false) else
     (laws_eqRowS.l8 a b (w64 (i + 1)))) else none) else none) else (some true)) :=
  (fixP_eq laws_eqRowS.E laws_eqRowS.T laws_eqRowS.C laws_eqRowS.K 8 laws_eqRowS.D8 (a, b, i)).trans (by kernel_rfl)
theorem laws_eqRowS.f_eq (a : List (Int × ByteArray)) (b : List (Int × ByteArray)) : laws_eqRowS.f a b =
  (bif (!(decide ((a.length : Int) = (b.length : Int)))) then (some false) else
  (laws_eqRowS.l8 a b 0)) := by kernel_rfl
noncomputable def laws_eqRowS.S : Abs.Sum := ⟨laws_eqRowS.P, laws_eqRowS.R, fun _ => Fn laws_eqRowS.E laws_eqRowS.T laws_eqRowS.C laws_eqRowS.P laws_eqRowS.R laws_eqRowS.X⟩
theorem laws_eqRowS.meets : Meets Tryz.prog 75 laws_eqRowS.S := meets_tab (S := laws_eqRowS.U) tabOk_all (AllMeets.cons laws_eqRow.meets AllMeets.nil) (AllStill.cons (fun _ _ _ => rfl) AllStill.nil) follows (by kernel_rfl : Tryz.prog.funcs[75]? = some Tryz.f75) (by kernel_rfl) (by kernel_rfl) (by kernel_rfl)
noncomputable def laws_eqGroup.C : Code := Tryz.f54.body.getD .skip
def laws_eqGroup.P : Par := (.cons (.val (.pair (.int .i64) (.pair (.int .i64) (.one (.list (.pair (.int .i64) (.one .str))))))) (.cons (.val (.pair (.int .i64) (.pair (.int .i64) (.one (.list (.pair (.int .i64) (.one .str))))))) .nil))
noncomputable def laws_eqGroup.U : SumTab := [(75, [], laws_eqRowS.S)]
noncomputable def laws_eqGroup.E : Env := mkEnv TY AR laws_eqGroup.U
noncomputable def laws_eqGroup.T : Tab := fun k => look k []
def laws_eqGroup.R : List (Nat × Ty) := [(0, .bool)]
def laws_eqGroup.X : List ResultVar := [.tmp 4]
noncomputable def laws_eqGroup.f (a : Int × Int × List (Int × ByteArray)) (b : Int × Int × List (Int × ByteArray)) : Option (Bool) := Fn laws_eqGroup.E laws_eqGroup.T laws_eqGroup.C laws_eqGroup.P laws_eqGroup.R laws_eqGroup.X (a, b)
theorem laws_eqGroup.f_eq (a : Int × Int × List (Int × ByteArray)) (b : Int × Int × List (Int × ByteArray)) : laws_eqGroup.f a b =
  (bif (!(decide (a.1 = b.1))) then (some false) else
  (bif (!(decide (a.2.1 = b.2.1))) then (some false) else
   ((laws_eqRowS.f a.2.2 b.2.2).bind fun y1 =>
    bif (!y1) then (some false) else (some true)))) := by kernel_rfl
noncomputable def laws_eqGroup.S : Abs.Sum := ⟨laws_eqGroup.P, laws_eqGroup.R, fun _ => Fn laws_eqGroup.E laws_eqGroup.T laws_eqGroup.C laws_eqGroup.P laws_eqGroup.R laws_eqGroup.X⟩
theorem laws_eqGroup.meets : Meets Tryz.prog 54 laws_eqGroup.S := meets_tab (S := laws_eqGroup.U) tabOk_all (AllMeets.cons laws_eqRowS.meets AllMeets.nil) (AllStill.cons (fun _ _ _ => rfl) AllStill.nil) follows (by kernel_rfl : Tryz.prog.funcs[54]? = some Tryz.f54) (by kernel_rfl) (by kernel_rfl) (by kernel_rfl)
noncomputable def laws_eqGroupS.C : Code := Tryz.f34.body.getD .skip
def laws_eqGroupS.P : Par := (.cons (.val (.list (.pair (.int .i64) (.pair (.int .i64) (.one (.list (.pair (.int .i64) (.one .str)))))))) (.cons (.val (.list (.pair (.int .i64) (.pair (.int .i64) (.one (.list (.pair (.int .i64) (.one .str)))))))) .nil))
noncomputable def laws_eqGroupS.U : SumTab := [(54, [], laws_eqGroup.S)]
noncomputable def laws_eqGroupS.E : Env := mkEnv TY AR laws_eqGroupS.U
def laws_eqGroupS.D8 : CutD := ⟨[0, 1, 5], (.cons (.val (.list (.pair (.int .i64) (.pair (.int .i64) (.one (.list (.pair (.int .i64) (.one .str)))))))) (.cons (.val (.list (.pair (.int .i64) (.pair (.int .i64) (.one (.list (.pair (.int .i64) (.one .str)))))))) (.cons (.val (.int .i64)) .nil)))⟩
noncomputable def laws_eqGroupS.T : Tab := fun k => look k [(8, laws_eqGroupS.D8)]
def laws_eqGroupS.R : List (Nat × Ty) := [(0, .bool)]
def laws_eqGroupS.X : List ResultVar := [.tmp 4]
noncomputable def laws_eqGroupS.K := fin laws_eqGroupS.E ⟨laws_eqGroupS.P, laws_eqGroupS.R, fun _ _ => none⟩ laws_eqGroupS.X laws_eqGroupS.P.len 0
noncomputable def laws_eqGroupS.l8 (a : List (Int × Int × List (Int × ByteArray))) (b : List (Int × Int × List (Int × ByteArray))) (i : Int) : Option (Bool) := fixP laws_eqGroupS.E laws_eqGroupS.T laws_eqGroupS.C laws_eqGroupS.K 8 laws_eqGroupS.D8 (a, b, i)
noncomputable def laws_eqGroupS.f (a : List (Int × Int × List (Int × ByteArray))) (b : List (Int × Int × List (Int × ByteArray))) : Option (Bool) := Fn laws_eqGroupS.E laws_eqGroupS.T laws_eqGroupS.C laws_eqGroupS.P laws_eqGroupS.R laws_eqGroupS.X (a, b)
theorem laws_eqGroupS.l8_eq (a : List (Int × Int × List (Int × ByteArray))) (b : List (Int × Int × List (Int × ByteArray))) (i : Int) : laws_eqGroupS.l8 a b i =
  (bif (decide (i < (a.length : Int))) then (bif ((decide (0 ≤ i)) && (decide (i < (a.length : Int)))) then (bif ((decide (0 ≤ i)) && (decide (i < (b.length : Int)))) then ((laws_eqGroup.f (a.getD (i).toNat (0, 0, ([] : List (Int × ByteArray)))) (b.getD (i).toNat (0, 0, ([] : List (Int × ByteArray))))).bind fun y1 =>
     bif (!y1) then (some false) else
     (laws_eqGroupS.l8 a b (w64 (i + 1)))) else none) else none) else (some true)) :=
  (fixP_eq laws_eqGroupS.E laws_eqGroupS.T laws_eqGroupS.C laws_eqGroupS.K 8 laws_eqGroupS.D8 (a, b, i)).trans (by kernel_rfl)
theorem laws_eqGroupS.f_eq (a : List (Int × Int × List (Int × ByteArray))) (b : List (Int × Int × List (Int × ByteArray))) : laws_eqGroupS.f a b =
  (bif (!(decide ((a.length : Int) = (b.length : Int)))) then (some false) else
  (laws_eqGroupS.l8 a b 0)) := by kernel_rfl
noncomputable def laws_eqGroupS.S : Abs.Sum := ⟨laws_eqGroupS.P, laws_eqGroupS.R, fun _ => Fn laws_eqGroupS.E laws_eqGroupS.T laws_eqGroupS.C laws_eqGroupS.P laws_eqGroupS.R laws_eqGroupS.X⟩
theorem laws_eqGroupS.meets : Meets Tryz.prog 34 laws_eqGroupS.S := meets_tab (S := laws_eqGroupS.U) tabOk_all (AllMeets.cons laws_eqGroup.meets AllMeets.nil) (AllStill.cons (fun _ _ _ => rfl) AllStill.nil) follows (by kernel_rfl : Tryz.prog.funcs[34]? = some Tryz.f34) (by kernel_rfl) (by kernel_rfl) (by kernel_rfl)
noncomputable def laws_eqFileDiff.C : Code := Tryz.f18.body.getD .skip
def laws_eqFileDiff.P : Par := (.cons (.val (.pair .str (.pair (.int .i64) (.one (.list (.pair (.int .i64) (.pair (.int .i64) (.one (.list (.pair (.int .i64) (.one .str))))))))))) (.cons (.val (.pair .str (.pair (.int .i64) (.one (.list (.pair (.int .i64) (.pair (.int .i64) (.one (.list (.pair (.int .i64) (.one .str))))))))))) .nil))
noncomputable def laws_eqFileDiff.U : SumTab := [(34, [], laws_eqGroupS.S)]
noncomputable def laws_eqFileDiff.E : Env := mkEnv TY AR laws_eqFileDiff.U
noncomputable def laws_eqFileDiff.T : Tab := fun k => look k []
def laws_eqFileDiff.R : List (Nat × Ty) := [(0, .bool)]
def laws_eqFileDiff.X : List ResultVar := [.tmp 4]
noncomputable def laws_eqFileDiff.f (a : ByteArray × Int × List (Int × Int × List (Int × ByteArray))) (b : ByteArray × Int × List (Int × Int × List (Int × ByteArray))) : Option (Bool) := Fn laws_eqFileDiff.E laws_eqFileDiff.T laws_eqFileDiff.C laws_eqFileDiff.P laws_eqFileDiff.R laws_eqFileDiff.X (a, b)
theorem laws_eqFileDiff.f_eq (a : ByteArray × Int × List (Int × Int × List (Int × ByteArray))) (b : ByteArray × Int × List (Int × Int × List (Int × ByteArray))) : laws_eqFileDiff.f a b =
  (bif (!(a.1.toList == b.1.toList)) then (some false) else
  (bif (!(decide (a.2.1 = b.2.1))) then (some false) else
   ((laws_eqGroupS.f a.2.2 b.2.2).bind fun y1 =>
    bif (!y1) then (some false) else (some true)))) := by kernel_rfl
noncomputable def laws_eqFileDiff.S : Abs.Sum := ⟨laws_eqFileDiff.P, laws_eqFileDiff.R, fun _ => Fn laws_eqFileDiff.E laws_eqFileDiff.T laws_eqFileDiff.C laws_eqFileDiff.P laws_eqFileDiff.R laws_eqFileDiff.X⟩
theorem laws_eqFileDiff.meets : Meets Tryz.prog 18 laws_eqFileDiff.S := meets_tab (S := laws_eqFileDiff.U) tabOk_all (AllMeets.cons laws_eqGroupS.meets AllMeets.nil) (AllStill.cons (fun _ _ _ => rfl) AllStill.nil) follows (by kernel_rfl : Tryz.prog.funcs[18]? = some Tryz.f18) (by kernel_rfl) (by kernel_rfl) (by kernel_rfl)
noncomputable def laws_eqFileDiffS.C : Code := Tryz.f8.body.getD .skip
def laws_eqFileDiffS.P : Par := (.cons (.val (.list (.pair .str (.pair (.int .i64) (.one (.list (.pair (.int .i64) (.pair (.int .i64) (.one (.list (.pair (.int .i64) (.one .str)))))))))))) (.cons (.val (.list (.pair .str (.pair (.int .i64) (.one (.list (.pair (.int .i64) (.pair (.int .i64) (.one (.list (.pair (.int .i64) (.one .str)))))))))))) .nil))
noncomputable def laws_eqFileDiffS.U : SumTab := [(18, [], laws_eqFileDiff.S)]
noncomputable def laws_eqFileDiffS.E : Env := mkEnv TY AR laws_eqFileDiffS.U
def laws_eqFileDiffS.D8 : CutD := ⟨[0, 1, 5], (.cons (.val (.list (.pair .str (.pair (.int .i64) (.one (.list (.pair (.int .i64) (.pair (.int .i64) (.one (.list (.pair (.int .i64) (.one .str)))))))))))) (.cons (.val (.list (.pair .str (.pair (.int .i64) (.one (.list (.pair (.int .i64) (.pair (.int .i64) (.one (.list (.pair (.int .i64) (.one .str)))))))))))) (.cons (.val (.int .i64)) .nil)))⟩
noncomputable def laws_eqFileDiffS.T : Tab := fun k => look k [(8, laws_eqFileDiffS.D8)]
def laws_eqFileDiffS.R : List (Nat × Ty) := [(0, .bool)]
def laws_eqFileDiffS.X : List ResultVar := [.tmp 4]
noncomputable def laws_eqFileDiffS.K := fin laws_eqFileDiffS.E ⟨laws_eqFileDiffS.P, laws_eqFileDiffS.R, fun _ _ => none⟩ laws_eqFileDiffS.X laws_eqFileDiffS.P.len 0
noncomputable def laws_eqFileDiffS.l8 (a : List (ByteArray × Int × List (Int × Int × List (Int × ByteArray)))) (b : List (ByteArray × Int × List (Int × Int × List (Int × ByteArray)))) (i : Int) : Option (Bool) := fixP laws_eqFileDiffS.E laws_eqFileDiffS.T laws_eqFileDiffS.C laws_eqFileDiffS.K 8 laws_eqFileDiffS.D8 (a, b, i)
noncomputable def laws_eqFileDiffS.f (a : List (ByteArray × Int × List (Int × Int × List (Int × ByteArray)))) (b : List (ByteArray × Int × List (Int × Int × List (Int × ByteArray)))) : Option (Bool) := Fn laws_eqFileDiffS.E laws_eqFileDiffS.T laws_eqFileDiffS.C laws_eqFileDiffS.P laws_eqFileDiffS.R laws_eqFileDiffS.X (a, b)
theorem laws_eqFileDiffS.l8_eq (a : List (ByteArray × Int × List (Int × Int × List (Int × ByteArray)))) (b : List (ByteArray × Int × List (Int × Int × List (Int × ByteArray)))) (i : Int) : laws_eqFileDiffS.l8 a b i =
  (bif (decide (i < (a.length : Int))) then (bif ((decide (0 ≤ i)) && (decide (i < (a.length : Int)))) then (bif ((decide (0 ≤ i)) && (decide (i < (b.length : Int)))) then ((laws_eqFileDiff.f (a.getD (i).toNat (em, 0, ([] : List (Int × Int × List (Int × ByteArray))))) (b.getD (i).toNat (em, 0, ([] : List (Int × Int × List (Int × ByteArray)))))).bind fun y1 =>
     bif (!y1) then (some false) else
     (laws_eqFileDiffS.l8 a b (w64 (i + 1)))) else none) else none) else (some true)) :=
  (fixP_eq laws_eqFileDiffS.E laws_eqFileDiffS.T laws_eqFileDiffS.C laws_eqFileDiffS.K 8 laws_eqFileDiffS.D8 (a, b, i)).trans (by kernel_rfl)
theorem laws_eqFileDiffS.f_eq (a : List (ByteArray × Int × List (Int × Int × List (Int × ByteArray)))) (b : List (ByteArray × Int × List (Int × Int × List (Int × ByteArray)))) : laws_eqFileDiffS.f a b =
  (bif (!(decide ((a.length : Int) = (b.length : Int)))) then (some false) else
  (laws_eqFileDiffS.l8 a b 0)) := by kernel_rfl
noncomputable def laws_eqFileDiffS.S : Abs.Sum := ⟨laws_eqFileDiffS.P, laws_eqFileDiffS.R, fun _ => Fn laws_eqFileDiffS.E laws_eqFileDiffS.T laws_eqFileDiffS.C laws_eqFileDiffS.P laws_eqFileDiffS.R laws_eqFileDiffS.X⟩
theorem laws_eqFileDiffS.meets : Meets Tryz.prog 8 laws_eqFileDiffS.S := meets_tab (S := laws_eqFileDiffS.U) tabOk_all (AllMeets.cons laws_eqFileDiff.meets AllMeets.nil) (AllStill.cons (fun _ _ _ => rfl) AllStill.nil) follows (by kernel_rfl : Tryz.prog.funcs[8]? = some Tryz.f8) (by kernel_rfl) (by kernel_rfl) (by kernel_rfl)
noncomputable def laws_FnExactFilesText.C : Code := Tryz.f3.body.getD .skip
def laws_FnExactFilesText.P : Par := (.cons (.val (.list (.pair .str (.pair (.int .i64) (.one (.list (.pair (.int .i64) (.pair (.int .i64) (.one (.list (.pair (.int .i64) (.one .str)))))))))))) .nil)
noncomputable def laws_FnExactFilesText.U : SumTab := [(4, [], laws_szFileDiffS.S), (6, [], laws_toFileDiffS.S), (5, [], spec_FilesText.S), (7, [], impl_FilesText.S), (8, [], laws_eqFileDiffS.S)]
noncomputable def laws_FnExactFilesText.E : Env := mkEnv TY AR laws_FnExactFilesText.U
def laws_FnExactFilesText.D21 : CutD := ⟨[0, 6], (.cons (.val (.list (.pair .str (.pair (.int .i64) (.one (.list (.pair (.int .i64) (.pair (.int .i64) (.one (.list (.pair (.int .i64) (.one .str)))))))))))) (.cons (.own 8 (.pair .str (.pair (.int .i64) (.one (.list (.pair (.int .i64) (.pair (.int .i64) (.one (.list (.pair (.int .i64) (.one .str))))))))))) .nil))⟩
noncomputable def laws_FnExactFilesText.T : Tab := fun k => look k [(21, laws_FnExactFilesText.D21)]
def laws_FnExactFilesText.R : List (Nat × Ty) := [(0, .bool)]
def laws_FnExactFilesText.X : List ResultVar := [.tmp 2]
noncomputable def laws_FnExactFilesText.K := fin laws_FnExactFilesText.E ⟨laws_FnExactFilesText.P, laws_FnExactFilesText.R, fun _ _ => none⟩ laws_FnExactFilesText.X laws_FnExactFilesText.P.len 0
noncomputable def laws_FnExactFilesText.l21 (aD : List (ByteArray × Int × List (Int × Int × List (Int × ByteArray)))) (x0 : List (ByteArray × Int × List (Int × Int × List (Int × ByteArray)))) : Option (Bool) := fixP laws_FnExactFilesText.E laws_FnExactFilesText.T laws_FnExactFilesText.C laws_FnExactFilesText.K 21 laws_FnExactFilesText.D21 (aD, x0)
noncomputable def laws_FnExactFilesText.f (aD : List (ByteArray × Int × List (Int × Int × List (Int × ByteArray)))) : Option (Bool) := Fn laws_FnExactFilesText.E laws_FnExactFilesText.T laws_FnExactFilesText.C laws_FnExactFilesText.P laws_FnExactFilesText.R laws_FnExactFilesText.X aD
theorem laws_FnExactFilesText.l21_eq (aD : List (ByteArray × Int × List (Int × Int × List (Int × ByteArray)))) (x0 : List (ByteArray × Int × List (Int × Int × List (Int × ByteArray)))) : laws_FnExactFilesText.l21 aD x0 =
  ((laws_toFileDiffS.f aD).bind fun y1 =>
  (laws_eqFileDiffS.f x0 y1).bind fun y2 =>
  bif (!y2) then (some false) else (some true)) :=
  (fixP_eq laws_FnExactFilesText.E laws_FnExactFilesText.T laws_FnExactFilesText.C laws_FnExactFilesText.K 21 laws_FnExactFilesText.D21 (aD, x0)).trans (by kernel_rfl)
theorem laws_FnExactFilesText.f_eq (aD : List (ByteArray × Int × List (Int × Int × List (Int × ByteArray)))) : laws_FnExactFilesText.f aD =
  ((laws_szFileDiffS.f aD 1048576).bind fun y1 =>
  bif (decide (y1 < 0)) then (some true) else
  ((laws_toFileDiffS.f aD).bind fun y2 =>
   (spec_FilesText.f y2).bind fun y3 =>
   (laws_toFileDiffS.f aD).bind fun y4 =>
   (impl_FilesText.f y4).bind fun y5 =>
   bif (!(y5.1.toList == y3.1.toList)) then (some false) else
   (bif (!(y5.2 == y3.2)) then (some false) else
    (laws_FnExactFilesText.l21 aD y4)))) := by kernel_rfl
noncomputable def laws_FnExactFilesText.S : Abs.Sum := ⟨laws_FnExactFilesText.P, laws_FnExactFilesText.R, fun _ => Fn laws_FnExactFilesText.E laws_FnExactFilesText.T laws_FnExactFilesText.C laws_FnExactFilesText.P laws_FnExactFilesText.R laws_FnExactFilesText.X⟩
theorem laws_FnExactFilesText.meets : Meets Tryz.prog 3 laws_FnExactFilesText.S := meets_tab (S := laws_FnExactFilesText.U) tabOk_all (AllMeets.cons laws_szFileDiffS.meets (AllMeets.cons laws_toFileDiffS.meets (AllMeets.cons spec_FilesText.meets (AllMeets.cons impl_FilesText.meets (AllMeets.cons laws_eqFileDiffS.meets AllMeets.nil))))) (AllStill.cons (fun _ _ _ => rfl) (AllStill.cons (fun _ _ _ => rfl) (AllStill.cons (fun _ _ _ => rfl) (AllStill.cons (fun _ _ _ => rfl) (AllStill.cons (fun _ _ _ => rfl) AllStill.nil))))) follows (by kernel_rfl : Tryz.prog.funcs[3]? = some Tryz.f3) (by kernel_rfl) (by kernel_rfl) (by kernel_rfl)
end Go.Abs.G
