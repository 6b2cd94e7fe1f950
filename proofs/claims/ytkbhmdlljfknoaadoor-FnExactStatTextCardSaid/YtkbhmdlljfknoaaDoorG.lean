import Derived.Test.YtkbhmdlljfknoaaDoorGB
set_option linter.unusedVariables false
set_option linter.unusedSimpArgs false
set_option linter.unusedSectionVars false
namespace Go.Abs.G
open Go Go.Abs Go.Proofs
noncomputable def laws_szRow.C : Code := Tryd.f80.body.getD .skip
def laws_szRow.P : Par := (.cons (.val (.pair (.int .i64) (.one .str))) (.cons (.val (.int .i64)) .nil))
noncomputable def laws_szRow.U : SumTab := []
noncomputable def laws_szRow.E : Env := mkEnv TY AR laws_szRow.U
noncomputable def laws_szRow.T : Tab := fun k => look k []
def laws_szRow.R : List (Nat × Ty) := [(0, .int .i64)]
def laws_szRow.X : List ResultVar := [.tmp 4]
noncomputable def laws_szRow.f (a : Int × ByteArray) (left : Int) : Option (Int) := Fn laws_szRow.E laws_szRow.T laws_szRow.C laws_szRow.P laws_szRow.R laws_szRow.X (a, left)
theorem laws_szRow.f_eq (a : Int × ByteArray) (left : Int) : laws_szRow.f a left =
  (bif (decide ((w64 (left - (a.2.size : Int))) < 0)) then (some (-1)) else (some (w64 (left - (a.2.size : Int))))) := by kernel_rfl
noncomputable def laws_szRow.S : Abs.Sum := ⟨laws_szRow.P, laws_szRow.R, fun _ => Fn laws_szRow.E laws_szRow.T laws_szRow.C laws_szRow.P laws_szRow.R laws_szRow.X⟩
theorem laws_szRow.meets : Meets Tryd.prog 80 laws_szRow.S := meets_tab (S := laws_szRow.U) tabOk_all AllMeets.nil AllStill.nil follows (by kernel_rfl : Tryd.prog.funcs[80]? = some Tryd.f80) (by kernel_rfl) (by kernel_rfl) (by kernel_rfl)
noncomputable def laws_szRowS.C : Code := Tryd.f59.body.getD .skip
def laws_szRowS.P : Par := (.cons (.val (.list (.pair (.int .i64) (.one .str)))) (.cons (.val (.int .i64)) .nil))
noncomputable def laws_szRowS.U : SumTab := [(80, [], laws_szRow.S)]
noncomputable def laws_szRowS.E : Env := mkEnv TY AR laws_szRowS.U
def laws_szRowS.D10 : CutD := ⟨[0, 1, 5], (.cons (.val (.list (.pair (.int .i64) (.one .str)))) (.cons (.val (.int .i64)) (.cons (.val (.int .i64)) .nil)))⟩
noncomputable def laws_szRowS.T : Tab := fun k => look k [(10, laws_szRowS.D10)]
def laws_szRowS.R : List (Nat × Ty) := [(0, .int .i64)]
def laws_szRowS.X : List ResultVar := [.tmp 4]
noncomputable def laws_szRowS.K := fin laws_szRowS.E ⟨laws_szRowS.P, laws_szRowS.R, fun _ _ => none⟩ laws_szRowS.X laws_szRowS.P.len 0
noncomputable def laws_szRowS.l10 (a : List (Int × ByteArray)) (left : Int) (i : Int) : Option (Int) := fixP laws_szRowS.E laws_szRowS.T laws_szRowS.C laws_szRowS.K 10 laws_szRowS.D10 (a, left, i)
noncomputable def laws_szRowS.f (a : List (Int × ByteArray)) (left : Int) : Option (Int) := Fn laws_szRowS.E laws_szRowS.T laws_szRowS.C laws_szRowS.P laws_szRowS.R laws_szRowS.X (a, left)
theorem laws_szRowS.l10_eq (a : List (Int × ByteArray)) (left : Int) (i : Int) : laws_szRowS.l10 a left i =
  (bif (decide (i < (a.length : Int))) then (bif ((decide (0 ≤ i)) && (decide (i < (a.length : Int)))) then ((laws_szRow.f (a.getD (i).toNat (0, em)) left).bind fun y1 =>
    bif (decide (y1 < 0)) then (some (-1)) else
    (laws_szRowS.l10 a y1 (w64 (i + 1)))) else none) else (some left)) :=
  (fixP_eq laws_szRowS.E laws_szRowS.T laws_szRowS.C laws_szRowS.K 10 laws_szRowS.D10 (a, left, i)).trans (by kernel_rfl)
theorem laws_szRowS.f_eq (a : List (Int × ByteArray)) (left : Int) : laws_szRowS.f a left =
  (bif (decide ((w64 (left - (a.length : Int))) < 0)) then (some (-1)) else
  (laws_szRowS.l10 a (w64 (left - (a.length : Int))) 0)) := by kernel_rfl
noncomputable def laws_szRowS.S : Abs.Sum := ⟨laws_szRowS.P, laws_szRowS.R, fun _ => Fn laws_szRowS.E laws_szRowS.T laws_szRowS.C laws_szRowS.P laws_szRowS.R laws_szRowS.X⟩
theorem laws_szRowS.meets : Meets Tryd.prog 59 laws_szRowS.S := meets_tab (S := laws_szRowS.U) tabOk_all (AllMeets.cons laws_szRow.meets AllMeets.nil) (AllStill.cons (fun _ _ _ => rfl) AllStill.nil) follows (by kernel_rfl : Tryd.prog.funcs[59]? = some Tryd.f59) (by kernel_rfl) (by kernel_rfl) (by kernel_rfl)
noncomputable def laws_szGroup.C : Code := Tryd.f42.body.getD .skip
def laws_szGroup.P : Par := (.cons (.val (.pair (.int .i64) (.pair (.int .i64) (.one (.list (.pair (.int .i64) (.one .str))))))) (.cons (.val (.int .i64)) .nil))
noncomputable def laws_szGroup.U : SumTab := [(59, [], laws_szRowS.S)]
noncomputable def laws_szGroup.E : Env := mkEnv TY AR laws_szGroup.U
noncomputable def laws_szGroup.T : Tab := fun k => look k []
def laws_szGroup.R : List (Nat × Ty) := [(0, .int .i64)]
def laws_szGroup.X : List ResultVar := [.tmp 4]
noncomputable def laws_szGroup.f (a : Int × Int × List (Int × ByteArray)) (left : Int) : Option (Int) := Fn laws_szGroup.E laws_szGroup.T laws_szGroup.C laws_szGroup.P laws_szGroup.R laws_szGroup.X (a, left)
theorem laws_szGroup.f_eq (a : Int × Int × List (Int × ByteArray)) (left : Int) : laws_szGroup.f a left =
  ((laws_szRowS.f a.2.2 left).bind fun y1 =>
  bif (decide (y1 < 0)) then (some (-1)) else (some y1)) := by kernel_rfl
noncomputable def laws_szGroup.S : Abs.Sum := ⟨laws_szGroup.P, laws_szGroup.R, fun _ => Fn laws_szGroup.E laws_szGroup.T laws_szGroup.C laws_szGroup.P laws_szGroup.R laws_szGroup.X⟩
theorem laws_szGroup.meets : Meets Tryd.prog 42 laws_szGroup.S := meets_tab (S := laws_szGroup.U) tabOk_all (AllMeets.cons laws_szRowS.meets AllMeets.nil) (AllStill.cons (fun _ _ _ => rfl) AllStill.nil) follows (by kernel_rfl : Tryd.prog.funcs[42]? = some Tryd.f42) (by kernel_rfl) (by kernel_rfl) (by kernel_rfl)
noncomputable def laws_szGroupS.C : Code := Tryd.f29.body.getD .skip
def laws_szGroupS.P : Par := (.cons (.val (.list (.pair (.int .i64) (.pair (.int .i64) (.one (.list (.pair (.int .i64) (.one .str)))))))) (.cons (.val (.int .i64)) .nil))
noncomputable def laws_szGroupS.U : SumTab := [(42, [], laws_szGroup.S)]
noncomputable def laws_szGroupS.E : Env := mkEnv TY AR laws_szGroupS.U
def laws_szGroupS.D10 : CutD := ⟨[0, 1, 5], (.cons (.val (.list (.pair (.int .i64) (.pair (.int .i64) (.one (.list (.pair (.int .i64) (.one .str)))))))) (.cons (.val (.int .i64)) (.cons (.val (.int .i64)) .nil)))⟩
noncomputable def laws_szGroupS.T : Tab := fun k => look k [(10, laws_szGroupS.D10)]
def laws_szGroupS.R : List (Nat × Ty) := [(0, .int .i64)]
def laws_szGroupS.X : List ResultVar := [.tmp 4]
noncomputable def laws_szGroupS.K := fin laws_szGroupS.E ⟨laws_szGroupS.P, laws_szGroupS.R, fun _ _ => none⟩ laws_szGroupS.X laws_szGroupS.P.len 0
noncomputable def laws_szGroupS.l10 (a : List (Int × Int × List (Int × ByteArray))) (left : Int) (i : Int) : Option (Int) := fixP laws_szGroupS.E laws_szGroupS.T laws_szGroupS.C laws_szGroupS.K 10 laws_szGroupS.D10 (a, left, i)
noncomputable def laws_szGroupS.f (a : List (Int × Int × List (Int × ByteArray))) (left : Int) : Option (Int) := Fn laws_szGroupS.E laws_szGroupS.T laws_szGroupS.C laws_szGroupS.P laws_szGroupS.R laws_szGroupS.X (a, left)
theorem laws_szGroupS.l10_eq (a : List (Int × Int × List (Int × ByteArray))) (left : Int) (i : Int) : laws_szGroupS.l10 a left i =
  (bif (decide (i < (a.length : Int))) then (bif ((decide (0 ≤ i)) && (decide (i < (a.length : Int)))) then ((laws_szGroup.f (a.getD (i).toNat (0, 0, ([] : List (Int × ByteArray)))) left).bind fun y1 =>
    bif (decide (y1 < 0)) then (some (-1)) else
    (laws_szGroupS.l10 a y1 (w64 (i + 1)))) else none) else (some left)) :=
  (fixP_eq laws_szGroupS.E laws_szGroupS.T laws_szGroupS.C laws_szGroupS.K 10 laws_szGroupS.D10 (a, left, i)).trans (by kernel_rfl)
theorem laws_szGroupS.f_eq (a : List (Int × Int × List (Int × ByteArray))) (left : Int) : laws_szGroupS.f a left =
  (bif (decide ((w64 (left - (a.length : Int))) < 0)) then (some (-1)) else
  (laws_szGroupS.l10 a (w64 (left - (a.length : Int))) 0)) := by kernel_rfl
noncomputable def laws_szGroupS.S : Abs.Sum := ⟨laws_szGroupS.P, laws_szGroupS.R, fun _ => Fn laws_szGroupS.E laws_szGroupS.T laws_szGroupS.C laws_szGroupS.P laws_szGroupS.R laws_szGroupS.X⟩
theorem laws_szGroupS.meets : Meets Tryd.prog 29 laws_szGroupS.S := meets_tab (S := laws_szGroupS.U) tabOk_all (AllMeets.cons laws_szGroup.meets AllMeets.nil) (AllStill.cons (fun _ _ _ => rfl) AllStill.nil) follows (by kernel_rfl : Tryd.prog.funcs[29]? = some Tryd.f29) (by kernel_rfl) (by kernel_rfl) (by kernel_rfl)
noncomputable def laws_szFileDiff.C : Code := Tryd.f17.body.getD .skip
def laws_szFileDiff.P : Par := (.cons (.val (.pair .str (.pair (.int .i64) (.one (.list (.pair (.int .i64) (.pair (.int .i64) (.one (.list (.pair (.int .i64) (.one .str))))))))))) (.cons (.val (.int .i64)) .nil))
noncomputable def laws_szFileDiff.U : SumTab := [(29, [], laws_szGroupS.S)]
noncomputable def laws_szFileDiff.E : Env := mkEnv TY AR laws_szFileDiff.U
noncomputable def laws_szFileDiff.T : Tab := fun k => look k []
def laws_szFileDiff.R : List (Nat × Ty) := [(0, .int .i64)]
def laws_szFileDiff.X : List ResultVar := [.tmp 4]
noncomputable def laws_szFileDiff.f (a : ByteArray × Int × List (Int × Int × List (Int × ByteArray))) (left : Int) : Option (Int) := Fn laws_szFileDiff.E laws_szFileDiff.T laws_szFileDiff.C laws_szFileDiff.P laws_szFileDiff.R laws_szFileDiff.X (a, left)
theorem laws_szFileDiff.f_eq (a : ByteArray × Int × List (Int × Int × List (Int × ByteArray))) (left : Int) : laws_szFileDiff.f a left =
  (bif (decide ((w64 (left - (a.1.size : Int))) < 0)) then (some (-1)) else
  ((laws_szGroupS.f a.2.2 (w64 (left - (a.1.size : Int)))).bind fun y1 =>
   bif (decide (y1 < 0)) then (some (-1)) else (some y1))) := by kernel_rfl
noncomputable def laws_szFileDiff.S : Abs.Sum := ⟨laws_szFileDiff.P, laws_szFileDiff.R, fun _ => Fn laws_szFileDiff.E laws_szFileDiff.T laws_szFileDiff.C laws_szFileDiff.P laws_szFileDiff.R laws_szFileDiff.X⟩
theorem laws_szFileDiff.meets : Meets Tryd.prog 17 laws_szFileDiff.S := meets_tab (S := laws_szFileDiff.U) tabOk_all (AllMeets.cons laws_szGroupS.meets AllMeets.nil) (AllStill.cons (fun _ _ _ => rfl) AllStill.nil) follows (by kernel_rfl : Tryd.prog.funcs[17]? = some Tryd.f17) (by kernel_rfl) (by kernel_rfl) (by kernel_rfl)
noncomputable def laws_szFileDiffS.C : Code := Tryd.f6.body.getD .skip
def laws_szFileDiffS.P : Par := (.cons (.val (.list (.pair .str (.pair (.int .i64) (.one (.list (.pair (.int .i64) (.pair (.int .i64) (.one (.list (.pair (.int .i64) (.one .str)))))))))))) (.cons (.val (.int .i64)) .nil))
noncomputable def laws_szFileDiffS.U : SumTab := [(17, [], laws_szFileDiff.S)]
noncomputable def laws_szFileDiffS.E : Env := mkEnv TY AR laws_szFileDiffS.U
def laws_szFileDiffS.D10 : CutD := ⟨[0, 1, 5], (.cons (.val (.list (.pair .str (.pair (.int .i64) (.one (.list (.pair (.int .i64) (.pair (.int .i64) (.one (.list (.pair (.int .i64) (.one .str)))))))))))) (.cons (.val (.int .i64)) (.cons (.val (.int .i64)) .nil)))⟩
noncomputable def laws_szFileDiffS.T : Tab := fun k => look k [(10, laws_szFileDiffS.D10)]
def laws_szFileDiffS.R : List (Nat × Ty) := [(0, .int .i64)]
def laws_szFileDiffS.X : List ResultVar := [.tmp 4]
noncomputable def laws_szFileDiffS.K := fin laws_szFileDiffS.E ⟨laws_szFileDiffS.P, laws_szFileDiffS.R, fun _ _ => none⟩ laws_szFileDiffS.X laws_szFileDiffS.P.len 0
noncomputable def laws_szFileDiffS.l10 (a : List (ByteArray × Int × List (Int × Int × List (Int × ByteArray)))) (left : Int) (i : Int) : Option (Int) := fixP laws_szFileDiffS.E laws_szFileDiffS.T laws_szFileDiffS.C laws_szFileDiffS.K 10 laws_szFileDiffS.D10 (a, left, i)
noncomputable def laws_szFileDiffS.f (a : List (ByteArray × Int × List (Int × Int × List (Int × ByteArray)))) (left : Int) : Option (Int) := Fn laws_szFileDiffS.E laws_szFileDiffS.T laws_szFileDiffS.C laws_szFileDiffS.P laws_szFileDiffS.R laws_szFileDiffS.X (a, left)
theorem laws_szFileDiffS.l10_eq (a : List (ByteArray × Int × List (Int × Int × List (Int × ByteArray)))) (left : Int) (i : Int) : laws_szFileDiffS.l10 a left i =
  (bif (decide (i < (a.length : Int))) then (bif ((decide (0 ≤ i)) && (decide (i < (a.length : Int)))) then ((laws_szFileDiff.f (a.getD (i).toNat (em, 0, ([] : List (Int × Int × List (Int × ByteArray))))) left).bind fun y1 =>
    bif (decide (y1 < 0)) then (some (-1)) else
    (laws_szFileDiffS.l10 a y1 (w64 (i + 1)))) else none) else (some left)) :=
  (fixP_eq laws_szFileDiffS.E laws_szFileDiffS.T laws_szFileDiffS.C laws_szFileDiffS.K 10 laws_szFileDiffS.D10 (a, left, i)).trans (by kernel_rfl)
theorem laws_szFileDiffS.f_eq (a : List (ByteArray × Int × List (Int × Int × List (Int × ByteArray)))) (left : Int) : laws_szFileDiffS.f a left =
  (bif (decide ((w64 (left - (a.length : Int))) < 0)) then (some (-1)) else
  (laws_szFileDiffS.l10 a (w64 (left - (a.length : Int))) 0)) := by kernel_rfl
noncomputable def laws_szFileDiffS.S : Abs.Sum := ⟨laws_szFileDiffS.P, laws_szFileDiffS.R, fun _ => Fn laws_szFileDiffS.E laws_szFileDiffS.T laws_szFileDiffS.C laws_szFileDiffS.P laws_szFileDiffS.R laws_szFileDiffS.X⟩
theorem laws_szFileDiffS.meets : Meets Tryd.prog 6 laws_szFileDiffS.S := meets_tab (S := laws_szFileDiffS.U) tabOk_all (AllMeets.cons laws_szFileDiff.meets AllMeets.nil) (AllStill.cons (fun _ _ _ => rfl) AllStill.nil) follows (by kernel_rfl : Tryd.prog.funcs[6]? = some Tryd.f6) (by kernel_rfl) (by kernel_rfl) (by kernel_rfl)
noncomputable def laws_toRow.C : Code := Tryd.f81.body.getD .skip
def laws_toRow.P : Par := (.cons (.val (.pair (.int .i64) (.one .str))) .nil)
noncomputable def laws_toRow.U : SumTab := []
noncomputable def laws_toRow.E : Env := mkEnv TY AR laws_toRow.U
noncomputable def laws_toRow.T : Tab := fun k => look k []
def laws_toRow.R : List (Nat × Ty) := [(0, .pair (.int .i64) (.one .str))]
def laws_toRow.X : List ResultVar := [.cell 2 51]
noncomputable def laws_toRow.f (a : Int × ByteArray) : Option ((Int × ByteArray)) := Fn laws_toRow.E laws_toRow.T laws_toRow.C laws_toRow.P laws_toRow.R laws_toRow.X a
theorem laws_toRow.f_eq (a : Int × ByteArray) : laws_toRow.f a =
  (some (a.1, a.2)) := by kernel_rfl
noncomputable def laws_toRow.S : Abs.Sum := ⟨laws_toRow.P, laws_toRow.R, fun _ => Fn laws_toRow.E laws_toRow.T laws_toRow.C laws_toRow.P laws_toRow.R laws_toRow.X⟩
theorem laws_toRow.meets : Meets Tryd.prog 81 laws_toRow.S := meets_tab (S := laws_toRow.U) tabOk_all AllMeets.nil AllStill.nil follows (by kernel_rfl : Tryd.prog.funcs[81]? = some Tryd.f81) (by kernel_rfl) (by kernel_rfl) (by kernel_rfl)
noncomputable def laws_toRowS.C : Code := Tryd.f61.body.getD .skip
def laws_toRowS.P : Par := (.cons (.val (.list (.pair (.int .i64) (.one .str)))) .nil)
noncomputable def laws_toRowS.U : SumTab := [(81, [], laws_toRow.S)]
noncomputable def laws_toRowS.E : Env := mkEnv TY AR laws_toRowS.U
def laws_toRowS.D6 : CutD := ⟨[0, 3, 4], (.cons (.val (.list (.pair (.int .i64) (.one .str)))) (.cons (.own 9 (.pair (.int .i64) (.one .str))) (.cons (.val (.int .i64)) .nil)))⟩
noncomputable def laws_toRowS.T : Tab := fun k => look k [(6, laws_toRowS.D6)]
def laws_toRowS.R : List (Nat × Ty) := [(9, .list (.pair (.int .i64) (.one .str)))]
def laws_toRowS.X : List ResultVar := [.tmp 2]
noncomputable def laws_toRowS.K := fin laws_toRowS.E ⟨laws_toRowS.P, laws_toRowS.R, fun _ _ => none⟩ laws_toRowS.X laws_toRowS.P.len 0
noncomputable def laws_toRowS.l6 (a : List (Int × ByteArray)) (out : List (Int × ByteArray)) (i : Int) : Option ((List (Int × ByteArray))) := fixP laws_toRowS.E laws_toRowS.T laws_toRowS.C laws_toRowS.K 6 laws_toRowS.D6 (a, out, i)
noncomputable def laws_toRowS.f (a : List (Int × ByteArray)) : Option ((List (Int × ByteArray))) := Fn laws_toRowS.E laws_toRowS.T laws_toRowS.C laws_toRowS.P laws_toRowS.R laws_toRowS.X a
theorem laws_toRowS.l6_eq (a : List (Int × ByteArray)) (out : List (Int × ByteArray)) (i : Int) : laws_toRowS.l6 a out i =
  (bif (decide (i < (a.length : Int))) then (bif ((decide (0 ≤ i)) && (decide (i < (a.length : Int)))) then ((laws_toRow.f (a.getD (i).toNat (0, em))).bind fun y1 =>
    bif ((decide (0 ≤ i)) && (decide (i < (out.length : Int)))) then (laws_toRowS.l6 a (out.set (i).toNat y1) (w64 (i + 1))) else none) else none) else (some out)) :=
  (fixP_eq laws_toRowS.E laws_toRowS.T laws_toRowS.C laws_toRowS.K 6 laws_toRowS.D6 (a, out, i)).trans (by kernel_rfl)
theorem laws_toRowS.f_eq (a : List (Int × ByteArray)) : laws_toRowS.f a =
  (bif ((decide (0 ≤ (a.length : Int))) && (decide (((a.length : Int)).toNat ≤ room 24))) then (laws_toRowS.l6 a (List.replicate ((a.length : Int)).toNat (0, em)) 0) else none) := by kernel_rfl
noncomputable def laws_toRowS.S : Abs.Sum := ⟨laws_toRowS.P, laws_toRowS.R, fun _ => Fn laws_toRowS.E laws_toRowS.T laws_toRowS.C laws_toRowS.P laws_toRowS.R laws_toRowS.X⟩
theorem laws_toRowS.meets : Meets Tryd.prog 61 laws_toRowS.S := meets_tab (S := laws_toRowS.U) tabOk_all (AllMeets.cons laws_toRow.meets AllMeets.nil) (AllStill.cons (fun _ _ _ => rfl) AllStill.nil) follows (by kernel_rfl : Tryd.prog.funcs[61]? = some Tryd.f61) (by kernel_rfl) (by kernel_rfl) (by kernel_rfl)
noncomputable def laws_toGroup.C : Code := Tryd.f45.body.getD .skip
def laws_toGroup.P : Par := (.cons (.val (.pair (.int .i64) (.pair (.int .i64) (.one (.list (.pair (.int .i64) (.one .str))))))) .nil)
noncomputable def laws_toGroup.U : SumTab := [(61, [], laws_toRowS.S)]
noncomputable def laws_toGroup.E : Env := mkEnv TY AR laws_toGroup.U
noncomputable def laws_toGroup.T : Tab := fun k => look k []
def laws_toGroup.R : List (Nat × Ty) := [(9, .pair (.int .i64) (.pair (.int .i64) (.one (.list (.pair (.int .i64) (.one .str))))))]
def laws_toGroup.X : List ResultVar := [.cell 2 49]
noncomputable def laws_toGroup.f (a : Int × Int × List (Int × ByteArray)) : Option ((Int × Int × List (Int × ByteArray))) := Fn laws_toGroup.E laws_toGroup.T laws_toGroup.C laws_toGroup.P laws_toGroup.R laws_toGroup.X a
theorem laws_toGroup.f_eq (a : Int × Int × List (Int × ByteArray)) : laws_toGroup.f a =
  ((laws_toRowS.f a.2.2).bind fun y1 =>
  some (a.1, a.2.1, y1)) := by kernel_rfl
noncomputable def laws_toGroup.S : Abs.Sum := ⟨laws_toGroup.P, laws_toGroup.R, fun _ => Fn laws_toGroup.E laws_toGroup.T laws_toGroup.C laws_toGroup.P laws_toGroup.R laws_toGroup.X⟩
theorem laws_toGroup.meets : Meets Tryd.prog 45 laws_toGroup.S := meets_tab (S := laws_toGroup.U) tabOk_all (AllMeets.cons laws_toRowS.meets AllMeets.nil) (AllStill.cons (fun _ _ _ => rfl) AllStill.nil) follows (by kernel_rfl : Tryd.prog.funcs[45]? = some Tryd.f45) (by kernel_rfl) (by kernel_rfl) (by kernel_rfl)
noncomputable def laws_toGroupS.C : Code := Tryd.f31.body.getD .skip
def laws_toGroupS.P : Par := (.cons (.val (.list (.pair (.int .i64) (.pair (.int .i64) (.one (.list (.pair (.int .i64) (.one .str)))))))) .nil)
noncomputable def laws_toGroupS.U : SumTab := [(45, [], laws_toGroup.S)]
noncomputable def laws_toGroupS.E : Env := mkEnv TY AR laws_toGroupS.U
def laws_toGroupS.D6 : CutD := ⟨[0, 3, 4], (.cons (.val (.list (.pair (.int .i64) (.pair (.int .i64) (.one (.list (.pair (.int .i64) (.one .str)))))))) (.cons (.own 9 (.pair (.int .i64) (.pair (.int .i64) (.one (.list (.pair (.int .i64) (.one .str))))))) (.cons (.val (.int .i64)) .nil)))⟩
noncomputable def laws_toGroupS.T : Tab := fun k => look k [(6, laws_toGroupS.D6)]
def laws_toGroupS.R : List (Nat × Ty) := [(9, .list (.pair (.int .i64) (.pair (.int .i64) (.one (.list (.pair (.int .i64) (.one .str)))))))]
def laws_toGroupS.X : List ResultVar := [.tmp 2]
noncomputable def laws_toGroupS.K := fin laws_toGroupS.E ⟨laws_toGroupS.P, laws_toGroupS.R, fun _ _ => none⟩ laws_toGroupS.X laws_toGroupS.P.len 0
noncomputable def laws_toGroupS.l6 (a : List (Int × Int × List (Int × ByteArray))) (out : List (Int × Int × List (Int × ByteArray))) (i : Int) : Option ((List (Int × Int × List (Int × ByteArray)))) := fixP laws_toGroupS.E laws_toGroupS.T laws_toGroupS.C laws_toGroupS.K 6 laws_toGroupS.D6 (a, out, i)
noncomputable def laws_toGroupS.f (a : List (Int × Int × List (Int × ByteArray))) : Option ((List (Int × Int × List (Int × ByteArray)))) := Fn laws_toGroupS.E laws_toGroupS.T laws_toGroupS.C laws_toGroupS.P laws_toGroupS.R laws_toGroupS.X a
theorem laws_toGroupS.l6_eq (a : List (Int × Int × List (Int × ByteArray))) (out : List (Int × Int × List (Int × ByteArray))) (i : Int) : laws_toGroupS.l6 a out i =
  (bif (decide (i < (a.length : Int))) then (bif ((decide (0 ≤ i)) && (decide (i < (a.length : Int)))) then ((laws_toGroup.f (a.getD (i).toNat (0, 0, ([] : List (Int × ByteArray))))).bind fun y1 =>
    bif ((decide (0 ≤ i)) && (decide (i < (out.length : Int)))) then (laws_toGroupS.l6 a (out.set (i).toNat (y1.1, y1.2.1, y1.2.2)) (w64 (i + 1))) else none) else none) else (some out)) :=
  (fixP_eq laws_toGroupS.E laws_toGroupS.T laws_toGroupS.C laws_toGroupS.K 6 laws_toGroupS.D6 (a, out, i)).trans (by kernel_rfl)
theorem laws_toGroupS.f_eq (a : List (Int × Int × List (Int × ByteArray))) : laws_toGroupS.f a =
  (bif ((decide (0 ≤ (a.length : Int))) && (decide (((a.length : Int)).toNat ≤ room 40))) then (laws_toGroupS.l6 a (List.replicate ((a.length : Int)).toNat (0, 0, ([] : List (Int × ByteArray)))) 0) else none) := by kernel_rfl
noncomputable def laws_toGroupS.S : Abs.Sum := ⟨laws_toGroupS.P, laws_toGroupS.R, fun _ => Fn laws_toGroupS.E laws_toGroupS.T laws_toGroupS.C laws_toGroupS.P laws_toGroupS.R laws_toGroupS.X⟩
theorem laws_toGroupS.meets : Meets Tryd.prog 31 laws_toGroupS.S := meets_tab (S := laws_toGroupS.U) tabOk_all (AllMeets.cons laws_toGroup.meets AllMeets.nil) (AllStill.cons (fun _ _ _ => rfl) AllStill.nil) follows (by kernel_rfl : Tryd.prog.funcs[31]? = some Tryd.f31) (by kernel_rfl) (by kernel_rfl) (by kernel_rfl)
noncomputable def laws_toFileDiff.C : Code := Tryd.f19.body.getD .skip
def laws_toFileDiff.P : Par := (.cons (.val (.pair .str (.pair (.int .i64) (.one (.list (.pair (.int .i64) (.pair (.int .i64) (.one (.list (.pair (.int .i64) (.one .str))))))))))) .nil)
noncomputable def laws_toFileDiff.U : SumTab := [(31, [], laws_toGroupS.S)]
noncomputable def laws_toFileDiff.E : Env := mkEnv TY AR laws_toFileDiff.U
noncomputable def laws_toFileDiff.T : Tab := fun k => look k []
def laws_toFileDiff.R : List (Nat × Ty) := [(9, .pair .str (.pair (.int .i64) (.one (.list (.pair (.int .i64) (.pair (.int .i64) (.one (.list (.pair (.int .i64) (.one .str))))))))))]
def laws_toFileDiff.X : List ResultVar := [.cell 2 40]
noncomputable def laws_toFileDiff.f (a : ByteArray × Int × List (Int × Int × List (Int × ByteArray))) : Option ((ByteArray × Int × List (Int × Int × List (Int × ByteArray)))) := Fn laws_toFileDiff.E laws_toFileDiff.T laws_toFileDiff.C laws_toFileDiff.P laws_toFileDiff.R laws_toFileDiff.X a
theorem laws_toFileDiff.f_eq (a : ByteArray × Int × List (Int × Int × List (Int × ByteArray))) : laws_toFileDiff.f a =
  ((laws_toGroupS.f a.2.2).bind fun y1 =>
  some (a.1, a.2.1, y1)) := by kernel_rfl
noncomputable def laws_toFileDiff.S : Abs.Sum := ⟨laws_toFileDiff.P, laws_toFileDiff.R, fun _ => Fn laws_toFileDiff.E laws_toFileDiff.T laws_toFileDiff.C laws_toFileDiff.P laws_toFileDiff.R laws_toFileDiff.X⟩
theorem laws_toFileDiff.meets : Meets Tryd.prog 19 laws_toFileDiff.S := meets_tab (S := laws_toFileDiff.U) tabOk_all (AllMeets.cons laws_toGroupS.meets AllMeets.nil) (AllStill.cons (fun _ _ _ => rfl) AllStill.nil) follows (by kernel_rfl : Tryd.prog.funcs[19]? = some Tryd.f19) (by kernel_rfl) (by kernel_rfl) (by kernel_rfl)
noncomputable def laws_toFileDiffS.C : Code := Tryd.f8.body.getD .skip
def laws_toFileDiffS.P : Par := (.cons (.val (.list (.pair .str (.pair (.int .i64) (.one (.list (.pair (.int .i64) (.pair (.int .i64) (.one (.list (.pair (.int .i64) (.one .str)))))))))))) .nil)
noncomputable def laws_toFileDiffS.U : SumTab := [(19, [], laws_toFileDiff.S)]
noncomputable def laws_toFileDiffS.E : Env := mkEnv TY AR laws_toFileDiffS.U
def laws_toFileDiffS.D6 : CutD := ⟨[0, 3, 4], (.cons (.val (.list (.pair .str (.pair (.int .i64) (.one (.list (.pair (.int .i64) (.pair (.int .i64) (.one (.list (.pair (.int .i64) (.one .str)))))))))))) (.cons (.own 9 (.pair .str (.pair (.int .i64) (.one (.list (.pair (.int .i64) (.pair (.int .i64) (.one (.list (.pair (.int .i64) (.one .str))))))))))) (.cons (.val (.int .i64)) .nil)))⟩
noncomputable def laws_toFileDiffS.T : Tab := fun k => look k [(6, laws_toFileDiffS.D6)]
def laws_toFileDiffS.R : List (Nat × Ty) := [(9, .list (.pair .str (.pair (.int .i64) (.one (.list (.pair (.int .i64) (.pair (.int .i64) (.one (.list (.pair (.int .i64) (.one .str)))))))))))]
def laws_toFileDiffS.X : List ResultVar := [.tmp 2]
noncomputable def laws_toFileDiffS.K := fin laws_toFileDiffS.E ⟨laws_toFileDiffS.P, laws_toFileDiffS.R, fun _ _ => none⟩ laws_toFileDiffS.X laws_toFileDiffS.P.len 0
noncomputable def laws_toFileDiffS.l6 (a : List (ByteArray × Int × List (Int × Int × List (Int × ByteArray)))) (out : List (ByteArray × Int × List (Int × Int × List (Int × ByteArray)))) (i : Int) : Option ((List (ByteArray × Int × List (Int × Int × List (Int × ByteArray))))) := fixP laws_toFileDiffS.E laws_toFileDiffS.T laws_toFileDiffS.C laws_toFileDiffS.K 6 laws_toFileDiffS.D6 (a, out, i)
noncomputable def laws_toFileDiffS.f (a : List (ByteArray × Int × List (Int × Int × List (Int × ByteArray)))) : Option ((List (ByteArray × Int × List (Int × Int × List (Int × ByteArray))))) := Fn laws_toFileDiffS.E laws_toFileDiffS.T laws_toFileDiffS.C laws_toFileDiffS.P laws_toFileDiffS.R laws_toFileDiffS.X a
theorem laws_toFileDiffS.l6_eq (a : List (ByteArray × Int × List (Int × Int × List (Int × ByteArray)))) (out : List (ByteArray × Int × List (Int × Int × List (Int × ByteArray)))) (i : Int) : laws_toFileDiffS.l6 a out i =
  (bif (decide (i < (a.length : Int))) then (bif ((decide (0 ≤ i)) && (decide (i < (a.length : Int)))) then ((laws_toFileDiff.f (a.getD (i).toNat (em, 0, ([] : List (Int × Int × List (Int × ByteArray)))))).bind fun y1 =>
    bif ((decide (0 ≤ i)) && (decide (i < (out.length : Int)))) then (laws_toFileDiffS.l6 a (out.set (i).toNat (y1.1, y1.2.1, y1.2.2)) (w64 (i + 1))) else none) else none) else (some out)) :=
  (fixP_eq laws_toFileDiffS.E laws_toFileDiffS.T laws_toFileDiffS.C laws_toFileDiffS.K 6 laws_toFileDiffS.D6 (a, out, i)).trans (by kernel_rfl)
theorem laws_toFileDiffS.f_eq (a : List (ByteArray × Int × List (Int × Int × List (Int × ByteArray)))) : laws_toFileDiffS.f a =
  (bif ((decide (0 ≤ (a.length : Int))) && (decide (((a.length : Int)).toNat ≤ room 48))) then (laws_toFileDiffS.l6 a (List.replicate ((a.length : Int)).toNat (em, 0, ([] : List (Int × Int × List (Int × ByteArray))))) 0) else none) := by kernel_rfl
noncomputable def laws_toFileDiffS.S : Abs.Sum := ⟨laws_toFileDiffS.P, laws_toFileDiffS.R, fun _ => Fn laws_toFileDiffS.E laws_toFileDiffS.T laws_toFileDiffS.C laws_toFileDiffS.P laws_toFileDiffS.R laws_toFileDiffS.X⟩
theorem laws_toFileDiffS.meets : Meets Tryd.prog 8 laws_toFileDiffS.S := meets_tab (S := laws_toFileDiffS.U) tabOk_all (AllMeets.cons laws_toFileDiff.meets AllMeets.nil) (AllStill.cons (fun _ _ _ => rfl) AllStill.nil) follows (by kernel_rfl : Tryd.prog.funcs[8]? = some Tryd.f8) (by kernel_rfl) (by kernel_rfl) (by kernel_rfl)
noncomputable def spec_l1In.C : Code := Tryd.f60.body.getD .skip
def spec_l1In.P : Par := (.cons (.val (.int .i64)) (.cons (.val (.int .i64)) (.cons (.val (.int .i64)) .nil)))
noncomputable def spec_l1In.U : SumTab := []
noncomputable def spec_l1In.E : Env := mkEnv TY AR spec_l1In.U
noncomputable def spec_l1In.T : Tab := fun k => look k []
def spec_l1In.R : List (Nat × Ty) := [(0, .bool)]
def spec_l1In.X : List ResultVar := [.tmp 6]
noncomputable def spec_l1In.f (n : Int) (lo : Int) (hi : Int) : Option (Bool) := Fn spec_l1In.E spec_l1In.T spec_l1In.C spec_l1In.P spec_l1In.R spec_l1In.X (n, lo, hi)
theorem spec_l1In.f_eq (n : Int) (lo : Int) (hi : Int) : spec_l1In.f n lo hi =
  (bif (decide (n ≥ lo)) then (some (decide (n ≤ hi))) else (some false)) := by kernel_rfl
noncomputable def spec_l1In.S : Abs.Sum := ⟨spec_l1In.P, spec_l1In.R, fun _ => Fn spec_l1In.E spec_l1In.T spec_l1In.C spec_l1In.P spec_l1In.R spec_l1In.X⟩
theorem spec_l1In.meets : Meets Tryd.prog 60 spec_l1In.S := meets_tab (S := spec_l1In.U) tabOk_all AllMeets.nil AllStill.nil follows (by kernel_rfl : Tryd.prog.funcs[60]? = some Tryd.f60) (by kernel_rfl) (by kernel_rfl) (by kernel_rfl)
noncomputable def spec_l15Name.C : Code := Tryd.f43.body.getD .skip
def spec_l15Name.P : Par := (.cons (.val .str) .nil)
noncomputable def spec_l15Name.U : SumTab := [(60, [], spec_l1In.S)]
noncomputable def spec_l15Name.E : Env := mkEnv TY AR spec_l15Name.U
def spec_l15Name.D4 : CutD := ⟨[0, 3], (.cons (.val .str) (.cons (.val (.int .i64)) .nil))⟩
def spec_l15Name.D7 : CutD := ⟨[0, 3], (.cons (.val .str) (.cons (.val (.int .i64)) .nil))⟩
noncomputable def spec_l15Name.T : Tab := fun k => look k [(4, spec_l15Name.D4), (7, spec_l15Name.D7)]
def spec_l15Name.R : List (Nat × Ty) := [(0, .bool)]
def spec_l15Name.X : List ResultVar := [.tmp 2]
noncomputable def spec_l15Name.K := fin spec_l15Name.E ⟨spec_l15Name.P, spec_l15Name.R, fun _ _ => none⟩ spec_l15Name.X spec_l15Name.P.len 0
noncomputable def spec_l15Name.l4 (s : ByteArray) (i : Int) : Option (Bool) := fixP spec_l15Name.E spec_l15Name.T spec_l15Name.C spec_l15Name.K 4 spec_l15Name.D4 (s, i)
noncomputable def spec_l15Name.l7 (s : ByteArray) (i : Int) : Option (Bool) := fixP spec_l15Name.E spec_l15Name.T spec_l15Name.C spec_l15Name.K 7 spec_l15Name.D7 (s, i)
noncomputable def spec_l15Name.f (s : ByteArray) : Option (Bool) := Fn spec_l15Name.E spec_l15Name.T spec_l15Name.C spec_l15Name.P spec_l15Name.R spec_l15Name.X s
theorem spec_l15Name.l4_eq (s : ByteArray) (i : Int) : spec_l15Name.l4 s i =
  (bif (decide (i < (s.size : Int))) then (bif ((decide (0 ≤ i)) && (decide (i < (s.size : Int)))) then (bif (decide ((bt s i) < 97)) then (bif (decide ((bt s i) < 48)) then (bif (!(decide ((bt s i) = 46))) then (bif (!(decide ((bt s i) = 47))) then (some false) else
       (spec_l15Name.l7 s i)) else
      (spec_l15Name.l7 s i)) else
     (bif (decide ((bt s i) > 57)) then (bif (!(decide ((bt s i) = 46))) then (bif (!(decide ((bt s i) = 47))) then (some false) else
        (spec_l15Name.l7 s i)) else
       (spec_l15Name.l7 s i)) else
      (spec_l15Name.l7 s i))) else
    (bif (decide ((bt s i) > 122)) then (bif (decide ((bt s i) < 48)) then (bif (!(decide ((bt s i) = 46))) then (bif (!(decide ((bt s i) = 47))) then (some false) else
        (spec_l15Name.l7 s i)) else
       (spec_l15Name.l7 s i)) else
      (bif (decide ((bt s i) > 57)) then (bif (!(decide ((bt s i) = 46))) then (bif (!(decide ((bt s i) = 47))) then (some false) else
         (spec_l15Name.l7 s i)) else
        (spec_l15Name.l7 s i)) else
       (spec_l15Name.l7 s i))) else
     (spec_l15Name.l7 s i))) else none) else
  ((spec_l1In.f (s.size : Int) 1 12).bind fun y1 =>
   some y1)) :=
  (fixP_eq spec_l15Name.E spec_l15Name.T spec_l15Name.C spec_l15Name.K 4 spec_l15Name.D4 (s, i)).trans (by kernel_rfl)
theorem spec_l15Name.l7_eq (s : ByteArray) (i : Int) : spec_l15Name.l7 s i =
  (spec_l15Name.l4 s (w64 (i + 1))) :=
  (fixP_eq spec_l15Name.E spec_l15Name.T spec_l15Name.C spec_l15Name.K 7 spec_l15Name.D7 (s, i)).trans (by kernel_rfl)
theorem spec_l15Name.f_eq (s : ByteArray) : spec_l15Name.f s =
  (spec_l15Name.l4 s 0) := by kernel_rfl
noncomputable def spec_l15Name.S : Abs.Sum := ⟨spec_l15Name.P, spec_l15Name.R, fun _ => Fn spec_l15Name.E spec_l15Name.T spec_l15Name.C spec_l15Name.P spec_l15Name.R spec_l15Name.X⟩
theorem spec_l15Name.meets : Meets Tryd.prog 43 spec_l15Name.S := meets_tab (S := spec_l15Name.U) tabOk_all (AllMeets.cons spec_l1In.meets AllMeets.nil) (AllStill.cons (fun _ _ _ => rfl) AllStill.nil) follows (by kernel_rfl : Tryd.prog.funcs[43]? = some Tryd.f43) (by kernel_rfl) (by kernel_rfl) (by kernel_rfl)
noncomputable def spec_l1Line.C : Code := Tryd.f74.body.getD .skip
def spec_l1Line.P : Par := (.cons (.val .str) .nil)
noncomputable def spec_l1Line.U : SumTab := [(60, [], spec_l1In.S)]
noncomputable def spec_l1Line.E : Env := mkEnv TY AR spec_l1Line.U
def spec_l1Line.D4 : CutD := ⟨[0, 3], (.cons (.val .str) (.cons (.val (.int .i64)) .nil))⟩
noncomputable def spec_l1Line.T : Tab := fun k => look k [(4, spec_l1Line.D4)]
def spec_l1Line.R : List (Nat × Ty) := [(0, .bool)]
def spec_l1Line.X : List ResultVar := [.tmp 2]
noncomputable def spec_l1Line.K := fin spec_l1Line.E ⟨spec_l1Line.P, spec_l1Line.R, fun _ _ => none⟩ spec_l1Line.X spec_l1Line.P.len 0
noncomputable def spec_l1Line.l4 (s : ByteArray) (i : Int) : Option (Bool) := fixP spec_l1Line.E spec_l1Line.T spec_l1Line.C spec_l1Line.K 4 spec_l1Line.D4 (s, i)
noncomputable def spec_l1Line.f (s : ByteArray) : Option (Bool) := Fn spec_l1Line.E spec_l1Line.T spec_l1Line.C spec_l1Line.P spec_l1Line.R spec_l1Line.X s
theorem spec_l1Line.l4_eq (s : ByteArray) (i : Int) : spec_l1Line.l4 s i =
  (bif (decide (i < (w64 ((s.size : Int) - 1)))) then (bif ((decide (0 ≤ i)) && (decide (i < (s.size : Int)))) then (bif (decide ((bt s i) = 10)) then (some false) else
    (spec_l1Line.l4 s (w64 (i + 1)))) else none) else
  ((spec_l1In.f (s.size : Int) 1 30).bind fun y1 =>
   some y1)) :=
  (fixP_eq spec_l1Line.E spec_l1Line.T spec_l1Line.C spec_l1Line.K 4 spec_l1Line.D4 (s, i)).trans (by kernel_rfl)
theorem spec_l1Line.f_eq (s : ByteArray) : spec_l1Line.f s =
  (spec_l1Line.l4 s 0) := by kernel_rfl
noncomputable def spec_l1Line.S : Abs.Sum := ⟨spec_l1Line.P, spec_l1Line.R, fun _ => Fn spec_l1Line.E spec_l1Line.T spec_l1Line.C spec_l1Line.P spec_l1Line.R spec_l1Line.X⟩
theorem spec_l1Line.meets : Meets Tryd.prog 74 spec_l1Line.S := meets_tab (S := spec_l1Line.U) tabOk_all (AllMeets.cons spec_l1In.meets AllMeets.nil) (AllStill.cons (fun _ _ _ => rfl) AllStill.nil) follows (by kernel_rfl : Tryd.prog.funcs[74]? = some Tryd.f74) (by kernel_rfl) (by kernel_rfl) (by kernel_rfl)
noncomputable def spec_l6Old.C : Code := Tryd.f55.body.getD .skip
def spec_l6Old.P : Par := (.cons (.val (.pair (.int .i64) (.pair (.int .i64) (.one (.list (.pair (.int .i64) (.one .str))))))) .nil)
noncomputable def spec_l6Old.U : SumTab := []
noncomputable def spec_l6Old.E : Env := mkEnv TY AR spec_l6Old.U
def spec_l6Old.D6 : CutD := ⟨[3, 7, 8, 9], (.cons (.own 9 .str) (.cons (.val (.list (.pair (.int .i64) (.one .str)))) (.cons (.val (.int .i64)) (.cons (.val (.int .i64)) .nil))))⟩
noncomputable def spec_l6Old.T : Tab := fun k => look k [(6, spec_l6Old.D6)]
def spec_l6Old.R : List (Nat × Ty) := [(9, .list .str)]
def spec_l6Old.X : List ResultVar := [.tmp 2]
noncomputable def spec_l6Old.K := fin spec_l6Old.E ⟨spec_l6Old.P, spec_l6Old.R, fun _ _ => none⟩ spec_l6Old.X spec_l6Old.P.len 0
noncomputable def spec_l6Old.l6 (out : List ByteArray) (t7 : List (Int × ByteArray)) (t8 : Int) (t9 : Int) : Option ((List ByteArray)) := fixP spec_l6Old.E spec_l6Old.T spec_l6Old.C spec_l6Old.K 6 spec_l6Old.D6 (out, t7, t8, t9)
noncomputable def spec_l6Old.f (g : Int × Int × List (Int × ByteArray)) : Option ((List ByteArray)) := Fn spec_l6Old.E spec_l6Old.T spec_l6Old.C spec_l6Old.P spec_l6Old.R spec_l6Old.X g
theorem spec_l6Old.l6_eq (out : List ByteArray) (t7 : List (Int × ByteArray)) (t8 : Int) (t9 : Int) : spec_l6Old.l6 out t7 t8 t9 =
  (bif (decide (t9 < t8)) then (bif ((decide (0 ≤ t9)) && (decide (t9 < (t7.length : Int)))) then (bif (!(decide ((t7.getD (t9).toNat (0, em)).1 = 3))) then (bif (decide ((out.length + [(t7.getD (t9).toNat (0, em)).2].length) ≤ room 16)) then (spec_l6Old.l6 (out ++ [(t7.getD (t9).toNat (0, em)).2]) t7 t8 (w64 (t9 + 1))) else none) else
    (spec_l6Old.l6 out t7 t8 (w64 (t9 + 1)))) else none) else (some out)) :=
  (fixP_eq spec_l6Old.E spec_l6Old.T spec_l6Old.C spec_l6Old.K 6 spec_l6Old.D6 (out, t7, t8, t9)).trans (by kernel_rfl)
theorem spec_l6Old.f_eq (g : Int × Int × List (Int × ByteArray)) : spec_l6Old.f g =
  (spec_l6Old.l6 ([] : List ByteArray) g.2.2 (g.2.2.length : Int) 0) := by kernel_rfl
noncomputable def spec_l6Old.S : Abs.Sum := ⟨spec_l6Old.P, spec_l6Old.R, fun _ => Fn spec_l6Old.E spec_l6Old.T spec_l6Old.C spec_l6Old.P spec_l6Old.R spec_l6Old.X⟩
theorem spec_l6Old.meets : Meets Tryd.prog 55 spec_l6Old.S := meets_tab (S := spec_l6Old.U) tabOk_all AllMeets.nil AllStill.nil follows (by kernel_rfl : Tryd.prog.funcs[55]? = some Tryd.f55) (by kernel_rfl) (by kernel_rfl) (by kernel_rfl)
noncomputable def spec_l6New.C : Code := Tryd.f56.body.getD .skip
def spec_l6New.P : Par := (.cons (.val (.pair (.int .i64) (.pair (.int .i64) (.one (.list (.pair (.int .i64) (.one .str))))))) .nil)
noncomputable def spec_l6New.U : SumTab := []
noncomputable def spec_l6New.E : Env := mkEnv TY AR spec_l6New.U
def spec_l6New.D6 : CutD := ⟨[3, 7, 8, 9], (.cons (.own 9 .str) (.cons (.val (.list (.pair (.int .i64) (.one .str)))) (.cons (.val (.int .i64)) (.cons (.val (.int .i64)) .nil))))⟩
noncomputable def spec_l6New.T : Tab := fun k => look k [(6, spec_l6New.D6)]
def spec_l6New.R : List (Nat × Ty) := [(9, .list .str)]
def spec_l6New.X : List ResultVar := [.tmp 2]
noncomputable def spec_l6New.K := fin spec_l6New.E ⟨spec_l6New.P, spec_l6New.R, fun _ _ => none⟩ spec_l6New.X spec_l6New.P.len 0
noncomputable def spec_l6New.l6 (out : List ByteArray) (t7 : List (Int × ByteArray)) (t8 : Int) (t9 : Int) : Option ((List ByteArray)) := fixP spec_l6New.E spec_l6New.T spec_l6New.C spec_l6New.K 6 spec_l6New.D6 (out, t7, t8, t9)
noncomputable def spec_l6New.f (g : Int × Int × List (Int × ByteArray)) : Option ((List ByteArray)) := Fn spec_l6New.E spec_l6New.T spec_l6New.C spec_l6New.P spec_l6New.R spec_l6New.X g
theorem spec_l6New.l6_eq (out : List ByteArray) (t7 : List (Int × ByteArray)) (t8 : Int) (t9 : Int) : spec_l6New.l6 out t7 t8 t9 =
  (bif (decide (t9 < t8)) then (bif ((decide (0 ≤ t9)) && (decide (t9 < (t7.length : Int)))) then (bif (!(decide ((t7.getD (t9).toNat (0, em)).1 = 2))) then (bif (decide ((out.length + [(t7.getD (t9).toNat (0, em)).2].length) ≤ room 16)) then (spec_l6New.l6 (out ++ [(t7.getD (t9).toNat (0, em)).2]) t7 t8 (w64 (t9 + 1))) else none) else
    (spec_l6New.l6 out t7 t8 (w64 (t9 + 1)))) else none) else (some out)) :=
  (fixP_eq spec_l6New.E spec_l6New.T spec_l6New.C spec_l6New.K 6 spec_l6New.D6 (out, t7, t8, t9)).trans (by kernel_rfl)
theorem spec_l6New.f_eq (g : Int × Int × List (Int × ByteArray)) : spec_l6New.f g =
  (spec_l6New.l6 ([] : List ByteArray) g.2.2 (g.2.2.length : Int) 0) := by kernel_rfl
noncomputable def spec_l6New.S : Abs.Sum := ⟨spec_l6New.P, spec_l6New.R, fun _ => Fn spec_l6New.E spec_l6New.T spec_l6New.C spec_l6New.P spec_l6New.R spec_l6New.X⟩
theorem spec_l6New.meets : Meets Tryd.prog 56 spec_l6New.S := meets_tab (S := spec_l6New.U) tabOk_all AllMeets.nil AllStill.nil follows (by kernel_rfl : Tryd.prog.funcs[56]? = some Tryd.f56) (by kernel_rfl) (by kernel_rfl) (by kernel_rfl)
noncomputable def spec_l1Ends.C : Code := Tryd.f90.body.getD .skip
def spec_l1Ends.P : Par := (.cons (.val .str) .nil)
noncomputable def spec_l1Ends.U : SumTab := []
noncomputable def spec_l1Ends.E : Env := mkEnv TY AR spec_l1Ends.U
noncomputable def spec_l1Ends.T : Tab := fun k => look k []
def spec_l1Ends.R : List (Nat × Ty) := [(0, .bool)]
def spec_l1Ends.X : List ResultVar := [.tmp 2]
noncomputable def spec_l1Ends.f (s : ByteArray) : Option (Bool) := Fn spec_l1Ends.E spec_l1Ends.T spec_l1Ends.C spec_l1Ends.P spec_l1Ends.R spec_l1Ends.X s
theorem spec_l1Ends.f_eq (s : ByteArray) : spec_l1Ends.f s =
  (bif ((decide (0 ≤ (w64 ((s.size : Int) - 1)))) && (decide ((w64 ((s.size : Int) - 1)) < (s.size : Int)))) then (some (decide ((bt s (w64 ((s.size : Int) - 1))) = 10))) else none) := by kernel_rfl
noncomputable def spec_l1Ends.S : Abs.Sum := ⟨spec_l1Ends.P, spec_l1Ends.R, fun _ => Fn spec_l1Ends.E spec_l1Ends.T spec_l1Ends.C spec_l1Ends.P spec_l1Ends.R spec_l1Ends.X⟩
theorem spec_l1Ends.meets : Meets Tryd.prog 90 spec_l1Ends.S := meets_tab (S := spec_l1Ends.U) tabOk_all AllMeets.nil AllStill.nil follows (by kernel_rfl : Tryd.prog.funcs[90]? = some Tryd.f90) (by kernel_rfl) (by kernel_rfl) (by kernel_rfl)
noncomputable def spec_l5Lines.C : Code := Tryd.f75.body.getD .skip
def spec_l5Lines.P : Par := (.cons (.val (.list .str)) .nil)
noncomputable def spec_l5Lines.U : SumTab := [(74, [], spec_l1Line.S), (90, [], spec_l1Ends.S)]
noncomputable def spec_l5Lines.E : Env := mkEnv TY AR spec_l5Lines.U
def spec_l5Lines.D4 : CutD := ⟨[0, 5, 6, 7], (.cons (.val (.list .str)) (.cons (.val (.list .str)) (.cons (.val (.int .i64)) (.cons (.val (.int .i64)) .nil))))⟩
noncomputable def spec_l5Lines.T : Tab := fun k => look k [(4, spec_l5Lines.D4)]
def spec_l5Lines.R : List (Nat × Ty) := [(0, .bool)]
def spec_l5Lines.X : List ResultVar := [.tmp 2]
noncomputable def spec_l5Lines.K := fin spec_l5Lines.E ⟨spec_l5Lines.P, spec_l5Lines.R, fun _ _ => none⟩ spec_l5Lines.X spec_l5Lines.P.len 0
noncomputable def spec_l5Lines.l4 (l : List ByteArray) (t5 : List ByteArray) (t6 : Int) (t7 : Int) : Option (Bool) := fixP spec_l5Lines.E spec_l5Lines.T spec_l5Lines.C spec_l5Lines.K 4 spec_l5Lines.D4 (l, t5, t6, t7)
noncomputable def spec_l5Lines.f (l : List ByteArray) : Option (Bool) := Fn spec_l5Lines.E spec_l5Lines.T spec_l5Lines.C spec_l5Lines.P spec_l5Lines.R spec_l5Lines.X l
theorem spec_l5Lines.l4_eq (l : List ByteArray) (t5 : List ByteArray) (t6 : Int) (t7 : Int) : spec_l5Lines.l4 l t5 t6 t7 =
  (bif (decide (t7 < t6)) then (bif ((decide (0 ≤ t7)) && (decide (t7 < (t5.length : Int)))) then ((spec_l1Line.f (t5.getD (t7).toNat em)).bind fun y1 =>
    bif (!y1) then (some false) else
    (bif (decide (t7 < (w64 ((l.length : Int) - 1)))) then ((spec_l1Ends.f (t5.getD (t7).toNat em)).bind fun y2 =>
      bif (!y2) then (some false) else
      (spec_l5Lines.l4 l t5 t6 (w64 (t7 + 1)))) else
     (spec_l5Lines.l4 l t5 t6 (w64 (t7 + 1))))) else none) else (some (decide ((l.length : Int) ≤ 40)))) :=
  (fixP_eq spec_l5Lines.E spec_l5Lines.T spec_l5Lines.C spec_l5Lines.K 4 spec_l5Lines.D4 (l, t5, t6, t7)).trans (by kernel_rfl)
theorem spec_l5Lines.f_eq (l : List ByteArray) : spec_l5Lines.f l =
  (spec_l5Lines.l4 l l (l.length : Int) 0) := by kernel_rfl
noncomputable def spec_l5Lines.S : Abs.Sum := ⟨spec_l5Lines.P, spec_l5Lines.R, fun _ => Fn spec_l5Lines.E spec_l5Lines.T spec_l5Lines.C spec_l5Lines.P spec_l5Lines.R spec_l5Lines.X⟩
theorem spec_l5Lines.meets : Meets Tryd.prog 75 spec_l5Lines.S := meets_tab (S := spec_l5Lines.U) tabOk_all (AllMeets.cons spec_l1Line.meets (AllMeets.cons spec_l1Ends.meets AllMeets.nil)) (AllStill.cons (fun _ _ _ => rfl) (AllStill.cons (fun _ _ _ => rfl) AllStill.nil)) follows (by kernel_rfl : Tryd.prog.funcs[75]? = some Tryd.f75) (by kernel_rfl) (by kernel_rfl) (by kernel_rfl)
noncomputable def spec_l6Group.C : Code := Tryd.f54.body.getD .skip
def spec_l6Group.P : Par := (.cons (.val (.pair (.int .i64) (.pair (.int .i64) (.one (.list (.pair (.int .i64) (.one .str))))))) .nil)
noncomputable def spec_l6Group.U : SumTab := [(60, [], spec_l1In.S), (74, [], spec_l1Line.S), (55, [], spec_l6Old.S), (56, [], spec_l6New.S), (75, [], spec_l5Lines.S)]
noncomputable def spec_l6Group.E : Env := mkEnv TY AR spec_l6Group.U
def spec_l6Group.D6 : CutD := ⟨[1, 3, 7, 8, 9], (.cons (.box 0 (.pair (.int .i64) (.pair (.int .i64) (.one (.list (.pair (.int .i64) (.one .str))))))) (.cons (.val .bool) (.cons (.val (.list (.pair (.int .i64) (.one .str)))) (.cons (.val (.int .i64)) (.cons (.val (.int .i64)) .nil)))))⟩
def spec_l6Group.D15 : CutD := ⟨[1, 3, 5, 7, 8, 9], (.cons (.box 0 (.pair (.int .i64) (.pair (.int .i64) (.one (.list (.pair (.int .i64) (.one .str))))))) (.cons (.val .bool) (.cons (.box 9 (.pair (.int .i64) (.one .str))) (.cons (.val (.list (.pair (.int .i64) (.one .str)))) (.cons (.val (.int .i64)) (.cons (.val (.int .i64)) .nil))))))⟩
noncomputable def spec_l6Group.T : Tab := fun k => look k [(6, spec_l6Group.D6), (15, spec_l6Group.D15)]
def spec_l6Group.R : List (Nat × Ty) := [(0, .bool)]
def spec_l6Group.X : List ResultVar := [.tmp 2]
noncomputable def spec_l6Group.K := fin spec_l6Group.E ⟨spec_l6Group.P, spec_l6Group.R, fun _ _ => none⟩ spec_l6Group.X spec_l6Group.P.len 0
noncomputable def spec_l6Group.l6 (g : Int × Int × List (Int × ByteArray)) (t3 : Bool) (t7 : List (Int × ByteArray)) (t8 : Int) (t9 : Int) : Option (Bool) := fixP spec_l6Group.E spec_l6Group.T spec_l6Group.C spec_l6Group.K 6 spec_l6Group.D6 (g, t3, t7, t8, t9)
noncomputable def spec_l6Group.l15 (g : Int × Int × List (Int × ByteArray)) (t3 : Bool) (r : Int × ByteArray) (t7 : List (Int × ByteArray)) (t8 : Int) (t9 : Int) : Option (Bool) := fixP spec_l6Group.E spec_l6Group.T spec_l6Group.C spec_l6Group.K 15 spec_l6Group.D15 (g, t3, r, t7, t8, t9)
noncomputable def spec_l6Group.f (g : Int × Int × List (Int × ByteArray)) : Option (Bool) := Fn spec_l6Group.E spec_l6Group.T spec_l6Group.C spec_l6Group.P spec_l6Group.R spec_l6Group.X g
theorem spec_l6Group.l6_eq (g : Int × Int × List (Int × ByteArray)) (t3 : Bool) (t7 : List (Int × ByteArray)) (t8 : Int) (t9 : Int) : spec_l6Group.l6 g t3 t7 t8 t9 =
  (bif (decide (t9 < t8)) then (bif ((decide (0 ≤ t9)) && (decide (t9 < (t7.length : Int)))) then ((spec_l1In.f (t7.getD (t9).toNat (0, em)).1 1 3).bind fun y1 =>
    bif (!y1) then (some false) else
    ((spec_l1Line.f (t7.getD (t9).toNat (0, em)).2).bind fun y2 =>
     bif (!y2) then (some false) else
     (bif (decide (t9 > 0)) then (bif (decide ((t7.getD (t9).toNat (0, em)).1 = 2)) then (bif ((decide (0 ≤ (w64 (t9 - 1)))) && (decide ((w64 (t9 - 1)) < (g.2.2.length : Int)))) then (bif (decide ((g.2.2.getD ((w64 (t9 - 1))).toNat (0, em)).1 = 3)) then (some false) else
         (spec_l6Group.l15 g t3 (t7.getD (t9).toNat (0, em)) t7 t8 t9)) else none) else
       (spec_l6Group.l15 g t3 (t7.getD (t9).toNat (0, em)) t7 t8 t9)) else
      (spec_l6Group.l15 g t3 (t7.getD (t9).toNat (0, em)) t7 t8 t9)))) else none) else
  (bif t3 then ((spec_l1In.f g.1 0 999).bind fun y1 =>
    bif y1 then ((spec_l1In.f g.2.1 0 999).bind fun y2 =>
     bif y2 then ((spec_l6Old.f g).bind fun y3 =>
      bif (decide ((w64 (g.1 + (y3.length : Int))) ≤ 1000)) then ((spec_l6New.f g).bind fun y4 =>
       bif (decide ((w64 (g.2.1 + (y4.length : Int))) ≤ 1000)) then (bif (decide ((g.2.2.length : Int) ≤ 80)) then ((spec_l6Old.f g).bind fun y5 =>
         (spec_l5Lines.f y5).bind fun y6 =>
         bif y6 then ((spec_l6New.f g).bind fun y7 =>
          (spec_l5Lines.f y7).bind fun y8 =>
          some y8) else (some false)) else (some false)) else (some false)) else (some false)) else (some false)) else (some false)) else (some false))) :=
  (fixP_eq spec_l6Group.E spec_l6Group.T spec_l6Group.C spec_l6Group.K 6 spec_l6Group.D6 (g, t3, t7, t8, t9)).trans (by kernel_rfl)
theorem spec_l6Group.l15_eq (g : Int × Int × List (Int × ByteArray)) (t3 : Bool) (r : Int × ByteArray) (t7 : List (Int × ByteArray)) (t8 : Int) (t9 : Int) : spec_l6Group.l15 g t3 r t7 t8 t9 =
  (bif t3 then (spec_l6Group.l6 g true t7 t8 (w64 (t9 + 1))) else
  (spec_l6Group.l6 g (!(decide (r.1 = 1))) t7 t8 (w64 (t9 + 1)))) :=
  (fixP_eq spec_l6Group.E spec_l6Group.T spec_l6Group.C spec_l6Group.K 15 spec_l6Group.D15 (g, t3, r, t7, t8, t9)).trans (by kernel_rfl)
theorem spec_l6Group.f_eq (g : Int × Int × List (Int × ByteArray)) : spec_l6Group.f g =
  (spec_l6Group.l6 g false g.2.2 (g.2.2.length : Int) 0) := by kernel_rfl
noncomputable def spec_l6Group.S : Abs.Sum := ⟨spec_l6Group.P, spec_l6Group.R, fun _ => Fn spec_l6Group.E spec_l6Group.T spec_l6Group.C spec_l6Group.P spec_l6Group.R spec_l6Group.X⟩
theorem spec_l6Group.meets : Meets Tryd.prog 54 spec_l6Group.S := meets_tab (S := spec_l6Group.U) tabOk_all (AllMeets.cons spec_l1In.meets (AllMeets.cons spec_l1Line.meets (AllMeets.cons spec_l6Old.meets (AllMeets.cons spec_l6New.meets (AllMeets.cons spec_l5Lines.meets AllMeets.nil))))) (AllStill.cons (fun _ _ _ => rfl) (AllStill.cons (fun _ _ _ => rfl) (AllStill.cons (fun _ _ _ => rfl) (AllStill.cons (fun _ _ _ => rfl) (AllStill.cons (fun _ _ _ => rfl) AllStill.nil))))) follows (by kernel_rfl : Tryd.prog.funcs[54]? = some Tryd.f54) (by kernel_rfl) (by kernel_rfl) (by kernel_rfl)
noncomputable def spec_l6Good.C : Code := Tryd.f36.body.getD .skip
def spec_l6Good.P : Par := (.cons (.val (.list (.pair (.int .i64) (.pair (.int .i64) (.one (.list (.pair (.int .i64) (.one .str)))))))) .nil)
noncomputable def spec_l6Good.U : SumTab := [(54, [], spec_l6Group.S), (55, [], spec_l6Old.S), (56, [], spec_l6New.S)]
noncomputable def spec_l6Good.E : Env := mkEnv TY AR spec_l6Good.U
def spec_l6Good.D4 : CutD := ⟨[0, 5, 6, 7], (.cons (.val (.list (.pair (.int .i64) (.pair (.int .i64) (.one (.list (.pair (.int .i64) (.one .str)))))))) (.cons (.val (.list (.pair (.int .i64) (.pair (.int .i64) (.one (.list (.pair (.int .i64) (.one .str)))))))) (.cons (.val (.int .i64)) (.cons (.val (.int .i64)) .nil))))⟩
noncomputable def spec_l6Good.T : Tab := fun k => look k [(4, spec_l6Good.D4)]
def spec_l6Good.R : List (Nat × Ty) := [(0, .bool)]
def spec_l6Good.X : List ResultVar := [.tmp 2]
noncomputable def spec_l6Good.K := fin spec_l6Good.E ⟨spec_l6Good.P, spec_l6Good.R, fun _ _ => none⟩ spec_l6Good.X spec_l6Good.P.len 0
noncomputable def spec_l6Good.l4 (g : List (Int × Int × List (Int × ByteArray))) (t5 : List (Int × Int × List (Int × ByteArray))) (t6 : Int) (t7 : Int) : Option (Bool) := fixP spec_l6Good.E spec_l6Good.T spec_l6Good.C spec_l6Good.K 4 spec_l6Good.D4 (g, t5, t6, t7)
noncomputable def spec_l6Good.f (g : List (Int × Int × List (Int × ByteArray))) : Option (Bool) := Fn spec_l6Good.E spec_l6Good.T spec_l6Good.C spec_l6Good.P spec_l6Good.R spec_l6Good.X g
theorem spec_l6Good.l4_eq (g : List (Int × Int × List (Int × ByteArray))) (t5 : List (Int × Int × List (Int × ByteArray))) (t6 : Int) (t7 : Int) : spec_l6Good.l4 g t5 t6 t7 =
  (bif (decide (t7 < t6)) then (bif ((decide (0 ≤ t7)) && (decide (t7 < (t5.length : Int)))) then ((spec_l6Group.f (t5.getD (t7).toNat (0, 0, ([] : List (Int × ByteArray))))).bind fun y1 =>
    bif (!y1) then (some false) else
    (bif (decide (t7 > 0)) then (bif ((decide (0 ≤ (w64 (t7 - 1)))) && (decide ((w64 (t7 - 1)) < (g.length : Int)))) then (bif ((decide (0 ≤ (w64 (t7 - 1)))) && (decide ((w64 (t7 - 1)) < (g.length : Int)))) then ((spec_l6Old.f (g.getD ((w64 (t7 - 1))).toNat (0, 0, ([] : List (Int × ByteArray))))).bind fun y2 =>
        bif (decide ((t5.getD (t7).toNat (0, 0, ([] : List (Int × ByteArray)))).1 < (w64 ((g.getD ((w64 (t7 - 1))).toNat (0, 0, ([] : List (Int × ByteArray)))).1 + (y2.length : Int))))) then (some false) else
        (bif ((decide (0 ≤ (w64 (t7 - 1)))) && (decide ((w64 (t7 - 1)) < (g.length : Int)))) then (bif ((decide (0 ≤ (w64 (t7 - 1)))) && (decide ((w64 (t7 - 1)) < (g.length : Int)))) then ((spec_l6New.f (g.getD ((w64 (t7 - 1))).toNat (0, 0, ([] : List (Int × ByteArray))))).bind fun y3 =>
           bif (decide ((t5.getD (t7).toNat (0, 0, ([] : List (Int × ByteArray)))).2.1 < (w64 ((g.getD ((w64 (t7 - 1))).toNat (0, 0, ([] : List (Int × ByteArray)))).2.1 + (y3.length : Int))))) then (some false) else
           (spec_l6Good.l4 g t5 t6 (w64 (t7 + 1)))) else none) else none)) else none) else none) else
     (spec_l6Good.l4 g t5 t6 (w64 (t7 + 1))))) else none) else (some (decide ((g.length : Int) ≤ 20)))) :=
  (fixP_eq spec_l6Good.E spec_l6Good.T spec_l6Good.C spec_l6Good.K 4 spec_l6Good.D4 (g, t5, t6, t7)).trans (by kernel_rfl)
theorem spec_l6Good.f_eq (g : List (Int × Int × List (Int × ByteArray))) : spec_l6Good.f g =
  (spec_l6Good.l4 g g (g.length : Int) 0) := by kernel_rfl
noncomputable def spec_l6Good.S : Abs.Sum := ⟨spec_l6Good.P, spec_l6Good.R, fun _ => Fn spec_l6Good.E spec_l6Good.T spec_l6Good.C spec_l6Good.P spec_l6Good.R spec_l6Good.X⟩
theorem spec_l6Good.meets : Meets Tryd.prog 36 spec_l6Good.S := meets_tab (S := spec_l6Good.U) tabOk_all (AllMeets.cons spec_l6Group.meets (AllMeets.cons spec_l6Old.meets (AllMeets.cons spec_l6New.meets AllMeets.nil))) (AllStill.cons (fun _ _ _ => rfl) (AllStill.cons (fun _ _ _ => rfl) (AllStill.cons (fun _ _ _ => rfl) AllStill.nil))) follows (by kernel_rfl : Tryd.prog.funcs[36]? = some Tryd.f36) (by kernel_rfl) (by kernel_rfl) (by kernel_rfl)
noncomputable def spec_l15All.C : Code := Tryd.f44.body.getD .skip
def spec_l15All.P : Par := (.cons (.val (.list (.pair (.int .i64) (.pair (.int .i64) (.one (.list (.pair (.int .i64) (.one .str)))))))) (.cons (.val (.int .i64)) .nil))
noncomputable def spec_l15All.U : SumTab := []
noncomputable def spec_l15All.E : Env := mkEnv TY AR spec_l15All.U
def spec_l15All.D4 : CutD := ⟨[0, 1, 9, 10, 11], (.cons (.val (.list (.pair (.int .i64) (.pair (.int .i64) (.one (.list (.pair (.int .i64) (.one .str)))))))) (.cons (.val (.int .i64)) (.cons (.val (.list (.pair (.int .i64) (.pair (.int .i64) (.one (.list (.pair (.int .i64) (.one .str)))))))) (.cons (.val (.int .i64)) (.cons (.val (.int .i64)) .nil)))))⟩
def spec_l15All.D10 : CutD := ⟨[0, 1, 6, 9, 10, 11, 16, 17, 18], (.cons (.val (.list (.pair (.int .i64) (.pair (.int .i64) (.one (.list (.pair (.int .i64) (.one .str)))))))) (.cons (.val (.int .i64)) (.cons (.box 0 (.pair (.int .i64) (.pair (.int .i64) (.one (.list (.pair (.int .i64) (.one .str))))))) (.cons (.val (.list (.pair (.int .i64) (.pair (.int .i64) (.one (.list (.pair (.int .i64) (.one .str)))))))) (.cons (.val (.int .i64)) (.cons (.val (.int .i64)) (.cons (.val (.list (.pair (.int .i64) (.one .str)))) (.cons (.val (.int .i64)) (.cons (.val (.int .i64)) .nil)))))))))⟩
noncomputable def spec_l15All.T : Tab := fun k => look k [(4, spec_l15All.D4), (10, spec_l15All.D10)]
def spec_l15All.R : List (Nat × Ty) := [(0, .bool)]
def spec_l15All.X : List ResultVar := [.tmp 4]
noncomputable def spec_l15All.K := fin spec_l15All.E ⟨spec_l15All.P, spec_l15All.R, fun _ _ => none⟩ spec_l15All.X spec_l15All.P.len 0
noncomputable def spec_l15All.l4 (g : List (Int × Int × List (Int × ByteArray))) (kind : Int) (t9 : List (Int × Int × List (Int × ByteArray))) (t10 : Int) (t11 : Int) : Option (Bool) := fixP spec_l15All.E spec_l15All.T spec_l15All.C spec_l15All.K 4 spec_l15All.D4 (g, kind, t9, t10, t11)
noncomputable def spec_l15All.l10 (g : List (Int × Int × List (Int × ByteArray))) (kind : Int) (x : Int × Int × List (Int × ByteArray)) (t9 : List (Int × Int × List (Int × ByteArray))) (t10 : Int) (t11 : Int) (t16 : List (Int × ByteArray)) (t17 : Int) (t18 : Int) : Option (Bool) := fixP spec_l15All.E spec_l15All.T spec_l15All.C spec_l15All.K 10 spec_l15All.D10 (g, kind, x, t9, t10, t11, t16, t17, t18)
noncomputable def spec_l15All.f (g : List (Int × Int × List (Int × ByteArray))) (kind : Int) : Option (Bool) := Fn spec_l15All.E spec_l15All.T spec_l15All.C spec_l15All.P spec_l15All.R spec_l15All.X (g, kind)
theorem spec_l15All.l4_eq (g : List (Int × Int × List (Int × ByteArray))) (kind : Int) (t9 : List (Int × Int × List (Int × ByteArray))) (t10 : Int) (t11 : Int) : spec_l15All.l4 g kind t9 t10 t11 =
  (bif (decide (t11 < t10)) then (bif ((decide (0 ≤ t11)) && (decide (t11 < (t9.length : Int)))) then (spec_l15All.l10 g kind (t9.getD (t11).toNat (0, 0, ([] : List (Int × ByteArray)))) t9 t10 t11 (t9.getD (t11).toNat (0, 0, ([] : List (Int × ByteArray)))).2.2 ((t9.getD (t11).toNat (0, 0, ([] : List (Int × ByteArray)))).2.2.length : Int) 0) else none) else (some (decide ((g.length : Int) ≤ 1)))) :=
  (fixP_eq spec_l15All.E spec_l15All.T spec_l15All.C spec_l15All.K 4 spec_l15All.D4 (g, kind, t9, t10, t11)).trans (by kernel_rfl)
theorem spec_l15All.l10_eq (g : List (Int × Int × List (Int × ByteArray))) (kind : Int) (x : Int × Int × List (Int × ByteArray)) (t9 : List (Int × Int × List (Int × ByteArray))) (t10 : Int) (t11 : Int) (t16 : List (Int × ByteArray)) (t17 : Int) (t18 : Int) : spec_l15All.l10 g kind x t9 t10 t11 t16 t17 t18 =
  (bif (decide (t18 < t17)) then (bif ((decide (0 ≤ t18)) && (decide (t18 < (t16.length : Int)))) then (bif (!(decide ((t16.getD (t18).toNat (0, em)).1 = kind))) then (some false) else
    (spec_l15All.l10 g kind x t9 t10 t11 t16 t17 (w64 (t18 + 1)))) else none) else
  (bif (!(decide (x.1 = 0))) then (some false) else
   (bif (!(decide (x.2.1 = 0))) then (some false) else
    (spec_l15All.l4 g kind t9 t10 (w64 (t11 + 1)))))) :=
  (fixP_eq spec_l15All.E spec_l15All.T spec_l15All.C spec_l15All.K 10 spec_l15All.D10 (g, kind, x, t9, t10, t11, t16, t17, t18)).trans (by kernel_rfl)
theorem spec_l15All.f_eq (g : List (Int × Int × List (Int × ByteArray))) (kind : Int) : spec_l15All.f g kind =
  (spec_l15All.l4 g kind g (g.length : Int) 0) := by kernel_rfl
noncomputable def spec_l15All.S : Abs.Sum := ⟨spec_l15All.P, spec_l15All.R, fun _ => Fn spec_l15All.E spec_l15All.T spec_l15All.C spec_l15All.P spec_l15All.R spec_l15All.X⟩
theorem spec_l15All.meets : Meets Tryd.prog 44 spec_l15All.S := meets_tab (S := spec_l15All.U) tabOk_all AllMeets.nil AllStill.nil follows (by kernel_rfl : Tryd.prog.funcs[44]? = some Tryd.f44) (by kernel_rfl) (by kernel_rfl) (by kernel_rfl)
noncomputable def spec_l15Diff.C : Code := Tryd.f30.body.getD .skip
def spec_l15Diff.P : Par := (.cons (.val (.pair .str (.pair (.int .i64) (.one (.list (.pair (.int .i64) (.pair (.int .i64) (.one (.list (.pair (.int .i64) (.one .str))))))))))) .nil)
noncomputable def spec_l15Diff.U : SumTab := [(43, [], spec_l15Name.S), (36, [], spec_l6Good.S), (44, [], spec_l15All.S)]
noncomputable def spec_l15Diff.E : Env := mkEnv TY AR spec_l15Diff.U
def spec_l15Diff.D7 : CutD := ⟨[1], (.cons (.box 0 (.pair .str (.pair (.int .i64) (.one (.list (.pair (.int .i64) (.pair (.int .i64) (.one (.list (.pair (.int .i64) (.one .str))))))))))) .nil)⟩
noncomputable def spec_l15Diff.T : Tab := fun k => look k [(7, spec_l15Diff.D7)]
def spec_l15Diff.R : List (Nat × Ty) := [(0, .bool)]
def spec_l15Diff.X : List ResultVar := [.tmp 2]
noncomputable def spec_l15Diff.K := fin spec_l15Diff.E ⟨spec_l15Diff.P, spec_l15Diff.R, fun _ _ => none⟩ spec_l15Diff.X spec_l15Diff.P.len 0
noncomputable def spec_l15Diff.l7 (x : ByteArray × Int × List (Int × Int × List (Int × ByteArray))) : Option (Bool) := fixP spec_l15Diff.E spec_l15Diff.T spec_l15Diff.C spec_l15Diff.K 7 spec_l15Diff.D7 x
noncomputable def spec_l15Diff.f (x : ByteArray × Int × List (Int × Int × List (Int × ByteArray))) : Option (Bool) := Fn spec_l15Diff.E spec_l15Diff.T spec_l15Diff.C spec_l15Diff.P spec_l15Diff.R spec_l15Diff.X x
theorem spec_l15Diff.l7_eq (x : ByteArray × Int × List (Int × Int × List (Int × ByteArray))) : spec_l15Diff.l7 x =
  (bif (decide (x.2.1 = 1)) then ((spec_l15All.f x.2.2 3).bind fun y1 =>
   some y1) else
  (bif (decide (x.2.1 = 2)) then ((spec_l15All.f x.2.2 2).bind fun y1 =>
    some y1) else
   (bif (decide (x.2.1 = 3)) then (some (decide ((x.2.2.length : Int) > 0))) else (some false)))) :=
  (fixP_eq spec_l15Diff.E spec_l15Diff.T spec_l15Diff.C spec_l15Diff.K 7 spec_l15Diff.D7 x).trans (by kernel_rfl)
theorem spec_l15Diff.f_eq (x : ByteArray × Int × List (Int × Int × List (Int × ByteArray))) : spec_l15Diff.f x =
  ((spec_l15Name.f x.1).bind fun y1 =>
  bif (!y1) then (some false) else
  ((spec_l6Good.f x.2.2).bind fun y2 =>
   bif (!y2) then (some false) else
   (spec_l15Diff.l7 x))) := by kernel_rfl
noncomputable def spec_l15Diff.S : Abs.Sum := ⟨spec_l15Diff.P, spec_l15Diff.R, fun _ => Fn spec_l15Diff.E spec_l15Diff.T spec_l15Diff.C spec_l15Diff.P spec_l15Diff.R spec_l15Diff.X⟩
theorem spec_l15Diff.meets : Meets Tryd.prog 30 spec_l15Diff.S := meets_tab (S := spec_l15Diff.U) tabOk_all (AllMeets.cons spec_l15Name.meets (AllMeets.cons spec_l6Good.meets (AllMeets.cons spec_l15All.meets AllMeets.nil))) (AllStill.cons (fun _ _ _ => rfl) (AllStill.cons (fun _ _ _ => rfl) (AllStill.cons (fun _ _ _ => rfl) AllStill.nil))) follows (by kernel_rfl : Tryd.prog.funcs[30]? = some Tryd.f30) (by kernel_rfl) (by kernel_rfl) (by kernel_rfl)
noncomputable def spec_l15Diffs.C : Code := Tryd.f18.body.getD .skip
def spec_l15Diffs.P : Par := (.cons (.val (.list (.pair .str (.pair (.int .i64) (.one (.list (.pair (.int .i64) (.pair (.int .i64) (.one (.list (.pair (.int .i64) (.one .str)))))))))))) .nil)
noncomputable def spec_l15Diffs.U : SumTab := [(30, [], spec_l15Diff.S)]
noncomputable def spec_l15Diffs.E : Env := mkEnv TY AR spec_l15Diffs.U
def spec_l15Diffs.D4 : CutD := ⟨[0, 5, 6, 7], (.cons (.val (.list (.pair .str (.pair (.int .i64) (.one (.list (.pair (.int .i64) (.pair (.int .i64) (.one (.list (.pair (.int .i64) (.one .str)))))))))))) (.cons (.val (.list (.pair .str (.pair (.int .i64) (.one (.list (.pair (.int .i64) (.pair (.int .i64) (.one (.list (.pair (.int .i64) (.one .str)))))))))))) (.cons (.val (.int .i64)) (.cons (.val (.int .i64)) .nil))))⟩
noncomputable def spec_l15Diffs.T : Tab := fun k => look k [(4, spec_l15Diffs.D4)]
def spec_l15Diffs.R : List (Nat × Ty) := [(0, .bool)]
def spec_l15Diffs.X : List ResultVar := [.tmp 2]
noncomputable def spec_l15Diffs.K := fin spec_l15Diffs.E ⟨spec_l15Diffs.P, spec_l15Diffs.R, fun _ _ => none⟩ spec_l15Diffs.X spec_l15Diffs.P.len 0
noncomputable def spec_l15Diffs.l4 (d : List (ByteArray × Int × List (Int × Int × List (Int × ByteArray)))) (t5 : List (ByteArray × Int × List (Int × Int × List (Int × ByteArray)))) (t6 : Int) (t7 : Int) : Option (Bool) := fixP spec_l15Diffs.E spec_l15Diffs.T spec_l15Diffs.C spec_l15Diffs.K 4 spec_l15Diffs.D4 (d, t5, t6, t7)
noncomputable def spec_l15Diffs.f (d : List (ByteArray × Int × List (Int × Int × List (Int × ByteArray)))) : Option (Bool) := Fn spec_l15Diffs.E spec_l15Diffs.T spec_l15Diffs.C spec_l15Diffs.P spec_l15Diffs.R spec_l15Diffs.X d
theorem spec_l15Diffs.l4_eq (d : List (ByteArray × Int × List (Int × Int × List (Int × ByteArray)))) (t5 : List (ByteArray × Int × List (Int × Int × List (Int × ByteArray)))) (t6 : Int) (t7 : Int) : spec_l15Diffs.l4 d t5 t6 t7 =
  (bif (decide (t7 < t6)) then (bif ((decide (0 ≤ t7)) && (decide (t7 < (t5.length : Int)))) then ((spec_l15Diff.f (t5.getD (t7).toNat (em, 0, ([] : List (Int × Int × List (Int × ByteArray)))))).bind fun y1 =>
    bif (!y1) then (some false) else
    (bif (decide (t7 > 0)) then (bif ((decide (0 ≤ (w64 (t7 - 1)))) && (decide ((w64 (t7 - 1)) < (d.length : Int)))) then (bif (!(Op.bytesLess (d.getD ((w64 (t7 - 1))).toNat (em, 0, ([] : List (Int × Int × List (Int × ByteArray))))).1.toList (t5.getD (t7).toNat (em, 0, ([] : List (Int × Int × List (Int × ByteArray))))).1.toList)) then (some false) else
       (spec_l15Diffs.l4 d t5 t6 (w64 (t7 + 1)))) else none) else
     (spec_l15Diffs.l4 d t5 t6 (w64 (t7 + 1))))) else none) else (some (decide ((d.length : Int) ≤ 16)))) :=
  (fixP_eq spec_l15Diffs.E spec_l15Diffs.T spec_l15Diffs.C spec_l15Diffs.K 4 spec_l15Diffs.D4 (d, t5, t6, t7)).trans (by kernel_rfl)
theorem spec_l15Diffs.f_eq (d : List (ByteArray × Int × List (Int × Int × List (Int × ByteArray)))) : spec_l15Diffs.f d =
  (spec_l15Diffs.l4 d d (d.length : Int) 0) := by kernel_rfl
noncomputable def spec_l15Diffs.S : Abs.Sum := ⟨spec_l15Diffs.P, spec_l15Diffs.R, fun _ => Fn spec_l15Diffs.E spec_l15Diffs.T spec_l15Diffs.C spec_l15Diffs.P spec_l15Diffs.R spec_l15Diffs.X⟩
theorem spec_l15Diffs.meets : Meets Tryd.prog 18 spec_l15Diffs.S := meets_tab (S := spec_l15Diffs.U) tabOk_all (AllMeets.cons spec_l15Diff.meets AllMeets.nil) (AllStill.cons (fun _ _ _ => rfl) AllStill.nil) follows (by kernel_rfl : Tryd.prog.funcs[18]? = some Tryd.f18) (by kernel_rfl) (by kernel_rfl) (by kernel_rfl)
noncomputable def impl_in.C : Code := Tryd.f46.body.getD .skip
def impl_in.P : Par := (.cons (.val (.int .i64)) (.cons (.val (.int .i64)) (.cons (.val (.int .i64)) .nil)))
noncomputable def impl_in.U : SumTab := []
noncomputable def impl_in.E : Env := mkEnv TY AR impl_in.U
noncomputable def impl_in.T : Tab := fun k => look k []
def impl_in.R : List (Nat × Ty) := [(0, .bool)]
def impl_in.X : List ResultVar := [.tmp 6]
noncomputable def impl_in.f (n : Int) (low : Int) (high : Int) : Option (Bool) := Fn impl_in.E impl_in.T impl_in.C impl_in.P impl_in.R impl_in.X (n, low, high)
theorem impl_in.f_eq (n : Int) (low : Int) (high : Int) : impl_in.f n low high =
  (bif (decide (n ≥ low)) then (some (decide (n ≤ high))) else (some false)) := by kernel_rfl
noncomputable def impl_in.S : Abs.Sum := ⟨impl_in.P, impl_in.R, fun _ => Fn impl_in.E impl_in.T impl_in.C impl_in.P impl_in.R impl_in.X⟩
theorem impl_in.meets : Meets Tryd.prog 46 impl_in.S := meets_tab (S := impl_in.U) tabOk_all AllMeets.nil AllStill.nil follows (by kernel_rfl : Tryd.prog.funcs[46]? = some Tryd.f46) (by kernel_rfl) (by kernel_rfl) (by kernel_rfl)
noncomputable def impl_isName.C : Code := Tryd.f32.body.getD .skip
def impl_isName.P : Par := (.cons (.val .str) .nil)
noncomputable def impl_isName.U : SumTab := [(46, [], impl_in.S), (47, [], strings_Trim.S)]
noncomputable def impl_isName.E : Env := mkEnv TY AR impl_isName.U
noncomputable def impl_isName.T : Tab := fun k => look k []
def impl_isName.R : List (Nat × Ty) := [(0, .bool)]
def impl_isName.X : List ResultVar := [.tmp 2]
noncomputable def impl_isName.f (s : ByteArray) : Option (Bool) := Fn impl_isName.E impl_isName.T impl_isName.C impl_isName.P impl_isName.R impl_isName.X s
theorem impl_isName.f_eq (s : ByteArray) : impl_isName.f s =
  ((impl_in.f (s.size : Int) 1 12).bind fun y1 =>
  bif y1 then ((strings_Trim.f s (⟨#[97, 98, 99, 100, 101, 102, 103, 104, 105, 106, 107, 108, 109, 110, 111, 112, 113, 114, 115, 116, 117, 118, 119, 120, 121, 122, 48, 49, 50, 51, 52, 53, 54, 55, 56, 57, 46, 47]⟩ : ByteArray)).bind fun y2 =>
   some (y2.toList == em.toList)) else (some false)) := by kernel_rfl
noncomputable def impl_isName.S : Abs.Sum := ⟨impl_isName.P, impl_isName.R, fun _ => Fn impl_isName.E impl_isName.T impl_isName.C impl_isName.P impl_isName.R impl_isName.X⟩
theorem impl_isName.meets : Meets Tryd.prog 32 impl_isName.S := meets_tab (S := impl_isName.U) tabOk_all (AllMeets.cons impl_in.meets (AllMeets.cons strings_Trim.meets AllMeets.nil)) (AllStill.cons (fun _ _ _ => rfl) (AllStill.cons (fun _ _ _ => rfl) AllStill.nil)) follows (by kernel_rfl : Tryd.prog.funcs[32]? = some Tryd.f32) (by kernel_rfl) (by kernel_rfl) (by kernel_rfl)
noncomputable def impl_isLine.C : Code := Tryd.f69.body.getD .skip
def impl_isLine.P : Par := (.cons (.val .str) .nil)
noncomputable def impl_isLine.U : SumTab := [(46, [], impl_in.S), (86, [], strings_Contains.S)]
noncomputable def impl_isLine.E : Env := mkEnv TY AR impl_isLine.U
noncomputable def impl_isLine.T : Tab := fun k => look k []
def impl_isLine.R : List (Nat × Ty) := [(0, .bool)]
def impl_isLine.X : List ResultVar := [.tmp 2]
noncomputable def impl_isLine.f (line : ByteArray) : Option (Bool) := Fn impl_isLine.E impl_isLine.T impl_isLine.C impl_isLine.P impl_isLine.R impl_isLine.X line
theorem impl_isLine.f_eq (line : ByteArray) : impl_isLine.f line =
  ((impl_in.f (line.size : Int) 1 30).bind fun y1 =>
  bif y1 then (bif ((decide (0 ≤ (w64 ((line.size : Int) - 1)))) && (decide ((w64 ((line.size : Int) - 1)) ≤ (line.size : Int)))) then ((strings_Contains.f (line.extract 0 ((w64 ((line.size : Int) - 1))).toNat) (⟨#[10]⟩ : ByteArray)).bind fun y2 =>
    some (!y2)) else none) else (some false)) := by kernel_rfl
noncomputable def impl_isLine.S : Abs.Sum := ⟨impl_isLine.P, impl_isLine.R, fun _ => Fn impl_isLine.E impl_isLine.T impl_isLine.C impl_isLine.P impl_isLine.R impl_isLine.X⟩
theorem impl_isLine.meets : Meets Tryd.prog 69 impl_isLine.S := meets_tab (S := impl_isLine.U) tabOk_all (AllMeets.cons impl_in.meets (AllMeets.cons strings_Contains.meets AllMeets.nil)) (AllStill.cons (fun _ _ _ => rfl) (AllStill.cons (fun _ _ _ => rfl) AllStill.nil)) follows (by kernel_rfl : Tryd.prog.funcs[69]? = some Tryd.f69) (by kernel_rfl) (by kernel_rfl) (by kernel_rfl)
noncomputable def impl_sideOf.C : Code := Tryd.f71.body.getD .skip
def impl_sideOf.P : Par := (.cons (.val (.list (.pair (.int .i64) (.one .str)))) (.cons (.val (.int .i64)) .nil))
noncomputable def impl_sideOf.U : SumTab := []
noncomputable def impl_sideOf.E : Env := mkEnv TY AR impl_sideOf.U
def impl_sideOf.D6 : CutD := ⟨[1, 5, 9, 10, 11], (.cons (.val (.int .i64)) (.cons (.own 9 .str) (.cons (.val (.list (.pair (.int .i64) (.one .str)))) (.cons (.val (.int .i64)) (.cons (.val (.int .i64)) .nil)))))⟩
noncomputable def impl_sideOf.T : Tab := fun k => look k [(6, impl_sideOf.D6)]
def impl_sideOf.R : List (Nat × Ty) := [(9, .list .str)]
def impl_sideOf.X : List ResultVar := [.tmp 4]
noncomputable def impl_sideOf.K := fin impl_sideOf.E ⟨impl_sideOf.P, impl_sideOf.R, fun _ _ => none⟩ impl_sideOf.X impl_sideOf.P.len 0
noncomputable def impl_sideOf.l6 (not : Int) (out : List ByteArray) (t9 : List (Int × ByteArray)) (t10 : Int) (t11 : Int) : Option ((List ByteArray)) := fixP impl_sideOf.E impl_sideOf.T impl_sideOf.C impl_sideOf.K 6 impl_sideOf.D6 (not, out, t9, t10, t11)
noncomputable def impl_sideOf.f (rows : List (Int × ByteArray)) (not : Int) : Option ((List ByteArray)) := Fn impl_sideOf.E impl_sideOf.T impl_sideOf.C impl_sideOf.P impl_sideOf.R impl_sideOf.X (rows, not)
theorem impl_sideOf.l6_eq (not : Int) (out : List ByteArray) (t9 : List (Int × ByteArray)) (t10 : Int) (t11 : Int) : impl_sideOf.l6 not out t9 t10 t11 =
  (bif (decide (t11 < t10)) then (bif ((decide (0 ≤ t11)) && (decide (t11 < (t9.length : Int)))) then (bif (!(decide ((t9.getD (t11).toNat (0, em)).1 = not))) then (bif (decide ((out.length + [(t9.getD (t11).toNat (0, em)).2].length) ≤ room 16)) then (impl_sideOf.l6 not (out ++ [(t9.getD (t11).toNat (0, em)).2]) t9 t10 (w64 (t11 + 1))) else none) else
    (impl_sideOf.l6 not out t9 t10 (w64 (t11 + 1)))) else none) else (some out)) :=
  (fixP_eq impl_sideOf.E impl_sideOf.T impl_sideOf.C impl_sideOf.K 6 impl_sideOf.D6 (not, out, t9, t10, t11)).trans (by kernel_rfl)
theorem impl_sideOf.f_eq (rows : List (Int × ByteArray)) (not : Int) : impl_sideOf.f rows not =
  (impl_sideOf.l6 not ([] : List ByteArray) rows (rows.length : Int) 0) := by kernel_rfl
noncomputable def impl_sideOf.S : Abs.Sum := ⟨impl_sideOf.P, impl_sideOf.R, fun _ => Fn impl_sideOf.E impl_sideOf.T impl_sideOf.C impl_sideOf.P impl_sideOf.R impl_sideOf.X⟩
theorem impl_sideOf.meets : Meets Tryd.prog 71 impl_sideOf.S := meets_tab (S := impl_sideOf.U) tabOk_all AllMeets.nil AllStill.nil follows (by kernel_rfl : Tryd.prog.funcs[71]? = some Tryd.f71) (by kernel_rfl) (by kernel_rfl) (by kernel_rfl)
noncomputable def impl_Group_old.C : Code := Tryd.f49.body.getD .skip
def impl_Group_old.P : Par := (.cons (.val (.pair (.int .i64) (.pair (.int .i64) (.one (.list (.pair (.int .i64) (.one .str))))))) .nil)
noncomputable def impl_Group_old.U : SumTab := [(71, [], impl_sideOf.S)]
noncomputable def impl_Group_old.E : Env := mkEnv TY AR impl_Group_old.U
noncomputable def impl_Group_old.T : Tab := fun k => look k []
def impl_Group_old.R : List (Nat × Ty) := [(9, .list .str)]
def impl_Group_old.X : List ResultVar := [.tmp 2]
noncomputable def impl_Group_old.f (g : Int × Int × List (Int × ByteArray)) : Option ((List ByteArray)) := Fn impl_Group_old.E impl_Group_old.T impl_Group_old.C impl_Group_old.P impl_Group_old.R impl_Group_old.X g
theorem impl_Group_old.f_eq (g : Int × Int × List (Int × ByteArray)) : impl_Group_old.f g =
  ((impl_sideOf.f g.2.2 3).bind fun y1 =>
  some y1) := by kernel_rfl
noncomputable def impl_Group_old.S : Abs.Sum := ⟨impl_Group_old.P, impl_Group_old.R, fun _ => Fn impl_Group_old.E impl_Group_old.T impl_Group_old.C impl_Group_old.P impl_Group_old.R impl_Group_old.X⟩
theorem impl_Group_old.meets : Meets Tryd.prog 49 impl_Group_old.S := meets_tab (S := impl_Group_old.U) tabOk_all (AllMeets.cons impl_sideOf.meets AllMeets.nil) (AllStill.cons (fun _ _ _ => rfl) AllStill.nil) follows (by kernel_rfl : Tryd.prog.funcs[49]? = some Tryd.f49) (by kernel_rfl) (by kernel_rfl) (by kernel_rfl)
noncomputable def impl_Group_fresh.C : Code := Tryd.f50.body.getD .skip
def impl_Group_fresh.P : Par := (.cons (.val (.pair (.int .i64) (.pair (.int .i64) (.one (.list (.pair (.int .i64) (.one .str))))))) .nil)
noncomputable def impl_Group_fresh.U : SumTab := [(71, [], impl_sideOf.S)]
noncomputable def impl_Group_fresh.E : Env := mkEnv TY AR impl_Group_fresh.U
noncomputable def impl_Group_fresh.T : Tab := fun k => look k []
def impl_Group_fresh.R : List (Nat × Ty) := [(9, .list .str)]
def impl_Group_fresh.X : List ResultVar := [.tmp 2]
noncomputable def impl_Group_fresh.f (g : Int × Int × List (Int × ByteArray)) : Option ((List ByteArray)) := Fn impl_Group_fresh.E impl_Group_fresh.T impl_Group_fresh.C impl_Group_fresh.P impl_Group_fresh.R impl_Group_fresh.X g
theorem impl_Group_fresh.f_eq (g : Int × Int × List (Int × ByteArray)) : impl_Group_fresh.f g =
  ((impl_sideOf.f g.2.2 2).bind fun y1 =>
  some y1) := by kernel_rfl
noncomputable def impl_Group_fresh.S : Abs.Sum := ⟨impl_Group_fresh.P, impl_Group_fresh.R, fun _ => Fn impl_Group_fresh.E impl_Group_fresh.T impl_Group_fresh.C impl_Group_fresh.P impl_Group_fresh.R impl_Group_fresh.X⟩
theorem impl_Group_fresh.meets : Meets Tryd.prog 50 impl_Group_fresh.S := meets_tab (S := impl_Group_fresh.U) tabOk_all (AllMeets.cons impl_sideOf.meets AllMeets.nil) (AllStill.cons (fun _ _ _ => rfl) AllStill.nil) follows (by kernel_rfl : Tryd.prog.funcs[50]? = some Tryd.f50) (by kernel_rfl) (by kernel_rfl) (by kernel_rfl)
noncomputable def impl_areLines_1.C : Code := Tryd.f101.body.getD .skip
def impl_areLines_1.P : Par := (.cons (.val .str) .nil)
noncomputable def impl_areLines_1.U : SumTab := [(69, [], impl_isLine.S)]
noncomputable def impl_areLines_1.E : Env := mkEnv TY AR impl_areLines_1.U
noncomputable def impl_areLines_1.T : Tab := fun k => look k []
def impl_areLines_1.R : List (Nat × Ty) := [(0, .bool)]
def impl_areLines_1.X : List ResultVar := [.tmp 2]
noncomputable def impl_areLines_1.f (line : ByteArray) : Option (Bool) := Fn impl_areLines_1.E impl_areLines_1.T impl_areLines_1.C impl_areLines_1.P impl_areLines_1.R impl_areLines_1.X line
theorem impl_areLines_1.f_eq (line : ByteArray) : impl_areLines_1.f line =
  ((impl_isLine.f line).bind fun y1 =>
  some (!y1)) := by kernel_rfl
noncomputable def impl_areLines_1.S : Abs.Sum := ⟨impl_areLines_1.P, impl_areLines_1.R, fun _ => Fn impl_areLines_1.E impl_areLines_1.T impl_areLines_1.C impl_areLines_1.P impl_areLines_1.R impl_areLines_1.X⟩
theorem impl_areLines_1.meets : Meets Tryd.prog 101 impl_areLines_1.S := meets_tab (S := impl_areLines_1.U) tabOk_all (AllMeets.cons impl_isLine.meets AllMeets.nil) (AllStill.cons (fun _ _ _ => rfl) AllStill.nil) follows (by kernel_rfl : Tryd.prog.funcs[101]? = some Tryd.f101) (by kernel_rfl) (by kernel_rfl) (by kernel_rfl)
noncomputable def slices_IndexFunc_Lstring_string__impl_areLines_1.C : Code := Tryd.f110.body.getD .skip
def slices_IndexFunc_Lstring_string__impl_areLines_1.P : Par := (.cons (.val (.list .str)) (.cons (.fn 101 .nil) .nil))
noncomputable def slices_IndexFunc_Lstring_string__impl_areLines_1.U : SumTab := [(101, [], impl_areLines_1.S)]
noncomputable def slices_IndexFunc_Lstring_string__impl_areLines_1.E : Env := mkEnv TY AR slices_IndexFunc_Lstring_string__impl_areLines_1.U
def slices_IndexFunc_Lstring_string__impl_areLines_1.D4 : CutD := ⟨[0, 1, 7, 8], (.cons (.val (.list .str)) (.cons (.fn 101 .nil) (.cons (.val (.int .i64)) (.cons (.val (.int .i64)) .nil))))⟩
noncomputable def slices_IndexFunc_Lstring_string__impl_areLines_1.T : Tab := fun k => look k [(4, slices_IndexFunc_Lstring_string__impl_areLines_1.D4)]
def slices_IndexFunc_Lstring_string__impl_areLines_1.R : List (Nat × Ty) := [(0, .int .i64)]
def slices_IndexFunc_Lstring_string__impl_areLines_1.X : List ResultVar := [.tmp 4]
noncomputable def slices_IndexFunc_Lstring_string__impl_areLines_1.K := fin slices_IndexFunc_Lstring_string__impl_areLines_1.E ⟨slices_IndexFunc_Lstring_string__impl_areLines_1.P, slices_IndexFunc_Lstring_string__impl_areLines_1.R, fun _ _ => none⟩ slices_IndexFunc_Lstring_string__impl_areLines_1.X slices_IndexFunc_Lstring_string__impl_areLines_1.P.len 0
noncomputable def slices_IndexFunc_Lstring_string__impl_areLines_1.l4 (s : List ByteArray) (t7 : Int) (t8 : Int) : Option (Int) := fixP slices_IndexFunc_Lstring_string__impl_areLines_1.E slices_IndexFunc_Lstring_string__impl_areLines_1.T slices_IndexFunc_Lstring_string__impl_areLines_1.C slices_IndexFunc_Lstring_string__impl_areLines_1.K 4 slices_IndexFunc_Lstring_string__impl_areLines_1.D4 (s, t7, t8)
noncomputable def slices_IndexFunc_Lstring_string__impl_areLines_1.f (s : List ByteArray) : Option (Int) := Fn slices_IndexFunc_Lstring_string__impl_areLines_1.E slices_IndexFunc_Lstring_string__impl_areLines_1.T slices_IndexFunc_Lstring_string__impl_areLines_1.C slices_IndexFunc_Lstring_string__impl_areLines_1.P slices_IndexFunc_Lstring_string__impl_areLines_1.R slices_IndexFunc_Lstring_string__impl_areLines_1.X s
theorem slices_IndexFunc_Lstring_string__impl_areLines_1.l4_eq (s : List ByteArray) (t7 : Int) (t8 : Int) : slices_IndexFunc_Lstring_string__impl_areLines_1.l4 s t7 t8 =
  (bif (decide (t8 < t7)) then (bif ((decide (0 ≤ t8)) && (decide (t8 < (s.length : Int)))) then ((impl_areLines_1.f (s.getD (t8).toNat em)).bind fun y1 =>
    bif y1 then (some t8) else
    (slices_IndexFunc_Lstring_string__impl_areLines_1.l4 s t7 (w64 (t8 + 1)))) else none) else (some (-1))) :=
  (fixP_eq slices_IndexFunc_Lstring_string__impl_areLines_1.E slices_IndexFunc_Lstring_string__impl_areLines_1.T slices_IndexFunc_Lstring_string__impl_areLines_1.C slices_IndexFunc_Lstring_string__impl_areLines_1.K 4 slices_IndexFunc_Lstring_string__impl_areLines_1.D4 (s, t7, t8)).trans (by kernel_rfl)
theorem slices_IndexFunc_Lstring_string__impl_areLines_1.f_eq (s : List ByteArray) : slices_IndexFunc_Lstring_string__impl_areLines_1.f s =
  (slices_IndexFunc_Lstring_string__impl_areLines_1.l4 s (s.length : Int) 0) := by kernel_rfl
noncomputable def slices_IndexFunc_Lstring_string__impl_areLines_1.S : Abs.Sum := ⟨slices_IndexFunc_Lstring_string__impl_areLines_1.P, slices_IndexFunc_Lstring_string__impl_areLines_1.R, fun _ => Fn slices_IndexFunc_Lstring_string__impl_areLines_1.E slices_IndexFunc_Lstring_string__impl_areLines_1.T slices_IndexFunc_Lstring_string__impl_areLines_1.C slices_IndexFunc_Lstring_string__impl_areLines_1.P slices_IndexFunc_Lstring_string__impl_areLines_1.R slices_IndexFunc_Lstring_string__impl_areLines_1.X⟩
theorem slices_IndexFunc_Lstring_string__impl_areLines_1.meets : Meets Tryd.prog 110 slices_IndexFunc_Lstring_string__impl_areLines_1.S := meets_tab (S := slices_IndexFunc_Lstring_string__impl_areLines_1.U) tabOk_all (AllMeets.cons impl_areLines_1.meets AllMeets.nil) (AllStill.cons (fun _ _ _ => rfl) AllStill.nil) follows (by kernel_rfl : Tryd.prog.funcs[110]? = some Tryd.f110) (by kernel_rfl) (by kernel_rfl) (by kernel_rfl)
noncomputable def slices_ContainsFunc_Lstring_string__impl_areLines_1.C : Code := Tryd.f100.body.getD .skip
def slices_ContainsFunc_Lstring_string__impl_areLines_1.P : Par := (.cons (.val (.list .str)) (.cons (.fn 101 .nil) .nil))
noncomputable def slices_ContainsFunc_Lstring_string__impl_areLines_1.U : SumTab := [(110, [101], slices_IndexFunc_Lstring_string__impl_areLines_1.S)]
noncomputable def slices_ContainsFunc_Lstring_string__impl_areLines_1.E : Env := mkEnv TY AR slices_ContainsFunc_Lstring_string__impl_areLines_1.U
noncomputable def slices_ContainsFunc_Lstring_string__impl_areLines_1.T : Tab := fun k => look k []
def slices_ContainsFunc_Lstring_string__impl_areLines_1.R : List (Nat × Ty) := [(0, .bool)]
def slices_ContainsFunc_Lstring_string__impl_areLines_1.X : List ResultVar := [.tmp 4]
noncomputable def slices_ContainsFunc_Lstring_string__impl_areLines_1.f (s : List ByteArray) : Option (Bool) := Fn slices_ContainsFunc_Lstring_string__impl_areLines_1.E slices_ContainsFunc_Lstring_string__impl_areLines_1.T slices_ContainsFunc_Lstring_string__impl_areLines_1.C slices_ContainsFunc_Lstring_string__impl_areLines_1.P slices_ContainsFunc_Lstring_string__impl_areLines_1.R slices_ContainsFunc_Lstring_string__impl_areLines_1.X s
theorem slices_ContainsFunc_Lstring_string__impl_areLines_1.f_eq (s : List ByteArray) : slices_ContainsFunc_Lstring_string__impl_areLines_1.f s =
  ((slices_IndexFunc_Lstring_string__impl_areLines_1.f s).bind fun y1 =>
  some (decide (y1 ≥ 0))) := by kernel_rfl
noncomputable def slices_ContainsFunc_Lstring_string__impl_areLines_1.S : Abs.Sum := ⟨slices_ContainsFunc_Lstring_string__impl_areLines_1.P, slices_ContainsFunc_Lstring_string__impl_areLines_1.R, fun _ => Fn slices_ContainsFunc_Lstring_string__impl_areLines_1.E slices_ContainsFunc_Lstring_string__impl_areLines_1.T slices_ContainsFunc_Lstring_string__impl_areLines_1.C slices_ContainsFunc_Lstring_string__impl_areLines_1.P slices_ContainsFunc_Lstring_string__impl_areLines_1.R slices_ContainsFunc_Lstring_string__impl_areLines_1.X⟩
theorem slices_ContainsFunc_Lstring_string__impl_areLines_1.meets : Meets Tryd.prog 100 slices_ContainsFunc_Lstring_string__impl_areLines_1.S := meets_tab (S := slices_ContainsFunc_Lstring_string__impl_areLines_1.U) tabOk_all (AllMeets.cons slices_IndexFunc_Lstring_string__impl_areLines_1.meets AllMeets.nil) (AllStill.cons (fun _ _ _ => rfl) AllStill.nil) follows (by kernel_rfl : Tryd.prog.funcs[100]? = some Tryd.f100) (by kernel_rfl) (by kernel_rfl) (by kernel_rfl)
noncomputable def impl_areLines.C : Code := Tryd.f87.body.getD .skip
def impl_areLines.P : Par := (.cons (.val (.list .str)) .nil)
noncomputable def impl_areLines.U : SumTab := [(100, [101], slices_ContainsFunc_Lstring_string__impl_areLines_1.S)]
noncomputable def impl_areLines.E : Env := mkEnv TY AR impl_areLines.U
noncomputable def impl_areLines.T : Tab := fun k => look k []
def impl_areLines.R : List (Nat × Ty) := [(0, .bool)]
def impl_areLines.X : List ResultVar := [.tmp 2]
noncomputable def impl_areLines.f (l : List ByteArray) : Option (Bool) := Fn impl_areLines.E impl_areLines.T impl_areLines.C impl_areLines.P impl_areLines.R impl_areLines.X l
theorem impl_areLines.f_eq (l : List ByteArray) : impl_areLines.f l =
  (bif (decide ((l.length : Int) ≤ 40)) then ((slices_ContainsFunc_Lstring_string__impl_areLines_1.f l).bind fun y1 =>
   some (!y1)) else (some false)) := by kernel_rfl
noncomputable def impl_areLines.S : Abs.Sum := ⟨impl_areLines.P, impl_areLines.R, fun _ => Fn impl_areLines.E impl_areLines.T impl_areLines.C impl_areLines.P impl_areLines.R impl_areLines.X⟩
theorem impl_areLines.meets : Meets Tryd.prog 87 impl_areLines.S := meets_tab (S := impl_areLines.U) tabOk_all (AllMeets.cons slices_ContainsFunc_Lstring_string__impl_areLines_1.meets AllMeets.nil) (AllStill.cons (fun _ _ _ => rfl) AllStill.nil) follows (by kernel_rfl : Tryd.prog.funcs[87]? = some Tryd.f87) (by kernel_rfl) (by kernel_rfl) (by kernel_rfl)
noncomputable def internal_stringslite_HasSuffix.C : Code := Tryd.f111.body.getD .skip
def internal_stringslite_HasSuffix.P : Par := (.cons (.val .str) (.cons (.val .str) .nil))
noncomputable def internal_stringslite_HasSuffix.U : SumTab := []
noncomputable def internal_stringslite_HasSuffix.E : Env := mkEnv TY AR internal_stringslite_HasSuffix.U
noncomputable def internal_stringslite_HasSuffix.T : Tab := fun k => look k []
def internal_stringslite_HasSuffix.R : List (Nat × Ty) := [(0, .bool)]
def internal_stringslite_HasSuffix.X : List ResultVar := [.tmp 4]
noncomputable def internal_stringslite_HasSuffix.f (s : ByteArray) (suffix : ByteArray) : Option (Bool) := Fn internal_stringslite_HasSuffix.E internal_stringslite_HasSuffix.T internal_stringslite_HasSuffix.C internal_stringslite_HasSuffix.P internal_stringslite_HasSuffix.R internal_stringslite_HasSuffix.X (s, suffix)
theorem internal_stringslite_HasSuffix.f_eq (s : ByteArray) (suffix : ByteArray) : internal_stringslite_HasSuffix.f s suffix =
  (bif (decide ((s.size : Int) ≥ (suffix.size : Int))) then (bif ((decide (0 ≤ (w64 ((s.size : Int) - (suffix.size : Int))))) && (decide ((w64 ((s.size : Int) - (suffix.size : Int))) ≤ (s.size : Int)))) then (some ((s.extract ((w64 ((s.size : Int) - (suffix.size : Int)))).toNat s.size).toList == suffix.toList)) else none) else (some false)) := by kernel_rfl
noncomputable def internal_stringslite_HasSuffix.S : Abs.Sum := ⟨internal_stringslite_HasSuffix.P, internal_stringslite_HasSuffix.R, fun _ => Fn internal_stringslite_HasSuffix.E internal_stringslite_HasSuffix.T internal_stringslite_HasSuffix.C internal_stringslite_HasSuffix.P internal_stringslite_HasSuffix.R internal_stringslite_HasSuffix.X⟩
theorem internal_stringslite_HasSuffix.meets : Meets Tryd.prog 111 internal_stringslite_HasSuffix.S := meets_tab (S := internal_stringslite_HasSuffix.U) tabOk_all AllMeets.nil AllStill.nil follows (by kernel_rfl : Tryd.prog.funcs[111]? = some Tryd.f111) (by kernel_rfl) (by kernel_rfl) (by kernel_rfl)
noncomputable def strings_HasSuffix.C : Code := Tryd.f102.body.getD .skip
def strings_HasSuffix.P : Par := (.cons (.val .str) (.cons (.val .str) .nil))
noncomputable def strings_HasSuffix.U : SumTab := [(111, [], internal_stringslite_HasSuffix.S)]
noncomputable def strings_HasSuffix.E : Env := mkEnv TY AR strings_HasSuffix.U
noncomputable def strings_HasSuffix.T : Tab := fun k => look k []
def strings_HasSuffix.R : List (Nat × Ty) := [(0, .bool)]
def strings_HasSuffix.X : List ResultVar := [.tmp 4]
noncomputable def strings_HasSuffix.f (s : ByteArray) (suffix : ByteArray) : Option (Bool) := Fn strings_HasSuffix.E strings_HasSuffix.T strings_HasSuffix.C strings_HasSuffix.P strings_HasSuffix.R strings_HasSuffix.X (s, suffix)
theorem strings_HasSuffix.f_eq (s : ByteArray) (suffix : ByteArray) : strings_HasSuffix.f s suffix =
  ((internal_stringslite_HasSuffix.f s suffix).bind fun y1 =>
  some y1) := by kernel_rfl
noncomputable def strings_HasSuffix.S : Abs.Sum := ⟨strings_HasSuffix.P, strings_HasSuffix.R, fun _ => Fn strings_HasSuffix.E strings_HasSuffix.T strings_HasSuffix.C strings_HasSuffix.P strings_HasSuffix.R strings_HasSuffix.X⟩
theorem strings_HasSuffix.meets : Meets Tryd.prog 102 strings_HasSuffix.S := meets_tab (S := strings_HasSuffix.U) tabOk_all (AllMeets.cons internal_stringslite_HasSuffix.meets AllMeets.nil) (AllStill.cons (fun _ _ _ => rfl) AllStill.nil) follows (by kernel_rfl : Tryd.prog.funcs[102]? = some Tryd.f102) (by kernel_rfl) (by kernel_rfl) (by kernel_rfl)
noncomputable def impl_isEnded.C : Code := Tryd.f88.body.getD .skip
def impl_isEnded.P : Par := (.cons (.val .str) .nil)
noncomputable def impl_isEnded.U : SumTab := [(102, [], strings_HasSuffix.S)]
noncomputable def impl_isEnded.E : Env := mkEnv TY AR impl_isEnded.U
noncomputable def impl_isEnded.T : Tab := fun k => look k []
def impl_isEnded.R : List (Nat × Ty) := [(0, .bool)]
def impl_isEnded.X : List ResultVar := [.tmp 2]
noncomputable def impl_isEnded.f (line : ByteArray) : Option (Bool) := Fn impl_isEnded.E impl_isEnded.T impl_isEnded.C impl_isEnded.P impl_isEnded.R impl_isEnded.X line
theorem impl_isEnded.f_eq (line : ByteArray) : impl_isEnded.f line =
  ((strings_HasSuffix.f line (⟨#[10]⟩ : ByteArray)).bind fun y1 =>
  some y1) := by kernel_rfl
noncomputable def impl_isEnded.S : Abs.Sum := ⟨impl_isEnded.P, impl_isEnded.R, fun _ => Fn impl_isEnded.E impl_isEnded.T impl_isEnded.C impl_isEnded.P impl_isEnded.R impl_isEnded.X⟩
theorem impl_isEnded.meets : Meets Tryd.prog 88 impl_isEnded.S := meets_tab (S := impl_isEnded.U) tabOk_all (AllMeets.cons strings_HasSuffix.meets AllMeets.nil) (AllStill.cons (fun _ _ _ => rfl) AllStill.nil) follows (by kernel_rfl : Tryd.prog.funcs[88]? = some Tryd.f88) (by kernel_rfl) (by kernel_rfl) (by kernel_rfl)
noncomputable def impl_goodLines.C : Code := Tryd.f70.body.getD .skip
def impl_goodLines.P : Par := (.cons (.val (.list .str)) .nil)
noncomputable def impl_goodLines.U : SumTab := [(87, [], impl_areLines.S), (88, [], impl_isEnded.S)]
noncomputable def impl_goodLines.E : Env := mkEnv TY AR impl_goodLines.U
def impl_goodLines.D8 : CutD := ⟨[0, 8, 9, 10], (.cons (.val (.list .str)) (.cons (.val (.list .str)) (.cons (.val (.int .i64)) (.cons (.val (.int .i64)) .nil))))⟩
noncomputable def impl_goodLines.T : Tab := fun k => look k [(8, impl_goodLines.D8)]
def impl_goodLines.R : List (Nat × Ty) := [(0, .bool)]
def impl_goodLines.X : List ResultVar := [.tmp 2]
noncomputable def impl_goodLines.K := fin impl_goodLines.E ⟨impl_goodLines.P, impl_goodLines.R, fun _ _ => none⟩ impl_goodLines.X impl_goodLines.P.len 0
noncomputable def impl_goodLines.l8 (l : List ByteArray) (t8 : List ByteArray) (t9 : Int) (t10 : Int) : Option (Bool) := fixP impl_goodLines.E impl_goodLines.T impl_goodLines.C impl_goodLines.K 8 impl_goodLines.D8 (l, t8, t9, t10)
noncomputable def impl_goodLines.f (l : List ByteArray) : Option (Bool) := Fn impl_goodLines.E impl_goodLines.T impl_goodLines.C impl_goodLines.P impl_goodLines.R impl_goodLines.X l
theorem impl_goodLines.l8_eq (l : List ByteArray) (t8 : List ByteArray) (t9 : Int) (t10 : Int) : impl_goodLines.l8 l t8 t9 t10 =
  (bif (decide (t10 < t9)) then (bif ((decide (0 ≤ t10)) && (decide (t10 < (t8.length : Int)))) then (bif (decide (t10 < (w64 ((l.length : Int) - 1)))) then ((impl_isEnded.f (t8.getD (t10).toNat em)).bind fun y1 =>
     bif (!y1) then (some false) else
     (impl_goodLines.l8 l t8 t9 (w64 (t10 + 1)))) else
    (impl_goodLines.l8 l t8 t9 (w64 (t10 + 1)))) else none) else (some true)) :=
  (fixP_eq impl_goodLines.E impl_goodLines.T impl_goodLines.C impl_goodLines.K 8 impl_goodLines.D8 (l, t8, t9, t10)).trans (by kernel_rfl)
theorem impl_goodLines.f_eq (l : List ByteArray) : impl_goodLines.f l =
  ((impl_areLines.f l).bind fun y1 =>
  bif (!y1) then (some false) else
  (impl_goodLines.l8 l l (l.length : Int) 0)) := by kernel_rfl
noncomputable def impl_goodLines.S : Abs.Sum := ⟨impl_goodLines.P, impl_goodLines.R, fun _ => Fn impl_goodLines.E impl_goodLines.T impl_goodLines.C impl_goodLines.P impl_goodLines.R impl_goodLines.X⟩
theorem impl_goodLines.meets : Meets Tryd.prog 70 impl_goodLines.S := meets_tab (S := impl_goodLines.U) tabOk_all (AllMeets.cons impl_areLines.meets (AllMeets.cons impl_isEnded.meets AllMeets.nil)) (AllStill.cons (fun _ _ _ => rfl) (AllStill.cons (fun _ _ _ => rfl) AllStill.nil)) follows (by kernel_rfl : Tryd.prog.funcs[70]? = some Tryd.f70) (by kernel_rfl) (by kernel_rfl) (by kernel_rfl)
noncomputable def impl_goodGroup.C : Code := Tryd.f48.body.getD .skip
def impl_goodGroup.P : Par := (.cons (.val (.pair (.int .i64) (.pair (.int .i64) (.one (.list (.pair (.int .i64) (.one .str))))))) .nil)
noncomputable def impl_goodGroup.U : SumTab := [(46, [], impl_in.S), (69, [], impl_isLine.S), (49, [], impl_Group_old.S), (50, [], impl_Group_fresh.S), (70, [], impl_goodLines.S)]
noncomputable def impl_goodGroup.E : Env := mkEnv TY AR impl_goodGroup.U
def impl_goodGroup.D7 : CutD := ⟨[1], (.cons (.box 0 (.pair (.int .i64) (.pair (.int .i64) (.one (.list (.pair (.int .i64) (.one .str))))))) .nil)⟩
def impl_goodGroup.D10 : CutD := ⟨[1, 3, 26, 27, 28], (.cons (.box 0 (.pair (.int .i64) (.pair (.int .i64) (.one (.list (.pair (.int .i64) (.one .str))))))) (.cons (.val .bool) (.cons (.val (.list (.pair (.int .i64) (.one .str)))) (.cons (.val (.int .i64)) (.cons (.val (.int .i64)) .nil)))))⟩
def impl_goodGroup.D19 : CutD := ⟨[1, 3, 5, 26, 27, 28], (.cons (.box 0 (.pair (.int .i64) (.pair (.int .i64) (.one (.list (.pair (.int .i64) (.one .str))))))) (.cons (.val .bool) (.cons (.box 9 (.pair (.int .i64) (.one .str))) (.cons (.val (.list (.pair (.int .i64) (.one .str)))) (.cons (.val (.int .i64)) (.cons (.val (.int .i64)) .nil))))))⟩
noncomputable def impl_goodGroup.T : Tab := fun k => look k [(7, impl_goodGroup.D7), (10, impl_goodGroup.D10), (19, impl_goodGroup.D19)]
def impl_goodGroup.R : List (Nat × Ty) := [(0, .bool)]
def impl_goodGroup.X : List ResultVar := [.tmp 2]
noncomputable def impl_goodGroup.K := fin impl_goodGroup.E ⟨impl_goodGroup.P, impl_goodGroup.R, fun _ _ => none⟩ impl_goodGroup.X impl_goodGroup.P.len 0
noncomputable def impl_goodGroup.l7 (g : Int × Int × List (Int × ByteArray)) : Option (Bool) := fixP impl_goodGroup.E impl_goodGroup.T impl_goodGroup.C impl_goodGroup.K 7 impl_goodGroup.D7 g
noncomputable def impl_goodGroup.l10 (g : Int × Int × List (Int × ByteArray)) (changes : Bool) (t26 : List (Int × ByteArray)) (t27 : Int) (t28 : Int) : Option (Bool) := fixP impl_goodGroup.E impl_goodGroup.T impl_goodGroup.C impl_goodGroup.K 10 impl_goodGroup.D10 (g, changes, t26, t27, t28)
noncomputable def impl_goodGroup.l19 (g : Int × Int × List (Int × ByteArray)) (changes : Bool) (r : Int × ByteArray) (t26 : List (Int × ByteArray)) (t27 : Int) (t28 : Int) : Option (Bool) := fixP impl_goodGroup.E impl_goodGroup.T impl_goodGroup.C impl_goodGroup.K 19 impl_goodGroup.D19 (g, changes, r, t26, t27, t28)
noncomputable def impl_goodGroup.f (g : Int × Int × List (Int × ByteArray)) : Option (Bool) := Fn impl_goodGroup.E impl_goodGroup.T impl_goodGroup.C impl_goodGroup.P impl_goodGroup.R impl_goodGroup.X g
theorem impl_goodGroup.l7_eq (g : Int × Int × List (Int × ByteArray)) : impl_goodGroup.l7 g =
  (impl_goodGroup.l10 g false g.2.2 (g.2.2.length : Int) 0) :=
  (fixP_eq impl_goodGroup.E impl_goodGroup.T impl_goodGroup.C impl_goodGroup.K 7 impl_goodGroup.D7 g).trans (by kernel_rfl)
theorem impl_goodGroup.l10_eq (g : Int × Int × List (Int × ByteArray)) (changes : Bool) (t26 : List (Int × ByteArray)) (t27 : Int) (t28 : Int) : impl_goodGroup.l10 g changes t26 t27 t28 =
  (bif (decide (t28 < t27)) then (bif ((decide (0 ≤ t28)) && (decide (t28 < (t26.length : Int)))) then ((impl_in.f (t26.getD (t28).toNat (0, em)).1 1 3).bind fun y1 =>
    bif (!y1) then (some false) else
    ((impl_isLine.f (t26.getD (t28).toNat (0, em)).2).bind fun y2 =>
     bif (!y2) then (some false) else
     (bif (decide (t28 > 0)) then (bif (decide ((t26.getD (t28).toNat (0, em)).1 = 2)) then (bif ((decide (0 ≤ (w64 (t28 - 1)))) && (decide ((w64 (t28 - 1)) < (g.2.2.length : Int)))) then (bif (decide ((g.2.2.getD ((w64 (t28 - 1))).toNat (0, em)).1 = 3)) then (some false) else
         (impl_goodGroup.l19 g changes (t26.getD (t28).toNat (0, em)) t26 t27 t28)) else none) else
       (impl_goodGroup.l19 g changes (t26.getD (t28).toNat (0, em)) t26 t27 t28)) else
      (impl_goodGroup.l19 g changes (t26.getD (t28).toNat (0, em)) t26 t27 t28)))) else none) else
  ((impl_Group_old.f g).bind fun y1 =>
   (impl_Group_fresh.f g).bind fun y2 =>
   bif changes then ((impl_goodLines.f y1).bind fun y3 =>
    bif y3 then ((impl_goodLines.f y2).bind fun y4 =>
     bif y4 then (bif (decide ((w64 (g.1 + (y1.length : Int))) ≤ 1000)) then (some (decide ((w64 (g.2.1 + (y2.length : Int))) ≤ 1000))) else (some false)) else (some false)) else (some false)) else (some false))) :=
  (fixP_eq impl_goodGroup.E impl_goodGroup.T impl_goodGroup.C impl_goodGroup.K 10 impl_goodGroup.D10 (g, changes, t26, t27, t28)).trans (by kernel_rfl)
theorem impl_goodGroup.l19_eq (g : Int × Int × List (Int × ByteArray)) (changes : Bool) (r : Int × ByteArray) (t26 : List (Int × ByteArray)) (t27 : Int) (t28 : Int) : impl_goodGroup.l19 g changes r t26 t27 t28 =
  (bif changes then (impl_goodGroup.l10 g true t26 t27 (w64 (t28 + 1))) else
  (impl_goodGroup.l10 g (!(decide (r.1 = 1))) t26 t27 (w64 (t28 + 1)))) :=
  (fixP_eq impl_goodGroup.E impl_goodGroup.T impl_goodGroup.C impl_goodGroup.K 19 impl_goodGroup.D19 (g, changes, r, t26, t27, t28)).trans (by kernel_rfl)
theorem impl_goodGroup.f_eq (g : Int × Int × List (Int × ByteArray)) : impl_goodGroup.f g =
  ((impl_in.f g.1 0 999).bind fun y1 =>
  bif (!y1) then (some false) else
  ((impl_in.f g.2.1 0 999).bind fun y2 =>
   bif (!y2) then (some false) else
   ((impl_in.f (g.2.2.length : Int) 1 80).bind fun y3 =>
    bif (!y3) then (some false) else
    (impl_goodGroup.l7 g)))) := by kernel_rfl
noncomputable def impl_goodGroup.S : Abs.Sum := ⟨impl_goodGroup.P, impl_goodGroup.R, fun _ => Fn impl_goodGroup.E impl_goodGroup.T impl_goodGroup.C impl_goodGroup.P impl_goodGroup.R impl_goodGroup.X⟩
theorem impl_goodGroup.meets : Meets Tryd.prog 48 impl_goodGroup.S := meets_tab (S := impl_goodGroup.U) tabOk_all (AllMeets.cons impl_in.meets (AllMeets.cons impl_isLine.meets (AllMeets.cons impl_Group_old.meets (AllMeets.cons impl_Group_fresh.meets (AllMeets.cons impl_goodLines.meets AllMeets.nil))))) (AllStill.cons (fun _ _ _ => rfl) (AllStill.cons (fun _ _ _ => rfl) (AllStill.cons (fun _ _ _ => rfl) (AllStill.cons (fun _ _ _ => rfl) (AllStill.cons (fun _ _ _ => rfl) AllStill.nil))))) follows (by kernel_rfl : Tryd.prog.funcs[48]? = some Tryd.f48) (by kernel_rfl) (by kernel_rfl) (by kernel_rfl)
noncomputable def impl_goodGroups.C : Code := Tryd.f33.body.getD .skip
def impl_goodGroups.P : Par := (.cons (.val (.list (.pair (.int .i64) (.pair (.int .i64) (.one (.list (.pair (.int .i64) (.one .str)))))))) .nil)
noncomputable def impl_goodGroups.U : SumTab := [(48, [], impl_goodGroup.S), (49, [], impl_Group_old.S), (50, [], impl_Group_fresh.S)]
noncomputable def impl_goodGroups.E : Env := mkEnv TY AR impl_goodGroups.U
def impl_goodGroups.D8 : CutD := ⟨[0, 8, 9, 10], (.cons (.val (.list (.pair (.int .i64) (.pair (.int .i64) (.one (.list (.pair (.int .i64) (.one .str)))))))) (.cons (.val (.list (.pair (.int .i64) (.pair (.int .i64) (.one (.list (.pair (.int .i64) (.one .str)))))))) (.cons (.val (.int .i64)) (.cons (.val (.int .i64)) .nil))))⟩
noncomputable def impl_goodGroups.T : Tab := fun k => look k [(8, impl_goodGroups.D8)]
def impl_goodGroups.R : List (Nat × Ty) := [(0, .bool)]
def impl_goodGroups.X : List ResultVar := [.tmp 2]
noncomputable def impl_goodGroups.K := fin impl_goodGroups.E ⟨impl_goodGroups.P, impl_goodGroups.R, fun _ _ => none⟩ impl_goodGroups.X impl_goodGroups.P.len 0
noncomputable def impl_goodGroups.l8 (g : List (Int × Int × List (Int × ByteArray))) (t8 : List (Int × Int × List (Int × ByteArray))) (t9 : Int) (t10 : Int) : Option (Bool) := fixP impl_goodGroups.E impl_goodGroups.T impl_goodGroups.C impl_goodGroups.K 8 impl_goodGroups.D8 (g, t8, t9, t10)
noncomputable def impl_goodGroups.f (g : List (Int × Int × List (Int × ByteArray))) : Option (Bool) := Fn impl_goodGroups.E impl_goodGroups.T impl_goodGroups.C impl_goodGroups.P impl_goodGroups.R impl_goodGroups.X g
theorem impl_goodGroups.l8_eq (g : List (Int × Int × List (Int × ByteArray))) (t8 : List (Int × Int × List (Int × ByteArray))) (t9 : Int) (t10 : Int) : impl_goodGroups.l8 g t8 t9 t10 =
  (bif (decide (t10 < t9)) then (bif ((decide (0 ≤ t10)) && (decide (t10 < (t8.length : Int)))) then ((impl_goodGroup.f (t8.getD (t10).toNat (0, 0, ([] : List (Int × ByteArray))))).bind fun y1 =>
    bif (!y1) then (some false) else
    (bif (decide (t10 > 0)) then (bif ((decide (0 ≤ (w64 (t10 - 1)))) && (decide ((w64 (t10 - 1)) < (g.length : Int)))) then (bif ((decide (0 ≤ (w64 (t10 - 1)))) && (decide ((w64 (t10 - 1)) < (g.length : Int)))) then ((impl_Group_old.f (g.getD ((w64 (t10 - 1))).toNat (0, 0, ([] : List (Int × ByteArray))))).bind fun y2 =>
        bif (decide ((t8.getD (t10).toNat (0, 0, ([] : List (Int × ByteArray)))).1 < (w64 ((g.getD ((w64 (t10 - 1))).toNat (0, 0, ([] : List (Int × ByteArray)))).1 + (y2.length : Int))))) then (some false) else
        (bif ((decide (0 ≤ (w64 (t10 - 1)))) && (decide ((w64 (t10 - 1)) < (g.length : Int)))) then (bif ((decide (0 ≤ (w64 (t10 - 1)))) && (decide ((w64 (t10 - 1)) < (g.length : Int)))) then ((impl_Group_fresh.f (g.getD ((w64 (t10 - 1))).toNat (0, 0, ([] : List (Int × ByteArray))))).bind fun y3 =>
           bif (decide ((t8.getD (t10).toNat (0, 0, ([] : List (Int × ByteArray)))).2.1 < (w64 ((g.getD ((w64 (t10 - 1))).toNat (0, 0, ([] : List (Int × ByteArray)))).2.1 + (y3.length : Int))))) then (some false) else
           (impl_goodGroups.l8 g t8 t9 (w64 (t10 + 1)))) else none) else none)) else none) else none) else
     (impl_goodGroups.l8 g t8 t9 (w64 (t10 + 1))))) else none) else (some true)) :=
  (fixP_eq impl_goodGroups.E impl_goodGroups.T impl_goodGroups.C impl_goodGroups.K 8 impl_goodGroups.D8 (g, t8, t9, t10)).trans (by kernel_rfl)
theorem impl_goodGroups.f_eq (g : List (Int × Int × List (Int × ByteArray))) : impl_goodGroups.f g =
  (bif (decide ((g.length : Int) > 20)) then (some false) else
  (impl_goodGroups.l8 g g (g.length : Int) 0)) := by kernel_rfl
noncomputable def impl_goodGroups.S : Abs.Sum := ⟨impl_goodGroups.P, impl_goodGroups.R, fun _ => Fn impl_goodGroups.E impl_goodGroups.T impl_goodGroups.C impl_goodGroups.P impl_goodGroups.R impl_goodGroups.X⟩
theorem impl_goodGroups.meets : Meets Tryd.prog 33 impl_goodGroups.S := meets_tab (S := impl_goodGroups.U) tabOk_all (AllMeets.cons impl_goodGroup.meets (AllMeets.cons impl_Group_old.meets (AllMeets.cons impl_Group_fresh.meets AllMeets.nil))) (AllStill.cons (fun _ _ _ => rfl) (AllStill.cons (fun _ _ _ => rfl) (AllStill.cons (fun _ _ _ => rfl) AllStill.nil))) follows (by kernel_rfl : Tryd.prog.funcs[33]? = some Tryd.f33) (by kernel_rfl) (by kernel_rfl) (by kernel_rfl)
noncomputable def impl_isAll_1.C : Code := Tryd.f52.body.getD .skip
def impl_isAll_1.P : Par := (.cons (.val (.pair (.int .i64) (.one .str))) (.cons (.box 9 (.int .i64)) .nil))
noncomputable def impl_isAll_1.U : SumTab := []
noncomputable def impl_isAll_1.E : Env := mkEnv TY AR impl_isAll_1.U
noncomputable def impl_isAll_1.T : Tab := fun k => look k []
def impl_isAll_1.R : List (Nat × Ty) := [(0, .bool)]
def impl_isAll_1.X : List ResultVar := [.tmp 3]
noncomputable def impl_isAll_1.f (r : Int × ByteArray) (t1 : Int) : Option (Bool × Int) := Fn impl_isAll_1.E impl_isAll_1.T impl_isAll_1.C impl_isAll_1.P impl_isAll_1.R impl_isAll_1.X (r, t1)
theorem impl_isAll_1.f_eq (r : Int × ByteArray) (t1 : Int) : impl_isAll_1.f r t1 =
  (some ((!(decide (r.1 = t1))), t1)) := by kernel_rfl
noncomputable def impl_isAll_1.S : Abs.Sum := ⟨impl_isAll_1.P, impl_isAll_1.R, fun _ => Fn impl_isAll_1.E impl_isAll_1.T impl_isAll_1.C impl_isAll_1.P impl_isAll_1.R impl_isAll_1.X⟩
theorem impl_isAll_1.meets : Meets Tryd.prog 52 impl_isAll_1.S := meets_tab (S := impl_isAll_1.U) tabOk_all AllMeets.nil AllStill.nil follows (by kernel_rfl : Tryd.prog.funcs[52]? = some Tryd.f52) (by kernel_rfl) (by kernel_rfl) (by kernel_rfl)
noncomputable def slices_IndexFunc_Limpl_Row_impl_Row__impl_isAll_1.C : Code := Tryd.f72.body.getD .skip
def slices_IndexFunc_Limpl_Row_impl_Row__impl_isAll_1.P : Par := (.cons (.val (.list (.pair (.int .i64) (.one .str)))) (.cons (.fn 52 (.cons (.box 9 (.int .i64)) .nil)) .nil))
noncomputable def slices_IndexFunc_Limpl_Row_impl_Row__impl_isAll_1.U : SumTab := [(52, [], impl_isAll_1.S)]
noncomputable def slices_IndexFunc_Limpl_Row_impl_Row__impl_isAll_1.E : Env := mkEnv TY AR slices_IndexFunc_Limpl_Row_impl_Row__impl_isAll_1.U
def slices_IndexFunc_Limpl_Row_impl_Row__impl_isAll_1.D4 : CutD := ⟨[0, 1, 7, 8], (.cons (.val (.list (.pair (.int .i64) (.one .str)))) (.cons (.fn 52 (.cons (.box 9 (.int .i64)) .nil)) (.cons (.val (.int .i64)) (.cons (.val (.int .i64)) .nil))))⟩
noncomputable def slices_IndexFunc_Limpl_Row_impl_Row__impl_isAll_1.T : Tab := fun k => look k [(4, slices_IndexFunc_Limpl_Row_impl_Row__impl_isAll_1.D4)]
def slices_IndexFunc_Limpl_Row_impl_Row__impl_isAll_1.R : List (Nat × Ty) := [(0, .int .i64)]
def slices_IndexFunc_Limpl_Row_impl_Row__impl_isAll_1.X : List ResultVar := [.tmp 4]
noncomputable def slices_IndexFunc_Limpl_Row_impl_Row__impl_isAll_1.K := fin slices_IndexFunc_Limpl_Row_impl_Row__impl_isAll_1.E ⟨slices_IndexFunc_Limpl_Row_impl_Row__impl_isAll_1.P, slices_IndexFunc_Limpl_Row_impl_Row__impl_isAll_1.R, fun _ _ => none⟩ slices_IndexFunc_Limpl_Row_impl_Row__impl_isAll_1.X slices_IndexFunc_Limpl_Row_impl_Row__impl_isAll_1.P.len 0
noncomputable def slices_IndexFunc_Limpl_Row_impl_Row__impl_isAll_1.l4 (s : List (Int × ByteArray)) (f : Int) (t7 : Int) (t8 : Int) : Option (Int × Int) := fixP slices_IndexFunc_Limpl_Row_impl_Row__impl_isAll_1.E slices_IndexFunc_Limpl_Row_impl_Row__impl_isAll_1.T slices_IndexFunc_Limpl_Row_impl_Row__impl_isAll_1.C slices_IndexFunc_Limpl_Row_impl_Row__impl_isAll_1.K 4 slices_IndexFunc_Limpl_Row_impl_Row__impl_isAll_1.D4 (s, f, t7, t8)
noncomputable def slices_IndexFunc_Limpl_Row_impl_Row__impl_isAll_1.f (s : List (Int × ByteArray)) (f : Int) : Option (Int × Int) := Fn slices_IndexFunc_Limpl_Row_impl_Row__impl_isAll_1.E slices_IndexFunc_Limpl_Row_impl_Row__impl_isAll_1.T slices_IndexFunc_Limpl_Row_impl_Row__impl_isAll_1.C slices_IndexFunc_Limpl_Row_impl_Row__impl_isAll_1.P slices_IndexFunc_Limpl_Row_impl_Row__impl_isAll_1.R slices_IndexFunc_Limpl_Row_impl_Row__impl_isAll_1.X (s, f)
theorem slices_IndexFunc_Limpl_Row_impl_Row__impl_isAll_1.l4_eq (s : List (Int × ByteArray)) (f : Int) (t7 : Int) (t8 : Int) : slices_IndexFunc_Limpl_Row_impl_Row__impl_isAll_1.l4 s f t7 t8 =
  (bif (decide (t8 < t7)) then (bif ((decide (0 ≤ t8)) && (decide (t8 < (s.length : Int)))) then ((impl_isAll_1.f (s.getD (t8).toNat (0, em)) f).bind fun y1 =>
    bif y1.1 then (some (t8, y1.2)) else
    (slices_IndexFunc_Limpl_Row_impl_Row__impl_isAll_1.l4 s y1.2 t7 (w64 (t8 + 1)))) else none) else (some ((-1), f))) :=
  (fixP_eq slices_IndexFunc_Limpl_Row_impl_Row__impl_isAll_1.E slices_IndexFunc_Limpl_Row_impl_Row__impl_isAll_1.T slices_IndexFunc_Limpl_Row_impl_Row__impl_isAll_1.C slices_IndexFunc_Limpl_Row_impl_Row__impl_isAll_1.K 4 slices_IndexFunc_Limpl_Row_impl_Row__impl_isAll_1.D4 (s, f, t7, t8)).trans (by kernel_rfl)
theorem slices_IndexFunc_Limpl_Row_impl_Row__impl_isAll_1.f_eq (s : List (Int × ByteArray)) (f : Int) : slices_IndexFunc_Limpl_Row_impl_Row__impl_isAll_1.f s f =
  (slices_IndexFunc_Limpl_Row_impl_Row__impl_isAll_1.l4 s f (s.length : Int) 0) := by kernel_rfl
noncomputable def slices_IndexFunc_Limpl_Row_impl_Row__impl_isAll_1.S : Abs.Sum := ⟨slices_IndexFunc_Limpl_Row_impl_Row__impl_isAll_1.P, slices_IndexFunc_Limpl_Row_impl_Row__impl_isAll_1.R, fun _ => Fn slices_IndexFunc_Limpl_Row_impl_Row__impl_isAll_1.E slices_IndexFunc_Limpl_Row_impl_Row__impl_isAll_1.T slices_IndexFunc_Limpl_Row_impl_Row__impl_isAll_1.C slices_IndexFunc_Limpl_Row_impl_Row__impl_isAll_1.P slices_IndexFunc_Limpl_Row_impl_Row__impl_isAll_1.R slices_IndexFunc_Limpl_Row_impl_Row__impl_isAll_1.X⟩
theorem slices_IndexFunc_Limpl_Row_impl_Row__impl_isAll_1.meets : Meets Tryd.prog 72 slices_IndexFunc_Limpl_Row_impl_Row__impl_isAll_1.S := meets_tab (S := slices_IndexFunc_Limpl_Row_impl_Row__impl_isAll_1.U) tabOk_all (AllMeets.cons impl_isAll_1.meets AllMeets.nil) (AllStill.cons (fun _ _ _ => rfl) AllStill.nil) follows (by kernel_rfl : Tryd.prog.funcs[72]? = some Tryd.f72) (by kernel_rfl) (by kernel_rfl) (by kernel_rfl)
noncomputable def slices_ContainsFunc_Limpl_Row_impl_Row__impl_isAll_1.C : Code := Tryd.f51.body.getD .skip
def slices_ContainsFunc_Limpl_Row_impl_Row__impl_isAll_1.P : Par := (.cons (.val (.list (.pair (.int .i64) (.one .str)))) (.cons (.fn 52 (.cons (.box 9 (.int .i64)) .nil)) .nil))
noncomputable def slices_ContainsFunc_Limpl_Row_impl_Row__impl_isAll_1.U : SumTab := [(72, [52], slices_IndexFunc_Limpl_Row_impl_Row__impl_isAll_1.S)]
noncomputable def slices_ContainsFunc_Limpl_Row_impl_Row__impl_isAll_1.E : Env := mkEnv TY AR slices_ContainsFunc_Limpl_Row_impl_Row__impl_isAll_1.U
noncomputable def slices_ContainsFunc_Limpl_Row_impl_Row__impl_isAll_1.T : Tab := fun k => look k []
def slices_ContainsFunc_Limpl_Row_impl_Row__impl_isAll_1.R : List (Nat × Ty) := [(0, .bool)]
def slices_ContainsFunc_Limpl_Row_impl_Row__impl_isAll_1.X : List ResultVar := [.tmp 4]
noncomputable def slices_ContainsFunc_Limpl_Row_impl_Row__impl_isAll_1.f (s : List (Int × ByteArray)) (f : Int) : Option (Bool × Int) := Fn slices_ContainsFunc_Limpl_Row_impl_Row__impl_isAll_1.E slices_ContainsFunc_Limpl_Row_impl_Row__impl_isAll_1.T slices_ContainsFunc_Limpl_Row_impl_Row__impl_isAll_1.C slices_ContainsFunc_Limpl_Row_impl_Row__impl_isAll_1.P slices_ContainsFunc_Limpl_Row_impl_Row__impl_isAll_1.R slices_ContainsFunc_Limpl_Row_impl_Row__impl_isAll_1.X (s, f)
theorem slices_ContainsFunc_Limpl_Row_impl_Row__impl_isAll_1.f_eq (s : List (Int × ByteArray)) (f : Int) : slices_ContainsFunc_Limpl_Row_impl_Row__impl_isAll_1.f s f =
  ((slices_IndexFunc_Limpl_Row_impl_Row__impl_isAll_1.f s f).bind fun y1 =>
  some ((decide (y1.1 ≥ 0)), y1.2)) := by kernel_rfl
noncomputable def slices_ContainsFunc_Limpl_Row_impl_Row__impl_isAll_1.S : Abs.Sum := ⟨slices_ContainsFunc_Limpl_Row_impl_Row__impl_isAll_1.P, slices_ContainsFunc_Limpl_Row_impl_Row__impl_isAll_1.R, fun _ => Fn slices_ContainsFunc_Limpl_Row_impl_Row__impl_isAll_1.E slices_ContainsFunc_Limpl_Row_impl_Row__impl_isAll_1.T slices_ContainsFunc_Limpl_Row_impl_Row__impl_isAll_1.C slices_ContainsFunc_Limpl_Row_impl_Row__impl_isAll_1.P slices_ContainsFunc_Limpl_Row_impl_Row__impl_isAll_1.R slices_ContainsFunc_Limpl_Row_impl_Row__impl_isAll_1.X⟩
theorem slices_ContainsFunc_Limpl_Row_impl_Row__impl_isAll_1.meets : Meets Tryd.prog 51 slices_ContainsFunc_Limpl_Row_impl_Row__impl_isAll_1.S := meets_tab (S := slices_ContainsFunc_Limpl_Row_impl_Row__impl_isAll_1.U) tabOk_all (AllMeets.cons slices_IndexFunc_Limpl_Row_impl_Row__impl_isAll_1.meets AllMeets.nil) (AllStill.cons (fun _ _ _ => rfl) AllStill.nil) follows (by kernel_rfl : Tryd.prog.funcs[51]? = some Tryd.f51) (by kernel_rfl) (by kernel_rfl) (by kernel_rfl)
noncomputable def impl_isAll.C : Code := Tryd.f34.body.getD .skip
def impl_isAll.P : Par := (.cons (.val (.list (.pair (.int .i64) (.pair (.int .i64) (.one (.list (.pair (.int .i64) (.one .str)))))))) (.cons (.val (.int .i64)) .nil))
noncomputable def impl_isAll.U : SumTab := [(51, [52], slices_ContainsFunc_Limpl_Row_impl_Row__impl_isAll_1.S)]
noncomputable def impl_isAll.E : Env := mkEnv TY AR impl_isAll.U
noncomputable def impl_isAll.T : Tab := fun k => look k []
def impl_isAll.R : List (Nat × Ty) := [(0, .bool)]
def impl_isAll.X : List ResultVar := [.tmp 4]
noncomputable def impl_isAll.f (g : List (Int × Int × List (Int × ByteArray))) (kind : Int) : Option (Bool) := Fn impl_isAll.E impl_isAll.T impl_isAll.C impl_isAll.P impl_isAll.R impl_isAll.X (g, kind)
theorem impl_isAll.f_eq (g : List (Int × Int × List (Int × ByteArray))) (kind : Int) : impl_isAll.f g kind =
  (bif (decide ((g.length : Int) = 0)) then (some true) else
  (bif (decide ((g.length : Int) = 1)) then (bif (decide (0 < (g.length : Int))) then (bif (decide ((g.getD 0 (0, 0, ([] : List (Int × ByteArray)))).1 = 0)) then (bif (decide (0 < (g.length : Int))) then (bif (decide ((g.getD 0 (0, 0, ([] : List (Int × ByteArray)))).2.1 = 0)) then (bif (decide (0 < (g.length : Int))) then ((slices_ContainsFunc_Limpl_Row_impl_Row__impl_isAll_1.f (g.getD 0 (0, 0, ([] : List (Int × ByteArray)))).2.2 kind).bind fun y1 =>
         some (!y1.1)) else none) else (some false)) else none) else (some false)) else none) else (some false))) := by kernel_rfl
noncomputable def impl_isAll.S : Abs.Sum := ⟨impl_isAll.P, impl_isAll.R, fun _ => Fn impl_isAll.E impl_isAll.T impl_isAll.C impl_isAll.P impl_isAll.R impl_isAll.X⟩
theorem impl_isAll.meets : Meets Tryd.prog 34 impl_isAll.S := meets_tab (S := impl_isAll.U) tabOk_all (AllMeets.cons slices_ContainsFunc_Limpl_Row_impl_Row__impl_isAll_1.meets AllMeets.nil) (AllStill.cons (fun _ _ _ => rfl) AllStill.nil) follows (by kernel_rfl : Tryd.prog.funcs[34]? = some Tryd.f34) (by kernel_rfl) (by kernel_rfl) (by kernel_rfl)
noncomputable def impl_goodDiffs.C : Code := Tryd.f20.body.getD .skip
def impl_goodDiffs.P : Par := (.cons (.val (.list (.pair .str (.pair (.int .i64) (.one (.list (.pair (.int .i64) (.pair (.int .i64) (.one (.list (.pair (.int .i64) (.one .str)))))))))))) .nil)
noncomputable def impl_goodDiffs.U : SumTab := [(32, [], impl_isName.S), (33, [], impl_goodGroups.S), (34, [], impl_isAll.S)]
noncomputable def impl_goodDiffs.E : Env := mkEnv TY AR impl_goodDiffs.U
def impl_goodDiffs.D4 : CutD := ⟨[0, 6, 7, 8], (.cons (.val (.list (.pair .str (.pair (.int .i64) (.one (.list (.pair (.int .i64) (.pair (.int .i64) (.one (.list (.pair (.int .i64) (.one .str)))))))))))) (.cons (.val (.list (.pair .str (.pair (.int .i64) (.one (.list (.pair (.int .i64) (.pair (.int .i64) (.one (.list (.pair (.int .i64) (.one .str)))))))))))) (.cons (.val (.int .i64)) (.cons (.val (.int .i64)) .nil))))⟩
def impl_goodDiffs.D13 : CutD := ⟨[0, 4, 6, 7, 8], (.cons (.val (.list (.pair .str (.pair (.int .i64) (.one (.list (.pair (.int .i64) (.pair (.int .i64) (.one (.list (.pair (.int .i64) (.one .str)))))))))))) (.cons (.box 0 (.pair .str (.pair (.int .i64) (.one (.list (.pair (.int .i64) (.pair (.int .i64) (.one (.list (.pair (.int .i64) (.one .str))))))))))) (.cons (.val (.list (.pair .str (.pair (.int .i64) (.one (.list (.pair (.int .i64) (.pair (.int .i64) (.one (.list (.pair (.int .i64) (.one .str)))))))))))) (.cons (.val (.int .i64)) (.cons (.val (.int .i64)) .nil)))))⟩
def impl_goodDiffs.D29 : CutD := ⟨[0, 5, 6, 7, 8], (.cons (.val (.list (.pair .str (.pair (.int .i64) (.one (.list (.pair (.int .i64) (.pair (.int .i64) (.one (.list (.pair (.int .i64) (.one .str)))))))))))) (.cons (.val .bool) (.cons (.val (.list (.pair .str (.pair (.int .i64) (.one (.list (.pair (.int .i64) (.pair (.int .i64) (.one (.list (.pair (.int .i64) (.one .str)))))))))))) (.cons (.val (.int .i64)) (.cons (.val (.int .i64)) .nil)))))⟩
noncomputable def impl_goodDiffs.T : Tab := fun k => look k [(4, impl_goodDiffs.D4), (13, impl_goodDiffs.D13), (29, impl_goodDiffs.D29)]
def impl_goodDiffs.R : List (Nat × Ty) := [(0, .bool)]
def impl_goodDiffs.X : List ResultVar := [.tmp 2]
noncomputable def impl_goodDiffs.K := fin impl_goodDiffs.E ⟨impl_goodDiffs.P, impl_goodDiffs.R, fun _ _ => none⟩ impl_goodDiffs.X impl_goodDiffs.P.len 0
noncomputable def impl_goodDiffs.l4 (d : List (ByteArray × Int × List (Int × Int × List (Int × ByteArray)))) (t6 : List (ByteArray × Int × List (Int × Int × List (Int × ByteArray)))) (t7 : Int) (t8 : Int) : Option (Bool) := fixP impl_goodDiffs.E impl_goodDiffs.T impl_goodDiffs.C impl_goodDiffs.K 4 impl_goodDiffs.D4 (d, t6, t7, t8)
noncomputable def impl_goodDiffs.l13 (d : List (ByteArray × Int × List (Int × Int × List (Int × ByteArray)))) (x : ByteArray × Int × List (Int × Int × List (Int × ByteArray))) (t6 : List (ByteArray × Int × List (Int × Int × List (Int × ByteArray)))) (t7 : Int) (t8 : Int) : Option (Bool) := fixP impl_goodDiffs.E impl_goodDiffs.T impl_goodDiffs.C impl_goodDiffs.K 13 impl_goodDiffs.D13 (d, x, t6, t7, t8)
noncomputable def impl_goodDiffs.l29 (d : List (ByteArray × Int × List (Int × Int × List (Int × ByteArray)))) (ok : Bool) (t6 : List (ByteArray × Int × List (Int × Int × List (Int × ByteArray)))) (t7 : Int) (t8 : Int) : Option (Bool) := fixP impl_goodDiffs.E impl_goodDiffs.T impl_goodDiffs.C impl_goodDiffs.K 29 impl_goodDiffs.D29 (d, ok, t6, t7, t8)
noncomputable def impl_goodDiffs.f (d : List (ByteArray × Int × List (Int × Int × List (Int × ByteArray)))) : Option (Bool) := Fn impl_goodDiffs.E impl_goodDiffs.T impl_goodDiffs.C impl_goodDiffs.P impl_goodDiffs.R impl_goodDiffs.X d
theorem impl_goodDiffs.l4_eq (d : List (ByteArray × Int × List (Int × Int × List (Int × ByteArray)))) (t6 : List (ByteArray × Int × List (Int × Int × List (Int × ByteArray)))) (t7 : Int) (t8 : Int) : impl_goodDiffs.l4 d t6 t7 t8 =
  (bif (decide (t8 < t7)) then (bif ((decide (0 ≤ t8)) && (decide (t8 < (t6.length : Int)))) then ((impl_isName.f (t6.getD (t8).toNat (em, 0, ([] : List (Int × Int × List (Int × ByteArray))))).1).bind fun y1 =>
    bif (!y1) then (some false) else
    ((impl_goodGroups.f (t6.getD (t8).toNat (em, 0, ([] : List (Int × Int × List (Int × ByteArray))))).2.2).bind fun y2 =>
     bif (!y2) then (some false) else
     (bif (decide (t8 > 0)) then (bif ((decide (0 ≤ (w64 (t8 - 1)))) && (decide ((w64 (t8 - 1)) < (d.length : Int)))) then (bif ((Op.bytesLess (t6.getD (t8).toNat (em, 0, ([] : List (Int × Int × List (Int × ByteArray))))).1.toList (d.getD ((w64 (t8 - 1))).toNat (em, 0, ([] : List (Int × Int × List (Int × ByteArray))))).1.toList) || ((t6.getD (t8).toNat (em, 0, ([] : List (Int × Int × List (Int × ByteArray))))).1.toList == (d.getD ((w64 (t8 - 1))).toNat (em, 0, ([] : List (Int × Int × List (Int × ByteArray))))).1.toList)) then (some false) else
        (impl_goodDiffs.l13 d (t6.getD (t8).toNat (em, 0, ([] : List (Int × Int × List (Int × ByteArray))))) t6 t7 t8)) else none) else
      (impl_goodDiffs.l13 d (t6.getD (t8).toNat (em, 0, ([] : List (Int × Int × List (Int × ByteArray))))) t6 t7 t8)))) else none) else (some (decide ((d.length : Int) ≤ 16)))) :=
  (fixP_eq impl_goodDiffs.E impl_goodDiffs.T impl_goodDiffs.C impl_goodDiffs.K 4 impl_goodDiffs.D4 (d, t6, t7, t8)).trans (by kernel_rfl)
theorem impl_goodDiffs.l13_eq (d : List (ByteArray × Int × List (Int × Int × List (Int × ByteArray)))) (x : ByteArray × Int × List (Int × Int × List (Int × ByteArray))) (t6 : List (ByteArray × Int × List (Int × Int × List (Int × ByteArray)))) (t7 : Int) (t8 : Int) : impl_goodDiffs.l13 d x t6 t7 t8 =
  (bif (decide (x.2.1 = 1)) then ((impl_isAll.f x.2.2 3).bind fun y1 =>
   impl_goodDiffs.l29 d y1 t6 t7 t8) else
  (bif (decide (x.2.1 = 2)) then ((impl_isAll.f x.2.2 2).bind fun y1 =>
    impl_goodDiffs.l29 d y1 t6 t7 t8) else
   (bif (decide (x.2.1 = 3)) then (impl_goodDiffs.l29 d (decide ((x.2.2.length : Int) > 0)) t6 t7 t8) else
    (impl_goodDiffs.l29 d false t6 t7 t8)))) :=
  (fixP_eq impl_goodDiffs.E impl_goodDiffs.T impl_goodDiffs.C impl_goodDiffs.K 13 impl_goodDiffs.D13 (d, x, t6, t7, t8)).trans (by kernel_rfl)
theorem impl_goodDiffs.l29_eq (d : List (ByteArray × Int × List (Int × Int × List (Int × ByteArray)))) (ok : Bool) (t6 : List (ByteArray × Int × List (Int × Int × List (Int × ByteArray)))) (t7 : Int) (t8 : Int) : impl_goodDiffs.l29 d ok t6 t7 t8 =
  (bif (!ok) then (some false) else
  (impl_goodDiffs.l4 d t6 t7 (w64 (t8 + 1)))) :=
  (fixP_eq impl_goodDiffs.E impl_goodDiffs.T impl_goodDiffs.C impl_goodDiffs.K 29 impl_goodDiffs.D29 (d, ok, t6, t7, t8)).trans (by kernel_rfl)
theorem impl_goodDiffs.f_eq (d : List (ByteArray × Int × List (Int × Int × List (Int × ByteArray)))) : impl_goodDiffs.f d =
  (impl_goodDiffs.l4 d d (d.length : Int) 0) := by kernel_rfl
noncomputable def impl_goodDiffs.S : Abs.Sum := ⟨impl_goodDiffs.P, impl_goodDiffs.R, fun _ => Fn impl_goodDiffs.E impl_goodDiffs.T impl_goodDiffs.C impl_goodDiffs.P impl_goodDiffs.R impl_goodDiffs.X⟩
theorem impl_goodDiffs.meets : Meets Tryd.prog 20 impl_goodDiffs.S := meets_tab (S := impl_goodDiffs.U) tabOk_all (AllMeets.cons impl_isName.meets (AllMeets.cons impl_goodGroups.meets (AllMeets.cons impl_isAll.meets AllMeets.nil))) (AllStill.cons (fun _ _ _ => rfl) (AllStill.cons (fun _ _ _ => rfl) (AllStill.cons (fun _ _ _ => rfl) AllStill.nil))) follows (by kernel_rfl : Tryd.prog.funcs[20]? = some Tryd.f20) (by kernel_rfl) (by kernel_rfl) (by kernel_rfl)
noncomputable def laws_eqRow.C : Code := Tryd.f89.body.getD .skip
def laws_eqRow.P : Par := (.cons (.val (.pair (.int .i64) (.one .str))) (.cons (.val (.pair (.int .i64) (.one .str))) .nil))
noncomputable def laws_eqRow.U : SumTab := []
noncomputable def laws_eqRow.E : Env := mkEnv TY AR laws_eqRow.U
noncomputable def laws_eqRow.T : Tab := fun k => look k []
def laws_eqRow.R : List (Nat × Ty) := [(0, .bool)]
def laws_eqRow.X : List ResultVar := [.tmp 4]
noncomputable def laws_eqRow.f (a : Int × ByteArray) (b : Int × ByteArray) : Option (Bool) := Fn laws_eqRow.E laws_eqRow.T laws_eqRow.C laws_eqRow.P laws_eqRow.R laws_eqRow.X (a, b)
theorem laws_eqRow.f_eq (a : Int × ByteArray) (b : Int × ByteArray) : laws_eqRow.f a b =
  (bif (!(decide (a.1 = b.1))) then (some false) else
  (bif (!(a.2.toList == b.2.toList)) then (some false) else (some true))) := by kernel_rfl
noncomputable def laws_eqRow.S : Abs.Sum := ⟨laws_eqRow.P, laws_eqRow.R, fun _ => Fn laws_eqRow.E laws_eqRow.T laws_eqRow.C laws_eqRow.P laws_eqRow.R laws_eqRow.X⟩
theorem laws_eqRow.meets : Meets Tryd.prog 89 laws_eqRow.S := meets_tab (S := laws_eqRow.U) tabOk_all AllMeets.nil AllStill.nil follows (by kernel_rfl : Tryd.prog.funcs[89]? = some Tryd.f89) (by kernel_rfl) (by kernel_rfl) (by kernel_rfl)
noncomputable def laws_eqRowS.C : Code := Tryd.f73.body.getD .skip
def laws_eqRowS.P : Par := (.cons (.val (.list (.pair (.int .i64) (.one .str)))) (.cons (.val (.list (.pair (.int .i64) (.one .str)))) .nil))
noncomputable def laws_eqRowS.U : SumTab := [(89, [], laws_eqRow.S)]
noncomputable def laws_eqRowS.E : Env := mkEnv TY AR laws_eqRowS.U
def laws_eqRowS.D8 : CutD := ⟨[0, 1, 5], (.cons (.val (.list (.pair (.int .i64) (.one .str)))) (.cons (.val (.list (.pair (.int .i64) (.one .str)))) (.cons (.val (.int .i64)) .nil)))⟩
noncomputable def laws_eqRowS.T : Tab := fun k => look k [(8, laws_eqRowS.D8)]
def laws_eqRowS.R : List (Nat × Ty) := [(0, .bool)]
def laws_eqRowS.X : List ResultVar := [.tmp 4]
noncomputable def laws_eqRowS.K := fin laws_eqRowS.E ⟨laws_eqRowS.P, laws_eqRowS.R, fun _ _ => none⟩ laws_eqRowS.X laws_eqRowS.P.len 0
noncomputable def laws_eqRowS.l8 (a : List (Int × ByteArray)) (b : List (Int × ByteArray)) (i : Int) : Option (Bool) := fixP laws_eqRowS.E laws_eqRowS.T laws_eqRowS.C laws_eqRowS.K 8 laws_eqRowS.D8 (a, b, i)
noncomputable def laws_eqRowS.f (a : List (Int × ByteArray)) (b : List (Int × ByteArray)) : Option (Bool) := Fn laws_eqRowS.E laws_eqRowS.T laws_eqRowS.C laws_eqRowS.P laws_eqRowS.R laws_eqRowS.X (a, b)
theorem laws_eqRowS.l8_eq (a : List (Int × ByteArray)) (b : List (Int × ByteArray)) (i : Int) : laws_eqRowS.l8 a b i =
  (bif (decide (i < (a.length : Int))) then (bif ((decide (0 ≤ i)) && (decide (i < (a.length : Int)))) then (bif ((decide (0 ≤ i)) && (decide (i < (b.length : Int)))) then ((laws_eqRow.f (a.getD (i).toNat (0, em)) (b.getD (i).toNat (0, em))).bind fun y1 =>
     bif (!y1) then (some false) else
     (laws_eqRowS.l8 a b (w64 (i + 1)))) else none) else none) else (some true)) :=
  (fixP_eq laws_eqRowS.E laws_eqRowS.T laws_eqRowS.C laws_eqRowS.K 8 laws_eqRowS.D8 (a, b, i)).trans (by kernel_rfl)
theorem laws_eqRowS.f_eq (a : List (Int × ByteArray)) (b : List (Int × ByteArray)) : laws_eqRowS.f a b =
  (bif (!(decide ((a.length : Int) = (b.length : Int)))) then (some false) else
  (laws_eqRowS.l8 a b 0)) := by kernel_rfl
noncomputable def laws_eqRowS.S : Abs.Sum := ⟨laws_eqRowS.P, laws_eqRowS.R, fun _ => Fn laws_eqRowS.E laws_eqRowS.T laws_eqRowS.C laws_eqRowS.P laws_eqRowS.R laws_eqRowS.X⟩
theorem laws_eqRowS.meets : Meets Tryd.prog 73 laws_eqRowS.S := meets_tab (S := laws_eqRowS.U) tabOk_all (AllMeets.cons laws_eqRow.meets AllMeets.nil) (AllStill.cons (fun _ _ _ => rfl) AllStill.nil) follows (by kernel_rfl : Tryd.prog.funcs[73]? = some Tryd.f73) (by kernel_rfl) (by kernel_rfl) (by kernel_rfl)
noncomputable def laws_eqGroup.C : Code := Tryd.f53.body.getD .skip
def laws_eqGroup.P : Par := (.cons (.val (.pair (.int .i64) (.pair (.int .i64) (.one (.list (.pair (.int .i64) (.one .str))))))) (.cons (.val (.pair (.int .i64) (.pair (.int .i64) (.one (.list (.pair (.int .i64) (.one .str))))))) .nil))
noncomputable def laws_eqGroup.U : SumTab := [(73, [], laws_eqRowS.S)]
noncomputable def laws_eqGroup.E : Env := mkEnv TY AR laws_eqGroup.U
noncomputable def laws_eqGroup.T : Tab := fun k => look k []
def laws_eqGroup.R : List (Nat × Ty) := [(0, .bool)]
def laws_eqGroup.X : List ResultVar := [.tmp 4]
noncomputable def laws_eqGroup.f (a : Int × Int × List (Int × ByteArray)) (b : Int × Int × List (Int × ByteArray)) : Option (Bool) := Fn laws_eqGroup.E laws_eqGroup.T laws_eqGroup.C laws_eqGroup.P laws_eqGroup.R laws_eqGroup.X (a, b)
theorem laws_eqGroup.f_eq (a : Int × Int × List (Int × ByteArray)) (b : Int × Int × List (Int × ByteArray)) : laws_eqGroup.f a b =
  (bif (!(decide (a.1 = b.1))) then (some false) else
  (bif (!(decide (a.2.1 = b.2.1))) then (some false) else
   ((laws_eqRowS.f a.2.2 b.2.2).bind fun y1 =>
    bif (!y1) then (some false) else (some true)))) := by kernel_rfl
noncomputable def laws_eqGroup.S : Abs.Sum := ⟨laws_eqGroup.P, laws_eqGroup.R, fun _ => Fn laws_eqGroup.E laws_eqGroup.T laws_eqGroup.C laws_eqGroup.P laws_eqGroup.R laws_eqGroup.X⟩
theorem laws_eqGroup.meets : Meets Tryd.prog 53 laws_eqGroup.S := meets_tab (S := laws_eqGroup.U) tabOk_all (AllMeets.cons laws_eqRowS.meets AllMeets.nil) (AllStill.cons (fun _ _ _ => rfl) AllStill.nil) follows (by kernel_rfl : Tryd.prog.funcs[53]? = some Tryd.f53) (by kernel_rfl) (by kernel_rfl) (by kernel_rfl)
noncomputable def laws_eqGroupS.C : Code := Tryd.f35.body.getD .skip
def laws_eqGroupS.P : Par := (.cons (.val (.list (.pair (.int .i64) (.pair (.int .i64) (.one (.list (.pair (.int .i64) (.one .str)))))))) (.cons (.val (.list (.pair (.int .i64) (.pair (.int .i64) (.one (.list (.pair (.int .i64) (.one .str)))))))) .nil))
noncomputable def laws_eqGroupS.U : SumTab := [(53, [], laws_eqGroup.S)]
noncomputable def laws_eqGroupS.E : Env := mkEnv TY AR laws_eqGroupS.U
def laws_eqGroupS.D8 : CutD := ⟨[0, 1, 5], (.cons (.val (.list (.pair (.int .i64) (.pair (.int .i64) (.one (.list (.pair (.int .i64) (.one .str)))))))) (.cons (.val (.list (.pair (.int .i64) (.pair (.int .i64) (.one (.list (.pair (.int .i64) (.one .str)))))))) (.cons (.val (.int .i64)) .nil)))⟩
noncomputable def laws_eqGroupS.T : Tab := fun k => look k [(8, laws_eqGroupS.D8)]
def laws_eqGroupS.R : List (Nat × Ty) := [(0, .bool)]
def laws_eqGroupS.X : List ResultVar := [.tmp 4]
noncomputable def laws_eqGroupS.K := fin laws_eqGroupS.E ⟨laws_eqGroupS.P, laws_eqGroupS.R, fun _ _ => none⟩ laws_eqGroupS.X laws_eqGroupS.P.len 0
noncomputable def laws_eqGroupS.l8 (a : List (Int × Int × List (Int × ByteArray))) (b : List (Int × Int × List (Int × ByteArray))) (i : Int) : Option (Bool) := fixP laws_eqGroupS.E laws_eqGroupS.T laws_eqGroupS.C laws_eqGroupS.K 8 laws_eqGroupS.D8 (a, b, i)
noncomputable def laws_eqGroupS.f (a : List (Int × Int × List (Int × ByteArray))) (b : List (Int × Int × List (Int × ByteArray))) : Option (Bool) := Fn laws_eqGroupS.E laws_eqGroupS.T laws_eqGroupS.C laws_eqGroupS.P laws_eqGroupS.R laws_eqGroupS.X (a, b)
theorem laws_eqGroupS.l8_eq (a : List (Int × Int × List (Int × ByteArray))) (b : List (Int × Int × List (Int × ByteArray))) (i : Int) : laws_eqGroupS.l8 a b i =
  (bif (decide (i < (a.length : Int))) then (bif ((decide (0 ≤ i)) && (decide (i < (a.length : Int)))) then (bif ((decide (0 ≤ i)) && (decide (i < (b.length : Int)))) then ((laws_eqGroup.f (a.getD (i).toNat (0, 0, ([] : List (Int × ByteArray)))) (b.getD (i).toNat (0, 0, ([] : List (Int × ByteArray))))).bind fun y1 =>
     bif (!y1) then (some false) else
     (laws_eqGroupS.l8 a b (w64 (i + 1)))) else none) else none) else (some true)) :=
  (fixP_eq laws_eqGroupS.E laws_eqGroupS.T laws_eqGroupS.C laws_eqGroupS.K 8 laws_eqGroupS.D8 (a, b, i)).trans (by kernel_rfl)
theorem laws_eqGroupS.f_eq (a : List (Int × Int × List (Int × ByteArray))) (b : List (Int × Int × List (Int × ByteArray))) : laws_eqGroupS.f a b =
  (bif (!(decide ((a.length : Int) = (b.length : Int)))) then (some false) else
  (laws_eqGroupS.l8 a b 0)) := by kernel_rfl
noncomputable def laws_eqGroupS.S : Abs.Sum := ⟨laws_eqGroupS.P, laws_eqGroupS.R, fun _ => Fn laws_eqGroupS.E laws_eqGroupS.T laws_eqGroupS.C laws_eqGroupS.P laws_eqGroupS.R laws_eqGroupS.X⟩
theorem laws_eqGroupS.meets : Meets Tryd.prog 35 laws_eqGroupS.S := meets_tab (S := laws_eqGroupS.U) tabOk_all (AllMeets.cons laws_eqGroup.meets AllMeets.nil) (AllStill.cons (fun _ _ _ => rfl) AllStill.nil) follows (by kernel_rfl : Tryd.prog.funcs[35]? = some Tryd.f35) (by kernel_rfl) (by kernel_rfl) (by kernel_rfl)
noncomputable def laws_eqFileDiff.C : Code := Tryd.f21.body.getD .skip
def laws_eqFileDiff.P : Par := (.cons (.val (.pair .str (.pair (.int .i64) (.one (.list (.pair (.int .i64) (.pair (.int .i64) (.one (.list (.pair (.int .i64) (.one .str))))))))))) (.cons (.val (.pair .str (.pair (.int .i64) (.one (.list (.pair (.int .i64) (.pair (.int .i64) (.one (.list (.pair (.int .i64) (.one .str))))))))))) .nil))
noncomputable def laws_eqFileDiff.U : SumTab := [(35, [], laws_eqGroupS.S)]
noncomputable def laws_eqFileDiff.E : Env := mkEnv TY AR laws_eqFileDiff.U
noncomputable def laws_eqFileDiff.T : Tab := fun k => look k []
def laws_eqFileDiff.R : List (Nat × Ty) := [(0, .bool)]
def laws_eqFileDiff.X : List ResultVar := [.tmp 4]
noncomputable def laws_eqFileDiff.f (a : ByteArray × Int × List (Int × Int × List (Int × ByteArray))) (b : ByteArray × Int × List (Int × Int × List (Int × ByteArray))) : Option (Bool) := Fn laws_eqFileDiff.E laws_eqFileDiff.T laws_eqFileDiff.C laws_eqFileDiff.P laws_eqFileDiff.R laws_eqFileDiff.X (a, b)
theorem laws_eqFileDiff.f_eq (a : ByteArray × Int × List (Int × Int × List (Int × ByteArray))) (b : ByteArray × Int × List (Int × Int × List (Int × ByteArray))) : laws_eqFileDiff.f a b =
  (bif (!(a.1.toList == b.1.toList)) then (some false) else
  (bif (!(decide (a.2.1 = b.2.1))) then (some false) else
   ((laws_eqGroupS.f a.2.2 b.2.2).bind fun y1 =>
    bif (!y1) then (some false) else (some true)))) := by kernel_rfl
noncomputable def laws_eqFileDiff.S : Abs.Sum := ⟨laws_eqFileDiff.P, laws_eqFileDiff.R, fun _ => Fn laws_eqFileDiff.E laws_eqFileDiff.T laws_eqFileDiff.C laws_eqFileDiff.P laws_eqFileDiff.R laws_eqFileDiff.X⟩
theorem laws_eqFileDiff.meets : Meets Tryd.prog 21 laws_eqFileDiff.S := meets_tab (S := laws_eqFileDiff.U) tabOk_all (AllMeets.cons laws_eqGroupS.meets AllMeets.nil) (AllStill.cons (fun _ _ _ => rfl) AllStill.nil) follows (by kernel_rfl : Tryd.prog.funcs[21]? = some Tryd.f21) (by kernel_rfl) (by kernel_rfl) (by kernel_rfl)
noncomputable def laws_eqFileDiffS.C : Code := Tryd.f10.body.getD .skip
def laws_eqFileDiffS.P : Par := (.cons (.val (.list (.pair .str (.pair (.int .i64) (.one (.list (.pair (.int .i64) (.pair (.int .i64) (.one (.list (.pair (.int .i64) (.one .str)))))))))))) (.cons (.val (.list (.pair .str (.pair (.int .i64) (.one (.list (.pair (.int .i64) (.pair (.int .i64) (.one (.list (.pair (.int .i64) (.one .str)))))))))))) .nil))
noncomputable def laws_eqFileDiffS.U : SumTab := [(21, [], laws_eqFileDiff.S)]
noncomputable def laws_eqFileDiffS.E : Env := mkEnv TY AR laws_eqFileDiffS.U
def laws_eqFileDiffS.D8 : CutD := ⟨[0, 1, 5], (.cons (.val (.list (.pair .str (.pair (.int .i64) (.one (.list (.pair (.int .i64) (.pair (.int .i64) (.one (.list (.pair (.int .i64) (.one .str)))))))))))) (.cons (.val (.list (.pair .str (.pair (.int .i64) (.one (.list (.pair (.int .i64) (.pair (.int .i64) (.one (.list (.pair (.int .i64) (.one .str)))))))))))) (.cons (.val (.int .i64)) .nil)))⟩
noncomputable def laws_eqFileDiffS.T : Tab := fun k => look k [(8, laws_eqFileDiffS.D8)]
def laws_eqFileDiffS.R : List (Nat × Ty) := [(0, .bool)]
def laws_eqFileDiffS.X : List ResultVar := [.tmp 4]
noncomputable def laws_eqFileDiffS.K := fin laws_eqFileDiffS.E ⟨laws_eqFileDiffS.P, laws_eqFileDiffS.R, fun _ _ => none⟩ laws_eqFileDiffS.X laws_eqFileDiffS.P.len 0
noncomputable def laws_eqFileDiffS.l8 (a : List (ByteArray × Int × List (Int × Int × List (Int × ByteArray)))) (b : List (ByteArray × Int × List (Int × Int × List (Int × ByteArray)))) (i : Int) : Option (Bool) := fixP laws_eqFileDiffS.E laws_eqFileDiffS.T laws_eqFileDiffS.C laws_eqFileDiffS.K 8 laws_eqFileDiffS.D8 (a, b, i)
noncomputable def laws_eqFileDiffS.f (a : List (ByteArray × Int × List (Int × Int × List (Int × ByteArray)))) (b : List (ByteArray × Int × List (Int × Int × List (Int × ByteArray)))) : Option (Bool) := Fn laws_eqFileDiffS.E laws_eqFileDiffS.T laws_eqFileDiffS.C laws_eqFileDiffS.P laws_eqFileDiffS.R laws_eqFileDiffS.X (a, b)
theorem laws_eqFileDiffS.l8_eq (a : List (ByteArray × Int × List (Int × Int × List (Int × ByteArray)))) (b : List (ByteArray × Int × List (Int × Int × List (Int × ByteArray)))) (i : Int) : laws_eqFileDiffS.l8 a b i =
  (bif (decide (i < (a.length : Int))) then (bif ((decide (0 ≤ i)) && (decide (i < (a.length : Int)))) then (bif ((decide (0 ≤ i)) && (decide (i < (b.length : Int)))) then ((laws_eqFileDiff.f (a.getD (i).toNat (em, 0, ([] : List (Int × Int × List (Int × ByteArray))))) (b.getD (i).toNat (em, 0, ([] : List (Int × Int × List (Int × ByteArray)))))).bind fun y1 =>
     bif (!y1) then (some false) else
     (laws_eqFileDiffS.l8 a b (w64 (i + 1)))) else none) else none) else (some true)) :=
  (fixP_eq laws_eqFileDiffS.E laws_eqFileDiffS.T laws_eqFileDiffS.C laws_eqFileDiffS.K 8 laws_eqFileDiffS.D8 (a, b, i)).trans (by kernel_rfl)
theorem laws_eqFileDiffS.f_eq (a : List (ByteArray × Int × List (Int × Int × List (Int × ByteArray)))) (b : List (ByteArray × Int × List (Int × Int × List (Int × ByteArray)))) : laws_eqFileDiffS.f a b =
  (bif (!(decide ((a.length : Int) = (b.length : Int)))) then (some false) else
  (laws_eqFileDiffS.l8 a b 0)) := by kernel_rfl
noncomputable def laws_eqFileDiffS.S : Abs.Sum := ⟨laws_eqFileDiffS.P, laws_eqFileDiffS.R, fun _ => Fn laws_eqFileDiffS.E laws_eqFileDiffS.T laws_eqFileDiffS.C laws_eqFileDiffS.P laws_eqFileDiffS.R laws_eqFileDiffS.X⟩
theorem laws_eqFileDiffS.meets : Meets Tryd.prog 10 laws_eqFileDiffS.S := meets_tab (S := laws_eqFileDiffS.U) tabOk_all (AllMeets.cons laws_eqFileDiff.meets AllMeets.nil) (AllStill.cons (fun _ _ _ => rfl) AllStill.nil) follows (by kernel_rfl : Tryd.prog.funcs[10]? = some Tryd.f10) (by kernel_rfl) (by kernel_rfl) (by kernel_rfl)
noncomputable def spec_l1Num_0.C : Code := Tryd.f27.body.getD .skip
def spec_l1Num_0.P : Par := (.cons (.val (.int .i64)) .nil)
noncomputable def spec_l1Num_0.U : SumTab := [(27, [], spec_l1Num_z.S)]
noncomputable def spec_l1Num_0.E : Env := mkEnv TY AR spec_l1Num_0.U
noncomputable def spec_l1Num_0.T : Tab := fun k => look k []
def spec_l1Num_0.R : List (Nat × Ty) := [(0, .str)]
def spec_l1Num_0.X : List ResultVar := [.tmp 2]
noncomputable def spec_l1Num_0.f (n : Int) : Option (ByteArray) := Fn spec_l1Num_0.E spec_l1Num_0.T spec_l1Num_0.C spec_l1Num_0.P spec_l1Num_0.R spec_l1Num_0.X n
theorem spec_l1Num_0.f_eq (n : Int) : spec_l1Num_0.f n =
  (bif (decide (n < 10)) then (some (strOf [(IntKind.wrap .u8 (w64 (48 + n)))])) else
  ((spec_l1Num_z.f (w64 (n.tdiv 10))).bind fun y1 =>
   bif (decide ((y1.size + (strOf [(IntKind.wrap .u8 (w64 (48 + (n.tmod 10))))]).size) ≤ 9223372036854775807)) then (some (y1 ++ (strOf [(IntKind.wrap .u8 (w64 (48 + (n.tmod 10))))]))) else none)) := by kernel_rfl
noncomputable def spec_l1Num_0.S : Abs.Sum := ⟨spec_l1Num_0.P, spec_l1Num_0.R, fun _ => Fn spec_l1Num_0.E spec_l1Num_0.T spec_l1Num_0.C spec_l1Num_0.P spec_l1Num_0.R spec_l1Num_0.X⟩
theorem spec_l1Num_0.meets : Meets Tryd.prog 27 spec_l1Num_0.S := meets_tab (S := spec_l1Num_0.U) tabOk_all (AllMeets.cons spec_l1Num_z.meets AllMeets.nil) (AllStill.cons (fun _ _ _ => rfl) AllStill.nil) follows (by kernel_rfl : Tryd.prog.funcs[27]? = some Tryd.f27) (by kernel_rfl) (by kernel_rfl) (by kernel_rfl)
noncomputable def spec_l1Num_1.C : Code := Tryd.f27.body.getD .skip
def spec_l1Num_1.P : Par := (.cons (.val (.int .i64)) .nil)
noncomputable def spec_l1Num_1.U : SumTab := [(27, [], spec_l1Num_0.S)]
noncomputable def spec_l1Num_1.E : Env := mkEnv TY AR spec_l1Num_1.U
noncomputable def spec_l1Num_1.T : Tab := fun k => look k []
def spec_l1Num_1.R : List (Nat × Ty) := [(0, .str)]
def spec_l1Num_1.X : List ResultVar := [.tmp 2]
noncomputable def spec_l1Num_1.f (n : Int) : Option (ByteArray) := Fn spec_l1Num_1.E spec_l1Num_1.T spec_l1Num_1.C spec_l1Num_1.P spec_l1Num_1.R spec_l1Num_1.X n
theorem spec_l1Num_1.f_eq (n : Int) : spec_l1Num_1.f n =
  (bif (decide (n < 10)) then (some (strOf [(IntKind.wrap .u8 (w64 (48 + n)))])) else
  ((spec_l1Num_0.f (w64 (n.tdiv 10))).bind fun y1 =>
   bif (decide ((y1.size + (strOf [(IntKind.wrap .u8 (w64 (48 + (n.tmod 10))))]).size) ≤ 9223372036854775807)) then (some (y1 ++ (strOf [(IntKind.wrap .u8 (w64 (48 + (n.tmod 10))))]))) else none)) := by kernel_rfl
noncomputable def spec_l1Num_1.S : Abs.Sum := ⟨spec_l1Num_1.P, spec_l1Num_1.R, fun _ => Fn spec_l1Num_1.E spec_l1Num_1.T spec_l1Num_1.C spec_l1Num_1.P spec_l1Num_1.R spec_l1Num_1.X⟩
theorem spec_l1Num_1.meets : Meets Tryd.prog 27 spec_l1Num_1.S := meets_tab (S := spec_l1Num_1.U) tabOk_all (AllMeets.cons spec_l1Num_0.meets AllMeets.nil) (AllStill.cons (fun _ _ _ => rfl) AllStill.nil) follows (by kernel_rfl : Tryd.prog.funcs[27]? = some Tryd.f27) (by kernel_rfl) (by kernel_rfl) (by kernel_rfl)
noncomputable def spec_l1Num_2.C : Code := Tryd.f27.body.getD .skip
def spec_l1Num_2.P : Par := (.cons (.val (.int .i64)) .nil)
noncomputable def spec_l1Num_2.U : SumTab := [(27, [], spec_l1Num_1.S)]
noncomputable def spec_l1Num_2.E : Env := mkEnv TY AR spec_l1Num_2.U
noncomputable def spec_l1Num_2.T : Tab := fun k => look k []
def spec_l1Num_2.R : List (Nat × Ty) := [(0, .str)]
def spec_l1Num_2.X : List ResultVar := [.tmp 2]
noncomputable def spec_l1Num_2.f (n : Int) : Option (ByteArray) := Fn spec_l1Num_2.E spec_l1Num_2.T spec_l1Num_2.C spec_l1Num_2.P spec_l1Num_2.R spec_l1Num_2.X n
theorem spec_l1Num_2.f_eq (n : Int) : spec_l1Num_2.f n =
  (bif (decide (n < 10)) then (some (strOf [(IntKind.wrap .u8 (w64 (48 + n)))])) else
  ((spec_l1Num_1.f (w64 (n.tdiv 10))).bind fun y1 =>
   bif (decide ((y1.size + (strOf [(IntKind.wrap .u8 (w64 (48 + (n.tmod 10))))]).size) ≤ 9223372036854775807)) then (some (y1 ++ (strOf [(IntKind.wrap .u8 (w64 (48 + (n.tmod 10))))]))) else none)) := by kernel_rfl
noncomputable def spec_l1Num_2.S : Abs.Sum := ⟨spec_l1Num_2.P, spec_l1Num_2.R, fun _ => Fn spec_l1Num_2.E spec_l1Num_2.T spec_l1Num_2.C spec_l1Num_2.P spec_l1Num_2.R spec_l1Num_2.X⟩
theorem spec_l1Num_2.meets : Meets Tryd.prog 27 spec_l1Num_2.S := meets_tab (S := spec_l1Num_2.U) tabOk_all (AllMeets.cons spec_l1Num_1.meets AllMeets.nil) (AllStill.cons (fun _ _ _ => rfl) AllStill.nil) follows (by kernel_rfl : Tryd.prog.funcs[27]? = some Tryd.f27) (by kernel_rfl) (by kernel_rfl) (by kernel_rfl)
noncomputable def spec_l1Num_3.C : Code := Tryd.f27.body.getD .skip
def spec_l1Num_3.P : Par := (.cons (.val (.int .i64)) .nil)
noncomputable def spec_l1Num_3.U : SumTab := [(27, [], spec_l1Num_2.S)]
noncomputable def spec_l1Num_3.E : Env := mkEnv TY AR spec_l1Num_3.U
noncomputable def spec_l1Num_3.T : Tab := fun k => look k []
def spec_l1Num_3.R : List (Nat × Ty) := [(0, .str)]
def spec_l1Num_3.X : List ResultVar := [.tmp 2]
noncomputable def spec_l1Num_3.f (n : Int) : Option (ByteArray) := Fn spec_l1Num_3.E spec_l1Num_3.T spec_l1Num_3.C spec_l1Num_3.P spec_l1Num_3.R spec_l1Num_3.X n
theorem spec_l1Num_3.f_eq (n : Int) : spec_l1Num_3.f n =
  (bif (decide (n < 10)) then (some (strOf [(IntKind.wrap .u8 (w64 (48 + n)))])) else
  ((spec_l1Num_2.f (w64 (n.tdiv 10))).bind fun y1 =>
   bif (decide ((y1.size + (strOf [(IntKind.wrap .u8 (w64 (48 + (n.tmod 10))))]).size) ≤ 9223372036854775807)) then (some (y1 ++ (strOf [(IntKind.wrap .u8 (w64 (48 + (n.tmod 10))))]))) else none)) := by kernel_rfl
noncomputable def spec_l1Num_3.S : Abs.Sum := ⟨spec_l1Num_3.P, spec_l1Num_3.R, fun _ => Fn spec_l1Num_3.E spec_l1Num_3.T spec_l1Num_3.C spec_l1Num_3.P spec_l1Num_3.R spec_l1Num_3.X⟩
theorem spec_l1Num_3.meets : Meets Tryd.prog 27 spec_l1Num_3.S := meets_tab (S := spec_l1Num_3.U) tabOk_all (AllMeets.cons spec_l1Num_2.meets AllMeets.nil) (AllStill.cons (fun _ _ _ => rfl) AllStill.nil) follows (by kernel_rfl : Tryd.prog.funcs[27]? = some Tryd.f27) (by kernel_rfl) (by kernel_rfl) (by kernel_rfl)
noncomputable def spec_l1Num_4.C : Code := Tryd.f27.body.getD .skip
def spec_l1Num_4.P : Par := (.cons (.val (.int .i64)) .nil)
noncomputable def spec_l1Num_4.U : SumTab := [(27, [], spec_l1Num_3.S)]
noncomputable def spec_l1Num_4.E : Env := mkEnv TY AR spec_l1Num_4.U
noncomputable def spec_l1Num_4.T : Tab := fun k => look k []
def spec_l1Num_4.R : List (Nat × Ty) := [(0, .str)]
def spec_l1Num_4.X : List ResultVar := [.tmp 2]
noncomputable def spec_l1Num_4.f (n : Int) : Option (ByteArray) := Fn spec_l1Num_4.E spec_l1Num_4.T spec_l1Num_4.C spec_l1Num_4.P spec_l1Num_4.R spec_l1Num_4.X n
theorem spec_l1Num_4.f_eq (n : Int) : spec_l1Num_4.f n =
  (bif (decide (n < 10)) then (some (strOf [(IntKind.wrap .u8 (w64 (48 + n)))])) else
  ((spec_l1Num_3.f (w64 (n.tdiv 10))).bind fun y1 =>
   bif (decide ((y1.size + (strOf [(IntKind.wrap .u8 (w64 (48 + (n.tmod 10))))]).size) ≤ 9223372036854775807)) then (some (y1 ++ (strOf [(IntKind.wrap .u8 (w64 (48 + (n.tmod 10))))]))) else none)) := by kernel_rfl
noncomputable def spec_l1Num_4.S : Abs.Sum := ⟨spec_l1Num_4.P, spec_l1Num_4.R, fun _ => Fn spec_l1Num_4.E spec_l1Num_4.T spec_l1Num_4.C spec_l1Num_4.P spec_l1Num_4.R spec_l1Num_4.X⟩
theorem spec_l1Num_4.meets : Meets Tryd.prog 27 spec_l1Num_4.S := meets_tab (S := spec_l1Num_4.U) tabOk_all (AllMeets.cons spec_l1Num_3.meets AllMeets.nil) (AllStill.cons (fun _ _ _ => rfl) AllStill.nil) follows (by kernel_rfl : Tryd.prog.funcs[27]? = some Tryd.f27) (by kernel_rfl) (by kernel_rfl) (by kernel_rfl)
noncomputable def spec_l1Num_5.C : Code := Tryd.f27.body.getD .skip
def spec_l1Num_5.P : Par := (.cons (.val (.int .i64)) .nil)
noncomputable def spec_l1Num_5.U : SumTab := [(27, [], spec_l1Num_4.S)]
noncomputable def spec_l1Num_5.E : Env := mkEnv TY AR spec_l1Num_5.U
noncomputable def spec_l1Num_5.T : Tab := fun k => look k []
def spec_l1Num_5.R : List (Nat × Ty) := [(0, .str)]
def spec_l1Num_5.X : List ResultVar := [.tmp 2]
noncomputable def spec_l1Num_5.f (n : Int) : Option (ByteArray) := Fn spec_l1Num_5.E spec_l1Num_5.T spec_l1Num_5.C spec_l1Num_5.P spec_l1Num_5.R spec_l1Num_5.X n
theorem spec_l1Num_5.f_eq (n : Int) : spec_l1Num_5.f n =
  (bif (decide (n < 10)) then (some (strOf [(IntKind.wrap .u8 (w64 (48 + n)))])) else
  ((spec_l1Num_4.f (w64 (n.tdiv 10))).bind fun y1 =>
   bif (decide ((y1.size + (strOf [(IntKind.wrap .u8 (w64 (48 + (n.tmod 10))))]).size) ≤ 9223372036854775807)) then (some (y1 ++ (strOf [(IntKind.wrap .u8 (w64 (48 + (n.tmod 10))))]))) else none)) := by kernel_rfl
noncomputable def spec_l1Num_5.S : Abs.Sum := ⟨spec_l1Num_5.P, spec_l1Num_5.R, fun _ => Fn spec_l1Num_5.E spec_l1Num_5.T spec_l1Num_5.C spec_l1Num_5.P spec_l1Num_5.R spec_l1Num_5.X⟩
theorem spec_l1Num_5.meets : Meets Tryd.prog 27 spec_l1Num_5.S := meets_tab (S := spec_l1Num_5.U) tabOk_all (AllMeets.cons spec_l1Num_4.meets AllMeets.nil) (AllStill.cons (fun _ _ _ => rfl) AllStill.nil) follows (by kernel_rfl : Tryd.prog.funcs[27]? = some Tryd.f27) (by kernel_rfl) (by kernel_rfl) (by kernel_rfl)
noncomputable def spec_l1Num_6.C : Code := Tryd.f27.body.getD .skip
def spec_l1Num_6.P : Par := (.cons (.val (.int .i64)) .nil)
noncomputable def spec_l1Num_6.U : SumTab := [(27, [], spec_l1Num_5.S)]
noncomputable def spec_l1Num_6.E : Env := mkEnv TY AR spec_l1Num_6.U
noncomputable def spec_l1Num_6.T : Tab := fun k => look k []
def spec_l1Num_6.R : List (Nat × Ty) := [(0, .str)]
def spec_l1Num_6.X : List ResultVar := [.tmp 2]
noncomputable def spec_l1Num_6.f (n : Int) : Option (ByteArray) := Fn spec_l1Num_6.E spec_l1Num_6.T spec_l1Num_6.C spec_l1Num_6.P spec_l1Num_6.R spec_l1Num_6.X n
theorem spec_l1Num_6.f_eq (n : Int) : spec_l1Num_6.f n =
  (bif (decide (n < 10)) then (some (strOf [(IntKind.wrap .u8 (w64 (48 + n)))])) else
  ((spec_l1Num_5.f (w64 (n.tdiv 10))).bind fun y1 =>
   bif (decide ((y1.size + (strOf [(IntKind.wrap .u8 (w64 (48 + (n.tmod 10))))]).size) ≤ 9223372036854775807)) then (some (y1 ++ (strOf [(IntKind.wrap .u8 (w64 (48 + (n.tmod 10))))]))) else none)) := by kernel_rfl
noncomputable def spec_l1Num_6.S : Abs.Sum := ⟨spec_l1Num_6.P, spec_l1Num_6.R, fun _ => Fn spec_l1Num_6.E spec_l1Num_6.T spec_l1Num_6.C spec_l1Num_6.P spec_l1Num_6.R spec_l1Num_6.X⟩
theorem spec_l1Num_6.meets : Meets Tryd.prog 27 spec_l1Num_6.S := meets_tab (S := spec_l1Num_6.U) tabOk_all (AllMeets.cons spec_l1Num_5.meets AllMeets.nil) (AllStill.cons (fun _ _ _ => rfl) AllStill.nil) follows (by kernel_rfl : Tryd.prog.funcs[27]? = some Tryd.f27) (by kernel_rfl) (by kernel_rfl) (by kernel_rfl)
noncomputable def spec_l1Num.C : Code := Tryd.f27.body.getD .skip
def spec_l1Num.P : Par := (.cons (.val (.int .i64)) .nil)
noncomputable def spec_l1Num.U : SumTab := [(27, [], spec_l1Num_6.S)]
noncomputable def spec_l1Num.E : Env := mkEnv TY AR spec_l1Num.U
noncomputable def spec_l1Num.T : Tab := fun k => look k []
def spec_l1Num.R : List (Nat × Ty) := [(0, .str)]
def spec_l1Num.X : List ResultVar := [.tmp 2]
noncomputable def spec_l1Num.f (n : Int) : Option (ByteArray) := Fn spec_l1Num.E spec_l1Num.T spec_l1Num.C spec_l1Num.P spec_l1Num.R spec_l1Num.X n
theorem spec_l1Num.f_eq (n : Int) : spec_l1Num.f n =
  (bif (decide (n < 10)) then (some (strOf [(IntKind.wrap .u8 (w64 (48 + n)))])) else
  ((spec_l1Num_6.f (w64 (n.tdiv 10))).bind fun y1 =>
   bif (decide ((y1.size + (strOf [(IntKind.wrap .u8 (w64 (48 + (n.tmod 10))))]).size) ≤ 9223372036854775807)) then (some (y1 ++ (strOf [(IntKind.wrap .u8 (w64 (48 + (n.tmod 10))))]))) else none)) := by kernel_rfl
noncomputable def spec_l1Num.S : Abs.Sum := ⟨spec_l1Num.P, spec_l1Num.R, fun _ => Fn spec_l1Num.E spec_l1Num.T spec_l1Num.C spec_l1Num.P spec_l1Num.R spec_l1Num.X⟩
theorem spec_l1Num.meets : Meets Tryd.prog 27 spec_l1Num.S := meets_tab (S := spec_l1Num.U) tabOk_all (AllMeets.cons spec_l1Num_6.meets AllMeets.nil) (AllStill.cons (fun _ _ _ => rfl) AllStill.nil) follows (by kernel_rfl : Tryd.prog.funcs[27]? = some Tryd.f27) (by kernel_rfl) (by kernel_rfl) (by kernel_rfl)
noncomputable def spec_StatText.C : Code := Tryd.f15.body.getD .skip
def spec_StatText.P : Par := (.cons (.val (.list (.pair .str (.pair (.int .i64) (.one (.list (.pair (.int .i64) (.pair (.int .i64) (.one (.list (.pair (.int .i64) (.one .str)))))))))))) .nil)
noncomputable def spec_StatText.U : SumTab := [(18, [], spec_l15Diffs.S), (27, [], spec_l1Num.S)]
noncomputable def spec_StatText.E : Env := mkEnv TY AR spec_StatText.U
def spec_StatText.D10 : CutD := ⟨[4, 16, 17, 18], (.cons (.val .str) (.cons (.val (.list (.pair .str (.pair (.int .i64) (.one (.list (.pair (.int .i64) (.pair (.int .i64) (.one (.list (.pair (.int .i64) (.one .str)))))))))))) (.cons (.val (.int .i64)) (.cons (.val (.int .i64)) .nil))))⟩
def spec_StatText.D18 : CutD := ⟨[4, 6, 7, 8, 16, 17, 18, 23, 24, 25], (.cons (.val .str) (.cons (.box 0 (.pair .str (.pair (.int .i64) (.one (.list (.pair (.int .i64) (.pair (.int .i64) (.one (.list (.pair (.int .i64) (.one .str))))))))))) (.cons (.val (.int .i64)) (.cons (.val (.int .i64)) (.cons (.val (.list (.pair .str (.pair (.int .i64) (.one (.list (.pair (.int .i64) (.pair (.int .i64) (.one (.list (.pair (.int .i64) (.one .str)))))))))))) (.cons (.val (.int .i64)) (.cons (.val (.int .i64)) (.cons (.val (.list (.pair (.int .i64) (.pair (.int .i64) (.one (.list (.pair (.int .i64) (.one .str)))))))) (.cons (.val (.int .i64)) (.cons (.val (.int .i64)) .nil))))))))))⟩
def spec_StatText.D24 : CutD := ⟨[4, 6, 7, 8, 16, 17, 18, 23, 24, 25, 30, 31, 32], (.cons (.val .str) (.cons (.box 0 (.pair .str (.pair (.int .i64) (.one (.list (.pair (.int .i64) (.pair (.int .i64) (.one (.list (.pair (.int .i64) (.one .str))))))))))) (.cons (.val (.int .i64)) (.cons (.val (.int .i64)) (.cons (.val (.list (.pair .str (.pair (.int .i64) (.one (.list (.pair (.int .i64) (.pair (.int .i64) (.one (.list (.pair (.int .i64) (.one .str)))))))))))) (.cons (.val (.int .i64)) (.cons (.val (.int .i64)) (.cons (.val (.list (.pair (.int .i64) (.pair (.int .i64) (.one (.list (.pair (.int .i64) (.one .str)))))))) (.cons (.val (.int .i64)) (.cons (.val (.int .i64)) (.cons (.val (.list (.pair (.int .i64) (.one .str)))) (.cons (.val (.int .i64)) (.cons (.val (.int .i64)) .nil)))))))))))))⟩
noncomputable def spec_StatText.T : Tab := fun k => look k [(10, spec_StatText.D10), (18, spec_StatText.D18), (24, spec_StatText.D24)]
def spec_StatText.R : List (Nat × Ty) := [(0, .str), (0, .bool)]
def spec_StatText.X : List ResultVar := [.tmp 2, .tmp 3]
noncomputable def spec_StatText.K := fin spec_StatText.E ⟨spec_StatText.P, spec_StatText.R, fun _ _ => none⟩ spec_StatText.X spec_StatText.P.len 0
noncomputable def spec_StatText.l10 (t : ByteArray) (t16 : List (ByteArray × Int × List (Int × Int × List (Int × ByteArray)))) (t17 : Int) (t18 : Int) : Option (ByteArray × Bool) := fixP spec_StatText.E spec_StatText.T spec_StatText.C spec_StatText.K 10 spec_StatText.D10 (t, t16, t17, t18)
noncomputable def spec_StatText.l18 (t : ByteArray) (x : ByteArray × Int × List (Int × Int × List (Int × ByteArray))) (come : Int) (gone : Int) (t16 : List (ByteArray × Int × List (Int × Int × List (Int × ByteArray)))) (t17 : Int) (t18 : Int) (t23 : List (Int × Int × List (Int × ByteArray))) (t24 : Int) (t25 : Int) : Option (ByteArray × Bool) := fixP spec_StatText.E spec_StatText.T spec_StatText.C spec_StatText.K 18 spec_StatText.D18 (t, x, come, gone, t16, t17, t18, t23, t24, t25)
noncomputable def spec_StatText.l24 (t : ByteArray) (x : ByteArray × Int × List (Int × Int × List (Int × ByteArray))) (come : Int) (gone : Int) (t16 : List (ByteArray × Int × List (Int × Int × List (Int × ByteArray)))) (t17 : Int) (t18 : Int) (t23 : List (Int × Int × List (Int × ByteArray))) (t24 : Int) (t25 : Int) (t30 : List (Int × ByteArray)) (t31 : Int) (t32 : Int) : Option (ByteArray × Bool) := fixP spec_StatText.E spec_StatText.T spec_StatText.C spec_StatText.K 24 spec_StatText.D24 (t, x, come, gone, t16, t17, t18, t23, t24, t25, t30, t31, t32)
noncomputable def spec_StatText.f (d : List (ByteArray × Int × List (Int × Int × List (Int × ByteArray)))) : Option (ByteArray × Bool) := Fn spec_StatText.E spec_StatText.T spec_StatText.C spec_StatText.P spec_StatText.R spec_StatText.X d
theorem spec_StatText.l10_eq (t : ByteArray) (t16 : List (ByteArray × Int × List (Int × Int × List (Int × ByteArray)))) (t17 : Int) (t18 : Int) : spec_StatText.l10 t t16 t17 t18 =
  (bif (decide (t18 < t17)) then (bif ((decide (0 ≤ t18)) && (decide (t18 < (t16.length : Int)))) then (spec_StatText.l18 t (t16.getD (t18).toNat (em, 0, ([] : List (Int × Int × List (Int × ByteArray))))) 0 0 t16 t17 t18 (t16.getD (t18).toNat (em, 0, ([] : List (Int × Int × List (Int × ByteArray))))).2.2 ((t16.getD (t18).toNat (em, 0, ([] : List (Int × Int × List (Int × ByteArray))))).2.2.length : Int) 0) else none) else (some (t, true))) :=
  (fixP_eq spec_StatText.E spec_StatText.T spec_StatText.C spec_StatText.K 10 spec_StatText.D10 (t, t16, t17, t18)).trans (by kernel_rfl)
theorem spec_StatText.l18_eq (t : ByteArray) (x : ByteArray × Int × List (Int × Int × List (Int × ByteArray))) (come : Int) (gone : Int) (t16 : List (ByteArray × Int × List (Int × Int × List (Int × ByteArray)))) (t17 : Int) (t18 : Int) (t23 : List (Int × Int × List (Int × ByteArray))) (t24 : Int) (t25 : Int) : spec_StatText.l18 t x come gone t16 t17 t18 t23 t24 t25 =
  (bif (decide (t25 < t24)) then (bif ((decide (0 ≤ t25)) && (decide (t25 < (t23.length : Int)))) then (spec_StatText.l24 t x come gone t16 t17 t18 t23 t24 t25 (t23.getD (t25).toNat (0, 0, ([] : List (Int × ByteArray)))).2.2 ((t23.getD (t25).toNat (0, 0, ([] : List (Int × ByteArray)))).2.2.length : Int) 0) else none) else
  (bif (decide ((x.1.size + (⟨#[32, 43]⟩ : ByteArray).size) ≤ 9223372036854775807)) then ((spec_l1Num.f come).bind fun y1 =>
    bif (decide (((x.1 ++ (⟨#[32, 43]⟩ : ByteArray)).size + y1.size) ≤ 9223372036854775807)) then (bif (decide ((((x.1 ++ (⟨#[32, 43]⟩ : ByteArray)) ++ y1).size + (⟨#[32, 45]⟩ : ByteArray).size) ≤ 9223372036854775807)) then ((spec_l1Num.f gone).bind fun y2 =>
      bif (decide (((((x.1 ++ (⟨#[32, 43]⟩ : ByteArray)) ++ y1) ++ (⟨#[32, 45]⟩ : ByteArray)).size + y2.size) ≤ 9223372036854775807)) then (bif (decide ((((((x.1 ++ (⟨#[32, 43]⟩ : ByteArray)) ++ y1) ++ (⟨#[32, 45]⟩ : ByteArray)) ++ y2).size + (⟨#[10]⟩ : ByteArray).size) ≤ 9223372036854775807)) then (bif (decide ((t.size + (((((x.1 ++ (⟨#[32, 43]⟩ : ByteArray)) ++ y1) ++ (⟨#[32, 45]⟩ : ByteArray)) ++ y2) ++ (⟨#[10]⟩ : ByteArray)).size) ≤ 9223372036854775807)) then (spec_StatText.l10 (t ++ (((((x.1 ++ (⟨#[32, 43]⟩ : ByteArray)) ++ y1) ++ (⟨#[32, 45]⟩ : ByteArray)) ++ y2) ++ (⟨#[10]⟩ : ByteArray))) t16 t17 (w64 (t18 + 1))) else none) else none) else none) else none) else none) else none)) :=
  (fixP_eq spec_StatText.E spec_StatText.T spec_StatText.C spec_StatText.K 18 spec_StatText.D18 (t, x, come, gone, t16, t17, t18, t23, t24, t25)).trans (by kernel_rfl)
theorem spec_StatText.l24_eq (t : ByteArray) (x : ByteArray × Int × List (Int × Int × List (Int × ByteArray))) (come : Int) (gone : Int) (t16 : List (ByteArray × Int × List (Int × Int × List (Int × ByteArray)))) (t17 : Int) (t18 : Int) (t23 : List (Int × Int × List (Int × ByteArray))) (t24 : Int) (t25 : Int) (t30 : List (Int × ByteArray)) (t31 : Int) (t32 : Int) : spec_StatText.l24 t x come gone t16 t17 t18 t23 t24 t25 t30 t31 t32 =
  (bif (decide (t32 < t31)) then (bif ((decide (0 ≤ t32)) && (decide (t32 < (t30.length : Int)))) then (bif (decide ((t30.getD (t32).toNat (0, em)).1 = 3)) then (spec_StatText.l24 t x (w64 (come + 1)) gone t16 t17 t18 t23 t24 t25 t30 t31 (w64 (t32 + 1))) else
    (bif (decide ((t30.getD (t32).toNat (0, em)).1 = 2)) then (spec_StatText.l24 t x come (w64 (gone + 1)) t16 t17 t18 t23 t24 t25 t30 t31 (w64 (t32 + 1))) else
     (spec_StatText.l24 t x come gone t16 t17 t18 t23 t24 t25 t30 t31 (w64 (t32 + 1))))) else none) else
  (spec_StatText.l18 t x come gone t16 t17 t18 t23 t24 (w64 (t25 + 1)))) :=
  (fixP_eq spec_StatText.E spec_StatText.T spec_StatText.C spec_StatText.K 24 spec_StatText.D24 (t, x, come, gone, t16, t17, t18, t23, t24, t25, t30, t31, t32)).trans (by kernel_rfl)
theorem spec_StatText.f_eq (d : List (ByteArray × Int × List (Int × Int × List (Int × ByteArray)))) : spec_StatText.f d =
  ((spec_l15Diffs.f d).bind fun y1 =>
  bif (!y1) then (some (em, false)) else
  (spec_StatText.l10 em d (d.length : Int) 0)) := by kernel_rfl
noncomputable def spec_StatText.S : Abs.Sum := ⟨spec_StatText.P, spec_StatText.R, fun _ => Fn spec_StatText.E spec_StatText.T spec_StatText.C spec_StatText.P spec_StatText.R spec_StatText.X⟩
theorem spec_StatText.meets : Meets Tryd.prog 15 spec_StatText.S := meets_tab (S := spec_StatText.U) tabOk_all (AllMeets.cons spec_l15Diffs.meets (AllMeets.cons spec_l1Num.meets AllMeets.nil)) (AllStill.cons (fun _ _ _ => rfl) (AllStill.cons (fun _ _ _ => rfl) AllStill.nil)) follows (by kernel_rfl : Tryd.prog.funcs[15]? = some Tryd.f15) (by kernel_rfl) (by kernel_rfl) (by kernel_rfl)
noncomputable def impl_StatText.C : Code := Tryd.f16.body.getD .skip
def impl_StatText.P : Par := (.cons (.val (.list (.pair .str (.pair (.int .i64) (.one (.list (.pair (.int .i64) (.pair (.int .i64) (.one (.list (.pair (.int .i64) (.one .str)))))))))))) .nil)
noncomputable def impl_StatText.U : SumTab := [(20, [], impl_goodDiffs.S), (28, [], strconv_Itoa.S)]
noncomputable def impl_StatText.E : Env := mkEnv TY AR impl_StatText.U
def impl_StatText.D10 : CutD := ⟨[4, 15, 16, 17], (.cons (.val .str) (.cons (.val (.list (.pair .str (.pair (.int .i64) (.one (.list (.pair (.int .i64) (.pair (.int .i64) (.one (.list (.pair (.int .i64) (.one .str)))))))))))) (.cons (.val (.int .i64)) (.cons (.val (.int .i64)) .nil))))⟩
def impl_StatText.D18 : CutD := ⟨[4, 6, 7, 15, 16, 17, 23, 24, 25], (.cons (.val .str) (.cons (.box 0 (.pair .str (.pair (.int .i64) (.one (.list (.pair (.int .i64) (.pair (.int .i64) (.one (.list (.pair (.int .i64) (.one .str))))))))))) (.cons (.box 9 (.pair (.int .i64) (.pair (.int .i64) (.pair (.int .i64) (.one (.int .i64)))))) (.cons (.val (.list (.pair .str (.pair (.int .i64) (.one (.list (.pair (.int .i64) (.pair (.int .i64) (.one (.list (.pair (.int .i64) (.one .str)))))))))))) (.cons (.val (.int .i64)) (.cons (.val (.int .i64)) (.cons (.val (.list (.pair (.int .i64) (.pair (.int .i64) (.one (.list (.pair (.int .i64) (.one .str)))))))) (.cons (.val (.int .i64)) (.cons (.val (.int .i64)) .nil)))))))))⟩
def impl_StatText.D24 : CutD := ⟨[4, 6, 7, 15, 16, 17, 23, 24, 25, 30, 31, 32], (.cons (.val .str) (.cons (.box 0 (.pair .str (.pair (.int .i64) (.one (.list (.pair (.int .i64) (.pair (.int .i64) (.one (.list (.pair (.int .i64) (.one .str))))))))))) (.cons (.box 9 (.pair (.int .i64) (.pair (.int .i64) (.pair (.int .i64) (.one (.int .i64)))))) (.cons (.val (.list (.pair .str (.pair (.int .i64) (.one (.list (.pair (.int .i64) (.pair (.int .i64) (.one (.list (.pair (.int .i64) (.one .str)))))))))))) (.cons (.val (.int .i64)) (.cons (.val (.int .i64)) (.cons (.val (.list (.pair (.int .i64) (.pair (.int .i64) (.one (.list (.pair (.int .i64) (.one .str)))))))) (.cons (.val (.int .i64)) (.cons (.val (.int .i64)) (.cons (.val (.list (.pair (.int .i64) (.one .str)))) (.cons (.val (.int .i64)) (.cons (.val (.int .i64)) .nil))))))))))))⟩
noncomputable def impl_StatText.T : Tab := fun k => look k [(10, impl_StatText.D10), (18, impl_StatText.D18), (24, impl_StatText.D24)]
def impl_StatText.R : List (Nat × Ty) := [(0, .str), (0, .bool)]
def impl_StatText.X : List ResultVar := [.tmp 2, .tmp 3]
noncomputable def impl_StatText.K := fin impl_StatText.E ⟨impl_StatText.P, impl_StatText.R, fun _ _ => none⟩ impl_StatText.X impl_StatText.P.len 0
noncomputable def impl_StatText.l10 (out : ByteArray) (t15 : List (ByteArray × Int × List (Int × Int × List (Int × ByteArray)))) (t16 : Int) (t17 : Int) : Option (ByteArray × Bool) := fixP impl_StatText.E impl_StatText.T impl_StatText.C impl_StatText.K 10 impl_StatText.D10 (out, t15, t16, t17)
noncomputable def impl_StatText.l18 (out : ByteArray) (x : ByteArray × Int × List (Int × Int × List (Int × ByteArray))) (many : Int × Int × Int × Int) (t15 : List (ByteArray × Int × List (Int × Int × List (Int × ByteArray)))) (t16 : Int) (t17 : Int) (t23 : List (Int × Int × List (Int × ByteArray))) (t24 : Int) (t25 : Int) : Option (ByteArray × Bool) := fixP impl_StatText.E impl_StatText.T impl_StatText.C impl_StatText.K 18 impl_StatText.D18 (out, x, many, t15, t16, t17, t23, t24, t25)
noncomputable def impl_StatText.l24 (out : ByteArray) (x : ByteArray × Int × List (Int × Int × List (Int × ByteArray))) (many : Int × Int × Int × Int) (t15 : List (ByteArray × Int × List (Int × Int × List (Int × ByteArray)))) (t16 : Int) (t17 : Int) (t23 : List (Int × Int × List (Int × ByteArray))) (t24 : Int) (t25 : Int) (t30 : List (Int × ByteArray)) (t31 : Int) (t32 : Int) : Option (ByteArray × Bool) := fixP impl_StatText.E impl_StatText.T impl_StatText.C impl_StatText.K 24 impl_StatText.D24 (out, x, many, t15, t16, t17, t23, t24, t25, t30, t31, t32)
noncomputable def impl_StatText.f (d : List (ByteArray × Int × List (Int × Int × List (Int × ByteArray)))) : Option (ByteArray × Bool) := Fn impl_StatText.E impl_StatText.T impl_StatText.C impl_StatText.P impl_StatText.R impl_StatText.X d
theorem impl_StatText.l10_eq (out : ByteArray) (t15 : List (ByteArray × Int × List (Int × Int × List (Int × ByteArray)))) (t16 : Int) (t17 : Int) : impl_StatText.l10 out t15 t16 t17 =
  (bif (decide (t17 < t16)) then (bif ((decide (0 ≤ t17)) && (decide (t17 < (t15.length : Int)))) then (impl_StatText.l18 out (t15.getD (t17).toNat (em, 0, ([] : List (Int × Int × List (Int × ByteArray))))) (0, 0, 0, 0) t15 t16 t17 (t15.getD (t17).toNat (em, 0, ([] : List (Int × Int × List (Int × ByteArray))))).2.2 ((t15.getD (t17).toNat (em, 0, ([] : List (Int × Int × List (Int × ByteArray))))).2.2.length : Int) 0) else none) else (some (out, true))) :=
  (fixP_eq impl_StatText.E impl_StatText.T impl_StatText.C impl_StatText.K 10 impl_StatText.D10 (out, t15, t16, t17)).trans (by kernel_rfl)
theorem impl_StatText.l18_eq (out : ByteArray) (x : ByteArray × Int × List (Int × Int × List (Int × ByteArray))) (many : Int × Int × Int × Int) (t15 : List (ByteArray × Int × List (Int × Int × List (Int × ByteArray)))) (t16 : Int) (t17 : Int) (t23 : List (Int × Int × List (Int × ByteArray))) (t24 : Int) (t25 : Int) : impl_StatText.l18 out x many t15 t16 t17 t23 t24 t25 =
  (bif (decide (t25 < t24)) then (bif ((decide (0 ≤ t25)) && (decide (t25 < (t23.length : Int)))) then (impl_StatText.l24 out x many t15 t16 t17 t23 t24 t25 (t23.getD (t25).toNat (0, 0, ([] : List (Int × ByteArray)))).2.2 ((t23.getD (t25).toNat (0, 0, ([] : List (Int × ByteArray)))).2.2.length : Int) 0) else none) else
  (bif (decide ((x.1.size + (⟨#[32, 43]⟩ : ByteArray).size) ≤ 9223372036854775807)) then ((strconv_Itoa.f many.2.2.2).bind fun y1 =>
    bif (decide (((x.1 ++ (⟨#[32, 43]⟩ : ByteArray)).size + y1.size) ≤ 9223372036854775807)) then (bif (decide ((((x.1 ++ (⟨#[32, 43]⟩ : ByteArray)) ++ y1).size + (⟨#[32, 45]⟩ : ByteArray).size) ≤ 9223372036854775807)) then ((strconv_Itoa.f many.2.2.1).bind fun y2 =>
      bif (decide (((((x.1 ++ (⟨#[32, 43]⟩ : ByteArray)) ++ y1) ++ (⟨#[32, 45]⟩ : ByteArray)).size + y2.size) ≤ 9223372036854775807)) then (bif (decide ((((((x.1 ++ (⟨#[32, 43]⟩ : ByteArray)) ++ y1) ++ (⟨#[32, 45]⟩ : ByteArray)) ++ y2).size + (⟨#[10]⟩ : ByteArray).size) ≤ 9223372036854775807)) then (bif (decide ((out.size + (((((x.1 ++ (⟨#[32, 43]⟩ : ByteArray)) ++ y1) ++ (⟨#[32, 45]⟩ : ByteArray)) ++ y2) ++ (⟨#[10]⟩ : ByteArray)).size) ≤ 9223372036854775807)) then (impl_StatText.l10 (out ++ (((((x.1 ++ (⟨#[32, 43]⟩ : ByteArray)) ++ y1) ++ (⟨#[32, 45]⟩ : ByteArray)) ++ y2) ++ (⟨#[10]⟩ : ByteArray))) t15 t16 (w64 (t17 + 1))) else none) else none) else none) else none) else none) else none)) :=
  (fixP_eq impl_StatText.E impl_StatText.T impl_StatText.C impl_StatText.K 18 impl_StatText.D18 (out, x, many, t15, t16, t17, t23, t24, t25)).trans (by kernel_rfl)
theorem impl_StatText.l24_eq (out : ByteArray) (x : ByteArray × Int × List (Int × Int × List (Int × ByteArray))) (many : Int × Int × Int × Int) (t15 : List (ByteArray × Int × List (Int × Int × List (Int × ByteArray)))) (t16 : Int) (t17 : Int) (t23 : List (Int × Int × List (Int × ByteArray))) (t24 : Int) (t25 : Int) (t30 : List (Int × ByteArray)) (t31 : Int) (t32 : Int) : impl_StatText.l24 out x many t15 t16 t17 t23 t24 t25 t30 t31 t32 =
  (bif (decide (t32 < t31)) then (bif ((decide (0 ≤ t32)) && (decide (t32 < (t30.length : Int)))) then (bif (decide ((t30.getD (t32).toNat (0, em)).1 = 0)) then (bif (decide ((t30.getD (t32).toNat (0, em)).1 = 0)) then (impl_StatText.l24 out x ((w64 (many.1 + 1)), many.2.1, many.2.2.1, many.2.2.2) t15 t16 t17 t23 t24 t25 t30 t31 (w64 (t32 + 1))) else
     (bif (decide ((t30.getD (t32).toNat (0, em)).1 = 1)) then (impl_StatText.l24 out x (many.1, (w64 (many.1 + 1)), many.2.2.1, many.2.2.2) t15 t16 t17 t23 t24 t25 t30 t31 (w64 (t32 + 1))) else
      (bif (decide ((t30.getD (t32).toNat (0, em)).1 = 2)) then (impl_StatText.l24 out x (many.1, many.2.1, (w64 (many.1 + 1)), many.2.2.2) t15 t16 t17 t23 t24 t25 t30 t31 (w64 (t32 + 1))) else
       (bif (decide ((t30.getD (t32).toNat (0, em)).1 = 3)) then (impl_StatText.l24 out x (many.1, many.2.1, many.2.2.1, (w64 (many.1 + 1))) t15 t16 t17 t23 t24 t25 t30 t31 (w64 (t32 + 1))) else none)))) else
    (bif (decide ((t30.getD (t32).toNat (0, em)).1 = 1)) then (bif (decide ((t30.getD (t32).toNat (0, em)).1 = 0)) then (impl_StatText.l24 out x ((w64 (many.2.1 + 1)), many.2.1, many.2.2.1, many.2.2.2) t15 t16 t17 t23 t24 t25 t30 t31 (w64 (t32 + 1))) else
      (bif (decide ((t30.getD (t32).toNat (0, em)).1 = 1)) then (impl_StatText.l24 out x (many.1, (w64 (many.2.1 + 1)), many.2.2.1, many.2.2.2) t15 t16 t17 t23 t24 t25 t30 t31 (w64 (t32 + 1))) else
       (bif (decide ((t30.getD (t32).toNat (0, em)).1 = 2)) then (impl_StatText.l24 out x (many.1, many.2.1, (w64 (many.2.1 + 1)), many.2.2.2) t15 t16 t17 t23 t24 t25 t30 t31 (w64 (t32 + 1))) else
        (bif (decide ((t30.getD (t32).toNat (0, em)).1 = 3)) then (impl_StatText.l24 out x (many.1, many.2.1, many.2.2.1, (w64 (many.2.1 + 1))) t15 t16 t17 t23 t24 t25 t30 t31 (w64 (t32 + 1))) else none)))) else
     (bif (decide ((t30.getD (t32).toNat (0, em)).1 = 2)) then (bif (decide ((t30.getD (t32).toNat (0, em)).1 = 0)) then (impl_StatText.l24 out x ((w64 (many.2.2.1 + 1)), many.2.1, many.2.2.1, many.2.2.2) t15 t16 t17 t23 t24 t25 t30 t31 (w64 (t32 + 1))) else
       (bif (decide ((t30.getD (t32).toNat (0, em)).1 = 1)) then (impl_StatText.l24 out x (many.1, (w64 (many.2.2.1 + 1)), many.2.2.1, many.2.2.2) t15 t16 t17 t23 t24 t25 t30 t31 (w64 (t32 + 1))) else
        (bif (decide ((t30.getD (t32).toNat (0, em)).1 = 2)) then (impl_StatText.l24 out x (many.1, many.2.1, (w64 (many.2.2.1 + 1)), many.2.2.2) t15 t16 t17 t23 t24 t25 t30 t31 (w64 (t32 + 1))) else
         (bif (decide ((t30.getD (t32).toNat (0, em)).1 = 3)) then (impl_StatText.l24 out x (many.1, many.2.1, many.2.2.1, (w64 (many.2.2.1 + 1))) t15 t16 t17 t23 t24 t25 t30 t31 (w64 (t32 + 1))) else none)))) else
      (bif (decide ((t30.getD (t32).toNat (0, em)).1 = 3)) then (bif (decide ((t30.getD (t32).toNat (0, em)).1 = 0)) then (impl_StatText.l24 out x ((w64 (many.2.2.2 + 1)), many.2.1, many.2.2.1, many.2.2.2) t15 t16 t17 t23 t24 t25 t30 t31 (w64 (t32 + 1))) else
        (bif (decide ((t30.getD (t32).toNat (0, em)).1 = 1)) then (impl_StatText.l24 out x (many.1, (w64 (many.2.2.2 + 1)), many.2.2.1, many.2.2.2) t15 t16 t17 t23 t24 t25 t30 t31 (w64 (t32 + 1))) else
         (bif (decide ((t30.getD (t32).toNat (0, em)).1 = 2)) then (impl_StatText.l24 out x (many.1, many.2.1, (w64 (many.2.2.2 + 1)), many.2.2.2) t15 t16 t17 t23 t24 t25 t30 t31 (w64 (t32 + 1))) else
          (bif (decide ((t30.getD (t32).toNat (0, em)).1 = 3)) then (impl_StatText.l24 out x (many.1, many.2.1, many.2.2.1, (w64 (many.2.2.2 + 1))) t15 t16 t17 t23 t24 t25 t30 t31 (w64 (t32 + 1))) else none)))) else none)))) else none) else
  (impl_StatText.l18 out x many t15 t16 t17 t23 t24 (w64 (t25 + 1)))) :=
  (fixP_eq impl_StatText.E impl_StatText.T impl_StatText.C impl_StatText.K 24 impl_StatText.D24 (out, x, many, t15, t16, t17, t23, t24, t25, t30, t31, t32)).trans (by kernel_rfl)
theorem impl_StatText.f_eq (d : List (ByteArray × Int × List (Int × Int × List (Int × ByteArray)))) : impl_StatText.f d =
  ((impl_goodDiffs.f d).bind fun y1 =>
  bif (!y1) then (some (em, false)) else
  (impl_StatText.l10 em d (d.length : Int) 0)) := by kernel_rfl
noncomputable def impl_StatText.S : Abs.Sum := ⟨impl_StatText.P, impl_StatText.R, fun _ => Fn impl_StatText.E impl_StatText.T impl_StatText.C impl_StatText.P impl_StatText.R impl_StatText.X⟩
theorem impl_StatText.meets : Meets Tryd.prog 16 impl_StatText.S := meets_tab (S := impl_StatText.U) tabOk_all (AllMeets.cons impl_goodDiffs.meets (AllMeets.cons strconv_Itoa.meets AllMeets.nil)) (AllStill.cons (fun _ _ _ => rfl) (AllStill.cons (fun _ _ _ => rfl) AllStill.nil)) follows (by kernel_rfl : Tryd.prog.funcs[16]? = some Tryd.f16) (by kernel_rfl) (by kernel_rfl) (by kernel_rfl)
noncomputable def laws_FnExactStatText.C : Code := Tryd.f5.body.getD .skip
def laws_FnExactStatText.P : Par := (.cons (.val (.list (.pair .str (.pair (.int .i64) (.one (.list (.pair (.int .i64) (.pair (.int .i64) (.one (.list (.pair (.int .i64) (.one .str)))))))))))) .nil)
noncomputable def laws_FnExactStatText.U : SumTab := [(6, [], laws_szFileDiffS.S), (8, [], laws_toFileDiffS.S), (15, [], spec_StatText.S), (16, [], impl_StatText.S), (10, [], laws_eqFileDiffS.S)]
noncomputable def laws_FnExactStatText.E : Env := mkEnv TY AR laws_FnExactStatText.U
def laws_FnExactStatText.D21 : CutD := ⟨[0, 6], (.cons (.val (.list (.pair .str (.pair (.int .i64) (.one (.list (.pair (.int .i64) (.pair (.int .i64) (.one (.list (.pair (.int .i64) (.one .str)))))))))))) (.cons (.own 8 (.pair .str (.pair (.int .i64) (.one (.list (.pair (.int .i64) (.pair (.int .i64) (.one (.list (.pair (.int .i64) (.one .str))))))))))) .nil))⟩
noncomputable def laws_FnExactStatText.T : Tab := fun k => look k [(21, laws_FnExactStatText.D21)]
def laws_FnExactStatText.R : List (Nat × Ty) := [(0, .bool)]
def laws_FnExactStatText.X : List ResultVar := [.tmp 2]
noncomputable def laws_FnExactStatText.K := fin laws_FnExactStatText.E ⟨laws_FnExactStatText.P, laws_FnExactStatText.R, fun _ _ => none⟩ laws_FnExactStatText.X laws_FnExactStatText.P.len 0
noncomputable def laws_FnExactStatText.l21 (aD : List (ByteArray × Int × List (Int × Int × List (Int × ByteArray)))) (x0 : List (ByteArray × Int × List (Int × Int × List (Int × ByteArray)))) : Option (Bool) := fixP laws_FnExactStatText.E laws_FnExactStatText.T laws_FnExactStatText.C laws_FnExactStatText.K 21 laws_FnExactStatText.D21 (aD, x0)
noncomputable def laws_FnExactStatText.f (aD : List (ByteArray × Int × List (Int × Int × List (Int × ByteArray)))) : Option (Bool) := Fn laws_FnExactStatText.E laws_FnExactStatText.T laws_FnExactStatText.C laws_FnExactStatText.P laws_FnExactStatText.R laws_FnExactStatText.X aD
theorem laws_FnExactStatText.l21_eq (aD : List (ByteArray × Int × List (Int × Int × List (Int × ByteArray)))) (x0 : List (ByteArray × Int × List (Int × Int × List (Int × ByteArray)))) : laws_FnExactStatText.l21 aD x0 =
  ((laws_toFileDiffS.f aD).bind fun y1 =>
  (laws_eqFileDiffS.f x0 y1).bind fun y2 =>
  bif (!y2) then (some false) else (some true)) :=
  (fixP_eq laws_FnExactStatText.E laws_FnExactStatText.T laws_FnExactStatText.C laws_FnExactStatText.K 21 laws_FnExactStatText.D21 (aD, x0)).trans (by kernel_rfl)
theorem laws_FnExactStatText.f_eq (aD : List (ByteArray × Int × List (Int × Int × List (Int × ByteArray)))) : laws_FnExactStatText.f aD =
  ((laws_szFileDiffS.f aD 1048576).bind fun y1 =>
  bif (decide (y1 < 0)) then (some true) else
  ((laws_toFileDiffS.f aD).bind fun y2 =>
   (spec_StatText.f y2).bind fun y3 =>
   (laws_toFileDiffS.f aD).bind fun y4 =>
   (impl_StatText.f y4).bind fun y5 =>
   bif (!(y5.1.toList == y3.1.toList)) then (some false) else
   (bif (!(y5.2 == y3.2)) then (some false) else
    (laws_FnExactStatText.l21 aD y4)))) := by kernel_rfl
noncomputable def laws_FnExactStatText.S : Abs.Sum := ⟨laws_FnExactStatText.P, laws_FnExactStatText.R, fun _ => Fn laws_FnExactStatText.E laws_FnExactStatText.T laws_FnExactStatText.C laws_FnExactStatText.P laws_FnExactStatText.R laws_FnExactStatText.X⟩
theorem laws_FnExactStatText.meets : Meets Tryd.prog 5 laws_FnExactStatText.S := meets_tab (S := laws_FnExactStatText.U) tabOk_all (AllMeets.cons laws_szFileDiffS.meets (AllMeets.cons laws_toFileDiffS.meets (AllMeets.cons spec_StatText.meets (AllMeets.cons impl_StatText.meets (AllMeets.cons laws_eqFileDiffS.meets AllMeets.nil))))) (AllStill.cons (fun _ _ _ => rfl) (AllStill.cons (fun _ _ _ => rfl) (AllStill.cons (fun _ _ _ => rfl) (AllStill.cons (fun _ _ _ => rfl) (AllStill.cons (fun _ _ _ => rfl) AllStill.nil))))) follows (by kernel_rfl : Tryd.prog.funcs[5]? = some Tryd.f5) (by kernel_rfl) (by kernel_rfl) (by kernel_rfl)
end Go.Abs.G
