import Derived.Test.YtpnhpbeoibaaeaaGB
set_option linter.unusedVariables false
set_option linter.unusedSimpArgs false
set_option linter.unusedSectionVars false
namespace Go.Abs.G
open Go Go.Abs Go.Proofs
noncomputable def laws_szStringS.C : Code := Try.f5.body.getD .skip
def laws_szStringS.P : Par := (.cons (.val (.list .str)) (.cons (.val (.int .i64)) .nil))
noncomputable def laws_szStringS.U : SumTab := []
noncomputable def laws_szStringS.E : Env := mkEnv TY AR laws_szStringS.U
def laws_szStringS.D10 : CutD := ⟨[0, 1, 5], (.cons (.val (.list .str)) (.cons (.val (.int .i64)) (.cons (.val (.int .i64)) .nil)))⟩
noncomputable def laws_szStringS.T : Tab := fun k => look k [(10, laws_szStringS.D10)]
def laws_szStringS.R : List (Nat × Ty) := [(0, .int .i64)]
def laws_szStringS.X : List ResultVar := [.tmp 4]
noncomputable def laws_szStringS.K := fin laws_szStringS.E ⟨laws_szStringS.P, laws_szStringS.R, fun _ _ => none⟩ laws_szStringS.X laws_szStringS.P.len 0
noncomputable def laws_szStringS.l10 (a : List ByteArray) (left : Int) (i : Int) : Option (Int) := fixP laws_szStringS.E laws_szStringS.T laws_szStringS.C laws_szStringS.K 10 laws_szStringS.D10 (a, left, i)
noncomputable def laws_szStringS.f (a : List ByteArray) (left : Int) : Option (Int) := Fn laws_szStringS.E laws_szStringS.T laws_szStringS.C laws_szStringS.P laws_szStringS.R laws_szStringS.X (a, left)
theorem laws_szStringS.l10_eq (a : List ByteArray) (left : Int) (i : Int) : laws_szStringS.l10 a left i =
  (bif (decide (i < (a.length : Int))) then (bif ((decide (0 ≤ i)) && (decide (i < (a.length : Int)))) then (bif (decide ((w64 (left - ((a.getD (i).toNat em).size : Int))) < 0)) then (some (-1)) else
    (laws_szStringS.l10 a (w64 (left - ((a.getD (i).toNat em).size : Int))) (w64 (i + 1)))) else none) else (some left)) :=
  (fixP_eq laws_szStringS.E laws_szStringS.T laws_szStringS.C laws_szStringS.K 10 laws_szStringS.D10 (a, left, i)).trans (by kernel_rfl)
theorem laws_szStringS.f_eq (a : List ByteArray) (left : Int) : laws_szStringS.f a left =
  (bif (decide ((w64 (left - (a.length : Int))) < 0)) then (some (-1)) else
  (laws_szStringS.l10 a (w64 (left - (a.length : Int))) 0)) := by kernel_rfl
noncomputable def laws_szStringS.S : Abs.Sum := ⟨laws_szStringS.P, laws_szStringS.R, fun _ => Fn laws_szStringS.E laws_szStringS.T laws_szStringS.C laws_szStringS.P laws_szStringS.R laws_szStringS.X⟩
theorem laws_szStringS.meets : Meets Try.prog 5 laws_szStringS.S := meets_tab (S := laws_szStringS.U) tabOk_all AllMeets.nil AllStill.nil follows (by kernel_rfl : Try.prog.funcs[5]? = some Try.f5) (by kernel_rfl) (by kernel_rfl) (by kernel_rfl)
noncomputable def laws_szRow.C : Code := Try.f84.body.getD .skip
def laws_szRow.P : Par := (.cons (.val (.pair (.int .i64) (.one .str))) (.cons (.val (.int .i64)) .nil))
noncomputable def laws_szRow.U : SumTab := []
noncomputable def laws_szRow.E : Env := mkEnv TY AR laws_szRow.U
noncomputable def laws_szRow.T : Tab := fun k => look k []
def laws_szRow.R : List (Nat × Ty) := [(0, .int .i64)]
def laws_szRow.X : List ResultVar := [.tmp 4]
noncomputable def laws_szRow.f (a : Int × ByteArray) (left : Int) : Option (Int) := Fn laws_szRow.E laws_szRow.T laws_szRow.C laws_szRow.P laws_szRow.R laws_szRow.X (a, left)
theorem laws_szRow.f_eq (a : Int × ByteArray) (left : Int) : laws_szRow.f a left =
  (bif (decide ((w64 (left - (a.2.size : Int))) < 0)) then (some (-1)) else (some (w64 (left - (a.2.size : Int))))) := by kernel_rfl
noncomputable def laws_szRow.S : Abs.Sum := ⟨laws_szRow.P, laws_szRow.R, fun _ => Fn laws_szRow.E laws_szRow.T laws_szRow.C laws_szRow.P laws_szRow.R laws_szRow.X⟩
theorem laws_szRow.meets : Meets Try.prog 84 laws_szRow.S := meets_tab (S := laws_szRow.U) tabOk_all AllMeets.nil AllStill.nil follows (by kernel_rfl : Try.prog.funcs[84]? = some Try.f84) (by kernel_rfl) (by kernel_rfl) (by kernel_rfl)
noncomputable def laws_szRowS.C : Code := Try.f59.body.getD .skip
def laws_szRowS.P : Par := (.cons (.val (.list (.pair (.int .i64) (.one .str)))) (.cons (.val (.int .i64)) .nil))
noncomputable def laws_szRowS.U : SumTab := [(84, [], laws_szRow.S)]
noncomputable def laws_szRowS.E : Env := mkEnv TY AR laws_szRowS.U
def laws_szRowS.D10 : CutD := ⟨[0, 1, 5], (.cons (.val (.list (.pair (.int .i64) (.one .str)))) (.cons (.val (.int .i64)) (.cons (.val (.int .i64)) .nil)))⟩
noncomputable def laws_szRowS.T : Tab := fun k => look k [(10, laws_szRowS.D10)]
def laws_szRowS.R : List (Nat × Ty) := [(0, .int .i64)]
def laws_szRowS.X : List ResultVar := [.tmp 4]
noncomputable def laws_szRowS.K := fin laws_szRowS.E ⟨laws_szRowS.P, laws_szRowS.R, fun _ _ => none⟩ laws_szRowS.X laws_szRowS.P.len 0
noncomputable def laws_szRowS.l10 (a : List (Int × ByteArray)) (left : Int) (i : Int) : Option (Int) := fixP laws_szRowS.E laws_szRowS.T laws_szRowS.C laws_szRowS.K 10 laws_szRowS.D10 (a, left, i)
noncomputable def laws_szRowS.f (a : List (Int × ByteArray)) (left : Int) : Option (Int) := Fn laws_szRowS.E laws_szRowS.T laws_szRowS.C laws_szRowS.P laws_szRowS.R laws_szRowS.X (a, left)
theorem laws_szRowS.l10_eq (a : List (Int × ByteArray)) (left : Int) (i : Int) : laws_szRowS.l10 a left i =
  (bif (decide (i < (a.length : Int))) then (bif ((decide (0 ≤ i)) && (decide (i < (a.length : Int)))) then ((laws_szRow.f (a.getD (i).toNat (0, em)) left).bind fun y1 =>
    bif (decide (y1 < 0)) then (some (-1)) else
    (laws_szRowS.l10 a y1 (w64 (i + 1)))) else none) else (some left)) :=
  (fixP_eq laws_szRowS.E laws_szRowS.T laws_szRowS.C laws_szRowS.K 10 laws_szRowS.D10 (a, left, i)).trans (by kernel_rfl)
theorem laws_szRowS.f_eq (a : List (Int × ByteArray)) (left : Int) : laws_szRowS.f a left =
  (bif (decide ((w64 (left - (a.length : Int))) < 0)) then (some (-1)) else
  (laws_szRowS.l10 a (w64 (left - (a.length : Int))) 0)) := by kernel_rfl
noncomputable def laws_szRowS.S : Abs.Sum := ⟨laws_szRowS.P, laws_szRowS.R, fun _ => Fn laws_szRowS.E laws_szRowS.T laws_szRowS.C laws_szRowS.P laws_szRowS.R laws_szRowS.X⟩
theorem laws_szRowS.meets : Meets Try.prog 59 laws_szRowS.S := meets_tab (S := laws_szRowS.U) tabOk_all (AllMeets.cons laws_szRow.meets AllMeets.nil) (AllStill.cons (fun _ _ _ => rfl) AllStill.nil) follows (by kernel_rfl : Try.prog.funcs[59]? = some Try.f59) (by kernel_rfl) (by kernel_rfl) (by kernel_rfl)
noncomputable def laws_szGroup.C : Code := Try.f28.body.getD .skip
def laws_szGroup.P : Par := (.cons (.val (.pair (.int .i64) (.pair (.int .i64) (.one (.list (.pair (.int .i64) (.one .str))))))) (.cons (.val (.int .i64)) .nil))
noncomputable def laws_szGroup.U : SumTab := [(59, [], laws_szRowS.S)]
noncomputable def laws_szGroup.E : Env := mkEnv TY AR laws_szGroup.U
noncomputable def laws_szGroup.T : Tab := fun k => look k []
def laws_szGroup.R : List (Nat × Ty) := [(0, .int .i64)]
def laws_szGroup.X : List ResultVar := [.tmp 4]
noncomputable def laws_szGroup.f (a : Int × Int × List (Int × ByteArray)) (left : Int) : Option (Int) := Fn laws_szGroup.E laws_szGroup.T laws_szGroup.C laws_szGroup.P laws_szGroup.R laws_szGroup.X (a, left)
theorem laws_szGroup.f_eq (a : Int × Int × List (Int × ByteArray)) (left : Int) : laws_szGroup.f a left =
  ((laws_szRowS.f a.2.2 left).bind fun y1 =>
  bif (decide (y1 < 0)) then (some (-1)) else (some y1)) := by kernel_rfl
noncomputable def laws_szGroup.S : Abs.Sum := ⟨laws_szGroup.P, laws_szGroup.R, fun _ => Fn laws_szGroup.E laws_szGroup.T laws_szGroup.C laws_szGroup.P laws_szGroup.R laws_szGroup.X⟩
theorem laws_szGroup.meets : Meets Try.prog 28 laws_szGroup.S := meets_tab (S := laws_szGroup.U) tabOk_all (AllMeets.cons laws_szRowS.meets AllMeets.nil) (AllStill.cons (fun _ _ _ => rfl) AllStill.nil) follows (by kernel_rfl : Try.prog.funcs[28]? = some Try.f28) (by kernel_rfl) (by kernel_rfl) (by kernel_rfl)
noncomputable def laws_szGroupS.C : Code := Try.f6.body.getD .skip
def laws_szGroupS.P : Par := (.cons (.val (.list (.pair (.int .i64) (.pair (.int .i64) (.one (.list (.pair (.int .i64) (.one .str)))))))) (.cons (.val (.int .i64)) .nil))
noncomputable def laws_szGroupS.U : SumTab := [(28, [], laws_szGroup.S)]
noncomputable def laws_szGroupS.E : Env := mkEnv TY AR laws_szGroupS.U
def laws_szGroupS.D10 : CutD := ⟨[0, 1, 5], (.cons (.val (.list (.pair (.int .i64) (.pair (.int .i64) (.one (.list (.pair (.int .i64) (.one .str)))))))) (.cons (.val (.int .i64)) (.cons (.val (.int .i64)) .nil)))⟩
noncomputable def laws_szGroupS.T : Tab := fun k => look k [(10, laws_szGroupS.D10)]
def laws_szGroupS.R : List (Nat × Ty) := [(0, .int .i64)]
def laws_szGroupS.X : List ResultVar := [.tmp 4]
noncomputable def laws_szGroupS.K := fin laws_szGroupS.E ⟨laws_szGroupS.P, laws_szGroupS.R, fun _ _ => none⟩ laws_szGroupS.X laws_szGroupS.P.len 0
noncomputable def laws_szGroupS.l10 (a : List (Int × Int × List (Int × ByteArray))) (left : Int) (i : Int) : Option (Int) := fixP laws_szGroupS.E laws_szGroupS.T laws_szGroupS.C laws_szGroupS.K 10 laws_szGroupS.D10 (a, left, i)
noncomputable def laws_szGroupS.f (a : List (Int × Int × List (Int × ByteArray))) (left : Int) : Option (Int) := Fn laws_szGroupS.E laws_szGroupS.T laws_szGroupS.C laws_szGroupS.P laws_szGroupS.R laws_szGroupS.X (a, left)
theorem laws_szGroupS.l10_eq (a : List (Int × Int × List (Int × ByteArray))) (left : Int) (i : Int) : laws_szGroupS.l10 a left i =
  (bif (decide (i < (a.length : Int))) then (bif ((decide (0 ≤ i)) && (decide (i < (a.length : Int)))) then ((laws_szGroup.f (a.getD (i).toNat (0, 0, ([] : List (Int × ByteArray)))) left).bind fun y1 =>
    bif (decide (y1 < 0)) then (some (-1)) else
    (laws_szGroupS.l10 a y1 (w64 (i + 1)))) else none) else (some left)) :=
  (fixP_eq laws_szGroupS.E laws_szGroupS.T laws_szGroupS.C laws_szGroupS.K 10 laws_szGroupS.D10 (a, left, i)).trans (by kernel_rfl)
theorem laws_szGroupS.f_eq (a : List (Int × Int × List (Int × ByteArray))) (left : Int) : laws_szGroupS.f a left =
  (bif (decide ((w64 (left - (a.length : Int))) < 0)) then (some (-1)) else
  (laws_szGroupS.l10 a (w64 (left - (a.length : Int))) 0)) := by kernel_rfl
noncomputable def laws_szGroupS.S : Abs.Sum := ⟨laws_szGroupS.P, laws_szGroupS.R, fun _ => Fn laws_szGroupS.E laws_szGroupS.T laws_szGroupS.C laws_szGroupS.P laws_szGroupS.R laws_szGroupS.X⟩
theorem laws_szGroupS.meets : Meets Try.prog 6 laws_szGroupS.S := meets_tab (S := laws_szGroupS.U) tabOk_all (AllMeets.cons laws_szGroup.meets AllMeets.nil) (AllStill.cons (fun _ _ _ => rfl) AllStill.nil) follows (by kernel_rfl : Try.prog.funcs[6]? = some Try.f6) (by kernel_rfl) (by kernel_rfl) (by kernel_rfl)
noncomputable def laws_toStringS.C : Code := Try.f8.body.getD .skip
def laws_toStringS.P : Par := (.cons (.val (.list .str)) .nil)
noncomputable def laws_toStringS.U : SumTab := []
noncomputable def laws_toStringS.E : Env := mkEnv TY AR laws_toStringS.U
def laws_toStringS.D6 : CutD := ⟨[0, 3, 4], (.cons (.val (.list .str)) (.cons (.own 9 .str) (.cons (.val (.int .i64)) .nil)))⟩
noncomputable def laws_toStringS.T : Tab := fun k => look k [(6, laws_toStringS.D6)]
def laws_toStringS.R : List (Nat × Ty) := [(9, .list .str)]
def laws_toStringS.X : List ResultVar := [.tmp 2]
noncomputable def laws_toStringS.K := fin laws_toStringS.E ⟨laws_toStringS.P, laws_toStringS.R, fun _ _ => none⟩ laws_toStringS.X laws_toStringS.P.len 0
noncomputable def laws_toStringS.l6 (a : List ByteArray) (out : List ByteArray) (i : Int) : Option ((List ByteArray)) := fixP laws_toStringS.E laws_toStringS.T laws_toStringS.C laws_toStringS.K 6 laws_toStringS.D6 (a, out, i)
noncomputable def laws_toStringS.f (a : List ByteArray) : Option ((List ByteArray)) := Fn laws_toStringS.E laws_toStringS.T laws_toStringS.C laws_toStringS.P laws_toStringS.R laws_toStringS.X a
theorem laws_toStringS.l6_eq (a : List ByteArray) (out : List ByteArray) (i : Int) : laws_toStringS.l6 a out i =
  (bif (decide (i < (a.length : Int))) then (bif ((decide (0 ≤ i)) && (decide (i < (a.length : Int)))) then (bif ((decide (0 ≤ i)) && (decide (i < (out.length : Int)))) then (laws_toStringS.l6 a (out.set (i).toNat (a.getD (i).toNat em)) (w64 (i + 1))) else none) else none) else (some out)) :=
  (fixP_eq laws_toStringS.E laws_toStringS.T laws_toStringS.C laws_toStringS.K 6 laws_toStringS.D6 (a, out, i)).trans (by kernel_rfl)
theorem laws_toStringS.f_eq (a : List ByteArray) : laws_toStringS.f a =
  (bif ((decide (0 ≤ (a.length : Int))) && (decide (((a.length : Int)).toNat ≤ room 16))) then (laws_toStringS.l6 a (List.replicate ((a.length : Int)).toNat em) 0) else none) := by kernel_rfl
noncomputable def laws_toStringS.S : Abs.Sum := ⟨laws_toStringS.P, laws_toStringS.R, fun _ => Fn laws_toStringS.E laws_toStringS.T laws_toStringS.C laws_toStringS.P laws_toStringS.R laws_toStringS.X⟩
theorem laws_toStringS.meets : Meets Try.prog 8 laws_toStringS.S := meets_tab (S := laws_toStringS.U) tabOk_all AllMeets.nil AllStill.nil follows (by kernel_rfl : Try.prog.funcs[8]? = some Try.f8) (by kernel_rfl) (by kernel_rfl) (by kernel_rfl)
noncomputable def laws_toRow.C : Code := Try.f87.body.getD .skip
def laws_toRow.P : Par := (.cons (.val (.pair (.int .i64) (.one .str))) .nil)
noncomputable def laws_toRow.U : SumTab := []
noncomputable def laws_toRow.E : Env := mkEnv TY AR laws_toRow.U
noncomputable def laws_toRow.T : Tab := fun k => look k []
def laws_toRow.R : List (Nat × Ty) := [(0, .pair (.int .i64) (.one .str))]
def laws_toRow.X : List ResultVar := [.cell 2 89]
noncomputable def laws_toRow.f (a : Int × ByteArray) : Option ((Int × ByteArray)) := Fn laws_toRow.E laws_toRow.T laws_toRow.C laws_toRow.P laws_toRow.R laws_toRow.X a
theorem laws_toRow.f_eq (a : Int × ByteArray) : laws_toRow.f a =
  (some (a.1, a.2)) := by kernel_rfl
noncomputable def laws_toRow.S : Abs.Sum := ⟨laws_toRow.P, laws_toRow.R, fun _ => Fn laws_toRow.E laws_toRow.T laws_toRow.C laws_toRow.P laws_toRow.R laws_toRow.X⟩
theorem laws_toRow.meets : Meets Try.prog 87 laws_toRow.S := meets_tab (S := laws_toRow.U) tabOk_all AllMeets.nil AllStill.nil follows (by kernel_rfl : Try.prog.funcs[87]? = some Try.f87) (by kernel_rfl) (by kernel_rfl) (by kernel_rfl)
noncomputable def laws_toRowS.C : Code := Try.f64.body.getD .skip
def laws_toRowS.P : Par := (.cons (.val (.list (.pair (.int .i64) (.one .str)))) .nil)
noncomputable def laws_toRowS.U : SumTab := [(87, [], laws_toRow.S)]
noncomputable def laws_toRowS.E : Env := mkEnv TY AR laws_toRowS.U
def laws_toRowS.D6 : CutD := ⟨[0, 3, 4], (.cons (.val (.list (.pair (.int .i64) (.one .str)))) (.cons (.own 9 (.pair (.int .i64) (.one .str))) (.cons (.val (.int .i64)) .nil)))⟩
noncomputable def laws_toRowS.T : Tab := fun k => look k [(6, laws_toRowS.D6)]
def laws_toRowS.R : List (Nat × Ty) := [(9, .list (.pair (.int .i64) (.one .str)))]
def laws_toRowS.X : List ResultVar := [.tmp 2]
noncomputable def laws_toRowS.K := fin laws_toRowS.E ⟨laws_toRowS.P, laws_toRowS.R, fun _ _ => none⟩ laws_toRowS.X laws_toRowS.P.len 0
noncomputable def laws_toRowS.l6 (a : List (Int × ByteArray)) (out : List (Int × ByteArray)) (i : Int) : Option ((List (Int × ByteArray))) := fixP laws_toRowS.E laws_toRowS.T laws_toRowS.C laws_toRowS.K 6 laws_toRowS.D6 (a, out, i)
noncomputable def laws_toRowS.f (a : List (Int × ByteArray)) : Option ((List (Int × ByteArray))) := Fn laws_toRowS.E laws_toRowS.T laws_toRowS.C laws_toRowS.P laws_toRowS.R laws_toRowS.X a
theorem laws_toRowS.l6_eq (a : List (Int × ByteArray)) (out : List (Int × ByteArray)) (i : Int) : laws_toRowS.l6 a out i =
  (bif (decide (i < (a.length : Int))) then (bif ((decide (0 ≤ i)) && (decide (i < (a.length : Int)))) then ((laws_toRow.f (a.getD (i).toNat (0, em))).bind fun y1 =>
    bif ((decide (0 ≤ i)) && (decide (i < (out.length : Int)))) then (laws_toRowS.l6 a (out.set (i).toNat y1) (w64 (i + 1))) else none) else none) else (some out)) :=
  (fixP_eq laws_toRowS.E laws_toRowS.T laws_toRowS.C laws_toRowS.K 6 laws_toRowS.D6 (a, out, i)).trans (by kernel_rfl)
theorem laws_toRowS.f_eq (a : List (Int × ByteArray)) : laws_toRowS.f a =
  (bif ((decide (0 ≤ (a.length : Int))) && (decide (((a.length : Int)).toNat ≤ room 24))) then (laws_toRowS.l6 a (List.replicate ((a.length : Int)).toNat (0, em)) 0) else none) := by kernel_rfl
noncomputable def laws_toRowS.S : Abs.Sum := ⟨laws_toRowS.P, laws_toRowS.R, fun _ => Fn laws_toRowS.E laws_toRowS.T laws_toRowS.C laws_toRowS.P laws_toRowS.R laws_toRowS.X⟩
theorem laws_toRowS.meets : Meets Try.prog 64 laws_toRowS.S := meets_tab (S := laws_toRowS.U) tabOk_all (AllMeets.cons laws_toRow.meets AllMeets.nil) (AllStill.cons (fun _ _ _ => rfl) AllStill.nil) follows (by kernel_rfl : Try.prog.funcs[64]? = some Try.f64) (by kernel_rfl) (by kernel_rfl) (by kernel_rfl)
noncomputable def laws_toGroup.C : Code := Try.f36.body.getD .skip
def laws_toGroup.P : Par := (.cons (.val (.pair (.int .i64) (.pair (.int .i64) (.one (.list (.pair (.int .i64) (.one .str))))))) .nil)
noncomputable def laws_toGroup.U : SumTab := [(64, [], laws_toRowS.S)]
noncomputable def laws_toGroup.E : Env := mkEnv TY AR laws_toGroup.U
noncomputable def laws_toGroup.T : Tab := fun k => look k []
def laws_toGroup.R : List (Nat × Ty) := [(9, .pair (.int .i64) (.pair (.int .i64) (.one (.list (.pair (.int .i64) (.one .str))))))]
def laws_toGroup.X : List ResultVar := [.cell 2 59]
noncomputable def laws_toGroup.f (a : Int × Int × List (Int × ByteArray)) : Option ((Int × Int × List (Int × ByteArray))) := Fn laws_toGroup.E laws_toGroup.T laws_toGroup.C laws_toGroup.P laws_toGroup.R laws_toGroup.X a
theorem laws_toGroup.f_eq (a : Int × Int × List (Int × ByteArray)) : laws_toGroup.f a =
  ((laws_toRowS.f a.2.2).bind fun y1 =>
  some (a.1, a.2.1, y1)) := by kernel_rfl
noncomputable def laws_toGroup.S : Abs.Sum := ⟨laws_toGroup.P, laws_toGroup.R, fun _ => Fn laws_toGroup.E laws_toGroup.T laws_toGroup.C laws_toGroup.P laws_toGroup.R laws_toGroup.X⟩
theorem laws_toGroup.meets : Meets Try.prog 36 laws_toGroup.S := meets_tab (S := laws_toGroup.U) tabOk_all (AllMeets.cons laws_toRowS.meets AllMeets.nil) (AllStill.cons (fun _ _ _ => rfl) AllStill.nil) follows (by kernel_rfl : Try.prog.funcs[36]? = some Try.f36) (by kernel_rfl) (by kernel_rfl) (by kernel_rfl)
noncomputable def laws_toGroupS.C : Code := Try.f9.body.getD .skip
def laws_toGroupS.P : Par := (.cons (.val (.list (.pair (.int .i64) (.pair (.int .i64) (.one (.list (.pair (.int .i64) (.one .str)))))))) .nil)
noncomputable def laws_toGroupS.U : SumTab := [(36, [], laws_toGroup.S)]
noncomputable def laws_toGroupS.E : Env := mkEnv TY AR laws_toGroupS.U
def laws_toGroupS.D6 : CutD := ⟨[0, 3, 4], (.cons (.val (.list (.pair (.int .i64) (.pair (.int .i64) (.one (.list (.pair (.int .i64) (.one .str)))))))) (.cons (.own 9 (.pair (.int .i64) (.pair (.int .i64) (.one (.list (.pair (.int .i64) (.one .str))))))) (.cons (.val (.int .i64)) .nil)))⟩
noncomputable def laws_toGroupS.T : Tab := fun k => look k [(6, laws_toGroupS.D6)]
def laws_toGroupS.R : List (Nat × Ty) := [(9, .list (.pair (.int .i64) (.pair (.int .i64) (.one (.list (.pair (.int .i64) (.one .str)))))))]
def laws_toGroupS.X : List ResultVar := [.tmp 2]
noncomputable def laws_toGroupS.K := fin laws_toGroupS.E ⟨laws_toGroupS.P, laws_toGroupS.R, fun _ _ => none⟩ laws_toGroupS.X laws_toGroupS.P.len 0
noncomputable def laws_toGroupS.l6 (a : List (Int × Int × List (Int × ByteArray))) (out : List (Int × Int × List (Int × ByteArray))) (i : Int) : Option ((List (Int × Int × List (Int × ByteArray)))) := fixP laws_toGroupS.E laws_toGroupS.T laws_toGroupS.C laws_toGroupS.K 6 laws_toGroupS.D6 (a, out, i)
noncomputable def laws_toGroupS.f (a : List (Int × Int × List (Int × ByteArray))) : Option ((List (Int × Int × List (Int × ByteArray)))) := Fn laws_toGroupS.E laws_toGroupS.T laws_toGroupS.C laws_toGroupS.P laws_toGroupS.R laws_toGroupS.X a
theorem laws_toGroupS.l6_eq (a : List (Int × Int × List (Int × ByteArray))) (out : List (Int × Int × List (Int × ByteArray))) (i : Int) : laws_toGroupS.l6 a out i =
  (bif (decide (i < (a.length : Int))) then (bif ((decide (0 ≤ i)) && (decide (i < (a.length : Int)))) then ((laws_toGroup.f (a.getD (i).toNat (0, 0, ([] : List (Int × ByteArray))))).bind fun y1 =>
    bif ((decide (0 ≤ i)) && (decide (i < (out.length : Int)))) then (laws_toGroupS.l6 a (out.set (i).toNat (y1.1, y1.2.1, y1.2.2)) (w64 (i + 1))) else none) else none) else (some out)) :=
  (fixP_eq laws_toGroupS.E laws_toGroupS.T laws_toGroupS.C laws_toGroupS.K 6 laws_toGroupS.D6 (a, out, i)).trans (by kernel_rfl)
theorem laws_toGroupS.f_eq (a : List (Int × Int × List (Int × ByteArray))) : laws_toGroupS.f a =
  (bif ((decide (0 ≤ (a.length : Int))) && (decide (((a.length : Int)).toNat ≤ room 40))) then (laws_toGroupS.l6 a (List.replicate ((a.length : Int)).toNat (0, 0, ([] : List (Int × ByteArray)))) 0) else none) := by kernel_rfl
noncomputable def laws_toGroupS.S : Abs.Sum := ⟨laws_toGroupS.P, laws_toGroupS.R, fun _ => Fn laws_toGroupS.E laws_toGroupS.T laws_toGroupS.C laws_toGroupS.P laws_toGroupS.R laws_toGroupS.X⟩
theorem laws_toGroupS.meets : Meets Try.prog 9 laws_toGroupS.S := meets_tab (S := laws_toGroupS.U) tabOk_all (AllMeets.cons laws_toGroup.meets AllMeets.nil) (AllStill.cons (fun _ _ _ => rfl) AllStill.nil) follows (by kernel_rfl : Try.prog.funcs[9]? = some Try.f9) (by kernel_rfl) (by kernel_rfl) (by kernel_rfl)
noncomputable def spec_l1In.C : Code := Try.f31.body.getD .skip
def spec_l1In.P : Par := (.cons (.val (.int .i64)) (.cons (.val (.int .i64)) (.cons (.val (.int .i64)) .nil)))
noncomputable def spec_l1In.U : SumTab := []
noncomputable def spec_l1In.E : Env := mkEnv TY AR spec_l1In.U
noncomputable def spec_l1In.T : Tab := fun k => look k []
def spec_l1In.R : List (Nat × Ty) := [(0, .bool)]
def spec_l1In.X : List ResultVar := [.tmp 6]
noncomputable def spec_l1In.f (n : Int) (lo : Int) (hi : Int) : Option (Bool) := Fn spec_l1In.E spec_l1In.T spec_l1In.C spec_l1In.P spec_l1In.R spec_l1In.X (n, lo, hi)
theorem spec_l1In.f_eq (n : Int) (lo : Int) (hi : Int) : spec_l1In.f n lo hi =
  (bif (decide (n ≥ lo)) then (some (decide (n ≤ hi))) else (some false)) := by kernel_rfl
noncomputable def spec_l1In.S : Abs.Sum := ⟨spec_l1In.P, spec_l1In.R, fun _ => Fn spec_l1In.E spec_l1In.T spec_l1In.C spec_l1In.P spec_l1In.R spec_l1In.X⟩
theorem spec_l1In.meets : Meets Try.prog 31 spec_l1In.S := meets_tab (S := spec_l1In.U) tabOk_all AllMeets.nil AllStill.nil follows (by kernel_rfl : Try.prog.funcs[31]? = some Try.f31) (by kernel_rfl) (by kernel_rfl) (by kernel_rfl)
noncomputable def spec_l1Line.C : Code := Try.f60.body.getD .skip
def spec_l1Line.P : Par := (.cons (.val .str) .nil)
noncomputable def spec_l1Line.U : SumTab := [(31, [], spec_l1In.S)]
noncomputable def spec_l1Line.E : Env := mkEnv TY AR spec_l1Line.U
def spec_l1Line.D4 : CutD := ⟨[0, 3], (.cons (.val .str) (.cons (.val (.int .i64)) .nil))⟩
noncomputable def spec_l1Line.T : Tab := fun k => look k [(4, spec_l1Line.D4)]
def spec_l1Line.R : List (Nat × Ty) := [(0, .bool)]
def spec_l1Line.X : List ResultVar := [.tmp 2]
noncomputable def spec_l1Line.K := fin spec_l1Line.E ⟨spec_l1Line.P, spec_l1Line.R, fun _ _ => none⟩ spec_l1Line.X spec_l1Line.P.len 0
noncomputable def spec_l1Line.l4 (s : ByteArray) (i : Int) : Option (Bool) := fixP spec_l1Line.E spec_l1Line.T spec_l1Line.C spec_l1Line.K 4 spec_l1Line.D4 (s, i)
noncomputable def spec_l1Line.f (s : ByteArray) : Option (Bool) := Fn spec_l1Line.E spec_l1Line.T spec_l1Line.C spec_l1Line.P spec_l1Line.R spec_l1Line.X s
theorem spec_l1Line.l4_eq (s : ByteArray) (i : Int) : spec_l1Line.l4 s i =
  (bif (decide (i < (w64 ((s.size : Int) - 1)))) then (bif ((decide (0 ≤ i)) && (decide (i < (s.size : Int)))) then (bif (decide ((bt s i) = 10)) then (some false) else
    (spec_l1Line.l4 s (w64 (i + 1)))) else none) else
  ((spec_l1In.f (s.size : Int) 1 30).bind fun y1 =>
   some y1)) :=
  (fixP_eq spec_l1Line.E spec_l1Line.T spec_l1Line.C spec_l1Line.K 4 spec_l1Line.D4 (s, i)).trans (by kernel_rfl)
theorem spec_l1Line.f_eq (s : ByteArray) : spec_l1Line.f s =
  (spec_l1Line.l4 s 0) := by kernel_rfl
noncomputable def spec_l1Line.S : Abs.Sum := ⟨spec_l1Line.P, spec_l1Line.R, fun _ => Fn spec_l1Line.E spec_l1Line.T spec_l1Line.C spec_l1Line.P spec_l1Line.R spec_l1Line.X⟩
theorem spec_l1Line.meets : Meets Try.prog 60 spec_l1Line.S := meets_tab (S := spec_l1Line.U) tabOk_all (AllMeets.cons spec_l1In.meets AllMeets.nil) (AllStill.cons (fun _ _ _ => rfl) AllStill.nil) follows (by kernel_rfl : Try.prog.funcs[60]? = some Try.f60) (by kernel_rfl) (by kernel_rfl) (by kernel_rfl)
noncomputable def spec_l1Ends.C : Code := Try.f61.body.getD .skip
def spec_l1Ends.P : Par := (.cons (.val .str) .nil)
noncomputable def spec_l1Ends.U : SumTab := []
noncomputable def spec_l1Ends.E : Env := mkEnv TY AR spec_l1Ends.U
noncomputable def spec_l1Ends.T : Tab := fun k => look k []
def spec_l1Ends.R : List (Nat × Ty) := [(0, .bool)]
def spec_l1Ends.X : List ResultVar := [.tmp 2]
noncomputable def spec_l1Ends.f (s : ByteArray) : Option (Bool) := Fn spec_l1Ends.E spec_l1Ends.T spec_l1Ends.C spec_l1Ends.P spec_l1Ends.R spec_l1Ends.X s
theorem spec_l1Ends.f_eq (s : ByteArray) : spec_l1Ends.f s =
  (bif ((decide (0 ≤ (w64 ((s.size : Int) - 1)))) && (decide ((w64 ((s.size : Int) - 1)) < (s.size : Int)))) then (some (decide ((bt s (w64 ((s.size : Int) - 1))) = 10))) else none) := by kernel_rfl
noncomputable def spec_l1Ends.S : Abs.Sum := ⟨spec_l1Ends.P, spec_l1Ends.R, fun _ => Fn spec_l1Ends.E spec_l1Ends.T spec_l1Ends.C spec_l1Ends.P spec_l1Ends.R spec_l1Ends.X⟩
theorem spec_l1Ends.meets : Meets Try.prog 61 spec_l1Ends.S := meets_tab (S := spec_l1Ends.U) tabOk_all AllMeets.nil AllStill.nil follows (by kernel_rfl : Try.prog.funcs[61]? = some Try.f61) (by kernel_rfl) (by kernel_rfl) (by kernel_rfl)
noncomputable def spec_l1Good.C : Code := Try.f29.body.getD .skip
def spec_l1Good.P : Par := (.cons (.val (.list .str)) .nil)
noncomputable def spec_l1Good.U : SumTab := [(60, [], spec_l1Line.S), (61, [], spec_l1Ends.S)]
noncomputable def spec_l1Good.E : Env := mkEnv TY AR spec_l1Good.U
def spec_l1Good.D4 : CutD := ⟨[0, 5, 6, 7], (.cons (.val (.list .str)) (.cons (.val (.list .str)) (.cons (.val (.int .i64)) (.cons (.val (.int .i64)) .nil))))⟩
noncomputable def spec_l1Good.T : Tab := fun k => look k [(4, spec_l1Good.D4)]
def spec_l1Good.R : List (Nat × Ty) := [(0, .bool)]
def spec_l1Good.X : List ResultVar := [.tmp 2]
noncomputable def spec_l1Good.K := fin spec_l1Good.E ⟨spec_l1Good.P, spec_l1Good.R, fun _ _ => none⟩ spec_l1Good.X spec_l1Good.P.len 0
noncomputable def spec_l1Good.l4 (l : List ByteArray) (t5 : List ByteArray) (t6 : Int) (t7 : Int) : Option (Bool) := fixP spec_l1Good.E spec_l1Good.T spec_l1Good.C spec_l1Good.K 4 spec_l1Good.D4 (l, t5, t6, t7)
noncomputable def spec_l1Good.f (l : List ByteArray) : Option (Bool) := Fn spec_l1Good.E spec_l1Good.T spec_l1Good.C spec_l1Good.P spec_l1Good.R spec_l1Good.X l
theorem spec_l1Good.l4_eq (l : List ByteArray) (t5 : List ByteArray) (t6 : Int) (t7 : Int) : spec_l1Good.l4 l t5 t6 t7 =
  (bif (decide (t7 < t6)) then (bif ((decide (0 ≤ t7)) && (decide (t7 < (t5.length : Int)))) then ((spec_l1Line.f (t5.getD (t7).toNat em)).bind fun y1 =>
    bif (!y1) then (some false) else
    (bif (decide (t7 < (w64 ((l.length : Int) - 1)))) then ((spec_l1Ends.f (t5.getD (t7).toNat em)).bind fun y2 =>
      bif (!y2) then (some false) else
      (spec_l1Good.l4 l t5 t6 (w64 (t7 + 1)))) else
     (spec_l1Good.l4 l t5 t6 (w64 (t7 + 1))))) else none) else (some (decide ((l.length : Int) ≤ 40)))) :=
  (fixP_eq spec_l1Good.E spec_l1Good.T spec_l1Good.C spec_l1Good.K 4 spec_l1Good.D4 (l, t5, t6, t7)).trans (by kernel_rfl)
theorem spec_l1Good.f_eq (l : List ByteArray) : spec_l1Good.f l =
  (spec_l1Good.l4 l l (l.length : Int) 0) := by kernel_rfl
noncomputable def spec_l1Good.S : Abs.Sum := ⟨spec_l1Good.P, spec_l1Good.R, fun _ => Fn spec_l1Good.E spec_l1Good.T spec_l1Good.C spec_l1Good.P spec_l1Good.R spec_l1Good.X⟩
theorem spec_l1Good.meets : Meets Try.prog 29 spec_l1Good.S := meets_tab (S := spec_l1Good.U) tabOk_all (AllMeets.cons spec_l1Line.meets (AllMeets.cons spec_l1Ends.meets AllMeets.nil)) (AllStill.cons (fun _ _ _ => rfl) (AllStill.cons (fun _ _ _ => rfl) AllStill.nil)) follows (by kernel_rfl : Try.prog.funcs[29]? = some Try.f29) (by kernel_rfl) (by kernel_rfl) (by kernel_rfl)
noncomputable def spec_l6Old.C : Code := Try.f33.body.getD .skip
def spec_l6Old.P : Par := (.cons (.val (.pair (.int .i64) (.pair (.int .i64) (.one (.list (.pair (.int .i64) (.one .str))))))) .nil)
noncomputable def spec_l6Old.U : SumTab := []
noncomputable def spec_l6Old.E : Env := mkEnv TY AR spec_l6Old.U
def spec_l6Old.D6 : CutD := ⟨[3, 7, 8, 9], (.cons (.own 9 .str) (.cons (.val (.list (.pair (.int .i64) (.one .str)))) (.cons (.val (.int .i64)) (.cons (.val (.int .i64)) .nil))))⟩
noncomputable def spec_l6Old.T : Tab := fun k => look k [(6, spec_l6Old.D6)]
def spec_l6Old.R : List (Nat × Ty) := [(9, .list .str)]
def spec_l6Old.X : List ResultVar := [.tmp 2]
noncomputable def spec_l6Old.K := fin spec_l6Old.E ⟨spec_l6Old.P, spec_l6Old.R, fun _ _ => none⟩ spec_l6Old.X spec_l6Old.P.len 0
noncomputable def spec_l6Old.l6 (out : List ByteArray) (t7 : List (Int × ByteArray)) (t8 : Int) (t9 : Int) : Option ((List ByteArray)) := fixP spec_l6Old.E spec_l6Old.T spec_l6Old.C spec_l6Old.K 6 spec_l6Old.D6 (out, t7, t8, t9)
noncomputable def spec_l6Old.f (g : Int × Int × List (Int × ByteArray)) : Option ((List ByteArray)) := Fn spec_l6Old.E spec_l6Old.T spec_l6Old.C spec_l6Old.P spec_l6Old.R spec_l6Old.X g
theorem spec_l6Old.l6_eq (out : List ByteArray) (t7 : List (Int × ByteArray)) (t8 : Int) (t9 : Int) : spec_l6Old.l6 out t7 t8 t9 =
  (bif (decide (t9 < t8)) then (bif ((decide (0 ≤ t9)) && (decide (t9 < (t7.length : Int)))) then (bif (!(decide ((t7.getD (t9).toNat (0, em)).1 = 3))) then (bif (decide ((out.length + [(t7.getD (t9).toNat (0, em)).2].length) ≤ room 16)) then (spec_l6Old.l6 (out ++ [(t7.getD (t9).toNat (0, em)).2]) t7 t8 (w64 (t9 + 1))) else none) else
    (spec_l6Old.l6 out t7 t8 (w64 (t9 + 1)))) else none) else (some out)) :=
  (fixP_eq spec_l6Old.E spec_l6Old.T spec_l6Old.C spec_l6Old.K 6 spec_l6Old.D6 (out, t7, t8, t9)).trans (by kernel_rfl)
theorem spec_l6Old.f_eq (g : Int × Int × List (Int × ByteArray)) : spec_l6Old.f g =
  (spec_l6Old.l6 ([] : List ByteArray) g.2.2 (g.2.2.length : Int) 0) := by kernel_rfl
noncomputable def spec_l6Old.S : Abs.Sum := ⟨spec_l6Old.P, spec_l6Old.R, fun _ => Fn spec_l6Old.E spec_l6Old.T spec_l6Old.C spec_l6Old.P spec_l6Old.R spec_l6Old.X⟩
theorem spec_l6Old.meets : Meets Try.prog 33 spec_l6Old.S := meets_tab (S := spec_l6Old.U) tabOk_all AllMeets.nil AllStill.nil follows (by kernel_rfl : Try.prog.funcs[33]? = some Try.f33) (by kernel_rfl) (by kernel_rfl) (by kernel_rfl)
noncomputable def spec_l6New.C : Code := Try.f35.body.getD .skip
def spec_l6New.P : Par := (.cons (.val (.pair (.int .i64) (.pair (.int .i64) (.one (.list (.pair (.int .i64) (.one .str))))))) .nil)
noncomputable def spec_l6New.U : SumTab := []
noncomputable def spec_l6New.E : Env := mkEnv TY AR spec_l6New.U
def spec_l6New.D6 : CutD := ⟨[3, 7, 8, 9], (.cons (.own 9 .str) (.cons (.val (.list (.pair (.int .i64) (.one .str)))) (.cons (.val (.int .i64)) (.cons (.val (.int .i64)) .nil))))⟩
noncomputable def spec_l6New.T : Tab := fun k => look k [(6, spec_l6New.D6)]
def spec_l6New.R : List (Nat × Ty) := [(9, .list .str)]
def spec_l6New.X : List ResultVar := [.tmp 2]
noncomputable def spec_l6New.K := fin spec_l6New.E ⟨spec_l6New.P, spec_l6New.R, fun _ _ => none⟩ spec_l6New.X spec_l6New.P.len 0
noncomputable def spec_l6New.l6 (out : List ByteArray) (t7 : List (Int × ByteArray)) (t8 : Int) (t9 : Int) : Option ((List ByteArray)) := fixP spec_l6New.E spec_l6New.T spec_l6New.C spec_l6New.K 6 spec_l6New.D6 (out, t7, t8, t9)
noncomputable def spec_l6New.f (g : Int × Int × List (Int × ByteArray)) : Option ((List ByteArray)) := Fn spec_l6New.E spec_l6New.T spec_l6New.C spec_l6New.P spec_l6New.R spec_l6New.X g
theorem spec_l6New.l6_eq (out : List ByteArray) (t7 : List (Int × ByteArray)) (t8 : Int) (t9 : Int) : spec_l6New.l6 out t7 t8 t9 =
  (bif (decide (t9 < t8)) then (bif ((decide (0 ≤ t9)) && (decide (t9 < (t7.length : Int)))) then (bif (!(decide ((t7.getD (t9).toNat (0, em)).1 = 2))) then (bif (decide ((out.length + [(t7.getD (t9).toNat (0, em)).2].length) ≤ room 16)) then (spec_l6New.l6 (out ++ [(t7.getD (t9).toNat (0, em)).2]) t7 t8 (w64 (t9 + 1))) else none) else
    (spec_l6New.l6 out t7 t8 (w64 (t9 + 1)))) else none) else (some out)) :=
  (fixP_eq spec_l6New.E spec_l6New.T spec_l6New.C spec_l6New.K 6 spec_l6New.D6 (out, t7, t8, t9)).trans (by kernel_rfl)
theorem spec_l6New.f_eq (g : Int × Int × List (Int × ByteArray)) : spec_l6New.f g =
  (spec_l6New.l6 ([] : List ByteArray) g.2.2 (g.2.2.length : Int) 0) := by kernel_rfl
noncomputable def spec_l6New.S : Abs.Sum := ⟨spec_l6New.P, spec_l6New.R, fun _ => Fn spec_l6New.E spec_l6New.T spec_l6New.C spec_l6New.P spec_l6New.R spec_l6New.X⟩
theorem spec_l6New.meets : Meets Try.prog 35 spec_l6New.S := meets_tab (S := spec_l6New.U) tabOk_all AllMeets.nil AllStill.nil follows (by kernel_rfl : Try.prog.funcs[35]? = some Try.f35) (by kernel_rfl) (by kernel_rfl) (by kernel_rfl)
noncomputable def spec_l5Lines.C : Code := Try.f85.body.getD .skip
def spec_l5Lines.P : Par := (.cons (.val (.list .str)) .nil)
noncomputable def spec_l5Lines.U : SumTab := [(60, [], spec_l1Line.S), (61, [], spec_l1Ends.S)]
noncomputable def spec_l5Lines.E : Env := mkEnv TY AR spec_l5Lines.U
def spec_l5Lines.D4 : CutD := ⟨[0, 5, 6, 7], (.cons (.val (.list .str)) (.cons (.val (.list .str)) (.cons (.val (.int .i64)) (.cons (.val (.int .i64)) .nil))))⟩
noncomputable def spec_l5Lines.T : Tab := fun k => look k [(4, spec_l5Lines.D4)]
def spec_l5Lines.R : List (Nat × Ty) := [(0, .bool)]
def spec_l5Lines.X : List ResultVar := [.tmp 2]
noncomputable def spec_l5Lines.K := fin spec_l5Lines.E ⟨spec_l5Lines.P, spec_l5Lines.R, fun _ _ => none⟩ spec_l5Lines.X spec_l5Lines.P.len 0
noncomputable def spec_l5Lines.l4 (l : List ByteArray) (t5 : List ByteArray) (t6 : Int) (t7 : Int) : Option (Bool) := fixP spec_l5Lines.E spec_l5Lines.T spec_l5Lines.C spec_l5Lines.K 4 spec_l5Lines.D4 (l, t5, t6, t7)
noncomputable def spec_l5Lines.f (l : List ByteArray) : Option (Bool) := Fn spec_l5Lines.E spec_l5Lines.T spec_l5Lines.C spec_l5Lines.P spec_l5Lines.R spec_l5Lines.X l
theorem spec_l5Lines.l4_eq (l : List ByteArray) (t5 : List ByteArray) (t6 : Int) (t7 : Int) : spec_l5Lines.l4 l t5 t6 t7 =
  (bif (decide (t7 < t6)) then (bif ((decide (0 ≤ t7)) && (decide (t7 < (t5.length : Int)))) then ((spec_l1Line.f (t5.getD (t7).toNat em)).bind fun y1 =>
    bif (!y1) then (some false) else
    (bif (decide (t7 < (w64 ((l.length : Int) - 1)))) then ((spec_l1Ends.f (t5.getD (t7).toNat em)).bind fun y2 =>
      bif (!y2) then (some false) else
      (spec_l5Lines.l4 l t5 t6 (w64 (t7 + 1)))) else
     (spec_l5Lines.l4 l t5 t6 (w64 (t7 + 1))))) else none) else (some (decide ((l.length : Int) ≤ 40)))) :=
  (fixP_eq spec_l5Lines.E spec_l5Lines.T spec_l5Lines.C spec_l5Lines.K 4 spec_l5Lines.D4 (l, t5, t6, t7)).trans (by kernel_rfl)
theorem spec_l5Lines.f_eq (l : List ByteArray) : spec_l5Lines.f l =
  (spec_l5Lines.l4 l l (l.length : Int) 0) := by kernel_rfl
noncomputable def spec_l5Lines.S : Abs.Sum := ⟨spec_l5Lines.P, spec_l5Lines.R, fun _ => Fn spec_l5Lines.E spec_l5Lines.T spec_l5Lines.C spec_l5Lines.P spec_l5Lines.R spec_l5Lines.X⟩
theorem spec_l5Lines.meets : Meets Try.prog 85 spec_l5Lines.S := meets_tab (S := spec_l5Lines.U) tabOk_all (AllMeets.cons spec_l1Line.meets (AllMeets.cons spec_l1Ends.meets AllMeets.nil)) (AllStill.cons (fun _ _ _ => rfl) (AllStill.cons (fun _ _ _ => rfl) AllStill.nil)) follows (by kernel_rfl : Try.prog.funcs[85]? = some Try.f85) (by kernel_rfl) (by kernel_rfl) (by kernel_rfl)
noncomputable def spec_l6Group.C : Code := Try.f62.body.getD .skip
def spec_l6Group.P : Par := (.cons (.val (.pair (.int .i64) (.pair (.int .i64) (.one (.list (.pair (.int .i64) (.one .str))))))) .nil)
noncomputable def spec_l6Group.U : SumTab := [(31, [], spec_l1In.S), (60, [], spec_l1Line.S), (33, [], spec_l6Old.S), (35, [], spec_l6New.S), (85, [], spec_l5Lines.S)]
noncomputable def spec_l6Group.E : Env := mkEnv TY AR spec_l6Group.U
def spec_l6Group.D6 : CutD := ⟨[1, 3, 7, 8, 9], (.cons (.box 0 (.pair (.int .i64) (.pair (.int .i64) (.one (.list (.pair (.int .i64) (.one .str))))))) (.cons (.val .bool) (.cons (.val (.list (.pair (.int .i64) (.one .str)))) (.cons (.val (.int .i64)) (.cons (.val (.int .i64)) .nil)))))⟩
def spec_l6Group.D15 : CutD := ⟨[1, 3, 5, 7, 8, 9], (.cons (.box 0 (.pair (.int .i64) (.pair (.int .i64) (.one (.list (.pair (.int .i64) (.one .str))))))) (.cons (.val .bool) (.cons (.box 9 (.pair (.int .i64) (.one .str))) (.cons (.val (.list (.pair (.int .i64) (.one .str)))) (.cons (.val (.int .i64)) (.cons (.val (.int .i64)) .nil))))))⟩
noncomputable def spec_l6Group.T : Tab := fun k => look k [(6, spec_l6Group.D6), (15, spec_l6Group.D15)]
def spec_l6Group.R : List (Nat × Ty) := [(0, .bool)]
def spec_l6Group.X : List ResultVar := [.tmp 2]
noncomputable def spec_l6Group.K := fin spec_l6Group.E ⟨spec_l6Group.P, spec_l6Group.R, fun _ _ => none⟩ spec_l6Group.X spec_l6Group.P.len 0
noncomputable def spec_l6Group.l6 (g : Int × Int × List (Int × ByteArray)) (t3 : Bool) (t7 : List (Int × ByteArray)) (t8 : Int) (t9 : Int) : Option (Bool) := fixP spec_l6Group.E spec_l6Group.T spec_l6Group.C spec_l6Group.K 6 spec_l6Group.D6 (g, t3, t7, t8, t9)
noncomputable def spec_l6Group.l15 (g : Int × Int × List (Int × ByteArray)) (t3 : Bool) (r : Int × ByteArray) (t7 : List (Int × ByteArray)) (t8 : Int) (t9 : Int) : Option (Bool) := fixP spec_l6Group.E spec_l6Group.T spec_l6Group.C spec_l6Group.K 15 spec_l6Group.D15 (g, t3, r, t7, t8, t9)
noncomputable def spec_l6Group.f (g : Int × Int × List (Int × ByteArray)) : Option (Bool) := Fn spec_l6Group.E spec_l6Group.T spec_l6Group.C spec_l6Group.P spec_l6Group.R spec_l6Group.X g
theorem spec_l6Group.l6_eq (g : Int × Int × List (Int × ByteArray)) (t3 : Bool) (t7 : List (Int × ByteArray)) (t8 : Int) (t9 : Int) : spec_l6Group.l6 g t3 t7 t8 t9 =
  (bif (decide (t9 < t8)) then (bif ((decide (0 ≤ t9)) && (decide (t9 < (t7.length : Int)))) then ((spec_l1In.f (t7.getD (t9).toNat (0, em)).1 1 3).bind fun y1 =>
    bif (!y1) then (some false) else
    ((spec_l1Line.f (t7.getD (t9).toNat (0, em)).2).bind fun y2 =>
     bif (!y2) then (some false) else
     (bif (decide (t9 > 0)) then (bif (decide ((t7.getD (t9).toNat (0, em)).1 = 2)) then (bif ((decide (0 ≤ (w64 (t9 - 1)))) && (decide ((w64 (t9 - 1)) < (g.2.2.length : Int)))) then (bif (decide ((g.2.2.getD ((w64 (t9 - 1))).toNat (0, em)).1 = 3)) then (some false) else
         (spec_l6Group.l15 g t3 (t7.getD (t9).toNat (0, em)) t7 t8 t9)) else none) else
       (spec_l6Group.l15 g t3 (t7.getD (t9).toNat (0, em)) t7 t8 t9)) else
      (spec_l6Group.l15 g t3 (t7.getD (t9).toNat (0, em)) t7 t8 t9)))) else none) else
  (bif t3 then ((spec_l1In.f g.1 0 999).bind fun y1 =>
    bif y1 then ((spec_l1In.f g.2.1 0 999).bind fun y2 =>
     bif y2 then ((spec_l6Old.f g).bind fun y3 =>
      bif (decide ((w64 (g.1 + (y3.length : Int))) ≤ 1000)) then ((spec_l6New.f g).bind fun y4 =>
       bif (decide ((w64 (g.2.1 + (y4.length : Int))) ≤ 1000)) then (bif (decide ((g.2.2.length : Int) ≤ 80)) then ((spec_l6Old.f g).bind fun y5 =>
         (spec_l5Lines.f y5).bind fun y6 =>
         bif y6 then ((spec_l6New.f g).bind fun y7 =>
          (spec_l5Lines.f y7).bind fun y8 =>
          some y8) else (some false)) else (some false)) else (some false)) else (some false)) else (some false)) else (some false)) else (some false))) :=
  (fixP_eq spec_l6Group.E spec_l6Group.T spec_l6Group.C spec_l6Group.K 6 spec_l6Group.D6 (g, t3, t7, t8, t9)).trans (by kernel_rfl)
theorem spec_l6Group.l15_eq (g : Int × Int × List (Int × ByteArray)) (t3 : Bool) (r : Int × ByteArray) (t7 : List (Int × ByteArray)) (t8 : Int) (t9 : Int) : spec_l6Group.l15 g t3 r t7 t8 t9 =
  (bif t3 then (spec_l6Group.l6 g true t7 t8 (w64 (t9 + 1))) else
  (spec_l6Group.l6 g (!(decide (r.1 = 1))) t7 t8 (w64 (t9 + 1)))) :=
  (fixP_eq spec_l6Group.E spec_l6Group.T spec_l6Group.C spec_l6Group.K 15 spec_l6Group.D15 (g, t3, r, t7, t8, t9)).trans (by kernel_rfl)
theorem spec_l6Group.f_eq (g : Int × Int × List (Int × ByteArray)) : spec_l6Group.f g =
  (spec_l6Group.l6 g false g.2.2 (g.2.2.length : Int) 0) := by kernel_rfl
noncomputable def spec_l6Group.S : Abs.Sum := ⟨spec_l6Group.P, spec_l6Group.R, fun _ => Fn spec_l6Group.E spec_l6Group.T spec_l6Group.C spec_l6Group.P spec_l6Group.R spec_l6Group.X⟩
theorem spec_l6Group.meets : Meets Try.prog 62 spec_l6Group.S := meets_tab (S := spec_l6Group.U) tabOk_all (AllMeets.cons spec_l1In.meets (AllMeets.cons spec_l1Line.meets (AllMeets.cons spec_l6Old.meets (AllMeets.cons spec_l6New.meets (AllMeets.cons spec_l5Lines.meets AllMeets.nil))))) (AllStill.cons (fun _ _ _ => rfl) (AllStill.cons (fun _ _ _ => rfl) (AllStill.cons (fun _ _ _ => rfl) (AllStill.cons (fun _ _ _ => rfl) (AllStill.cons (fun _ _ _ => rfl) AllStill.nil))))) follows (by kernel_rfl : Try.prog.funcs[62]? = some Try.f62) (by kernel_rfl) (by kernel_rfl) (by kernel_rfl)
noncomputable def spec_l6Good.C : Code := Try.f30.body.getD .skip
def spec_l6Good.P : Par := (.cons (.val (.list (.pair (.int .i64) (.pair (.int .i64) (.one (.list (.pair (.int .i64) (.one .str)))))))) .nil)
noncomputable def spec_l6Good.U : SumTab := [(62, [], spec_l6Group.S), (33, [], spec_l6Old.S), (35, [], spec_l6New.S)]
noncomputable def spec_l6Good.E : Env := mkEnv TY AR spec_l6Good.U
def spec_l6Good.D4 : CutD := ⟨[0, 5, 6, 7], (.cons (.val (.list (.pair (.int .i64) (.pair (.int .i64) (.one (.list (.pair (.int .i64) (.one .str)))))))) (.cons (.val (.list (.pair (.int .i64) (.pair (.int .i64) (.one (.list (.pair (.int .i64) (.one .str)))))))) (.cons (.val (.int .i64)) (.cons (.val (.int .i64)) .nil))))⟩
noncomputable def spec_l6Good.T : Tab := fun k => look k [(4, spec_l6Good.D4)]
def spec_l6Good.R : List (Nat × Ty) := [(0, .bool)]
def spec_l6Good.X : List ResultVar := [.tmp 2]
noncomputable def spec_l6Good.K := fin spec_l6Good.E ⟨spec_l6Good.P, spec_l6Good.R, fun _ _ => none⟩ spec_l6Good.X spec_l6Good.P.len 0
noncomputable def spec_l6Good.l4 (g : List (Int × Int × List (Int × ByteArray))) (t5 : List (Int × Int × List (Int × ByteArray))) (t6 : Int) (t7 : Int) : Option (Bool) := fixP spec_l6Good.E spec_l6Good.T spec_l6Good.C spec_l6Good.K 4 spec_l6Good.D4 (g, t5, t6, t7)
noncomputable def spec_l6Good.f (g : List (Int × Int × List (Int × ByteArray))) : Option (Bool) := Fn spec_l6Good.E spec_l6Good.T spec_l6Good.C spec_l6Good.P spec_l6Good.R spec_l6Good.X g
theorem spec_l6Good.l4_eq (g : List (Int × Int × List (Int × ByteArray))) (t5 : List (Int × Int × List (Int × ByteArray))) (t6 : Int) (t7 : Int) : spec_l6Good.l4 g t5 t6 t7 =
  (bif (decide (t7 < t6)) then (bif ((decide (0 ≤ t7)) && (decide (t7 < (t5.length : Int)))) then ((spec_l6Group.f (t5.getD (t7).toNat (0, 0, ([] : List (Int × ByteArray))))).bind fun y1 =>
    bif (!y1) then (some false) else
    (bif (decide (t7 > 0)) then (bif ((decide (0 ≤ (w64 (t7 - 1)))) && (decide ((w64 (t7 - 1)) < (g.length : Int)))) then (bif ((decide (0 ≤ (w64 (t7 - 1)))) && (decide ((w64 (t7 - 1)) < (g.length : Int)))) then ((spec_l6Old.f (g.getD ((w64 (t7 - 1))).toNat (0, 0, ([] : List (Int × ByteArray))))).bind fun y2 =>
        bif (decide ((t5.getD (t7).toNat (0, 0, ([] : List (Int × ByteArray)))).1 < (w64 ((g.getD ((w64 (t7 - 1))).toNat (0, 0, ([] : List (Int × ByteArray)))).1 + (y2.length : Int))))) then (some false) else
        (bif ((decide (0 ≤ (w64 (t7 - 1)))) && (decide ((w64 (t7 - 1)) < (g.length : Int)))) then (bif ((decide (0 ≤ (w64 (t7 - 1)))) && (decide ((w64 (t7 - 1)) < (g.length : Int)))) then ((spec_l6New.f (g.getD ((w64 (t7 - 1))).toNat (0, 0, ([] : List (Int × ByteArray))))).bind fun y3 =>
           bif (decide ((t5.getD (t7).toNat (0, 0, ([] : List (Int × ByteArray)))).2.1 < (w64 ((g.getD ((w64 (t7 - 1))).toNat (0, 0, ([] : List (Int × ByteArray)))).2.1 + (y3.length : Int))))) then (some false) else
           (spec_l6Good.l4 g t5 t6 (w64 (t7 + 1)))) else none) else none)) else none) else none) else
     (spec_l6Good.l4 g t5 t6 (w64 (t7 + 1))))) else none) else (some (decide ((g.length : Int) ≤ 20)))) :=
  (fixP_eq spec_l6Good.E spec_l6Good.T spec_l6Good.C spec_l6Good.K 4 spec_l6Good.D4 (g, t5, t6, t7)).trans (by kernel_rfl)
theorem spec_l6Good.f_eq (g : List (Int × Int × List (Int × ByteArray))) : spec_l6Good.f g =
  (spec_l6Good.l4 g g (g.length : Int) 0) := by kernel_rfl
noncomputable def spec_l6Good.S : Abs.Sum := ⟨spec_l6Good.P, spec_l6Good.R, fun _ => Fn spec_l6Good.E spec_l6Good.T spec_l6Good.C spec_l6Good.P spec_l6Good.R spec_l6Good.X⟩
theorem spec_l6Good.meets : Meets Try.prog 30 spec_l6Good.S := meets_tab (S := spec_l6Good.U) tabOk_all (AllMeets.cons spec_l6Group.meets (AllMeets.cons spec_l6Old.meets (AllMeets.cons spec_l6New.meets AllMeets.nil))) (AllStill.cons (fun _ _ _ => rfl) (AllStill.cons (fun _ _ _ => rfl) (AllStill.cons (fun _ _ _ => rfl) AllStill.nil))) follows (by kernel_rfl : Try.prog.funcs[30]? = some Try.f30) (by kernel_rfl) (by kernel_rfl) (by kernel_rfl)
noncomputable def spec_l1OwnT.C : Code := Try.f32.body.getD .skip
def spec_l1OwnT.P : Par := (.cons (.val (.list .str)) .nil)
noncomputable def spec_l1OwnT.U : SumTab := []
noncomputable def spec_l1OwnT.E : Env := mkEnv TY AR spec_l1OwnT.U
noncomputable def spec_l1OwnT.T : Tab := fun k => look k []
def spec_l1OwnT.R : List (Nat × Ty) := [(9, .list .str)]
def spec_l1OwnT.X : List ResultVar := [.tmp 2]
noncomputable def spec_l1OwnT.f (l : List ByteArray) : Option ((List ByteArray)) := Fn spec_l1OwnT.E spec_l1OwnT.T spec_l1OwnT.C spec_l1OwnT.P spec_l1OwnT.R spec_l1OwnT.X l
theorem spec_l1OwnT.f_eq (l : List ByteArray) : spec_l1OwnT.f l =
  (bif (decide ((([] : List ByteArray).length + l.length) ≤ room 16)) then (some (([] : List ByteArray) ++ l)) else none) := by kernel_rfl
noncomputable def spec_l1OwnT.S : Abs.Sum := ⟨spec_l1OwnT.P, spec_l1OwnT.R, fun _ => Fn spec_l1OwnT.E spec_l1OwnT.T spec_l1OwnT.C spec_l1OwnT.P spec_l1OwnT.R spec_l1OwnT.X⟩
theorem spec_l1OwnT.meets : Meets Try.prog 32 spec_l1OwnT.S := meets_tab (S := spec_l1OwnT.U) tabOk_all AllMeets.nil AllStill.nil follows (by kernel_rfl : Try.prog.funcs[32]? = some Try.f32) (by kernel_rfl) (by kernel_rfl) (by kernel_rfl)
noncomputable def spec_l1SameT.C : Code := Try.f86.body.getD .skip
def spec_l1SameT.P : Par := (.cons (.val (.list .str)) (.cons (.val (.list .str)) .nil))
noncomputable def spec_l1SameT.U : SumTab := []
noncomputable def spec_l1SameT.E : Env := mkEnv TY AR spec_l1SameT.U
def spec_l1SameT.D8 : CutD := ⟨[0, 1, 12, 13], (.cons (.val (.list .str)) (.cons (.val (.list .str)) (.cons (.val (.int .i64)) (.cons (.val (.int .i64)) .nil))))⟩
noncomputable def spec_l1SameT.T : Tab := fun k => look k [(8, spec_l1SameT.D8)]
def spec_l1SameT.R : List (Nat × Ty) := [(0, .bool)]
def spec_l1SameT.X : List ResultVar := [.tmp 4]
noncomputable def spec_l1SameT.K := fin spec_l1SameT.E ⟨spec_l1SameT.P, spec_l1SameT.R, fun _ _ => none⟩ spec_l1SameT.X spec_l1SameT.P.len 0
noncomputable def spec_l1SameT.l8 (a : List ByteArray) (b : List ByteArray) (t12 : Int) (t13 : Int) : Option (Bool) := fixP spec_l1SameT.E spec_l1SameT.T spec_l1SameT.C spec_l1SameT.K 8 spec_l1SameT.D8 (a, b, t12, t13)
noncomputable def spec_l1SameT.f (a : List ByteArray) (b : List ByteArray) : Option (Bool) := Fn spec_l1SameT.E spec_l1SameT.T spec_l1SameT.C spec_l1SameT.P spec_l1SameT.R spec_l1SameT.X (a, b)
theorem spec_l1SameT.l8_eq (a : List ByteArray) (b : List ByteArray) (t12 : Int) (t13 : Int) : spec_l1SameT.l8 a b t12 t13 =
  (bif (decide (t13 < t12)) then (bif ((decide (0 ≤ t13)) && (decide (t13 < (a.length : Int)))) then (bif ((decide (0 ≤ t13)) && (decide (t13 < (b.length : Int)))) then (bif (!((a.getD (t13).toNat em).toList == (b.getD (t13).toNat em).toList)) then (some false) else
     (spec_l1SameT.l8 a b t12 (w64 (t13 + 1)))) else none) else none) else (some true)) :=
  (fixP_eq spec_l1SameT.E spec_l1SameT.T spec_l1SameT.C spec_l1SameT.K 8 spec_l1SameT.D8 (a, b, t12, t13)).trans (by kernel_rfl)
theorem spec_l1SameT.f_eq (a : List ByteArray) (b : List ByteArray) : spec_l1SameT.f a b =
  (bif (!(decide ((a.length : Int) = (b.length : Int)))) then (some false) else
  (spec_l1SameT.l8 a b (a.length : Int) 0)) := by kernel_rfl
noncomputable def spec_l1SameT.S : Abs.Sum := ⟨spec_l1SameT.P, spec_l1SameT.R, fun _ => Fn spec_l1SameT.E spec_l1SameT.T spec_l1SameT.C spec_l1SameT.P spec_l1SameT.R spec_l1SameT.X⟩
theorem spec_l1SameT.meets : Meets Try.prog 86 spec_l1SameT.S := meets_tab (S := spec_l1SameT.U) tabOk_all AllMeets.nil AllStill.nil follows (by kernel_rfl : Try.prog.funcs[86]? = some Try.f86) (by kernel_rfl) (by kernel_rfl) (by kernel_rfl)
noncomputable def spec_l16Fits.C : Code := Try.f63.body.getD .skip
def spec_l16Fits.P : Par := (.cons (.val (.list .str)) (.cons (.val (.list .str)) (.cons (.val (.int .i64)) .nil)))
noncomputable def spec_l16Fits.U : SumTab := [(31, [], spec_l1In.S), (86, [], spec_l1SameT.S)]
noncomputable def spec_l16Fits.E : Env := mkEnv TY AR spec_l16Fits.U
noncomputable def spec_l16Fits.T : Tab := fun k => look k []
def spec_l16Fits.R : List (Nat × Ty) := [(0, .bool)]
def spec_l16Fits.X : List ResultVar := [.tmp 6]
noncomputable def spec_l16Fits.f (l : List ByteArray) (t1 : List ByteArray) (t2 : Int) : Option (Bool) := Fn spec_l16Fits.E spec_l16Fits.T spec_l16Fits.C spec_l16Fits.P spec_l16Fits.R spec_l16Fits.X (l, t1, t2)
theorem spec_l16Fits.f_eq (l : List ByteArray) (t1 : List ByteArray) (t2 : Int) : spec_l16Fits.f l t1 t2 =
  ((spec_l1In.f t2 0 (w64 ((l.length : Int) - (t1.length : Int)))).bind fun y1 =>
  bif y1 then (bif ((decide (0 ≤ t2)) && ((decide (t2 ≤ (w64 (t2 + (t1.length : Int))))) && (decide ((w64 (t2 + (t1.length : Int))) ≤ (l.length : Int))))) then ((spec_l1SameT.f ((l.take ((w64 (t2 + (t1.length : Int)))).toNat).drop (t2).toNat) t1).bind fun y2 =>
    some y2) else none) else (some false)) := by kernel_rfl
noncomputable def spec_l16Fits.S : Abs.Sum := ⟨spec_l16Fits.P, spec_l16Fits.R, fun _ => Fn spec_l16Fits.E spec_l16Fits.T spec_l16Fits.C spec_l16Fits.P spec_l16Fits.R spec_l16Fits.X⟩
theorem spec_l16Fits.meets : Meets Try.prog 63 spec_l16Fits.S := meets_tab (S := spec_l16Fits.U) tabOk_all (AllMeets.cons spec_l1In.meets (AllMeets.cons spec_l1SameT.meets AllMeets.nil)) (AllStill.cons (fun _ _ _ => rfl) (AllStill.cons (fun _ _ _ => rfl) AllStill.nil)) follows (by kernel_rfl : Try.prog.funcs[63]? = some Try.f63) (by kernel_rfl) (by kernel_rfl) (by kernel_rfl)
noncomputable def spec_l16Near.C : Code := Try.f34.body.getD .skip
def spec_l16Near.P : Par := (.cons (.val (.list .str)) (.cons (.val (.list .str)) (.cons (.val (.int .i64)) (.cons (.val (.int .i64)) .nil))))
noncomputable def spec_l16Near.U : SumTab := [(63, [], spec_l16Fits.S)]
noncomputable def spec_l16Near.E : Env := mkEnv TY AR spec_l16Near.U
def spec_l16Near.D4 : CutD := ⟨[0, 1, 2, 3, 9], (.cons (.val (.list .str)) (.cons (.val (.list .str)) (.cons (.val (.int .i64)) (.cons (.val (.int .i64)) (.cons (.val (.int .i64)) .nil)))))⟩
noncomputable def spec_l16Near.T : Tab := fun k => look k [(4, spec_l16Near.D4)]
def spec_l16Near.R : List (Nat × Ty) := [(0, .int .i64)]
def spec_l16Near.X : List ResultVar := [.tmp 8]
noncomputable def spec_l16Near.K := fin spec_l16Near.E ⟨spec_l16Near.P, spec_l16Near.R, fun _ _ => none⟩ spec_l16Near.X spec_l16Near.P.len 0
noncomputable def spec_l16Near.l4 (l : List ByteArray) (t1 : List ByteArray) (t2 : Int) (far : Int) (n : Int) : Option (Int) := fixP spec_l16Near.E spec_l16Near.T spec_l16Near.C spec_l16Near.K 4 spec_l16Near.D4 (l, t1, t2, far, n)
noncomputable def spec_l16Near.f (l : List ByteArray) (t1 : List ByteArray) (t2 : Int) (far : Int) : Option (Int) := Fn spec_l16Near.E spec_l16Near.T spec_l16Near.C spec_l16Near.P spec_l16Near.R spec_l16Near.X (l, t1, t2, far)
theorem spec_l16Near.l4_eq (l : List ByteArray) (t1 : List ByteArray) (t2 : Int) (far : Int) (n : Int) : spec_l16Near.l4 l t1 t2 far n =
  (bif (decide (n ≤ far)) then ((spec_l16Fits.f l t1 (w64 (t2 - n))).bind fun y1 =>
   bif y1 then (some (w64 (t2 - n))) else
   ((spec_l16Fits.f l t1 (w64 (t2 + n))).bind fun y2 =>
    bif y2 then (some (w64 (t2 + n))) else
    (spec_l16Near.l4 l t1 t2 far (w64 (n + 1))))) else (some (-1))) :=
  (fixP_eq spec_l16Near.E spec_l16Near.T spec_l16Near.C spec_l16Near.K 4 spec_l16Near.D4 (l, t1, t2, far, n)).trans (by kernel_rfl)
theorem spec_l16Near.f_eq (l : List ByteArray) (t1 : List ByteArray) (t2 : Int) (far : Int) : spec_l16Near.f l t1 t2 far =
  (spec_l16Near.l4 l t1 t2 far 0) := by kernel_rfl
noncomputable def spec_l16Near.S : Abs.Sum := ⟨spec_l16Near.P, spec_l16Near.R, fun _ => Fn spec_l16Near.E spec_l16Near.T spec_l16Near.C spec_l16Near.P spec_l16Near.R spec_l16Near.X⟩
theorem spec_l16Near.meets : Meets Try.prog 34 spec_l16Near.S := meets_tab (S := spec_l16Near.U) tabOk_all (AllMeets.cons spec_l16Fits.meets AllMeets.nil) (AllStill.cons (fun _ _ _ => rfl) AllStill.nil) follows (by kernel_rfl : Try.prog.funcs[34]? = some Try.f34) (by kernel_rfl) (by kernel_rfl) (by kernel_rfl)
noncomputable def spec_ApplyNear.C : Code := Try.f7.body.getD .skip
def spec_ApplyNear.P : Par := (.cons (.val (.list .str)) (.cons (.val (.list (.pair (.int .i64) (.pair (.int .i64) (.one (.list (.pair (.int .i64) (.one .str)))))))) (.cons (.val (.int .i64)) .nil)))
noncomputable def spec_ApplyNear.U : SumTab := [(29, [], spec_l1Good.S), (30, [], spec_l6Good.S), (31, [], spec_l1In.S), (32, [], spec_l1OwnT.S), (33, [], spec_l6Old.S), (34, [], spec_l16Near.S), (35, [], spec_l6New.S)]
def spec_ApplyNear.Z : List (Nat × List Nat) := [(14, [10])]
noncomputable def spec_ApplyNear.E : Env := mkEnvZ TY AR spec_ApplyNear.U spec_ApplyNear.Z
def spec_ApplyNear.D7 : CutD := ⟨[0, 1, 2], (.cons (.val (.list .str)) (.cons (.val (.list (.pair (.int .i64) (.pair (.int .i64) (.one (.list (.pair (.int .i64) (.one .str)))))))) (.cons (.val (.int .i64)) .nil)))⟩
def spec_ApplyNear.D14 : CutD := ⟨[2, 10, 11, 12, 32, 33, 34], (.cons (.val (.int .i64)) (.cons (.own 8 .str) (.cons (.own 9 (.int .i64)) (.cons (.val (.int .i64)) (.cons (.val (.list (.pair (.int .i64) (.pair (.int .i64) (.one (.list (.pair (.int .i64) (.one .str)))))))) (.cons (.val (.int .i64)) (.cons (.val (.int .i64)) .nil)))))))⟩
noncomputable def spec_ApplyNear.T : Tab := fun k => look k [(7, spec_ApplyNear.D7), (14, spec_ApplyNear.D14)]
def spec_ApplyNear.R : List (Nat × Ty) := [(9, .list .str), (9, .list (.int .i64)), (0, .int .i64), (0, .bool)]
def spec_ApplyNear.X : List ResultVar := [.tmp 6, .tmp 7, .tmp 8, .tmp 9]
noncomputable def spec_ApplyNear.K := fin spec_ApplyNear.E ⟨spec_ApplyNear.P, spec_ApplyNear.R, fun _ _ => none⟩ spec_ApplyNear.X spec_ApplyNear.P.len 0
noncomputable def spec_ApplyNear.l7 (l : List ByteArray) (g : List (Int × Int × List (Int × ByteArray))) (far : Int) : Option ((List ByteArray) × (List Int) × Int × Bool) := fixP spec_ApplyNear.E spec_ApplyNear.T spec_ApplyNear.C spec_ApplyNear.K 7 spec_ApplyNear.D7 (l, g, far)
noncomputable def spec_ApplyNear.l14 (far : Int) (out : List ByteArray) (places : List Int) (t12 : Int) (t32 : List (Int × Int × List (Int × ByteArray))) (t33 : Int) (t34 : Int) : Option ((List ByteArray) × (List Int) × Int × Bool) := fixP spec_ApplyNear.E spec_ApplyNear.T spec_ApplyNear.C spec_ApplyNear.K 14 spec_ApplyNear.D14 (far, out, places, t12, t32, t33, t34)
noncomputable def spec_ApplyNear.f (l : List ByteArray) (g : List (Int × Int × List (Int × ByteArray))) (far : Int) : Option ((List ByteArray) × (List Int) × Int × Bool) := Fn spec_ApplyNear.E spec_ApplyNear.T spec_ApplyNear.C spec_ApplyNear.P spec_ApplyNear.R spec_ApplyNear.X (l, g, far)
theorem spec_ApplyNear.l7_eq (l : List ByteArray) (g : List (Int × Int × List (Int × ByteArray))) (far : Int) : spec_ApplyNear.l7 l g far =
  ((spec_l1OwnT.f l).bind fun y1 =>
  spec_ApplyNear.l14 far y1 ([] : List Int) 0 g (g.length : Int) 0) :=
  (fixP_eq spec_ApplyNear.E spec_ApplyNear.T spec_ApplyNear.C spec_ApplyNear.K 7 spec_ApplyNear.D7 (l, g, far)).trans (by kernel_rfl)
theorem spec_ApplyNear.l14_eq (far : Int) (out : List ByteArray) (places : List Int) (t12 : Int) (t32 : List (Int × Int × List (Int × ByteArray))) (t33 : Int) (t34 : Int) : spec_ApplyNear.l14 far out places t12 t32 t33 t34 =
  (bif (decide (t34 < t33)) then (bif ((decide (0 ≤ t34)) && (decide (t34 < (t32.length : Int)))) then ((spec_l6Old.f (t32.getD (t34).toNat (0, 0, ([] : List (Int × ByteArray))))).bind fun y1 =>
    (spec_l16Near.f out y1 (w64 ((t32.getD (t34).toNat (0, 0, ([] : List (Int × ByteArray)))).1 + t12)) far).bind fun y2 =>
    bif (decide (y2 < 0)) then (some (([] : List ByteArray), ([] : List Int), 2, true)) else
    (bif (decide ((places.length + [y2].length) ≤ room 8)) then (bif ((decide (0 ≤ y2)) && (decide (y2 ≤ (out.length : Int)))) then ((spec_l1OwnT.f (out.take (y2).toNat)).bind fun y3 =>
       (spec_l6New.f (t32.getD (t34).toNat (0, 0, ([] : List (Int × ByteArray))))).bind fun y4 =>
       bif (decide ((y3.length + y4.length) ≤ room 16)) then (bif ((decide (0 ≤ (w64 (y2 + (y1.length : Int))))) && (decide ((w64 (y2 + (y1.length : Int))) ≤ (out.length : Int)))) then (bif (decide (((y3 ++ y4).length + (out.drop ((w64 (y2 + (y1.length : Int)))).toNat).length) ≤ room 16)) then ((spec_l6New.f (t32.getD (t34).toNat (0, 0, ([] : List (Int × ByteArray))))).bind fun y5 =>
          spec_ApplyNear.l14 far ((y3 ++ y4) ++ (out.drop ((w64 (y2 + (y1.length : Int)))).toNat)) (places ++ [y2]) (w64 ((w64 ((w64 (y2 - (t32.getD (t34).toNat (0, 0, ([] : List (Int × ByteArray)))).1)) + (y5.length : Int))) - (y1.length : Int))) t32 t33 (w64 (t34 + 1))) else none) else none) else none) else none) else none)) else none) else
  ((spec_l1Good.f out).bind fun y1 =>
   bif (!y1) then (some (([] : List ByteArray), ([] : List Int), 2, true)) else (some (out, places, 0, true)))) :=
  (fixP_eq spec_ApplyNear.E spec_ApplyNear.T spec_ApplyNear.C spec_ApplyNear.K 14 spec_ApplyNear.D14 (far, out, places, t12, t32, t33, t34)).trans (by kernel_rfl)
theorem spec_ApplyNear.f_eq (l : List ByteArray) (g : List (Int × Int × List (Int × ByteArray))) (far : Int) : spec_ApplyNear.f l g far =
  ((spec_l1Good.f l).bind fun y1 =>
  bif (!y1) then (some (([] : List ByteArray), ([] : List Int), 0, false)) else
  ((spec_l6Good.f g).bind fun y2 =>
   bif (!y2) then (some (([] : List ByteArray), ([] : List Int), 0, false)) else
   ((spec_l1In.f far 0 40).bind fun y3 =>
    bif (!y3) then (some (([] : List ByteArray), ([] : List Int), 0, false)) else
    (spec_ApplyNear.l7 l g far)))) := by kernel_rfl
noncomputable def spec_ApplyNear.S : Abs.Sum := ⟨spec_ApplyNear.P, spec_ApplyNear.R, fun _ => Fn spec_ApplyNear.E spec_ApplyNear.T spec_ApplyNear.C spec_ApplyNear.P spec_ApplyNear.R spec_ApplyNear.X⟩
theorem spec_ApplyNear.meets : Meets Try.prog 7 spec_ApplyNear.S := meets_tabZ spec_ApplyNear.Z (S := spec_ApplyNear.U) tabOk_all (AllMeets.cons spec_l1Good.meets (AllMeets.cons spec_l6Good.meets (AllMeets.cons spec_l1In.meets (AllMeets.cons spec_l1OwnT.meets (AllMeets.cons spec_l6Old.meets (AllMeets.cons spec_l16Near.meets (AllMeets.cons spec_l6New.meets AllMeets.nil))))))) (AllStill.cons (fun _ _ _ => rfl) (AllStill.cons (fun _ _ _ => rfl) (AllStill.cons (fun _ _ _ => rfl) (AllStill.cons (fun _ _ _ => rfl) (AllStill.cons (fun _ _ _ => rfl) (AllStill.cons (fun _ _ _ => rfl) (AllStill.cons (fun _ _ _ => rfl) AllStill.nil))))))) follows (by kernel_rfl : Try.prog.funcs[7]? = some Try.f7) (by kernel_rfl) (by kernel_rfl) (by kernel_rfl)
noncomputable def impl_in.C : Code := Try.f68.body.getD .skip
def impl_in.P : Par := (.cons (.val (.int .i64)) (.cons (.val (.int .i64)) (.cons (.val (.int .i64)) .nil)))
noncomputable def impl_in.U : SumTab := []
noncomputable def impl_in.E : Env := mkEnv TY AR impl_in.U
noncomputable def impl_in.T : Tab := fun k => look k []
def impl_in.R : List (Nat × Ty) := [(0, .bool)]
def impl_in.X : List ResultVar := [.tmp 6]
noncomputable def impl_in.f (n : Int) (low : Int) (high : Int) : Option (Bool) := Fn impl_in.E impl_in.T impl_in.C impl_in.P impl_in.R impl_in.X (n, low, high)
theorem impl_in.f_eq (n : Int) (low : Int) (high : Int) : impl_in.f n low high =
  (bif (decide (n ≥ low)) then (some (decide (n ≤ high))) else (some false)) := by kernel_rfl
noncomputable def impl_in.S : Abs.Sum := ⟨impl_in.P, impl_in.R, fun _ => Fn impl_in.E impl_in.T impl_in.C impl_in.P impl_in.R impl_in.X⟩
theorem impl_in.meets : Meets Try.prog 68 impl_in.S := meets_tab (S := impl_in.U) tabOk_all AllMeets.nil AllStill.nil follows (by kernel_rfl : Try.prog.funcs[68]? = some Try.f68) (by kernel_rfl) (by kernel_rfl) (by kernel_rfl)
noncomputable def impl_isLine.C : Code := Try.f90.body.getD .skip
def impl_isLine.P : Par := (.cons (.val .str) .nil)
noncomputable def impl_isLine.U : SumTab := [(68, [], impl_in.S), (106, [], strings_Contains.S)]
noncomputable def impl_isLine.E : Env := mkEnv TY AR impl_isLine.U
noncomputable def impl_isLine.T : Tab := fun k => look k []
def impl_isLine.R : List (Nat × Ty) := [(0, .bool)]
def impl_isLine.X : List ResultVar := [.tmp 2]
noncomputable def impl_isLine.f (line : ByteArray) : Option (Bool) := Fn impl_isLine.E impl_isLine.T impl_isLine.C impl_isLine.P impl_isLine.R impl_isLine.X line
theorem impl_isLine.f_eq (line : ByteArray) : impl_isLine.f line =
  ((impl_in.f (line.size : Int) 1 30).bind fun y1 =>
  bif y1 then (bif ((decide (0 ≤ (w64 ((line.size : Int) - 1)))) && (decide ((w64 ((line.size : Int) - 1)) ≤ (line.size : Int)))) then ((strings_Contains.f (line.extract 0 ((w64 ((line.size : Int) - 1))).toNat) (⟨#[10]⟩ : ByteArray)).bind fun y2 =>
    some (!y2)) else none) else (some false)) := by kernel_rfl
noncomputable def impl_isLine.S : Abs.Sum := ⟨impl_isLine.P, impl_isLine.R, fun _ => Fn impl_isLine.E impl_isLine.T impl_isLine.C impl_isLine.P impl_isLine.R impl_isLine.X⟩
theorem impl_isLine.meets : Meets Try.prog 90 impl_isLine.S := meets_tab (S := impl_isLine.U) tabOk_all (AllMeets.cons impl_in.meets (AllMeets.cons strings_Contains.meets AllMeets.nil)) (AllStill.cons (fun _ _ _ => rfl) (AllStill.cons (fun _ _ _ => rfl) AllStill.nil)) follows (by kernel_rfl : Try.prog.funcs[90]? = some Try.f90) (by kernel_rfl) (by kernel_rfl) (by kernel_rfl)
noncomputable def impl_areLines_1.C : Code := Try.f89.body.getD .skip
def impl_areLines_1.P : Par := (.cons (.val .str) .nil)
noncomputable def impl_areLines_1.U : SumTab := [(90, [], impl_isLine.S)]
noncomputable def impl_areLines_1.E : Env := mkEnv TY AR impl_areLines_1.U
noncomputable def impl_areLines_1.T : Tab := fun k => look k []
def impl_areLines_1.R : List (Nat × Ty) := [(0, .bool)]
def impl_areLines_1.X : List ResultVar := [.tmp 2]
noncomputable def impl_areLines_1.f (line : ByteArray) : Option (Bool) := Fn impl_areLines_1.E impl_areLines_1.T impl_areLines_1.C impl_areLines_1.P impl_areLines_1.R impl_areLines_1.X line
theorem impl_areLines_1.f_eq (line : ByteArray) : impl_areLines_1.f line =
  ((impl_isLine.f line).bind fun y1 =>
  some (!y1)) := by kernel_rfl
noncomputable def impl_areLines_1.S : Abs.Sum := ⟨impl_areLines_1.P, impl_areLines_1.R, fun _ => Fn impl_areLines_1.E impl_areLines_1.T impl_areLines_1.C impl_areLines_1.P impl_areLines_1.R impl_areLines_1.X⟩
theorem impl_areLines_1.meets : Meets Try.prog 89 impl_areLines_1.S := meets_tab (S := impl_areLines_1.U) tabOk_all (AllMeets.cons impl_isLine.meets AllMeets.nil) (AllStill.cons (fun _ _ _ => rfl) AllStill.nil) follows (by kernel_rfl : Try.prog.funcs[89]? = some Try.f89) (by kernel_rfl) (by kernel_rfl) (by kernel_rfl)
noncomputable def slices_IndexFunc_Lstring_string__impl_areLines_1.C : Code := Try.f105.body.getD .skip
def slices_IndexFunc_Lstring_string__impl_areLines_1.P : Par := (.cons (.val (.list .str)) (.cons (.fn 89 .nil) .nil))
noncomputable def slices_IndexFunc_Lstring_string__impl_areLines_1.U : SumTab := [(89, [], impl_areLines_1.S)]
noncomputable def slices_IndexFunc_Lstring_string__impl_areLines_1.E : Env := mkEnv TY AR slices_IndexFunc_Lstring_string__impl_areLines_1.U
def slices_IndexFunc_Lstring_string__impl_areLines_1.D4 : CutD := ⟨[0, 1, 7, 8], (.cons (.val (.list .str)) (.cons (.fn 89 .nil) (.cons (.val (.int .i64)) (.cons (.val (.int .i64)) .nil))))⟩
noncomputable def slices_IndexFunc_Lstring_string__impl_areLines_1.T : Tab := fun k => look k [(4, slices_IndexFunc_Lstring_string__impl_areLines_1.D4)]
def slices_IndexFunc_Lstring_string__impl_areLines_1.R : List (Nat × Ty) := [(0, .int .i64)]
def slices_IndexFunc_Lstring_string__impl_areLines_1.X : List ResultVar := [.tmp 4]
noncomputable def slices_IndexFunc_Lstring_string__impl_areLines_1.K := fin slices_IndexFunc_Lstring_string__impl_areLines_1.E ⟨slices_IndexFunc_Lstring_string__impl_areLines_1.P, slices_IndexFunc_Lstring_string__impl_areLines_1.R, fun _ _ => none⟩ slices_IndexFunc_Lstring_string__impl_areLines_1.X slices_IndexFunc_Lstring_string__impl_areLines_1.P.len 0
noncomputable def slices_IndexFunc_Lstring_string__impl_areLines_1.l4 (s : List ByteArray) (t7 : Int) (t8 : Int) : Option (Int) := fixP slices_IndexFunc_Lstring_string__impl_areLines_1.E slices_IndexFunc_Lstring_string__impl_areLines_1.T slices_IndexFunc_Lstring_string__impl_areLines_1.C slices_IndexFunc_Lstring_string__impl_areLines_1.K 4 slices_IndexFunc_Lstring_string__impl_areLines_1.D4 (s, t7, t8)
noncomputable def slices_IndexFunc_Lstring_string__impl_areLines_1.f (s : List ByteArray) : Option (Int) := Fn slices_IndexFunc_Lstring_string__impl_areLines_1.E slices_IndexFunc_Lstring_string__impl_areLines_1.T slices_IndexFunc_Lstring_string__impl_areLines_1.C slices_IndexFunc_Lstring_string__impl_areLines_1.P slices_IndexFunc_Lstring_string__impl_areLines_1.R slices_IndexFunc_Lstring_string__impl_areLines_1.X s
theorem slices_IndexFunc_Lstring_string__impl_areLines_1.l4_eq (s : List ByteArray) (t7 : Int) (t8 : Int) : slices_IndexFunc_Lstring_string__impl_areLines_1.l4 s t7 t8 =
  (bif (decide (t8 < t7)) then (bif ((decide (0 ≤ t8)) && (decide (t8 < (s.length : Int)))) then ((impl_areLines_1.f (s.getD (t8).toNat em)).bind fun y1 =>
    bif y1 then (some t8) else
    (slices_IndexFunc_Lstring_string__impl_areLines_1.l4 s t7 (w64 (t8 + 1)))) else none) else (some (-1))) :=
  (fixP_eq slices_IndexFunc_Lstring_string__impl_areLines_1.E slices_IndexFunc_Lstring_string__impl_areLines_1.T slices_IndexFunc_Lstring_string__impl_areLines_1.C slices_IndexFunc_Lstring_string__impl_areLines_1.K 4 slices_IndexFunc_Lstring_string__impl_areLines_1.D4 (s, t7, t8)).trans (by kernel_rfl)
theorem slices_IndexFunc_Lstring_string__impl_areLines_1.f_eq (s : List ByteArray) : slices_IndexFunc_Lstring_string__impl_areLines_1.f s =
  (slices_IndexFunc_Lstring_string__impl_areLines_1.l4 s (s.length : Int) 0) := by kernel_rfl
noncomputable def slices_IndexFunc_Lstring_string__impl_areLines_1.S : Abs.Sum := ⟨slices_IndexFunc_Lstring_string__impl_areLines_1.P, slices_IndexFunc_Lstring_string__impl_areLines_1.R, fun _ => Fn slices_IndexFunc_Lstring_string__impl_areLines_1.E slices_IndexFunc_Lstring_string__impl_areLines_1.T slices_IndexFunc_Lstring_string__impl_areLines_1.C slices_IndexFunc_Lstring_string__impl_areLines_1.P slices_IndexFunc_Lstring_string__impl_areLines_1.R slices_IndexFunc_Lstring_string__impl_areLines_1.X⟩
theorem slices_IndexFunc_Lstring_string__impl_areLines_1.meets : Meets Try.prog 105 slices_IndexFunc_Lstring_string__impl_areLines_1.S := meets_tab (S := slices_IndexFunc_Lstring_string__impl_areLines_1.U) tabOk_all (AllMeets.cons impl_areLines_1.meets AllMeets.nil) (AllStill.cons (fun _ _ _ => rfl) AllStill.nil) follows (by kernel_rfl : Try.prog.funcs[105]? = some Try.f105) (by kernel_rfl) (by kernel_rfl) (by kernel_rfl)
noncomputable def slices_ContainsFunc_Lstring_string__impl_areLines_1.C : Code := Try.f88.body.getD .skip
def slices_ContainsFunc_Lstring_string__impl_areLines_1.P : Par := (.cons (.val (.list .str)) (.cons (.fn 89 .nil) .nil))
noncomputable def slices_ContainsFunc_Lstring_string__impl_areLines_1.U : SumTab := [(105, [89], slices_IndexFunc_Lstring_string__impl_areLines_1.S)]
noncomputable def slices_ContainsFunc_Lstring_string__impl_areLines_1.E : Env := mkEnv TY AR slices_ContainsFunc_Lstring_string__impl_areLines_1.U
noncomputable def slices_ContainsFunc_Lstring_string__impl_areLines_1.T : Tab := fun k => look k []
def slices_ContainsFunc_Lstring_string__impl_areLines_1.R : List (Nat × Ty) := [(0, .bool)]
def slices_ContainsFunc_Lstring_string__impl_areLines_1.X : List ResultVar := [.tmp 4]
noncomputable def slices_ContainsFunc_Lstring_string__impl_areLines_1.f (s : List ByteArray) : Option (Bool) := Fn slices_ContainsFunc_Lstring_string__impl_areLines_1.E slices_ContainsFunc_Lstring_string__impl_areLines_1.T slices_ContainsFunc_Lstring_string__impl_areLines_1.C slices_ContainsFunc_Lstring_string__impl_areLines_1.P slices_ContainsFunc_Lstring_string__impl_areLines_1.R slices_ContainsFunc_Lstring_string__impl_areLines_1.X s
theorem slices_ContainsFunc_Lstring_string__impl_areLines_1.f_eq (s : List ByteArray) : slices_ContainsFunc_Lstring_string__impl_areLines_1.f s =
  ((slices_IndexFunc_Lstring_string__impl_areLines_1.f s).bind fun y1 =>
  some (decide (y1 ≥ 0))) := by kernel_rfl
noncomputable def slices_ContainsFunc_Lstring_string__impl_areLines_1.S : Abs.Sum := ⟨slices_ContainsFunc_Lstring_string__impl_areLines_1.P, slices_ContainsFunc_Lstring_string__impl_areLines_1.R, fun _ => Fn slices_ContainsFunc_Lstring_string__impl_areLines_1.E slices_ContainsFunc_Lstring_string__impl_areLines_1.T slices_ContainsFunc_Lstring_string__impl_areLines_1.C slices_ContainsFunc_Lstring_string__impl_areLines_1.P slices_ContainsFunc_Lstring_string__impl_areLines_1.R slices_ContainsFunc_Lstring_string__impl_areLines_1.X⟩
theorem slices_ContainsFunc_Lstring_string__impl_areLines_1.meets : Meets Try.prog 88 slices_ContainsFunc_Lstring_string__impl_areLines_1.S := meets_tab (S := slices_ContainsFunc_Lstring_string__impl_areLines_1.U) tabOk_all (AllMeets.cons slices_IndexFunc_Lstring_string__impl_areLines_1.meets AllMeets.nil) (AllStill.cons (fun _ _ _ => rfl) AllStill.nil) follows (by kernel_rfl : Try.prog.funcs[88]? = some Try.f88) (by kernel_rfl) (by kernel_rfl) (by kernel_rfl)
noncomputable def impl_areLines.C : Code := Try.f65.body.getD .skip
def impl_areLines.P : Par := (.cons (.val (.list .str)) .nil)
noncomputable def impl_areLines.U : SumTab := [(88, [89], slices_ContainsFunc_Lstring_string__impl_areLines_1.S)]
noncomputable def impl_areLines.E : Env := mkEnv TY AR impl_areLines.U
noncomputable def impl_areLines.T : Tab := fun k => look k []
def impl_areLines.R : List (Nat × Ty) := [(0, .bool)]
def impl_areLines.X : List ResultVar := [.tmp 2]
noncomputable def impl_areLines.f (l : List ByteArray) : Option (Bool) := Fn impl_areLines.E impl_areLines.T impl_areLines.C impl_areLines.P impl_areLines.R impl_areLines.X l
theorem impl_areLines.f_eq (l : List ByteArray) : impl_areLines.f l =
  (bif (decide ((l.length : Int) ≤ 40)) then ((slices_ContainsFunc_Lstring_string__impl_areLines_1.f l).bind fun y1 =>
   some (!y1)) else (some false)) := by kernel_rfl
noncomputable def impl_areLines.S : Abs.Sum := ⟨impl_areLines.P, impl_areLines.R, fun _ => Fn impl_areLines.E impl_areLines.T impl_areLines.C impl_areLines.P impl_areLines.R impl_areLines.X⟩
theorem impl_areLines.meets : Meets Try.prog 65 impl_areLines.S := meets_tab (S := impl_areLines.U) tabOk_all (AllMeets.cons slices_ContainsFunc_Lstring_string__impl_areLines_1.meets AllMeets.nil) (AllStill.cons (fun _ _ _ => rfl) AllStill.nil) follows (by kernel_rfl : Try.prog.funcs[65]? = some Try.f65) (by kernel_rfl) (by kernel_rfl) (by kernel_rfl)
noncomputable def internal_stringslite_HasSuffix.C : Code := Try.f107.body.getD .skip
def internal_stringslite_HasSuffix.P : Par := (.cons (.val .str) (.cons (.val .str) .nil))
noncomputable def internal_stringslite_HasSuffix.U : SumTab := []
noncomputable def internal_stringslite_HasSuffix.E : Env := mkEnv TY AR internal_stringslite_HasSuffix.U
noncomputable def internal_stringslite_HasSuffix.T : Tab := fun k => look k []
def internal_stringslite_HasSuffix.R : List (Nat × Ty) := [(0, .bool)]
def internal_stringslite_HasSuffix.X : List ResultVar := [.tmp 4]
noncomputable def internal_stringslite_HasSuffix.f (s : ByteArray) (suffix : ByteArray) : Option (Bool) := Fn internal_stringslite_HasSuffix.E internal_stringslite_HasSuffix.T internal_stringslite_HasSuffix.C internal_stringslite_HasSuffix.P internal_stringslite_HasSuffix.R internal_stringslite_HasSuffix.X (s, suffix)
theorem internal_stringslite_HasSuffix.f_eq (s : ByteArray) (suffix : ByteArray) : internal_stringslite_HasSuffix.f s suffix =
  (bif (decide ((s.size : Int) ≥ (suffix.size : Int))) then (bif ((decide (0 ≤ (w64 ((s.size : Int) - (suffix.size : Int))))) && (decide ((w64 ((s.size : Int) - (suffix.size : Int))) ≤ (s.size : Int)))) then (some ((s.extract ((w64 ((s.size : Int) - (suffix.size : Int)))).toNat s.size).toList == suffix.toList)) else none) else (some false)) := by kernel_rfl
noncomputable def internal_stringslite_HasSuffix.S : Abs.Sum := ⟨internal_stringslite_HasSuffix.P, internal_stringslite_HasSuffix.R, fun _ => Fn internal_stringslite_HasSuffix.E internal_stringslite_HasSuffix.T internal_stringslite_HasSuffix.C internal_stringslite_HasSuffix.P internal_stringslite_HasSuffix.R internal_stringslite_HasSuffix.X⟩
theorem internal_stringslite_HasSuffix.meets : Meets Try.prog 107 internal_stringslite_HasSuffix.S := meets_tab (S := internal_stringslite_HasSuffix.U) tabOk_all AllMeets.nil AllStill.nil follows (by kernel_rfl : Try.prog.funcs[107]? = some Try.f107) (by kernel_rfl) (by kernel_rfl) (by kernel_rfl)
noncomputable def strings_HasSuffix.C : Code := Try.f91.body.getD .skip
def strings_HasSuffix.P : Par := (.cons (.val .str) (.cons (.val .str) .nil))
noncomputable def strings_HasSuffix.U : SumTab := [(107, [], internal_stringslite_HasSuffix.S)]
noncomputable def strings_HasSuffix.E : Env := mkEnv TY AR strings_HasSuffix.U
noncomputable def strings_HasSuffix.T : Tab := fun k => look k []
def strings_HasSuffix.R : List (Nat × Ty) := [(0, .bool)]
def strings_HasSuffix.X : List ResultVar := [.tmp 4]
noncomputable def strings_HasSuffix.f (s : ByteArray) (suffix : ByteArray) : Option (Bool) := Fn strings_HasSuffix.E strings_HasSuffix.T strings_HasSuffix.C strings_HasSuffix.P strings_HasSuffix.R strings_HasSuffix.X (s, suffix)
theorem strings_HasSuffix.f_eq (s : ByteArray) (suffix : ByteArray) : strings_HasSuffix.f s suffix =
  ((internal_stringslite_HasSuffix.f s suffix).bind fun y1 =>
  some y1) := by kernel_rfl
noncomputable def strings_HasSuffix.S : Abs.Sum := ⟨strings_HasSuffix.P, strings_HasSuffix.R, fun _ => Fn strings_HasSuffix.E strings_HasSuffix.T strings_HasSuffix.C strings_HasSuffix.P strings_HasSuffix.R strings_HasSuffix.X⟩
theorem strings_HasSuffix.meets : Meets Try.prog 91 strings_HasSuffix.S := meets_tab (S := strings_HasSuffix.U) tabOk_all (AllMeets.cons internal_stringslite_HasSuffix.meets AllMeets.nil) (AllStill.cons (fun _ _ _ => rfl) AllStill.nil) follows (by kernel_rfl : Try.prog.funcs[91]? = some Try.f91) (by kernel_rfl) (by kernel_rfl) (by kernel_rfl)
noncomputable def impl_isEnded.C : Code := Try.f66.body.getD .skip
def impl_isEnded.P : Par := (.cons (.val .str) .nil)
noncomputable def impl_isEnded.U : SumTab := [(91, [], strings_HasSuffix.S)]
noncomputable def impl_isEnded.E : Env := mkEnv TY AR impl_isEnded.U
noncomputable def impl_isEnded.T : Tab := fun k => look k []
def impl_isEnded.R : List (Nat × Ty) := [(0, .bool)]
def impl_isEnded.X : List ResultVar := [.tmp 2]
noncomputable def impl_isEnded.f (line : ByteArray) : Option (Bool) := Fn impl_isEnded.E impl_isEnded.T impl_isEnded.C impl_isEnded.P impl_isEnded.R impl_isEnded.X line
theorem impl_isEnded.f_eq (line : ByteArray) : impl_isEnded.f line =
  ((strings_HasSuffix.f line (⟨#[10]⟩ : ByteArray)).bind fun y1 =>
  some y1) := by kernel_rfl
noncomputable def impl_isEnded.S : Abs.Sum := ⟨impl_isEnded.P, impl_isEnded.R, fun _ => Fn impl_isEnded.E impl_isEnded.T impl_isEnded.C impl_isEnded.P impl_isEnded.R impl_isEnded.X⟩
theorem impl_isEnded.meets : Meets Try.prog 66 impl_isEnded.S := meets_tab (S := impl_isEnded.U) tabOk_all (AllMeets.cons strings_HasSuffix.meets AllMeets.nil) (AllStill.cons (fun _ _ _ => rfl) AllStill.nil) follows (by kernel_rfl : Try.prog.funcs[66]? = some Try.f66) (by kernel_rfl) (by kernel_rfl) (by kernel_rfl)
noncomputable def impl_goodLines.C : Code := Try.f37.body.getD .skip
def impl_goodLines.P : Par := (.cons (.val (.list .str)) .nil)
noncomputable def impl_goodLines.U : SumTab := [(65, [], impl_areLines.S), (66, [], impl_isEnded.S)]
noncomputable def impl_goodLines.E : Env := mkEnv TY AR impl_goodLines.U
def impl_goodLines.D8 : CutD := ⟨[0, 8, 9, 10], (.cons (.val (.list .str)) (.cons (.val (.list .str)) (.cons (.val (.int .i64)) (.cons (.val (.int .i64)) .nil))))⟩
noncomputable def impl_goodLines.T : Tab := fun k => look k [(8, impl_goodLines.D8)]
def impl_goodLines.R : List (Nat × Ty) := [(0, .bool)]
def impl_goodLines.X : List ResultVar := [.tmp 2]
noncomputable def impl_goodLines.K := fin impl_goodLines.E ⟨impl_goodLines.P, impl_goodLines.R, fun _ _ => none⟩ impl_goodLines.X impl_goodLines.P.len 0
noncomputable def impl_goodLines.l8 (l : List ByteArray) (t8 : List ByteArray) (t9 : Int) (t10 : Int) : Option (Bool) := fixP impl_goodLines.E impl_goodLines.T impl_goodLines.C impl_goodLines.K 8 impl_goodLines.D8 (l, t8, t9, t10)
noncomputable def impl_goodLines.f (l : List ByteArray) : Option (Bool) := Fn impl_goodLines.E impl_goodLines.T impl_goodLines.C impl_goodLines.P impl_goodLines.R impl_goodLines.X l
theorem impl_goodLines.l8_eq (l : List ByteArray) (t8 : List ByteArray) (t9 : Int) (t10 : Int) : impl_goodLines.l8 l t8 t9 t10 =
  (bif (decide (t10 < t9)) then (bif ((decide (0 ≤ t10)) && (decide (t10 < (t8.length : Int)))) then (bif (decide (t10 < (w64 ((l.length : Int) - 1)))) then ((impl_isEnded.f (t8.getD (t10).toNat em)).bind fun y1 =>
     bif (!y1) then (some false) else
     (impl_goodLines.l8 l t8 t9 (w64 (t10 + 1)))) else
    (impl_goodLines.l8 l t8 t9 (w64 (t10 + 1)))) else none) else (some true)) :=
  (fixP_eq impl_goodLines.E impl_goodLines.T impl_goodLines.C impl_goodLines.K 8 impl_goodLines.D8 (l, t8, t9, t10)).trans (by kernel_rfl)
theorem impl_goodLines.f_eq (l : List ByteArray) : impl_goodLines.f l =
  ((impl_areLines.f l).bind fun y1 =>
  bif (!y1) then (some false) else
  (impl_goodLines.l8 l l (l.length : Int) 0)) := by kernel_rfl
noncomputable def impl_goodLines.S : Abs.Sum := ⟨impl_goodLines.P, impl_goodLines.R, fun _ => Fn impl_goodLines.E impl_goodLines.T impl_goodLines.C impl_goodLines.P impl_goodLines.R impl_goodLines.X⟩
theorem impl_goodLines.meets : Meets Try.prog 37 impl_goodLines.S := meets_tab (S := impl_goodLines.U) tabOk_all (AllMeets.cons impl_areLines.meets (AllMeets.cons impl_isEnded.meets AllMeets.nil)) (AllStill.cons (fun _ _ _ => rfl) (AllStill.cons (fun _ _ _ => rfl) AllStill.nil)) follows (by kernel_rfl : Try.prog.funcs[37]? = some Try.f37) (by kernel_rfl) (by kernel_rfl) (by kernel_rfl)
noncomputable def impl_sideOf.C : Code := Try.f69.body.getD .skip
def impl_sideOf.P : Par := (.cons (.val (.list (.pair (.int .i64) (.one .str)))) (.cons (.val (.int .i64)) .nil))
noncomputable def impl_sideOf.U : SumTab := []
noncomputable def impl_sideOf.E : Env := mkEnv TY AR impl_sideOf.U
def impl_sideOf.D6 : CutD := ⟨[1, 5, 9, 10, 11], (.cons (.val (.int .i64)) (.cons (.own 9 .str) (.cons (.val (.list (.pair (.int .i64) (.one .str)))) (.cons (.val (.int .i64)) (.cons (.val (.int .i64)) .nil)))))⟩
noncomputable def impl_sideOf.T : Tab := fun k => look k [(6, impl_sideOf.D6)]
def impl_sideOf.R : List (Nat × Ty) := [(9, .list .str)]
def impl_sideOf.X : List ResultVar := [.tmp 4]
noncomputable def impl_sideOf.K := fin impl_sideOf.E ⟨impl_sideOf.P, impl_sideOf.R, fun _ _ => none⟩ impl_sideOf.X impl_sideOf.P.len 0
noncomputable def impl_sideOf.l6 (not : Int) (out : List ByteArray) (t9 : List (Int × ByteArray)) (t10 : Int) (t11 : Int) : Option ((List ByteArray)) := fixP impl_sideOf.E impl_sideOf.T impl_sideOf.C impl_sideOf.K 6 impl_sideOf.D6 (not, out, t9, t10, t11)
noncomputable def impl_sideOf.f (rows : List (Int × ByteArray)) (not : Int) : Option ((List ByteArray)) := Fn impl_sideOf.E impl_sideOf.T impl_sideOf.C impl_sideOf.P impl_sideOf.R impl_sideOf.X (rows, not)
theorem impl_sideOf.l6_eq (not : Int) (out : List ByteArray) (t9 : List (Int × ByteArray)) (t10 : Int) (t11 : Int) : impl_sideOf.l6 not out t9 t10 t11 =
  (bif (decide (t11 < t10)) then (bif ((decide (0 ≤ t11)) && (decide (t11 < (t9.length : Int)))) then (bif (!(decide ((t9.getD (t11).toNat (0, em)).1 = not))) then (bif (decide ((out.length + [(t9.getD (t11).toNat (0, em)).2].length) ≤ room 16)) then (impl_sideOf.l6 not (out ++ [(t9.getD (t11).toNat (0, em)).2]) t9 t10 (w64 (t11 + 1))) else none) else
    (impl_sideOf.l6 not out t9 t10 (w64 (t11 + 1)))) else none) else (some out)) :=
  (fixP_eq impl_sideOf.E impl_sideOf.T impl_sideOf.C impl_sideOf.K 6 impl_sideOf.D6 (not, out, t9, t10, t11)).trans (by kernel_rfl)
theorem impl_sideOf.f_eq (rows : List (Int × ByteArray)) (not : Int) : impl_sideOf.f rows not =
  (impl_sideOf.l6 not ([] : List ByteArray) rows (rows.length : Int) 0) := by kernel_rfl
noncomputable def impl_sideOf.S : Abs.Sum := ⟨impl_sideOf.P, impl_sideOf.R, fun _ => Fn impl_sideOf.E impl_sideOf.T impl_sideOf.C impl_sideOf.P impl_sideOf.R impl_sideOf.X⟩
theorem impl_sideOf.meets : Meets Try.prog 69 impl_sideOf.S := meets_tab (S := impl_sideOf.U) tabOk_all AllMeets.nil AllStill.nil follows (by kernel_rfl : Try.prog.funcs[69]? = some Try.f69) (by kernel_rfl) (by kernel_rfl) (by kernel_rfl)
noncomputable def impl_Group_old.C : Code := Try.f41.body.getD .skip
def impl_Group_old.P : Par := (.cons (.val (.pair (.int .i64) (.pair (.int .i64) (.one (.list (.pair (.int .i64) (.one .str))))))) .nil)
noncomputable def impl_Group_old.U : SumTab := [(69, [], impl_sideOf.S)]
noncomputable def impl_Group_old.E : Env := mkEnv TY AR impl_Group_old.U
noncomputable def impl_Group_old.T : Tab := fun k => look k []
def impl_Group_old.R : List (Nat × Ty) := [(9, .list .str)]
def impl_Group_old.X : List ResultVar := [.tmp 2]
noncomputable def impl_Group_old.f (g : Int × Int × List (Int × ByteArray)) : Option ((List ByteArray)) := Fn impl_Group_old.E impl_Group_old.T impl_Group_old.C impl_Group_old.P impl_Group_old.R impl_Group_old.X g
theorem impl_Group_old.f_eq (g : Int × Int × List (Int × ByteArray)) : impl_Group_old.f g =
  ((impl_sideOf.f g.2.2 3).bind fun y1 =>
  some y1) := by kernel_rfl
noncomputable def impl_Group_old.S : Abs.Sum := ⟨impl_Group_old.P, impl_Group_old.R, fun _ => Fn impl_Group_old.E impl_Group_old.T impl_Group_old.C impl_Group_old.P impl_Group_old.R impl_Group_old.X⟩
theorem impl_Group_old.meets : Meets Try.prog 41 impl_Group_old.S := meets_tab (S := impl_Group_old.U) tabOk_all (AllMeets.cons impl_sideOf.meets AllMeets.nil) (AllStill.cons (fun _ _ _ => rfl) AllStill.nil) follows (by kernel_rfl : Try.prog.funcs[41]? = some Try.f41) (by kernel_rfl) (by kernel_rfl) (by kernel_rfl)
noncomputable def impl_Group_fresh.C : Code := Try.f42.body.getD .skip
def impl_Group_fresh.P : Par := (.cons (.val (.pair (.int .i64) (.pair (.int .i64) (.one (.list (.pair (.int .i64) (.one .str))))))) .nil)
noncomputable def impl_Group_fresh.U : SumTab := [(69, [], impl_sideOf.S)]
noncomputable def impl_Group_fresh.E : Env := mkEnv TY AR impl_Group_fresh.U
noncomputable def impl_Group_fresh.T : Tab := fun k => look k []
def impl_Group_fresh.R : List (Nat × Ty) := [(9, .list .str)]
def impl_Group_fresh.X : List ResultVar := [.tmp 2]
noncomputable def impl_Group_fresh.f (g : Int × Int × List (Int × ByteArray)) : Option ((List ByteArray)) := Fn impl_Group_fresh.E impl_Group_fresh.T impl_Group_fresh.C impl_Group_fresh.P impl_Group_fresh.R impl_Group_fresh.X g
theorem impl_Group_fresh.f_eq (g : Int × Int × List (Int × ByteArray)) : impl_Group_fresh.f g =
  ((impl_sideOf.f g.2.2 2).bind fun y1 =>
  some y1) := by kernel_rfl
noncomputable def impl_Group_fresh.S : Abs.Sum := ⟨impl_Group_fresh.P, impl_Group_fresh.R, fun _ => Fn impl_Group_fresh.E impl_Group_fresh.T impl_Group_fresh.C impl_Group_fresh.P impl_Group_fresh.R impl_Group_fresh.X⟩
theorem impl_Group_fresh.meets : Meets Try.prog 42 impl_Group_fresh.S := meets_tab (S := impl_Group_fresh.U) tabOk_all (AllMeets.cons impl_sideOf.meets AllMeets.nil) (AllStill.cons (fun _ _ _ => rfl) AllStill.nil) follows (by kernel_rfl : Try.prog.funcs[42]? = some Try.f42) (by kernel_rfl) (by kernel_rfl) (by kernel_rfl)
noncomputable def impl_goodGroup.C : Code := Try.f67.body.getD .skip
def impl_goodGroup.P : Par := (.cons (.val (.pair (.int .i64) (.pair (.int .i64) (.one (.list (.pair (.int .i64) (.one .str))))))) .nil)
noncomputable def impl_goodGroup.U : SumTab := [(68, [], impl_in.S), (90, [], impl_isLine.S), (41, [], impl_Group_old.S), (42, [], impl_Group_fresh.S), (37, [], impl_goodLines.S)]
noncomputable def impl_goodGroup.E : Env := mkEnv TY AR impl_goodGroup.U
def impl_goodGroup.D7 : CutD := ⟨[1], (.cons (.box 0 (.pair (.int .i64) (.pair (.int .i64) (.one (.list (.pair (.int .i64) (.one .str))))))) .nil)⟩
def impl_goodGroup.D10 : CutD := ⟨[1, 3, 26, 27, 28], (.cons (.box 0 (.pair (.int .i64) (.pair (.int .i64) (.one (.list (.pair (.int .i64) (.one .str))))))) (.cons (.val .bool) (.cons (.val (.list (.pair (.int .i64) (.one .str)))) (.cons (.val (.int .i64)) (.cons (.val (.int .i64)) .nil)))))⟩
def impl_goodGroup.D19 : CutD := ⟨[1, 3, 5, 26, 27, 28], (.cons (.box 0 (.pair (.int .i64) (.pair (.int .i64) (.one (.list (.pair (.int .i64) (.one .str))))))) (.cons (.val .bool) (.cons (.box 9 (.pair (.int .i64) (.one .str))) (.cons (.val (.list (.pair (.int .i64) (.one .str)))) (.cons (.val (.int .i64)) (.cons (.val (.int .i64)) .nil))))))⟩
noncomputable def impl_goodGroup.T : Tab := fun k => look k [(7, impl_goodGroup.D7), (10, impl_goodGroup.D10), (19, impl_goodGroup.D19)]
def impl_goodGroup.R : List (Nat × Ty) := [(0, .bool)]
def impl_goodGroup.X : List ResultVar := [.tmp 2]
noncomputable def impl_goodGroup.K := fin impl_goodGroup.E ⟨impl_goodGroup.P, impl_goodGroup.R, fun _ _ => none⟩ impl_goodGroup.X impl_goodGroup.P.len 0
noncomputable def impl_goodGroup.l7 (g : Int × Int × List (Int × ByteArray)) : Option (Bool) := fixP impl_goodGroup.E impl_goodGroup.T impl_goodGroup.C impl_goodGroup.K 7 impl_goodGroup.D7 g
noncomputable def impl_goodGroup.l10 (g : Int × Int × List (Int × ByteArray)) (changes : Bool) (t26 : List (Int × ByteArray)) (t27 : Int) (t28 : Int) : Option (Bool) := fixP impl_goodGroup.E impl_goodGroup.T impl_goodGroup.C impl_goodGroup.K 10 impl_goodGroup.D10 (g, changes, t26, t27, t28)
noncomputable def impl_goodGroup.l19 (g : Int × Int × List (Int × ByteArray)) (changes : Bool) (r : Int × ByteArray) (t26 : List (Int × ByteArray)) (t27 : Int) (t28 : Int) : Option (Bool) := fixP impl_goodGroup.E impl_goodGroup.T impl_goodGroup.C impl_goodGroup.K 19 impl_goodGroup.D19 (g, changes, r, t26, t27, t28)
noncomputable def impl_goodGroup.f (g : Int × Int × List (Int × ByteArray)) : Option (Bool) := Fn impl_goodGroup.E impl_goodGroup.T impl_goodGroup.C impl_goodGroup.P impl_goodGroup.R impl_goodGroup.X g
theorem impl_goodGroup.l7_eq (g : Int × Int × List (Int × ByteArray)) : impl_goodGroup.l7 g =
  (impl_goodGroup.l10 g false g.2.2 (g.2.2.length : Int) 0) :=
  (fixP_eq impl_goodGroup.E impl_goodGroup.T impl_goodGroup.C impl_goodGroup.K 7 impl_goodGroup.D7 g).trans (by kernel_rfl)
theorem impl_goodGroup.l10_eq (g : Int × Int × List (Int × ByteArray)) (changes : Bool) (t26 : List (Int × ByteArray)) (t27 : Int) (t28 : Int) : impl_goodGroup.l10 g changes t26 t27 t28 =
  (bif (decide (t28 < t27)) then (bif ((decide (0 ≤ t28)) && (decide (t28 < (t26.length : Int)))) then ((impl_in.f (t26.getD (t28).toNat (0, em)).1 1 3).bind fun y1 =>
    bif (!y1) then (some false) else
    ((impl_isLine.f (t26.getD (t28).toNat (0, em)).2).bind fun y2 =>
     bif (!y2) then (some false) else
     (bif (decide (t28 > 0)) then (bif (decide ((t26.getD (t28).toNat (0, em)).1 = 2)) then (bif ((decide (0 ≤ (w64 (t28 - 1)))) && (decide ((w64 (t28 - 1)) < (g.2.2.length : Int)))) then (bif (decide ((g.2.2.getD ((w64 (t28 - 1))).toNat (0, em)).1 = 3)) then (some false) else
         (impl_goodGroup.l19 g changes (t26.getD (t28).toNat (0, em)) t26 t27 t28)) else none) else
       (impl_goodGroup.l19 g changes (t26.getD (t28).toNat (0, em)) t26 t27 t28)) else
      (impl_goodGroup.l19 g changes (t26.getD (t28).toNat (0, em)) t26 t27 t28)))) else none) else
  ((impl_Group_old.f g).bind fun y1 =>
   (impl_Group_fresh.f g).bind fun y2 =>
   bif changes then ((impl_goodLines.f y1).bind fun y3 =>
    bif y3 then ((impl_goodLines.f y2).bind fun y4 =>
     bif y4 then (bif (decide ((w64 (g.1 + (y1.length : Int))) ≤ 1000)) then (some (decide ((w64 (g.2.1 + (y2.length : Int))) ≤ 1000))) else (some false)) else (some false)) else (some false)) else (some false))) :=
  (fixP_eq impl_goodGroup.E impl_goodGroup.T impl_goodGroup.C impl_goodGroup.K 10 impl_goodGroup.D10 (g, changes, t26, t27, t28)).trans (by kernel_rfl)
theorem impl_goodGroup.l19_eq (g : Int × Int × List (Int × ByteArray)) (changes : Bool) (r : Int × ByteArray) (t26 : List (Int × ByteArray)) (t27 : Int) (t28 : Int) : impl_goodGroup.l19 g changes r t26 t27 t28 =
  (bif changes then (impl_goodGroup.l10 g true t26 t27 (w64 (t28 + 1))) else
  (impl_goodGroup.l10 g (!(decide (r.1 = 1))) t26 t27 (w64 (t28 + 1)))) :=
  (fixP_eq impl_goodGroup.E impl_goodGroup.T impl_goodGroup.C impl_goodGroup.K 19 impl_goodGroup.D19 (g, changes, r, t26, t27, t28)).trans (by kernel_rfl)
theorem impl_goodGroup.f_eq (g : Int × Int × List (Int × ByteArray)) : impl_goodGroup.f g =
  ((impl_in.f g.1 0 999).bind fun y1 =>
  bif (!y1) then (some false) else
  ((impl_in.f g.2.1 0 999).bind fun y2 =>
   bif (!y2) then (some false) else
   ((impl_in.f (g.2.2.length : Int) 1 80).bind fun y3 =>
    bif (!y3) then (some false) else
    (impl_goodGroup.l7 g)))) := by kernel_rfl
noncomputable def impl_goodGroup.S : Abs.Sum := ⟨impl_goodGroup.P, impl_goodGroup.R, fun _ => Fn impl_goodGroup.E impl_goodGroup.T impl_goodGroup.C impl_goodGroup.P impl_goodGroup.R impl_goodGroup.X⟩
theorem impl_goodGroup.meets : Meets Try.prog 67 impl_goodGroup.S := meets_tab (S := impl_goodGroup.U) tabOk_all (AllMeets.cons impl_in.meets (AllMeets.cons impl_isLine.meets (AllMeets.cons impl_Group_old.meets (AllMeets.cons impl_Group_fresh.meets (AllMeets.cons impl_goodLines.meets AllMeets.nil))))) (AllStill.cons (fun _ _ _ => rfl) (AllStill.cons (fun _ _ _ => rfl) (AllStill.cons (fun _ _ _ => rfl) (AllStill.cons (fun _ _ _ => rfl) (AllStill.cons (fun _ _ _ => rfl) AllStill.nil))))) follows (by kernel_rfl : Try.prog.funcs[67]? = some Try.f67) (by kernel_rfl) (by kernel_rfl) (by kernel_rfl)
noncomputable def impl_goodGroups.C : Code := Try.f38.body.getD .skip
def impl_goodGroups.P : Par := (.cons (.val (.list (.pair (.int .i64) (.pair (.int .i64) (.one (.list (.pair (.int .i64) (.one .str)))))))) .nil)
noncomputable def impl_goodGroups.U : SumTab := [(67, [], impl_goodGroup.S), (41, [], impl_Group_old.S), (42, [], impl_Group_fresh.S)]
noncomputable def impl_goodGroups.E : Env := mkEnv TY AR impl_goodGroups.U
def impl_goodGroups.D8 : CutD := ⟨[0, 8, 9, 10], (.cons (.val (.list (.pair (.int .i64) (.pair (.int .i64) (.one (.list (.pair (.int .i64) (.one .str)))))))) (.cons (.val (.list (.pair (.int .i64) (.pair (.int .i64) (.one (.list (.pair (.int .i64) (.one .str)))))))) (.cons (.val (.int .i64)) (.cons (.val (.int .i64)) .nil))))⟩
noncomputable def impl_goodGroups.T : Tab := fun k => look k [(8, impl_goodGroups.D8)]
def impl_goodGroups.R : List (Nat × Ty) := [(0, .bool)]
def impl_goodGroups.X : List ResultVar := [.tmp 2]
noncomputable def impl_goodGroups.K := fin impl_goodGroups.E ⟨impl_goodGroups.P, impl_goodGroups.R, fun _ _ => none⟩ impl_goodGroups.X impl_goodGroups.P.len 0
noncomputable def impl_goodGroups.l8 (g : List (Int × Int × List (Int × ByteArray))) (t8 : List (Int × Int × List (Int × ByteArray))) (t9 : Int) (t10 : Int) : Option (Bool) := fixP impl_goodGroups.E impl_goodGroups.T impl_goodGroups.C impl_goodGroups.K 8 impl_goodGroups.D8 (g, t8, t9, t10)
noncomputable def impl_goodGroups.f (g : List (Int × Int × List (Int × ByteArray))) : Option (Bool) := Fn impl_goodGroups.E impl_goodGroups.T impl_goodGroups.C impl_goodGroups.P impl_goodGroups.R impl_goodGroups.X g
theorem impl_goodGroups.l8_eq (g : List (Int × Int × List (Int × ByteArray))) (t8 : List (Int × Int × List (Int × ByteArray))) (t9 : Int) (t10 : Int) : impl_goodGroups.l8 g t8 t9 t10 =
  (bif (decide (t10 < t9)) then (bif ((decide (0 ≤ t10)) && (decide (t10 < (t8.length : Int)))) then ((impl_goodGroup.f (t8.getD (t10).toNat (0, 0, ([] : List (Int × ByteArray))))).bind fun y1 =>
    bif (!y1) then (some false) else
    (bif (decide (t10 > 0)) then (bif ((decide (0 ≤ (w64 (t10 - 1)))) && (decide ((w64 (t10 - 1)) < (g.length : Int)))) then (bif ((decide (0 ≤ (w64 (t10 - 1)))) && (decide ((w64 (t10 - 1)) < (g.length : Int)))) then ((impl_Group_old.f (g.getD ((w64 (t10 - 1))).toNat (0, 0, ([] : List (Int × ByteArray))))).bind fun y2 =>
        bif (decide ((t8.getD (t10).toNat (0, 0, ([] : List (Int × ByteArray)))).1 < (w64 ((g.getD ((w64 (t10 - 1))).toNat (0, 0, ([] : List (Int × ByteArray)))).1 + (y2.length : Int))))) then (some false) else
        (bif ((decide (0 ≤ (w64 (t10 - 1)))) && (decide ((w64 (t10 - 1)) < (g.length : Int)))) then (bif ((decide (0 ≤ (w64 (t10 - 1)))) && (decide ((w64 (t10 - 1)) < (g.length : Int)))) then ((impl_Group_fresh.f (g.getD ((w64 (t10 - 1))).toNat (0, 0, ([] : List (Int × ByteArray))))).bind fun y3 =>
           bif (decide ((t8.getD (t10).toNat (0, 0, ([] : List (Int × ByteArray)))).2.1 < (w64 ((g.getD ((w64 (t10 - 1))).toNat (0, 0, ([] : List (Int × ByteArray)))).2.1 + (y3.length : Int))))) then (some false) else
           (impl_goodGroups.l8 g t8 t9 (w64 (t10 + 1)))) else none) else none)) else none) else none) else
     (impl_goodGroups.l8 g t8 t9 (w64 (t10 + 1))))) else none) else (some true)) :=
  (fixP_eq impl_goodGroups.E impl_goodGroups.T impl_goodGroups.C impl_goodGroups.K 8 impl_goodGroups.D8 (g, t8, t9, t10)).trans (by kernel_rfl)
theorem impl_goodGroups.f_eq (g : List (Int × Int × List (Int × ByteArray))) : impl_goodGroups.f g =
  (bif (decide ((g.length : Int) > 20)) then (some false) else
  (impl_goodGroups.l8 g g (g.length : Int) 0)) := by kernel_rfl
noncomputable def impl_goodGroups.S : Abs.Sum := ⟨impl_goodGroups.P, impl_goodGroups.R, fun _ => Fn impl_goodGroups.E impl_goodGroups.T impl_goodGroups.C impl_goodGroups.P impl_goodGroups.R impl_goodGroups.X⟩
theorem impl_goodGroups.meets : Meets Try.prog 38 impl_goodGroups.S := meets_tab (S := impl_goodGroups.U) tabOk_all (AllMeets.cons impl_goodGroup.meets (AllMeets.cons impl_Group_old.meets (AllMeets.cons impl_Group_fresh.meets AllMeets.nil))) (AllStill.cons (fun _ _ _ => rfl) (AllStill.cons (fun _ _ _ => rfl) (AllStill.cons (fun _ _ _ => rfl) AllStill.nil))) follows (by kernel_rfl : Try.prog.funcs[38]? = some Try.f38) (by kernel_rfl) (by kernel_rfl) (by kernel_rfl)
noncomputable def impl_isFar.C : Code := Try.f39.body.getD .skip
def impl_isFar.P : Par := (.cons (.val (.int .i64)) .nil)
noncomputable def impl_isFar.U : SumTab := [(68, [], impl_in.S)]
noncomputable def impl_isFar.E : Env := mkEnv TY AR impl_isFar.U
noncomputable def impl_isFar.T : Tab := fun k => look k []
def impl_isFar.R : List (Nat × Ty) := [(0, .bool)]
def impl_isFar.X : List ResultVar := [.tmp 2]
noncomputable def impl_isFar.f (far : Int) : Option (Bool) := Fn impl_isFar.E impl_isFar.T impl_isFar.C impl_isFar.P impl_isFar.R impl_isFar.X far
theorem impl_isFar.f_eq (far : Int) : impl_isFar.f far =
  ((impl_in.f far 0 40).bind fun y1 =>
  some y1) := by kernel_rfl
noncomputable def impl_isFar.S : Abs.Sum := ⟨impl_isFar.P, impl_isFar.R, fun _ => Fn impl_isFar.E impl_isFar.T impl_isFar.C impl_isFar.P impl_isFar.R impl_isFar.X⟩
theorem impl_isFar.meets : Meets Try.prog 39 impl_isFar.S := meets_tab (S := impl_isFar.U) tabOk_all (AllMeets.cons impl_in.meets AllMeets.nil) (AllStill.cons (fun _ _ _ => rfl) AllStill.nil) follows (by kernel_rfl : Try.prog.funcs[39]? = some Try.f39) (by kernel_rfl) (by kernel_rfl) (by kernel_rfl)
noncomputable def slices_Equal_Lstring_string.C : Code := Try.f92.body.getD .skip
def slices_Equal_Lstring_string.P : Par := (.cons (.val (.list .str)) (.cons (.val (.list .str)) .nil))
noncomputable def slices_Equal_Lstring_string.U : SumTab := []
noncomputable def slices_Equal_Lstring_string.E : Env := mkEnv TY AR slices_Equal_Lstring_string.U
def slices_Equal_Lstring_string.D8 : CutD := ⟨[0, 1, 12, 13], (.cons (.val (.list .str)) (.cons (.val (.list .str)) (.cons (.val (.int .i64)) (.cons (.val (.int .i64)) .nil))))⟩
noncomputable def slices_Equal_Lstring_string.T : Tab := fun k => look k [(8, slices_Equal_Lstring_string.D8)]
def slices_Equal_Lstring_string.R : List (Nat × Ty) := [(0, .bool)]
def slices_Equal_Lstring_string.X : List ResultVar := [.tmp 4]
noncomputable def slices_Equal_Lstring_string.K := fin slices_Equal_Lstring_string.E ⟨slices_Equal_Lstring_string.P, slices_Equal_Lstring_string.R, fun _ _ => none⟩ slices_Equal_Lstring_string.X slices_Equal_Lstring_string.P.len 0
noncomputable def slices_Equal_Lstring_string.l8 (s1 : List ByteArray) (s2 : List ByteArray) (t12 : Int) (t13 : Int) : Option (Bool) := fixP slices_Equal_Lstring_string.E slices_Equal_Lstring_string.T slices_Equal_Lstring_string.C slices_Equal_Lstring_string.K 8 slices_Equal_Lstring_string.D8 (s1, s2, t12, t13)
noncomputable def slices_Equal_Lstring_string.f (s1 : List ByteArray) (s2 : List ByteArray) : Option (Bool) := Fn slices_Equal_Lstring_string.E slices_Equal_Lstring_string.T slices_Equal_Lstring_string.C slices_Equal_Lstring_string.P slices_Equal_Lstring_string.R slices_Equal_Lstring_string.X (s1, s2)
theorem slices_Equal_Lstring_string.l8_eq (s1 : List ByteArray) (s2 : List ByteArray) (t12 : Int) (t13 : Int) : slices_Equal_Lstring_string.l8 s1 s2 t12 t13 =
  (bif (decide (t13 < t12)) then (bif ((decide (0 ≤ t13)) && (decide (t13 < (s1.length : Int)))) then (bif ((decide (0 ≤ t13)) && (decide (t13 < (s2.length : Int)))) then (bif (!((s1.getD (t13).toNat em).toList == (s2.getD (t13).toNat em).toList)) then (some false) else
     (slices_Equal_Lstring_string.l8 s1 s2 t12 (w64 (t13 + 1)))) else none) else none) else (some true)) :=
  (fixP_eq slices_Equal_Lstring_string.E slices_Equal_Lstring_string.T slices_Equal_Lstring_string.C slices_Equal_Lstring_string.K 8 slices_Equal_Lstring_string.D8 (s1, s2, t12, t13)).trans (by kernel_rfl)
theorem slices_Equal_Lstring_string.f_eq (s1 : List ByteArray) (s2 : List ByteArray) : slices_Equal_Lstring_string.f s1 s2 =
  (bif (!(decide ((s1.length : Int) = (s2.length : Int)))) then (some false) else
  (slices_Equal_Lstring_string.l8 s1 s2 (s1.length : Int) 0)) := by kernel_rfl
noncomputable def slices_Equal_Lstring_string.S : Abs.Sum := ⟨slices_Equal_Lstring_string.P, slices_Equal_Lstring_string.R, fun _ => Fn slices_Equal_Lstring_string.E slices_Equal_Lstring_string.T slices_Equal_Lstring_string.C slices_Equal_Lstring_string.P slices_Equal_Lstring_string.R slices_Equal_Lstring_string.X⟩
theorem slices_Equal_Lstring_string.meets : Meets Try.prog 92 slices_Equal_Lstring_string.S := meets_tab (S := slices_Equal_Lstring_string.U) tabOk_all AllMeets.nil AllStill.nil follows (by kernel_rfl : Try.prog.funcs[92]? = some Try.f92) (by kernel_rfl) (by kernel_rfl) (by kernel_rfl)
noncomputable def impl_stands.C : Code := Try.f70.body.getD .skip
def impl_stands.P : Par := (.cons (.val (.list .str)) (.cons (.val (.list .str)) (.cons (.val (.int .i64)) .nil)))
noncomputable def impl_stands.U : SumTab := [(68, [], impl_in.S), (92, [], slices_Equal_Lstring_string.S)]
noncomputable def impl_stands.E : Env := mkEnv TY AR impl_stands.U
noncomputable def impl_stands.T : Tab := fun k => look k []
def impl_stands.R : List (Nat × Ty) := [(0, .bool)]
def impl_stands.X : List ResultVar := [.tmp 6]
noncomputable def impl_stands.f (l : List ByteArray) (part : List ByteArray) (t2 : Int) : Option (Bool) := Fn impl_stands.E impl_stands.T impl_stands.C impl_stands.P impl_stands.R impl_stands.X (l, part, t2)
theorem impl_stands.f_eq (l : List ByteArray) (part : List ByteArray) (t2 : Int) : impl_stands.f l part t2 =
  ((impl_in.f t2 0 (w64 ((l.length : Int) - (part.length : Int)))).bind fun y1 =>
  bif y1 then (bif ((decide (0 ≤ t2)) && ((decide (t2 ≤ (w64 (t2 + (part.length : Int))))) && (decide ((w64 (t2 + (part.length : Int))) ≤ (l.length : Int))))) then ((slices_Equal_Lstring_string.f ((l.take ((w64 (t2 + (part.length : Int)))).toNat).drop (t2).toNat) part).bind fun y2 =>
    some y2) else none) else (some false)) := by kernel_rfl
noncomputable def impl_stands.S : Abs.Sum := ⟨impl_stands.P, impl_stands.R, fun _ => Fn impl_stands.E impl_stands.T impl_stands.C impl_stands.P impl_stands.R impl_stands.X⟩
theorem impl_stands.meets : Meets Try.prog 70 impl_stands.S := meets_tab (S := impl_stands.U) tabOk_all (AllMeets.cons impl_in.meets (AllMeets.cons slices_Equal_Lstring_string.meets AllMeets.nil)) (AllStill.cons (fun _ _ _ => rfl) (AllStill.cons (fun _ _ _ => rfl) AllStill.nil)) follows (by kernel_rfl : Try.prog.funcs[70]? = some Try.f70) (by kernel_rfl) (by kernel_rfl) (by kernel_rfl)
noncomputable def impl_near.C : Code := Try.f43.body.getD .skip
def impl_near.P : Par := (.cons (.val (.list .str)) (.cons (.val (.list .str)) (.cons (.val (.int .i64)) (.cons (.val (.int .i64)) .nil))))
noncomputable def impl_near.U : SumTab := [(70, [], impl_stands.S)]
noncomputable def impl_near.E : Env := mkEnv TY AR impl_near.U
def impl_near.D4 : CutD := ⟨[0, 1, 2, 11, 12], (.cons (.val (.list .str)) (.cons (.val (.list .str)) (.cons (.val (.int .i64)) (.cons (.val (.int .i64)) (.cons (.val (.int .i64)) .nil)))))⟩
noncomputable def impl_near.T : Tab := fun k => look k [(4, impl_near.D4)]
def impl_near.R : List (Nat × Ty) := [(0, .int .i64)]
def impl_near.X : List ResultVar := [.tmp 8]
noncomputable def impl_near.K := fin impl_near.E ⟨impl_near.P, impl_near.R, fun _ _ => none⟩ impl_near.X impl_near.P.len 0
noncomputable def impl_near.l4 (l : List ByteArray) (part : List ByteArray) (t2 : Int) (t11 : Int) (t12 : Int) : Option (Int) := fixP impl_near.E impl_near.T impl_near.C impl_near.K 4 impl_near.D4 (l, part, t2, t11, t12)
noncomputable def impl_near.f (l : List ByteArray) (part : List ByteArray) (t2 : Int) (far : Int) : Option (Int) := Fn impl_near.E impl_near.T impl_near.C impl_near.P impl_near.R impl_near.X (l, part, t2, far)
theorem impl_near.l4_eq (l : List ByteArray) (part : List ByteArray) (t2 : Int) (t11 : Int) (t12 : Int) : impl_near.l4 l part t2 t11 t12 =
  (bif (decide (t12 < t11)) then ((impl_stands.f l part (w64 (t2 - t12))).bind fun y1 =>
   bif y1 then (some (w64 (t2 - t12))) else
   ((impl_stands.f l part (w64 (t2 + t12))).bind fun y2 =>
    bif y2 then (some (w64 (t2 + t12))) else
    (impl_near.l4 l part t2 t11 (w64 (t12 + 1))))) else (some (-1))) :=
  (fixP_eq impl_near.E impl_near.T impl_near.C impl_near.K 4 impl_near.D4 (l, part, t2, t11, t12)).trans (by kernel_rfl)
theorem impl_near.f_eq (l : List ByteArray) (part : List ByteArray) (t2 : Int) (far : Int) : impl_near.f l part t2 far =
  (impl_near.l4 l part t2 (w64 (far + 1)) 0) := by kernel_rfl
noncomputable def impl_near.S : Abs.Sum := ⟨impl_near.P, impl_near.R, fun _ => Fn impl_near.E impl_near.T impl_near.C impl_near.P impl_near.R impl_near.X⟩
theorem impl_near.meets : Meets Try.prog 43 impl_near.S := meets_tab (S := impl_near.U) tabOk_all (AllMeets.cons impl_stands.meets AllMeets.nil) (AllStill.cons (fun _ _ _ => rfl) AllStill.nil) follows (by kernel_rfl : Try.prog.funcs[43]? = some Try.f43) (by kernel_rfl) (by kernel_rfl) (by kernel_rfl)
noncomputable def impl_ApplyNear.C : Code := Try.f10.body.getD .skip
def impl_ApplyNear.P : Par := (.cons (.val (.list .str)) (.cons (.val (.list (.pair (.int .i64) (.pair (.int .i64) (.one (.list (.pair (.int .i64) (.one .str)))))))) (.cons (.val (.int .i64)) .nil)))
noncomputable def impl_ApplyNear.U : SumTab := [(37, [], impl_goodLines.S), (38, [], impl_goodGroups.S), (39, [], impl_isFar.S), (40, [], slices_Clone_Lstring_string.S), (41, [], impl_Group_old.S), (42, [], impl_Group_fresh.S), (43, [], impl_near.S), (44, [], slices_Replace_Lstring_string.S)]
noncomputable def impl_ApplyNear.E : Env := mkEnv TY AR impl_ApplyNear.U
def impl_ApplyNear.D7 : CutD := ⟨[0, 1, 2], (.cons (.val (.list .str)) (.cons (.val (.list (.pair (.int .i64) (.pair (.int .i64) (.one (.list (.pair (.int .i64) (.one .str)))))))) (.cons (.val (.int .i64)) .nil)))⟩
def impl_ApplyNear.D10 : CutD := ⟨[2, 10, 11, 12, 34, 35, 36], (.cons (.val (.int .i64)) (.cons (.own 8 .str) (.cons (.own 9 (.int .i64)) (.cons (.val (.int .i64)) (.cons (.val (.list (.pair (.int .i64) (.pair (.int .i64) (.one (.list (.pair (.int .i64) (.one .str)))))))) (.cons (.val (.int .i64)) (.cons (.val (.int .i64)) .nil)))))))⟩
noncomputable def impl_ApplyNear.T : Tab := fun k => look k [(7, impl_ApplyNear.D7), (10, impl_ApplyNear.D10)]
def impl_ApplyNear.R : List (Nat × Ty) := [(9, .list .str), (9, .list (.int .i64)), (0, .int .i64), (0, .bool)]
def impl_ApplyNear.X : List ResultVar := [.tmp 6, .tmp 7, .tmp 8, .tmp 9]
noncomputable def impl_ApplyNear.K := fin impl_ApplyNear.E ⟨impl_ApplyNear.P, impl_ApplyNear.R, fun _ _ => none⟩ impl_ApplyNear.X impl_ApplyNear.P.len 0
noncomputable def impl_ApplyNear.l7 (l : List ByteArray) (g : List (Int × Int × List (Int × ByteArray))) (far : Int) : Option ((List ByteArray) × (List Int) × Int × Bool) := fixP impl_ApplyNear.E impl_ApplyNear.T impl_ApplyNear.C impl_ApplyNear.K 7 impl_ApplyNear.D7 (l, g, far)
noncomputable def impl_ApplyNear.l10 (far : Int) (out : List ByteArray) (places : List Int) (t12 : Int) (t34 : List (Int × Int × List (Int × ByteArray))) (t35 : Int) (t36 : Int) : Option ((List ByteArray) × (List Int) × Int × Bool) := fixP impl_ApplyNear.E impl_ApplyNear.T impl_ApplyNear.C impl_ApplyNear.K 10 impl_ApplyNear.D10 (far, out, places, t12, t34, t35, t36)
noncomputable def impl_ApplyNear.f (l : List ByteArray) (g : List (Int × Int × List (Int × ByteArray))) (far : Int) : Option ((List ByteArray) × (List Int) × Int × Bool) := Fn impl_ApplyNear.E impl_ApplyNear.T impl_ApplyNear.C impl_ApplyNear.P impl_ApplyNear.R impl_ApplyNear.X (l, g, far)
theorem impl_ApplyNear.l7_eq (l : List ByteArray) (g : List (Int × Int × List (Int × ByteArray))) (far : Int) : impl_ApplyNear.l7 l g far =
  ((slices_Clone_Lstring_string.f l).bind fun y1 =>
  impl_ApplyNear.l10 far y1 ([] : List Int) 0 g (g.length : Int) 0) :=
  (fixP_eq impl_ApplyNear.E impl_ApplyNear.T impl_ApplyNear.C impl_ApplyNear.K 7 impl_ApplyNear.D7 (l, g, far)).trans (by kernel_rfl)
theorem impl_ApplyNear.l10_eq (far : Int) (out : List ByteArray) (places : List Int) (t12 : Int) (t34 : List (Int × Int × List (Int × ByteArray))) (t35 : Int) (t36 : Int) : impl_ApplyNear.l10 far out places t12 t34 t35 t36 =
  (bif (decide (t36 < t35)) then (bif ((decide (0 ≤ t36)) && (decide (t36 < (t34.length : Int)))) then ((impl_Group_old.f (t34.getD (t36).toNat (0, 0, ([] : List (Int × ByteArray))))).bind fun y1 =>
    (impl_Group_fresh.f (t34.getD (t36).toNat (0, 0, ([] : List (Int × ByteArray))))).bind fun y2 =>
    (impl_near.f out y1 (w64 ((t34.getD (t36).toNat (0, 0, ([] : List (Int × ByteArray)))).1 + t12)) far).bind fun y3 =>
    bif (decide (y3 < 0)) then (some (([] : List ByteArray), ([] : List Int), 2, true)) else
    ((slices_Replace_Lstring_string.f out y3 (w64 (y3 + (y1.length : Int))) y2).bind fun y4 =>
     bif (decide ((places.length + [y3].length) ≤ room 8)) then (impl_ApplyNear.l10 far y4 (places ++ [y3]) (w64 ((w64 ((w64 (y3 - (t34.getD (t36).toNat (0, 0, ([] : List (Int × ByteArray)))).1)) + (y2.length : Int))) - (y1.length : Int))) t34 t35 (w64 (t36 + 1))) else none)) else none) else
  ((impl_goodLines.f out).bind fun y1 =>
   bif (!y1) then (some (([] : List ByteArray), ([] : List Int), 2, true)) else (some (out, places, 0, true)))) :=
  (fixP_eq impl_ApplyNear.E impl_ApplyNear.T impl_ApplyNear.C impl_ApplyNear.K 10 impl_ApplyNear.D10 (far, out, places, t12, t34, t35, t36)).trans (by kernel_rfl)
theorem impl_ApplyNear.f_eq (l : List ByteArray) (g : List (Int × Int × List (Int × ByteArray))) (far : Int) : impl_ApplyNear.f l g far =
  ((impl_goodLines.f l).bind fun y1 =>
  bif (!y1) then (some (([] : List ByteArray), ([] : List Int), 0, false)) else
  ((impl_goodGroups.f g).bind fun y2 =>
   bif (!y2) then (some (([] : List ByteArray), ([] : List Int), 0, false)) else
   ((impl_isFar.f far).bind fun y3 =>
    bif (!y3) then (some (([] : List ByteArray), ([] : List Int), 0, false)) else
    (impl_ApplyNear.l7 l g far)))) := by kernel_rfl
noncomputable def impl_ApplyNear.S : Abs.Sum := ⟨impl_ApplyNear.P, impl_ApplyNear.R, fun _ => Fn impl_ApplyNear.E impl_ApplyNear.T impl_ApplyNear.C impl_ApplyNear.P impl_ApplyNear.R impl_ApplyNear.X⟩
theorem impl_ApplyNear.meets : Meets Try.prog 10 impl_ApplyNear.S := meets_tab (S := impl_ApplyNear.U) tabOk_all (AllMeets.cons impl_goodLines.meets (AllMeets.cons impl_goodGroups.meets (AllMeets.cons impl_isFar.meets (AllMeets.cons slices_Clone_Lstring_string.meets (AllMeets.cons impl_Group_old.meets (AllMeets.cons impl_Group_fresh.meets (AllMeets.cons impl_near.meets (AllMeets.cons slices_Replace_Lstring_string.meets AllMeets.nil)))))))) (AllStill.cons (fun _ _ _ => rfl) (AllStill.cons (fun _ _ _ => rfl) (AllStill.cons (fun _ _ _ => rfl) (AllStill.cons (fun _ _ _ => rfl) (AllStill.cons (fun _ _ _ => rfl) (AllStill.cons (fun _ _ _ => rfl) (AllStill.cons (fun _ _ _ => rfl) (AllStill.cons (fun _ _ _ => rfl) AllStill.nil)))))))) follows (by kernel_rfl : Try.prog.funcs[10]? = some Try.f10) (by kernel_rfl) (by kernel_rfl) (by kernel_rfl)
noncomputable def laws_eqStringS.C : Code := Try.f11.body.getD .skip
def laws_eqStringS.P : Par := (.cons (.val (.list .str)) (.cons (.val (.list .str)) .nil))
noncomputable def laws_eqStringS.U : SumTab := []
noncomputable def laws_eqStringS.E : Env := mkEnv TY AR laws_eqStringS.U
def laws_eqStringS.D8 : CutD := ⟨[0, 1, 5], (.cons (.val (.list .str)) (.cons (.val (.list .str)) (.cons (.val (.int .i64)) .nil)))⟩
noncomputable def laws_eqStringS.T : Tab := fun k => look k [(8, laws_eqStringS.D8)]
def laws_eqStringS.R : List (Nat × Ty) := [(0, .bool)]
def laws_eqStringS.X : List ResultVar := [.tmp 4]
noncomputable def laws_eqStringS.K := fin laws_eqStringS.E ⟨laws_eqStringS.P, laws_eqStringS.R, fun _ _ => none⟩ laws_eqStringS.X laws_eqStringS.P.len 0
noncomputable def laws_eqStringS.l8 (a : List ByteArray) (b : List ByteArray) (i : Int) : Option (Bool) := fixP laws_eqStringS.E laws_eqStringS.T laws_eqStringS.C laws_eqStringS.K 8 laws_eqStringS.D8 (a, b, i)
noncomputable def laws_eqStringS.f (a : List ByteArray) (b : List ByteArray) : Option (Bool) := Fn laws_eqStringS.E laws_eqStringS.T laws_eqStringS.C laws_eqStringS.P laws_eqStringS.R laws_eqStringS.X (a, b)
theorem laws_eqStringS.l8_eq (a : List ByteArray) (b : List ByteArray) (i : Int) : laws_eqStringS.l8 a b i =
  (bif (decide (i < (a.length : Int))) then (bif ((decide (0 ≤ i)) && (decide (i < (a.length : Int)))) then (bif ((decide (0 ≤ i)) && (decide (i < (b.length : Int)))) then (bif (!((a.getD (i).toNat em).toList == (b.getD (i).toNat em).toList)) then (some false) else
     (laws_eqStringS.l8 a b (w64 (i + 1)))) else none) else none) else (some true)) :=
  (fixP_eq laws_eqStringS.E laws_eqStringS.T laws_eqStringS.C laws_eqStringS.K 8 laws_eqStringS.D8 (a, b, i)).trans (by kernel_rfl)
theorem laws_eqStringS.f_eq (a : List ByteArray) (b : List ByteArray) : laws_eqStringS.f a b =
  (bif (!(decide ((a.length : Int) = (b.length : Int)))) then (some false) else
  (laws_eqStringS.l8 a b 0)) := by kernel_rfl
noncomputable def laws_eqStringS.S : Abs.Sum := ⟨laws_eqStringS.P, laws_eqStringS.R, fun _ => Fn laws_eqStringS.E laws_eqStringS.T laws_eqStringS.C laws_eqStringS.P laws_eqStringS.R laws_eqStringS.X⟩
theorem laws_eqStringS.meets : Meets Try.prog 11 laws_eqStringS.S := meets_tab (S := laws_eqStringS.U) tabOk_all AllMeets.nil AllStill.nil follows (by kernel_rfl : Try.prog.funcs[11]? = some Try.f11) (by kernel_rfl) (by kernel_rfl) (by kernel_rfl)
noncomputable def laws_eqIntS.C : Code := Try.f12.body.getD .skip
def laws_eqIntS.P : Par := (.cons (.val (.list (.int .i64))) (.cons (.val (.list (.int .i64))) .nil))
noncomputable def laws_eqIntS.U : SumTab := []
noncomputable def laws_eqIntS.E : Env := mkEnv TY AR laws_eqIntS.U
def laws_eqIntS.D8 : CutD := ⟨[0, 1, 5], (.cons (.val (.list (.int .i64))) (.cons (.val (.list (.int .i64))) (.cons (.val (.int .i64)) .nil)))⟩
noncomputable def laws_eqIntS.T : Tab := fun k => look k [(8, laws_eqIntS.D8)]
def laws_eqIntS.R : List (Nat × Ty) := [(0, .bool)]
def laws_eqIntS.X : List ResultVar := [.tmp 4]
noncomputable def laws_eqIntS.K := fin laws_eqIntS.E ⟨laws_eqIntS.P, laws_eqIntS.R, fun _ _ => none⟩ laws_eqIntS.X laws_eqIntS.P.len 0
noncomputable def laws_eqIntS.l8 (a : List Int) (b : List Int) (i : Int) : Option (Bool) := fixP laws_eqIntS.E laws_eqIntS.T laws_eqIntS.C laws_eqIntS.K 8 laws_eqIntS.D8 (a, b, i)
noncomputable def laws_eqIntS.f (a : List Int) (b : List Int) : Option (Bool) := Fn laws_eqIntS.E laws_eqIntS.T laws_eqIntS.C laws_eqIntS.P laws_eqIntS.R laws_eqIntS.X (a, b)
theorem laws_eqIntS.l8_eq (a : List Int) (b : List Int) (i : Int) : laws_eqIntS.l8 a b i =
  (bif (decide (i < (a.length : Int))) then (bif ((decide (0 ≤ i)) && (decide (i < (a.length : Int)))) then (bif ((decide (0 ≤ i)) && (decide (i < (b.length : Int)))) then (bif (!(decide ((a.getD (i).toNat 0) = (b.getD (i).toNat 0)))) then (some false) else
     (laws_eqIntS.l8 a b (w64 (i + 1)))) else none) else none) else (some true)) :=
  (fixP_eq laws_eqIntS.E laws_eqIntS.T laws_eqIntS.C laws_eqIntS.K 8 laws_eqIntS.D8 (a, b, i)).trans (by kernel_rfl)
theorem laws_eqIntS.f_eq (a : List Int) (b : List Int) : laws_eqIntS.f a b =
  (bif (!(decide ((a.length : Int) = (b.length : Int)))) then (some false) else
  (laws_eqIntS.l8 a b 0)) := by kernel_rfl
noncomputable def laws_eqIntS.S : Abs.Sum := ⟨laws_eqIntS.P, laws_eqIntS.R, fun _ => Fn laws_eqIntS.E laws_eqIntS.T laws_eqIntS.C laws_eqIntS.P laws_eqIntS.R laws_eqIntS.X⟩
theorem laws_eqIntS.meets : Meets Try.prog 12 laws_eqIntS.S := meets_tab (S := laws_eqIntS.U) tabOk_all AllMeets.nil AllStill.nil follows (by kernel_rfl : Try.prog.funcs[12]? = some Try.f12) (by kernel_rfl) (by kernel_rfl) (by kernel_rfl)
noncomputable def laws_eqRow.C : Code := Try.f94.body.getD .skip
def laws_eqRow.P : Par := (.cons (.val (.pair (.int .i64) (.one .str))) (.cons (.val (.pair (.int .i64) (.one .str))) .nil))
noncomputable def laws_eqRow.U : SumTab := []
noncomputable def laws_eqRow.E : Env := mkEnv TY AR laws_eqRow.U
noncomputable def laws_eqRow.T : Tab := fun k => look k []
def laws_eqRow.R : List (Nat × Ty) := [(0, .bool)]
def laws_eqRow.X : List ResultVar := [.tmp 4]
noncomputable def laws_eqRow.f (a : Int × ByteArray) (b : Int × ByteArray) : Option (Bool) := Fn laws_eqRow.E laws_eqRow.T laws_eqRow.C laws_eqRow.P laws_eqRow.R laws_eqRow.X (a, b)
theorem laws_eqRow.f_eq (a : Int × ByteArray) (b : Int × ByteArray) : laws_eqRow.f a b =
  (bif (!(decide (a.1 = b.1))) then (some false) else
  (bif (!(a.2.toList == b.2.toList)) then (some false) else (some true))) := by kernel_rfl
noncomputable def laws_eqRow.S : Abs.Sum := ⟨laws_eqRow.P, laws_eqRow.R, fun _ => Fn laws_eqRow.E laws_eqRow.T laws_eqRow.C laws_eqRow.P laws_eqRow.R laws_eqRow.X⟩
theorem laws_eqRow.meets : Meets Try.prog 94 laws_eqRow.S := meets_tab (S := laws_eqRow.U) tabOk_all AllMeets.nil AllStill.nil follows (by kernel_rfl : Try.prog.funcs[94]? = some Try.f94) (by kernel_rfl) (by kernel_rfl) (by kernel_rfl)
noncomputable def laws_eqRowS.C : Code := Try.f75.body.getD .skip
def laws_eqRowS.P : Par := (.cons (.val (.list (.pair (.int .i64) (.one .str)))) (.cons (.val (.list (.pair (.int .i64) (.one .str)))) .nil))
noncomputable def laws_eqRowS.U : SumTab := [(94, [], laws_eqRow.S)]
noncomputable def laws_eqRowS.E : Env := mkEnv TY AR laws_eqRowS.U
def laws_eqRowS.D8 : CutD := ⟨[0, 1, 5], (.cons (.val (.list (.pair (.int .i64) (.one .str)))) (.cons (.val (.list (.pair (.int .i64) (.one .str)))) (.cons (.val (.int .i64)) .nil)))⟩
noncomputable def laws_eqRowS.T : Tab := fun k => look k [(8, laws_eqRowS.D8)]
def laws_eqRowS.R : List (Nat × Ty) := [(0, .bool)]
def laws_eqRowS.X : List ResultVar := [.tmp 4]
noncomputable def laws_eqRowS.K := fin laws_eqRowS.E ⟨laws_eqRowS.P, laws_eqRowS.R, fun _ _ => none⟩ laws_eqRowS.X laws_eqRowS.P.len 0
noncomputable def laws_eqRowS.l8 (a : List (Int × ByteArray)) (b : List (Int × ByteArray)) (i : Int) : Option (Bool) := fixP laws_eqRowS.E laws_eqRowS.T laws_eqRowS.C laws_eqRowS.K 8 laws_eqRowS.D8 (a, b, i)
noncomputable def laws_eqRowS.f (a : List (Int × ByteArray)) (b : List (Int × ByteArray)) : Option (Bool) := Fn laws_eqRowS.E laws_eqRowS.T laws_eqRowS.C laws_eqRowS.P laws_eqRowS.R laws_eqRowS.X (a, b)
theorem laws_eqRowS.l8_eq (a : List (Int × ByteArray)) (b : List (Int × ByteArray)) (i : Int) : laws_eqRowS.l8 a b i =
  (bif (decide (i < (a.length : Int))) then (bif ((decide (0 ≤ i)) && (decide (i < (a.length : Int)))) then (bif ((decide (0 ≤ i)) && (decide (i < (b.length : Int)))) then ((laws_eqRow.f (a.getD (i).toNat (0, em)) (b.getD (i).toNat (0, em))).bind fun y1 =>
     bif (!y1) then (some false) else
     (laws_eqRowS.l8 a b (w64 (i + 1)))) else none) else none) else (some true)) :=
  (fixP_eq laws_eqRowS.E laws_eqRowS.T laws_eqRowS.C laws_eqRowS.K 8 laws_eqRowS.D8 (a, b, i)).trans (by kernel_rfl)
theorem laws_eqRowS.f_eq (a : List (Int × ByteArray)) (b : List (Int × ByteArray)) : laws_eqRowS.f a b =
  (bif (!(decide ((a.length : Int) = (b.length : Int)))) then (some false) else
  (laws_eqRowS.l8 a b 0)) := by kernel_rfl
noncomputable def laws_eqRowS.S : Abs.Sum := ⟨laws_eqRowS.P, laws_eqRowS.R, fun _ => Fn laws_eqRowS.E laws_eqRowS.T laws_eqRowS.C laws_eqRowS.P laws_eqRowS.R laws_eqRowS.X⟩
theorem laws_eqRowS.meets : Meets Try.prog 75 laws_eqRowS.S := meets_tab (S := laws_eqRowS.U) tabOk_all (AllMeets.cons laws_eqRow.meets AllMeets.nil) (AllStill.cons (fun _ _ _ => rfl) AllStill.nil) follows (by kernel_rfl : Try.prog.funcs[75]? = some Try.f75) (by kernel_rfl) (by kernel_rfl) (by kernel_rfl)
noncomputable def laws_eqGroup.C : Code := Try.f45.body.getD .skip
def laws_eqGroup.P : Par := (.cons (.val (.pair (.int .i64) (.pair (.int .i64) (.one (.list (.pair (.int .i64) (.one .str))))))) (.cons (.val (.pair (.int .i64) (.pair (.int .i64) (.one (.list (.pair (.int .i64) (.one .str))))))) .nil))
noncomputable def laws_eqGroup.U : SumTab := [(75, [], laws_eqRowS.S)]
noncomputable def laws_eqGroup.E : Env := mkEnv TY AR laws_eqGroup.U
noncomputable def laws_eqGroup.T : Tab := fun k => look k []
def laws_eqGroup.R : List (Nat × Ty) := [(0, .bool)]
def laws_eqGroup.X : List ResultVar := [.tmp 4]
noncomputable def laws_eqGroup.f (a : Int × Int × List (Int × ByteArray)) (b : Int × Int × List (Int × ByteArray)) : Option (Bool) := Fn laws_eqGroup.E laws_eqGroup.T laws_eqGroup.C laws_eqGroup.P laws_eqGroup.R laws_eqGroup.X (a, b)
theorem laws_eqGroup.f_eq (a : Int × Int × List (Int × ByteArray)) (b : Int × Int × List (Int × ByteArray)) : laws_eqGroup.f a b =
  (bif (!(decide (a.1 = b.1))) then (some false) else
  (bif (!(decide (a.2.1 = b.2.1))) then (some false) else
   ((laws_eqRowS.f a.2.2 b.2.2).bind fun y1 =>
    bif (!y1) then (some false) else (some true)))) := by kernel_rfl
noncomputable def laws_eqGroup.S : Abs.Sum := ⟨laws_eqGroup.P, laws_eqGroup.R, fun _ => Fn laws_eqGroup.E laws_eqGroup.T laws_eqGroup.C laws_eqGroup.P laws_eqGroup.R laws_eqGroup.X⟩
theorem laws_eqGroup.meets : Meets Try.prog 45 laws_eqGroup.S := meets_tab (S := laws_eqGroup.U) tabOk_all (AllMeets.cons laws_eqRowS.meets AllMeets.nil) (AllStill.cons (fun _ _ _ => rfl) AllStill.nil) follows (by kernel_rfl : Try.prog.funcs[45]? = some Try.f45) (by kernel_rfl) (by kernel_rfl) (by kernel_rfl)
noncomputable def laws_eqGroupS.C : Code := Try.f13.body.getD .skip
def laws_eqGroupS.P : Par := (.cons (.val (.list (.pair (.int .i64) (.pair (.int .i64) (.one (.list (.pair (.int .i64) (.one .str)))))))) (.cons (.val (.list (.pair (.int .i64) (.pair (.int .i64) (.one (.list (.pair (.int .i64) (.one .str)))))))) .nil))
noncomputable def laws_eqGroupS.U : SumTab := [(45, [], laws_eqGroup.S)]
noncomputable def laws_eqGroupS.E : Env := mkEnv TY AR laws_eqGroupS.U
def laws_eqGroupS.D8 : CutD := ⟨[0, 1, 5], (.cons (.val (.list (.pair (.int .i64) (.pair (.int .i64) (.one (.list (.pair (.int .i64) (.one .str)))))))) (.cons (.val (.list (.pair (.int .i64) (.pair (.int .i64) (.one (.list (.pair (.int .i64) (.one .str)))))))) (.cons (.val (.int .i64)) .nil)))⟩
noncomputable def laws_eqGroupS.T : Tab := fun k => look k [(8, laws_eqGroupS.D8)]
def laws_eqGroupS.R : List (Nat × Ty) := [(0, .bool)]
def laws_eqGroupS.X : List ResultVar := [.tmp 4]
noncomputable def laws_eqGroupS.K := fin laws_eqGroupS.E ⟨laws_eqGroupS.P, laws_eqGroupS.R, fun _ _ => none⟩ laws_eqGroupS.X laws_eqGroupS.P.len 0
noncomputable def laws_eqGroupS.l8 (a : List (Int × Int × List (Int × ByteArray))) (b : List (Int × Int × List (Int × ByteArray))) (i : Int) : Option (Bool) := fixP laws_eqGroupS.E laws_eqGroupS.T laws_eqGroupS.C laws_eqGroupS.K 8 laws_eqGroupS.D8 (a, b, i)
noncomputable def laws_eqGroupS.f (a : List (Int × Int × List (Int × ByteArray))) (b : List (Int × Int × List (Int × ByteArray))) : Option (Bool) := Fn laws_eqGroupS.E laws_eqGroupS.T laws_eqGroupS.C laws_eqGroupS.P laws_eqGroupS.R laws_eqGroupS.X (a, b)
theorem laws_eqGroupS.l8_eq (a : List (Int × Int × List (Int × ByteArray))) (b : List (Int × Int × List (Int × ByteArray))) (i : Int) : laws_eqGroupS.l8 a b i =
  (bif (decide (i < (a.length : Int))) then (bif ((decide (0 ≤ i)) && (decide (i < (a.length : Int)))) then (bif ((decide (0 ≤ i)) && (decide (i < (b.length : Int)))) then ((laws_eqGroup.f (a.getD (i).toNat (0, 0, ([] : List (Int × ByteArray)))) (b.getD (i).toNat (0, 0, ([] : List (Int × ByteArray))))).bind fun y1 =>
     bif (!y1) then (some false) else
     (laws_eqGroupS.l8 a b (w64 (i + 1)))) else none) else none) else (some true)) :=
  (fixP_eq laws_eqGroupS.E laws_eqGroupS.T laws_eqGroupS.C laws_eqGroupS.K 8 laws_eqGroupS.D8 (a, b, i)).trans (by kernel_rfl)
theorem laws_eqGroupS.f_eq (a : List (Int × Int × List (Int × ByteArray))) (b : List (Int × Int × List (Int × ByteArray))) : laws_eqGroupS.f a b =
  (bif (!(decide ((a.length : Int) = (b.length : Int)))) then (some false) else
  (laws_eqGroupS.l8 a b 0)) := by kernel_rfl
noncomputable def laws_eqGroupS.S : Abs.Sum := ⟨laws_eqGroupS.P, laws_eqGroupS.R, fun _ => Fn laws_eqGroupS.E laws_eqGroupS.T laws_eqGroupS.C laws_eqGroupS.P laws_eqGroupS.R laws_eqGroupS.X⟩
theorem laws_eqGroupS.meets : Meets Try.prog 13 laws_eqGroupS.S := meets_tab (S := laws_eqGroupS.U) tabOk_all (AllMeets.cons laws_eqGroup.meets AllMeets.nil) (AllStill.cons (fun _ _ _ => rfl) AllStill.nil) follows (by kernel_rfl : Try.prog.funcs[13]? = some Try.f13) (by kernel_rfl) (by kernel_rfl) (by kernel_rfl)
noncomputable def laws_markText.C : Code := Try.f46.body.getD .skip
def laws_markText.P : Par := (.cons (.val (.int .i64)) .nil)
noncomputable def laws_markText.U : SumTab := []
noncomputable def laws_markText.E : Env := mkEnv TY AR laws_markText.U
def laws_markText.D8 : CutD := ⟨[0, 3], (.cons (.val (.int .i64)) (.cons (.val .str) .nil))⟩
noncomputable def laws_markText.T : Tab := fun k => look k [(8, laws_markText.D8)]
def laws_markText.R : List (Nat × Ty) := [(0, .str)]
def laws_markText.X : List ResultVar := [.tmp 2]
noncomputable def laws_markText.K := fin laws_markText.E ⟨laws_markText.P, laws_markText.R, fun _ _ => none⟩ laws_markText.X laws_markText.P.len 0
noncomputable def laws_markText.l8 (k : Int) (out : ByteArray) : Option (ByteArray) := fixP laws_markText.E laws_markText.T laws_markText.C laws_markText.K 8 laws_markText.D8 (k, out)
noncomputable def laws_markText.f (k : Int) : Option (ByteArray) := Fn laws_markText.E laws_markText.T laws_markText.C laws_markText.P laws_markText.R laws_markText.X k
theorem laws_markText.l8_eq (k : Int) (out : ByteArray) : laws_markText.l8 k out =
  (bif (decide (k > 0)) then (bif (decide (((strOf [(IntKind.wrap .u8 (w64 (48 + (k.tmod 10))))]).size + out.size) ≤ 9223372036854775807)) then (laws_markText.l8 (w64 (k.tdiv 10)) ((strOf [(IntKind.wrap .u8 (w64 (48 + (k.tmod 10))))]) ++ out)) else none) else
  (bif (decide (((⟨#[109]⟩ : ByteArray).size + out.size) ≤ 9223372036854775807)) then (some ((⟨#[109]⟩ : ByteArray) ++ out)) else none)) :=
  (fixP_eq laws_markText.E laws_markText.T laws_markText.C laws_markText.K 8 laws_markText.D8 (k, out)).trans (by kernel_rfl)
theorem laws_markText.f_eq (k : Int) : laws_markText.f k =
  (bif (decide (k ≤ 0)) then (some (⟨#[109, 48]⟩ : ByteArray)) else
  (laws_markText.l8 k em)) := by kernel_rfl
noncomputable def laws_markText.S : Abs.Sum := ⟨laws_markText.P, laws_markText.R, fun _ => Fn laws_markText.E laws_markText.T laws_markText.C laws_markText.P laws_markText.R laws_markText.X⟩
theorem laws_markText.meets : Meets Try.prog 46 laws_markText.S := meets_tab (S := laws_markText.U) tabOk_all AllMeets.nil AllStill.nil follows (by kernel_rfl : Try.prog.funcs[46]? = some Try.f46) (by kernel_rfl) (by kernel_rfl) (by kernel_rfl)
noncomputable def laws_markStringS.C : Code := Try.f14.body.getD .skip
def laws_markStringS.P : Par := (.cons (.io 9 .str) (.cons (.val (.int .i64)) .nil))
noncomputable def laws_markStringS.U : SumTab := [(46, [], laws_markText.S)]
noncomputable def laws_markStringS.E : Env := mkEnv TY AR laws_markStringS.U
def laws_markStringS.D4 : CutD := ⟨[0, 1, 5], (.cons (.own 9 .str) (.cons (.val (.int .i64)) (.cons (.val (.int .i64)) .nil)))⟩
noncomputable def laws_markStringS.T : Tab := fun k => look k [(4, laws_markStringS.D4)]
def laws_markStringS.R : List (Nat × Ty) := [(0, .int .i64)]
def laws_markStringS.X : List ResultVar := [.tmp 4]
noncomputable def laws_markStringS.K := fin laws_markStringS.E ⟨laws_markStringS.P, laws_markStringS.R, fun _ _ => none⟩ laws_markStringS.X laws_markStringS.P.len 0
noncomputable def laws_markStringS.l4 (a : List ByteArray) (k : Int) (i : Int) : Option (Int × (List ByteArray)) := fixP laws_markStringS.E laws_markStringS.T laws_markStringS.C laws_markStringS.K 4 laws_markStringS.D4 (a, k, i)
noncomputable def laws_markStringS.f (a : List ByteArray) (k : Int) : Option (Int × (List ByteArray)) := Fn laws_markStringS.E laws_markStringS.T laws_markStringS.C laws_markStringS.P laws_markStringS.R laws_markStringS.X (a, k)
theorem laws_markStringS.l4_eq (a : List ByteArray) (k : Int) (i : Int) : laws_markStringS.l4 a k i =
  (bif (decide (i < (a.length : Int))) then ((laws_markText.f k).bind fun y1 =>
   bif ((decide (0 ≤ i)) && (decide (i < (a.length : Int)))) then (laws_markStringS.l4 (a.set (i).toNat y1) (w64 (k + 1)) (w64 (i + 1))) else none) else (some (k, a))) :=
  (fixP_eq laws_markStringS.E laws_markStringS.T laws_markStringS.C laws_markStringS.K 4 laws_markStringS.D4 (a, k, i)).trans (by kernel_rfl)
theorem laws_markStringS.f_eq (a : List ByteArray) (k : Int) : laws_markStringS.f a k =
  (laws_markStringS.l4 a k 0) := by kernel_rfl
noncomputable def laws_markStringS.S : Abs.Sum := ⟨laws_markStringS.P, laws_markStringS.R, fun _ => Fn laws_markStringS.E laws_markStringS.T laws_markStringS.C laws_markStringS.P laws_markStringS.R laws_markStringS.X⟩
theorem laws_markStringS.meets : Meets Try.prog 14 laws_markStringS.S := meets_tab (S := laws_markStringS.U) tabOk_all (AllMeets.cons laws_markText.meets AllMeets.nil) (AllStill.cons (fun _ _ _ => rfl) AllStill.nil) follows (by kernel_rfl : Try.prog.funcs[14]? = some Try.f14) (by kernel_rfl) (by kernel_rfl) (by kernel_rfl)
noncomputable def laws_markRowS.C : Code := Try.f47.body.getD .skip
def laws_markRowS.P : Par := (.cons (.io 9 (.pair (.int .i64) (.one .str))) (.cons (.val (.int .i64)) .nil))
noncomputable def laws_markRowS.U : SumTab := [(46, [], laws_markText.S)]
noncomputable def laws_markRowS.E : Env := mkEnv TY AR laws_markRowS.U
def laws_markRowS.D4 : CutD := ⟨[0, 1, 5], (.cons (.own 9 (.pair (.int .i64) (.one .str))) (.cons (.val (.int .i64)) (.cons (.val (.int .i64)) .nil)))⟩
noncomputable def laws_markRowS.T : Tab := fun k => look k [(4, laws_markRowS.D4)]
def laws_markRowS.R : List (Nat × Ty) := [(0, .int .i64)]
def laws_markRowS.X : List ResultVar := [.tmp 4]
noncomputable def laws_markRowS.K := fin laws_markRowS.E ⟨laws_markRowS.P, laws_markRowS.R, fun _ _ => none⟩ laws_markRowS.X laws_markRowS.P.len 0
noncomputable def laws_markRowS.l4 (a : List (Int × ByteArray)) (k : Int) (i : Int) : Option (Int × (List (Int × ByteArray))) := fixP laws_markRowS.E laws_markRowS.T laws_markRowS.C laws_markRowS.K 4 laws_markRowS.D4 (a, k, i)
noncomputable def laws_markRowS.f (a : List (Int × ByteArray)) (k : Int) : Option (Int × (List (Int × ByteArray))) := Fn laws_markRowS.E laws_markRowS.T laws_markRowS.C laws_markRowS.P laws_markRowS.R laws_markRowS.X (a, k)
theorem laws_markRowS.l4_eq (a : List (Int × ByteArray)) (k : Int) (i : Int) : laws_markRowS.l4 a k i =
  (bif (decide (i < (a.length : Int))) then (bif ((decide (0 ≤ i)) && (decide (i < (a.length : Int)))) then ((laws_markText.f (w64 (k + 1))).bind fun y1 =>
    bif ((decide (0 ≤ i)) && (decide (i < ((a.set (i).toNat (k, (a.getD (i).toNat (0, em)).2)).length : Int)))) then (laws_markRowS.l4 ((a.set (i).toNat (k, (a.getD (i).toNat (0, em)).2)).set (i).toNat (((a.set (i).toNat (k, (a.getD (i).toNat (0, em)).2)).getD (i).toNat (0, em)).1, y1)) (w64 ((w64 (k + 1)) + 1)) (w64 (i + 1))) else none) else none) else (some (k, a))) :=
  (fixP_eq laws_markRowS.E laws_markRowS.T laws_markRowS.C laws_markRowS.K 4 laws_markRowS.D4 (a, k, i)).trans (by kernel_rfl)
theorem laws_markRowS.f_eq (a : List (Int × ByteArray)) (k : Int) : laws_markRowS.f a k =
  (laws_markRowS.l4 a k 0) := by kernel_rfl
noncomputable def laws_markRowS.S : Abs.Sum := ⟨laws_markRowS.P, laws_markRowS.R, fun _ => Fn laws_markRowS.E laws_markRowS.T laws_markRowS.C laws_markRowS.P laws_markRowS.R laws_markRowS.X⟩
theorem laws_markRowS.meets : Meets Try.prog 47 laws_markRowS.S := meets_tab (S := laws_markRowS.U) tabOk_all (AllMeets.cons laws_markText.meets AllMeets.nil) (AllStill.cons (fun _ _ _ => rfl) AllStill.nil) follows (by kernel_rfl : Try.prog.funcs[47]? = some Try.f47) (by kernel_rfl) (by kernel_rfl) (by kernel_rfl)
noncomputable def laws_markGroupS.C : Code := Try.f15.body.getD .skip
def laws_markGroupS.P : Par := (.cons (.io 9 (.pair (.int .i64) (.pair (.int .i64) (.one (.list (.pair (.int .i64) (.one .str))))))) (.cons (.val (.int .i64)) .nil))
noncomputable def laws_markGroupS.U : SumTab := [(47, [], laws_markRowS.S)]
noncomputable def laws_markGroupS.E : Env := mkEnv TY AR laws_markGroupS.U
def laws_markGroupS.D4 : CutD := ⟨[0, 1, 5], (.cons (.own 9 (.pair (.int .i64) (.pair (.int .i64) (.one (.list (.pair (.int .i64) (.one .str))))))) (.cons (.val (.int .i64)) (.cons (.val (.int .i64)) .nil)))⟩
noncomputable def laws_markGroupS.T : Tab := fun k => look k [(4, laws_markGroupS.D4)]
def laws_markGroupS.R : List (Nat × Ty) := [(0, .int .i64)]
def laws_markGroupS.X : List ResultVar := [.tmp 4]
noncomputable def laws_markGroupS.K := fin laws_markGroupS.E ⟨laws_markGroupS.P, laws_markGroupS.R, fun _ _ => none⟩ laws_markGroupS.X laws_markGroupS.P.len 0
noncomputable def laws_markGroupS.l4 (a : List (Int × Int × List (Int × ByteArray))) (k : Int) (i : Int) : Option (Int × (List (Int × Int × List (Int × ByteArray)))) := fixP laws_markGroupS.E laws_markGroupS.T laws_markGroupS.C laws_markGroupS.K 4 laws_markGroupS.D4 (a, k, i)
noncomputable def laws_markGroupS.f (a : List (Int × Int × List (Int × ByteArray))) (k : Int) : Option (Int × (List (Int × Int × List (Int × ByteArray)))) := Fn laws_markGroupS.E laws_markGroupS.T laws_markGroupS.C laws_markGroupS.P laws_markGroupS.R laws_markGroupS.X (a, k)
theorem laws_markGroupS.l4_eq (a : List (Int × Int × List (Int × ByteArray))) (k : Int) (i : Int) : laws_markGroupS.l4 a k i =
  (bif (decide (i < (a.length : Int))) then (bif ((decide (0 ≤ i)) && (decide (i < (a.length : Int)))) then (bif ((decide (0 ≤ i)) && (decide (i < ((a.set (i).toNat (k, (a.getD (i).toNat (0, 0, ([] : List (Int × ByteArray)))).2)).length : Int)))) then (bif ((decide (0 ≤ i)) && (decide (i < (((a.set (i).toNat (k, (a.getD (i).toNat (0, 0, ([] : List (Int × ByteArray)))).2)).set (i).toNat (((a.set (i).toNat (k, (a.getD (i).toNat (0, 0, ([] : List (Int × ByteArray)))).2)).getD (i).toNat (0, 0, ([] : List (Int × ByteArray)))).1, (w64 (k + 1)), ((a.set (i).toNat (k, (a.getD (i).toNat (0, 0, ([] : List (Int × ByteArray)))).2)).getD (i).toNat (0, 0, ([] : List (Int × ByteArray)))).2.2)).length : Int)))) then ((laws_markRowS.f (((a.set (i).toNat (k, (a.getD (i).toNat (0, 0, ([] : List (Int × ByteArray)))).2)).set (i).toNat (((a.set (i).toNat (k, (a.getD (i).toNat (0, 0, ([] : List (Int × ByteArray)))).2)).getD (i).toNat (0, 0, ([] : List (Int × ByteArray)))).1, (w64 (k + 1)), ((a.set (i).toNat (k, (a.getD (i).toNat (0, 0, ([] : List (Int × ByteArray)))).2)).getD (i).toNat (0, 0, ([] : List (Int × ByteArray)))).2.2)).getD (i).toNat (0, 0, ([] : List (Int × ByteArray)))).2.2 (w64 ((w64 (k + 1)) + 1))).bind fun y1 =>
      laws_markGroupS.l4 (((a.set (i).toNat (k, (a.getD (i).toNat (0, 0, ([] : List (Int × ByteArray)))).2)).set (i).toNat (((a.set (i).toNat (k, (a.getD (i).toNat (0, 0, ([] : List (Int × ByteArray)))).2)).getD (i).toNat (0, 0, ([] : List (Int × ByteArray)))).1, (w64 (k + 1)), ((a.set (i).toNat (k, (a.getD (i).toNat (0, 0, ([] : List (Int × ByteArray)))).2)).getD (i).toNat (0, 0, ([] : List (Int × ByteArray)))).2.2)).set (i).toNat ((((a.set (i).toNat (k, (a.getD (i).toNat (0, 0, ([] : List (Int × ByteArray)))).2)).set (i).toNat (((a.set (i).toNat (k, (a.getD (i).toNat (0, 0, ([] : List (Int × ByteArray)))).2)).getD (i).toNat (0, 0, ([] : List (Int × ByteArray)))).1, (w64 (k + 1)), ((a.set (i).toNat (k, (a.getD (i).toNat (0, 0, ([] : List (Int × ByteArray)))).2)).getD (i).toNat (0, 0, ([] : List (Int × ByteArray)))).2.2)).getD (i).toNat (0, 0, ([] : List (Int × ByteArray)))).1, (((a.set (i).toNat (k, (a.getD (i).toNat (0, 0, ([] : List (Int × ByteArray)))).2)).set (i).toNat (((a.set (i).toNat (k, (a.getD (i).toNat (0, 0, ([] : List (Int × ByteArray)))).2)).getD (i).toNat (0, 0, ([] : List (Int × ByteArray)))).1, (w64 (k + 1)), ((a.set (i).toNat (k, (a.getD (i).toNat (0, 0, ([] : List (Int × ByteArray)))).2)).getD (i).toNat (0, 0, ([] : List (Int × ByteArray)))).2.2)).getD (i).toNat (0, 0, ([] : List (Int × ByteArray)))).2.1, y1.2)) y1.1 (w64 (i + 1))) else none) else none) else none) else (some (k, a))) :=
  (fixP_eq laws_markGroupS.E laws_markGroupS.T laws_markGroupS.C laws_markGroupS.K 4 laws_markGroupS.D4 (a, k, i)).trans (by kernel_rfl)
theorem laws_markGroupS.f_eq (a : List (Int × Int × List (Int × ByteArray))) (k : Int) : laws_markGroupS.f a k =
  (laws_markGroupS.l4 a k 0) := by kernel_rfl
noncomputable def laws_markGroupS.S : Abs.Sum := ⟨laws_markGroupS.P, laws_markGroupS.R, fun _ => Fn laws_markGroupS.E laws_markGroupS.T laws_markGroupS.C laws_markGroupS.P laws_markGroupS.R laws_markGroupS.X⟩
theorem laws_markGroupS.meets : Meets Try.prog 15 laws_markGroupS.S := meets_tab (S := laws_markGroupS.U) tabOk_all (AllMeets.cons laws_markRowS.meets AllMeets.nil) (AllStill.cons (fun _ _ _ => rfl) AllStill.nil) follows (by kernel_rfl : Try.prog.funcs[15]? = some Try.f15) (by kernel_rfl) (by kernel_rfl) (by kernel_rfl)
noncomputable def laws_markIntS.C : Code := Try.f16.body.getD .skip
def laws_markIntS.P : Par := (.cons (.io 9 (.int .i64)) (.cons (.val (.int .i64)) .nil))
noncomputable def laws_markIntS.U : SumTab := []
noncomputable def laws_markIntS.E : Env := mkEnv TY AR laws_markIntS.U
def laws_markIntS.D4 : CutD := ⟨[0, 1, 5], (.cons (.own 9 (.int .i64)) (.cons (.val (.int .i64)) (.cons (.val (.int .i64)) .nil)))⟩
noncomputable def laws_markIntS.T : Tab := fun k => look k [(4, laws_markIntS.D4)]
def laws_markIntS.R : List (Nat × Ty) := [(0, .int .i64)]
def laws_markIntS.X : List ResultVar := [.tmp 4]
noncomputable def laws_markIntS.K := fin laws_markIntS.E ⟨laws_markIntS.P, laws_markIntS.R, fun _ _ => none⟩ laws_markIntS.X laws_markIntS.P.len 0
noncomputable def laws_markIntS.l4 (a : List Int) (k : Int) (i : Int) : Option (Int × (List Int)) := fixP laws_markIntS.E laws_markIntS.T laws_markIntS.C laws_markIntS.K 4 laws_markIntS.D4 (a, k, i)
noncomputable def laws_markIntS.f (a : List Int) (k : Int) : Option (Int × (List Int)) := Fn laws_markIntS.E laws_markIntS.T laws_markIntS.C laws_markIntS.P laws_markIntS.R laws_markIntS.X (a, k)
theorem laws_markIntS.l4_eq (a : List Int) (k : Int) (i : Int) : laws_markIntS.l4 a k i =
  (bif (decide (i < (a.length : Int))) then (bif ((decide (0 ≤ i)) && (decide (i < (a.length : Int)))) then (laws_markIntS.l4 (a.set (i).toNat k) (w64 (k + 1)) (w64 (i + 1))) else none) else (some (k, a))) :=
  (fixP_eq laws_markIntS.E laws_markIntS.T laws_markIntS.C laws_markIntS.K 4 laws_markIntS.D4 (a, k, i)).trans (by kernel_rfl)
theorem laws_markIntS.f_eq (a : List Int) (k : Int) : laws_markIntS.f a k =
  (laws_markIntS.l4 a k 0) := by kernel_rfl
noncomputable def laws_markIntS.S : Abs.Sum := ⟨laws_markIntS.P, laws_markIntS.R, fun _ => Fn laws_markIntS.E laws_markIntS.T laws_markIntS.C laws_markIntS.P laws_markIntS.R laws_markIntS.X⟩
theorem laws_markIntS.meets : Meets Try.prog 16 laws_markIntS.S := meets_tab (S := laws_markIntS.U) tabOk_all AllMeets.nil AllStill.nil follows (by kernel_rfl : Try.prog.funcs[16]? = some Try.f16) (by kernel_rfl) (by kernel_rfl) (by kernel_rfl)
noncomputable def laws_heldStringS.C : Code := Try.f17.body.getD .skip
def laws_heldStringS.P : Par := (.cons (.val (.list .str)) (.cons (.val (.int .i64)) .nil))
noncomputable def laws_heldStringS.U : SumTab := [(46, [], laws_markText.S)]
noncomputable def laws_heldStringS.E : Env := mkEnv TY AR laws_heldStringS.U
def laws_heldStringS.D4 : CutD := ⟨[0, 1, 5], (.cons (.val (.list .str)) (.cons (.val (.int .i64)) (.cons (.val (.int .i64)) .nil)))⟩
noncomputable def laws_heldStringS.T : Tab := fun k => look k [(4, laws_heldStringS.D4)]
def laws_heldStringS.R : List (Nat × Ty) := [(0, .int .i64)]
def laws_heldStringS.X : List ResultVar := [.tmp 4]
noncomputable def laws_heldStringS.K := fin laws_heldStringS.E ⟨laws_heldStringS.P, laws_heldStringS.R, fun _ _ => none⟩ laws_heldStringS.X laws_heldStringS.P.len 0
noncomputable def laws_heldStringS.l4 (a : List ByteArray) (k : Int) (i : Int) : Option (Int) := fixP laws_heldStringS.E laws_heldStringS.T laws_heldStringS.C laws_heldStringS.K 4 laws_heldStringS.D4 (a, k, i)
noncomputable def laws_heldStringS.f (a : List ByteArray) (k : Int) : Option (Int) := Fn laws_heldStringS.E laws_heldStringS.T laws_heldStringS.C laws_heldStringS.P laws_heldStringS.R laws_heldStringS.X (a, k)
theorem laws_heldStringS.l4_eq (a : List ByteArray) (k : Int) (i : Int) : laws_heldStringS.l4 a k i =
  (bif (decide (i < (a.length : Int))) then (bif ((decide (0 ≤ i)) && (decide (i < (a.length : Int)))) then ((laws_markText.f k).bind fun y1 =>
    bif (!((a.getD (i).toNat em).toList == y1.toList)) then (some (-1)) else
    (laws_heldStringS.l4 a (w64 (k + 1)) (w64 (i + 1)))) else none) else (some k)) :=
  (fixP_eq laws_heldStringS.E laws_heldStringS.T laws_heldStringS.C laws_heldStringS.K 4 laws_heldStringS.D4 (a, k, i)).trans (by kernel_rfl)
theorem laws_heldStringS.f_eq (a : List ByteArray) (k : Int) : laws_heldStringS.f a k =
  (laws_heldStringS.l4 a k 0) := by kernel_rfl
noncomputable def laws_heldStringS.S : Abs.Sum := ⟨laws_heldStringS.P, laws_heldStringS.R, fun _ => Fn laws_heldStringS.E laws_heldStringS.T laws_heldStringS.C laws_heldStringS.P laws_heldStringS.R laws_heldStringS.X⟩
theorem laws_heldStringS.meets : Meets Try.prog 17 laws_heldStringS.S := meets_tab (S := laws_heldStringS.U) tabOk_all (AllMeets.cons laws_markText.meets AllMeets.nil) (AllStill.cons (fun _ _ _ => rfl) AllStill.nil) follows (by kernel_rfl : Try.prog.funcs[17]? = some Try.f17) (by kernel_rfl) (by kernel_rfl) (by kernel_rfl)
noncomputable def laws_heldIntS.C : Code := Try.f18.body.getD .skip
def laws_heldIntS.P : Par := (.cons (.val (.list (.int .i64))) (.cons (.val (.int .i64)) .nil))
noncomputable def laws_heldIntS.U : SumTab := []
noncomputable def laws_heldIntS.E : Env := mkEnv TY AR laws_heldIntS.U
def laws_heldIntS.D4 : CutD := ⟨[0, 1, 5], (.cons (.val (.list (.int .i64))) (.cons (.val (.int .i64)) (.cons (.val (.int .i64)) .nil)))⟩
noncomputable def laws_heldIntS.T : Tab := fun k => look k [(4, laws_heldIntS.D4)]
def laws_heldIntS.R : List (Nat × Ty) := [(0, .int .i64)]
def laws_heldIntS.X : List ResultVar := [.tmp 4]
noncomputable def laws_heldIntS.K := fin laws_heldIntS.E ⟨laws_heldIntS.P, laws_heldIntS.R, fun _ _ => none⟩ laws_heldIntS.X laws_heldIntS.P.len 0
noncomputable def laws_heldIntS.l4 (a : List Int) (k : Int) (i : Int) : Option (Int) := fixP laws_heldIntS.E laws_heldIntS.T laws_heldIntS.C laws_heldIntS.K 4 laws_heldIntS.D4 (a, k, i)
noncomputable def laws_heldIntS.f (a : List Int) (k : Int) : Option (Int) := Fn laws_heldIntS.E laws_heldIntS.T laws_heldIntS.C laws_heldIntS.P laws_heldIntS.R laws_heldIntS.X (a, k)
theorem laws_heldIntS.l4_eq (a : List Int) (k : Int) (i : Int) : laws_heldIntS.l4 a k i =
  (bif (decide (i < (a.length : Int))) then (bif ((decide (0 ≤ i)) && (decide (i < (a.length : Int)))) then (bif (!(decide ((a.getD (i).toNat 0) = k))) then (some (-1)) else
    (laws_heldIntS.l4 a (w64 (k + 1)) (w64 (i + 1)))) else none) else (some k)) :=
  (fixP_eq laws_heldIntS.E laws_heldIntS.T laws_heldIntS.C laws_heldIntS.K 4 laws_heldIntS.D4 (a, k, i)).trans (by kernel_rfl)
theorem laws_heldIntS.f_eq (a : List Int) (k : Int) : laws_heldIntS.f a k =
  (laws_heldIntS.l4 a k 0) := by kernel_rfl
noncomputable def laws_heldIntS.S : Abs.Sum := ⟨laws_heldIntS.P, laws_heldIntS.R, fun _ => Fn laws_heldIntS.E laws_heldIntS.T laws_heldIntS.C laws_heldIntS.P laws_heldIntS.R laws_heldIntS.X⟩
theorem laws_heldIntS.meets : Meets Try.prog 18 laws_heldIntS.S := meets_tab (S := laws_heldIntS.U) tabOk_all AllMeets.nil AllStill.nil follows (by kernel_rfl : Try.prog.funcs[18]? = some Try.f18) (by kernel_rfl) (by kernel_rfl) (by kernel_rfl)
noncomputable def laws_FnExactApplyNear.C : Code := Try.f3.body.getD .skip
def laws_FnExactApplyNear.P : Par := (.cons (.val (.list .str)) (.cons (.val (.list (.pair (.int .i64) (.pair (.int .i64) (.one (.list (.pair (.int .i64) (.one .str)))))))) (.cons (.val (.int .i64)) .nil)))
noncomputable def laws_FnExactApplyNear.U : SumTab := [(5, [], laws_szStringS.S), (6, [], laws_szGroupS.S), (8, [], laws_toStringS.S), (9, [], laws_toGroupS.S), (7, [], spec_ApplyNear.S), (10, [], impl_ApplyNear.S), (11, [], laws_eqStringS.S), (12, [], laws_eqIntS.S), (13, [], laws_eqGroupS.S), (14, [], laws_markStringS.S), (15, [], laws_markGroupS.S), (16, [], laws_markIntS.S), (17, [], laws_heldStringS.S), (18, [], laws_heldIntS.S)]
noncomputable def laws_FnExactApplyNear.E : Env := mkEnv TY AR laws_FnExactApplyNear.U
def laws_FnExactApplyNear.D29 : CutD := ⟨[0, 1, 2, 8, 9, 10, 11, 12, 13, 14, 15, 16, 17], (.cons (.val (.list .str)) (.cons (.val (.list (.pair (.int .i64) (.pair (.int .i64) (.one (.list (.pair (.int .i64) (.one .str)))))))) (.cons (.val (.int .i64)) (.cons (.own 8 .str) (.cons (.own 8 (.int .i64)) (.cons (.val (.int .i64)) (.cons (.val .bool) (.cons (.own 8 .str) (.cons (.own 8 (.pair (.int .i64) (.pair (.int .i64) (.one (.list (.pair (.int .i64) (.one .str))))))) (.cons (.own 8 .str) (.cons (.own 8 (.int .i64)) (.cons (.val (.int .i64)) (.cons (.val .bool) .nil)))))))))))))⟩
def laws_FnExactApplyNear.D47 : CutD := ⟨[0, 1, 2, 8, 9, 10, 11, 14, 15], (.cons (.val (.list .str)) (.cons (.val (.list (.pair (.int .i64) (.pair (.int .i64) (.one (.list (.pair (.int .i64) (.one .str)))))))) (.cons (.val (.int .i64)) (.cons (.own 8 .str) (.cons (.own 8 (.int .i64)) (.cons (.val (.int .i64)) (.cons (.val .bool) (.cons (.own 8 .str) (.cons (.own 8 (.int .i64)) .nil)))))))))⟩
def laws_FnExactApplyNear.D77 : CutD := ⟨[14, 15, 19], (.cons (.own 8 .str) (.cons (.own 8 (.int .i64)) (.cons (.val (.int .i64)) .nil)))⟩
noncomputable def laws_FnExactApplyNear.T : Tab := fun k => look k [(29, laws_FnExactApplyNear.D29), (47, laws_FnExactApplyNear.D47), (77, laws_FnExactApplyNear.D77)]
def laws_FnExactApplyNear.R : List (Nat × Ty) := [(0, .bool)]
def laws_FnExactApplyNear.X : List ResultVar := [.tmp 6]
noncomputable def laws_FnExactApplyNear.K := fin laws_FnExactApplyNear.E ⟨laws_FnExactApplyNear.P, laws_FnExactApplyNear.R, fun _ _ => none⟩ laws_FnExactApplyNear.X laws_FnExactApplyNear.P.len 0
noncomputable def laws_FnExactApplyNear.l29 (aL : List ByteArray) (aG : List (Int × Int × List (Int × ByteArray))) (aFar : Int) (w0 : List ByteArray) (w1 : List Int) (w2 : Int) (w3 : Bool) (x0 : List ByteArray) (x1 : List (Int × Int × List (Int × ByteArray))) (g0 : List ByteArray) (g1 : List Int) (g2 : Int) (g3 : Bool) : Option (Bool) := fixP laws_FnExactApplyNear.E laws_FnExactApplyNear.T laws_FnExactApplyNear.C laws_FnExactApplyNear.K 29 laws_FnExactApplyNear.D29 (aL, aG, aFar, w0, w1, w2, w3, x0, x1, g0, g1, g2, g3)
noncomputable def laws_FnExactApplyNear.l47 (aL : List ByteArray) (aG : List (Int × Int × List (Int × ByteArray))) (aFar : Int) (w0 : List ByteArray) (w1 : List Int) (w2 : Int) (w3 : Bool) (g0 : List ByteArray) (g1 : List Int) : Option (Bool) := fixP laws_FnExactApplyNear.E laws_FnExactApplyNear.T laws_FnExactApplyNear.C laws_FnExactApplyNear.K 47 laws_FnExactApplyNear.D47 (aL, aG, aFar, w0, w1, w2, w3, g0, g1)
noncomputable def laws_FnExactApplyNear.l77 (g0 : List ByteArray) (g1 : List Int) (m : Int) : Option (Bool) := fixP laws_FnExactApplyNear.E laws_FnExactApplyNear.T laws_FnExactApplyNear.C laws_FnExactApplyNear.K 77 laws_FnExactApplyNear.D77 (g0, g1, m)
noncomputable def laws_FnExactApplyNear.f (aL : List ByteArray) (aG : List (Int × Int × List (Int × ByteArray))) (aFar : Int) : Option (Bool) := Fn laws_FnExactApplyNear.E laws_FnExactApplyNear.T laws_FnExactApplyNear.C laws_FnExactApplyNear.P laws_FnExactApplyNear.R laws_FnExactApplyNear.X (aL, aG, aFar)
theorem laws_FnExactApplyNear.l29_eq (aL : List ByteArray) (aG : List (Int × Int × List (Int × ByteArray))) (aFar : Int) (w0 : List ByteArray) (w1 : List Int) (w2 : Int) (w3 : Bool) (x0 : List ByteArray) (x1 : List (Int × Int × List (Int × ByteArray))) (g0 : List ByteArray) (g1 : List Int) (g2 : Int) (g3 : Bool) : laws_FnExactApplyNear.l29 aL aG aFar w0 w1 w2 w3 x0 x1 g0 g1 g2 g3 =
  ((laws_toStringS.f aL).bind fun y1 =>
  (laws_eqStringS.f x0 y1).bind fun y2 =>
  bif (!y2) then (some false) else
  ((laws_toGroupS.f aG).bind fun y3 =>
   (laws_eqGroupS.f x1 y3).bind fun y4 =>
   bif (!y4) then (some false) else
   ((laws_markStringS.f x0 1).bind fun y5 =>
    (laws_markGroupS.f x1 y5.1).bind fun y6 =>
    bif (decide (y6.1 < 0)) then (some false) else
    ((laws_eqStringS.f g0 w0).bind fun y7 =>
     bif (!y7) then (some false) else
     ((laws_eqIntS.f g1 w1).bind fun y8 =>
      bif (!y8) then (some false) else
      (bif (!(decide (g2 = w2))) then (some false) else
       (bif (!(g3 == w3)) then (some false) else
        (laws_FnExactApplyNear.l47 aL aG aFar w0 w1 w2 w3 g0 g1)))))))) :=
  (fixP_eq laws_FnExactApplyNear.E laws_FnExactApplyNear.T laws_FnExactApplyNear.C laws_FnExactApplyNear.K 29 laws_FnExactApplyNear.D29 (aL, aG, aFar, w0, w1, w2, w3, x0, x1, g0, g1, g2, g3)).trans (by kernel_rfl)
theorem laws_FnExactApplyNear.l47_eq (aL : List ByteArray) (aG : List (Int × Int × List (Int × ByteArray))) (aFar : Int) (w0 : List ByteArray) (w1 : List Int) (w2 : Int) (w3 : Bool) (g0 : List ByteArray) (g1 : List Int) : laws_FnExactApplyNear.l47 aL aG aFar w0 w1 w2 w3 g0 g1 =
  ((laws_markStringS.f g0 1).bind fun y1 =>
  (laws_markIntS.f g1 y1.1).bind fun y2 =>
  (laws_heldStringS.f y1.2 1).bind fun y3 =>
  bif (decide (y3 < 0)) then (some false) else
  ((laws_heldIntS.f y2.2 y3).bind fun y4 =>
   bif (decide (y4 < 0)) then (some false) else
   (bif (!(decide (y4 = y2.1))) then (some false) else
    ((laws_toStringS.f aL).bind fun y5 =>
     (laws_toGroupS.f aG).bind fun y6 =>
     (impl_ApplyNear.f y5 y6 aFar).bind fun y7 =>
     (laws_eqStringS.f y7.1 w0).bind fun y8 =>
     bif (!y8) then (some false) else
     ((laws_eqIntS.f y7.2.1 w1).bind fun y9 =>
      bif (!y9) then (some false) else
      (bif (!(decide (y7.2.2.1 = w2))) then (some false) else
       (bif (!(y7.2.2.2 == w3)) then (some false) else
        (laws_FnExactApplyNear.l77 y1.2 y2.2 y2.1)))))))) :=
  (fixP_eq laws_FnExactApplyNear.E laws_FnExactApplyNear.T laws_FnExactApplyNear.C laws_FnExactApplyNear.K 47 laws_FnExactApplyNear.D47 (aL, aG, aFar, w0, w1, w2, w3, g0, g1)).trans (by kernel_rfl)
theorem laws_FnExactApplyNear.l77_eq (g0 : List ByteArray) (g1 : List Int) (m : Int) : laws_FnExactApplyNear.l77 g0 g1 m =
  ((laws_heldStringS.f g0 1).bind fun y1 =>
  bif (decide (y1 < 0)) then (some false) else
  ((laws_heldIntS.f g1 y1).bind fun y2 =>
   bif (decide (y2 < 0)) then (some false) else
   (bif (!(decide (y2 = m))) then (some false) else (some true)))) :=
  (fixP_eq laws_FnExactApplyNear.E laws_FnExactApplyNear.T laws_FnExactApplyNear.C laws_FnExactApplyNear.K 77 laws_FnExactApplyNear.D77 (g0, g1, m)).trans (by kernel_rfl)
theorem laws_FnExactApplyNear.f_eq (aL : List ByteArray) (aG : List (Int × Int × List (Int × ByteArray))) (aFar : Int) : laws_FnExactApplyNear.f aL aG aFar =
  ((laws_szStringS.f aL 1048576).bind fun y1 =>
  bif (decide (y1 < 0)) then (some true) else
  ((laws_szGroupS.f aG y1).bind fun y2 =>
   bif (decide (y2 < 0)) then (some true) else
   ((laws_toStringS.f aL).bind fun y3 =>
    (laws_toGroupS.f aG).bind fun y4 =>
    (spec_ApplyNear.f y3 y4 aFar).bind fun y5 =>
    (laws_toStringS.f aL).bind fun y6 =>
    (laws_toGroupS.f aG).bind fun y7 =>
    (impl_ApplyNear.f y6 y7 aFar).bind fun y8 =>
    (laws_eqStringS.f y8.1 y5.1).bind fun y9 =>
    bif (!y9) then (some false) else
    ((laws_eqIntS.f y8.2.1 y5.2.1).bind fun y10 =>
     bif (!y10) then (some false) else
     (bif (!(decide (y8.2.2.1 = y5.2.2.1))) then (some false) else
      (bif (!(y8.2.2.2 == y5.2.2.2)) then (some false) else
       (laws_FnExactApplyNear.l29 aL aG aFar y5.1 y5.2.1 y5.2.2.1 y5.2.2.2 y6 y7 y8.1 y8.2.1 y8.2.2.1 y8.2.2.2))))))) := by kernel_rfl
noncomputable def laws_FnExactApplyNear.S : Abs.Sum := ⟨laws_FnExactApplyNear.P, laws_FnExactApplyNear.R, fun _ => Fn laws_FnExactApplyNear.E laws_FnExactApplyNear.T laws_FnExactApplyNear.C laws_FnExactApplyNear.P laws_FnExactApplyNear.R laws_FnExactApplyNear.X⟩
theorem laws_FnExactApplyNear.meets : Meets Try.prog 3 laws_FnExactApplyNear.S := meets_tab (S := laws_FnExactApplyNear.U) tabOk_all (AllMeets.cons laws_szStringS.meets (AllMeets.cons laws_szGroupS.meets (AllMeets.cons laws_toStringS.meets (AllMeets.cons laws_toGroupS.meets (AllMeets.cons spec_ApplyNear.meets (AllMeets.cons impl_ApplyNear.meets (AllMeets.cons laws_eqStringS.meets (AllMeets.cons laws_eqIntS.meets (AllMeets.cons laws_eqGroupS.meets (AllMeets.cons laws_markStringS.meets (AllMeets.cons laws_markGroupS.meets (AllMeets.cons laws_markIntS.meets (AllMeets.cons laws_heldStringS.meets (AllMeets.cons laws_heldIntS.meets AllMeets.nil)))))))))))))) (AllStill.cons (fun _ _ _ => rfl) (AllStill.cons (fun _ _ _ => rfl) (AllStill.cons (fun _ _ _ => rfl) (AllStill.cons (fun _ _ _ => rfl) (AllStill.cons (fun _ _ _ => rfl) (AllStill.cons (fun _ _ _ => rfl) (AllStill.cons (fun _ _ _ => rfl) (AllStill.cons (fun _ _ _ => rfl) (AllStill.cons (fun _ _ _ => rfl) (AllStill.cons (fun _ _ _ => rfl) (AllStill.cons (fun _ _ _ => rfl) (AllStill.cons (fun _ _ _ => rfl) (AllStill.cons (fun _ _ _ => rfl) (AllStill.cons (fun _ _ _ => rfl) AllStill.nil)))))))))))))) follows (by kernel_rfl : Try.prog.funcs[3]? = some Try.f3) (by kernel_rfl) (by kernel_rfl) (by kernel_rfl)
end Go.Abs.G
