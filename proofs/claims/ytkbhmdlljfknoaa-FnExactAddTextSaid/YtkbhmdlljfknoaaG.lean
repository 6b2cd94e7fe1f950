import Derived.Test.YtkbhmdlljfknoaaGB
set_option linter.unusedVariables false
set_option linter.unusedSimpArgs false
set_option linter.unusedSectionVars false
namespace Go.Abs.G
open Go Go.Abs Go.Proofs
noncomputable def laws_szStringS.C : Code := Try.f11.body.getD .skip
def laws_szStringS.P : Par := (.cons (.val (.list .str)) (.cons (.val (.int .i64)) .nil))
noncomputable def laws_szStringS.U : SumTab := []
noncomputable def laws_szStringS.E : Env := mkEnv TY AR laws_szStringS.U
def laws_szStringS.D10 : CutD := ⟨[0, 1, 5], (.cons (.val (.list .str)) (.cons (.val (.int .i64)) (.cons (.val (.int .i64)) .nil)))⟩
noncomputable def laws_szStringS.T : Tab := fun k => look k [(10, laws_szStringS.D10)]
def laws_szStringS.R : List (Nat × Ty) := [(0, .int .i64)]
def laws_szStringS.X : List ResultVar := [.tmp 4]
noncomputable def laws_szStringS.K := fin laws_szStringS.E ⟨laws_szStringS.P, laws_szStringS.R, fun _ _ => none⟩ laws_szStringS.X laws_szStringS.P.len 0
noncomputable def laws_szStringS.l10 (a : List ByteArray) (left : Int) (i : Int) : Option (Int) := fixP laws_szStringS.E laws_szStringS.T laws_szStringS.C laws_szStringS.K 10 laws_szStringS.D10 (a, left, i)
noncomputable def laws_szStringS.f (a : List ByteArray) (left : Int) : Option (Int) := Fn laws_szStringS.E laws_szStringS.T laws_szStringS.C laws_szStringS.P laws_szStringS.R laws_szStringS.X (a, left)
theorem laws_szStringS.l10_eq (a : List ByteArray) (left : Int) (i : Int) : laws_szStringS.l10 a left i =
  (bif (decide (i < (a.length : Int))) then (bif ((decide (0 ≤ i)) && (decide (i < (a.length : Int)))) then (bif (decide ((w64 (left - ((a.getD (i).toNat em).size : Int))) < 0)) then (some (-1)) else
    (laws_szStringS.l10 a (w64 (left - ((a.getD (i).toNat em).size : Int))) (w64 (i + 1)))) else none) else (some left)) :=
  (fixP_eq laws_szStringS.E laws_szStringS.T laws_szStringS.C laws_szStringS.K 10 laws_szStringS.D10 (a, left, i)).trans (by kernel_rfl)
theorem laws_szStringS.f_eq (a : List ByteArray) (left : Int) : laws_szStringS.f a left =
  (bif (decide ((w64 (left - (a.length : Int))) < 0)) then (some (-1)) else
  (laws_szStringS.l10 a (w64 (left - (a.length : Int))) 0)) := by kernel_rfl
noncomputable def laws_szStringS.S : Abs.Sum := ⟨laws_szStringS.P, laws_szStringS.R, fun _ => Fn laws_szStringS.E laws_szStringS.T laws_szStringS.C laws_szStringS.P laws_szStringS.R laws_szStringS.X⟩
theorem laws_szStringS.meets : Meets Try.prog 11 laws_szStringS.S := meets_tab (S := laws_szStringS.U) tabOk_all AllMeets.nil AllStill.nil follows (by kernel_rfl : Try.prog.funcs[11]? = some Try.f11) (by kernel_rfl) (by kernel_rfl) (by kernel_rfl)
noncomputable def laws_szHunk.C : Code := Try.f203.body.getD .skip
def laws_szHunk.P : Par := (.cons (.val (.pair (.int .i64) (.pair (.int .i64) (.one (.list .str))))) (.cons (.val (.int .i64)) .nil))
noncomputable def laws_szHunk.U : SumTab := [(11, [], laws_szStringS.S)]
noncomputable def laws_szHunk.E : Env := mkEnv TY AR laws_szHunk.U
noncomputable def laws_szHunk.T : Tab := fun k => look k []
def laws_szHunk.R : List (Nat × Ty) := [(0, .int .i64)]
def laws_szHunk.X : List ResultVar := [.tmp 4]
noncomputable def laws_szHunk.f (a : Int × Int × List ByteArray) (left : Int) : Option (Int) := Fn laws_szHunk.E laws_szHunk.T laws_szHunk.C laws_szHunk.P laws_szHunk.R laws_szHunk.X (a, left)
theorem laws_szHunk.f_eq (a : Int × Int × List ByteArray) (left : Int) : laws_szHunk.f a left =
  ((laws_szStringS.f a.2.2 left).bind fun y1 =>
  bif (decide (y1 < 0)) then (some (-1)) else (some y1)) := by kernel_rfl
noncomputable def laws_szHunk.S : Abs.Sum := ⟨laws_szHunk.P, laws_szHunk.R, fun _ => Fn laws_szHunk.E laws_szHunk.T laws_szHunk.C laws_szHunk.P laws_szHunk.R laws_szHunk.X⟩
theorem laws_szHunk.meets : Meets Try.prog 203 laws_szHunk.S := meets_tab (S := laws_szHunk.U) tabOk_all (AllMeets.cons laws_szStringS.meets AllMeets.nil) (AllStill.cons (fun _ _ _ => rfl) AllStill.nil) follows (by kernel_rfl : Try.prog.funcs[203]? = some Try.f203) (by kernel_rfl) (by kernel_rfl) (by kernel_rfl)
noncomputable def laws_szHunkS.C : Code := Try.f158.body.getD .skip
def laws_szHunkS.P : Par := (.cons (.val (.list (.pair (.int .i64) (.pair (.int .i64) (.one (.list .str)))))) (.cons (.val (.int .i64)) .nil))
noncomputable def laws_szHunkS.U : SumTab := [(203, [], laws_szHunk.S)]
noncomputable def laws_szHunkS.E : Env := mkEnv TY AR laws_szHunkS.U
def laws_szHunkS.D10 : CutD := ⟨[0, 1, 5], (.cons (.val (.list (.pair (.int .i64) (.pair (.int .i64) (.one (.list .str)))))) (.cons (.val (.int .i64)) (.cons (.val (.int .i64)) .nil)))⟩
noncomputable def laws_szHunkS.T : Tab := fun k => look k [(10, laws_szHunkS.D10)]
def laws_szHunkS.R : List (Nat × Ty) := [(0, .int .i64)]
def laws_szHunkS.X : List ResultVar := [.tmp 4]
noncomputable def laws_szHunkS.K := fin laws_szHunkS.E ⟨laws_szHunkS.P, laws_szHunkS.R, fun _ _ => none⟩ laws_szHunkS.X laws_szHunkS.P.len 0
noncomputable def laws_szHunkS.l10 (a : List (Int × Int × List ByteArray)) (left : Int) (i : Int) : Option (Int) := fixP laws_szHunkS.E laws_szHunkS.T laws_szHunkS.C laws_szHunkS.K 10 laws_szHunkS.D10 (a, left, i)
noncomputable def laws_szHunkS.f (a : List (Int × Int × List ByteArray)) (left : Int) : Option (Int) := Fn laws_szHunkS.E laws_szHunkS.T laws_szHunkS.C laws_szHunkS.P laws_szHunkS.R laws_szHunkS.X (a, left)
theorem laws_szHunkS.l10_eq (a : List (Int × Int × List ByteArray)) (left : Int) (i : Int) : laws_szHunkS.l10 a left i =
  (bif (decide (i < (a.length : Int))) then (bif ((decide (0 ≤ i)) && (decide (i < (a.length : Int)))) then ((laws_szHunk.f (a.getD (i).toNat (0, 0, ([] : List ByteArray))) left).bind fun y1 =>
    bif (decide (y1 < 0)) then (some (-1)) else
    (laws_szHunkS.l10 a y1 (w64 (i + 1)))) else none) else (some left)) :=
  (fixP_eq laws_szHunkS.E laws_szHunkS.T laws_szHunkS.C laws_szHunkS.K 10 laws_szHunkS.D10 (a, left, i)).trans (by kernel_rfl)
theorem laws_szHunkS.f_eq (a : List (Int × Int × List ByteArray)) (left : Int) : laws_szHunkS.f a left =
  (bif (decide ((w64 (left - (a.length : Int))) < 0)) then (some (-1)) else
  (laws_szHunkS.l10 a (w64 (left - (a.length : Int))) 0)) := by kernel_rfl
noncomputable def laws_szHunkS.S : Abs.Sum := ⟨laws_szHunkS.P, laws_szHunkS.R, fun _ => Fn laws_szHunkS.E laws_szHunkS.T laws_szHunkS.C laws_szHunkS.P laws_szHunkS.R laws_szHunkS.X⟩
theorem laws_szHunkS.meets : Meets Try.prog 158 laws_szHunkS.S := meets_tab (S := laws_szHunkS.U) tabOk_all (AllMeets.cons laws_szHunk.meets AllMeets.nil) (AllStill.cons (fun _ _ _ => rfl) AllStill.nil) follows (by kernel_rfl : Try.prog.funcs[158]? = some Try.f158) (by kernel_rfl) (by kernel_rfl) (by kernel_rfl)
noncomputable def laws_szHunkSS.C : Code := Try.f82.body.getD .skip
def laws_szHunkSS.P : Par := (.cons (.val (.list (.list (.pair (.int .i64) (.pair (.int .i64) (.one (.list .str))))))) (.cons (.val (.int .i64)) .nil))
noncomputable def laws_szHunkSS.U : SumTab := [(158, [], laws_szHunkS.S)]
noncomputable def laws_szHunkSS.E : Env := mkEnv TY AR laws_szHunkSS.U
def laws_szHunkSS.D10 : CutD := ⟨[0, 1, 5], (.cons (.val (.list (.list (.pair (.int .i64) (.pair (.int .i64) (.one (.list .str))))))) (.cons (.val (.int .i64)) (.cons (.val (.int .i64)) .nil)))⟩
noncomputable def laws_szHunkSS.T : Tab := fun k => look k [(10, laws_szHunkSS.D10)]
def laws_szHunkSS.R : List (Nat × Ty) := [(0, .int .i64)]
def laws_szHunkSS.X : List ResultVar := [.tmp 4]
noncomputable def laws_szHunkSS.K := fin laws_szHunkSS.E ⟨laws_szHunkSS.P, laws_szHunkSS.R, fun _ _ => none⟩ laws_szHunkSS.X laws_szHunkSS.P.len 0
noncomputable def laws_szHunkSS.l10 (a : List (List (Int × Int × List ByteArray))) (left : Int) (i : Int) : Option (Int) := fixP laws_szHunkSS.E laws_szHunkSS.T laws_szHunkSS.C laws_szHunkSS.K 10 laws_szHunkSS.D10 (a, left, i)
noncomputable def laws_szHunkSS.f (a : List (List (Int × Int × List ByteArray))) (left : Int) : Option (Int) := Fn laws_szHunkSS.E laws_szHunkSS.T laws_szHunkSS.C laws_szHunkSS.P laws_szHunkSS.R laws_szHunkSS.X (a, left)
theorem laws_szHunkSS.l10_eq (a : List (List (Int × Int × List ByteArray))) (left : Int) (i : Int) : laws_szHunkSS.l10 a left i =
  (bif (decide (i < (a.length : Int))) then (bif ((decide (0 ≤ i)) && (decide (i < (a.length : Int)))) then ((laws_szHunkS.f (a.getD (i).toNat ([] : List (Int × Int × List ByteArray))) left).bind fun y1 =>
    bif (decide (y1 < 0)) then (some (-1)) else
    (laws_szHunkSS.l10 a y1 (w64 (i + 1)))) else none) else (some left)) :=
  (fixP_eq laws_szHunkSS.E laws_szHunkSS.T laws_szHunkSS.C laws_szHunkSS.K 10 laws_szHunkSS.D10 (a, left, i)).trans (by kernel_rfl)
theorem laws_szHunkSS.f_eq (a : List (List (Int × Int × List ByteArray))) (left : Int) : laws_szHunkSS.f a left =
  (bif (decide ((w64 (left - (a.length : Int))) < 0)) then (some (-1)) else
  (laws_szHunkSS.l10 a (w64 (left - (a.length : Int))) 0)) := by kernel_rfl
noncomputable def laws_szHunkSS.S : Abs.Sum := ⟨laws_szHunkSS.P, laws_szHunkSS.R, fun _ => Fn laws_szHunkSS.E laws_szHunkSS.T laws_szHunkSS.C laws_szHunkSS.P laws_szHunkSS.R laws_szHunkSS.X⟩
theorem laws_szHunkSS.meets : Meets Try.prog 82 laws_szHunkSS.S := meets_tab (S := laws_szHunkSS.U) tabOk_all (AllMeets.cons laws_szHunkS.meets AllMeets.nil) (AllStill.cons (fun _ _ _ => rfl) AllStill.nil) follows (by kernel_rfl : Try.prog.funcs[82]? = some Try.f82) (by kernel_rfl) (by kernel_rfl) (by kernel_rfl)
noncomputable def laws_szSeries.C : Code := Try.f10.body.getD .skip
def laws_szSeries.P : Par := (.cons (.val (.pair (.list .str) (.one (.list (.list (.pair (.int .i64) (.pair (.int .i64) (.one (.list .str))))))))) (.cons (.val (.int .i64)) .nil))
noncomputable def laws_szSeries.U : SumTab := [(11, [], laws_szStringS.S), (82, [], laws_szHunkSS.S)]
noncomputable def laws_szSeries.E : Env := mkEnv TY AR laws_szSeries.U
noncomputable def laws_szSeries.T : Tab := fun k => look k []
def laws_szSeries.R : List (Nat × Ty) := [(0, .int .i64)]
def laws_szSeries.X : List ResultVar := [.tmp 4]
noncomputable def laws_szSeries.f (a : (List ByteArray) × List (List (Int × Int × List ByteArray))) (left : Int) : Option (Int) := Fn laws_szSeries.E laws_szSeries.T laws_szSeries.C laws_szSeries.P laws_szSeries.R laws_szSeries.X (a, left)
theorem laws_szSeries.f_eq (a : (List ByteArray) × List (List (Int × Int × List ByteArray))) (left : Int) : laws_szSeries.f a left =
  ((laws_szStringS.f a.1 left).bind fun y1 =>
  bif (decide (y1 < 0)) then (some (-1)) else
  ((laws_szHunkSS.f a.2 y1).bind fun y2 =>
   bif (decide (y2 < 0)) then (some (-1)) else (some y2))) := by kernel_rfl
noncomputable def laws_szSeries.S : Abs.Sum := ⟨laws_szSeries.P, laws_szSeries.R, fun _ => Fn laws_szSeries.E laws_szSeries.T laws_szSeries.C laws_szSeries.P laws_szSeries.R laws_szSeries.X⟩
theorem laws_szSeries.meets : Meets Try.prog 10 laws_szSeries.S := meets_tab (S := laws_szSeries.U) tabOk_all (AllMeets.cons laws_szStringS.meets (AllMeets.cons laws_szHunkSS.meets AllMeets.nil)) (AllStill.cons (fun _ _ _ => rfl) (AllStill.cons (fun _ _ _ => rfl) AllStill.nil)) follows (by kernel_rfl : Try.prog.funcs[10]? = some Try.f10) (by kernel_rfl) (by kernel_rfl) (by kernel_rfl)
noncomputable def laws_toStringS.C : Code := Try.f14.body.getD .skip
def laws_toStringS.P : Par := (.cons (.val (.list .str)) .nil)
noncomputable def laws_toStringS.U : SumTab := []
noncomputable def laws_toStringS.E : Env := mkEnv TY AR laws_toStringS.U
def laws_toStringS.D6 : CutD := ⟨[0, 3, 4], (.cons (.val (.list .str)) (.cons (.own 9 .str) (.cons (.val (.int .i64)) .nil)))⟩
noncomputable def laws_toStringS.T : Tab := fun k => look k [(6, laws_toStringS.D6)]
def laws_toStringS.R : List (Nat × Ty) := [(9, .list .str)]
def laws_toStringS.X : List ResultVar := [.tmp 2]
noncomputable def laws_toStringS.K := fin laws_toStringS.E ⟨laws_toStringS.P, laws_toStringS.R, fun _ _ => none⟩ laws_toStringS.X laws_toStringS.P.len 0
noncomputable def laws_toStringS.l6 (a : List ByteArray) (out : List ByteArray) (i : Int) : Option ((List ByteArray)) := fixP laws_toStringS.E laws_toStringS.T laws_toStringS.C laws_toStringS.K 6 laws_toStringS.D6 (a, out, i)
noncomputable def laws_toStringS.f (a : List ByteArray) : Option ((List ByteArray)) := Fn laws_toStringS.E laws_toStringS.T laws_toStringS.C laws_toStringS.P laws_toStringS.R laws_toStringS.X a
theorem laws_toStringS.l6_eq (a : List ByteArray) (out : List ByteArray) (i : Int) : laws_toStringS.l6 a out i =
  (bif (decide (i < (a.length : Int))) then (bif ((decide (0 ≤ i)) && (decide (i < (a.length : Int)))) then (bif ((decide (0 ≤ i)) && (decide (i < (out.length : Int)))) then (laws_toStringS.l6 a (out.set (i).toNat (a.getD (i).toNat em)) (w64 (i + 1))) else none) else none) else (some out)) :=
  (fixP_eq laws_toStringS.E laws_toStringS.T laws_toStringS.C laws_toStringS.K 6 laws_toStringS.D6 (a, out, i)).trans (by kernel_rfl)
theorem laws_toStringS.f_eq (a : List ByteArray) : laws_toStringS.f a =
  (bif ((decide (0 ≤ (a.length : Int))) && (decide (((a.length : Int)).toNat ≤ room 16))) then (laws_toStringS.l6 a (List.replicate ((a.length : Int)).toNat em) 0) else none) := by kernel_rfl
noncomputable def laws_toStringS.S : Abs.Sum := ⟨laws_toStringS.P, laws_toStringS.R, fun _ => Fn laws_toStringS.E laws_toStringS.T laws_toStringS.C laws_toStringS.P laws_toStringS.R laws_toStringS.X⟩
theorem laws_toStringS.meets : Meets Try.prog 14 laws_toStringS.S := meets_tab (S := laws_toStringS.U) tabOk_all AllMeets.nil AllStill.nil follows (by kernel_rfl : Try.prog.funcs[14]? = some Try.f14) (by kernel_rfl) (by kernel_rfl) (by kernel_rfl)
noncomputable def laws_toHunk.C : Code := Try.f206.body.getD .skip
def laws_toHunk.P : Par := (.cons (.val (.pair (.int .i64) (.pair (.int .i64) (.one (.list .str))))) .nil)
noncomputable def laws_toHunk.U : SumTab := [(14, [], laws_toStringS.S)]
noncomputable def laws_toHunk.E : Env := mkEnv TY AR laws_toHunk.U
noncomputable def laws_toHunk.T : Tab := fun k => look k []
def laws_toHunk.R : List (Nat × Ty) := [(9, .pair (.int .i64) (.pair (.int .i64) (.one (.list .str))))]
def laws_toHunk.X : List ResultVar := [.cell 2 121]
noncomputable def laws_toHunk.f (a : Int × Int × List ByteArray) : Option ((Int × Int × List ByteArray)) := Fn laws_toHunk.E laws_toHunk.T laws_toHunk.C laws_toHunk.P laws_toHunk.R laws_toHunk.X a
theorem laws_toHunk.f_eq (a : Int × Int × List ByteArray) : laws_toHunk.f a =
  ((laws_toStringS.f a.2.2).bind fun y1 =>
  some (a.1, a.2.1, y1)) := by kernel_rfl
noncomputable def laws_toHunk.S : Abs.Sum := ⟨laws_toHunk.P, laws_toHunk.R, fun _ => Fn laws_toHunk.E laws_toHunk.T laws_toHunk.C laws_toHunk.P laws_toHunk.R laws_toHunk.X⟩
theorem laws_toHunk.meets : Meets Try.prog 206 laws_toHunk.S := meets_tab (S := laws_toHunk.U) tabOk_all (AllMeets.cons laws_toStringS.meets AllMeets.nil) (AllStill.cons (fun _ _ _ => rfl) AllStill.nil) follows (by kernel_rfl : Try.prog.funcs[206]? = some Try.f206) (by kernel_rfl) (by kernel_rfl) (by kernel_rfl)
noncomputable def laws_toHunkS.C : Code := Try.f165.body.getD .skip
def laws_toHunkS.P : Par := (.cons (.val (.list (.pair (.int .i64) (.pair (.int .i64) (.one (.list .str)))))) .nil)
noncomputable def laws_toHunkS.U : SumTab := [(206, [], laws_toHunk.S)]
noncomputable def laws_toHunkS.E : Env := mkEnv TY AR laws_toHunkS.U
def laws_toHunkS.D6 : CutD := ⟨[0, 3, 4], (.cons (.val (.list (.pair (.int .i64) (.pair (.int .i64) (.one (.list .str)))))) (.cons (.own 9 (.pair (.int .i64) (.pair (.int .i64) (.one (.list .str))))) (.cons (.val (.int .i64)) .nil)))⟩
noncomputable def laws_toHunkS.T : Tab := fun k => look k [(6, laws_toHunkS.D6)]
def laws_toHunkS.R : List (Nat × Ty) := [(9, .list (.pair (.int .i64) (.pair (.int .i64) (.one (.list .str)))))]
def laws_toHunkS.X : List ResultVar := [.tmp 2]
noncomputable def laws_toHunkS.K := fin laws_toHunkS.E ⟨laws_toHunkS.P, laws_toHunkS.R, fun _ _ => none⟩ laws_toHunkS.X laws_toHunkS.P.len 0
noncomputable def laws_toHunkS.l6 (a : List (Int × Int × List ByteArray)) (out : List (Int × Int × List ByteArray)) (i : Int) : Option ((List (Int × Int × List ByteArray))) := fixP laws_toHunkS.E laws_toHunkS.T laws_toHunkS.C laws_toHunkS.K 6 laws_toHunkS.D6 (a, out, i)
noncomputable def laws_toHunkS.f (a : List (Int × Int × List ByteArray)) : Option ((List (Int × Int × List ByteArray))) := Fn laws_toHunkS.E laws_toHunkS.T laws_toHunkS.C laws_toHunkS.P laws_toHunkS.R laws_toHunkS.X a
theorem laws_toHunkS.l6_eq (a : List (Int × Int × List ByteArray)) (out : List (Int × Int × List ByteArray)) (i : Int) : laws_toHunkS.l6 a out i =
  (bif (decide (i < (a.length : Int))) then (bif ((decide (0 ≤ i)) && (decide (i < (a.length : Int)))) then ((laws_toHunk.f (a.getD (i).toNat (0, 0, ([] : List ByteArray)))).bind fun y1 =>
    bif ((decide (0 ≤ i)) && (decide (i < (out.length : Int)))) then (laws_toHunkS.l6 a (out.set (i).toNat (y1.1, y1.2.1, y1.2.2)) (w64 (i + 1))) else none) else none) else (some out)) :=
  (fixP_eq laws_toHunkS.E laws_toHunkS.T laws_toHunkS.C laws_toHunkS.K 6 laws_toHunkS.D6 (a, out, i)).trans (by kernel_rfl)
theorem laws_toHunkS.f_eq (a : List (Int × Int × List ByteArray)) : laws_toHunkS.f a =
  (bif ((decide (0 ≤ (a.length : Int))) && (decide (((a.length : Int)).toNat ≤ room 40))) then (laws_toHunkS.l6 a (List.replicate ((a.length : Int)).toNat (0, 0, ([] : List ByteArray))) 0) else none) := by kernel_rfl
noncomputable def laws_toHunkS.S : Abs.Sum := ⟨laws_toHunkS.P, laws_toHunkS.R, fun _ => Fn laws_toHunkS.E laws_toHunkS.T laws_toHunkS.C laws_toHunkS.P laws_toHunkS.R laws_toHunkS.X⟩
theorem laws_toHunkS.meets : Meets Try.prog 165 laws_toHunkS.S := meets_tab (S := laws_toHunkS.U) tabOk_all (AllMeets.cons laws_toHunk.meets AllMeets.nil) (AllStill.cons (fun _ _ _ => rfl) AllStill.nil) follows (by kernel_rfl : Try.prog.funcs[165]? = some Try.f165) (by kernel_rfl) (by kernel_rfl) (by kernel_rfl)
noncomputable def laws_toHunkSS.C : Code := Try.f88.body.getD .skip
def laws_toHunkSS.P : Par := (.cons (.val (.list (.list (.pair (.int .i64) (.pair (.int .i64) (.one (.list .str))))))) .nil)
noncomputable def laws_toHunkSS.U : SumTab := [(165, [], laws_toHunkS.S)]
noncomputable def laws_toHunkSS.E : Env := mkEnv TY AR laws_toHunkSS.U
def laws_toHunkSS.D6 : CutD := ⟨[0, 3, 4], (.cons (.val (.list (.list (.pair (.int .i64) (.pair (.int .i64) (.one (.list .str))))))) (.cons (.own 9 (.list (.pair (.int .i64) (.pair (.int .i64) (.one (.list .str)))))) (.cons (.val (.int .i64)) .nil)))⟩
noncomputable def laws_toHunkSS.T : Tab := fun k => look k [(6, laws_toHunkSS.D6)]
def laws_toHunkSS.R : List (Nat × Ty) := [(9, .list (.list (.pair (.int .i64) (.pair (.int .i64) (.one (.list .str))))))]
def laws_toHunkSS.X : List ResultVar := [.tmp 2]
noncomputable def laws_toHunkSS.K := fin laws_toHunkSS.E ⟨laws_toHunkSS.P, laws_toHunkSS.R, fun _ _ => none⟩ laws_toHunkSS.X laws_toHunkSS.P.len 0
noncomputable def laws_toHunkSS.l6 (a : List (List (Int × Int × List ByteArray))) (out : List (List (Int × Int × List ByteArray))) (i : Int) : Option ((List (List (Int × Int × List ByteArray)))) := fixP laws_toHunkSS.E laws_toHunkSS.T laws_toHunkSS.C laws_toHunkSS.K 6 laws_toHunkSS.D6 (a, out, i)
noncomputable def laws_toHunkSS.f (a : List (List (Int × Int × List ByteArray))) : Option ((List (List (Int × Int × List ByteArray)))) := Fn laws_toHunkSS.E laws_toHunkSS.T laws_toHunkSS.C laws_toHunkSS.P laws_toHunkSS.R laws_toHunkSS.X a
theorem laws_toHunkSS.l6_eq (a : List (List (Int × Int × List ByteArray))) (out : List (List (Int × Int × List ByteArray))) (i : Int) : laws_toHunkSS.l6 a out i =
  (bif (decide (i < (a.length : Int))) then (bif ((decide (0 ≤ i)) && (decide (i < (a.length : Int)))) then ((laws_toHunkS.f (a.getD (i).toNat ([] : List (Int × Int × List ByteArray)))).bind fun y1 =>
    bif ((decide (0 ≤ i)) && (decide (i < (out.length : Int)))) then (laws_toHunkSS.l6 a (out.set (i).toNat y1) (w64 (i + 1))) else none) else none) else (some out)) :=
  (fixP_eq laws_toHunkSS.E laws_toHunkSS.T laws_toHunkSS.C laws_toHunkSS.K 6 laws_toHunkSS.D6 (a, out, i)).trans (by kernel_rfl)
theorem laws_toHunkSS.f_eq (a : List (List (Int × Int × List ByteArray))) : laws_toHunkSS.f a =
  (bif ((decide (0 ≤ (a.length : Int))) && (decide (((a.length : Int)).toNat ≤ room 24))) then (laws_toHunkSS.l6 a (List.replicate ((a.length : Int)).toNat ([] : List (Int × Int × List ByteArray))) 0) else none) := by kernel_rfl
noncomputable def laws_toHunkSS.S : Abs.Sum := ⟨laws_toHunkSS.P, laws_toHunkSS.R, fun _ => Fn laws_toHunkSS.E laws_toHunkSS.T laws_toHunkSS.C laws_toHunkSS.P laws_toHunkSS.R laws_toHunkSS.X⟩
theorem laws_toHunkSS.meets : Meets Try.prog 88 laws_toHunkSS.S := meets_tab (S := laws_toHunkSS.U) tabOk_all (AllMeets.cons laws_toHunkS.meets AllMeets.nil) (AllStill.cons (fun _ _ _ => rfl) AllStill.nil) follows (by kernel_rfl : Try.prog.funcs[88]? = some Try.f88) (by kernel_rfl) (by kernel_rfl) (by kernel_rfl)
noncomputable def laws_toSeries.C : Code := Try.f13.body.getD .skip
def laws_toSeries.P : Par := (.cons (.val (.pair (.list .str) (.one (.list (.list (.pair (.int .i64) (.pair (.int .i64) (.one (.list .str))))))))) .nil)
noncomputable def laws_toSeries.U : SumTab := [(14, [], laws_toStringS.S), (88, [], laws_toHunkSS.S)]
noncomputable def laws_toSeries.E : Env := mkEnv TY AR laws_toSeries.U
noncomputable def laws_toSeries.T : Tab := fun k => look k []
def laws_toSeries.R : List (Nat × Ty) := [(9, .pair (.list .str) (.one (.list (.list (.pair (.int .i64) (.pair (.int .i64) (.one (.list .str))))))))]
def laws_toSeries.X : List ResultVar := [.cell 2 30]
noncomputable def laws_toSeries.f (a : (List ByteArray) × List (List (Int × Int × List ByteArray))) : Option (((List ByteArray) × List (List (Int × Int × List ByteArray)))) := Fn laws_toSeries.E laws_toSeries.T laws_toSeries.C laws_toSeries.P laws_toSeries.R laws_toSeries.X a
theorem laws_toSeries.f_eq (a : (List ByteArray) × List (List (Int × Int × List ByteArray))) : laws_toSeries.f a =
  ((laws_toStringS.f a.1).bind fun y1 =>
  (laws_toHunkSS.f a.2).bind fun y2 =>
  some (y1, y2)) := by kernel_rfl
noncomputable def laws_toSeries.S : Abs.Sum := ⟨laws_toSeries.P, laws_toSeries.R, fun _ => Fn laws_toSeries.E laws_toSeries.T laws_toSeries.C laws_toSeries.P laws_toSeries.R laws_toSeries.X⟩
theorem laws_toSeries.meets : Meets Try.prog 13 laws_toSeries.S := meets_tab (S := laws_toSeries.U) tabOk_all (AllMeets.cons laws_toStringS.meets (AllMeets.cons laws_toHunkSS.meets AllMeets.nil)) (AllStill.cons (fun _ _ _ => rfl) (AllStill.cons (fun _ _ _ => rfl) AllStill.nil)) follows (by kernel_rfl : Try.prog.funcs[13]? = some Try.f13) (by kernel_rfl) (by kernel_rfl) (by kernel_rfl)
noncomputable def spec_l1In.C : Code := Try.f113.body.getD .skip
def spec_l1In.P : Par := (.cons (.val (.int .i64)) (.cons (.val (.int .i64)) (.cons (.val (.int .i64)) .nil)))
noncomputable def spec_l1In.U : SumTab := []
noncomputable def spec_l1In.E : Env := mkEnv TY AR spec_l1In.U
noncomputable def spec_l1In.T : Tab := fun k => look k []
def spec_l1In.R : List (Nat × Ty) := [(0, .bool)]
def spec_l1In.X : List ResultVar := [.tmp 6]
noncomputable def spec_l1In.f (n : Int) (lo : Int) (hi : Int) : Option (Bool) := Fn spec_l1In.E spec_l1In.T spec_l1In.C spec_l1In.P spec_l1In.R spec_l1In.X (n, lo, hi)
theorem spec_l1In.f_eq (n : Int) (lo : Int) (hi : Int) : spec_l1In.f n lo hi =
  (bif (decide (n ≥ lo)) then (some (decide (n ≤ hi))) else (some false)) := by kernel_rfl
noncomputable def spec_l1In.S : Abs.Sum := ⟨spec_l1In.P, spec_l1In.R, fun _ => Fn spec_l1In.E spec_l1In.T spec_l1In.C spec_l1In.P spec_l1In.R spec_l1In.X⟩
theorem spec_l1In.meets : Meets Try.prog 113 spec_l1In.S := meets_tab (S := spec_l1In.U) tabOk_all AllMeets.nil AllStill.nil follows (by kernel_rfl : Try.prog.funcs[113]? = some Try.f113) (by kernel_rfl) (by kernel_rfl) (by kernel_rfl)
noncomputable def spec_l1Line.C : Code := Try.f159.body.getD .skip
def spec_l1Line.P : Par := (.cons (.val .str) .nil)
noncomputable def spec_l1Line.U : SumTab := [(113, [], spec_l1In.S)]
noncomputable def spec_l1Line.E : Env := mkEnv TY AR spec_l1Line.U
def spec_l1Line.D4 : CutD := ⟨[0, 3], (.cons (.val .str) (.cons (.val (.int .i64)) .nil))⟩
noncomputable def spec_l1Line.T : Tab := fun k => look k [(4, spec_l1Line.D4)]
def spec_l1Line.R : List (Nat × Ty) := [(0, .bool)]
def spec_l1Line.X : List ResultVar := [.tmp 2]
noncomputable def spec_l1Line.K := fin spec_l1Line.E ⟨spec_l1Line.P, spec_l1Line.R, fun _ _ => none⟩ spec_l1Line.X spec_l1Line.P.len 0
noncomputable def spec_l1Line.l4 (s : ByteArray) (i : Int) : Option (Bool) := fixP spec_l1Line.E spec_l1Line.T spec_l1Line.C spec_l1Line.K 4 spec_l1Line.D4 (s, i)
noncomputable def spec_l1Line.f (s : ByteArray) : Option (Bool) := Fn spec_l1Line.E spec_l1Line.T spec_l1Line.C spec_l1Line.P spec_l1Line.R spec_l1Line.X s
theorem spec_l1Line.l4_eq (s : ByteArray) (i : Int) : spec_l1Line.l4 s i =
  (bif (decide (i < (w64 ((s.size : Int) - 1)))) then (bif ((decide (0 ≤ i)) && (decide (i < (s.size : Int)))) then (bif (decide ((bt s i) = 10)) then (some false) else
    (spec_l1Line.l4 s (w64 (i + 1)))) else none) else
  ((spec_l1In.f (s.size : Int) 1 30).bind fun y1 =>
   some y1)) :=
  (fixP_eq spec_l1Line.E spec_l1Line.T spec_l1Line.C spec_l1Line.K 4 spec_l1Line.D4 (s, i)).trans (by kernel_rfl)
theorem spec_l1Line.f_eq (s : ByteArray) : spec_l1Line.f s =
  (spec_l1Line.l4 s 0) := by kernel_rfl
noncomputable def spec_l1Line.S : Abs.Sum := ⟨spec_l1Line.P, spec_l1Line.R, fun _ => Fn spec_l1Line.E spec_l1Line.T spec_l1Line.C spec_l1Line.P spec_l1Line.R spec_l1Line.X⟩
theorem spec_l1Line.meets : Meets Try.prog 159 spec_l1Line.S := meets_tab (S := spec_l1Line.U) tabOk_all (AllMeets.cons spec_l1In.meets AllMeets.nil) (AllStill.cons (fun _ _ _ => rfl) AllStill.nil) follows (by kernel_rfl : Try.prog.funcs[159]? = some Try.f159) (by kernel_rfl) (by kernel_rfl) (by kernel_rfl)
noncomputable def spec_l1Ends.C : Code := Try.f160.body.getD .skip
def spec_l1Ends.P : Par := (.cons (.val .str) .nil)
noncomputable def spec_l1Ends.U : SumTab := []
noncomputable def spec_l1Ends.E : Env := mkEnv TY AR spec_l1Ends.U
noncomputable def spec_l1Ends.T : Tab := fun k => look k []
def spec_l1Ends.R : List (Nat × Ty) := [(0, .bool)]
def spec_l1Ends.X : List ResultVar := [.tmp 2]
noncomputable def spec_l1Ends.f (s : ByteArray) : Option (Bool) := Fn spec_l1Ends.E spec_l1Ends.T spec_l1Ends.C spec_l1Ends.P spec_l1Ends.R spec_l1Ends.X s
theorem spec_l1Ends.f_eq (s : ByteArray) : spec_l1Ends.f s =
  (bif ((decide (0 ≤ (w64 ((s.size : Int) - 1)))) && (decide ((w64 ((s.size : Int) - 1)) < (s.size : Int)))) then (some (decide ((bt s (w64 ((s.size : Int) - 1))) = 10))) else none) := by kernel_rfl
noncomputable def spec_l1Ends.S : Abs.Sum := ⟨spec_l1Ends.P, spec_l1Ends.R, fun _ => Fn spec_l1Ends.E spec_l1Ends.T spec_l1Ends.C spec_l1Ends.P spec_l1Ends.R spec_l1Ends.X⟩
theorem spec_l1Ends.meets : Meets Try.prog 160 spec_l1Ends.S := meets_tab (S := spec_l1Ends.U) tabOk_all AllMeets.nil AllStill.nil follows (by kernel_rfl : Try.prog.funcs[160]? = some Try.f160) (by kernel_rfl) (by kernel_rfl) (by kernel_rfl)
noncomputable def spec_l1Good.C : Code := Try.f84.body.getD .skip
def spec_l1Good.P : Par := (.cons (.val (.list .str)) .nil)
noncomputable def spec_l1Good.U : SumTab := [(159, [], spec_l1Line.S), (160, [], spec_l1Ends.S)]
noncomputable def spec_l1Good.E : Env := mkEnv TY AR spec_l1Good.U
def spec_l1Good.D4 : CutD := ⟨[0, 5, 6, 7], (.cons (.val (.list .str)) (.cons (.val (.list .str)) (.cons (.val (.int .i64)) (.cons (.val (.int .i64)) .nil))))⟩
noncomputable def spec_l1Good.T : Tab := fun k => look k [(4, spec_l1Good.D4)]
def spec_l1Good.R : List (Nat × Ty) := [(0, .bool)]
def spec_l1Good.X : List ResultVar := [.tmp 2]
noncomputable def spec_l1Good.K := fin spec_l1Good.E ⟨spec_l1Good.P, spec_l1Good.R, fun _ _ => none⟩ spec_l1Good.X spec_l1Good.P.len 0
noncomputable def spec_l1Good.l4 (l : List ByteArray) (t5 : List ByteArray) (t6 : Int) (t7 : Int) : Option (Bool) := fixP spec_l1Good.E spec_l1Good.T spec_l1Good.C spec_l1Good.K 4 spec_l1Good.D4 (l, t5, t6, t7)
noncomputable def spec_l1Good.f (l : List ByteArray) : Option (Bool) := Fn spec_l1Good.E spec_l1Good.T spec_l1Good.C spec_l1Good.P spec_l1Good.R spec_l1Good.X l
theorem spec_l1Good.l4_eq (l : List ByteArray) (t5 : List ByteArray) (t6 : Int) (t7 : Int) : spec_l1Good.l4 l t5 t6 t7 =
  (bif (decide (t7 < t6)) then (bif ((decide (0 ≤ t7)) && (decide (t7 < (t5.length : Int)))) then ((spec_l1Line.f (t5.getD (t7).toNat em)).bind fun y1 =>
    bif (!y1) then (some false) else
    (bif (decide (t7 < (w64 ((l.length : Int) - 1)))) then ((spec_l1Ends.f (t5.getD (t7).toNat em)).bind fun y2 =>
      bif (!y2) then (some false) else
      (spec_l1Good.l4 l t5 t6 (w64 (t7 + 1)))) else
     (spec_l1Good.l4 l t5 t6 (w64 (t7 + 1))))) else none) else (some (decide ((l.length : Int) ≤ 40)))) :=
  (fixP_eq spec_l1Good.E spec_l1Good.T spec_l1Good.C spec_l1Good.K 4 spec_l1Good.D4 (l, t5, t6, t7)).trans (by kernel_rfl)
theorem spec_l1Good.f_eq (l : List ByteArray) : spec_l1Good.f l =
  (spec_l1Good.l4 l l (l.length : Int) 0) := by kernel_rfl
noncomputable def spec_l1Good.S : Abs.Sum := ⟨spec_l1Good.P, spec_l1Good.R, fun _ => Fn spec_l1Good.E spec_l1Good.T spec_l1Good.C spec_l1Good.P spec_l1Good.R spec_l1Good.X⟩
theorem spec_l1Good.meets : Meets Try.prog 84 spec_l1Good.S := meets_tab (S := spec_l1Good.U) tabOk_all (AllMeets.cons spec_l1Line.meets (AllMeets.cons spec_l1Ends.meets AllMeets.nil)) (AllStill.cons (fun _ _ _ => rfl) (AllStill.cons (fun _ _ _ => rfl) AllStill.nil)) follows (by kernel_rfl : Try.prog.funcs[84]? = some Try.f84) (by kernel_rfl) (by kernel_rfl) (by kernel_rfl)
noncomputable def spec_l2Hunks.C : Code := Try.f161.body.getD .skip
def spec_l2Hunks.P : Par := (.cons (.val (.int .i64)) (.cons (.val (.list (.pair (.int .i64) (.pair (.int .i64) (.one (.list .str)))))) .nil))
noncomputable def spec_l2Hunks.U : SumTab := [(159, [], spec_l1Line.S), (113, [], spec_l1In.S)]
noncomputable def spec_l2Hunks.E : Env := mkEnv TY AR spec_l2Hunks.U
def spec_l2Hunks.D4 : CutD := ⟨[0, 1, 9, 10, 11], (.cons (.val (.int .i64)) (.cons (.val (.list (.pair (.int .i64) (.pair (.int .i64) (.one (.list .str)))))) (.cons (.val (.list (.pair (.int .i64) (.pair (.int .i64) (.one (.list .str)))))) (.cons (.val (.int .i64)) (.cons (.val (.int .i64)) .nil)))))⟩
def spec_l2Hunks.D13 : CutD := ⟨[0, 1, 6, 9, 10, 11], (.cons (.val (.int .i64)) (.cons (.val (.list (.pair (.int .i64) (.pair (.int .i64) (.one (.list .str)))))) (.cons (.box 0 (.pair (.int .i64) (.pair (.int .i64) (.one (.list .str))))) (.cons (.val (.list (.pair (.int .i64) (.pair (.int .i64) (.one (.list .str)))))) (.cons (.val (.int .i64)) (.cons (.val (.int .i64)) .nil))))))⟩
def spec_l2Hunks.D14 : CutD := ⟨[0, 1, 9, 10, 11, 77, 78, 79], (.cons (.val (.int .i64)) (.cons (.val (.list (.pair (.int .i64) (.pair (.int .i64) (.one (.list .str)))))) (.cons (.val (.list (.pair (.int .i64) (.pair (.int .i64) (.one (.list .str)))))) (.cons (.val (.int .i64)) (.cons (.val (.int .i64)) (.cons (.val (.list .str)) (.cons (.val (.int .i64)) (.cons (.val (.int .i64)) .nil))))))))⟩
noncomputable def spec_l2Hunks.T : Tab := fun k => look k [(4, spec_l2Hunks.D4), (13, spec_l2Hunks.D13), (14, spec_l2Hunks.D14)]
def spec_l2Hunks.R : List (Nat × Ty) := [(0, .bool)]
def spec_l2Hunks.X : List ResultVar := [.tmp 4]
noncomputable def spec_l2Hunks.K := fin spec_l2Hunks.E ⟨spec_l2Hunks.P, spec_l2Hunks.R, fun _ _ => none⟩ spec_l2Hunks.X spec_l2Hunks.P.len 0
noncomputable def spec_l2Hunks.l4 (many : Int) (h : List (Int × Int × List ByteArray)) (t9 : List (Int × Int × List ByteArray)) (t10 : Int) (t11 : Int) : Option (Bool) := fixP spec_l2Hunks.E spec_l2Hunks.T spec_l2Hunks.C spec_l2Hunks.K 4 spec_l2Hunks.D4 (many, h, t9, t10, t11)
noncomputable def spec_l2Hunks.l13 (many : Int) (h : List (Int × Int × List ByteArray)) (x : Int × Int × List ByteArray) (t9 : List (Int × Int × List ByteArray)) (t10 : Int) (t11 : Int) : Option (Bool) := fixP spec_l2Hunks.E spec_l2Hunks.T spec_l2Hunks.C spec_l2Hunks.K 13 spec_l2Hunks.D13 (many, h, x, t9, t10, t11)
noncomputable def spec_l2Hunks.l14 (many : Int) (h : List (Int × Int × List ByteArray)) (t9 : List (Int × Int × List ByteArray)) (t10 : Int) (t11 : Int) (t77 : List ByteArray) (t78 : Int) (t79 : Int) : Option (Bool) := fixP spec_l2Hunks.E spec_l2Hunks.T spec_l2Hunks.C spec_l2Hunks.K 14 spec_l2Hunks.D14 (many, h, t9, t10, t11, t77, t78, t79)
noncomputable def spec_l2Hunks.f (many : Int) (h : List (Int × Int × List ByteArray)) : Option (Bool) := Fn spec_l2Hunks.E spec_l2Hunks.T spec_l2Hunks.C spec_l2Hunks.P spec_l2Hunks.R spec_l2Hunks.X (many, h)
theorem spec_l2Hunks.l4_eq (many : Int) (h : List (Int × Int × List ByteArray)) (t9 : List (Int × Int × List ByteArray)) (t10 : Int) (t11 : Int) : spec_l2Hunks.l4 many h t9 t10 t11 =
  (bif (decide (t11 < t10)) then (bif ((decide (0 ≤ t11)) && (decide (t11 < (t9.length : Int)))) then (bif (decide ((t9.getD (t11).toNat (0, 0, ([] : List ByteArray))).1 < 0)) then (some false) else
    (bif (decide ((t9.getD (t11).toNat (0, 0, ([] : List ByteArray))).2.1 < 0)) then (some false) else
     (bif (decide ((t9.getD (t11).toNat (0, 0, ([] : List ByteArray))).2.1 > many)) then (some false) else
      (bif (decide ((t9.getD (t11).toNat (0, 0, ([] : List ByteArray))).1 > (w64 (many - (t9.getD (t11).toNat (0, 0, ([] : List ByteArray))).2.1)))) then (some false) else
       (bif (decide ((w64 ((t9.getD (t11).toNat (0, 0, ([] : List ByteArray))).2.1 + ((t9.getD (t11).toNat (0, 0, ([] : List ByteArray))).2.2.length : Int))) = 0)) then (some false) else
        (bif (decide (((t9.getD (t11).toNat (0, 0, ([] : List ByteArray))).2.2.length : Int) > 40)) then (some false) else
         (bif (decide (t11 > 0)) then (bif ((decide (0 ≤ (w64 (t11 - 1)))) && (decide ((w64 (t11 - 1)) < (h.length : Int)))) then (bif ((decide (0 ≤ (w64 (t11 - 1)))) && (decide ((w64 (t11 - 1)) < (h.length : Int)))) then (bif (decide ((t9.getD (t11).toNat (0, 0, ([] : List ByteArray))).1 ≤ (w64 ((h.getD ((w64 (t11 - 1))).toNat (0, 0, ([] : List ByteArray))).1 + (h.getD ((w64 (t11 - 1))).toNat (0, 0, ([] : List ByteArray))).2.1)))) then (some false) else
             (spec_l2Hunks.l13 many h (t9.getD (t11).toNat (0, 0, ([] : List ByteArray))) t9 t10 t11)) else none) else none) else
          (spec_l2Hunks.l13 many h (t9.getD (t11).toNat (0, 0, ([] : List ByteArray))) t9 t10 t11)))))))) else none) else
  (bif (decide ((h.length : Int) ≤ 20)) then ((spec_l1In.f many 0 40).bind fun y1 =>
    some y1) else (some false))) :=
  (fixP_eq spec_l2Hunks.E spec_l2Hunks.T spec_l2Hunks.C spec_l2Hunks.K 4 spec_l2Hunks.D4 (many, h, t9, t10, t11)).trans (by kernel_rfl)
theorem spec_l2Hunks.l13_eq (many : Int) (h : List (Int × Int × List ByteArray)) (x : Int × Int × List ByteArray) (t9 : List (Int × Int × List ByteArray)) (t10 : Int) (t11 : Int) : spec_l2Hunks.l13 many h x t9 t10 t11 =
  (spec_l2Hunks.l14 many h t9 t10 t11 x.2.2 (x.2.2.length : Int) 0) :=
  (fixP_eq spec_l2Hunks.E spec_l2Hunks.T spec_l2Hunks.C spec_l2Hunks.K 13 spec_l2Hunks.D13 (many, h, x, t9, t10, t11)).trans (by kernel_rfl)
theorem spec_l2Hunks.l14_eq (many : Int) (h : List (Int × Int × List ByteArray)) (t9 : List (Int × Int × List ByteArray)) (t10 : Int) (t11 : Int) (t77 : List ByteArray) (t78 : Int) (t79 : Int) : spec_l2Hunks.l14 many h t9 t10 t11 t77 t78 t79 =
  (bif (decide (t79 < t78)) then (bif ((decide (0 ≤ t79)) && (decide (t79 < (t77.length : Int)))) then ((spec_l1Line.f (t77.getD (t79).toNat em)).bind fun y1 =>
    bif (!y1) then (some false) else
    (spec_l2Hunks.l14 many h t9 t10 t11 t77 t78 (w64 (t79 + 1)))) else none) else
  (spec_l2Hunks.l4 many h t9 t10 (w64 (t11 + 1)))) :=
  (fixP_eq spec_l2Hunks.E spec_l2Hunks.T spec_l2Hunks.C spec_l2Hunks.K 14 spec_l2Hunks.D14 (many, h, t9, t10, t11, t77, t78, t79)).trans (by kernel_rfl)
theorem spec_l2Hunks.f_eq (many : Int) (h : List (Int × Int × List ByteArray)) : spec_l2Hunks.f many h =
  (spec_l2Hunks.l4 many h h (h.length : Int) 0) := by kernel_rfl
noncomputable def spec_l2Hunks.S : Abs.Sum := ⟨spec_l2Hunks.P, spec_l2Hunks.R, fun _ => Fn spec_l2Hunks.E spec_l2Hunks.T spec_l2Hunks.C spec_l2Hunks.P spec_l2Hunks.R spec_l2Hunks.X⟩
theorem spec_l2Hunks.meets : Meets Try.prog 161 spec_l2Hunks.S := meets_tab (S := spec_l2Hunks.U) tabOk_all (AllMeets.cons spec_l1Line.meets (AllMeets.cons spec_l1In.meets AllMeets.nil)) (AllStill.cons (fun _ _ _ => rfl) (AllStill.cons (fun _ _ _ => rfl) AllStill.nil)) follows (by kernel_rfl : Try.prog.funcs[161]? = some Try.f161) (by kernel_rfl) (by kernel_rfl) (by kernel_rfl)
noncomputable def spec_l2Asked.C : Code := Try.f192.body.getD .skip
def spec_l2Asked.P : Par := (.cons (.val (.list .str)) (.cons (.val (.list (.pair (.int .i64) (.pair (.int .i64) (.one (.list .str)))))) .nil))
noncomputable def spec_l2Asked.U : SumTab := [(84, [], spec_l1Good.S), (161, [], spec_l2Hunks.S)]
noncomputable def spec_l2Asked.E : Env := mkEnv TY AR spec_l2Asked.U
noncomputable def spec_l2Asked.T : Tab := fun k => look k []
def spec_l2Asked.R : List (Nat × Ty) := [(0, .bool)]
def spec_l2Asked.X : List ResultVar := [.tmp 4]
noncomputable def spec_l2Asked.f (l : List ByteArray) (h : List (Int × Int × List ByteArray)) : Option (Bool) := Fn spec_l2Asked.E spec_l2Asked.T spec_l2Asked.C spec_l2Asked.P spec_l2Asked.R spec_l2Asked.X (l, h)
theorem spec_l2Asked.f_eq (l : List ByteArray) (h : List (Int × Int × List ByteArray)) : spec_l2Asked.f l h =
  ((spec_l1Good.f l).bind fun y1 =>
  bif y1 then ((spec_l2Hunks.f (l.length : Int) h).bind fun y2 =>
   some y2) else (some false)) := by kernel_rfl
noncomputable def spec_l2Asked.S : Abs.Sum := ⟨spec_l2Asked.P, spec_l2Asked.R, fun _ => Fn spec_l2Asked.E spec_l2Asked.T spec_l2Asked.C spec_l2Asked.P spec_l2Asked.R spec_l2Asked.X⟩
theorem spec_l2Asked.meets : Meets Try.prog 192 spec_l2Asked.S := meets_tab (S := spec_l2Asked.U) tabOk_all (AllMeets.cons spec_l1Good.meets (AllMeets.cons spec_l2Hunks.meets AllMeets.nil)) (AllStill.cons (fun _ _ _ => rfl) (AllStill.cons (fun _ _ _ => rfl) AllStill.nil)) follows (by kernel_rfl : Try.prog.funcs[192]? = some Try.f192) (by kernel_rfl) (by kernel_rfl) (by kernel_rfl)
noncomputable def spec_l2Patch.C : Code := Try.f163.body.getD .skip
def spec_l2Patch.P : Par := (.cons (.val (.list .str)) (.cons (.val (.list (.pair (.int .i64) (.pair (.int .i64) (.one (.list .str)))))) .nil))
noncomputable def spec_l2Patch.U : SumTab := []
noncomputable def spec_l2Patch.E : Env := mkEnv TY AR spec_l2Patch.U
def spec_l2Patch.D8 : CutD := ⟨[0, 5, 6, 9, 10, 11], (.cons (.val (.list .str)) (.cons (.own 9 .str) (.cons (.val (.int .i64)) (.cons (.val (.list (.pair (.int .i64) (.pair (.int .i64) (.one (.list .str)))))) (.cons (.val (.int .i64)) (.cons (.val (.int .i64)) .nil))))))⟩
noncomputable def spec_l2Patch.T : Tab := fun k => look k [(8, spec_l2Patch.D8)]
def spec_l2Patch.R : List (Nat × Ty) := [(9, .list .str)]
def spec_l2Patch.X : List ResultVar := [.tmp 4]
noncomputable def spec_l2Patch.K := fin spec_l2Patch.E ⟨spec_l2Patch.P, spec_l2Patch.R, fun _ _ => none⟩ spec_l2Patch.X spec_l2Patch.P.len 0
noncomputable def spec_l2Patch.l8 (l : List ByteArray) (out : List ByteArray) (t6 : Int) (t9 : List (Int × Int × List ByteArray)) (t10 : Int) (t11 : Int) : Option ((List ByteArray)) := fixP spec_l2Patch.E spec_l2Patch.T spec_l2Patch.C spec_l2Patch.K 8 spec_l2Patch.D8 (l, out, t6, t9, t10, t11)
noncomputable def spec_l2Patch.f (l : List ByteArray) (h : List (Int × Int × List ByteArray)) : Option ((List ByteArray)) := Fn spec_l2Patch.E spec_l2Patch.T spec_l2Patch.C spec_l2Patch.P spec_l2Patch.R spec_l2Patch.X (l, h)
theorem spec_l2Patch.l8_eq (l : List ByteArray) (out : List ByteArray) (t6 : Int) (t9 : List (Int × Int × List ByteArray)) (t10 : Int) (t11 : Int) : spec_l2Patch.l8 l out t6 t9 t10 t11 =
  (bif (decide (t11 < t10)) then (bif ((decide (0 ≤ t11)) && (decide (t11 < (t9.length : Int)))) then (bif ((decide (0 ≤ t6)) && ((decide (t6 ≤ (t9.getD (t11).toNat (0, 0, ([] : List ByteArray))).1)) && (decide ((t9.getD (t11).toNat (0, 0, ([] : List ByteArray))).1 ≤ (l.length : Int))))) then (bif (decide ((out.length + ((l.take ((t9.getD (t11).toNat (0, 0, ([] : List ByteArray))).1).toNat).drop (t6).toNat).length) ≤ room 16)) then (bif (decide (((out ++ ((l.take ((t9.getD (t11).toNat (0, 0, ([] : List ByteArray))).1).toNat).drop (t6).toNat)).length + (t9.getD (t11).toNat (0, 0, ([] : List ByteArray))).2.2.length) ≤ room 16)) then (spec_l2Patch.l8 l ((out ++ ((l.take ((t9.getD (t11).toNat (0, 0, ([] : List ByteArray))).1).toNat).drop (t6).toNat)) ++ (t9.getD (t11).toNat (0, 0, ([] : List ByteArray))).2.2) (w64 ((t9.getD (t11).toNat (0, 0, ([] : List ByteArray))).1 + (t9.getD (t11).toNat (0, 0, ([] : List ByteArray))).2.1)) t9 t10 (w64 (t11 + 1))) else none) else none) else none) else none) else
  (bif ((decide (0 ≤ t6)) && (decide (t6 ≤ (l.length : Int)))) then (bif (decide ((out.length + (l.drop (t6).toNat).length) ≤ room 16)) then (some (out ++ (l.drop (t6).toNat))) else none) else none)) :=
  (fixP_eq spec_l2Patch.E spec_l2Patch.T spec_l2Patch.C spec_l2Patch.K 8 spec_l2Patch.D8 (l, out, t6, t9, t10, t11)).trans (by kernel_rfl)
theorem spec_l2Patch.f_eq (l : List ByteArray) (h : List (Int × Int × List ByteArray)) : spec_l2Patch.f l h =
  (spec_l2Patch.l8 l ([] : List ByteArray) 0 h (h.length : Int) 0) := by kernel_rfl
noncomputable def spec_l2Patch.S : Abs.Sum := ⟨spec_l2Patch.P, spec_l2Patch.R, fun _ => Fn spec_l2Patch.E spec_l2Patch.T spec_l2Patch.C spec_l2Patch.P spec_l2Patch.R spec_l2Patch.X⟩
theorem spec_l2Patch.meets : Meets Try.prog 163 spec_l2Patch.S := meets_tab (S := spec_l2Patch.U) tabOk_all AllMeets.nil AllStill.nil follows (by kernel_rfl : Try.prog.funcs[163]? = some Try.f163) (by kernel_rfl) (by kernel_rfl) (by kernel_rfl)
noncomputable def spec_Patch.C : Code := Try.f138.body.getD .skip
def spec_Patch.P : Par := (.cons (.val (.list .str)) (.cons (.val (.list (.pair (.int .i64) (.pair (.int .i64) (.one (.list .str)))))) .nil))
noncomputable def spec_Patch.U : SumTab := [(192, [], spec_l2Asked.S), (163, [], spec_l2Patch.S), (84, [], spec_l1Good.S)]
noncomputable def spec_Patch.E : Env := mkEnv TY AR spec_Patch.U
noncomputable def spec_Patch.T : Tab := fun k => look k []
def spec_Patch.R : List (Nat × Ty) := [(9, .list .str), (0, .bool)]
def spec_Patch.X : List ResultVar := [.tmp 4, .tmp 5]
noncomputable def spec_Patch.f (l : List ByteArray) (h : List (Int × Int × List ByteArray)) : Option ((List ByteArray) × Bool) := Fn spec_Patch.E spec_Patch.T spec_Patch.C spec_Patch.P spec_Patch.R spec_Patch.X (l, h)
theorem spec_Patch.f_eq (l : List ByteArray) (h : List (Int × Int × List ByteArray)) : spec_Patch.f l h =
  ((spec_l2Asked.f l h).bind fun y1 =>
  bif (!y1) then (some (([] : List ByteArray), false)) else
  ((spec_l2Patch.f l h).bind fun y2 =>
   (spec_l1Good.f y2).bind fun y3 =>
   bif (!y3) then (some (([] : List ByteArray), false)) else (some (y2, true)))) := by kernel_rfl
noncomputable def spec_Patch.S : Abs.Sum := ⟨spec_Patch.P, spec_Patch.R, fun _ => Fn spec_Patch.E spec_Patch.T spec_Patch.C spec_Patch.P spec_Patch.R spec_Patch.X⟩
theorem spec_Patch.meets : Meets Try.prog 138 spec_Patch.S := meets_tab (S := spec_Patch.U) tabOk_all (AllMeets.cons spec_l2Asked.meets (AllMeets.cons spec_l2Patch.meets (AllMeets.cons spec_l1Good.meets AllMeets.nil))) (AllStill.cons (fun _ _ _ => rfl) (AllStill.cons (fun _ _ _ => rfl) (AllStill.cons (fun _ _ _ => rfl) AllStill.nil))) follows (by kernel_rfl : Try.prog.funcs[138]? = some Try.f138) (by kernel_rfl) (by kernel_rfl) (by kernel_rfl)
noncomputable def spec_l13Good.C : Code := Try.f83.body.getD .skip
def spec_l13Good.P : Par := (.cons (.val (.pair (.list .str) (.one (.list (.list (.pair (.int .i64) (.pair (.int .i64) (.one (.list .str))))))))) .nil)
noncomputable def spec_l13Good.U : SumTab := [(138, [], spec_Patch.S), (84, [], spec_l1Good.S)]
noncomputable def spec_l13Good.E : Env := mkEnv TY AR spec_l13Good.U
def spec_l13Good.D6 : CutD := ⟨[1, 3, 11, 12, 13], (.cons (.box 0 (.pair (.list .str) (.one (.list (.list (.pair (.int .i64) (.pair (.int .i64) (.one (.list .str))))))))) (.cons (.val (.list .str)) (.cons (.val (.list (.list (.pair (.int .i64) (.pair (.int .i64) (.one (.list .str))))))) (.cons (.val (.int .i64)) (.cons (.val (.int .i64)) .nil)))))⟩
noncomputable def spec_l13Good.T : Tab := fun k => look k [(6, spec_l13Good.D6)]
def spec_l13Good.R : List (Nat × Ty) := [(0, .bool)]
def spec_l13Good.X : List ResultVar := [.tmp 2]
noncomputable def spec_l13Good.K := fin spec_l13Good.E ⟨spec_l13Good.P, spec_l13Good.R, fun _ _ => none⟩ spec_l13Good.X spec_l13Good.P.len 0
noncomputable def spec_l13Good.l6 (s : (List ByteArray) × List (List (Int × Int × List ByteArray))) (l : List ByteArray) (t11 : List (List (Int × Int × List ByteArray))) (t12 : Int) (t13 : Int) : Option (Bool) := fixP spec_l13Good.E spec_l13Good.T spec_l13Good.C spec_l13Good.K 6 spec_l13Good.D6 (s, l, t11, t12, t13)
noncomputable def spec_l13Good.f (s : (List ByteArray) × List (List (Int × Int × List ByteArray))) : Option (Bool) := Fn spec_l13Good.E spec_l13Good.T spec_l13Good.C spec_l13Good.P spec_l13Good.R spec_l13Good.X s
theorem spec_l13Good.l6_eq (s : (List ByteArray) × List (List (Int × Int × List ByteArray))) (l : List ByteArray) (t11 : List (List (Int × Int × List ByteArray))) (t12 : Int) (t13 : Int) : spec_l13Good.l6 s l t11 t12 t13 =
  (bif (decide (t13 < t12)) then (bif ((decide (0 ≤ t13)) && (decide (t13 < (t11.length : Int)))) then ((spec_Patch.f l (t11.getD (t13).toNat ([] : List (Int × Int × List ByteArray)))).bind fun y1 =>
    bif (!y1.2) then (some false) else
    (spec_l13Good.l6 s y1.1 t11 t12 (w64 (t13 + 1)))) else none) else
  ((spec_l1Good.f s.1).bind fun y1 =>
   bif y1 then (some (decide ((s.2.length : Int) < 8))) else (some false))) :=
  (fixP_eq spec_l13Good.E spec_l13Good.T spec_l13Good.C spec_l13Good.K 6 spec_l13Good.D6 (s, l, t11, t12, t13)).trans (by kernel_rfl)
theorem spec_l13Good.f_eq (s : (List ByteArray) × List (List (Int × Int × List ByteArray))) : spec_l13Good.f s =
  (spec_l13Good.l6 s s.1 s.2 (s.2.length : Int) 0) := by kernel_rfl
noncomputable def spec_l13Good.S : Abs.Sum := ⟨spec_l13Good.P, spec_l13Good.R, fun _ => Fn spec_l13Good.E spec_l13Good.T spec_l13Good.C spec_l13Good.P spec_l13Good.R spec_l13Good.X⟩
theorem spec_l13Good.meets : Meets Try.prog 83 spec_l13Good.S := meets_tab (S := spec_l13Good.U) tabOk_all (AllMeets.cons spec_Patch.meets (AllMeets.cons spec_l1Good.meets AllMeets.nil)) (AllStill.cons (fun _ _ _ => rfl) (AllStill.cons (fun _ _ _ => rfl) AllStill.nil)) follows (by kernel_rfl : Try.prog.funcs[83]? = some Try.f83) (by kernel_rfl) (by kernel_rfl) (by kernel_rfl)
noncomputable def spec_l1OwnT.C : Code := Try.f122.body.getD .skip
def spec_l1OwnT.P : Par := (.cons (.val (.list .str)) .nil)
noncomputable def spec_l1OwnT.U : SumTab := []
noncomputable def spec_l1OwnT.E : Env := mkEnv TY AR spec_l1OwnT.U
noncomputable def spec_l1OwnT.T : Tab := fun k => look k []
def spec_l1OwnT.R : List (Nat × Ty) := [(9, .list .str)]
def spec_l1OwnT.X : List ResultVar := [.tmp 2]
noncomputable def spec_l1OwnT.f (l : List ByteArray) : Option ((List ByteArray)) := Fn spec_l1OwnT.E spec_l1OwnT.T spec_l1OwnT.C spec_l1OwnT.P spec_l1OwnT.R spec_l1OwnT.X l
theorem spec_l1OwnT.f_eq (l : List ByteArray) : spec_l1OwnT.f l =
  (bif (decide ((([] : List ByteArray).length + l.length) ≤ room 16)) then (some (([] : List ByteArray) ++ l)) else none) := by kernel_rfl
noncomputable def spec_l1OwnT.S : Abs.Sum := ⟨spec_l1OwnT.P, spec_l1OwnT.R, fun _ => Fn spec_l1OwnT.E spec_l1OwnT.T spec_l1OwnT.C spec_l1OwnT.P spec_l1OwnT.R spec_l1OwnT.X⟩
theorem spec_l1OwnT.meets : Meets Try.prog 122 spec_l1OwnT.S := meets_tab (S := spec_l1OwnT.U) tabOk_all AllMeets.nil AllStill.nil follows (by kernel_rfl : Try.prog.funcs[122]? = some Try.f122) (by kernel_rfl) (by kernel_rfl) (by kernel_rfl)
noncomputable def spec_l13At.C : Code := Try.f86.body.getD .skip
def spec_l13At.P : Par := (.cons (.val (.pair (.list .str) (.one (.list (.list (.pair (.int .i64) (.pair (.int .i64) (.one (.list .str))))))))) (.cons (.val (.int .i64)) .nil))
noncomputable def spec_l13At.U : SumTab := [(122, [], spec_l1OwnT.S), (163, [], spec_l2Patch.S)]
noncomputable def spec_l13At.E : Env := mkEnv TY AR spec_l13At.U
def spec_l13At.D6 : CutD := ⟨[5, 14, 15, 16], (.cons (.own 8 .str) (.cons (.val (.list (.list (.pair (.int .i64) (.pair (.int .i64) (.one (.list .str))))))) (.cons (.val (.int .i64)) (.cons (.val (.int .i64)) .nil))))⟩
noncomputable def spec_l13At.T : Tab := fun k => look k [(6, spec_l13At.D6)]
def spec_l13At.R : List (Nat × Ty) := [(9, .list .str)]
def spec_l13At.X : List ResultVar := [.tmp 4]
noncomputable def spec_l13At.K := fin spec_l13At.E ⟨spec_l13At.P, spec_l13At.R, fun _ _ => none⟩ spec_l13At.X spec_l13At.P.len 0
noncomputable def spec_l13At.l6 (l : List ByteArray) (t14 : List (List (Int × Int × List ByteArray))) (t15 : Int) (t16 : Int) : Option ((List ByteArray)) := fixP spec_l13At.E spec_l13At.T spec_l13At.C spec_l13At.K 6 spec_l13At.D6 (l, t14, t15, t16)
noncomputable def spec_l13At.f (s : (List ByteArray) × List (List (Int × Int × List ByteArray))) (n : Int) : Option ((List ByteArray)) := Fn spec_l13At.E spec_l13At.T spec_l13At.C spec_l13At.P spec_l13At.R spec_l13At.X (s, n)
theorem spec_l13At.l6_eq (l : List ByteArray) (t14 : List (List (Int × Int × List ByteArray))) (t15 : Int) (t16 : Int) : spec_l13At.l6 l t14 t15 t16 =
  (bif (decide (t16 < t15)) then (bif ((decide (0 ≤ t16)) && (decide (t16 < (t14.length : Int)))) then ((spec_l2Patch.f l (t14.getD (t16).toNat ([] : List (Int × Int × List ByteArray)))).bind fun y1 =>
    spec_l13At.l6 y1 t14 t15 (w64 (t16 + 1))) else none) else (some l)) :=
  (fixP_eq spec_l13At.E spec_l13At.T spec_l13At.C spec_l13At.K 6 spec_l13At.D6 (l, t14, t15, t16)).trans (by kernel_rfl)
theorem spec_l13At.f_eq (s : (List ByteArray) × List (List (Int × Int × List ByteArray))) (n : Int) : spec_l13At.f s n =
  ((spec_l1OwnT.f s.1).bind fun y1 =>
  bif ((decide (0 ≤ n)) && (decide (n ≤ (s.2.length : Int)))) then (spec_l13At.l6 y1 (s.2.take (n).toNat) ((s.2.take (n).toNat).length : Int) 0) else none) := by kernel_rfl
noncomputable def spec_l13At.S : Abs.Sum := ⟨spec_l13At.P, spec_l13At.R, fun _ => Fn spec_l13At.E spec_l13At.T spec_l13At.C spec_l13At.P spec_l13At.R spec_l13At.X⟩
theorem spec_l13At.meets : Meets Try.prog 86 spec_l13At.S := meets_tab (S := spec_l13At.U) tabOk_all (AllMeets.cons spec_l1OwnT.meets (AllMeets.cons spec_l2Patch.meets AllMeets.nil)) (AllStill.cons (fun _ _ _ => rfl) (AllStill.cons (fun _ _ _ => rfl) AllStill.nil)) follows (by kernel_rfl : Try.prog.funcs[86]? = some Try.f86) (by kernel_rfl) (by kernel_rfl) (by kernel_rfl)
noncomputable def spec_l1Most.C : Code := Try.f148.body.getD .skip
def spec_l1Most.P : Par := (.cons (.val (.int .i64)) (.cons (.val (.int .i64)) .nil))
noncomputable def spec_l1Most.U : SumTab := []
noncomputable def spec_l1Most.E : Env := mkEnv TY AR spec_l1Most.U
noncomputable def spec_l1Most.T : Tab := fun k => look k []
def spec_l1Most.R : List (Nat × Ty) := [(0, .int .i64)]
def spec_l1Most.X : List ResultVar := [.tmp 4]
noncomputable def spec_l1Most.f (a : Int) (b : Int) : Option (Int) := Fn spec_l1Most.E spec_l1Most.T spec_l1Most.C spec_l1Most.P spec_l1Most.R spec_l1Most.X (a, b)
theorem spec_l1Most.f_eq (a : Int) (b : Int) : spec_l1Most.f a b =
  (bif (decide (a > b)) then (some a) else (some b)) := by kernel_rfl
noncomputable def spec_l1Most.S : Abs.Sum := ⟨spec_l1Most.P, spec_l1Most.R, fun _ => Fn spec_l1Most.E spec_l1Most.T spec_l1Most.C spec_l1Most.P spec_l1Most.R spec_l1Most.X⟩
theorem spec_l1Most.meets : Meets Try.prog 148 spec_l1Most.S := meets_tab (S := spec_l1Most.U) tabOk_all AllMeets.nil AllStill.nil follows (by kernel_rfl : Try.prog.funcs[148]? = some Try.f148) (by kernel_rfl) (by kernel_rfl) (by kernel_rfl)
noncomputable def spec_l3Table.C : Code := Try.f229.body.getD .skip
def spec_l3Table.P : Par := (.cons (.val (.list .str)) (.cons (.val (.list .str)) .nil))
noncomputable def spec_l3Table.U : SumTab := [(148, [], spec_l1Most.S)]
noncomputable def spec_l3Table.E : Env := mkEnv TY AR spec_l3Table.U
def spec_l3Table.D6 : CutD := ⟨[0, 1, 5, 14, 15], (.cons (.val (.list .str)) (.cons (.val (.list .str)) (.cons (.own 9 (.list (.int .i64))) (.cons (.val (.int .i64)) (.cons (.val (.int .i64)) .nil)))))⟩
def spec_l3Table.D16 : CutD := ⟨[0, 1, 5, 7], (.cons (.val (.list .str)) (.cons (.val (.list .str)) (.cons (.own 9 (.list (.int .i64))) (.cons (.val (.int .i64)) .nil))))⟩
def spec_l3Table.D22 : CutD := ⟨[0, 1, 5, 7, 8], (.cons (.val (.list .str)) (.cons (.val (.list .str)) (.cons (.own 9 (.list (.int .i64))) (.cons (.val (.int .i64)) (.cons (.val (.int .i64)) .nil)))))⟩
noncomputable def spec_l3Table.T : Tab := fun k => look k [(6, spec_l3Table.D6), (16, spec_l3Table.D16), (22, spec_l3Table.D22)]
def spec_l3Table.R : List (Nat × Ty) := [(9, .list (.list (.int .i64)))]
def spec_l3Table.X : List ResultVar := [.tmp 4]
noncomputable def spec_l3Table.K := fin spec_l3Table.E ⟨spec_l3Table.P, spec_l3Table.R, fun _ _ => none⟩ spec_l3Table.X spec_l3Table.P.len 0
noncomputable def spec_l3Table.l6 (a : List ByteArray) (b : List ByteArray) (t : List (List Int)) (t14 : Int) (t15 : Int) : Option ((List (List Int))) := fixP spec_l3Table.E spec_l3Table.T spec_l3Table.C spec_l3Table.K 6 spec_l3Table.D6 (a, b, t, t14, t15)
noncomputable def spec_l3Table.l16 (a : List ByteArray) (b : List ByteArray) (t : List (List Int)) (i : Int) : Option ((List (List Int))) := fixP spec_l3Table.E spec_l3Table.T spec_l3Table.C spec_l3Table.K 16 spec_l3Table.D16 (a, b, t, i)
noncomputable def spec_l3Table.l22 (a : List ByteArray) (b : List ByteArray) (t : List (List Int)) (i : Int) (j : Int) : Option ((List (List Int))) := fixP spec_l3Table.E spec_l3Table.T spec_l3Table.C spec_l3Table.K 22 spec_l3Table.D22 (a, b, t, i, j)
noncomputable def spec_l3Table.f (a : List ByteArray) (b : List ByteArray) : Option ((List (List Int))) := Fn spec_l3Table.E spec_l3Table.T spec_l3Table.C spec_l3Table.P spec_l3Table.R spec_l3Table.X (a, b)
theorem spec_l3Table.l6_eq (a : List ByteArray) (b : List ByteArray) (t : List (List Int)) (t14 : Int) (t15 : Int) : spec_l3Table.l6 a b t t14 t15 =
  (bif (decide (t15 < t14)) then (bif ((decide (0 ≤ (w64 ((b.length : Int) + 1)))) && (decide (((w64 ((b.length : Int) + 1))).toNat ≤ room 8))) then (bif ((decide (0 ≤ t15)) && (decide (t15 < (t.length : Int)))) then (spec_l3Table.l6 a b (t.set (t15).toNat (List.replicate ((w64 ((b.length : Int) + 1))).toNat 0)) t14 (w64 (t15 + 1))) else none) else none) else
  (spec_l3Table.l16 a b t (w64 ((a.length : Int) - 1)))) :=
  (fixP_eq spec_l3Table.E spec_l3Table.T spec_l3Table.C spec_l3Table.K 6 spec_l3Table.D6 (a, b, t, t14, t15)).trans (by kernel_rfl)
theorem spec_l3Table.l16_eq (a : List ByteArray) (b : List ByteArray) (t : List (List Int)) (i : Int) : spec_l3Table.l16 a b t i =
  (bif (decide (i ≥ 0)) then (spec_l3Table.l22 a b t i (w64 ((b.length : Int) - 1))) else (some t)) :=
  (fixP_eq spec_l3Table.E spec_l3Table.T spec_l3Table.C spec_l3Table.K 16 spec_l3Table.D16 (a, b, t, i)).trans (by kernel_rfl)
theorem spec_l3Table.l22_eq (a : List ByteArray) (b : List ByteArray) (t : List (List Int)) (i : Int) (j : Int) : spec_l3Table.l22 a b t i j =
  (bif (decide (j ≥ 0)) then (bif ((decide (0 ≤ i)) && (decide (i < (t.length : Int)))) then (bif ((decide (0 ≤ (w64 (i + 1)))) && (decide ((w64 (i + 1)) < (t.length : Int)))) then (bif ((decide (0 ≤ j)) && (decide (j < ((t.getD ((w64 (i + 1))).toNat ([] : List Int)).length : Int)))) then (bif ((decide (0 ≤ i)) && (decide (i < (t.length : Int)))) then (bif ((decide (0 ≤ (w64 (j + 1)))) && (decide ((w64 (j + 1)) < ((t.getD (i).toNat ([] : List Int)).length : Int)))) then ((spec_l1Most.f ((t.getD ((w64 (i + 1))).toNat ([] : List Int)).getD (j).toNat 0) ((t.getD (i).toNat ([] : List Int)).getD ((w64 (j + 1))).toNat 0)).bind fun y1 =>
        bif ((decide (0 ≤ j)) && (decide (j < ((t.getD (i).toNat ([] : List Int)).length : Int)))) then (bif ((decide (0 ≤ i)) && (decide (i < (a.length : Int)))) then (bif ((decide (0 ≤ j)) && (decide (j < (b.length : Int)))) then (bif ((a.getD (i).toNat em).toList == (b.getD (j).toNat em).toList) then (bif ((decide (0 ≤ i)) && (decide (i < ((t.set (i).toNat ((t.getD (i).toNat ([] : List Int)).set (j).toNat y1)).length : Int)))) then (bif ((decide (0 ≤ i)) && (decide (i < ((t.set (i).toNat ((t.getD (i).toNat ([] : List Int)).set (j).toNat y1)).length : Int)))) then (bif ((decide (0 ≤ j)) && (decide (j < (((t.set (i).toNat ((t.getD (i).toNat ([] : List Int)).set (j).toNat y1)).getD (i).toNat ([] : List Int)).length : Int)))) then (bif ((decide (0 ≤ (w64 (i + 1)))) && (decide ((w64 (i + 1)) < ((t.set (i).toNat ((t.getD (i).toNat ([] : List Int)).set (j).toNat y1)).length : Int)))) then (bif ((decide (0 ≤ (w64 (j + 1)))) && (decide ((w64 (j + 1)) < (((t.set (i).toNat ((t.getD (i).toNat ([] : List Int)).set (j).toNat y1)).getD ((w64 (i + 1))).toNat ([] : List Int)).length : Int)))) then ((spec_l1Most.f (((t.set (i).toNat ((t.getD (i).toNat ([] : List Int)).set (j).toNat y1)).getD (i).toNat ([] : List Int)).getD (j).toNat 0) (w64 ((((t.set (i).toNat ((t.getD (i).toNat ([] : List Int)).set (j).toNat y1)).getD ((w64 (i + 1))).toNat ([] : List Int)).getD ((w64 (j + 1))).toNat 0) + 1))).bind fun y2 =>
                 bif ((decide (0 ≤ j)) && (decide (j < (((t.set (i).toNat ((t.getD (i).toNat ([] : List Int)).set (j).toNat y1)).getD (i).toNat ([] : List Int)).length : Int)))) then (spec_l3Table.l22 a b ((t.set (i).toNat ((t.getD (i).toNat ([] : List Int)).set (j).toNat y1)).set (i).toNat (((t.set (i).toNat ((t.getD (i).toNat ([] : List Int)).set (j).toNat y1)).getD (i).toNat ([] : List Int)).set (j).toNat y2)) i (w64 (j - 1))) else none) else none) else none) else none) else none) else none) else
           (spec_l3Table.l22 a b (t.set (i).toNat ((t.getD (i).toNat ([] : List Int)).set (j).toNat y1)) i (w64 (j - 1)))) else none) else none) else none) else none) else none) else none) else none) else none) else
  (spec_l3Table.l16 a b t (w64 (i - 1)))) :=
  (fixP_eq spec_l3Table.E spec_l3Table.T spec_l3Table.C spec_l3Table.K 22 spec_l3Table.D22 (a, b, t, i, j)).trans (by kernel_rfl)
theorem spec_l3Table.f_eq (a : List ByteArray) (b : List ByteArray) : spec_l3Table.f a b =
  (bif ((decide (0 ≤ (w64 ((a.length : Int) + 1)))) && (decide (((w64 ((a.length : Int) + 1))).toNat ≤ room 24))) then (spec_l3Table.l6 a b (List.replicate ((w64 ((a.length : Int) + 1))).toNat ([] : List Int)) ((List.replicate ((w64 ((a.length : Int) + 1))).toNat ([] : List Int)).length : Int) 0) else none) := by kernel_rfl
noncomputable def spec_l3Table.S : Abs.Sum := ⟨spec_l3Table.P, spec_l3Table.R, fun _ => Fn spec_l3Table.E spec_l3Table.T spec_l3Table.C spec_l3Table.P spec_l3Table.R spec_l3Table.X⟩
theorem spec_l3Table.meets : Meets Try.prog 229 spec_l3Table.S := meets_tab (S := spec_l3Table.U) tabOk_all (AllMeets.cons spec_l1Most.meets AllMeets.nil) (AllStill.cons (fun _ _ _ => rfl) AllStill.nil) follows (by kernel_rfl : Try.prog.funcs[229]? = some Try.f229) (by kernel_rfl) (by kernel_rfl) (by kernel_rfl)
noncomputable def spec_l3Pairs.C : Code := Try.f205.body.getD .skip
def spec_l3Pairs.P : Par := (.cons (.val (.list .str)) (.cons (.val (.list .str)) .nil))
noncomputable def spec_l3Pairs.U : SumTab := [(229, [], spec_l3Table.S)]
noncomputable def spec_l3Pairs.E : Env := mkEnv TY AR spec_l3Pairs.U
def spec_l3Pairs.D8 : CutD := ⟨[0, 1, 5, 6, 7, 8], (.cons (.val (.list .str)) (.cons (.val (.list .str)) (.cons (.own 8 (.list (.int .i64))) (.cons (.own 9 (.pair (.int .i64) (.one (.int .i64)))) (.cons (.val (.int .i64)) (.cons (.val (.int .i64)) .nil))))))⟩
def spec_l3Pairs.D14 : CutD := ⟨[0, 1, 5, 6, 7, 8, 9, 10, 11], (.cons (.val (.list .str)) (.cons (.val (.list .str)) (.cons (.own 8 (.list (.int .i64))) (.cons (.own 9 (.pair (.int .i64) (.one (.int .i64)))) (.cons (.val (.int .i64)) (.cons (.val (.int .i64)) (.cons (.val (.int .i64)) (.cons (.val (.int .i64)) (.cons (.val (.int .i64)) .nil)))))))))⟩
def spec_l3Pairs.D20 : CutD := ⟨[0, 1, 5, 6, 7, 8, 9, 10, 11, 12], (.cons (.val (.list .str)) (.cons (.val (.list .str)) (.cons (.own 8 (.list (.int .i64))) (.cons (.own 9 (.pair (.int .i64) (.one (.int .i64)))) (.cons (.val (.int .i64)) (.cons (.val (.int .i64)) (.cons (.val (.int .i64)) (.cons (.val (.int .i64)) (.cons (.val (.int .i64)) (.cons (.val (.int .i64)) .nil))))))))))⟩
noncomputable def spec_l3Pairs.T : Tab := fun k => look k [(8, spec_l3Pairs.D8), (14, spec_l3Pairs.D14), (20, spec_l3Pairs.D20)]
def spec_l3Pairs.R : List (Nat × Ty) := [(9, .list (.pair (.int .i64) (.one (.int .i64))))]
def spec_l3Pairs.X : List ResultVar := [.tmp 4]
noncomputable def spec_l3Pairs.K := fin spec_l3Pairs.E ⟨spec_l3Pairs.P, spec_l3Pairs.R, fun _ _ => none⟩ spec_l3Pairs.X spec_l3Pairs.P.len 0
noncomputable def spec_l3Pairs.l8 (a : List ByteArray) (b : List ByteArray) (t : List (List Int)) (out : List (Int × Int)) (i : Int) (j : Int) : Option ((List (Int × Int))) := fixP spec_l3Pairs.E spec_l3Pairs.T spec_l3Pairs.C spec_l3Pairs.K 8 spec_l3Pairs.D8 (a, b, t, out, i, j)
noncomputable def spec_l3Pairs.l14 (a : List ByteArray) (b : List ByteArray) (t : List (List Int)) (out : List (Int × Int)) (i : Int) (j : Int) (x : Int) (y : Int) (p : Int) : Option ((List (Int × Int))) := fixP spec_l3Pairs.E spec_l3Pairs.T spec_l3Pairs.C spec_l3Pairs.K 14 spec_l3Pairs.D14 (a, b, t, out, i, j, x, y, p)
noncomputable def spec_l3Pairs.l20 (a : List ByteArray) (b : List ByteArray) (t : List (List Int)) (out : List (Int × Int)) (i : Int) (j : Int) (x : Int) (y : Int) (p : Int) (q : Int) : Option ((List (Int × Int))) := fixP spec_l3Pairs.E spec_l3Pairs.T spec_l3Pairs.C spec_l3Pairs.K 20 spec_l3Pairs.D20 (a, b, t, out, i, j, x, y, p, q)
noncomputable def spec_l3Pairs.f (a : List ByteArray) (b : List ByteArray) : Option ((List (Int × Int))) := Fn spec_l3Pairs.E spec_l3Pairs.T spec_l3Pairs.C spec_l3Pairs.P spec_l3Pairs.R spec_l3Pairs.X (a, b)
theorem spec_l3Pairs.l8_eq (a : List ByteArray) (b : List ByteArray) (t : List (List Int)) (out : List (Int × Int)) (i : Int) (j : Int) : spec_l3Pairs.l8 a b t out i j =
  (bif ((decide (0 ≤ i)) && (decide (i < (t.length : Int)))) then (bif ((decide (0 ≤ j)) && (decide (j < ((t.getD (i).toNat ([] : List Int)).length : Int)))) then (bif (decide (((t.getD (i).toNat ([] : List Int)).getD (j).toNat 0) > 0)) then (spec_l3Pairs.l14 a b t out i j (a.length : Int) (b.length : Int) (w64 ((a.length : Int) - 1))) else (some out)) else none) else none) :=
  (fixP_eq spec_l3Pairs.E spec_l3Pairs.T spec_l3Pairs.C spec_l3Pairs.K 8 spec_l3Pairs.D8 (a, b, t, out, i, j)).trans (by kernel_rfl)
theorem spec_l3Pairs.l14_eq (a : List ByteArray) (b : List ByteArray) (t : List (List Int)) (out : List (Int × Int)) (i : Int) (j : Int) (x : Int) (y : Int) (p : Int) : spec_l3Pairs.l14 a b t out i j x y p =
  (bif (decide (p ≥ i)) then (spec_l3Pairs.l20 a b t out i j x y p (w64 ((b.length : Int) - 1))) else
  (bif (decide ((out.length + [(x, y)].length) ≤ room 16)) then (spec_l3Pairs.l8 a b t (out ++ [(x, y)]) (w64 (x + 1)) (w64 (y + 1))) else none)) :=
  (fixP_eq spec_l3Pairs.E spec_l3Pairs.T spec_l3Pairs.C spec_l3Pairs.K 14 spec_l3Pairs.D14 (a, b, t, out, i, j, x, y, p)).trans (by kernel_rfl)
theorem spec_l3Pairs.l20_eq (a : List ByteArray) (b : List ByteArray) (t : List (List Int)) (out : List (Int × Int)) (i : Int) (j : Int) (x : Int) (y : Int) (p : Int) (q : Int) : spec_l3Pairs.l20 a b t out i j x y p q =
  (bif (decide (q ≥ j)) then (bif ((decide (0 ≤ p)) && (decide (p < (a.length : Int)))) then (bif ((decide (0 ≤ q)) && (decide (q < (b.length : Int)))) then (bif ((a.getD (p).toNat em).toList == (b.getD (q).toNat em).toList) then (bif ((decide (0 ≤ (w64 (p + 1)))) && (decide ((w64 (p + 1)) < (t.length : Int)))) then (bif ((decide (0 ≤ (w64 (q + 1)))) && (decide ((w64 (q + 1)) < ((t.getD ((w64 (p + 1))).toNat ([] : List Int)).length : Int)))) then (bif ((decide (0 ≤ i)) && (decide (i < (t.length : Int)))) then (bif ((decide (0 ≤ j)) && (decide (j < ((t.getD (i).toNat ([] : List Int)).length : Int)))) then (bif (decide ((w64 (((t.getD ((w64 (p + 1))).toNat ([] : List Int)).getD ((w64 (q + 1))).toNat 0) + 1)) = ((t.getD (i).toNat ([] : List Int)).getD (j).toNat 0))) then (spec_l3Pairs.l20 a b t out i j p q p (w64 (q - 1))) else
          (spec_l3Pairs.l20 a b t out i j x y p (w64 (q - 1)))) else none) else none) else none) else none) else
     (spec_l3Pairs.l20 a b t out i j x y p (w64 (q - 1)))) else none) else none) else
  (spec_l3Pairs.l14 a b t out i j x y (w64 (p - 1)))) :=
  (fixP_eq spec_l3Pairs.E spec_l3Pairs.T spec_l3Pairs.C spec_l3Pairs.K 20 spec_l3Pairs.D20 (a, b, t, out, i, j, x, y, p, q)).trans (by kernel_rfl)
theorem spec_l3Pairs.f_eq (a : List ByteArray) (b : List ByteArray) : spec_l3Pairs.f a b =
  ((spec_l3Table.f a b).bind fun y1 =>
  spec_l3Pairs.l8 a b y1 ([] : List (Int × Int)) 0 0) := by kernel_rfl
noncomputable def spec_l3Pairs.S : Abs.Sum := ⟨spec_l3Pairs.P, spec_l3Pairs.R, fun _ => Fn spec_l3Pairs.E spec_l3Pairs.T spec_l3Pairs.C spec_l3Pairs.P spec_l3Pairs.R spec_l3Pairs.X⟩
theorem spec_l3Pairs.meets : Meets Try.prog 205 spec_l3Pairs.S := meets_tab (S := spec_l3Pairs.U) tabOk_all (AllMeets.cons spec_l3Table.meets AllMeets.nil) (AllStill.cons (fun _ _ _ => rfl) AllStill.nil) follows (by kernel_rfl : Try.prog.funcs[205]? = some Try.f205) (by kernel_rfl) (by kernel_rfl) (by kernel_rfl)
noncomputable def spec_l2Join.C : Code := Try.f204.body.getD .skip
def spec_l2Join.P : Par := (.cons (.val (.list .str)) (.cons (.val (.list .str)) (.cons (.own 5 (.pair (.int .i64) (.one (.int .i64)))) .nil)))
noncomputable def spec_l2Join.U : SumTab := [(122, [], spec_l1OwnT.S)]
noncomputable def spec_l2Join.E : Env := mkEnv TY AR spec_l2Join.U
def spec_l2Join.D8 : CutD := ⟨[1, 7, 8, 9, 19, 20, 21], (.cons (.val (.list .str)) (.cons (.own 9 (.pair (.int .i64) (.pair (.int .i64) (.one (.list .str))))) (.cons (.val (.int .i64)) (.cons (.val (.int .i64)) (.cons (.own 9 (.pair (.int .i64) (.one (.int .i64)))) (.cons (.val (.int .i64)) (.cons (.val (.int .i64)) .nil)))))))⟩
def spec_l2Join.D17 : CutD := ⟨[1, 7, 11, 19, 20, 21], (.cons (.val (.list .str)) (.cons (.own 9 (.pair (.int .i64) (.pair (.int .i64) (.one (.list .str))))) (.cons (.box 9 (.pair (.int .i64) (.one (.int .i64)))) (.cons (.own 9 (.pair (.int .i64) (.one (.int .i64)))) (.cons (.val (.int .i64)) (.cons (.val (.int .i64)) .nil))))))⟩
noncomputable def spec_l2Join.T : Tab := fun k => look k [(8, spec_l2Join.D8), (17, spec_l2Join.D17)]
def spec_l2Join.R : List (Nat × Ty) := [(9, .list (.pair (.int .i64) (.pair (.int .i64) (.one (.list .str)))))]
def spec_l2Join.X : List ResultVar := [.tmp 6]
noncomputable def spec_l2Join.K := fin spec_l2Join.E ⟨spec_l2Join.P, spec_l2Join.R, fun _ _ => none⟩ spec_l2Join.X spec_l2Join.P.len 0
noncomputable def spec_l2Join.l8 (last : List ByteArray) (out : List (Int × Int × List ByteArray)) (i : Int) (j : Int) (t19 : List (Int × Int)) (t20 : Int) (t21 : Int) : Option ((List (Int × Int × List ByteArray))) := fixP spec_l2Join.E spec_l2Join.T spec_l2Join.C spec_l2Join.K 8 spec_l2Join.D8 (last, out, i, j, t19, t20, t21)
noncomputable def spec_l2Join.l17 (last : List ByteArray) (out : List (Int × Int × List ByteArray)) (s : Int × Int) (t19 : List (Int × Int)) (t20 : Int) (t21 : Int) : Option ((List (Int × Int × List ByteArray))) := fixP spec_l2Join.E spec_l2Join.T spec_l2Join.C spec_l2Join.K 17 spec_l2Join.D17 (last, out, s, t19, t20, t21)
noncomputable def spec_l2Join.f (first : List ByteArray) (last : List ByteArray) (stay : List (Int × Int)) : Option ((List (Int × Int × List ByteArray))) := Fn spec_l2Join.E spec_l2Join.T spec_l2Join.C spec_l2Join.P spec_l2Join.R spec_l2Join.X (first, last, stay)
theorem spec_l2Join.l8_eq (last : List ByteArray) (out : List (Int × Int × List ByteArray)) (i : Int) (j : Int) (t19 : List (Int × Int)) (t20 : Int) (t21 : Int) : spec_l2Join.l8 last out i j t19 t20 t21 =
  (bif (decide (t21 < t20)) then (bif ((decide (0 ≤ t21)) && (decide (t21 < (t19.length : Int)))) then (bif (decide ((t19.getD (t21).toNat (0, 0)).1 > i)) then (bif ((decide (0 ≤ j)) && ((decide (j ≤ (t19.getD (t21).toNat (0, 0)).2)) && (decide ((t19.getD (t21).toNat (0, 0)).2 ≤ (last.length : Int))))) then ((spec_l1OwnT.f ((last.take ((t19.getD (t21).toNat (0, 0)).2).toNat).drop (j).toNat)).bind fun y1 =>
      bif (decide ((out.length + [(i, (w64 ((t19.getD (t21).toNat (0, 0)).1 - i)), y1)].length) ≤ room 40)) then (spec_l2Join.l17 last (out ++ [(i, (w64 ((t19.getD (t21).toNat (0, 0)).1 - i)), y1)]) (t19.getD (t21).toNat (0, 0)) t19 t20 t21) else none) else none) else
    (bif (decide ((t19.getD (t21).toNat (0, 0)).2 > j)) then (bif ((decide (0 ≤ j)) && ((decide (j ≤ (t19.getD (t21).toNat (0, 0)).2)) && (decide ((t19.getD (t21).toNat (0, 0)).2 ≤ (last.length : Int))))) then ((spec_l1OwnT.f ((last.take ((t19.getD (t21).toNat (0, 0)).2).toNat).drop (j).toNat)).bind fun y1 =>
       bif (decide ((out.length + [(i, (w64 ((t19.getD (t21).toNat (0, 0)).1 - i)), y1)].length) ≤ room 40)) then (spec_l2Join.l17 last (out ++ [(i, (w64 ((t19.getD (t21).toNat (0, 0)).1 - i)), y1)]) (t19.getD (t21).toNat (0, 0)) t19 t20 t21) else none) else none) else
     (spec_l2Join.l17 last out (t19.getD (t21).toNat (0, 0)) t19 t20 t21))) else none) else (some out)) :=
  (fixP_eq spec_l2Join.E spec_l2Join.T spec_l2Join.C spec_l2Join.K 8 spec_l2Join.D8 (last, out, i, j, t19, t20, t21)).trans (by kernel_rfl)
theorem spec_l2Join.l17_eq (last : List ByteArray) (out : List (Int × Int × List ByteArray)) (s : Int × Int) (t19 : List (Int × Int)) (t20 : Int) (t21 : Int) : spec_l2Join.l17 last out s t19 t20 t21 =
  (spec_l2Join.l8 last out (w64 (s.1 + 1)) (w64 (s.2 + 1)) t19 t20 (w64 (t21 + 1))) :=
  (fixP_eq spec_l2Join.E spec_l2Join.T spec_l2Join.C spec_l2Join.K 17 spec_l2Join.D17 (last, out, s, t19, t20, t21)).trans (by kernel_rfl)
theorem spec_l2Join.f_eq (first : List ByteArray) (last : List ByteArray) (stay : List (Int × Int)) : spec_l2Join.f first last stay =
  (bif (decide ((stay.length + [((first.length : Int), (last.length : Int))].length) ≤ room 16)) then (spec_l2Join.l8 last ([] : List (Int × Int × List ByteArray)) 0 0 (stay ++ [((first.length : Int), (last.length : Int))]) ((stay ++ [((first.length : Int), (last.length : Int))]).length : Int) 0) else none) := by kernel_rfl
noncomputable def spec_l2Join.S : Abs.Sum := ⟨spec_l2Join.P, spec_l2Join.R, fun _ => Fn spec_l2Join.E spec_l2Join.T spec_l2Join.C spec_l2Join.P spec_l2Join.R spec_l2Join.X⟩
theorem spec_l2Join.meets : Meets Try.prog 204 spec_l2Join.S := meets_tab (S := spec_l2Join.U) tabOk_all (AllMeets.cons spec_l1OwnT.meets AllMeets.nil) (AllStill.cons (fun _ _ _ => rfl) AllStill.nil) follows (by kernel_rfl : Try.prog.funcs[204]? = some Try.f204) (by kernel_rfl) (by kernel_rfl) (by kernel_rfl)
noncomputable def spec_l3Diff.C : Code := Try.f162.body.getD .skip
def spec_l3Diff.P : Par := (.cons (.val (.list .str)) (.cons (.val (.list .str)) .nil))
noncomputable def spec_l3Diff.U : SumTab := [(205, [], spec_l3Pairs.S), (204, [], spec_l2Join.S)]
noncomputable def spec_l3Diff.E : Env := mkEnv TY AR spec_l3Diff.U
noncomputable def spec_l3Diff.T : Tab := fun k => look k []
def spec_l3Diff.R : List (Nat × Ty) := [(9, .list (.pair (.int .i64) (.pair (.int .i64) (.one (.list .str)))))]
def spec_l3Diff.X : List ResultVar := [.tmp 4]
noncomputable def spec_l3Diff.f (a : List ByteArray) (b : List ByteArray) : Option ((List (Int × Int × List ByteArray))) := Fn spec_l3Diff.E spec_l3Diff.T spec_l3Diff.C spec_l3Diff.P spec_l3Diff.R spec_l3Diff.X (a, b)
theorem spec_l3Diff.f_eq (a : List ByteArray) (b : List ByteArray) : spec_l3Diff.f a b =
  ((spec_l3Pairs.f a b).bind fun y1 =>
  (spec_l2Join.f a b y1).bind fun y2 =>
  some y2) := by kernel_rfl
noncomputable def spec_l3Diff.S : Abs.Sum := ⟨spec_l3Diff.P, spec_l3Diff.R, fun _ => Fn spec_l3Diff.E spec_l3Diff.T spec_l3Diff.C spec_l3Diff.P spec_l3Diff.R spec_l3Diff.X⟩
theorem spec_l3Diff.meets : Meets Try.prog 162 spec_l3Diff.S := meets_tab (S := spec_l3Diff.U) tabOk_all (AllMeets.cons spec_l3Pairs.meets (AllMeets.cons spec_l2Join.meets AllMeets.nil)) (AllStill.cons (fun _ _ _ => rfl) (AllStill.cons (fun _ _ _ => rfl) AllStill.nil)) follows (by kernel_rfl : Try.prog.funcs[162]? = some Try.f162) (by kernel_rfl) (by kernel_rfl) (by kernel_rfl)
noncomputable def spec_DiffHunks.C : Code := Try.f85.body.getD .skip
def spec_DiffHunks.P : Par := (.cons (.val (.list .str)) (.cons (.val (.list .str)) .nil))
noncomputable def spec_DiffHunks.U : SumTab := [(84, [], spec_l1Good.S), (162, [], spec_l3Diff.S), (161, [], spec_l2Hunks.S)]
noncomputable def spec_DiffHunks.E : Env := mkEnv TY AR spec_DiffHunks.U
def spec_DiffHunks.D7 : CutD := ⟨[0, 1], (.cons (.val (.list .str)) (.cons (.val (.list .str)) .nil))⟩
noncomputable def spec_DiffHunks.T : Tab := fun k => look k [(7, spec_DiffHunks.D7)]
def spec_DiffHunks.R : List (Nat × Ty) := [(9, .list (.pair (.int .i64) (.pair (.int .i64) (.one (.list .str))))), (0, .bool)]
def spec_DiffHunks.X : List ResultVar := [.tmp 4, .tmp 5]
noncomputable def spec_DiffHunks.K := fin spec_DiffHunks.E ⟨spec_DiffHunks.P, spec_DiffHunks.R, fun _ _ => none⟩ spec_DiffHunks.X spec_DiffHunks.P.len 0
noncomputable def spec_DiffHunks.l7 (a : List ByteArray) (b : List ByteArray) : Option ((List (Int × Int × List ByteArray)) × Bool) := fixP spec_DiffHunks.E spec_DiffHunks.T spec_DiffHunks.C spec_DiffHunks.K 7 spec_DiffHunks.D7 (a, b)
noncomputable def spec_DiffHunks.f (a : List ByteArray) (b : List ByteArray) : Option ((List (Int × Int × List ByteArray)) × Bool) := Fn spec_DiffHunks.E spec_DiffHunks.T spec_DiffHunks.C spec_DiffHunks.P spec_DiffHunks.R spec_DiffHunks.X (a, b)
theorem spec_DiffHunks.l7_eq (a : List ByteArray) (b : List ByteArray) : spec_DiffHunks.l7 a b =
  ((spec_l3Diff.f a b).bind fun y1 =>
  some (y1, true)) :=
  (fixP_eq spec_DiffHunks.E spec_DiffHunks.T spec_DiffHunks.C spec_DiffHunks.K 7 spec_DiffHunks.D7 (a, b)).trans (by kernel_rfl)
theorem spec_DiffHunks.f_eq (a : List ByteArray) (b : List ByteArray) : spec_DiffHunks.f a b =
  ((spec_l1Good.f a).bind fun y1 =>
  bif (!y1) then (some (([] : List (Int × Int × List ByteArray)), false)) else
  ((spec_l1Good.f b).bind fun y2 =>
   bif (!y2) then (some (([] : List (Int × Int × List ByteArray)), false)) else
   ((spec_l3Diff.f a b).bind fun y3 =>
    (spec_l2Hunks.f (a.length : Int) y3).bind fun y4 =>
    bif (!y4) then (some (([] : List (Int × Int × List ByteArray)), false)) else
    (spec_DiffHunks.l7 a b)))) := by kernel_rfl
noncomputable def spec_DiffHunks.S : Abs.Sum := ⟨spec_DiffHunks.P, spec_DiffHunks.R, fun _ => Fn spec_DiffHunks.E spec_DiffHunks.T spec_DiffHunks.C spec_DiffHunks.P spec_DiffHunks.R spec_DiffHunks.X⟩
theorem spec_DiffHunks.meets : Meets Try.prog 85 spec_DiffHunks.S := meets_tab (S := spec_DiffHunks.U) tabOk_all (AllMeets.cons spec_l1Good.meets (AllMeets.cons spec_l3Diff.meets (AllMeets.cons spec_l2Hunks.meets AllMeets.nil))) (AllStill.cons (fun _ _ _ => rfl) (AllStill.cons (fun _ _ _ => rfl) (AllStill.cons (fun _ _ _ => rfl) AllStill.nil))) follows (by kernel_rfl : Try.prog.funcs[85]? = some Try.f85) (by kernel_rfl) (by kernel_rfl) (by kernel_rfl)
noncomputable def spec_l13OwnH.C : Code := Try.f164.body.getD .skip
def spec_l13OwnH.P : Par := (.cons (.val (.list (.pair (.int .i64) (.pair (.int .i64) (.one (.list .str)))))) .nil)
noncomputable def spec_l13OwnH.U : SumTab := [(122, [], spec_l1OwnT.S)]
noncomputable def spec_l13OwnH.E : Env := mkEnv TY AR spec_l13OwnH.U
def spec_l13OwnH.D6 : CutD := ⟨[3, 6, 7, 8], (.cons (.own 9 (.pair (.int .i64) (.pair (.int .i64) (.one (.list .str))))) (.cons (.val (.list (.pair (.int .i64) (.pair (.int .i64) (.one (.list .str)))))) (.cons (.val (.int .i64)) (.cons (.val (.int .i64)) .nil))))⟩
noncomputable def spec_l13OwnH.T : Tab := fun k => look k [(6, spec_l13OwnH.D6)]
def spec_l13OwnH.R : List (Nat × Ty) := [(9, .list (.pair (.int .i64) (.pair (.int .i64) (.one (.list .str)))))]
def spec_l13OwnH.X : List ResultVar := [.tmp 2]
noncomputable def spec_l13OwnH.K := fin spec_l13OwnH.E ⟨spec_l13OwnH.P, spec_l13OwnH.R, fun _ _ => none⟩ spec_l13OwnH.X spec_l13OwnH.P.len 0
noncomputable def spec_l13OwnH.l6 (out : List (Int × Int × List ByteArray)) (t6 : List (Int × Int × List ByteArray)) (t7 : Int) (t8 : Int) : Option ((List (Int × Int × List ByteArray))) := fixP spec_l13OwnH.E spec_l13OwnH.T spec_l13OwnH.C spec_l13OwnH.K 6 spec_l13OwnH.D6 (out, t6, t7, t8)
noncomputable def spec_l13OwnH.f (h : List (Int × Int × List ByteArray)) : Option ((List (Int × Int × List ByteArray))) := Fn spec_l13OwnH.E spec_l13OwnH.T spec_l13OwnH.C spec_l13OwnH.P spec_l13OwnH.R spec_l13OwnH.X h
theorem spec_l13OwnH.l6_eq (out : List (Int × Int × List ByteArray)) (t6 : List (Int × Int × List ByteArray)) (t7 : Int) (t8 : Int) : spec_l13OwnH.l6 out t6 t7 t8 =
  (bif (decide (t8 < t7)) then (bif ((decide (0 ≤ t8)) && (decide (t8 < (t6.length : Int)))) then ((spec_l1OwnT.f (t6.getD (t8).toNat (0, 0, ([] : List ByteArray))).2.2).bind fun y1 =>
    bif (decide ((out.length + [((t6.getD (t8).toNat (0, 0, ([] : List ByteArray))).1, (t6.getD (t8).toNat (0, 0, ([] : List ByteArray))).2.1, y1)].length) ≤ room 40)) then (spec_l13OwnH.l6 (out ++ [((t6.getD (t8).toNat (0, 0, ([] : List ByteArray))).1, (t6.getD (t8).toNat (0, 0, ([] : List ByteArray))).2.1, y1)]) t6 t7 (w64 (t8 + 1))) else none) else none) else (some out)) :=
  (fixP_eq spec_l13OwnH.E spec_l13OwnH.T spec_l13OwnH.C spec_l13OwnH.K 6 spec_l13OwnH.D6 (out, t6, t7, t8)).trans (by kernel_rfl)
theorem spec_l13OwnH.f_eq (h : List (Int × Int × List ByteArray)) : spec_l13OwnH.f h =
  (spec_l13OwnH.l6 ([] : List (Int × Int × List ByteArray)) h (h.length : Int) 0) := by kernel_rfl
noncomputable def spec_l13OwnH.S : Abs.Sum := ⟨spec_l13OwnH.P, spec_l13OwnH.R, fun _ => Fn spec_l13OwnH.E spec_l13OwnH.T spec_l13OwnH.C spec_l13OwnH.P spec_l13OwnH.R spec_l13OwnH.X⟩
theorem spec_l13OwnH.meets : Meets Try.prog 164 spec_l13OwnH.S := meets_tab (S := spec_l13OwnH.U) tabOk_all (AllMeets.cons spec_l1OwnT.meets AllMeets.nil) (AllStill.cons (fun _ _ _ => rfl) AllStill.nil) follows (by kernel_rfl : Try.prog.funcs[164]? = some Try.f164) (by kernel_rfl) (by kernel_rfl) (by kernel_rfl)
noncomputable def spec_l13Own.C : Code := Try.f87.body.getD .skip
def spec_l13Own.P : Par := (.cons (.val (.pair (.list .str) (.one (.list (.list (.pair (.int .i64) (.pair (.int .i64) (.one (.list .str))))))))) .nil)
noncomputable def spec_l13Own.U : SumTab := [(122, [], spec_l1OwnT.S), (164, [], spec_l13OwnH.S)]
noncomputable def spec_l13Own.E : Env := mkEnv TY AR spec_l13Own.U
def spec_l13Own.D6 : CutD := ⟨[2, 3, 11, 12, 13], (.cons (.box 9 (.pair (.list .str) (.one (.list (.list (.pair (.int .i64) (.pair (.int .i64) (.one (.list .str))))))))) (.cons (.box 9 (.pair (.list .str) (.one (.list (.list (.pair (.int .i64) (.pair (.int .i64) (.one (.list .str))))))))) (.cons (.val (.list (.list (.pair (.int .i64) (.pair (.int .i64) (.one (.list .str))))))) (.cons (.val (.int .i64)) (.cons (.val (.int .i64)) .nil)))))⟩
noncomputable def spec_l13Own.T : Tab := fun k => look k [(6, spec_l13Own.D6)]
def spec_l13Own.R : List (Nat × Ty) := [(9, .pair (.list .str) (.one (.list (.list (.pair (.int .i64) (.pair (.int .i64) (.one (.list .str))))))))]
def spec_l13Own.X : List ResultVar := [.cell 2 30]
noncomputable def spec_l13Own.K := fin spec_l13Own.E ⟨spec_l13Own.P, spec_l13Own.R, fun _ _ => none⟩ spec_l13Own.X spec_l13Own.P.len 0
noncomputable def spec_l13Own.l6 (t2 : (List ByteArray) × List (List (Int × Int × List ByteArray))) (out : (List ByteArray) × List (List (Int × Int × List ByteArray))) (t11 : List (List (Int × Int × List ByteArray))) (t12 : Int) (t13 : Int) : Option (((List ByteArray) × List (List (Int × Int × List ByteArray)))) := fixP spec_l13Own.E spec_l13Own.T spec_l13Own.C spec_l13Own.K 6 spec_l13Own.D6 (t2, out, t11, t12, t13)
noncomputable def spec_l13Own.f (s : (List ByteArray) × List (List (Int × Int × List ByteArray))) : Option (((List ByteArray) × List (List (Int × Int × List ByteArray)))) := Fn spec_l13Own.E spec_l13Own.T spec_l13Own.C spec_l13Own.P spec_l13Own.R spec_l13Own.X s
theorem spec_l13Own.l6_eq (t2 : (List ByteArray) × List (List (Int × Int × List ByteArray))) (out : (List ByteArray) × List (List (Int × Int × List ByteArray))) (t11 : List (List (Int × Int × List ByteArray))) (t12 : Int) (t13 : Int) : spec_l13Own.l6 t2 out t11 t12 t13 =
  (bif (decide (t13 < t12)) then (bif ((decide (0 ≤ t13)) && (decide (t13 < (t11.length : Int)))) then ((spec_l13OwnH.f (t11.getD (t13).toNat ([] : List (Int × Int × List ByteArray)))).bind fun y1 =>
    bif (decide ((out.2.length + [y1].length) ≤ room 24)) then (spec_l13Own.l6 (t2.1, t2.2) (out.1, (out.2 ++ [y1])) t11 t12 (w64 (t13 + 1))) else none) else none) else (some (out.1, out.2))) :=
  (fixP_eq spec_l13Own.E spec_l13Own.T spec_l13Own.C spec_l13Own.K 6 spec_l13Own.D6 (t2, out, t11, t12, t13)).trans (by kernel_rfl)
theorem spec_l13Own.f_eq (s : (List ByteArray) × List (List (Int × Int × List ByteArray))) : spec_l13Own.f s =
  ((spec_l1OwnT.f s.1).bind fun y1 =>
  spec_l13Own.l6 (([] : List ByteArray), ([] : List (List (Int × Int × List ByteArray)))) (y1, ([] : List (List (Int × Int × List ByteArray)))) s.2 (s.2.length : Int) 0) := by kernel_rfl
noncomputable def spec_l13Own.S : Abs.Sum := ⟨spec_l13Own.P, spec_l13Own.R, fun _ => Fn spec_l13Own.E spec_l13Own.T spec_l13Own.C spec_l13Own.P spec_l13Own.R spec_l13Own.X⟩
theorem spec_l13Own.meets : Meets Try.prog 87 spec_l13Own.S := meets_tab (S := spec_l13Own.U) tabOk_all (AllMeets.cons spec_l1OwnT.meets (AllMeets.cons spec_l13OwnH.meets AllMeets.nil)) (AllStill.cons (fun _ _ _ => rfl) (AllStill.cons (fun _ _ _ => rfl) AllStill.nil)) follows (by kernel_rfl : Try.prog.funcs[87]? = some Try.f87) (by kernel_rfl) (by kernel_rfl) (by kernel_rfl)
noncomputable def spec_AddText.C : Code := Try.f12.body.getD .skip
def spec_AddText.P : Par := (.cons (.val (.pair (.list .str) (.one (.list (.list (.pair (.int .i64) (.pair (.int .i64) (.one (.list .str))))))))) (.cons (.val (.list .str)) .nil))
noncomputable def spec_AddText.U : SumTab := [(83, [], spec_l13Good.S), (84, [], spec_l1Good.S), (86, [], spec_l13At.S), (85, [], spec_DiffHunks.S), (87, [], spec_l13Own.S)]
noncomputable def spec_AddText.E : Env := mkEnv TY AR spec_AddText.U
def spec_AddText.D7 : CutD := ⟨[1, 2, 4], (.cons (.val (.list .str)) (.cons (.box 0 (.pair (.list .str) (.one (.list (.list (.pair (.int .i64) (.pair (.int .i64) (.one (.list .str))))))))) (.cons (.box 9 (.pair (.list .str) (.one (.list (.list (.pair (.int .i64) (.pair (.int .i64) (.one (.list .str))))))))) .nil)))⟩
noncomputable def spec_AddText.T : Tab := fun k => look k [(7, spec_AddText.D7)]
def spec_AddText.R : List (Nat × Ty) := [(9, .pair (.list .str) (.one (.list (.list (.pair (.int .i64) (.pair (.int .i64) (.one (.list .str)))))))), (0, .bool)]
def spec_AddText.X : List ResultVar := [.cell 4 30, .tmp 5]
noncomputable def spec_AddText.K := fin spec_AddText.E ⟨spec_AddText.P, spec_AddText.R, fun _ _ => none⟩ spec_AddText.X spec_AddText.P.len 0
noncomputable def spec_AddText.l7 (l : List ByteArray) (s : (List ByteArray) × List (List (Int × Int × List ByteArray))) (t4 : (List ByteArray) × List (List (Int × Int × List ByteArray))) : Option (((List ByteArray) × List (List (Int × Int × List ByteArray))) × Bool) := fixP spec_AddText.E spec_AddText.T spec_AddText.C spec_AddText.K 7 spec_AddText.D7 (l, s, t4)
noncomputable def spec_AddText.f (s : (List ByteArray) × List (List (Int × Int × List ByteArray))) (l : List ByteArray) : Option (((List ByteArray) × List (List (Int × Int × List ByteArray))) × Bool) := Fn spec_AddText.E spec_AddText.T spec_AddText.C spec_AddText.P spec_AddText.R spec_AddText.X (s, l)
theorem spec_AddText.l7_eq (l : List ByteArray) (s : (List ByteArray) × List (List (Int × Int × List ByteArray))) (t4 : (List ByteArray) × List (List (Int × Int × List ByteArray))) : spec_AddText.l7 l s t4 =
  ((spec_l13At.f s (s.2.length : Int)).bind fun y1 =>
  (spec_DiffHunks.f y1 l).bind fun y2 =>
  bif (!y2.2) then (some ((([] : List ByteArray), ([] : List (List (Int × Int × List ByteArray)))), false)) else
  ((spec_l13Own.f s).bind fun y3 =>
   bif (decide ((y3.2.length + [y2.1].length) ≤ room 24)) then (some ((y3.1, (y3.2 ++ [y2.1])), true)) else none)) :=
  (fixP_eq spec_AddText.E spec_AddText.T spec_AddText.C spec_AddText.K 7 spec_AddText.D7 (l, s, t4)).trans (by kernel_rfl)
theorem spec_AddText.f_eq (s : (List ByteArray) × List (List (Int × Int × List ByteArray))) (l : List ByteArray) : spec_AddText.f s l =
  ((spec_l13Good.f s).bind fun y1 =>
  bif (!y1) then (some ((([] : List ByteArray), ([] : List (List (Int × Int × List ByteArray)))), false)) else
  ((spec_l1Good.f l).bind fun y2 =>
   bif (!y2) then (some ((([] : List ByteArray), ([] : List (List (Int × Int × List ByteArray)))), false)) else
   (bif (decide ((s.2.length : Int) = 7)) then (some ((([] : List ByteArray), ([] : List (List (Int × Int × List ByteArray)))), false)) else
    (spec_AddText.l7 l s (([] : List ByteArray), ([] : List (List (Int × Int × List ByteArray)))))))) := by kernel_rfl
noncomputable def spec_AddText.S : Abs.Sum := ⟨spec_AddText.P, spec_AddText.R, fun _ => Fn spec_AddText.E spec_AddText.T spec_AddText.C spec_AddText.P spec_AddText.R spec_AddText.X⟩
theorem spec_AddText.meets : Meets Try.prog 12 spec_AddText.S := meets_tab (S := spec_AddText.U) tabOk_all (AllMeets.cons spec_l13Good.meets (AllMeets.cons spec_l1Good.meets (AllMeets.cons spec_l13At.meets (AllMeets.cons spec_DiffHunks.meets (AllMeets.cons spec_l13Own.meets AllMeets.nil))))) (AllStill.cons (fun _ _ _ => rfl) (AllStill.cons (fun _ _ _ => rfl) (AllStill.cons (fun _ _ _ => rfl) (AllStill.cons (fun _ _ _ => rfl) (AllStill.cons (fun _ _ _ => rfl) AllStill.nil))))) follows (by kernel_rfl : Try.prog.funcs[12]? = some Try.f12) (by kernel_rfl) (by kernel_rfl) (by kernel_rfl)
noncomputable def impl_in.C : Code := Try.f98.body.getD .skip
def impl_in.P : Par := (.cons (.val (.int .i64)) (.cons (.val (.int .i64)) (.cons (.val (.int .i64)) .nil)))
noncomputable def impl_in.U : SumTab := []
noncomputable def impl_in.E : Env := mkEnv TY AR impl_in.U
noncomputable def impl_in.T : Tab := fun k => look k []
def impl_in.R : List (Nat × Ty) := [(0, .bool)]
def impl_in.X : List ResultVar := [.tmp 6]
noncomputable def impl_in.f (n : Int) (low : Int) (high : Int) : Option (Bool) := Fn impl_in.E impl_in.T impl_in.C impl_in.P impl_in.R impl_in.X (n, low, high)
theorem impl_in.f_eq (n : Int) (low : Int) (high : Int) : impl_in.f n low high =
  (bif (decide (n ≥ low)) then (some (decide (n ≤ high))) else (some false)) := by kernel_rfl
noncomputable def impl_in.S : Abs.Sum := ⟨impl_in.P, impl_in.R, fun _ => Fn impl_in.E impl_in.T impl_in.C impl_in.P impl_in.R impl_in.X⟩
theorem impl_in.meets : Meets Try.prog 98 impl_in.S := meets_tab (S := impl_in.U) tabOk_all AllMeets.nil AllStill.nil follows (by kernel_rfl : Try.prog.funcs[98]? = some Try.f98) (by kernel_rfl) (by kernel_rfl) (by kernel_rfl)
noncomputable def impl_isLine.C : Code := Try.f172.body.getD .skip
def impl_isLine.P : Par := (.cons (.val .str) .nil)
noncomputable def impl_isLine.U : SumTab := [(98, [], impl_in.S), (211, [], strings_Contains.S)]
noncomputable def impl_isLine.E : Env := mkEnv TY AR impl_isLine.U
noncomputable def impl_isLine.T : Tab := fun k => look k []
def impl_isLine.R : List (Nat × Ty) := [(0, .bool)]
def impl_isLine.X : List ResultVar := [.tmp 2]
noncomputable def impl_isLine.f (line : ByteArray) : Option (Bool) := Fn impl_isLine.E impl_isLine.T impl_isLine.C impl_isLine.P impl_isLine.R impl_isLine.X line
theorem impl_isLine.f_eq (line : ByteArray) : impl_isLine.f line =
  ((impl_in.f (line.size : Int) 1 30).bind fun y1 =>
  bif y1 then (bif ((decide (0 ≤ (w64 ((line.size : Int) - 1)))) && (decide ((w64 ((line.size : Int) - 1)) ≤ (line.size : Int)))) then ((strings_Contains.f (line.extract 0 ((w64 ((line.size : Int) - 1))).toNat) (⟨#[10]⟩ : ByteArray)).bind fun y2 =>
    some (!y2)) else none) else (some false)) := by kernel_rfl
noncomputable def impl_isLine.S : Abs.Sum := ⟨impl_isLine.P, impl_isLine.R, fun _ => Fn impl_isLine.E impl_isLine.T impl_isLine.C impl_isLine.P impl_isLine.R impl_isLine.X⟩
theorem impl_isLine.meets : Meets Try.prog 172 impl_isLine.S := meets_tab (S := impl_isLine.U) tabOk_all (AllMeets.cons impl_in.meets (AllMeets.cons strings_Contains.meets AllMeets.nil)) (AllStill.cons (fun _ _ _ => rfl) (AllStill.cons (fun _ _ _ => rfl) AllStill.nil)) follows (by kernel_rfl : Try.prog.funcs[172]? = some Try.f172) (by kernel_rfl) (by kernel_rfl) (by kernel_rfl)
noncomputable def impl_areLines_1.C : Code := Try.f218.body.getD .skip
def impl_areLines_1.P : Par := (.cons (.val .str) .nil)
noncomputable def impl_areLines_1.U : SumTab := [(172, [], impl_isLine.S)]
noncomputable def impl_areLines_1.E : Env := mkEnv TY AR impl_areLines_1.U
noncomputable def impl_areLines_1.T : Tab := fun k => look k []
def impl_areLines_1.R : List (Nat × Ty) := [(0, .bool)]
def impl_areLines_1.X : List ResultVar := [.tmp 2]
noncomputable def impl_areLines_1.f (line : ByteArray) : Option (Bool) := Fn impl_areLines_1.E impl_areLines_1.T impl_areLines_1.C impl_areLines_1.P impl_areLines_1.R impl_areLines_1.X line
theorem impl_areLines_1.f_eq (line : ByteArray) : impl_areLines_1.f line =
  ((impl_isLine.f line).bind fun y1 =>
  some (!y1)) := by kernel_rfl
noncomputable def impl_areLines_1.S : Abs.Sum := ⟨impl_areLines_1.P, impl_areLines_1.R, fun _ => Fn impl_areLines_1.E impl_areLines_1.T impl_areLines_1.C impl_areLines_1.P impl_areLines_1.R impl_areLines_1.X⟩
theorem impl_areLines_1.meets : Meets Try.prog 218 impl_areLines_1.S := meets_tab (S := impl_areLines_1.U) tabOk_all (AllMeets.cons impl_isLine.meets AllMeets.nil) (AllStill.cons (fun _ _ _ => rfl) AllStill.nil) follows (by kernel_rfl : Try.prog.funcs[218]? = some Try.f218) (by kernel_rfl) (by kernel_rfl) (by kernel_rfl)
noncomputable def slices_IndexFunc_Lstring_string__impl_areLines_1.C : Code := Try.f233.body.getD .skip
def slices_IndexFunc_Lstring_string__impl_areLines_1.P : Par := (.cons (.val (.list .str)) (.cons (.fn 218 .nil) .nil))
noncomputable def slices_IndexFunc_Lstring_string__impl_areLines_1.U : SumTab := [(218, [], impl_areLines_1.S)]
noncomputable def slices_IndexFunc_Lstring_string__impl_areLines_1.E : Env := mkEnv TY AR slices_IndexFunc_Lstring_string__impl_areLines_1.U
def slices_IndexFunc_Lstring_string__impl_areLines_1.D4 : CutD := ⟨[0, 1, 7, 8], (.cons (.val (.list .str)) (.cons (.fn 218 .nil) (.cons (.val (.int .i64)) (.cons (.val (.int .i64)) .nil))))⟩
noncomputable def slices_IndexFunc_Lstring_string__impl_areLines_1.T : Tab := fun k => look k [(4, slices_IndexFunc_Lstring_string__impl_areLines_1.D4)]
def slices_IndexFunc_Lstring_string__impl_areLines_1.R : List (Nat × Ty) := [(0, .int .i64)]
def slices_IndexFunc_Lstring_string__impl_areLines_1.X : List ResultVar := [.tmp 4]
noncomputable def slices_IndexFunc_Lstring_string__impl_areLines_1.K := fin slices_IndexFunc_Lstring_string__impl_areLines_1.E ⟨slices_IndexFunc_Lstring_string__impl_areLines_1.P, slices_IndexFunc_Lstring_string__impl_areLines_1.R, fun _ _ => none⟩ slices_IndexFunc_Lstring_string__impl_areLines_1.X slices_IndexFunc_Lstring_string__impl_areLines_1.P.len 0
noncomputable def slices_IndexFunc_Lstring_string__impl_areLines_1.l4 (s : List ByteArray) (t7 : Int) (t8 : Int) : Option (Int) := fixP slices_IndexFunc_Lstring_string__impl_areLines_1.E slices_IndexFunc_Lstring_string__impl_areLines_1.T slices_IndexFunc_Lstring_string__impl_areLines_1.C slices_IndexFunc_Lstring_string__impl_areLines_1.K 4 slices_IndexFunc_Lstring_string__impl_areLines_1.D4 (s, t7, t8)
noncomputable def slices_IndexFunc_Lstring_string__impl_areLines_1.f (s : List ByteArray) : Option (Int) := Fn slices_IndexFunc_Lstring_string__impl_areLines_1.E slices_IndexFunc_Lstring_string__impl_areLines_1.T slices_IndexFunc_Lstring_string__impl_areLines_1.C slices_IndexFunc_Lstring_string__impl_areLines_1.P slices_IndexFunc_Lstring_string__impl_areLines_1.R slices_IndexFunc_Lstring_string__impl_areLines_1.X s
theorem slices_IndexFunc_Lstring_string__impl_areLines_1.l4_eq (s : List ByteArray) (t7 : Int) (t8 : Int) : slices_IndexFunc_Lstring_string__impl_areLines_1.l4 s t7 t8 =
  (bif (decide (t8 < t7)) then (bif ((decide (0 ≤ t8)) && (decide (t8 < (s.length : Int)))) then ((impl_areLines_1.f (s.getD (t8).toNat em)).bind fun y1 =>
    bif y1 then (some t8) else
    (slices_IndexFunc_Lstring_string__impl_areLines_1.l4 s t7 (w64 (t8 + 1)))) else none) else (some (-1))) :=
  (fixP_eq slices_IndexFunc_Lstring_string__impl_areLines_1.E slices_IndexFunc_Lstring_string__impl_areLines_1.T slices_IndexFunc_Lstring_string__impl_areLines_1.C slices_IndexFunc_Lstring_string__impl_areLines_1.K 4 slices_IndexFunc_Lstring_string__impl_areLines_1.D4 (s, t7, t8)).trans (by kernel_rfl)
theorem slices_IndexFunc_Lstring_string__impl_areLines_1.f_eq (s : List ByteArray) : slices_IndexFunc_Lstring_string__impl_areLines_1.f s =
  (slices_IndexFunc_Lstring_string__impl_areLines_1.l4 s (s.length : Int) 0) := by kernel_rfl
noncomputable def slices_IndexFunc_Lstring_string__impl_areLines_1.S : Abs.Sum := ⟨slices_IndexFunc_Lstring_string__impl_areLines_1.P, slices_IndexFunc_Lstring_string__impl_areLines_1.R, fun _ => Fn slices_IndexFunc_Lstring_string__impl_areLines_1.E slices_IndexFunc_Lstring_string__impl_areLines_1.T slices_IndexFunc_Lstring_string__impl_areLines_1.C slices_IndexFunc_Lstring_string__impl_areLines_1.P slices_IndexFunc_Lstring_string__impl_areLines_1.R slices_IndexFunc_Lstring_string__impl_areLines_1.X⟩
theorem slices_IndexFunc_Lstring_string__impl_areLines_1.meets : Meets Try.prog 233 slices_IndexFunc_Lstring_string__impl_areLines_1.S := meets_tab (S := slices_IndexFunc_Lstring_string__impl_areLines_1.U) tabOk_all (AllMeets.cons impl_areLines_1.meets AllMeets.nil) (AllStill.cons (fun _ _ _ => rfl) AllStill.nil) follows (by kernel_rfl : Try.prog.funcs[233]? = some Try.f233) (by kernel_rfl) (by kernel_rfl) (by kernel_rfl)
noncomputable def slices_ContainsFunc_Lstring_string__impl_areLines_1.C : Code := Try.f217.body.getD .skip
def slices_ContainsFunc_Lstring_string__impl_areLines_1.P : Par := (.cons (.val (.list .str)) (.cons (.fn 218 .nil) .nil))
noncomputable def slices_ContainsFunc_Lstring_string__impl_areLines_1.U : SumTab := [(233, [218], slices_IndexFunc_Lstring_string__impl_areLines_1.S)]
noncomputable def slices_ContainsFunc_Lstring_string__impl_areLines_1.E : Env := mkEnv TY AR slices_ContainsFunc_Lstring_string__impl_areLines_1.U
noncomputable def slices_ContainsFunc_Lstring_string__impl_areLines_1.T : Tab := fun k => look k []
def slices_ContainsFunc_Lstring_string__impl_areLines_1.R : List (Nat × Ty) := [(0, .bool)]
def slices_ContainsFunc_Lstring_string__impl_areLines_1.X : List ResultVar := [.tmp 4]
noncomputable def slices_ContainsFunc_Lstring_string__impl_areLines_1.f (s : List ByteArray) : Option (Bool) := Fn slices_ContainsFunc_Lstring_string__impl_areLines_1.E slices_ContainsFunc_Lstring_string__impl_areLines_1.T slices_ContainsFunc_Lstring_string__impl_areLines_1.C slices_ContainsFunc_Lstring_string__impl_areLines_1.P slices_ContainsFunc_Lstring_string__impl_areLines_1.R slices_ContainsFunc_Lstring_string__impl_areLines_1.X s
theorem slices_ContainsFunc_Lstring_string__impl_areLines_1.f_eq (s : List ByteArray) : slices_ContainsFunc_Lstring_string__impl_areLines_1.f s =
  ((slices_IndexFunc_Lstring_string__impl_areLines_1.f s).bind fun y1 =>
  some (decide (y1 ≥ 0))) := by kernel_rfl
noncomputable def slices_ContainsFunc_Lstring_string__impl_areLines_1.S : Abs.Sum := ⟨slices_ContainsFunc_Lstring_string__impl_areLines_1.P, slices_ContainsFunc_Lstring_string__impl_areLines_1.R, fun _ => Fn slices_ContainsFunc_Lstring_string__impl_areLines_1.E slices_ContainsFunc_Lstring_string__impl_areLines_1.T slices_ContainsFunc_Lstring_string__impl_areLines_1.C slices_ContainsFunc_Lstring_string__impl_areLines_1.P slices_ContainsFunc_Lstring_string__impl_areLines_1.R slices_ContainsFunc_Lstring_string__impl_areLines_1.X⟩
theorem slices_ContainsFunc_Lstring_string__impl_areLines_1.meets : Meets Try.prog 217 slices_ContainsFunc_Lstring_string__impl_areLines_1.S := meets_tab (S := slices_ContainsFunc_Lstring_string__impl_areLines_1.U) tabOk_all (AllMeets.cons slices_IndexFunc_Lstring_string__impl_areLines_1.meets AllMeets.nil) (AllStill.cons (fun _ _ _ => rfl) AllStill.nil) follows (by kernel_rfl : Try.prog.funcs[217]? = some Try.f217) (by kernel_rfl) (by kernel_rfl) (by kernel_rfl)
noncomputable def impl_areLines.C : Code := Try.f182.body.getD .skip
def impl_areLines.P : Par := (.cons (.val (.list .str)) .nil)
noncomputable def impl_areLines.U : SumTab := [(217, [218], slices_ContainsFunc_Lstring_string__impl_areLines_1.S)]
noncomputable def impl_areLines.E : Env := mkEnv TY AR impl_areLines.U
noncomputable def impl_areLines.T : Tab := fun k => look k []
def impl_areLines.R : List (Nat × Ty) := [(0, .bool)]
def impl_areLines.X : List ResultVar := [.tmp 2]
noncomputable def impl_areLines.f (l : List ByteArray) : Option (Bool) := Fn impl_areLines.E impl_areLines.T impl_areLines.C impl_areLines.P impl_areLines.R impl_areLines.X l
theorem impl_areLines.f_eq (l : List ByteArray) : impl_areLines.f l =
  (bif (decide ((l.length : Int) ≤ 40)) then ((slices_ContainsFunc_Lstring_string__impl_areLines_1.f l).bind fun y1 =>
   some (!y1)) else (some false)) := by kernel_rfl
noncomputable def impl_areLines.S : Abs.Sum := ⟨impl_areLines.P, impl_areLines.R, fun _ => Fn impl_areLines.E impl_areLines.T impl_areLines.C impl_areLines.P impl_areLines.R impl_areLines.X⟩
theorem impl_areLines.meets : Meets Try.prog 182 impl_areLines.S := meets_tab (S := impl_areLines.U) tabOk_all (AllMeets.cons slices_ContainsFunc_Lstring_string__impl_areLines_1.meets AllMeets.nil) (AllStill.cons (fun _ _ _ => rfl) AllStill.nil) follows (by kernel_rfl : Try.prog.funcs[182]? = some Try.f182) (by kernel_rfl) (by kernel_rfl) (by kernel_rfl)
noncomputable def internal_stringslite_HasSuffix.C : Code := Try.f234.body.getD .skip
def internal_stringslite_HasSuffix.P : Par := (.cons (.val .str) (.cons (.val .str) .nil))
noncomputable def internal_stringslite_HasSuffix.U : SumTab := []
noncomputable def internal_stringslite_HasSuffix.E : Env := mkEnv TY AR internal_stringslite_HasSuffix.U
noncomputable def internal_stringslite_HasSuffix.T : Tab := fun k => look k []
def internal_stringslite_HasSuffix.R : List (Nat × Ty) := [(0, .bool)]
def internal_stringslite_HasSuffix.X : List ResultVar := [.tmp 4]
noncomputable def internal_stringslite_HasSuffix.f (s : ByteArray) (suffix : ByteArray) : Option (Bool) := Fn internal_stringslite_HasSuffix.E internal_stringslite_HasSuffix.T internal_stringslite_HasSuffix.C internal_stringslite_HasSuffix.P internal_stringslite_HasSuffix.R internal_stringslite_HasSuffix.X (s, suffix)
theorem internal_stringslite_HasSuffix.f_eq (s : ByteArray) (suffix : ByteArray) : internal_stringslite_HasSuffix.f s suffix =
  (bif (decide ((s.size : Int) ≥ (suffix.size : Int))) then (bif ((decide (0 ≤ (w64 ((s.size : Int) - (suffix.size : Int))))) && (decide ((w64 ((s.size : Int) - (suffix.size : Int))) ≤ (s.size : Int)))) then (some ((s.extract ((w64 ((s.size : Int) - (suffix.size : Int)))).toNat s.size).toList == suffix.toList)) else none) else (some false)) := by kernel_rfl
noncomputable def internal_stringslite_HasSuffix.S : Abs.Sum := ⟨internal_stringslite_HasSuffix.P, internal_stringslite_HasSuffix.R, fun _ => Fn internal_stringslite_HasSuffix.E internal_stringslite_HasSuffix.T internal_stringslite_HasSuffix.C internal_stringslite_HasSuffix.P internal_stringslite_HasSuffix.R internal_stringslite_HasSuffix.X⟩
theorem internal_stringslite_HasSuffix.meets : Meets Try.prog 234 internal_stringslite_HasSuffix.S := meets_tab (S := internal_stringslite_HasSuffix.U) tabOk_all AllMeets.nil AllStill.nil follows (by kernel_rfl : Try.prog.funcs[234]? = some Try.f234) (by kernel_rfl) (by kernel_rfl) (by kernel_rfl)
noncomputable def strings_HasSuffix.C : Code := Try.f219.body.getD .skip
def strings_HasSuffix.P : Par := (.cons (.val .str) (.cons (.val .str) .nil))
noncomputable def strings_HasSuffix.U : SumTab := [(234, [], internal_stringslite_HasSuffix.S)]
noncomputable def strings_HasSuffix.E : Env := mkEnv TY AR strings_HasSuffix.U
noncomputable def strings_HasSuffix.T : Tab := fun k => look k []
def strings_HasSuffix.R : List (Nat × Ty) := [(0, .bool)]
def strings_HasSuffix.X : List ResultVar := [.tmp 4]
noncomputable def strings_HasSuffix.f (s : ByteArray) (suffix : ByteArray) : Option (Bool) := Fn strings_HasSuffix.E strings_HasSuffix.T strings_HasSuffix.C strings_HasSuffix.P strings_HasSuffix.R strings_HasSuffix.X (s, suffix)
theorem strings_HasSuffix.f_eq (s : ByteArray) (suffix : ByteArray) : strings_HasSuffix.f s suffix =
  ((internal_stringslite_HasSuffix.f s suffix).bind fun y1 =>
  some y1) := by kernel_rfl
noncomputable def strings_HasSuffix.S : Abs.Sum := ⟨strings_HasSuffix.P, strings_HasSuffix.R, fun _ => Fn strings_HasSuffix.E strings_HasSuffix.T strings_HasSuffix.C strings_HasSuffix.P strings_HasSuffix.R strings_HasSuffix.X⟩
theorem strings_HasSuffix.meets : Meets Try.prog 219 strings_HasSuffix.S := meets_tab (S := strings_HasSuffix.U) tabOk_all (AllMeets.cons internal_stringslite_HasSuffix.meets AllMeets.nil) (AllStill.cons (fun _ _ _ => rfl) AllStill.nil) follows (by kernel_rfl : Try.prog.funcs[219]? = some Try.f219) (by kernel_rfl) (by kernel_rfl) (by kernel_rfl)
noncomputable def impl_isEnded.C : Code := Try.f183.body.getD .skip
def impl_isEnded.P : Par := (.cons (.val .str) .nil)
noncomputable def impl_isEnded.U : SumTab := [(219, [], strings_HasSuffix.S)]
noncomputable def impl_isEnded.E : Env := mkEnv TY AR impl_isEnded.U
noncomputable def impl_isEnded.T : Tab := fun k => look k []
def impl_isEnded.R : List (Nat × Ty) := [(0, .bool)]
def impl_isEnded.X : List ResultVar := [.tmp 2]
noncomputable def impl_isEnded.f (line : ByteArray) : Option (Bool) := Fn impl_isEnded.E impl_isEnded.T impl_isEnded.C impl_isEnded.P impl_isEnded.R impl_isEnded.X line
theorem impl_isEnded.f_eq (line : ByteArray) : impl_isEnded.f line =
  ((strings_HasSuffix.f line (⟨#[10]⟩ : ByteArray)).bind fun y1 =>
  some y1) := by kernel_rfl
noncomputable def impl_isEnded.S : Abs.Sum := ⟨impl_isEnded.P, impl_isEnded.R, fun _ => Fn impl_isEnded.E impl_isEnded.T impl_isEnded.C impl_isEnded.P impl_isEnded.R impl_isEnded.X⟩
theorem impl_isEnded.meets : Meets Try.prog 183 impl_isEnded.S := meets_tab (S := impl_isEnded.U) tabOk_all (AllMeets.cons strings_HasSuffix.meets AllMeets.nil) (AllStill.cons (fun _ _ _ => rfl) AllStill.nil) follows (by kernel_rfl : Try.prog.funcs[183]? = some Try.f183) (by kernel_rfl) (by kernel_rfl) (by kernel_rfl)
noncomputable def impl_goodLines.C : Code := Try.f127.body.getD .skip
def impl_goodLines.P : Par := (.cons (.val (.list .str)) .nil)
noncomputable def impl_goodLines.U : SumTab := [(182, [], impl_areLines.S), (183, [], impl_isEnded.S)]
noncomputable def impl_goodLines.E : Env := mkEnv TY AR impl_goodLines.U
def impl_goodLines.D8 : CutD := ⟨[0, 8, 9, 10], (.cons (.val (.list .str)) (.cons (.val (.list .str)) (.cons (.val (.int .i64)) (.cons (.val (.int .i64)) .nil))))⟩
noncomputable def impl_goodLines.T : Tab := fun k => look k [(8, impl_goodLines.D8)]
def impl_goodLines.R : List (Nat × Ty) := [(0, .bool)]
def impl_goodLines.X : List ResultVar := [.tmp 2]
noncomputable def impl_goodLines.K := fin impl_goodLines.E ⟨impl_goodLines.P, impl_goodLines.R, fun _ _ => none⟩ impl_goodLines.X impl_goodLines.P.len 0
noncomputable def impl_goodLines.l8 (l : List ByteArray) (t8 : List ByteArray) (t9 : Int) (t10 : Int) : Option (Bool) := fixP impl_goodLines.E impl_goodLines.T impl_goodLines.C impl_goodLines.K 8 impl_goodLines.D8 (l, t8, t9, t10)
noncomputable def impl_goodLines.f (l : List ByteArray) : Option (Bool) := Fn impl_goodLines.E impl_goodLines.T impl_goodLines.C impl_goodLines.P impl_goodLines.R impl_goodLines.X l
theorem impl_goodLines.l8_eq (l : List ByteArray) (t8 : List ByteArray) (t9 : Int) (t10 : Int) : impl_goodLines.l8 l t8 t9 t10 =
  (bif (decide (t10 < t9)) then (bif ((decide (0 ≤ t10)) && (decide (t10 < (t8.length : Int)))) then (bif (decide (t10 < (w64 ((l.length : Int) - 1)))) then ((impl_isEnded.f (t8.getD (t10).toNat em)).bind fun y1 =>
     bif (!y1) then (some false) else
     (impl_goodLines.l8 l t8 t9 (w64 (t10 + 1)))) else
    (impl_goodLines.l8 l t8 t9 (w64 (t10 + 1)))) else none) else (some true)) :=
  (fixP_eq impl_goodLines.E impl_goodLines.T impl_goodLines.C impl_goodLines.K 8 impl_goodLines.D8 (l, t8, t9, t10)).trans (by kernel_rfl)
theorem impl_goodLines.f_eq (l : List ByteArray) : impl_goodLines.f l =
  ((impl_areLines.f l).bind fun y1 =>
  bif (!y1) then (some false) else
  (impl_goodLines.l8 l l (l.length : Int) 0)) := by kernel_rfl
noncomputable def impl_goodLines.S : Abs.Sum := ⟨impl_goodLines.P, impl_goodLines.R, fun _ => Fn impl_goodLines.E impl_goodLines.T impl_goodLines.C impl_goodLines.P impl_goodLines.R impl_goodLines.X⟩
theorem impl_goodLines.meets : Meets Try.prog 127 impl_goodLines.S := meets_tab (S := impl_goodLines.U) tabOk_all (AllMeets.cons impl_areLines.meets (AllMeets.cons impl_isEnded.meets AllMeets.nil)) (AllStill.cons (fun _ _ _ => rfl) (AllStill.cons (fun _ _ _ => rfl) AllStill.nil)) follows (by kernel_rfl : Try.prog.funcs[127]? = some Try.f127) (by kernel_rfl) (by kernel_rfl) (by kernel_rfl)
noncomputable def impl_goodHunks.C : Code := Try.f167.body.getD .skip
def impl_goodHunks.P : Par := (.cons (.val (.int .i64)) (.cons (.val (.list (.pair (.int .i64) (.pair (.int .i64) (.one (.list .str)))))) .nil))
noncomputable def impl_goodHunks.U : SumTab := [(98, [], impl_in.S), (182, [], impl_areLines.S)]
noncomputable def impl_goodHunks.E : Env := mkEnv TY AR impl_goodHunks.U
def impl_goodHunks.D7 : CutD := ⟨[0, 1], (.cons (.val (.int .i64)) (.cons (.val (.list (.pair (.int .i64) (.pair (.int .i64) (.one (.list .str)))))) .nil))⟩
def impl_goodHunks.D8 : CutD := ⟨[0, 1, 15, 16, 17], (.cons (.val (.int .i64)) (.cons (.val (.list (.pair (.int .i64) (.pair (.int .i64) (.one (.list .str)))))) (.cons (.val (.list (.pair (.int .i64) (.pair (.int .i64) (.one (.list .str)))))) (.cons (.val (.int .i64)) (.cons (.val (.int .i64)) .nil)))))⟩
def impl_goodHunks.D17 : CutD := ⟨[0, 1, 5, 6, 15, 16, 17], (.cons (.val (.int .i64)) (.cons (.val (.list (.pair (.int .i64) (.pair (.int .i64) (.one (.list .str)))))) (.cons (.val (.int .i64)) (.cons (.box 0 (.pair (.int .i64) (.pair (.int .i64) (.one (.list .str))))) (.cons (.val (.list (.pair (.int .i64) (.pair (.int .i64) (.one (.list .str)))))) (.cons (.val (.int .i64)) (.cons (.val (.int .i64)) .nil)))))))⟩
noncomputable def impl_goodHunks.T : Tab := fun k => look k [(7, impl_goodHunks.D7), (8, impl_goodHunks.D8), (17, impl_goodHunks.D17)]
def impl_goodHunks.R : List (Nat × Ty) := [(0, .bool)]
def impl_goodHunks.X : List ResultVar := [.tmp 4]
noncomputable def impl_goodHunks.K := fin impl_goodHunks.E ⟨impl_goodHunks.P, impl_goodHunks.R, fun _ _ => none⟩ impl_goodHunks.X impl_goodHunks.P.len 0
noncomputable def impl_goodHunks.l7 (many : Int) (h : List (Int × Int × List ByteArray)) : Option (Bool) := fixP impl_goodHunks.E impl_goodHunks.T impl_goodHunks.C impl_goodHunks.K 7 impl_goodHunks.D7 (many, h)
noncomputable def impl_goodHunks.l8 (many : Int) (h : List (Int × Int × List ByteArray)) (t15 : List (Int × Int × List ByteArray)) (t16 : Int) (t17 : Int) : Option (Bool) := fixP impl_goodHunks.E impl_goodHunks.T impl_goodHunks.C impl_goodHunks.K 8 impl_goodHunks.D8 (many, h, t15, t16, t17)
noncomputable def impl_goodHunks.l17 (many : Int) (h : List (Int × Int × List ByteArray)) (i : Int) (x : Int × Int × List ByteArray) (t15 : List (Int × Int × List ByteArray)) (t16 : Int) (t17 : Int) : Option (Bool) := fixP impl_goodHunks.E impl_goodHunks.T impl_goodHunks.C impl_goodHunks.K 17 impl_goodHunks.D17 (many, h, i, x, t15, t16, t17)
noncomputable def impl_goodHunks.f (many : Int) (h : List (Int × Int × List ByteArray)) : Option (Bool) := Fn impl_goodHunks.E impl_goodHunks.T impl_goodHunks.C impl_goodHunks.P impl_goodHunks.R impl_goodHunks.X (many, h)
theorem impl_goodHunks.l7_eq (many : Int) (h : List (Int × Int × List ByteArray)) : impl_goodHunks.l7 many h =
  (impl_goodHunks.l8 many h h (h.length : Int) 0) :=
  (fixP_eq impl_goodHunks.E impl_goodHunks.T impl_goodHunks.C impl_goodHunks.K 7 impl_goodHunks.D7 (many, h)).trans (by kernel_rfl)
theorem impl_goodHunks.l8_eq (many : Int) (h : List (Int × Int × List ByteArray)) (t15 : List (Int × Int × List ByteArray)) (t16 : Int) (t17 : Int) : impl_goodHunks.l8 many h t15 t16 t17 =
  (bif (decide (t17 < t16)) then (bif ((decide (0 ≤ t17)) && (decide (t17 < (t15.length : Int)))) then ((impl_in.f (t15.getD (t17).toNat (0, 0, ([] : List ByteArray))).1 0 many).bind fun y1 =>
    bif (!y1) then (some false) else
    ((impl_in.f (t15.getD (t17).toNat (0, 0, ([] : List ByteArray))).2.1 0 (w64 (many - (t15.getD (t17).toNat (0, 0, ([] : List ByteArray))).1))).bind fun y2 =>
     bif (!y2) then (some false) else
     ((impl_areLines.f (t15.getD (t17).toNat (0, 0, ([] : List ByteArray))).2.2).bind fun y3 =>
      bif (!y3) then (some false) else
      (bif (decide ((t15.getD (t17).toNat (0, 0, ([] : List ByteArray))).2.1 = 0)) then (bif (decide (((t15.getD (t17).toNat (0, 0, ([] : List ByteArray))).2.2.length : Int) = 0)) then (some false) else
        (impl_goodHunks.l17 many h t17 (t15.getD (t17).toNat (0, 0, ([] : List ByteArray))) t15 t16 t17)) else
       (impl_goodHunks.l17 many h t17 (t15.getD (t17).toNat (0, 0, ([] : List ByteArray))) t15 t16 t17))))) else none) else (some true)) :=
  (fixP_eq impl_goodHunks.E impl_goodHunks.T impl_goodHunks.C impl_goodHunks.K 8 impl_goodHunks.D8 (many, h, t15, t16, t17)).trans (by kernel_rfl)
theorem impl_goodHunks.l17_eq (many : Int) (h : List (Int × Int × List ByteArray)) (i : Int) (x : Int × Int × List ByteArray) (t15 : List (Int × Int × List ByteArray)) (t16 : Int) (t17 : Int) : impl_goodHunks.l17 many h i x t15 t16 t17 =
  (bif (decide (i > 0)) then (bif ((decide (0 ≤ (w64 (i - 1)))) && (decide ((w64 (i - 1)) < (h.length : Int)))) then (bif ((decide (0 ≤ (w64 (i - 1)))) && (decide ((w64 (i - 1)) < (h.length : Int)))) then (bif (decide (x.1 ≤ (w64 ((h.getD ((w64 (i - 1))).toNat (0, 0, ([] : List ByteArray))).1 + (h.getD ((w64 (i - 1))).toNat (0, 0, ([] : List ByteArray))).2.1)))) then (some false) else
     (impl_goodHunks.l8 many h t15 t16 (w64 (t17 + 1)))) else none) else none) else
  (impl_goodHunks.l8 many h t15 t16 (w64 (t17 + 1)))) :=
  (fixP_eq impl_goodHunks.E impl_goodHunks.T impl_goodHunks.C impl_goodHunks.K 17 impl_goodHunks.D17 (many, h, i, x, t15, t16, t17)).trans (by kernel_rfl)
theorem impl_goodHunks.f_eq (many : Int) (h : List (Int × Int × List ByteArray)) : impl_goodHunks.f many h =
  ((impl_in.f many 0 40).bind fun y1 =>
  bif (!y1) then (some false) else
  (bif (decide ((h.length : Int) > 20)) then (some false) else
   (impl_goodHunks.l7 many h))) := by kernel_rfl
noncomputable def impl_goodHunks.S : Abs.Sum := ⟨impl_goodHunks.P, impl_goodHunks.R, fun _ => Fn impl_goodHunks.E impl_goodHunks.T impl_goodHunks.C impl_goodHunks.P impl_goodHunks.R impl_goodHunks.X⟩
theorem impl_goodHunks.meets : Meets Try.prog 167 impl_goodHunks.S := meets_tab (S := impl_goodHunks.U) tabOk_all (AllMeets.cons impl_in.meets (AllMeets.cons impl_areLines.meets AllMeets.nil)) (AllStill.cons (fun _ _ _ => rfl) (AllStill.cons (fun _ _ _ => rfl) AllStill.nil)) follows (by kernel_rfl : Try.prog.funcs[167]? = some Try.f167) (by kernel_rfl) (by kernel_rfl) (by kernel_rfl)
noncomputable def impl_patched.C : Code := Try.f190.body.getD .skip
def impl_patched.P : Par := (.cons (.val (.list .str)) (.cons (.val (.list (.pair (.int .i64) (.pair (.int .i64) (.one (.list .str)))))) .nil))
noncomputable def impl_patched.U : SumTab := []
noncomputable def impl_patched.E : Env := mkEnv TY AR impl_patched.U
def impl_patched.D6 : CutD := ⟨[0, 5, 6, 10, 11, 12], (.cons (.val (.list .str)) (.cons (.own 9 .str) (.cons (.val (.int .i64)) (.cons (.val (.list (.pair (.int .i64) (.pair (.int .i64) (.one (.list .str)))))) (.cons (.val (.int .i64)) (.cons (.val (.int .i64)) .nil))))))⟩
noncomputable def impl_patched.T : Tab := fun k => look k [(6, impl_patched.D6)]
def impl_patched.R : List (Nat × Ty) := [(9, .list .str)]
def impl_patched.X : List ResultVar := [.tmp 4]
noncomputable def impl_patched.K := fin impl_patched.E ⟨impl_patched.P, impl_patched.R, fun _ _ => none⟩ impl_patched.X impl_patched.P.len 0
noncomputable def impl_patched.l6 (l : List ByteArray) (out : List ByteArray) (t6 : Int) (t10 : List (Int × Int × List ByteArray)) (t11 : Int) (t12 : Int) : Option ((List ByteArray)) := fixP impl_patched.E impl_patched.T impl_patched.C impl_patched.K 6 impl_patched.D6 (l, out, t6, t10, t11, t12)
noncomputable def impl_patched.f (l : List ByteArray) (h : List (Int × Int × List ByteArray)) : Option ((List ByteArray)) := Fn impl_patched.E impl_patched.T impl_patched.C impl_patched.P impl_patched.R impl_patched.X (l, h)
theorem impl_patched.l6_eq (l : List ByteArray) (out : List ByteArray) (t6 : Int) (t10 : List (Int × Int × List ByteArray)) (t11 : Int) (t12 : Int) : impl_patched.l6 l out t6 t10 t11 t12 =
  (bif (decide (t12 < t11)) then (bif ((decide (0 ≤ t12)) && (decide (t12 < (t10.length : Int)))) then (bif ((decide (0 ≤ t6)) && ((decide (t6 ≤ (t10.getD (t12).toNat (0, 0, ([] : List ByteArray))).1)) && (decide ((t10.getD (t12).toNat (0, 0, ([] : List ByteArray))).1 ≤ (l.length : Int))))) then (bif (decide ((out.length + ((l.take ((t10.getD (t12).toNat (0, 0, ([] : List ByteArray))).1).toNat).drop (t6).toNat).length) ≤ room 16)) then (bif (decide (((out ++ ((l.take ((t10.getD (t12).toNat (0, 0, ([] : List ByteArray))).1).toNat).drop (t6).toNat)).length + (t10.getD (t12).toNat (0, 0, ([] : List ByteArray))).2.2.length) ≤ room 16)) then (impl_patched.l6 l ((out ++ ((l.take ((t10.getD (t12).toNat (0, 0, ([] : List ByteArray))).1).toNat).drop (t6).toNat)) ++ (t10.getD (t12).toNat (0, 0, ([] : List ByteArray))).2.2) (w64 ((t10.getD (t12).toNat (0, 0, ([] : List ByteArray))).1 + (t10.getD (t12).toNat (0, 0, ([] : List ByteArray))).2.1)) t10 t11 (w64 (t12 + 1))) else none) else none) else none) else none) else
  (bif ((decide (0 ≤ t6)) && (decide (t6 ≤ (l.length : Int)))) then (bif (decide ((out.length + (l.drop (t6).toNat).length) ≤ room 16)) then (some (out ++ (l.drop (t6).toNat))) else none) else none)) :=
  (fixP_eq impl_patched.E impl_patched.T impl_patched.C impl_patched.K 6 impl_patched.D6 (l, out, t6, t10, t11, t12)).trans (by kernel_rfl)
theorem impl_patched.f_eq (l : List ByteArray) (h : List (Int × Int × List ByteArray)) : impl_patched.f l h =
  (impl_patched.l6 l ([] : List ByteArray) 0 h (h.length : Int) 0) := by kernel_rfl
noncomputable def impl_patched.S : Abs.Sum := ⟨impl_patched.P, impl_patched.R, fun _ => Fn impl_patched.E impl_patched.T impl_patched.C impl_patched.P impl_patched.R impl_patched.X⟩
theorem impl_patched.meets : Meets Try.prog 190 impl_patched.S := meets_tab (S := impl_patched.U) tabOk_all AllMeets.nil AllStill.nil follows (by kernel_rfl : Try.prog.funcs[190]? = some Try.f190) (by kernel_rfl) (by kernel_rfl) (by kernel_rfl)
noncomputable def impl_Patch.C : Code := Try.f136.body.getD .skip
def impl_Patch.P : Par := (.cons (.val (.list .str)) (.cons (.val (.list (.pair (.int .i64) (.pair (.int .i64) (.one (.list .str)))))) .nil))
noncomputable def impl_Patch.U : SumTab := [(127, [], impl_goodLines.S), (167, [], impl_goodHunks.S), (190, [], impl_patched.S)]
noncomputable def impl_Patch.E : Env := mkEnv TY AR impl_Patch.U
def impl_Patch.D7 : CutD := ⟨[0, 1], (.cons (.val (.list .str)) (.cons (.val (.list (.pair (.int .i64) (.pair (.int .i64) (.one (.list .str)))))) .nil))⟩
noncomputable def impl_Patch.T : Tab := fun k => look k [(7, impl_Patch.D7)]
def impl_Patch.R : List (Nat × Ty) := [(9, .list .str), (0, .bool)]
def impl_Patch.X : List ResultVar := [.tmp 4, .tmp 5]
noncomputable def impl_Patch.K := fin impl_Patch.E ⟨impl_Patch.P, impl_Patch.R, fun _ _ => none⟩ impl_Patch.X impl_Patch.P.len 0
noncomputable def impl_Patch.l7 (l : List ByteArray) (h : List (Int × Int × List ByteArray)) : Option ((List ByteArray) × Bool) := fixP impl_Patch.E impl_Patch.T impl_Patch.C impl_Patch.K 7 impl_Patch.D7 (l, h)
noncomputable def impl_Patch.f (l : List ByteArray) (h : List (Int × Int × List ByteArray)) : Option ((List ByteArray) × Bool) := Fn impl_Patch.E impl_Patch.T impl_Patch.C impl_Patch.P impl_Patch.R impl_Patch.X (l, h)
theorem impl_Patch.l7_eq (l : List ByteArray) (h : List (Int × Int × List ByteArray)) : impl_Patch.l7 l h =
  ((impl_patched.f l h).bind fun y1 =>
  (impl_goodLines.f y1).bind fun y2 =>
  bif (!y2) then (some (([] : List ByteArray), false)) else (some (y1, true))) :=
  (fixP_eq impl_Patch.E impl_Patch.T impl_Patch.C impl_Patch.K 7 impl_Patch.D7 (l, h)).trans (by kernel_rfl)
theorem impl_Patch.f_eq (l : List ByteArray) (h : List (Int × Int × List ByteArray)) : impl_Patch.f l h =
  ((impl_goodLines.f l).bind fun y1 =>
  bif (!y1) then (some (([] : List ByteArray), false)) else
  ((impl_goodHunks.f (l.length : Int) h).bind fun y2 =>
   bif (!y2) then (some (([] : List ByteArray), false)) else
   (impl_Patch.l7 l h))) := by kernel_rfl
noncomputable def impl_Patch.S : Abs.Sum := ⟨impl_Patch.P, impl_Patch.R, fun _ => Fn impl_Patch.E impl_Patch.T impl_Patch.C impl_Patch.P impl_Patch.R impl_Patch.X⟩
theorem impl_Patch.meets : Meets Try.prog 136 impl_Patch.S := meets_tab (S := impl_Patch.U) tabOk_all (AllMeets.cons impl_goodLines.meets (AllMeets.cons impl_goodHunks.meets (AllMeets.cons impl_patched.meets AllMeets.nil))) (AllStill.cons (fun _ _ _ => rfl) (AllStill.cons (fun _ _ _ => rfl) (AllStill.cons (fun _ _ _ => rfl) AllStill.nil))) follows (by kernel_rfl : Try.prog.funcs[136]? = some Try.f136) (by kernel_rfl) (by kernel_rfl) (by kernel_rfl)
noncomputable def impl_Series_texts.C : Code := Try.f89.body.getD .skip
def impl_Series_texts.P : Par := (.cons (.val (.pair (.list .str) (.one (.list (.list (.pair (.int .i64) (.pair (.int .i64) (.one (.list .str))))))))) .nil)
noncomputable def impl_Series_texts.U : SumTab := [(127, [], impl_goodLines.S), (120, [], slices_Clone_Lstring_string.S), (136, [], impl_Patch.S)]
noncomputable def impl_Series_texts.E : Env := mkEnv TY AR impl_Series_texts.U
def impl_Series_texts.D7 : CutD := ⟨[1], (.cons (.box 0 (.pair (.list .str) (.one (.list (.list (.pair (.int .i64) (.pair (.int .i64) (.one (.list .str))))))))) .nil)⟩
def impl_Series_texts.D10 : CutD := ⟨[4, 24, 25, 26], (.cons (.own 9 (.list .str)) (.cons (.val (.list (.list (.pair (.int .i64) (.pair (.int .i64) (.one (.list .str))))))) (.cons (.val (.int .i64)) (.cons (.val (.int .i64)) .nil))))⟩
noncomputable def impl_Series_texts.T : Tab := fun k => look k [(7, impl_Series_texts.D7), (10, impl_Series_texts.D10)]
def impl_Series_texts.R : List (Nat × Ty) := [(9, .list (.list .str)), (0, .bool)]
def impl_Series_texts.X : List ResultVar := [.tmp 2, .tmp 3]
noncomputable def impl_Series_texts.K := fin impl_Series_texts.E ⟨impl_Series_texts.P, impl_Series_texts.R, fun _ _ => none⟩ impl_Series_texts.X impl_Series_texts.P.len 0
noncomputable def impl_Series_texts.l7 (s : (List ByteArray) × List (List (Int × Int × List ByteArray))) : Option ((List (List ByteArray)) × Bool) := fixP impl_Series_texts.E impl_Series_texts.T impl_Series_texts.C impl_Series_texts.K 7 impl_Series_texts.D7 s
noncomputable def impl_Series_texts.l10 (out : List (List ByteArray)) (t24 : List (List (Int × Int × List ByteArray))) (t25 : Int) (t26 : Int) : Option ((List (List ByteArray)) × Bool) := fixP impl_Series_texts.E impl_Series_texts.T impl_Series_texts.C impl_Series_texts.K 10 impl_Series_texts.D10 (out, t24, t25, t26)
noncomputable def impl_Series_texts.f (s : (List ByteArray) × List (List (Int × Int × List ByteArray))) : Option ((List (List ByteArray)) × Bool) := Fn impl_Series_texts.E impl_Series_texts.T impl_Series_texts.C impl_Series_texts.P impl_Series_texts.R impl_Series_texts.X s
theorem impl_Series_texts.l7_eq (s : (List ByteArray) × List (List (Int × Int × List ByteArray))) : impl_Series_texts.l7 s =
  ((slices_Clone_Lstring_string.f s.1).bind fun y1 =>
  impl_Series_texts.l10 [y1] s.2 (s.2.length : Int) 0) :=
  (fixP_eq impl_Series_texts.E impl_Series_texts.T impl_Series_texts.C impl_Series_texts.K 7 impl_Series_texts.D7 s).trans (by kernel_rfl)
theorem impl_Series_texts.l10_eq (out : List (List ByteArray)) (t24 : List (List (Int × Int × List ByteArray))) (t25 : Int) (t26 : Int) : impl_Series_texts.l10 out t24 t25 t26 =
  (bif (decide (t26 < t25)) then (bif ((decide (0 ≤ t26)) && (decide (t26 < (t24.length : Int)))) then (bif ((decide (0 ≤ t26)) && (decide (t26 < (out.length : Int)))) then ((impl_Patch.f (out.getD (t26).toNat ([] : List ByteArray)) (t24.getD (t26).toNat ([] : List (Int × Int × List ByteArray)))).bind fun y1 =>
     bif (!y1.2) then (some (([] : List (List ByteArray)), false)) else
     (bif (decide ((out.length + [y1.1].length) ≤ room 24)) then (impl_Series_texts.l10 (out ++ [y1.1]) t24 t25 (w64 (t26 + 1))) else none)) else none) else none) else (some (out, true))) :=
  (fixP_eq impl_Series_texts.E impl_Series_texts.T impl_Series_texts.C impl_Series_texts.K 10 impl_Series_texts.D10 (out, t24, t25, t26)).trans (by kernel_rfl)
theorem impl_Series_texts.f_eq (s : (List ByteArray) × List (List (Int × Int × List ByteArray))) : impl_Series_texts.f s =
  ((impl_goodLines.f s.1).bind fun y1 =>
  bif (!y1) then (some (([] : List (List ByteArray)), false)) else
  (bif (decide ((s.2.length : Int) ≥ 8)) then (some (([] : List (List ByteArray)), false)) else
   (impl_Series_texts.l7 s))) := by kernel_rfl
noncomputable def impl_Series_texts.S : Abs.Sum := ⟨impl_Series_texts.P, impl_Series_texts.R, fun _ => Fn impl_Series_texts.E impl_Series_texts.T impl_Series_texts.C impl_Series_texts.P impl_Series_texts.R impl_Series_texts.X⟩
theorem impl_Series_texts.meets : Meets Try.prog 89 impl_Series_texts.S := meets_tab (S := impl_Series_texts.U) tabOk_all (AllMeets.cons impl_goodLines.meets (AllMeets.cons slices_Clone_Lstring_string.meets (AllMeets.cons impl_Patch.meets AllMeets.nil))) (AllStill.cons (fun _ _ _ => rfl) (AllStill.cons (fun _ _ _ => rfl) (AllStill.cons (fun _ _ _ => rfl) AllStill.nil))) follows (by kernel_rfl : Try.prog.funcs[89]? = some Try.f89) (by kernel_rfl) (by kernel_rfl) (by kernel_rfl)
noncomputable def impl_common.C : Code := Try.f231.body.getD .skip
def impl_common.P : Par := (.cons (.val (.list .str)) (.cons (.val (.list .str)) .nil))
noncomputable def impl_common.U : SumTab := []
noncomputable def impl_common.E : Env := mkEnv TY AR impl_common.U
def impl_common.D8 : CutD := ⟨[0, 1, 5, 6], (.cons (.val (.list .str)) (.cons (.val (.list .str)) (.cons (.own 9 (.list (.int .i64))) (.cons (.val (.int .i64)) .nil))))⟩
def impl_common.D16 : CutD := ⟨[0, 1, 5, 6, 7], (.cons (.val (.list .str)) (.cons (.val (.list .str)) (.cons (.own 9 (.list (.int .i64))) (.cons (.val (.int .i64)) (.cons (.val (.int .i64)) .nil)))))⟩
noncomputable def impl_common.T : Tab := fun k => look k [(8, impl_common.D8), (16, impl_common.D16)]
def impl_common.R : List (Nat × Ty) := [(9, .list (.list (.int .i64)))]
def impl_common.X : List ResultVar := [.tmp 4]
noncomputable def impl_common.K := fin impl_common.E ⟨impl_common.P, impl_common.R, fun _ _ => none⟩ impl_common.X impl_common.P.len 0
noncomputable def impl_common.l8 (a : List ByteArray) (b : List ByteArray) (out : List (List Int)) (i : Int) : Option ((List (List Int))) := fixP impl_common.E impl_common.T impl_common.C impl_common.K 8 impl_common.D8 (a, b, out, i)
noncomputable def impl_common.l16 (a : List ByteArray) (b : List ByteArray) (out : List (List Int)) (i : Int) (j : Int) : Option ((List (List Int))) := fixP impl_common.E impl_common.T impl_common.C impl_common.K 16 impl_common.D16 (a, b, out, i, j)
noncomputable def impl_common.f (a : List ByteArray) (b : List ByteArray) : Option ((List (List Int))) := Fn impl_common.E impl_common.T impl_common.C impl_common.P impl_common.R impl_common.X (a, b)
theorem impl_common.l8_eq (a : List ByteArray) (b : List ByteArray) (out : List (List Int)) (i : Int) : impl_common.l8 a b out i =
  (bif (decide (i ≥ 0)) then (bif ((decide (0 ≤ (w64 ((b.length : Int) + 1)))) && (decide (((w64 ((b.length : Int) + 1))).toNat ≤ room 8))) then (bif ((decide (0 ≤ i)) && (decide (i < (out.length : Int)))) then (impl_common.l16 a b (out.set (i).toNat (List.replicate ((w64 ((b.length : Int) + 1))).toNat 0)) i (w64 ((b.length : Int) - 1))) else none) else none) else (some out)) :=
  (fixP_eq impl_common.E impl_common.T impl_common.C impl_common.K 8 impl_common.D8 (a, b, out, i)).trans (by kernel_rfl)
theorem impl_common.l16_eq (a : List ByteArray) (b : List ByteArray) (out : List (List Int)) (i : Int) (j : Int) : impl_common.l16 a b out i j =
  (bif (decide (j ≥ 0)) then (bif ((decide (0 ≤ i)) && (decide (i < (a.length : Int)))) then (bif ((decide (0 ≤ j)) && (decide (j < (b.length : Int)))) then (bif ((a.getD (i).toNat em).toList == (b.getD (j).toNat em).toList) then (bif ((decide (0 ≤ i)) && (decide (i < (out.length : Int)))) then (bif ((decide (0 ≤ (w64 (i + 1)))) && (decide ((w64 (i + 1)) < (out.length : Int)))) then (bif ((decide (0 ≤ (w64 (j + 1)))) && (decide ((w64 (j + 1)) < ((out.getD ((w64 (i + 1))).toNat ([] : List Int)).length : Int)))) then (bif ((decide (0 ≤ j)) && (decide (j < ((out.getD (i).toNat ([] : List Int)).length : Int)))) then (impl_common.l16 a b (out.set (i).toNat ((out.getD (i).toNat ([] : List Int)).set (j).toNat (w64 (((out.getD ((w64 (i + 1))).toNat ([] : List Int)).getD ((w64 (j + 1))).toNat 0) + 1)))) i (w64 (j - 1))) else none) else none) else none) else none) else
     (bif ((decide (0 ≤ i)) && (decide (i < (out.length : Int)))) then (bif ((decide (0 ≤ (w64 (i + 1)))) && (decide ((w64 (i + 1)) < (out.length : Int)))) then (bif ((decide (0 ≤ j)) && (decide (j < ((out.getD ((w64 (i + 1))).toNat ([] : List Int)).length : Int)))) then (bif ((decide (0 ≤ i)) && (decide (i < (out.length : Int)))) then (bif ((decide (0 ≤ (w64 (j + 1)))) && (decide ((w64 (j + 1)) < ((out.getD (i).toNat ([] : List Int)).length : Int)))) then (bif ((decide (0 ≤ j)) && (decide (j < ((out.getD (i).toNat ([] : List Int)).length : Int)))) then (impl_common.l16 a b (out.set (i).toNat ((out.getD (i).toNat ([] : List Int)).set (j).toNat (max ((out.getD ((w64 (i + 1))).toNat ([] : List Int)).getD (j).toNat 0) ((out.getD (i).toNat ([] : List Int)).getD ((w64 (j + 1))).toNat 0)))) i (w64 (j - 1))) else none) else none) else none) else none) else none) else none)) else none) else none) else
  (impl_common.l8 a b out (w64 (i - 1)))) :=
  (fixP_eq impl_common.E impl_common.T impl_common.C impl_common.K 16 impl_common.D16 (a, b, out, i, j)).trans (by kernel_rfl)
theorem impl_common.f_eq (a : List ByteArray) (b : List ByteArray) : impl_common.f a b =
  (bif ((decide (0 ≤ (w64 ((a.length : Int) + 1)))) && (decide (((w64 ((a.length : Int) + 1))).toNat ≤ room 24))) then (bif ((decide (0 ≤ (w64 ((b.length : Int) + 1)))) && (decide (((w64 ((b.length : Int) + 1))).toNat ≤ room 8))) then (bif ((decide (0 ≤ (a.length : Int))) && (decide ((a.length : Int) < ((List.replicate ((w64 ((a.length : Int) + 1))).toNat ([] : List Int)).length : Int)))) then (impl_common.l8 a b ((List.replicate ((w64 ((a.length : Int) + 1))).toNat ([] : List Int)).set ((a.length : Int)).toNat (List.replicate ((w64 ((b.length : Int) + 1))).toNat 0)) (w64 ((a.length : Int) - 1))) else none) else none) else none) := by kernel_rfl
noncomputable def impl_common.S : Abs.Sum := ⟨impl_common.P, impl_common.R, fun _ => Fn impl_common.E impl_common.T impl_common.C impl_common.P impl_common.R impl_common.X⟩
theorem impl_common.meets : Meets Try.prog 231 impl_common.S := meets_tab (S := impl_common.U) tabOk_all AllMeets.nil AllStill.nil follows (by kernel_rfl : Try.prog.funcs[231]? = some Try.f231) (by kernel_rfl) (by kernel_rfl) (by kernel_rfl)
noncomputable def impl_commonLines.C : Code := Try.f208.body.getD .skip
def impl_commonLines.P : Par := (.cons (.val (.list .str)) (.cons (.val (.list .str)) .nil))
noncomputable def impl_commonLines.U : SumTab := [(231, [], impl_common.S)]
noncomputable def impl_commonLines.E : Env := mkEnv TY AR impl_commonLines.U
def impl_commonLines.D8 : CutD := ⟨[0, 1, 5, 6, 7, 8, 21, 22], (.cons (.val (.list .str)) (.cons (.val (.list .str)) (.cons (.own 8 (.list (.int .i64))) (.cons (.own 9 (.list (.int .i64))) (.cons (.val (.int .i64)) (.cons (.val (.int .i64)) (.cons (.val (.int .i64)) (.cons (.val (.int .i64)) .nil))))))))⟩
def impl_commonLines.D14 : CutD := ⟨[0, 1, 5, 6, 7, 8, 9, 10, 21, 22], (.cons (.val (.list .str)) (.cons (.val (.list .str)) (.cons (.own 8 (.list (.int .i64))) (.cons (.own 9 (.list (.int .i64))) (.cons (.val (.int .i64)) (.cons (.val (.int .i64)) (.cons (.val (.int .i64)) (.cons (.val (.int .i64)) (.cons (.val (.int .i64)) (.cons (.val (.int .i64)) .nil))))))))))⟩
def impl_commonLines.D19 : CutD := ⟨[0, 1, 5, 6, 7, 8, 9, 10, 21, 22], (.cons (.val (.list .str)) (.cons (.val (.list .str)) (.cons (.own 8 (.list (.int .i64))) (.cons (.own 9 (.list (.int .i64))) (.cons (.val (.int .i64)) (.cons (.val (.int .i64)) (.cons (.val (.int .i64)) (.cons (.val (.int .i64)) (.cons (.val (.int .i64)) (.cons (.val (.int .i64)) .nil))))))))))⟩
noncomputable def impl_commonLines.T : Tab := fun k => look k [(8, impl_commonLines.D8), (14, impl_commonLines.D14), (19, impl_commonLines.D19)]
def impl_commonLines.R : List (Nat × Ty) := [(9, .list (.list (.int .i64)))]
def impl_commonLines.X : List ResultVar := [.tmp 4]
noncomputable def impl_commonLines.K := fin impl_commonLines.E ⟨impl_commonLines.P, impl_commonLines.R, fun _ _ => none⟩ impl_commonLines.X impl_commonLines.P.len 0
noncomputable def impl_commonLines.l8 (a : List ByteArray) (b : List ByteArray) (table : List (List Int)) (out : List (List Int)) (j : Int) (left : Int) (t21 : Int) (t22 : Int) : Option ((List (List Int))) := fixP impl_commonLines.E impl_commonLines.T impl_commonLines.C impl_commonLines.K 8 impl_commonLines.D8 (a, b, table, out, j, left, t21, t22)
noncomputable def impl_commonLines.l14 (a : List ByteArray) (b : List ByteArray) (table : List (List Int)) (out : List (List Int)) (j : Int) (left : Int) (i : Int) (k : Int) (t21 : Int) (t22 : Int) : Option ((List (List Int))) := fixP impl_commonLines.E impl_commonLines.T impl_commonLines.C impl_commonLines.K 14 impl_commonLines.D14 (a, b, table, out, j, left, i, k, t21, t22)
noncomputable def impl_commonLines.l19 (a : List ByteArray) (b : List ByteArray) (table : List (List Int)) (out : List (List Int)) (j : Int) (left : Int) (i : Int) (k : Int) (t21 : Int) (t22 : Int) : Option ((List (List Int))) := fixP impl_commonLines.E impl_commonLines.T impl_commonLines.C impl_commonLines.K 19 impl_commonLines.D19 (a, b, table, out, j, left, i, k, t21, t22)
noncomputable def impl_commonLines.f (a : List ByteArray) (b : List ByteArray) : Option ((List (List Int))) := Fn impl_commonLines.E impl_commonLines.T impl_commonLines.C impl_commonLines.P impl_commonLines.R impl_commonLines.X (a, b)
theorem impl_commonLines.l8_eq (a : List ByteArray) (b : List ByteArray) (table : List (List Int)) (out : List (List Int)) (j : Int) (left : Int) (t21 : Int) (t22 : Int) : impl_commonLines.l8 a b table out j left t21 t22 =
  (bif (decide (t22 < t21)) then (impl_commonLines.l14 a b table out j left t22 j t21 t22) else (some out)) :=
  (fixP_eq impl_commonLines.E impl_commonLines.T impl_commonLines.C impl_commonLines.K 8 impl_commonLines.D8 (a, b, table, out, j, left, t21, t22)).trans (by kernel_rfl)
theorem impl_commonLines.l14_eq (a : List ByteArray) (b : List ByteArray) (table : List (List Int)) (out : List (List Int)) (j : Int) (left : Int) (i : Int) (k : Int) (t21 : Int) (t22 : Int) : impl_commonLines.l14 a b table out j left i k t21 t22 =
  (bif (decide (k < (b.length : Int))) then (bif (decide (left > 0)) then (impl_commonLines.l19 a b table out j left i k t21 t22) else
   (impl_commonLines.l8 a b table out j left t21 (w64 (t22 + 1)))) else
  (impl_commonLines.l8 a b table out j left t21 (w64 (t22 + 1)))) :=
  (fixP_eq impl_commonLines.E impl_commonLines.T impl_commonLines.C impl_commonLines.K 14 impl_commonLines.D14 (a, b, table, out, j, left, i, k, t21, t22)).trans (by kernel_rfl)
theorem impl_commonLines.l19_eq (a : List ByteArray) (b : List ByteArray) (table : List (List Int)) (out : List (List Int)) (j : Int) (left : Int) (i : Int) (k : Int) (t21 : Int) (t22 : Int) : impl_commonLines.l19 a b table out j left i k t21 t22 =
  (bif ((decide (0 ≤ i)) && (decide (i < (a.length : Int)))) then (bif ((decide (0 ≤ k)) && (decide (k < (b.length : Int)))) then (bif ((a.getD (i).toNat em).toList == (b.getD (k).toNat em).toList) then (bif ((decide (0 ≤ (w64 (i + 1)))) && (decide ((w64 (i + 1)) < (table.length : Int)))) then (bif ((decide (0 ≤ (w64 (k + 1)))) && (decide ((w64 (k + 1)) < ((table.getD ((w64 (i + 1))).toNat ([] : List Int)).length : Int)))) then (bif (decide (((table.getD ((w64 (i + 1))).toNat ([] : List Int)).getD ((w64 (k + 1))).toNat 0) = (w64 (left - 1)))) then (bif (decide ((out.length + [[i, k]].length) ≤ room 24)) then (impl_commonLines.l8 a b table (out ++ [[i, k]]) (w64 (k + 1)) (w64 (left - 1)) t21 (w64 (t22 + 1))) else none) else
       (impl_commonLines.l14 a b table out j left i (w64 (k + 1)) t21 t22)) else none) else none) else
    (impl_commonLines.l14 a b table out j left i (w64 (k + 1)) t21 t22)) else none) else none) :=
  (fixP_eq impl_commonLines.E impl_commonLines.T impl_commonLines.C impl_commonLines.K 19 impl_commonLines.D19 (a, b, table, out, j, left, i, k, t21, t22)).trans (by kernel_rfl)
theorem impl_commonLines.f_eq (a : List ByteArray) (b : List ByteArray) : impl_commonLines.f a b =
  ((impl_common.f a b).bind fun y1 =>
  bif (decide (0 < (y1.length : Int))) then (bif (decide (0 < ((y1.getD 0 ([] : List Int)).length : Int))) then (impl_commonLines.l8 a b y1 ([] : List (List Int)) 0 ((y1.getD 0 ([] : List Int)).getD 0 0) (a.length : Int) 0) else none) else none) := by kernel_rfl
noncomputable def impl_commonLines.S : Abs.Sum := ⟨impl_commonLines.P, impl_commonLines.R, fun _ => Fn impl_commonLines.E impl_commonLines.T impl_commonLines.C impl_commonLines.P impl_commonLines.R impl_commonLines.X⟩
theorem impl_commonLines.meets : Meets Try.prog 208 impl_commonLines.S := meets_tab (S := impl_commonLines.U) tabOk_all (AllMeets.cons impl_common.meets AllMeets.nil) (AllStill.cons (fun _ _ _ => rfl) AllStill.nil) follows (by kernel_rfl : Try.prog.funcs[208]? = some Try.f208) (by kernel_rfl) (by kernel_rfl) (by kernel_rfl)
noncomputable def impl_between.C : Code := Try.f207.body.getD .skip
def impl_between.P : Par := (.cons (.val (.list .str)) (.cons (.val (.list .str)) (.cons (.val (.list (.list (.int .i64)))) .nil)))
noncomputable def impl_between.U : SumTab := [(230, [], slices_Clone_LLint_Lint.S), (120, [], slices_Clone_Lstring_string.S)]
noncomputable def impl_between.E : Env := mkEnv TY AR impl_between.U
def impl_between.D6 : CutD := ⟨[1, 7, 8, 9, 21, 22, 23], (.cons (.val (.list .str)) (.cons (.own 9 (.pair (.int .i64) (.pair (.int .i64) (.one (.list .str))))) (.cons (.val (.int .i64)) (.cons (.val (.int .i64)) (.cons (.own 0 (.list (.int .i64))) (.cons (.val (.int .i64)) (.cons (.val (.int .i64)) .nil)))))))⟩
def impl_between.D15 : CutD := ⟨[1, 7, 11, 21, 22, 23], (.cons (.val (.list .str)) (.cons (.own 9 (.pair (.int .i64) (.pair (.int .i64) (.one (.list .str))))) (.cons (.val (.list (.int .i64))) (.cons (.own 0 (.list (.int .i64))) (.cons (.val (.int .i64)) (.cons (.val (.int .i64)) .nil))))))⟩
noncomputable def impl_between.T : Tab := fun k => look k [(6, impl_between.D6), (15, impl_between.D15)]
def impl_between.R : List (Nat × Ty) := [(9, .list (.pair (.int .i64) (.pair (.int .i64) (.one (.list .str)))))]
def impl_between.X : List ResultVar := [.tmp 6]
noncomputable def impl_between.K := fin impl_between.E ⟨impl_between.P, impl_between.R, fun _ _ => none⟩ impl_between.X impl_between.P.len 0
noncomputable def impl_between.l6 (b : List ByteArray) (out : List (Int × Int × List ByteArray)) (i : Int) (j : Int) (t21 : List (List Int)) (t22 : Int) (t23 : Int) : Option ((List (Int × Int × List ByteArray))) := fixP impl_between.E impl_between.T impl_between.C impl_between.K 6 impl_between.D6 (b, out, i, j, t21, t22, t23)
noncomputable def impl_between.l15 (b : List ByteArray) (out : List (Int × Int × List ByteArray)) (p : List Int) (t21 : List (List Int)) (t22 : Int) (t23 : Int) : Option ((List (Int × Int × List ByteArray))) := fixP impl_between.E impl_between.T impl_between.C impl_between.K 15 impl_between.D15 (b, out, p, t21, t22, t23)
noncomputable def impl_between.f (a : List ByteArray) (b : List ByteArray) (pairs : List (List Int)) : Option ((List (Int × Int × List ByteArray))) := Fn impl_between.E impl_between.T impl_between.C impl_between.P impl_between.R impl_between.X (a, b, pairs)
theorem impl_between.l6_eq (b : List ByteArray) (out : List (Int × Int × List ByteArray)) (i : Int) (j : Int) (t21 : List (List Int)) (t22 : Int) (t23 : Int) : impl_between.l6 b out i j t21 t22 t23 =
  (bif (decide (t23 < t22)) then (bif ((decide (0 ≤ t23)) && (decide (t23 < (t21.length : Int)))) then (bif (decide (0 < ((t21.getD (t23).toNat ([] : List Int)).length : Int))) then (bif (decide (((t21.getD (t23).toNat ([] : List Int)).getD 0 0) > i)) then (bif (decide (0 < ((t21.getD (t23).toNat ([] : List Int)).length : Int))) then (bif (decide (1 < ((t21.getD (t23).toNat ([] : List Int)).length : Int))) then (bif ((decide (0 ≤ j)) && ((decide (j ≤ ((t21.getD (t23).toNat ([] : List Int)).getD 1 0))) && (decide (((t21.getD (t23).toNat ([] : List Int)).getD 1 0) ≤ (b.length : Int))))) then ((slices_Clone_Lstring_string.f ((b.take (((t21.getD (t23).toNat ([] : List Int)).getD 1 0)).toNat).drop (j).toNat)).bind fun y1 =>
         bif (decide ((out.length + [(i, (w64 (((t21.getD (t23).toNat ([] : List Int)).getD 0 0) - i)), y1)].length) ≤ room 40)) then (impl_between.l15 b (out ++ [(i, (w64 (((t21.getD (t23).toNat ([] : List Int)).getD 0 0) - i)), y1)]) (t21.getD (t23).toNat ([] : List Int)) t21 t22 t23) else none) else none) else none) else none) else
     (bif (decide (1 < ((t21.getD (t23).toNat ([] : List Int)).length : Int))) then (bif (decide (((t21.getD (t23).toNat ([] : List Int)).getD 1 0) > j)) then (bif (decide (0 < ((t21.getD (t23).toNat ([] : List Int)).length : Int))) then (bif (decide (1 < ((t21.getD (t23).toNat ([] : List Int)).length : Int))) then (bif ((decide (0 ≤ j)) && ((decide (j ≤ ((t21.getD (t23).toNat ([] : List Int)).getD 1 0))) && (decide (((t21.getD (t23).toNat ([] : List Int)).getD 1 0) ≤ (b.length : Int))))) then ((slices_Clone_Lstring_string.f ((b.take (((t21.getD (t23).toNat ([] : List Int)).getD 1 0)).toNat).drop (j).toNat)).bind fun y1 =>
           bif (decide ((out.length + [(i, (w64 (((t21.getD (t23).toNat ([] : List Int)).getD 0 0) - i)), y1)].length) ≤ room 40)) then (impl_between.l15 b (out ++ [(i, (w64 (((t21.getD (t23).toNat ([] : List Int)).getD 0 0) - i)), y1)]) (t21.getD (t23).toNat ([] : List Int)) t21 t22 t23) else none) else none) else none) else none) else
       (impl_between.l15 b out (t21.getD (t23).toNat ([] : List Int)) t21 t22 t23)) else none)) else none) else none) else (some out)) :=
  (fixP_eq impl_between.E impl_between.T impl_between.C impl_between.K 6 impl_between.D6 (b, out, i, j, t21, t22, t23)).trans (by kernel_rfl)
theorem impl_between.l15_eq (b : List ByteArray) (out : List (Int × Int × List ByteArray)) (p : List Int) (t21 : List (List Int)) (t22 : Int) (t23 : Int) : impl_between.l15 b out p t21 t22 t23 =
  (bif (decide (0 < (p.length : Int))) then (bif (decide (1 < (p.length : Int))) then (impl_between.l6 b out (w64 ((p.getD 0 0) + 1)) (w64 ((p.getD 1 0) + 1)) t21 t22 (w64 (t23 + 1))) else none) else none) :=
  (fixP_eq impl_between.E impl_between.T impl_between.C impl_between.K 15 impl_between.D15 (b, out, p, t21, t22, t23)).trans (by kernel_rfl)
theorem impl_between.f_eq (a : List ByteArray) (b : List ByteArray) (pairs : List (List Int)) : impl_between.f a b pairs =
  ((slices_Clone_LLint_Lint.f pairs).bind fun y1 =>
  bif (decide ((y1.length + [[(a.length : Int), (b.length : Int)]].length) ≤ room 24)) then (impl_between.l6 b ([] : List (Int × Int × List ByteArray)) 0 0 (y1 ++ [[(a.length : Int), (b.length : Int)]]) ((y1 ++ [[(a.length : Int), (b.length : Int)]]).length : Int) 0) else none) := by kernel_rfl
noncomputable def impl_between.S : Abs.Sum := ⟨impl_between.P, impl_between.R, fun _ => Fn impl_between.E impl_between.T impl_between.C impl_between.P impl_between.R impl_between.X⟩
theorem impl_between.meets : Meets Try.prog 207 impl_between.S := meets_tab (S := impl_between.U) tabOk_all (AllMeets.cons slices_Clone_LLint_Lint.meets (AllMeets.cons slices_Clone_Lstring_string.meets AllMeets.nil)) (AllStill.cons (fun _ _ _ => rfl) (AllStill.cons (fun _ _ _ => rfl) AllStill.nil)) follows (by kernel_rfl : Try.prog.funcs[207]? = some Try.f207) (by kernel_rfl) (by kernel_rfl) (by kernel_rfl)
noncomputable def impl_diff.C : Code := Try.f166.body.getD .skip
def impl_diff.P : Par := (.cons (.val (.list .str)) (.cons (.val (.list .str)) .nil))
noncomputable def impl_diff.U : SumTab := [(208, [], impl_commonLines.S), (207, [], impl_between.S)]
noncomputable def impl_diff.E : Env := mkEnv TY AR impl_diff.U
noncomputable def impl_diff.T : Tab := fun k => look k []
def impl_diff.R : List (Nat × Ty) := [(9, .list (.pair (.int .i64) (.pair (.int .i64) (.one (.list .str)))))]
def impl_diff.X : List ResultVar := [.tmp 4]
noncomputable def impl_diff.f (a : List ByteArray) (b : List ByteArray) : Option ((List (Int × Int × List ByteArray))) := Fn impl_diff.E impl_diff.T impl_diff.C impl_diff.P impl_diff.R impl_diff.X (a, b)
theorem impl_diff.f_eq (a : List ByteArray) (b : List ByteArray) : impl_diff.f a b =
  ((impl_commonLines.f a b).bind fun y1 =>
  (impl_between.f a b y1).bind fun y2 =>
  some y2) := by kernel_rfl
noncomputable def impl_diff.S : Abs.Sum := ⟨impl_diff.P, impl_diff.R, fun _ => Fn impl_diff.E impl_diff.T impl_diff.C impl_diff.P impl_diff.R impl_diff.X⟩
theorem impl_diff.meets : Meets Try.prog 166 impl_diff.S := meets_tab (S := impl_diff.U) tabOk_all (AllMeets.cons impl_commonLines.meets (AllMeets.cons impl_between.meets AllMeets.nil)) (AllStill.cons (fun _ _ _ => rfl) (AllStill.cons (fun _ _ _ => rfl) AllStill.nil)) follows (by kernel_rfl : Try.prog.funcs[166]? = some Try.f166) (by kernel_rfl) (by kernel_rfl) (by kernel_rfl)
noncomputable def impl_DiffHunks.C : Code := Try.f90.body.getD .skip
def impl_DiffHunks.P : Par := (.cons (.val (.list .str)) (.cons (.val (.list .str)) .nil))
noncomputable def impl_DiffHunks.U : SumTab := [(127, [], impl_goodLines.S), (166, [], impl_diff.S), (167, [], impl_goodHunks.S)]
noncomputable def impl_DiffHunks.E : Env := mkEnv TY AR impl_DiffHunks.U
def impl_DiffHunks.D7 : CutD := ⟨[0, 1], (.cons (.val (.list .str)) (.cons (.val (.list .str)) .nil))⟩
noncomputable def impl_DiffHunks.T : Tab := fun k => look k [(7, impl_DiffHunks.D7)]
def impl_DiffHunks.R : List (Nat × Ty) := [(9, .list (.pair (.int .i64) (.pair (.int .i64) (.one (.list .str))))), (0, .bool)]
def impl_DiffHunks.X : List ResultVar := [.tmp 4, .tmp 5]
noncomputable def impl_DiffHunks.K := fin impl_DiffHunks.E ⟨impl_DiffHunks.P, impl_DiffHunks.R, fun _ _ => none⟩ impl_DiffHunks.X impl_DiffHunks.P.len 0
noncomputable def impl_DiffHunks.l7 (a : List ByteArray) (b : List ByteArray) : Option ((List (Int × Int × List ByteArray)) × Bool) := fixP impl_DiffHunks.E impl_DiffHunks.T impl_DiffHunks.C impl_DiffHunks.K 7 impl_DiffHunks.D7 (a, b)
noncomputable def impl_DiffHunks.f (a : List ByteArray) (b : List ByteArray) : Option ((List (Int × Int × List ByteArray)) × Bool) := Fn impl_DiffHunks.E impl_DiffHunks.T impl_DiffHunks.C impl_DiffHunks.P impl_DiffHunks.R impl_DiffHunks.X (a, b)
theorem impl_DiffHunks.l7_eq (a : List ByteArray) (b : List ByteArray) : impl_DiffHunks.l7 a b =
  ((impl_diff.f a b).bind fun y1 =>
  (impl_goodHunks.f (a.length : Int) y1).bind fun y2 =>
  bif (!y2) then (some (([] : List (Int × Int × List ByteArray)), false)) else (some (y1, true))) :=
  (fixP_eq impl_DiffHunks.E impl_DiffHunks.T impl_DiffHunks.C impl_DiffHunks.K 7 impl_DiffHunks.D7 (a, b)).trans (by kernel_rfl)
theorem impl_DiffHunks.f_eq (a : List ByteArray) (b : List ByteArray) : impl_DiffHunks.f a b =
  ((impl_goodLines.f a).bind fun y1 =>
  bif (!y1) then (some (([] : List (Int × Int × List ByteArray)), false)) else
  ((impl_goodLines.f b).bind fun y2 =>
   bif (!y2) then (some (([] : List (Int × Int × List ByteArray)), false)) else
   (impl_DiffHunks.l7 a b))) := by kernel_rfl
noncomputable def impl_DiffHunks.S : Abs.Sum := ⟨impl_DiffHunks.P, impl_DiffHunks.R, fun _ => Fn impl_DiffHunks.E impl_DiffHunks.T impl_DiffHunks.C impl_DiffHunks.P impl_DiffHunks.R impl_DiffHunks.X⟩
theorem impl_DiffHunks.meets : Meets Try.prog 90 impl_DiffHunks.S := meets_tab (S := impl_DiffHunks.U) tabOk_all (AllMeets.cons impl_goodLines.meets (AllMeets.cons impl_diff.meets (AllMeets.cons impl_goodHunks.meets AllMeets.nil))) (AllStill.cons (fun _ _ _ => rfl) (AllStill.cons (fun _ _ _ => rfl) (AllStill.cons (fun _ _ _ => rfl) AllStill.nil))) follows (by kernel_rfl : Try.prog.funcs[90]? = some Try.f90) (by kernel_rfl) (by kernel_rfl) (by kernel_rfl)
noncomputable def impl_Series_copied.C : Code := Try.f91.body.getD .skip
def impl_Series_copied.P : Par := (.cons (.val (.pair (.list .str) (.one (.list (.list (.pair (.int .i64) (.pair (.int .i64) (.one (.list .str))))))))) .nil)
noncomputable def impl_Series_copied.U : SumTab := [(120, [], slices_Clone_Lstring_string.S), (168, [], impl_copiedHunks.S)]
noncomputable def impl_Series_copied.E : Env := mkEnv TY AR impl_Series_copied.U
def impl_Series_copied.D6 : CutD := ⟨[2, 3, 11, 12, 13], (.cons (.box 9 (.pair (.list .str) (.one (.list (.list (.pair (.int .i64) (.pair (.int .i64) (.one (.list .str))))))))) (.cons (.box 9 (.pair (.list .str) (.one (.list (.list (.pair (.int .i64) (.pair (.int .i64) (.one (.list .str))))))))) (.cons (.val (.list (.list (.pair (.int .i64) (.pair (.int .i64) (.one (.list .str))))))) (.cons (.val (.int .i64)) (.cons (.val (.int .i64)) .nil)))))⟩
noncomputable def impl_Series_copied.T : Tab := fun k => look k [(6, impl_Series_copied.D6)]
def impl_Series_copied.R : List (Nat × Ty) := [(9, .pair (.list .str) (.one (.list (.list (.pair (.int .i64) (.pair (.int .i64) (.one (.list .str))))))))]
def impl_Series_copied.X : List ResultVar := [.cell 2 30]
noncomputable def impl_Series_copied.K := fin impl_Series_copied.E ⟨impl_Series_copied.P, impl_Series_copied.R, fun _ _ => none⟩ impl_Series_copied.X impl_Series_copied.P.len 0
noncomputable def impl_Series_copied.l6 (t2 : (List ByteArray) × List (List (Int × Int × List ByteArray))) (out : (List ByteArray) × List (List (Int × Int × List ByteArray))) (t11 : List (List (Int × Int × List ByteArray))) (t12 : Int) (t13 : Int) : Option (((List ByteArray) × List (List (Int × Int × List ByteArray)))) := fixP impl_Series_copied.E impl_Series_copied.T impl_Series_copied.C impl_Series_copied.K 6 impl_Series_copied.D6 (t2, out, t11, t12, t13)
noncomputable def impl_Series_copied.f (s : (List ByteArray) × List (List (Int × Int × List ByteArray))) : Option (((List ByteArray) × List (List (Int × Int × List ByteArray)))) := Fn impl_Series_copied.E impl_Series_copied.T impl_Series_copied.C impl_Series_copied.P impl_Series_copied.R impl_Series_copied.X s
theorem impl_Series_copied.l6_eq (t2 : (List ByteArray) × List (List (Int × Int × List ByteArray))) (out : (List ByteArray) × List (List (Int × Int × List ByteArray))) (t11 : List (List (Int × Int × List ByteArray))) (t12 : Int) (t13 : Int) : impl_Series_copied.l6 t2 out t11 t12 t13 =
  (bif (decide (t13 < t12)) then (bif ((decide (0 ≤ t13)) && (decide (t13 < (t11.length : Int)))) then ((impl_copiedHunks.f (t11.getD (t13).toNat ([] : List (Int × Int × List ByteArray)))).bind fun y1 =>
    bif (decide ((out.2.length + [y1].length) ≤ room 24)) then (impl_Series_copied.l6 (t2.1, t2.2) (out.1, (out.2 ++ [y1])) t11 t12 (w64 (t13 + 1))) else none) else none) else (some (out.1, out.2))) :=
  (fixP_eq impl_Series_copied.E impl_Series_copied.T impl_Series_copied.C impl_Series_copied.K 6 impl_Series_copied.D6 (t2, out, t11, t12, t13)).trans (by kernel_rfl)
theorem impl_Series_copied.f_eq (s : (List ByteArray) × List (List (Int × Int × List ByteArray))) : impl_Series_copied.f s =
  ((slices_Clone_Lstring_string.f s.1).bind fun y1 =>
  impl_Series_copied.l6 (([] : List ByteArray), ([] : List (List (Int × Int × List ByteArray)))) (y1, ([] : List (List (Int × Int × List ByteArray)))) s.2 (s.2.length : Int) 0) := by kernel_rfl
noncomputable def impl_Series_copied.S : Abs.Sum := ⟨impl_Series_copied.P, impl_Series_copied.R, fun _ => Fn impl_Series_copied.E impl_Series_copied.T impl_Series_copied.C impl_Series_copied.P impl_Series_copied.R impl_Series_copied.X⟩
theorem impl_Series_copied.meets : Meets Try.prog 91 impl_Series_copied.S := meets_tab (S := impl_Series_copied.U) tabOk_all (AllMeets.cons slices_Clone_Lstring_string.meets (AllMeets.cons impl_copiedHunks.meets AllMeets.nil)) (AllStill.cons (fun _ _ _ => rfl) (AllStill.cons (fun _ _ _ => rfl) AllStill.nil)) follows (by kernel_rfl : Try.prog.funcs[91]? = some Try.f91) (by kernel_rfl) (by kernel_rfl) (by kernel_rfl)
noncomputable def impl_AddText.C : Code := Try.f15.body.getD .skip
def impl_AddText.P : Par := (.cons (.val (.pair (.list .str) (.one (.list (.list (.pair (.int .i64) (.pair (.int .i64) (.one (.list .str))))))))) (.cons (.val (.list .str)) .nil))
noncomputable def impl_AddText.U : SumTab := [(89, [], impl_Series_texts.S), (90, [], impl_DiffHunks.S), (91, [], impl_Series_copied.S)]
noncomputable def impl_AddText.E : Env := mkEnv TY AR impl_AddText.U
def impl_AddText.D9 : CutD := ⟨[1, 2, 4, 6], (.cons (.val (.list .str)) (.cons (.box 0 (.pair (.list .str) (.one (.list (.list (.pair (.int .i64) (.pair (.int .i64) (.one (.list .str))))))))) (.cons (.box 9 (.pair (.list .str) (.one (.list (.list (.pair (.int .i64) (.pair (.int .i64) (.one (.list .str))))))))) (.cons (.own 8 (.list .str)) .nil))))⟩
noncomputable def impl_AddText.T : Tab := fun k => look k [(9, impl_AddText.D9)]
def impl_AddText.R : List (Nat × Ty) := [(9, .pair (.list .str) (.one (.list (.list (.pair (.int .i64) (.pair (.int .i64) (.one (.list .str)))))))), (0, .bool)]
def impl_AddText.X : List ResultVar := [.cell 4 30, .tmp 5]
noncomputable def impl_AddText.K := fin impl_AddText.E ⟨impl_AddText.P, impl_AddText.R, fun _ _ => none⟩ impl_AddText.X impl_AddText.P.len 0
noncomputable def impl_AddText.l9 (l : List ByteArray) (s : (List ByteArray) × List (List (Int × Int × List ByteArray))) (t4 : (List ByteArray) × List (List (Int × Int × List ByteArray))) (list : List (List ByteArray)) : Option (((List ByteArray) × List (List (Int × Int × List ByteArray))) × Bool) := fixP impl_AddText.E impl_AddText.T impl_AddText.C impl_AddText.K 9 impl_AddText.D9 (l, s, t4, list)
noncomputable def impl_AddText.f (s : (List ByteArray) × List (List (Int × Int × List ByteArray))) (l : List ByteArray) : Option (((List ByteArray) × List (List (Int × Int × List ByteArray))) × Bool) := Fn impl_AddText.E impl_AddText.T impl_AddText.C impl_AddText.P impl_AddText.R impl_AddText.X (s, l)
theorem impl_AddText.l9_eq (l : List ByteArray) (s : (List ByteArray) × List (List (Int × Int × List ByteArray))) (t4 : (List ByteArray) × List (List (Int × Int × List ByteArray))) (list : List (List ByteArray)) : impl_AddText.l9 l s t4 list =
  (bif ((decide (0 ≤ (s.2.length : Int))) && (decide ((s.2.length : Int) < (list.length : Int)))) then ((impl_DiffHunks.f (list.getD ((s.2.length : Int)).toNat ([] : List ByteArray)) l).bind fun y1 =>
   bif (!y1.2) then (some ((([] : List ByteArray), ([] : List (List (Int × Int × List ByteArray)))), false)) else
   ((impl_Series_copied.f s).bind fun y2 =>
    bif (decide ((y2.2.length + [y1.1].length) ≤ room 24)) then (some ((y2.1, (y2.2 ++ [y1.1])), true)) else none)) else none) :=
  (fixP_eq impl_AddText.E impl_AddText.T impl_AddText.C impl_AddText.K 9 impl_AddText.D9 (l, s, t4, list)).trans (by kernel_rfl)
theorem impl_AddText.f_eq (s : (List ByteArray) × List (List (Int × Int × List ByteArray))) (l : List ByteArray) : impl_AddText.f s l =
  ((impl_Series_texts.f s).bind fun y1 =>
  bif (!y1.2) then (some ((([] : List ByteArray), ([] : List (List (Int × Int × List ByteArray)))), false)) else
  (bif (decide ((w64 ((s.2.length : Int) + 1)) ≥ 8)) then (some ((([] : List ByteArray), ([] : List (List (Int × Int × List ByteArray)))), false)) else
   (impl_AddText.l9 l s (([] : List ByteArray), ([] : List (List (Int × Int × List ByteArray)))) y1.1))) := by kernel_rfl
noncomputable def impl_AddText.S : Abs.Sum := ⟨impl_AddText.P, impl_AddText.R, fun _ => Fn impl_AddText.E impl_AddText.T impl_AddText.C impl_AddText.P impl_AddText.R impl_AddText.X⟩
theorem impl_AddText.meets : Meets Try.prog 15 impl_AddText.S := meets_tab (S := impl_AddText.U) tabOk_all (AllMeets.cons impl_Series_texts.meets (AllMeets.cons impl_DiffHunks.meets (AllMeets.cons impl_Series_copied.meets AllMeets.nil))) (AllStill.cons (fun _ _ _ => rfl) (AllStill.cons (fun _ _ _ => rfl) (AllStill.cons (fun _ _ _ => rfl) AllStill.nil))) follows (by kernel_rfl : Try.prog.funcs[15]? = some Try.f15) (by kernel_rfl) (by kernel_rfl) (by kernel_rfl)
noncomputable def laws_eqStringS.C : Code := Try.f17.body.getD .skip
def laws_eqStringS.P : Par := (.cons (.val (.list .str)) (.cons (.val (.list .str)) .nil))
noncomputable def laws_eqStringS.U : SumTab := []
noncomputable def laws_eqStringS.E : Env := mkEnv TY AR laws_eqStringS.U
def laws_eqStringS.D8 : CutD := ⟨[0, 1, 5], (.cons (.val (.list .str)) (.cons (.val (.list .str)) (.cons (.val (.int .i64)) .nil)))⟩
noncomputable def laws_eqStringS.T : Tab := fun k => look k [(8, laws_eqStringS.D8)]
def laws_eqStringS.R : List (Nat × Ty) := [(0, .bool)]
def laws_eqStringS.X : List ResultVar := [.tmp 4]
noncomputable def laws_eqStringS.K := fin laws_eqStringS.E ⟨laws_eqStringS.P, laws_eqStringS.R, fun _ _ => none⟩ laws_eqStringS.X laws_eqStringS.P.len 0
noncomputable def laws_eqStringS.l8 (a : List ByteArray) (b : List ByteArray) (i : Int) : Option (Bool) := fixP laws_eqStringS.E laws_eqStringS.T laws_eqStringS.C laws_eqStringS.K 8 laws_eqStringS.D8 (a, b, i)
noncomputable def laws_eqStringS.f (a : List ByteArray) (b : List ByteArray) : Option (Bool) := Fn laws_eqStringS.E laws_eqStringS.T laws_eqStringS.C laws_eqStringS.P laws_eqStringS.R laws_eqStringS.X (a, b)
theorem laws_eqStringS.l8_eq (a : List ByteArray) (b : List ByteArray) (i : Int) : laws_eqStringS.l8 a b i =
  (bif (decide (i < (a.length : Int))) then (bif ((decide (0 ≤ i)) && (decide (i < (a.length : Int)))) then (bif ((decide (0 ≤ i)) && (decide (i < (b.length : Int)))) then (bif (!((a.getD (i).toNat em).toList == (b.getD (i).toNat em).toList)) then (some false) else
     (laws_eqStringS.l8 a b (w64 (i + 1)))) else none) else none) else (some true)) :=
  (fixP_eq laws_eqStringS.E laws_eqStringS.T laws_eqStringS.C laws_eqStringS.K 8 laws_eqStringS.D8 (a, b, i)).trans (by kernel_rfl)
theorem laws_eqStringS.f_eq (a : List ByteArray) (b : List ByteArray) : laws_eqStringS.f a b =
  (bif (!(decide ((a.length : Int) = (b.length : Int)))) then (some false) else
  (laws_eqStringS.l8 a b 0)) := by kernel_rfl
noncomputable def laws_eqStringS.S : Abs.Sum := ⟨laws_eqStringS.P, laws_eqStringS.R, fun _ => Fn laws_eqStringS.E laws_eqStringS.T laws_eqStringS.C laws_eqStringS.P laws_eqStringS.R laws_eqStringS.X⟩
theorem laws_eqStringS.meets : Meets Try.prog 17 laws_eqStringS.S := meets_tab (S := laws_eqStringS.U) tabOk_all AllMeets.nil AllStill.nil follows (by kernel_rfl : Try.prog.funcs[17]? = some Try.f17) (by kernel_rfl) (by kernel_rfl) (by kernel_rfl)
noncomputable def laws_eqHunk.C : Code := Try.f156.body.getD .skip
def laws_eqHunk.P : Par := (.cons (.val (.pair (.int .i64) (.pair (.int .i64) (.one (.list .str))))) (.cons (.val (.pair (.int .i64) (.pair (.int .i64) (.one (.list .str))))) .nil))
noncomputable def laws_eqHunk.U : SumTab := [(17, [], laws_eqStringS.S)]
noncomputable def laws_eqHunk.E : Env := mkEnv TY AR laws_eqHunk.U
noncomputable def laws_eqHunk.T : Tab := fun k => look k []
def laws_eqHunk.R : List (Nat × Ty) := [(0, .bool)]
def laws_eqHunk.X : List ResultVar := [.tmp 4]
noncomputable def laws_eqHunk.f (a : Int × Int × List ByteArray) (b : Int × Int × List ByteArray) : Option (Bool) := Fn laws_eqHunk.E laws_eqHunk.T laws_eqHunk.C laws_eqHunk.P laws_eqHunk.R laws_eqHunk.X (a, b)
theorem laws_eqHunk.f_eq (a : Int × Int × List ByteArray) (b : Int × Int × List ByteArray) : laws_eqHunk.f a b =
  (bif (!(decide (a.1 = b.1))) then (some false) else
  (bif (!(decide (a.2.1 = b.2.1))) then (some false) else
   ((laws_eqStringS.f a.2.2 b.2.2).bind fun y1 =>
    bif (!y1) then (some false) else (some true)))) := by kernel_rfl
noncomputable def laws_eqHunk.S : Abs.Sum := ⟨laws_eqHunk.P, laws_eqHunk.R, fun _ => Fn laws_eqHunk.E laws_eqHunk.T laws_eqHunk.C laws_eqHunk.P laws_eqHunk.R laws_eqHunk.X⟩
theorem laws_eqHunk.meets : Meets Try.prog 156 laws_eqHunk.S := meets_tab (S := laws_eqHunk.U) tabOk_all (AllMeets.cons laws_eqStringS.meets AllMeets.nil) (AllStill.cons (fun _ _ _ => rfl) AllStill.nil) follows (by kernel_rfl : Try.prog.funcs[156]? = some Try.f156) (by kernel_rfl) (by kernel_rfl) (by kernel_rfl)
noncomputable def laws_eqHunkS.C : Code := Try.f77.body.getD .skip
def laws_eqHunkS.P : Par := (.cons (.val (.list (.pair (.int .i64) (.pair (.int .i64) (.one (.list .str)))))) (.cons (.val (.list (.pair (.int .i64) (.pair (.int .i64) (.one (.list .str)))))) .nil))
noncomputable def laws_eqHunkS.U : SumTab := [(156, [], laws_eqHunk.S)]
noncomputable def laws_eqHunkS.E : Env := mkEnv TY AR laws_eqHunkS.U
def laws_eqHunkS.D8 : CutD := ⟨[0, 1, 5], (.cons (.val (.list (.pair (.int .i64) (.pair (.int .i64) (.one (.list .str)))))) (.cons (.val (.list (.pair (.int .i64) (.pair (.int .i64) (.one (.list .str)))))) (.cons (.val (.int .i64)) .nil)))⟩
noncomputable def laws_eqHunkS.T : Tab := fun k => look k [(8, laws_eqHunkS.D8)]
def laws_eqHunkS.R : List (Nat × Ty) := [(0, .bool)]
def laws_eqHunkS.X : List ResultVar := [.tmp 4]
noncomputable def laws_eqHunkS.K := fin laws_eqHunkS.E ⟨laws_eqHunkS.P, laws_eqHunkS.R, fun _ _ => none⟩ laws_eqHunkS.X laws_eqHunkS.P.len 0
noncomputable def laws_eqHunkS.l8 (a : List (Int × Int × List ByteArray)) (b : List (Int × Int × List ByteArray)) (i : Int) : Option (Bool) := fixP laws_eqHunkS.E laws_eqHunkS.T laws_eqHunkS.C laws_eqHunkS.K 8 laws_eqHunkS.D8 (a, b, i)
noncomputable def laws_eqHunkS.f (a : List (Int × Int × List ByteArray)) (b : List (Int × Int × List ByteArray)) : Option (Bool) := Fn laws_eqHunkS.E laws_eqHunkS.T laws_eqHunkS.C laws_eqHunkS.P laws_eqHunkS.R laws_eqHunkS.X (a, b)
theorem laws_eqHunkS.l8_eq (a : List (Int × Int × List ByteArray)) (b : List (Int × Int × List ByteArray)) (i : Int) : laws_eqHunkS.l8 a b i =
  (bif (decide (i < (a.length : Int))) then (bif ((decide (0 ≤ i)) && (decide (i < (a.length : Int)))) then (bif ((decide (0 ≤ i)) && (decide (i < (b.length : Int)))) then ((laws_eqHunk.f (a.getD (i).toNat (0, 0, ([] : List ByteArray))) (b.getD (i).toNat (0, 0, ([] : List ByteArray)))).bind fun y1 =>
     bif (!y1) then (some false) else
     (laws_eqHunkS.l8 a b (w64 (i + 1)))) else none) else none) else (some true)) :=
  (fixP_eq laws_eqHunkS.E laws_eqHunkS.T laws_eqHunkS.C laws_eqHunkS.K 8 laws_eqHunkS.D8 (a, b, i)).trans (by kernel_rfl)
theorem laws_eqHunkS.f_eq (a : List (Int × Int × List ByteArray)) (b : List (Int × Int × List ByteArray)) : laws_eqHunkS.f a b =
  (bif (!(decide ((a.length : Int) = (b.length : Int)))) then (some false) else
  (laws_eqHunkS.l8 a b 0)) := by kernel_rfl
noncomputable def laws_eqHunkS.S : Abs.Sum := ⟨laws_eqHunkS.P, laws_eqHunkS.R, fun _ => Fn laws_eqHunkS.E laws_eqHunkS.T laws_eqHunkS.C laws_eqHunkS.P laws_eqHunkS.R laws_eqHunkS.X⟩
theorem laws_eqHunkS.meets : Meets Try.prog 77 laws_eqHunkS.S := meets_tab (S := laws_eqHunkS.U) tabOk_all (AllMeets.cons laws_eqHunk.meets AllMeets.nil) (AllStill.cons (fun _ _ _ => rfl) AllStill.nil) follows (by kernel_rfl : Try.prog.funcs[77]? = some Try.f77) (by kernel_rfl) (by kernel_rfl) (by kernel_rfl)
noncomputable def laws_eqHunkSS.C : Code := Try.f92.body.getD .skip
def laws_eqHunkSS.P : Par := (.cons (.val (.list (.list (.pair (.int .i64) (.pair (.int .i64) (.one (.list .str))))))) (.cons (.val (.list (.list (.pair (.int .i64) (.pair (.int .i64) (.one (.list .str))))))) .nil))
noncomputable def laws_eqHunkSS.U : SumTab := [(77, [], laws_eqHunkS.S)]
noncomputable def laws_eqHunkSS.E : Env := mkEnv TY AR laws_eqHunkSS.U
def laws_eqHunkSS.D8 : CutD := ⟨[0, 1, 5], (.cons (.val (.list (.list (.pair (.int .i64) (.pair (.int .i64) (.one (.list .str))))))) (.cons (.val (.list (.list (.pair (.int .i64) (.pair (.int .i64) (.one (.list .str))))))) (.cons (.val (.int .i64)) .nil)))⟩
noncomputable def laws_eqHunkSS.T : Tab := fun k => look k [(8, laws_eqHunkSS.D8)]
def laws_eqHunkSS.R : List (Nat × Ty) := [(0, .bool)]
def laws_eqHunkSS.X : List ResultVar := [.tmp 4]
noncomputable def laws_eqHunkSS.K := fin laws_eqHunkSS.E ⟨laws_eqHunkSS.P, laws_eqHunkSS.R, fun _ _ => none⟩ laws_eqHunkSS.X laws_eqHunkSS.P.len 0
noncomputable def laws_eqHunkSS.l8 (a : List (List (Int × Int × List ByteArray))) (b : List (List (Int × Int × List ByteArray))) (i : Int) : Option (Bool) := fixP laws_eqHunkSS.E laws_eqHunkSS.T laws_eqHunkSS.C laws_eqHunkSS.K 8 laws_eqHunkSS.D8 (a, b, i)
noncomputable def laws_eqHunkSS.f (a : List (List (Int × Int × List ByteArray))) (b : List (List (Int × Int × List ByteArray))) : Option (Bool) := Fn laws_eqHunkSS.E laws_eqHunkSS.T laws_eqHunkSS.C laws_eqHunkSS.P laws_eqHunkSS.R laws_eqHunkSS.X (a, b)
theorem laws_eqHunkSS.l8_eq (a : List (List (Int × Int × List ByteArray))) (b : List (List (Int × Int × List ByteArray))) (i : Int) : laws_eqHunkSS.l8 a b i =
  (bif (decide (i < (a.length : Int))) then (bif ((decide (0 ≤ i)) && (decide (i < (a.length : Int)))) then (bif ((decide (0 ≤ i)) && (decide (i < (b.length : Int)))) then ((laws_eqHunkS.f (a.getD (i).toNat ([] : List (Int × Int × List ByteArray))) (b.getD (i).toNat ([] : List (Int × Int × List ByteArray)))).bind fun y1 =>
     bif (!y1) then (some false) else
     (laws_eqHunkSS.l8 a b (w64 (i + 1)))) else none) else none) else (some true)) :=
  (fixP_eq laws_eqHunkSS.E laws_eqHunkSS.T laws_eqHunkSS.C laws_eqHunkSS.K 8 laws_eqHunkSS.D8 (a, b, i)).trans (by kernel_rfl)
theorem laws_eqHunkSS.f_eq (a : List (List (Int × Int × List ByteArray))) (b : List (List (Int × Int × List ByteArray))) : laws_eqHunkSS.f a b =
  (bif (!(decide ((a.length : Int) = (b.length : Int)))) then (some false) else
  (laws_eqHunkSS.l8 a b 0)) := by kernel_rfl
noncomputable def laws_eqHunkSS.S : Abs.Sum := ⟨laws_eqHunkSS.P, laws_eqHunkSS.R, fun _ => Fn laws_eqHunkSS.E laws_eqHunkSS.T laws_eqHunkSS.C laws_eqHunkSS.P laws_eqHunkSS.R laws_eqHunkSS.X⟩
theorem laws_eqHunkSS.meets : Meets Try.prog 92 laws_eqHunkSS.S := meets_tab (S := laws_eqHunkSS.U) tabOk_all (AllMeets.cons laws_eqHunkS.meets AllMeets.nil) (AllStill.cons (fun _ _ _ => rfl) AllStill.nil) follows (by kernel_rfl : Try.prog.funcs[92]? = some Try.f92) (by kernel_rfl) (by kernel_rfl) (by kernel_rfl)
noncomputable def laws_eqSeries.C : Code := Try.f16.body.getD .skip
def laws_eqSeries.P : Par := (.cons (.val (.pair (.list .str) (.one (.list (.list (.pair (.int .i64) (.pair (.int .i64) (.one (.list .str))))))))) (.cons (.val (.pair (.list .str) (.one (.list (.list (.pair (.int .i64) (.pair (.int .i64) (.one (.list .str))))))))) .nil))
noncomputable def laws_eqSeries.U : SumTab := [(17, [], laws_eqStringS.S), (92, [], laws_eqHunkSS.S)]
noncomputable def laws_eqSeries.E : Env := mkEnv TY AR laws_eqSeries.U
noncomputable def laws_eqSeries.T : Tab := fun k => look k []
def laws_eqSeries.R : List (Nat × Ty) := [(0, .bool)]
def laws_eqSeries.X : List ResultVar := [.tmp 4]
noncomputable def laws_eqSeries.f (a : (List ByteArray) × List (List (Int × Int × List ByteArray))) (b : (List ByteArray) × List (List (Int × Int × List ByteArray))) : Option (Bool) := Fn laws_eqSeries.E laws_eqSeries.T laws_eqSeries.C laws_eqSeries.P laws_eqSeries.R laws_eqSeries.X (a, b)
theorem laws_eqSeries.f_eq (a : (List ByteArray) × List (List (Int × Int × List ByteArray))) (b : (List ByteArray) × List (List (Int × Int × List ByteArray))) : laws_eqSeries.f a b =
  ((laws_eqStringS.f a.1 b.1).bind fun y1 =>
  bif (!y1) then (some false) else
  ((laws_eqHunkSS.f a.2 b.2).bind fun y2 =>
   bif (!y2) then (some false) else (some true))) := by kernel_rfl
noncomputable def laws_eqSeries.S : Abs.Sum := ⟨laws_eqSeries.P, laws_eqSeries.R, fun _ => Fn laws_eqSeries.E laws_eqSeries.T laws_eqSeries.C laws_eqSeries.P laws_eqSeries.R laws_eqSeries.X⟩
theorem laws_eqSeries.meets : Meets Try.prog 16 laws_eqSeries.S := meets_tab (S := laws_eqSeries.U) tabOk_all (AllMeets.cons laws_eqStringS.meets (AllMeets.cons laws_eqHunkSS.meets AllMeets.nil)) (AllStill.cons (fun _ _ _ => rfl) (AllStill.cons (fun _ _ _ => rfl) AllStill.nil)) follows (by kernel_rfl : Try.prog.funcs[16]? = some Try.f16) (by kernel_rfl) (by kernel_rfl) (by kernel_rfl)
noncomputable def laws_markText.C : Code := Try.f94.body.getD .skip
def laws_markText.P : Par := (.cons (.val (.int .i64)) .nil)
noncomputable def laws_markText.U : SumTab := []
noncomputable def laws_markText.E : Env := mkEnv TY AR laws_markText.U
def laws_markText.D8 : CutD := ⟨[0, 3], (.cons (.val (.int .i64)) (.cons (.val .str) .nil))⟩
noncomputable def laws_markText.T : Tab := fun k => look k [(8, laws_markText.D8)]
def laws_markText.R : List (Nat × Ty) := [(0, .str)]
def laws_markText.X : List ResultVar := [.tmp 2]
noncomputable def laws_markText.K := fin laws_markText.E ⟨laws_markText.P, laws_markText.R, fun _ _ => none⟩ laws_markText.X laws_markText.P.len 0
noncomputable def laws_markText.l8 (k : Int) (out : ByteArray) : Option (ByteArray) := fixP laws_markText.E laws_markText.T laws_markText.C laws_markText.K 8 laws_markText.D8 (k, out)
noncomputable def laws_markText.f (k : Int) : Option (ByteArray) := Fn laws_markText.E laws_markText.T laws_markText.C laws_markText.P laws_markText.R laws_markText.X k
theorem laws_markText.l8_eq (k : Int) (out : ByteArray) : laws_markText.l8 k out =
  (bif (decide (k > 0)) then (bif (decide (((strOf [(IntKind.wrap .u8 (w64 (48 + (k.tmod 10))))]).size + out.size) ≤ 9223372036854775807)) then (laws_markText.l8 (w64 (k.tdiv 10)) ((strOf [(IntKind.wrap .u8 (w64 (48 + (k.tmod 10))))]) ++ out)) else none) else
  (bif (decide (((⟨#[109]⟩ : ByteArray).size + out.size) ≤ 9223372036854775807)) then (some ((⟨#[109]⟩ : ByteArray) ++ out)) else none)) :=
  (fixP_eq laws_markText.E laws_markText.T laws_markText.C laws_markText.K 8 laws_markText.D8 (k, out)).trans (by kernel_rfl)
theorem laws_markText.f_eq (k : Int) : laws_markText.f k =
  (bif (decide (k ≤ 0)) then (some (⟨#[109, 48]⟩ : ByteArray)) else
  (laws_markText.l8 k em)) := by kernel_rfl
noncomputable def laws_markText.S : Abs.Sum := ⟨laws_markText.P, laws_markText.R, fun _ => Fn laws_markText.E laws_markText.T laws_markText.C laws_markText.P laws_markText.R laws_markText.X⟩
theorem laws_markText.meets : Meets Try.prog 94 laws_markText.S := meets_tab (S := laws_markText.U) tabOk_all AllMeets.nil AllStill.nil follows (by kernel_rfl : Try.prog.funcs[94]? = some Try.f94) (by kernel_rfl) (by kernel_rfl) (by kernel_rfl)
noncomputable def laws_markStringS.C : Code := Try.f19.body.getD .skip
def laws_markStringS.P : Par := (.cons (.io 9 .str) (.cons (.val (.int .i64)) .nil))
noncomputable def laws_markStringS.U : SumTab := [(94, [], laws_markText.S)]
noncomputable def laws_markStringS.E : Env := mkEnv TY AR laws_markStringS.U
def laws_markStringS.D4 : CutD := ⟨[0, 1, 5], (.cons (.own 9 .str) (.cons (.val (.int .i64)) (.cons (.val (.int .i64)) .nil)))⟩
noncomputable def laws_markStringS.T : Tab := fun k => look k [(4, laws_markStringS.D4)]
def laws_markStringS.R : List (Nat × Ty) := [(0, .int .i64)]
def laws_markStringS.X : List ResultVar := [.tmp 4]
noncomputable def laws_markStringS.K := fin laws_markStringS.E ⟨laws_markStringS.P, laws_markStringS.R, fun _ _ => none⟩ laws_markStringS.X laws_markStringS.P.len 0
noncomputable def laws_markStringS.l4 (a : List ByteArray) (k : Int) (i : Int) : Option (Int × (List ByteArray)) := fixP laws_markStringS.E laws_markStringS.T laws_markStringS.C laws_markStringS.K 4 laws_markStringS.D4 (a, k, i)
noncomputable def laws_markStringS.f (a : List ByteArray) (k : Int) : Option (Int × (List ByteArray)) := Fn laws_markStringS.E laws_markStringS.T laws_markStringS.C laws_markStringS.P laws_markStringS.R laws_markStringS.X (a, k)
theorem laws_markStringS.l4_eq (a : List ByteArray) (k : Int) (i : Int) : laws_markStringS.l4 a k i =
  (bif (decide (i < (a.length : Int))) then ((laws_markText.f k).bind fun y1 =>
   bif ((decide (0 ≤ i)) && (decide (i < (a.length : Int)))) then (laws_markStringS.l4 (a.set (i).toNat y1) (w64 (k + 1)) (w64 (i + 1))) else none) else (some (k, a))) :=
  (fixP_eq laws_markStringS.E laws_markStringS.T laws_markStringS.C laws_markStringS.K 4 laws_markStringS.D4 (a, k, i)).trans (by kernel_rfl)
theorem laws_markStringS.f_eq (a : List ByteArray) (k : Int) : laws_markStringS.f a k =
  (laws_markStringS.l4 a k 0) := by kernel_rfl
noncomputable def laws_markStringS.S : Abs.Sum := ⟨laws_markStringS.P, laws_markStringS.R, fun _ => Fn laws_markStringS.E laws_markStringS.T laws_markStringS.C laws_markStringS.P laws_markStringS.R laws_markStringS.X⟩
theorem laws_markStringS.meets : Meets Try.prog 19 laws_markStringS.S := meets_tab (S := laws_markStringS.U) tabOk_all (AllMeets.cons laws_markText.meets AllMeets.nil) (AllStill.cons (fun _ _ _ => rfl) AllStill.nil) follows (by kernel_rfl : Try.prog.funcs[19]? = some Try.f19) (by kernel_rfl) (by kernel_rfl) (by kernel_rfl)
noncomputable def laws_markHunkS.C : Code := Try.f80.body.getD .skip
def laws_markHunkS.P : Par := (.cons (.io 9 (.pair (.int .i64) (.pair (.int .i64) (.one (.list .str))))) (.cons (.val (.int .i64)) .nil))
noncomputable def laws_markHunkS.U : SumTab := [(19, [], laws_markStringS.S)]
noncomputable def laws_markHunkS.E : Env := mkEnv TY AR laws_markHunkS.U
def laws_markHunkS.D4 : CutD := ⟨[0, 1, 5], (.cons (.own 9 (.pair (.int .i64) (.pair (.int .i64) (.one (.list .str))))) (.cons (.val (.int .i64)) (.cons (.val (.int .i64)) .nil)))⟩
noncomputable def laws_markHunkS.T : Tab := fun k => look k [(4, laws_markHunkS.D4)]
def laws_markHunkS.R : List (Nat × Ty) := [(0, .int .i64)]
def laws_markHunkS.X : List ResultVar := [.tmp 4]
noncomputable def laws_markHunkS.K := fin laws_markHunkS.E ⟨laws_markHunkS.P, laws_markHunkS.R, fun _ _ => none⟩ laws_markHunkS.X laws_markHunkS.P.len 0
noncomputable def laws_markHunkS.l4 (a : List (Int × Int × List ByteArray)) (k : Int) (i : Int) : Option (Int × (List (Int × Int × List ByteArray))) := fixP laws_markHunkS.E laws_markHunkS.T laws_markHunkS.C laws_markHunkS.K 4 laws_markHunkS.D4 (a, k, i)
noncomputable def laws_markHunkS.f (a : List (Int × Int × List ByteArray)) (k : Int) : Option (Int × (List (Int × Int × List ByteArray))) := Fn laws_markHunkS.E laws_markHunkS.T laws_markHunkS.C laws_markHunkS.P laws_markHunkS.R laws_markHunkS.X (a, k)
theorem laws_markHunkS.l4_eq (a : List (Int × Int × List ByteArray)) (k : Int) (i : Int) : laws_markHunkS.l4 a k i =
  (bif (decide (i < (a.length : Int))) then (bif ((decide (0 ≤ i)) && (decide (i < (a.length : Int)))) then (bif ((decide (0 ≤ i)) && (decide (i < ((a.set (i).toNat (k, (a.getD (i).toNat (0, 0, ([] : List ByteArray))).2)).length : Int)))) then (bif ((decide (0 ≤ i)) && (decide (i < (((a.set (i).toNat (k, (a.getD (i).toNat (0, 0, ([] : List ByteArray))).2)).set (i).toNat (((a.set (i).toNat (k, (a.getD (i).toNat (0, 0, ([] : List ByteArray))).2)).getD (i).toNat (0, 0, ([] : List ByteArray))).1, (w64 (k + 1)), ((a.set (i).toNat (k, (a.getD (i).toNat (0, 0, ([] : List ByteArray))).2)).getD (i).toNat (0, 0, ([] : List ByteArray))).2.2)).length : Int)))) then ((laws_markStringS.f (((a.set (i).toNat (k, (a.getD (i).toNat (0, 0, ([] : List ByteArray))).2)).set (i).toNat (((a.set (i).toNat (k, (a.getD (i).toNat (0, 0, ([] : List ByteArray))).2)).getD (i).toNat (0, 0, ([] : List ByteArray))).1, (w64 (k + 1)), ((a.set (i).toNat (k, (a.getD (i).toNat (0, 0, ([] : List ByteArray))).2)).getD (i).toNat (0, 0, ([] : List ByteArray))).2.2)).getD (i).toNat (0, 0, ([] : List ByteArray))).2.2 (w64 ((w64 (k + 1)) + 1))).bind fun y1 =>
      laws_markHunkS.l4 (((a.set (i).toNat (k, (a.getD (i).toNat (0, 0, ([] : List ByteArray))).2)).set (i).toNat (((a.set (i).toNat (k, (a.getD (i).toNat (0, 0, ([] : List ByteArray))).2)).getD (i).toNat (0, 0, ([] : List ByteArray))).1, (w64 (k + 1)), ((a.set (i).toNat (k, (a.getD (i).toNat (0, 0, ([] : List ByteArray))).2)).getD (i).toNat (0, 0, ([] : List ByteArray))).2.2)).set (i).toNat ((((a.set (i).toNat (k, (a.getD (i).toNat (0, 0, ([] : List ByteArray))).2)).set (i).toNat (((a.set (i).toNat (k, (a.getD (i).toNat (0, 0, ([] : List ByteArray))).2)).getD (i).toNat (0, 0, ([] : List ByteArray))).1, (w64 (k + 1)), ((a.set (i).toNat (k, (a.getD (i).toNat (0, 0, ([] : List ByteArray))).2)).getD (i).toNat (0, 0, ([] : List ByteArray))).2.2)).getD (i).toNat (0, 0, ([] : List ByteArray))).1, (((a.set (i).toNat (k, (a.getD (i).toNat (0, 0, ([] : List ByteArray))).2)).set (i).toNat (((a.set (i).toNat (k, (a.getD (i).toNat (0, 0, ([] : List ByteArray))).2)).getD (i).toNat (0, 0, ([] : List ByteArray))).1, (w64 (k + 1)), ((a.set (i).toNat (k, (a.getD (i).toNat (0, 0, ([] : List ByteArray))).2)).getD (i).toNat (0, 0, ([] : List ByteArray))).2.2)).getD (i).toNat (0, 0, ([] : List ByteArray))).2.1, y1.2)) y1.1 (w64 (i + 1))) else none) else none) else none) else (some (k, a))) :=
  (fixP_eq laws_markHunkS.E laws_markHunkS.T laws_markHunkS.C laws_markHunkS.K 4 laws_markHunkS.D4 (a, k, i)).trans (by kernel_rfl)
theorem laws_markHunkS.f_eq (a : List (Int × Int × List ByteArray)) (k : Int) : laws_markHunkS.f a k =
  (laws_markHunkS.l4 a k 0) := by kernel_rfl
noncomputable def laws_markHunkS.S : Abs.Sum := ⟨laws_markHunkS.P, laws_markHunkS.R, fun _ => Fn laws_markHunkS.E laws_markHunkS.T laws_markHunkS.C laws_markHunkS.P laws_markHunkS.R laws_markHunkS.X⟩
theorem laws_markHunkS.meets : Meets Try.prog 80 laws_markHunkS.S := meets_tab (S := laws_markHunkS.U) tabOk_all (AllMeets.cons laws_markStringS.meets AllMeets.nil) (AllStill.cons (fun _ _ _ => rfl) AllStill.nil) follows (by kernel_rfl : Try.prog.funcs[80]? = some Try.f80) (by kernel_rfl) (by kernel_rfl) (by kernel_rfl)
noncomputable def laws_markHunkSS.C : Code := Try.f93.body.getD .skip
def laws_markHunkSS.P : Par := (.cons (.io 9 (.list (.pair (.int .i64) (.pair (.int .i64) (.one (.list .str)))))) (.cons (.val (.int .i64)) .nil))
noncomputable def laws_markHunkSS.U : SumTab := [(80, [], laws_markHunkS.S)]
noncomputable def laws_markHunkSS.E : Env := mkEnv TY AR laws_markHunkSS.U
def laws_markHunkSS.D4 : CutD := ⟨[0, 1, 5], (.cons (.own 9 (.list (.pair (.int .i64) (.pair (.int .i64) (.one (.list .str)))))) (.cons (.val (.int .i64)) (.cons (.val (.int .i64)) .nil)))⟩
noncomputable def laws_markHunkSS.T : Tab := fun k => look k [(4, laws_markHunkSS.D4)]
def laws_markHunkSS.R : List (Nat × Ty) := [(0, .int .i64)]
def laws_markHunkSS.X : List ResultVar := [.tmp 4]
noncomputable def laws_markHunkSS.K := fin laws_markHunkSS.E ⟨laws_markHunkSS.P, laws_markHunkSS.R, fun _ _ => none⟩ laws_markHunkSS.X laws_markHunkSS.P.len 0
noncomputable def laws_markHunkSS.l4 (a : List (List (Int × Int × List ByteArray))) (k : Int) (i : Int) : Option (Int × (List (List (Int × Int × List ByteArray)))) := fixP laws_markHunkSS.E laws_markHunkSS.T laws_markHunkSS.C laws_markHunkSS.K 4 laws_markHunkSS.D4 (a, k, i)
noncomputable def laws_markHunkSS.f (a : List (List (Int × Int × List ByteArray))) (k : Int) : Option (Int × (List (List (Int × Int × List ByteArray)))) := Fn laws_markHunkSS.E laws_markHunkSS.T laws_markHunkSS.C laws_markHunkSS.P laws_markHunkSS.R laws_markHunkSS.X (a, k)
theorem laws_markHunkSS.l4_eq (a : List (List (Int × Int × List ByteArray))) (k : Int) (i : Int) : laws_markHunkSS.l4 a k i =
  (bif (decide (i < (a.length : Int))) then (bif ((decide (0 ≤ i)) && (decide (i < (a.length : Int)))) then ((laws_markHunkS.f (a.getD (i).toNat ([] : List (Int × Int × List ByteArray))) k).bind fun y1 =>
    laws_markHunkSS.l4 (a.set (i).toNat y1.2) y1.1 (w64 (i + 1))) else none) else (some (k, a))) :=
  (fixP_eq laws_markHunkSS.E laws_markHunkSS.T laws_markHunkSS.C laws_markHunkSS.K 4 laws_markHunkSS.D4 (a, k, i)).trans (by kernel_rfl)
theorem laws_markHunkSS.f_eq (a : List (List (Int × Int × List ByteArray))) (k : Int) : laws_markHunkSS.f a k =
  (laws_markHunkSS.l4 a k 0) := by kernel_rfl
noncomputable def laws_markHunkSS.S : Abs.Sum := ⟨laws_markHunkSS.P, laws_markHunkSS.R, fun _ => Fn laws_markHunkSS.E laws_markHunkSS.T laws_markHunkSS.C laws_markHunkSS.P laws_markHunkSS.R laws_markHunkSS.X⟩
theorem laws_markHunkSS.meets : Meets Try.prog 93 laws_markHunkSS.S := meets_tab (S := laws_markHunkSS.U) tabOk_all (AllMeets.cons laws_markHunkS.meets AllMeets.nil) (AllStill.cons (fun _ _ _ => rfl) AllStill.nil) follows (by kernel_rfl : Try.prog.funcs[93]? = some Try.f93) (by kernel_rfl) (by kernel_rfl) (by kernel_rfl)
noncomputable def laws_markSeries.C : Code := Try.f18.body.getD .skip
def laws_markSeries.P : Par := (.cons (.agg (.cons (.io 9 .str) (.cons (.io 9 (.list (.pair (.int .i64) (.pair (.int .i64) (.one (.list .str)))))) .nil))) (.cons (.val (.int .i64)) .nil))
noncomputable def laws_markSeries.U : SumTab := [(19, [], laws_markStringS.S), (93, [], laws_markHunkSS.S)]
noncomputable def laws_markSeries.E : Env := mkEnv TY AR laws_markSeries.U
noncomputable def laws_markSeries.T : Tab := fun k => look k []
def laws_markSeries.R : List (Nat × Ty) := [(0, .int .i64)]
def laws_markSeries.X : List ResultVar := [.tmp 4]
noncomputable def laws_markSeries.f (a_0 : List ByteArray) (a_1 : List (List (Int × Int × List ByteArray))) (k : Int) : Option (Int × (List ByteArray) × (List (List (Int × Int × List ByteArray)))) := Fn laws_markSeries.E laws_markSeries.T laws_markSeries.C laws_markSeries.P laws_markSeries.R laws_markSeries.X (a_0, a_1, k)
theorem laws_markSeries.f_eq (a_0 : List ByteArray) (a_1 : List (List (Int × Int × List ByteArray))) (k : Int) : laws_markSeries.f a_0 a_1 k =
  ((laws_markStringS.f a_0 k).bind fun y1 =>
  (laws_markHunkSS.f a_1 y1.1).bind fun y2 =>
  some (y2.1, y1.2, y2.2)) := by kernel_rfl
noncomputable def laws_markSeries.S : Abs.Sum := ⟨laws_markSeries.P, laws_markSeries.R, fun _ => Fn laws_markSeries.E laws_markSeries.T laws_markSeries.C laws_markSeries.P laws_markSeries.R laws_markSeries.X⟩
theorem laws_markSeries.meets : Meets Try.prog 18 laws_markSeries.S := meets_tab (S := laws_markSeries.U) tabOk_all (AllMeets.cons laws_markStringS.meets (AllMeets.cons laws_markHunkSS.meets AllMeets.nil)) (AllStill.cons (fun _ _ _ => rfl) (AllStill.cons (fun _ _ _ => rfl) AllStill.nil)) follows (by kernel_rfl : Try.prog.funcs[18]? = some Try.f18) (by kernel_rfl) (by kernel_rfl) (by kernel_rfl)
noncomputable def laws_heldStringS.C : Code := Try.f58.body.getD .skip
def laws_heldStringS.P : Par := (.cons (.val (.list .str)) (.cons (.val (.int .i64)) .nil))
noncomputable def laws_heldStringS.U : SumTab := [(94, [], laws_markText.S)]
noncomputable def laws_heldStringS.E : Env := mkEnv TY AR laws_heldStringS.U
def laws_heldStringS.D4 : CutD := ⟨[0, 1, 5], (.cons (.val (.list .str)) (.cons (.val (.int .i64)) (.cons (.val (.int .i64)) .nil)))⟩
noncomputable def laws_heldStringS.T : Tab := fun k => look k [(4, laws_heldStringS.D4)]
def laws_heldStringS.R : List (Nat × Ty) := [(0, .int .i64)]
def laws_heldStringS.X : List ResultVar := [.tmp 4]
noncomputable def laws_heldStringS.K := fin laws_heldStringS.E ⟨laws_heldStringS.P, laws_heldStringS.R, fun _ _ => none⟩ laws_heldStringS.X laws_heldStringS.P.len 0
noncomputable def laws_heldStringS.l4 (a : List ByteArray) (k : Int) (i : Int) : Option (Int) := fixP laws_heldStringS.E laws_heldStringS.T laws_heldStringS.C laws_heldStringS.K 4 laws_heldStringS.D4 (a, k, i)
noncomputable def laws_heldStringS.f (a : List ByteArray) (k : Int) : Option (Int) := Fn laws_heldStringS.E laws_heldStringS.T laws_heldStringS.C laws_heldStringS.P laws_heldStringS.R laws_heldStringS.X (a, k)
theorem laws_heldStringS.l4_eq (a : List ByteArray) (k : Int) (i : Int) : laws_heldStringS.l4 a k i =
  (bif (decide (i < (a.length : Int))) then (bif ((decide (0 ≤ i)) && (decide (i < (a.length : Int)))) then ((laws_markText.f k).bind fun y1 =>
    bif (!((a.getD (i).toNat em).toList == y1.toList)) then (some (-1)) else
    (laws_heldStringS.l4 a (w64 (k + 1)) (w64 (i + 1)))) else none) else (some k)) :=
  (fixP_eq laws_heldStringS.E laws_heldStringS.T laws_heldStringS.C laws_heldStringS.K 4 laws_heldStringS.D4 (a, k, i)).trans (by kernel_rfl)
theorem laws_heldStringS.f_eq (a : List ByteArray) (k : Int) : laws_heldStringS.f a k =
  (laws_heldStringS.l4 a k 0) := by kernel_rfl
noncomputable def laws_heldStringS.S : Abs.Sum := ⟨laws_heldStringS.P, laws_heldStringS.R, fun _ => Fn laws_heldStringS.E laws_heldStringS.T laws_heldStringS.C laws_heldStringS.P laws_heldStringS.R laws_heldStringS.X⟩
theorem laws_heldStringS.meets : Meets Try.prog 58 laws_heldStringS.S := meets_tab (S := laws_heldStringS.U) tabOk_all (AllMeets.cons laws_markText.meets AllMeets.nil) (AllStill.cons (fun _ _ _ => rfl) AllStill.nil) follows (by kernel_rfl : Try.prog.funcs[58]? = some Try.f58) (by kernel_rfl) (by kernel_rfl) (by kernel_rfl)
noncomputable def laws_heldHunkS.C : Code := Try.f81.body.getD .skip
def laws_heldHunkS.P : Par := (.cons (.val (.list (.pair (.int .i64) (.pair (.int .i64) (.one (.list .str)))))) (.cons (.val (.int .i64)) .nil))
noncomputable def laws_heldHunkS.U : SumTab := [(58, [], laws_heldStringS.S)]
noncomputable def laws_heldHunkS.E : Env := mkEnv TY AR laws_heldHunkS.U
def laws_heldHunkS.D4 : CutD := ⟨[0, 1, 5], (.cons (.val (.list (.pair (.int .i64) (.pair (.int .i64) (.one (.list .str)))))) (.cons (.val (.int .i64)) (.cons (.val (.int .i64)) .nil)))⟩
noncomputable def laws_heldHunkS.T : Tab := fun k => look k [(4, laws_heldHunkS.D4)]
def laws_heldHunkS.R : List (Nat × Ty) := [(0, .int .i64)]
def laws_heldHunkS.X : List ResultVar := [.tmp 4]
noncomputable def laws_heldHunkS.K := fin laws_heldHunkS.E ⟨laws_heldHunkS.P, laws_heldHunkS.R, fun _ _ => none⟩ laws_heldHunkS.X laws_heldHunkS.P.len 0
noncomputable def laws_heldHunkS.l4 (a : List (Int × Int × List ByteArray)) (k : Int) (i : Int) : Option (Int) := fixP laws_heldHunkS.E laws_heldHunkS.T laws_heldHunkS.C laws_heldHunkS.K 4 laws_heldHunkS.D4 (a, k, i)
noncomputable def laws_heldHunkS.f (a : List (Int × Int × List ByteArray)) (k : Int) : Option (Int) := Fn laws_heldHunkS.E laws_heldHunkS.T laws_heldHunkS.C laws_heldHunkS.P laws_heldHunkS.R laws_heldHunkS.X (a, k)
theorem laws_heldHunkS.l4_eq (a : List (Int × Int × List ByteArray)) (k : Int) (i : Int) : laws_heldHunkS.l4 a k i =
  (bif (decide (i < (a.length : Int))) then (bif ((decide (0 ≤ i)) && (decide (i < (a.length : Int)))) then (bif (!(decide ((a.getD (i).toNat (0, 0, ([] : List ByteArray))).1 = k))) then (some (-1)) else
    (bif ((decide (0 ≤ i)) && (decide (i < (a.length : Int)))) then (bif (!(decide ((a.getD (i).toNat (0, 0, ([] : List ByteArray))).2.1 = (w64 (k + 1))))) then (some (-1)) else
      (bif ((decide (0 ≤ i)) && (decide (i < (a.length : Int)))) then ((laws_heldStringS.f (a.getD (i).toNat (0, 0, ([] : List ByteArray))).2.2 (w64 ((w64 (k + 1)) + 1))).bind fun y1 =>
        bif (decide (y1 < 0)) then (some (-1)) else
        (laws_heldHunkS.l4 a y1 (w64 (i + 1)))) else none)) else none)) else none) else (some k)) :=
  (fixP_eq laws_heldHunkS.E laws_heldHunkS.T laws_heldHunkS.C laws_heldHunkS.K 4 laws_heldHunkS.D4 (a, k, i)).trans (by kernel_rfl)
theorem laws_heldHunkS.f_eq (a : List (Int × Int × List ByteArray)) (k : Int) : laws_heldHunkS.f a k =
  (laws_heldHunkS.l4 a k 0) := by kernel_rfl
noncomputable def laws_heldHunkS.S : Abs.Sum := ⟨laws_heldHunkS.P, laws_heldHunkS.R, fun _ => Fn laws_heldHunkS.E laws_heldHunkS.T laws_heldHunkS.C laws_heldHunkS.P laws_heldHunkS.R laws_heldHunkS.X⟩
theorem laws_heldHunkS.meets : Meets Try.prog 81 laws_heldHunkS.S := meets_tab (S := laws_heldHunkS.U) tabOk_all (AllMeets.cons laws_heldStringS.meets AllMeets.nil) (AllStill.cons (fun _ _ _ => rfl) AllStill.nil) follows (by kernel_rfl : Try.prog.funcs[81]? = some Try.f81) (by kernel_rfl) (by kernel_rfl) (by kernel_rfl)
noncomputable def laws_heldHunkSS.C : Code := Try.f95.body.getD .skip
def laws_heldHunkSS.P : Par := (.cons (.val (.list (.list (.pair (.int .i64) (.pair (.int .i64) (.one (.list .str))))))) (.cons (.val (.int .i64)) .nil))
noncomputable def laws_heldHunkSS.U : SumTab := [(81, [], laws_heldHunkS.S)]
noncomputable def laws_heldHunkSS.E : Env := mkEnv TY AR laws_heldHunkSS.U
def laws_heldHunkSS.D4 : CutD := ⟨[0, 1, 5], (.cons (.val (.list (.list (.pair (.int .i64) (.pair (.int .i64) (.one (.list .str))))))) (.cons (.val (.int .i64)) (.cons (.val (.int .i64)) .nil)))⟩
noncomputable def laws_heldHunkSS.T : Tab := fun k => look k [(4, laws_heldHunkSS.D4)]
def laws_heldHunkSS.R : List (Nat × Ty) := [(0, .int .i64)]
def laws_heldHunkSS.X : List ResultVar := [.tmp 4]
noncomputable def laws_heldHunkSS.K := fin laws_heldHunkSS.E ⟨laws_heldHunkSS.P, laws_heldHunkSS.R, fun _ _ => none⟩ laws_heldHunkSS.X laws_heldHunkSS.P.len 0
noncomputable def laws_heldHunkSS.l4 (a : List (List (Int × Int × List ByteArray))) (k : Int) (i : Int) : Option (Int) := fixP laws_heldHunkSS.E laws_heldHunkSS.T laws_heldHunkSS.C laws_heldHunkSS.K 4 laws_heldHunkSS.D4 (a, k, i)
noncomputable def laws_heldHunkSS.f (a : List (List (Int × Int × List ByteArray))) (k : Int) : Option (Int) := Fn laws_heldHunkSS.E laws_heldHunkSS.T laws_heldHunkSS.C laws_heldHunkSS.P laws_heldHunkSS.R laws_heldHunkSS.X (a, k)
theorem laws_heldHunkSS.l4_eq (a : List (List (Int × Int × List ByteArray))) (k : Int) (i : Int) : laws_heldHunkSS.l4 a k i =
  (bif (decide (i < (a.length : Int))) then (bif ((decide (0 ≤ i)) && (decide (i < (a.length : Int)))) then ((laws_heldHunkS.f (a.getD (i).toNat ([] : List (Int × Int × List ByteArray))) k).bind fun y1 =>
    bif (decide (y1 < 0)) then (some (-1)) else
    (laws_heldHunkSS.l4 a y1 (w64 (i + 1)))) else none) else (some k)) :=
  (fixP_eq laws_heldHunkSS.E laws_heldHunkSS.T laws_heldHunkSS.C laws_heldHunkSS.K 4 laws_heldHunkSS.D4 (a, k, i)).trans (by kernel_rfl)
theorem laws_heldHunkSS.f_eq (a : List (List (Int × Int × List ByteArray))) (k : Int) : laws_heldHunkSS.f a k =
  (laws_heldHunkSS.l4 a k 0) := by kernel_rfl
noncomputable def laws_heldHunkSS.S : Abs.Sum := ⟨laws_heldHunkSS.P, laws_heldHunkSS.R, fun _ => Fn laws_heldHunkSS.E laws_heldHunkSS.T laws_heldHunkSS.C laws_heldHunkSS.P laws_heldHunkSS.R laws_heldHunkSS.X⟩
theorem laws_heldHunkSS.meets : Meets Try.prog 95 laws_heldHunkSS.S := meets_tab (S := laws_heldHunkSS.U) tabOk_all (AllMeets.cons laws_heldHunkS.meets AllMeets.nil) (AllStill.cons (fun _ _ _ => rfl) AllStill.nil) follows (by kernel_rfl : Try.prog.funcs[95]? = some Try.f95) (by kernel_rfl) (by kernel_rfl) (by kernel_rfl)
noncomputable def laws_heldSeries.C : Code := Try.f20.body.getD .skip
def laws_heldSeries.P : Par := (.cons (.val (.pair (.list .str) (.one (.list (.list (.pair (.int .i64) (.pair (.int .i64) (.one (.list .str))))))))) (.cons (.val (.int .i64)) .nil))
noncomputable def laws_heldSeries.U : SumTab := [(58, [], laws_heldStringS.S), (95, [], laws_heldHunkSS.S)]
noncomputable def laws_heldSeries.E : Env := mkEnv TY AR laws_heldSeries.U
noncomputable def laws_heldSeries.T : Tab := fun k => look k []
def laws_heldSeries.R : List (Nat × Ty) := [(0, .int .i64)]
def laws_heldSeries.X : List ResultVar := [.tmp 4]
noncomputable def laws_heldSeries.f (a : (List ByteArray) × List (List (Int × Int × List ByteArray))) (k : Int) : Option (Int) := Fn laws_heldSeries.E laws_heldSeries.T laws_heldSeries.C laws_heldSeries.P laws_heldSeries.R laws_heldSeries.X (a, k)
theorem laws_heldSeries.f_eq (a : (List ByteArray) × List (List (Int × Int × List ByteArray))) (k : Int) : laws_heldSeries.f a k =
  ((laws_heldStringS.f a.1 k).bind fun y1 =>
  bif (decide (y1 < 0)) then (some (-1)) else
  ((laws_heldHunkSS.f a.2 y1).bind fun y2 =>
   bif (decide (y2 < 0)) then (some (-1)) else (some y2))) := by kernel_rfl
noncomputable def laws_heldSeries.S : Abs.Sum := ⟨laws_heldSeries.P, laws_heldSeries.R, fun _ => Fn laws_heldSeries.E laws_heldSeries.T laws_heldSeries.C laws_heldSeries.P laws_heldSeries.R laws_heldSeries.X⟩
theorem laws_heldSeries.meets : Meets Try.prog 20 laws_heldSeries.S := meets_tab (S := laws_heldSeries.U) tabOk_all (AllMeets.cons laws_heldStringS.meets (AllMeets.cons laws_heldHunkSS.meets AllMeets.nil)) (AllStill.cons (fun _ _ _ => rfl) (AllStill.cons (fun _ _ _ => rfl) AllStill.nil)) follows (by kernel_rfl : Try.prog.funcs[20]? = some Try.f20) (by kernel_rfl) (by kernel_rfl) (by kernel_rfl)
noncomputable def laws_FnExactAddText.C : Code := Try.f3.body.getD .skip
def laws_FnExactAddText.P : Par := (.cons (.val (.pair (.list .str) (.one (.list (.list (.pair (.int .i64) (.pair (.int .i64) (.one (.list .str))))))))) (.cons (.val (.list .str)) .nil))
noncomputable def laws_FnExactAddText.U : SumTab := [(10, [], laws_szSeries.S), (11, [], laws_szStringS.S), (13, [], laws_toSeries.S), (14, [], laws_toStringS.S), (12, [], spec_AddText.S), (15, [], impl_AddText.S), (16, [], laws_eqSeries.S), (17, [], laws_eqStringS.S), (18, [], laws_markSeries.S), (19, [], laws_markStringS.S), (20, [], laws_heldSeries.S)]
noncomputable def laws_FnExactAddText.E : Env := mkEnv TY AR laws_FnExactAddText.U
def laws_FnExactAddText.D29 : CutD := ⟨[1, 2, 6, 7, 8, 9, 10, 11], (.cons (.val (.list .str)) (.cons (.box 0 (.pair (.list .str) (.one (.list (.list (.pair (.int .i64) (.pair (.int .i64) (.one (.list .str))))))))) (.cons (.box 9 (.pair (.list .str) (.one (.list (.list (.pair (.int .i64) (.pair (.int .i64) (.one (.list .str))))))))) (.cons (.val .bool) (.cons (.box 9 (.pair (.list .str) (.one (.list (.list (.pair (.int .i64) (.pair (.int .i64) (.one (.list .str))))))))) (.cons (.own 8 .str) (.cons (.box 9 (.pair (.list .str) (.one (.list (.list (.pair (.int .i64) (.pair (.int .i64) (.one (.list .str))))))))) (.cons (.val .bool) .nil))))))))⟩
def laws_FnExactAddText.D47 : CutD := ⟨[1, 2, 6, 7, 10], (.cons (.val (.list .str)) (.cons (.box 0 (.pair (.list .str) (.one (.list (.list (.pair (.int .i64) (.pair (.int .i64) (.one (.list .str))))))))) (.cons (.box 9 (.pair (.list .str) (.one (.list (.list (.pair (.int .i64) (.pair (.int .i64) (.one (.list .str))))))))) (.cons (.val .bool) (.cons (.box 9 (.pair (.list .str) (.one (.list (.list (.pair (.int .i64) (.pair (.int .i64) (.one (.list .str))))))))) .nil)))))⟩
def laws_FnExactAddText.D69 : CutD := ⟨[10, 13], (.cons (.box 9 (.pair (.list .str) (.one (.list (.list (.pair (.int .i64) (.pair (.int .i64) (.one (.list .str))))))))) (.cons (.val (.int .i64)) .nil))⟩
noncomputable def laws_FnExactAddText.T : Tab := fun k => look k [(29, laws_FnExactAddText.D29), (47, laws_FnExactAddText.D47), (69, laws_FnExactAddText.D69)]
def laws_FnExactAddText.R : List (Nat × Ty) := [(0, .bool)]
def laws_FnExactAddText.X : List ResultVar := [.tmp 4]
noncomputable def laws_FnExactAddText.K := fin laws_FnExactAddText.E ⟨laws_FnExactAddText.P, laws_FnExactAddText.R, fun _ _ => none⟩ laws_FnExactAddText.X laws_FnExactAddText.P.len 0
noncomputable def laws_FnExactAddText.l29 (aL : List ByteArray) (aS : (List ByteArray) × List (List (Int × Int × List ByteArray))) (w0 : (List ByteArray) × List (List (Int × Int × List ByteArray))) (w1 : Bool) (x0 : (List ByteArray) × List (List (Int × Int × List ByteArray))) (x1 : List ByteArray) (g0 : (List ByteArray) × List (List (Int × Int × List ByteArray))) (g1 : Bool) : Option (Bool) := fixP laws_FnExactAddText.E laws_FnExactAddText.T laws_FnExactAddText.C laws_FnExactAddText.K 29 laws_FnExactAddText.D29 (aL, aS, w0, w1, x0, x1, g0, g1)
noncomputable def laws_FnExactAddText.l47 (aL : List ByteArray) (aS : (List ByteArray) × List (List (Int × Int × List ByteArray))) (w0 : (List ByteArray) × List (List (Int × Int × List ByteArray))) (w1 : Bool) (g0 : (List ByteArray) × List (List (Int × Int × List ByteArray))) : Option (Bool) := fixP laws_FnExactAddText.E laws_FnExactAddText.T laws_FnExactAddText.C laws_FnExactAddText.K 47 laws_FnExactAddText.D47 (aL, aS, w0, w1, g0)
noncomputable def laws_FnExactAddText.l69 (g0 : (List ByteArray) × List (List (Int × Int × List ByteArray))) (m : Int) : Option (Bool) := fixP laws_FnExactAddText.E laws_FnExactAddText.T laws_FnExactAddText.C laws_FnExactAddText.K 69 laws_FnExactAddText.D69 (g0, m)
noncomputable def laws_FnExactAddText.f (aS : (List ByteArray) × List (List (Int × Int × List ByteArray))) (aL : List ByteArray) : Option (Bool) := Fn laws_FnExactAddText.E laws_FnExactAddText.T laws_FnExactAddText.C laws_FnExactAddText.P laws_FnExactAddText.R laws_FnExactAddText.X (aS, aL)
theorem laws_FnExactAddText.l29_eq (aL : List ByteArray) (aS : (List ByteArray) × List (List (Int × Int × List ByteArray))) (w0 : (List ByteArray) × List (List (Int × Int × List ByteArray))) (w1 : Bool) (x0 : (List ByteArray) × List (List (Int × Int × List ByteArray))) (x1 : List ByteArray) (g0 : (List ByteArray) × List (List (Int × Int × List ByteArray))) (g1 : Bool) : laws_FnExactAddText.l29 aL aS w0 w1 x0 x1 g0 g1 =
  ((laws_toSeries.f aS).bind fun y1 =>
  (laws_eqSeries.f (x0.1, x0.2) (y1.1, y1.2)).bind fun y2 =>
  bif (!y2) then (some false) else
  ((laws_toStringS.f aL).bind fun y3 =>
   (laws_eqStringS.f x1 y3).bind fun y4 =>
   bif (!y4) then (some false) else
   ((laws_markSeries.f x0.1 x0.2 1).bind fun y5 =>
    (laws_markStringS.f x1 y5.1).bind fun y6 =>
    bif (decide (y6.1 < 0)) then (some false) else
    ((laws_eqSeries.f (g0.1, g0.2) (w0.1, w0.2)).bind fun y7 =>
     bif (!y7) then (some false) else
     (bif (!(g1 == w1)) then (some false) else
      (laws_FnExactAddText.l47 aL aS (w0.1, w0.2) w1 (g0.1, g0.2))))))) :=
  (fixP_eq laws_FnExactAddText.E laws_FnExactAddText.T laws_FnExactAddText.C laws_FnExactAddText.K 29 laws_FnExactAddText.D29 (aL, aS, w0, w1, x0, x1, g0, g1)).trans (by kernel_rfl)
theorem laws_FnExactAddText.l47_eq (aL : List ByteArray) (aS : (List ByteArray) × List (List (Int × Int × List ByteArray))) (w0 : (List ByteArray) × List (List (Int × Int × List ByteArray))) (w1 : Bool) (g0 : (List ByteArray) × List (List (Int × Int × List ByteArray))) : laws_FnExactAddText.l47 aL aS w0 w1 g0 =
  ((laws_markSeries.f g0.1 g0.2 1).bind fun y1 =>
  (laws_heldSeries.f (y1.2.1, y1.2.2) 1).bind fun y2 =>
  bif (decide (y2 < 0)) then (some false) else
  (bif (!(decide (y2 = y1.1))) then (some false) else
   ((laws_toSeries.f aS).bind fun y3 =>
    (laws_toStringS.f aL).bind fun y4 =>
    (impl_AddText.f (y3.1, y3.2) y4).bind fun y5 =>
    (laws_eqSeries.f (y5.1.1, y5.1.2) (w0.1, w0.2)).bind fun y6 =>
    bif (!y6) then (some false) else
    (bif (!(y5.2 == w1)) then (some false) else
     (laws_FnExactAddText.l69 (y1.2.1, y1.2.2) y1.1))))) :=
  (fixP_eq laws_FnExactAddText.E laws_FnExactAddText.T laws_FnExactAddText.C laws_FnExactAddText.K 47 laws_FnExactAddText.D47 (aL, aS, w0, w1, g0)).trans (by kernel_rfl)
theorem laws_FnExactAddText.l69_eq (g0 : (List ByteArray) × List (List (Int × Int × List ByteArray))) (m : Int) : laws_FnExactAddText.l69 g0 m =
  ((laws_heldSeries.f (g0.1, g0.2) 1).bind fun y1 =>
  bif (decide (y1 < 0)) then (some false) else
  (bif (!(decide (y1 = m))) then (some false) else (some true))) :=
  (fixP_eq laws_FnExactAddText.E laws_FnExactAddText.T laws_FnExactAddText.C laws_FnExactAddText.K 69 laws_FnExactAddText.D69 (g0, m)).trans (by kernel_rfl)
theorem laws_FnExactAddText.f_eq (aS : (List ByteArray) × List (List (Int × Int × List ByteArray))) (aL : List ByteArray) : laws_FnExactAddText.f aS aL =
  ((laws_szSeries.f aS 1048576).bind fun y1 =>
  bif (decide (y1 < 0)) then (some true) else
  ((laws_szStringS.f aL y1).bind fun y2 =>
   bif (decide (y2 < 0)) then (some true) else
   ((laws_toSeries.f aS).bind fun y3 =>
    (laws_toStringS.f aL).bind fun y4 =>
    (spec_AddText.f (y3.1, y3.2) y4).bind fun y5 =>
    (laws_toSeries.f aS).bind fun y6 =>
    (laws_toStringS.f aL).bind fun y7 =>
    (impl_AddText.f (y6.1, y6.2) y7).bind fun y8 =>
    (laws_eqSeries.f (y8.1.1, y8.1.2) (y5.1.1, y5.1.2)).bind fun y9 =>
    bif (!y9) then (some false) else
    (bif (!(y8.2 == y5.2)) then (some false) else
     (laws_FnExactAddText.l29 aL aS (y5.1.1, y5.1.2) y5.2 (y6.1, y6.2) y7 (y8.1.1, y8.1.2) y8.2))))) := by kernel_rfl
noncomputable def laws_FnExactAddText.S : Abs.Sum := ⟨laws_FnExactAddText.P, laws_FnExactAddText.R, fun _ => Fn laws_FnExactAddText.E laws_FnExactAddText.T laws_FnExactAddText.C laws_FnExactAddText.P laws_FnExactAddText.R laws_FnExactAddText.X⟩
theorem laws_FnExactAddText.meets : Meets Try.prog 3 laws_FnExactAddText.S := meets_tab (S := laws_FnExactAddText.U) tabOk_all (AllMeets.cons laws_szSeries.meets (AllMeets.cons laws_szStringS.meets (AllMeets.cons laws_toSeries.meets (AllMeets.cons laws_toStringS.meets (AllMeets.cons spec_AddText.meets (AllMeets.cons impl_AddText.meets (AllMeets.cons laws_eqSeries.meets (AllMeets.cons laws_eqStringS.meets (AllMeets.cons laws_markSeries.meets (AllMeets.cons laws_markStringS.meets (AllMeets.cons laws_heldSeries.meets AllMeets.nil))))))))))) (AllStill.cons (fun _ _ _ => rfl) (AllStill.cons (fun _ _ _ => rfl) (AllStill.cons (fun _ _ _ => rfl) (AllStill.cons (fun _ _ _ => rfl) (AllStill.cons (fun _ _ _ => rfl) (AllStill.cons (fun _ _ _ => rfl) (AllStill.cons (fun _ _ _ => rfl) (AllStill.cons (fun _ _ _ => rfl) (AllStill.cons (fun _ _ _ => rfl) (AllStill.cons (fun _ _ _ => rfl) (AllStill.cons (fun _ _ _ => rfl) AllStill.nil))))))))))) follows (by kernel_rfl : Try.prog.funcs[3]? = some Try.f3) (by kernel_rfl) (by kernel_rfl) (by kernel_rfl)
end Go.Abs.G
