import Derived.Test.YtdbaolmokbckgaaDoorGB
set_option linter.unusedVariables false
set_option linter.unusedSimpArgs false
set_option linter.unusedSectionVars false
namespace Go.Abs.G
open Go Go.Abs Go.Proofs
noncomputable def laws_szStringS.C : Code := Tryd.f14.body.getD .skip
def laws_szStringS.P : Par := (.cons (.val (.list .str)) (.cons (.val (.int .i64)) .nil))
noncomputable def laws_szStringS.U : SumTab := []
noncomputable def laws_szStringS.E : Env := mkEnv TY AR laws_szStringS.U
def laws_szStringS.D10 : CutD := ⟨[0, 1, 5], (.cons (.val (.list .str)) (.cons (.val (.int .i64)) (.cons (.val (.int .i64)) .nil)))⟩
noncomputable def laws_szStringS.T : Tab := fun k => look k [(10, laws_szStringS.D10)]
def laws_szStringS.R : List (Nat × Ty) := [(0, .int .i64)]
def laws_szStringS.X : List ResultVar := [.tmp 4]
noncomputable def laws_szStringS.K := fin laws_szStringS.E ⟨laws_szStringS.P, laws_szStringS.R, fun _ _ => none⟩ laws_szStringS.X laws_szStringS.P.len 0
noncomputable def laws_szStringS.l10 (a : List ByteArray) (left : Int) (i : Int) : Option (Int) := fixP laws_szStringS.E laws_szStringS.T laws_szStringS.C laws_szStringS.K 10 laws_szStringS.D10 (a, left, i)
noncomputable def laws_szStringS.f (a : List ByteArray) (left : Int) : Option (Int) := Fn laws_szStringS.E laws_szStringS.T laws_szStringS.C laws_szStringS.P laws_szStringS.R laws_szStringS.X (a, left)
theorem laws_szStringS.l10_eq (a : List ByteArray) (left : Int) (i : Int) : laws_szStringS.l10 a left i =
  (bif (decide (i < (a.length : Int))) then (bif ((decide (0 ≤ i)) && (decide (i < (a.length : Int)))) then (bif (decide ((w64 (left - ((a.getD (i).toNat em).size : Int))) < 0)) then (some (-1)) else
    (laws_szStringS.l10 a (w64 (left - ((a.getD (i).toNat em).size : Int))) (w64 (i + 1)))) else none) else (some left)) :=
  (fixP_eq laws_szStringS.E laws_szStringS.T laws_szStringS.C laws_szStringS.K 10 laws_szStringS.D10 (a, left, i)).trans (by kernel_rfl)
theorem laws_szStringS.f_eq (a : List ByteArray) (left : Int) : laws_szStringS.f a left =
  (bif (decide ((w64 (left - (a.length : Int))) < 0)) then (some (-1)) else
  (laws_szStringS.l10 a (w64 (left - (a.length : Int))) 0)) := by kernel_rfl
noncomputable def laws_szStringS.S : Abs.Sum := ⟨laws_szStringS.P, laws_szStringS.R, fun _ => Fn laws_szStringS.E laws_szStringS.T laws_szStringS.C laws_szStringS.P laws_szStringS.R laws_szStringS.X⟩
theorem laws_szStringS.meets : Meets Tryd.prog 14 laws_szStringS.S := meets_tab (S := laws_szStringS.U) tabOk_all AllMeets.nil AllStill.nil follows (by kernel_rfl : Tryd.prog.funcs[14]? = some Tryd.f14) (by kernel_rfl) (by kernel_rfl) (by kernel_rfl)
noncomputable def laws_szFile.C : Code := Tryd.f9.body.getD .skip
def laws_szFile.P : Par := (.cons (.val (.pair .str (.one (.list .str)))) (.cons (.val (.int .i64)) .nil))
noncomputable def laws_szFile.U : SumTab := [(14, [], laws_szStringS.S)]
noncomputable def laws_szFile.E : Env := mkEnv TY AR laws_szFile.U
noncomputable def laws_szFile.T : Tab := fun k => look k []
def laws_szFile.R : List (Nat × Ty) := [(0, .int .i64)]
def laws_szFile.X : List ResultVar := [.tmp 4]
noncomputable def laws_szFile.f (a : ByteArray × List ByteArray) (left : Int) : Option (Int) := Fn laws_szFile.E laws_szFile.T laws_szFile.C laws_szFile.P laws_szFile.R laws_szFile.X (a, left)
theorem laws_szFile.f_eq (a : ByteArray × List ByteArray) (left : Int) : laws_szFile.f a left =
  (bif (decide ((w64 (left - (a.1.size : Int))) < 0)) then (some (-1)) else
  ((laws_szStringS.f a.2 (w64 (left - (a.1.size : Int)))).bind fun y1 =>
   bif (decide (y1 < 0)) then (some (-1)) else (some y1))) := by kernel_rfl
noncomputable def laws_szFile.S : Abs.Sum := ⟨laws_szFile.P, laws_szFile.R, fun _ => Fn laws_szFile.E laws_szFile.T laws_szFile.C laws_szFile.P laws_szFile.R laws_szFile.X⟩
theorem laws_szFile.meets : Meets Tryd.prog 9 laws_szFile.S := meets_tab (S := laws_szFile.U) tabOk_all (AllMeets.cons laws_szStringS.meets AllMeets.nil) (AllStill.cons (fun _ _ _ => rfl) AllStill.nil) follows (by kernel_rfl : Tryd.prog.funcs[9]? = some Tryd.f9) (by kernel_rfl) (by kernel_rfl) (by kernel_rfl)
noncomputable def laws_szFileS.C : Code := Tryd.f4.body.getD .skip
def laws_szFileS.P : Par := (.cons (.val (.list (.pair .str (.one (.list .str))))) (.cons (.val (.int .i64)) .nil))
noncomputable def laws_szFileS.U : SumTab := [(9, [], laws_szFile.S)]
noncomputable def laws_szFileS.E : Env := mkEnv TY AR laws_szFileS.U
def laws_szFileS.D10 : CutD := ⟨[0, 1, 5], (.cons (.val (.list (.pair .str (.one (.list .str))))) (.cons (.val (.int .i64)) (.cons (.val (.int .i64)) .nil)))⟩
noncomputable def laws_szFileS.T : Tab := fun k => look k [(10, laws_szFileS.D10)]
def laws_szFileS.R : List (Nat × Ty) := [(0, .int .i64)]
def laws_szFileS.X : List ResultVar := [.tmp 4]
noncomputable def laws_szFileS.K := fin laws_szFileS.E ⟨laws_szFileS.P, laws_szFileS.R, fun _ _ => none⟩ laws_szFileS.X laws_szFileS.P.len 0
noncomputable def laws_szFileS.l10 (a : List (ByteArray × List ByteArray)) (left : Int) (i : Int) : Option (Int) := fixP laws_szFileS.E laws_szFileS.T laws_szFileS.C laws_szFileS.K 10 laws_szFileS.D10 (a, left, i)
noncomputable def laws_szFileS.f (a : List (ByteArray × List ByteArray)) (left : Int) : Option (Int) := Fn laws_szFileS.E laws_szFileS.T laws_szFileS.C laws_szFileS.P laws_szFileS.R laws_szFileS.X (a, left)
theorem laws_szFileS.l10_eq (a : List (ByteArray × List ByteArray)) (left : Int) (i : Int) : laws_szFileS.l10 a left i =
  (bif (decide (i < (a.length : Int))) then (bif ((decide (0 ≤ i)) && (decide (i < (a.length : Int)))) then ((laws_szFile.f (a.getD (i).toNat (em, ([] : List ByteArray))) left).bind fun y1 =>
    bif (decide (y1 < 0)) then (some (-1)) else
    (laws_szFileS.l10 a y1 (w64 (i + 1)))) else none) else (some left)) :=
  (fixP_eq laws_szFileS.E laws_szFileS.T laws_szFileS.C laws_szFileS.K 10 laws_szFileS.D10 (a, left, i)).trans (by kernel_rfl)
theorem laws_szFileS.f_eq (a : List (ByteArray × List ByteArray)) (left : Int) : laws_szFileS.f a left =
  (bif (decide ((w64 (left - (a.length : Int))) < 0)) then (some (-1)) else
  (laws_szFileS.l10 a (w64 (left - (a.length : Int))) 0)) := by kernel_rfl
noncomputable def laws_szFileS.S : Abs.Sum := ⟨laws_szFileS.P, laws_szFileS.R, fun _ => Fn laws_szFileS.E laws_szFileS.T laws_szFileS.C laws_szFileS.P laws_szFileS.R laws_szFileS.X⟩
theorem laws_szFileS.meets : Meets Tryd.prog 4 laws_szFileS.S := meets_tab (S := laws_szFileS.U) tabOk_all (AllMeets.cons laws_szFile.meets AllMeets.nil) (AllStill.cons (fun _ _ _ => rfl) AllStill.nil) follows (by kernel_rfl : Tryd.prog.funcs[4]? = some Tryd.f4) (by kernel_rfl) (by kernel_rfl) (by kernel_rfl)
noncomputable def laws_toStringS.C : Code := Tryd.f17.body.getD .skip
def laws_toStringS.P : Par := (.cons (.val (.list .str)) .nil)
noncomputable def laws_toStringS.U : SumTab := []
noncomputable def laws_toStringS.E : Env := mkEnv TY AR laws_toStringS.U
def laws_toStringS.D6 : CutD := ⟨[0, 3, 4], (.cons (.val (.list .str)) (.cons (.own 9 .str) (.cons (.val (.int .i64)) .nil)))⟩
noncomputable def laws_toStringS.T : Tab := fun k => look k [(6, laws_toStringS.D6)]
def laws_toStringS.R : List (Nat × Ty) := [(9, .list .str)]
def laws_toStringS.X : List ResultVar := [.tmp 2]
noncomputable def laws_toStringS.K := fin laws_toStringS.E ⟨laws_toStringS.P, laws_toStringS.R, fun _ _ => none⟩ laws_toStringS.X laws_toStringS.P.len 0
noncomputable def laws_toStringS.l6 (a : List ByteArray) (out : List ByteArray) (i : Int) : Option ((List ByteArray)) := fixP laws_toStringS.E laws_toStringS.T laws_toStringS.C laws_toStringS.K 6 laws_toStringS.D6 (a, out, i)
noncomputable def laws_toStringS.f (a : List ByteArray) : Option ((List ByteArray)) := Fn laws_toStringS.E laws_toStringS.T laws_toStringS.C laws_toStringS.P laws_toStringS.R laws_toStringS.X a
theorem laws_toStringS.l6_eq (a : List ByteArray) (out : List ByteArray) (i : Int) : laws_toStringS.l6 a out i =
  (bif (decide (i < (a.length : Int))) then (bif ((decide (0 ≤ i)) && (decide (i < (a.length : Int)))) then (bif ((decide (0 ≤ i)) && (decide (i < (out.length : Int)))) then (laws_toStringS.l6 a (out.set (i).toNat (a.getD (i).toNat em)) (w64 (i + 1))) else none) else none) else (some out)) :=
  (fixP_eq laws_toStringS.E laws_toStringS.T laws_toStringS.C laws_toStringS.K 6 laws_toStringS.D6 (a, out, i)).trans (by kernel_rfl)
theorem laws_toStringS.f_eq (a : List ByteArray) : laws_toStringS.f a =
  (bif ((decide (0 ≤ (a.length : Int))) && (decide (((a.length : Int)).toNat ≤ room 16))) then (laws_toStringS.l6 a (List.replicate ((a.length : Int)).toNat em) 0) else none) := by kernel_rfl
noncomputable def laws_toStringS.S : Abs.Sum := ⟨laws_toStringS.P, laws_toStringS.R, fun _ => Fn laws_toStringS.E laws_toStringS.T laws_toStringS.C laws_toStringS.P laws_toStringS.R laws_toStringS.X⟩
theorem laws_toStringS.meets : Meets Tryd.prog 17 laws_toStringS.S := meets_tab (S := laws_toStringS.U) tabOk_all AllMeets.nil AllStill.nil follows (by kernel_rfl : Tryd.prog.funcs[17]? = some Tryd.f17) (by kernel_rfl) (by kernel_rfl) (by kernel_rfl)
noncomputable def laws_toFile.C : Code := Tryd.f11.body.getD .skip
def laws_toFile.P : Par := (.cons (.val (.pair .str (.one (.list .str)))) .nil)
noncomputable def laws_toFile.U : SumTab := [(17, [], laws_toStringS.S)]
noncomputable def laws_toFile.E : Env := mkEnv TY AR laws_toFile.U
noncomputable def laws_toFile.T : Tab := fun k => look k []
def laws_toFile.R : List (Nat × Ty) := [(9, .pair .str (.one (.list .str)))]
def laws_toFile.X : List ResultVar := [.cell 2 33]
noncomputable def laws_toFile.f (a : ByteArray × List ByteArray) : Option ((ByteArray × List ByteArray)) := Fn laws_toFile.E laws_toFile.T laws_toFile.C laws_toFile.P laws_toFile.R laws_toFile.X a
theorem laws_toFile.f_eq (a : ByteArray × List ByteArray) : laws_toFile.f a =
  ((laws_toStringS.f a.2).bind fun y1 =>
  some (a.1, y1)) := by kernel_rfl
noncomputable def laws_toFile.S : Abs.Sum := ⟨laws_toFile.P, laws_toFile.R, fun _ => Fn laws_toFile.E laws_toFile.T laws_toFile.C laws_toFile.P laws_toFile.R laws_toFile.X⟩
theorem laws_toFile.meets : Meets Tryd.prog 11 laws_toFile.S := meets_tab (S := laws_toFile.U) tabOk_all (AllMeets.cons laws_toStringS.meets AllMeets.nil) (AllStill.cons (fun _ _ _ => rfl) AllStill.nil) follows (by kernel_rfl : Tryd.prog.funcs[11]? = some Tryd.f11) (by kernel_rfl) (by kernel_rfl) (by kernel_rfl)
noncomputable def laws_toFileS.C : Code := Tryd.f6.body.getD .skip
def laws_toFileS.P : Par := (.cons (.val (.list (.pair .str (.one (.list .str))))) .nil)
noncomputable def laws_toFileS.U : SumTab := [(11, [], laws_toFile.S)]
noncomputable def laws_toFileS.E : Env := mkEnv TY AR laws_toFileS.U
def laws_toFileS.D6 : CutD := ⟨[0, 3, 4], (.cons (.val (.list (.pair .str (.one (.list .str))))) (.cons (.own 9 (.pair .str (.one (.list .str)))) (.cons (.val (.int .i64)) .nil)))⟩
noncomputable def laws_toFileS.T : Tab := fun k => look k [(6, laws_toFileS.D6)]
def laws_toFileS.R : List (Nat × Ty) := [(9, .list (.pair .str (.one (.list .str))))]
def laws_toFileS.X : List ResultVar := [.tmp 2]
noncomputable def laws_toFileS.K := fin laws_toFileS.E ⟨laws_toFileS.P, laws_toFileS.R, fun _ _ => none⟩ laws_toFileS.X laws_toFileS.P.len 0
noncomputable def laws_toFileS.l6 (a : List (ByteArray × List ByteArray)) (out : List (ByteArray × List ByteArray)) (i : Int) : Option ((List (ByteArray × List ByteArray))) := fixP laws_toFileS.E laws_toFileS.T laws_toFileS.C laws_toFileS.K 6 laws_toFileS.D6 (a, out, i)
noncomputable def laws_toFileS.f (a : List (ByteArray × List ByteArray)) : Option ((List (ByteArray × List ByteArray))) := Fn laws_toFileS.E laws_toFileS.T laws_toFileS.C laws_toFileS.P laws_toFileS.R laws_toFileS.X a
theorem laws_toFileS.l6_eq (a : List (ByteArray × List ByteArray)) (out : List (ByteArray × List ByteArray)) (i : Int) : laws_toFileS.l6 a out i =
  (bif (decide (i < (a.length : Int))) then (bif ((decide (0 ≤ i)) && (decide (i < (a.length : Int)))) then ((laws_toFile.f (a.getD (i).toNat (em, ([] : List ByteArray)))).bind fun y1 =>
    bif ((decide (0 ≤ i)) && (decide (i < (out.length : Int)))) then (laws_toFileS.l6 a (out.set (i).toNat (y1.1, y1.2)) (w64 (i + 1))) else none) else none) else (some out)) :=
  (fixP_eq laws_toFileS.E laws_toFileS.T laws_toFileS.C laws_toFileS.K 6 laws_toFileS.D6 (a, out, i)).trans (by kernel_rfl)
theorem laws_toFileS.f_eq (a : List (ByteArray × List ByteArray)) : laws_toFileS.f a =
  (bif ((decide (0 ≤ (a.length : Int))) && (decide (((a.length : Int)).toNat ≤ room 40))) then (laws_toFileS.l6 a (List.replicate ((a.length : Int)).toNat (em, ([] : List ByteArray))) 0) else none) := by kernel_rfl
noncomputable def laws_toFileS.S : Abs.Sum := ⟨laws_toFileS.P, laws_toFileS.R, fun _ => Fn laws_toFileS.E laws_toFileS.T laws_toFileS.C laws_toFileS.P laws_toFileS.R laws_toFileS.X⟩
theorem laws_toFileS.meets : Meets Tryd.prog 6 laws_toFileS.S := meets_tab (S := laws_toFileS.U) tabOk_all (AllMeets.cons laws_toFile.meets AllMeets.nil) (AllStill.cons (fun _ _ _ => rfl) AllStill.nil) follows (by kernel_rfl : Tryd.prog.funcs[6]? = some Tryd.f6) (by kernel_rfl) (by kernel_rfl) (by kernel_rfl)
noncomputable def spec_l1In.C : Code := Tryd.f21.body.getD .skip
def spec_l1In.P : Par := (.cons (.val (.int .i64)) (.cons (.val (.int .i64)) (.cons (.val (.int .i64)) .nil)))
noncomputable def spec_l1In.U : SumTab := []
noncomputable def spec_l1In.E : Env := mkEnv TY AR spec_l1In.U
noncomputable def spec_l1In.T : Tab := fun k => look k []
def spec_l1In.R : List (Nat × Ty) := [(0, .bool)]
def spec_l1In.X : List ResultVar := [.tmp 6]
noncomputable def spec_l1In.f (n : Int) (lo : Int) (hi : Int) : Option (Bool) := Fn spec_l1In.E spec_l1In.T spec_l1In.C spec_l1In.P spec_l1In.R spec_l1In.X (n, lo, hi)
theorem spec_l1In.f_eq (n : Int) (lo : Int) (hi : Int) : spec_l1In.f n lo hi =
  (bif (decide (n ≥ lo)) then (some (decide (n ≤ hi))) else (some false)) := by kernel_rfl
noncomputable def spec_l1In.S : Abs.Sum := ⟨spec_l1In.P, spec_l1In.R, fun _ => Fn spec_l1In.E spec_l1In.T spec_l1In.C spec_l1In.P spec_l1In.R spec_l1In.X⟩
theorem spec_l1In.meets : Meets Tryd.prog 21 spec_l1In.S := meets_tab (S := spec_l1In.U) tabOk_all AllMeets.nil AllStill.nil follows (by kernel_rfl : Tryd.prog.funcs[21]? = some Tryd.f21) (by kernel_rfl) (by kernel_rfl) (by kernel_rfl)
noncomputable def spec_l15Name.C : Code := Tryd.f15.body.getD .skip
def spec_l15Name.P : Par := (.cons (.val .str) .nil)
noncomputable def spec_l15Name.U : SumTab := [(21, [], spec_l1In.S)]
noncomputable def spec_l15Name.E : Env := mkEnv TY AR spec_l15Name.U
def spec_l15Name.D4 : CutD := ⟨[0, 3], (.cons (.val .str) (.cons (.val (.int .i64)) .nil))⟩
def spec_l15Name.D7 : CutD := ⟨[0, 3], (.cons (.val .str) (.cons (.val (.int .i64)) .nil))⟩
noncomputable def spec_l15Name.T : Tab := fun k => look k [(4, spec_l15Name.D4), (7, spec_l15Name.D7)]
def spec_l15Name.R : List (Nat × Ty) := [(0, .bool)]
def spec_l15Name.X : List ResultVar := [.tmp 2]
noncomputable def spec_l15Name.K := fin spec_l15Name.E ⟨spec_l15Name.P, spec_l15Name.R, fun _ _ => none⟩ spec_l15Name.X spec_l15Name.P.len 0
noncomputable def spec_l15Name.l4 (s : ByteArray) (i : Int) : Option (Bool) := fixP spec_l15Name.E spec_l15Name.T spec_l15Name.C spec_l15Name.K 4 spec_l15Name.D4 (s, i)
noncomputable def spec_l15Name.l7 (s : ByteArray) (i : Int) : Option (Bool) := fixP spec_l15Name.E spec_l15Name.T spec_l15Name.C spec_l15Name.K 7 spec_l15Name.D7 (s, i)
noncomputable def spec_l15Name.f (s : ByteArray) : Option (Bool) := Fn spec_l15Name.E spec_l15Name.T spec_l15Name.C spec_l15Name.P spec_l15Name.R spec_l15Name.X s
theorem spec_l15Name.l4_eq (s : ByteArray) (i : Int) : spec_l15Name.l4 s i =
  (bif (decide (i < (s.size : Int))) then (bif ((decide (0 ≤ i)) && (decide (i < (s.size : Int)))) then (bif (decide ((bt s i) < 97)) then (bif (decide ((bt s i) < 48)) then (bif (!(decide ((bt s i) = 46))) then (bif (!(decide ((bt s i) = 47))) then (some false) else
       (spec_l15Name.l7 s i)) else
      (spec_l15Name.l7 s i)) else
     (bif (decide ((bt s i) > 57)) then (bif (!(decide ((bt s i) = 46))) then (bif (!(decide ((bt s i) = 47))) then (some false) else
        (spec_l15Name.l7 s i)) else
       (spec_l15Name.l7 s i)) else
      (spec_l15Name.l7 s i))) else
    (bif (decide ((bt s i) > 122)) then (bif (decide ((bt s i) < 48)) then (bif (!(decide ((bt s i) = 46))) then (bif (!(decide ((bt s i) = 47))) then (some false) else
        (spec_l15Name.l7 s i)) else
       (spec_l15Name.l7 s i)) else
      (bif (decide ((bt s i) > 57)) then (bif (!(decide ((bt s i) = 46))) then (bif (!(decide ((bt s i) = 47))) then (some false) else
         (spec_l15Name.l7 s i)) else
        (spec_l15Name.l7 s i)) else
       (spec_l15Name.l7 s i))) else
     (spec_l15Name.l7 s i))) else none) else
  ((spec_l1In.f (s.size : Int) 1 12).bind fun y1 =>
   some y1)) :=
  (fixP_eq spec_l15Name.E spec_l15Name.T spec_l15Name.C spec_l15Name.K 4 spec_l15Name.D4 (s, i)).trans (by kernel_rfl)
theorem spec_l15Name.l7_eq (s : ByteArray) (i : Int) : spec_l15Name.l7 s i =
  (spec_l15Name.l4 s (w64 (i + 1))) :=
  (fixP_eq spec_l15Name.E spec_l15Name.T spec_l15Name.C spec_l15Name.K 7 spec_l15Name.D7 (s, i)).trans (by kernel_rfl)
theorem spec_l15Name.f_eq (s : ByteArray) : spec_l15Name.f s =
  (spec_l15Name.l4 s 0) := by kernel_rfl
noncomputable def spec_l15Name.S : Abs.Sum := ⟨spec_l15Name.P, spec_l15Name.R, fun _ => Fn spec_l15Name.E spec_l15Name.T spec_l15Name.C spec_l15Name.P spec_l15Name.R spec_l15Name.X⟩
theorem spec_l15Name.meets : Meets Tryd.prog 15 spec_l15Name.S := meets_tab (S := spec_l15Name.U) tabOk_all (AllMeets.cons spec_l1In.meets AllMeets.nil) (AllStill.cons (fun _ _ _ => rfl) AllStill.nil) follows (by kernel_rfl : Tryd.prog.funcs[15]? = some Tryd.f15) (by kernel_rfl) (by kernel_rfl) (by kernel_rfl)
noncomputable def spec_l1Line.C : Code := Tryd.f22.body.getD .skip
def spec_l1Line.P : Par := (.cons (.val .str) .nil)
noncomputable def spec_l1Line.U : SumTab := [(21, [], spec_l1In.S)]
noncomputable def spec_l1Line.E : Env := mkEnv TY AR spec_l1Line.U
def spec_l1Line.D4 : CutD := ⟨[0, 3], (.cons (.val .str) (.cons (.val (.int .i64)) .nil))⟩
noncomputable def spec_l1Line.T : Tab := fun k => look k [(4, spec_l1Line.D4)]
def spec_l1Line.R : List (Nat × Ty) := [(0, .bool)]
def spec_l1Line.X : List ResultVar := [.tmp 2]
noncomputable def spec_l1Line.K := fin spec_l1Line.E ⟨spec_l1Line.P, spec_l1Line.R, fun _ _ => none⟩ spec_l1Line.X spec_l1Line.P.len 0
noncomputable def spec_l1Line.l4 (s : ByteArray) (i : Int) : Option (Bool) := fixP spec_l1Line.E spec_l1Line.T spec_l1Line.C spec_l1Line.K 4 spec_l1Line.D4 (s, i)
noncomputable def spec_l1Line.f (s : ByteArray) : Option (Bool) := Fn spec_l1Line.E spec_l1Line.T spec_l1Line.C spec_l1Line.P spec_l1Line.R spec_l1Line.X s
theorem spec_l1Line.l4_eq (s : ByteArray) (i : Int) : spec_l1Line.l4 s i =
  (bif (decide (i < (w64 ((s.size : Int) - 1)))) then (bif ((decide (0 ≤ i)) && (decide (i < (s.size : Int)))) then (bif (decide ((bt s i) = 10)) then (some false) else
    (spec_l1Line.l4 s (w64 (i + 1)))) else none) else
  ((spec_l1In.f (s.size : Int) 1 30).bind fun y1 =>
   some y1)) :=
  (fixP_eq spec_l1Line.E spec_l1Line.T spec_l1Line.C spec_l1Line.K 4 spec_l1Line.D4 (s, i)).trans (by kernel_rfl)
theorem spec_l1Line.f_eq (s : ByteArray) : spec_l1Line.f s =
  (spec_l1Line.l4 s 0) := by kernel_rfl
noncomputable def spec_l1Line.S : Abs.Sum := ⟨spec_l1Line.P, spec_l1Line.R, fun _ => Fn spec_l1Line.E spec_l1Line.T spec_l1Line.C spec_l1Line.P spec_l1Line.R spec_l1Line.X⟩
theorem spec_l1Line.meets : Meets Tryd.prog 22 spec_l1Line.S := meets_tab (S := spec_l1Line.U) tabOk_all (AllMeets.cons spec_l1In.meets AllMeets.nil) (AllStill.cons (fun _ _ _ => rfl) AllStill.nil) follows (by kernel_rfl : Tryd.prog.funcs[22]? = some Tryd.f22) (by kernel_rfl) (by kernel_rfl) (by kernel_rfl)
noncomputable def spec_l1Ends.C : Code := Tryd.f23.body.getD .skip
def spec_l1Ends.P : Par := (.cons (.val .str) .nil)
noncomputable def spec_l1Ends.U : SumTab := []
noncomputable def spec_l1Ends.E : Env := mkEnv TY AR spec_l1Ends.U
noncomputable def spec_l1Ends.T : Tab := fun k => look k []
def spec_l1Ends.R : List (Nat × Ty) := [(0, .bool)]
def spec_l1Ends.X : List ResultVar := [.tmp 2]
noncomputable def spec_l1Ends.f (s : ByteArray) : Option (Bool) := Fn spec_l1Ends.E spec_l1Ends.T spec_l1Ends.C spec_l1Ends.P spec_l1Ends.R spec_l1Ends.X s
theorem spec_l1Ends.f_eq (s : ByteArray) : spec_l1Ends.f s =
  (bif ((decide (0 ≤ (w64 ((s.size : Int) - 1)))) && (decide ((w64 ((s.size : Int) - 1)) < (s.size : Int)))) then (some (decide ((bt s (w64 ((s.size : Int) - 1))) = 10))) else none) := by kernel_rfl
noncomputable def spec_l1Ends.S : Abs.Sum := ⟨spec_l1Ends.P, spec_l1Ends.R, fun _ => Fn spec_l1Ends.E spec_l1Ends.T spec_l1Ends.C spec_l1Ends.P spec_l1Ends.R spec_l1Ends.X⟩
theorem spec_l1Ends.meets : Meets Tryd.prog 23 spec_l1Ends.S := meets_tab (S := spec_l1Ends.U) tabOk_all AllMeets.nil AllStill.nil follows (by kernel_rfl : Tryd.prog.funcs[23]? = some Tryd.f23) (by kernel_rfl) (by kernel_rfl) (by kernel_rfl)
noncomputable def spec_l1Good.C : Code := Tryd.f16.body.getD .skip
def spec_l1Good.P : Par := (.cons (.val (.list .str)) .nil)
noncomputable def spec_l1Good.U : SumTab := [(22, [], spec_l1Line.S), (23, [], spec_l1Ends.S)]
noncomputable def spec_l1Good.E : Env := mkEnv TY AR spec_l1Good.U
def spec_l1Good.D4 : CutD := ⟨[0, 5, 6, 7], (.cons (.val (.list .str)) (.cons (.val (.list .str)) (.cons (.val (.int .i64)) (.cons (.val (.int .i64)) .nil))))⟩
noncomputable def spec_l1Good.T : Tab := fun k => look k [(4, spec_l1Good.D4)]
def spec_l1Good.R : List (Nat × Ty) := [(0, .bool)]
def spec_l1Good.X : List ResultVar := [.tmp 2]
noncomputable def spec_l1Good.K := fin spec_l1Good.E ⟨spec_l1Good.P, spec_l1Good.R, fun _ _ => none⟩ spec_l1Good.X spec_l1Good.P.len 0
noncomputable def spec_l1Good.l4 (l : List ByteArray) (t5 : List ByteArray) (t6 : Int) (t7 : Int) : Option (Bool) := fixP spec_l1Good.E spec_l1Good.T spec_l1Good.C spec_l1Good.K 4 spec_l1Good.D4 (l, t5, t6, t7)
noncomputable def spec_l1Good.f (l : List ByteArray) : Option (Bool) := Fn spec_l1Good.E spec_l1Good.T spec_l1Good.C spec_l1Good.P spec_l1Good.R spec_l1Good.X l
theorem spec_l1Good.l4_eq (l : List ByteArray) (t5 : List ByteArray) (t6 : Int) (t7 : Int) : spec_l1Good.l4 l t5 t6 t7 =
  (bif (decide (t7 < t6)) then (bif ((decide (0 ≤ t7)) && (decide (t7 < (t5.length : Int)))) then ((spec_l1Line.f (t5.getD (t7).toNat em)).bind fun y1 =>
    bif (!y1) then (some false) else
    (bif (decide (t7 < (w64 ((l.length : Int) - 1)))) then ((spec_l1Ends.f (t5.getD (t7).toNat em)).bind fun y2 =>
      bif (!y2) then (some false) else
      (spec_l1Good.l4 l t5 t6 (w64 (t7 + 1)))) else
     (spec_l1Good.l4 l t5 t6 (w64 (t7 + 1))))) else none) else (some (decide ((l.length : Int) ≤ 40)))) :=
  (fixP_eq spec_l1Good.E spec_l1Good.T spec_l1Good.C spec_l1Good.K 4 spec_l1Good.D4 (l, t5, t6, t7)).trans (by kernel_rfl)
theorem spec_l1Good.f_eq (l : List ByteArray) : spec_l1Good.f l =
  (spec_l1Good.l4 l l (l.length : Int) 0) := by kernel_rfl
noncomputable def spec_l1Good.S : Abs.Sum := ⟨spec_l1Good.P, spec_l1Good.R, fun _ => Fn spec_l1Good.E spec_l1Good.T spec_l1Good.C spec_l1Good.P spec_l1Good.R spec_l1Good.X⟩
theorem spec_l1Good.meets : Meets Tryd.prog 16 spec_l1Good.S := meets_tab (S := spec_l1Good.U) tabOk_all (AllMeets.cons spec_l1Line.meets (AllMeets.cons spec_l1Ends.meets AllMeets.nil)) (AllStill.cons (fun _ _ _ => rfl) (AllStill.cons (fun _ _ _ => rfl) AllStill.nil)) follows (by kernel_rfl : Tryd.prog.funcs[16]? = some Tryd.f16) (by kernel_rfl) (by kernel_rfl) (by kernel_rfl)
noncomputable def spec_l15Files.C : Code := Tryd.f10.body.getD .skip
def spec_l15Files.P : Par := (.cons (.val (.list (.pair .str (.one (.list .str))))) .nil)
noncomputable def spec_l15Files.U : SumTab := [(15, [], spec_l15Name.S), (16, [], spec_l1Good.S)]
noncomputable def spec_l15Files.E : Env := mkEnv TY AR spec_l15Files.U
def spec_l15Files.D4 : CutD := ⟨[0, 5, 6, 7], (.cons (.val (.list (.pair .str (.one (.list .str))))) (.cons (.val (.list (.pair .str (.one (.list .str))))) (.cons (.val (.int .i64)) (.cons (.val (.int .i64)) .nil))))⟩
noncomputable def spec_l15Files.T : Tab := fun k => look k [(4, spec_l15Files.D4)]
def spec_l15Files.R : List (Nat × Ty) := [(0, .bool)]
def spec_l15Files.X : List ResultVar := [.tmp 2]
noncomputable def spec_l15Files.K := fin spec_l15Files.E ⟨spec_l15Files.P, spec_l15Files.R, fun _ _ => none⟩ spec_l15Files.X spec_l15Files.P.len 0
noncomputable def spec_l15Files.l4 (f : List (ByteArray × List ByteArray)) (t5 : List (ByteArray × List ByteArray)) (t6 : Int) (t7 : Int) : Option (Bool) := fixP spec_l15Files.E spec_l15Files.T spec_l15Files.C spec_l15Files.K 4 spec_l15Files.D4 (f, t5, t6, t7)
noncomputable def spec_l15Files.f (f : List (ByteArray × List ByteArray)) : Option (Bool) := Fn spec_l15Files.E spec_l15Files.T spec_l15Files.C spec_l15Files.P spec_l15Files.R spec_l15Files.X f
theorem spec_l15Files.l4_eq (f : List (ByteArray × List ByteArray)) (t5 : List (ByteArray × List ByteArray)) (t6 : Int) (t7 : Int) : spec_l15Files.l4 f t5 t6 t7 =
  (bif (decide (t7 < t6)) then (bif ((decide (0 ≤ t7)) && (decide (t7 < (t5.length : Int)))) then ((spec_l15Name.f (t5.getD (t7).toNat (em, ([] : List ByteArray))).1).bind fun y1 =>
    bif (!y1) then (some false) else
    ((spec_l1Good.f (t5.getD (t7).toNat (em, ([] : List ByteArray))).2).bind fun y2 =>
     bif (!y2) then (some false) else
     (bif (decide (t7 > 0)) then (bif ((decide (0 ≤ (w64 (t7 - 1)))) && (decide ((w64 (t7 - 1)) < (f.length : Int)))) then (bif (!(Op.bytesLess (f.getD ((w64 (t7 - 1))).toNat (em, ([] : List ByteArray))).1.toList (t5.getD (t7).toNat (em, ([] : List ByteArray))).1.toList)) then (some false) else
        (spec_l15Files.l4 f t5 t6 (w64 (t7 + 1)))) else none) else
      (spec_l15Files.l4 f t5 t6 (w64 (t7 + 1)))))) else none) else (some (decide ((f.length : Int) ≤ 8)))) :=
  (fixP_eq spec_l15Files.E spec_l15Files.T spec_l15Files.C spec_l15Files.K 4 spec_l15Files.D4 (f, t5, t6, t7)).trans (by kernel_rfl)
theorem spec_l15Files.f_eq (f : List (ByteArray × List ByteArray)) : spec_l15Files.f f =
  (spec_l15Files.l4 f f (f.length : Int) 0) := by kernel_rfl
noncomputable def spec_l15Files.S : Abs.Sum := ⟨spec_l15Files.P, spec_l15Files.R, fun _ => Fn spec_l15Files.E spec_l15Files.T spec_l15Files.C spec_l15Files.P spec_l15Files.R spec_l15Files.X⟩
theorem spec_l15Files.meets : Meets Tryd.prog 10 spec_l15Files.S := meets_tab (S := spec_l15Files.U) tabOk_all (AllMeets.cons spec_l15Name.meets (AllMeets.cons spec_l1Good.meets AllMeets.nil)) (AllStill.cons (fun _ _ _ => rfl) (AllStill.cons (fun _ _ _ => rfl) AllStill.nil)) follows (by kernel_rfl : Tryd.prog.funcs[10]? = some Tryd.f10) (by kernel_rfl) (by kernel_rfl) (by kernel_rfl)
noncomputable def spec_GoodFiles.C : Code := Tryd.f5.body.getD .skip
def spec_GoodFiles.P : Par := (.cons (.val (.list (.pair .str (.one (.list .str))))) .nil)
noncomputable def spec_GoodFiles.U : SumTab := [(10, [], spec_l15Files.S)]
noncomputable def spec_GoodFiles.E : Env := mkEnv TY AR spec_GoodFiles.U
noncomputable def spec_GoodFiles.T : Tab := fun k => look k []
def spec_GoodFiles.R : List (Nat × Ty) := [(0, .bool)]
def spec_GoodFiles.X : List ResultVar := [.tmp 2]
noncomputable def spec_GoodFiles.f (f : List (ByteArray × List ByteArray)) : Option (Bool) := Fn spec_GoodFiles.E spec_GoodFiles.T spec_GoodFiles.C spec_GoodFiles.P spec_GoodFiles.R spec_GoodFiles.X f
theorem spec_GoodFiles.f_eq (f : List (ByteArray × List ByteArray)) : spec_GoodFiles.f f =
  ((spec_l15Files.f f).bind fun y1 =>
  some y1) := by kernel_rfl
noncomputable def spec_GoodFiles.S : Abs.Sum := ⟨spec_GoodFiles.P, spec_GoodFiles.R, fun _ => Fn spec_GoodFiles.E spec_GoodFiles.T spec_GoodFiles.C spec_GoodFiles.P spec_GoodFiles.R spec_GoodFiles.X⟩
theorem spec_GoodFiles.meets : Meets Tryd.prog 5 spec_GoodFiles.S := meets_tab (S := spec_GoodFiles.U) tabOk_all (AllMeets.cons spec_l15Files.meets AllMeets.nil) (AllStill.cons (fun _ _ _ => rfl) AllStill.nil) follows (by kernel_rfl : Tryd.prog.funcs[5]? = some Tryd.f5) (by kernel_rfl) (by kernel_rfl) (by kernel_rfl)
noncomputable def impl_in.C : Code := Tryd.f24.body.getD .skip
def impl_in.P : Par := (.cons (.val (.int .i64)) (.cons (.val (.int .i64)) (.cons (.val (.int .i64)) .nil)))
noncomputable def impl_in.U : SumTab := []
noncomputable def impl_in.E : Env := mkEnv TY AR impl_in.U
noncomputable def impl_in.T : Tab := fun k => look k []
def impl_in.R : List (Nat × Ty) := [(0, .bool)]
def impl_in.X : List ResultVar := [.tmp 6]
noncomputable def impl_in.f (n : Int) (low : Int) (high : Int) : Option (Bool) := Fn impl_in.E impl_in.T impl_in.C impl_in.P impl_in.R impl_in.X (n, low, high)
theorem impl_in.f_eq (n : Int) (low : Int) (high : Int) : impl_in.f n low high =
  (bif (decide (n ≥ low)) then (some (decide (n ≤ high))) else (some false)) := by kernel_rfl
noncomputable def impl_in.S : Abs.Sum := ⟨impl_in.P, impl_in.R, fun _ => Fn impl_in.E impl_in.T impl_in.C impl_in.P impl_in.R impl_in.X⟩
theorem impl_in.meets : Meets Tryd.prog 24 impl_in.S := meets_tab (S := impl_in.U) tabOk_all AllMeets.nil AllStill.nil follows (by kernel_rfl : Tryd.prog.funcs[24]? = some Tryd.f24) (by kernel_rfl) (by kernel_rfl) (by kernel_rfl)
noncomputable def impl_isName.C : Code := Tryd.f18.body.getD .skip
def impl_isName.P : Par := (.cons (.val .str) .nil)
noncomputable def impl_isName.U : SumTab := [(24, [], impl_in.S), (25, [], strings_Trim.S)]
noncomputable def impl_isName.E : Env := mkEnv TY AR impl_isName.U
noncomputable def impl_isName.T : Tab := fun k => look k []
def impl_isName.R : List (Nat × Ty) := [(0, .bool)]
def impl_isName.X : List ResultVar := [.tmp 2]
noncomputable def impl_isName.f (s : ByteArray) : Option (Bool) := Fn impl_isName.E impl_isName.T impl_isName.C impl_isName.P impl_isName.R impl_isName.X s
theorem impl_isName.f_eq (s : ByteArray) : impl_isName.f s =
  ((impl_in.f (s.size : Int) 1 12).bind fun y1 =>
  bif y1 then ((strings_Trim.f s (⟨#[97, 98, 99, 100, 101, 102, 103, 104, 105, 106, 107, 108, 109, 110, 111, 112, 113, 114, 115, 116, 117, 118, 119, 120, 121, 122, 48, 49, 50, 51, 52, 53, 54, 55, 56, 57, 46, 47]⟩ : ByteArray)).bind fun y2 =>
   some (y2.toList == em.toList)) else (some false)) := by kernel_rfl
noncomputable def impl_isName.S : Abs.Sum := ⟨impl_isName.P, impl_isName.R, fun _ => Fn impl_isName.E impl_isName.T impl_isName.C impl_isName.P impl_isName.R impl_isName.X⟩
theorem impl_isName.meets : Meets Tryd.prog 18 impl_isName.S := meets_tab (S := impl_isName.U) tabOk_all (AllMeets.cons impl_in.meets (AllMeets.cons strings_Trim.meets AllMeets.nil)) (AllStill.cons (fun _ _ _ => rfl) (AllStill.cons (fun _ _ _ => rfl) AllStill.nil)) follows (by kernel_rfl : Tryd.prog.funcs[18]? = some Tryd.f18) (by kernel_rfl) (by kernel_rfl) (by kernel_rfl)
noncomputable def impl_isLine.C : Code := Tryd.f37.body.getD .skip
def impl_isLine.P : Par := (.cons (.val .str) .nil)
noncomputable def impl_isLine.U : SumTab := [(24, [], impl_in.S), (44, [], strings_Contains.S)]
noncomputable def impl_isLine.E : Env := mkEnv TY AR impl_isLine.U
noncomputable def impl_isLine.T : Tab := fun k => look k []
def impl_isLine.R : List (Nat × Ty) := [(0, .bool)]
def impl_isLine.X : List ResultVar := [.tmp 2]
noncomputable def impl_isLine.f (line : ByteArray) : Option (Bool) := Fn impl_isLine.E impl_isLine.T impl_isLine.C impl_isLine.P impl_isLine.R impl_isLine.X line
theorem impl_isLine.f_eq (line : ByteArray) : impl_isLine.f line =
  ((impl_in.f (line.size : Int) 1 30).bind fun y1 =>
  bif y1 then (bif ((decide (0 ≤ (w64 ((line.size : Int) - 1)))) && (decide ((w64 ((line.size : Int) - 1)) ≤ (line.size : Int)))) then ((strings_Contains.f (line.extract 0 ((w64 ((line.size : Int) - 1))).toNat) (⟨#[10]⟩ : ByteArray)).bind fun y2 =>
    some (!y2)) else none) else (some false)) := by kernel_rfl
noncomputable def impl_isLine.S : Abs.Sum := ⟨impl_isLine.P, impl_isLine.R, fun _ => Fn impl_isLine.E impl_isLine.T impl_isLine.C impl_isLine.P impl_isLine.R impl_isLine.X⟩
theorem impl_isLine.meets : Meets Tryd.prog 37 impl_isLine.S := meets_tab (S := impl_isLine.U) tabOk_all (AllMeets.cons impl_in.meets (AllMeets.cons strings_Contains.meets AllMeets.nil)) (AllStill.cons (fun _ _ _ => rfl) (AllStill.cons (fun _ _ _ => rfl) AllStill.nil)) follows (by kernel_rfl : Tryd.prog.funcs[37]? = some Tryd.f37) (by kernel_rfl) (by kernel_rfl) (by kernel_rfl)
noncomputable def impl_areLines_1.C : Code := Tryd.f36.body.getD .skip
def impl_areLines_1.P : Par := (.cons (.val .str) .nil)
noncomputable def impl_areLines_1.U : SumTab := [(37, [], impl_isLine.S)]
noncomputable def impl_areLines_1.E : Env := mkEnv TY AR impl_areLines_1.U
noncomputable def impl_areLines_1.T : Tab := fun k => look k []
def impl_areLines_1.R : List (Nat × Ty) := [(0, .bool)]
def impl_areLines_1.X : List ResultVar := [.tmp 2]
noncomputable def impl_areLines_1.f (line : ByteArray) : Option (Bool) := Fn impl_areLines_1.E impl_areLines_1.T impl_areLines_1.C impl_areLines_1.P impl_areLines_1.R impl_areLines_1.X line
theorem impl_areLines_1.f_eq (line : ByteArray) : impl_areLines_1.f line =
  ((impl_isLine.f line).bind fun y1 =>
  some (!y1)) := by kernel_rfl
noncomputable def impl_areLines_1.S : Abs.Sum := ⟨impl_areLines_1.P, impl_areLines_1.R, fun _ => Fn impl_areLines_1.E impl_areLines_1.T impl_areLines_1.C impl_areLines_1.P impl_areLines_1.R impl_areLines_1.X⟩
theorem impl_areLines_1.meets : Meets Tryd.prog 36 impl_areLines_1.S := meets_tab (S := impl_areLines_1.U) tabOk_all (AllMeets.cons impl_isLine.meets AllMeets.nil) (AllStill.cons (fun _ _ _ => rfl) AllStill.nil) follows (by kernel_rfl : Tryd.prog.funcs[36]? = some Tryd.f36) (by kernel_rfl) (by kernel_rfl) (by kernel_rfl)
noncomputable def slices_IndexFunc_Lstring_string__impl_areLines_1.C : Code := Tryd.f43.body.getD .skip
def slices_IndexFunc_Lstring_string__impl_areLines_1.P : Par := (.cons (.val (.list .str)) (.cons (.fn 36 .nil) .nil))
noncomputable def slices_IndexFunc_Lstring_string__impl_areLines_1.U : SumTab := [(36, [], impl_areLines_1.S)]
noncomputable def slices_IndexFunc_Lstring_string__impl_areLines_1.E : Env := mkEnv TY AR slices_IndexFunc_Lstring_string__impl_areLines_1.U
def slices_IndexFunc_Lstring_string__impl_areLines_1.D4 : CutD := ⟨[0, 1, 7, 8], (.cons (.val (.list .str)) (.cons (.fn 36 .nil) (.cons (.val (.int .i64)) (.cons (.val (.int .i64)) .nil))))⟩
noncomputable def slices_IndexFunc_Lstring_string__impl_areLines_1.T : Tab := fun k => look k [(4, slices_IndexFunc_Lstring_string__impl_areLines_1.D4)]
def slices_IndexFunc_Lstring_string__impl_areLines_1.R : List (Nat × Ty) := [(0, .int .i64)]
def slices_IndexFunc_Lstring_string__impl_areLines_1.X : List ResultVar := [.tmp 4]
noncomputable def slices_IndexFunc_Lstring_string__impl_areLines_1.K := fin slices_IndexFunc_Lstring_string__impl_areLines_1.E ⟨slices_IndexFunc_Lstring_string__impl_areLines_1.P, slices_IndexFunc_Lstring_string__impl_areLines_1.R, fun _ _ => none⟩ slices_IndexFunc_Lstring_string__impl_areLines_1.X slices_IndexFunc_Lstring_string__impl_areLines_1.P.len 0
noncomputable def slices_IndexFunc_Lstring_string__impl_areLines_1.l4 (s : List ByteArray) (t7 : Int) (t8 : Int) : Option (Int) := fixP slices_IndexFunc_Lstring_string__impl_areLines_1.E slices_IndexFunc_Lstring_string__impl_areLines_1.T slices_IndexFunc_Lstring_string__impl_areLines_1.C slices_IndexFunc_Lstring_string__impl_areLines_1.K 4 slices_IndexFunc_Lstring_string__impl_areLines_1.D4 (s, t7, t8)
noncomputable def slices_IndexFunc_Lstring_string__impl_areLines_1.f (s : List ByteArray) : Option (Int) := Fn slices_IndexFunc_Lstring_string__impl_areLines_1.E slices_IndexFunc_Lstring_string__impl_areLines_1.T slices_IndexFunc_Lstring_string__impl_areLines_1.C slices_IndexFunc_Lstring_string__impl_areLines_1.P slices_IndexFunc_Lstring_string__impl_areLines_1.R slices_IndexFunc_Lstring_string__impl_areLines_1.X s
theorem slices_IndexFunc_Lstring_string__impl_areLines_1.l4_eq (s : List ByteArray) (t7 : Int) (t8 : Int) : slices_IndexFunc_Lstring_string__impl_areLines_1.l4 s t7 t8 =
  (bif (decide (t8 < t7)) then (bif ((decide (0 ≤ t8)) && (decide (t8 < (s.length : Int)))) then ((impl_areLines_1.f (s.getD (t8).toNat em)).bind fun y1 =>
    bif y1 then (some t8) else
    (slices_IndexFunc_Lstring_string__impl_areLines_1.l4 s t7 (w64 (t8 + 1)))) else none) else (some (-1))) :=
  (fixP_eq slices_IndexFunc_Lstring_string__impl_areLines_1.E slices_IndexFunc_Lstring_string__impl_areLines_1.T slices_IndexFunc_Lstring_string__impl_areLines_1.C slices_IndexFunc_Lstring_string__impl_areLines_1.K 4 slices_IndexFunc_Lstring_string__impl_areLines_1.D4 (s, t7, t8)).trans (by kernel_rfl)
theorem slices_IndexFunc_Lstring_string__impl_areLines_1.f_eq (s : List ByteArray) : slices_IndexFunc_Lstring_string__impl_areLines_1.f s =
  (slices_IndexFunc_Lstring_string__impl_areLines_1.l4 s (s.length : Int) 0) := by kernel_rfl
noncomputable def slices_IndexFunc_Lstring_string__impl_areLines_1.S : Abs.Sum := ⟨slices_IndexFunc_Lstring_string__impl_areLines_1.P, slices_IndexFunc_Lstring_string__impl_areLines_1.R, fun _ => Fn slices_IndexFunc_Lstring_string__impl_areLines_1.E slices_IndexFunc_Lstring_string__impl_areLines_1.T slices_IndexFunc_Lstring_string__impl_areLines_1.C slices_IndexFunc_Lstring_string__impl_areLines_1.P slices_IndexFunc_Lstring_string__impl_areLines_1.R slices_IndexFunc_Lstring_string__impl_areLines_1.X⟩
theorem slices_IndexFunc_Lstring_string__impl_areLines_1.meets : Meets Tryd.prog 43 slices_IndexFunc_Lstring_string__impl_areLines_1.S := meets_tab (S := slices_IndexFunc_Lstring_string__impl_areLines_1.U) tabOk_all (AllMeets.cons impl_areLines_1.meets AllMeets.nil) (AllStill.cons (fun _ _ _ => rfl) AllStill.nil) follows (by kernel_rfl : Tryd.prog.funcs[43]? = some Tryd.f43) (by kernel_rfl) (by kernel_rfl) (by kernel_rfl)
noncomputable def slices_ContainsFunc_Lstring_string__impl_areLines_1.C : Code := Tryd.f35.body.getD .skip
def slices_ContainsFunc_Lstring_string__impl_areLines_1.P : Par := (.cons (.val (.list .str)) (.cons (.fn 36 .nil) .nil))
noncomputable def slices_ContainsFunc_Lstring_string__impl_areLines_1.U : SumTab := [(43, [36], slices_IndexFunc_Lstring_string__impl_areLines_1.S)]
noncomputable def slices_ContainsFunc_Lstring_string__impl_areLines_1.E : Env := mkEnv TY AR slices_ContainsFunc_Lstring_string__impl_areLines_1.U
noncomputable def slices_ContainsFunc_Lstring_string__impl_areLines_1.T : Tab := fun k => look k []
def slices_ContainsFunc_Lstring_string__impl_areLines_1.R : List (Nat × Ty) := [(0, .bool)]
def slices_ContainsFunc_Lstring_string__impl_areLines_1.X : List ResultVar := [.tmp 4]
noncomputable def slices_ContainsFunc_Lstring_string__impl_areLines_1.f (s : List ByteArray) : Option (Bool) := Fn slices_ContainsFunc_Lstring_string__impl_areLines_1.E slices_ContainsFunc_Lstring_string__impl_areLines_1.T slices_ContainsFunc_Lstring_string__impl_areLines_1.C slices_ContainsFunc_Lstring_string__impl_areLines_1.P slices_ContainsFunc_Lstring_string__impl_areLines_1.R slices_ContainsFunc_Lstring_string__impl_areLines_1.X s
theorem slices_ContainsFunc_Lstring_string__impl_areLines_1.f_eq (s : List ByteArray) : slices_ContainsFunc_Lstring_string__impl_areLines_1.f s =
  ((slices_IndexFunc_Lstring_string__impl_areLines_1.f s).bind fun y1 =>
  some (decide (y1 ≥ 0))) := by kernel_rfl
noncomputable def slices_ContainsFunc_Lstring_string__impl_areLines_1.S : Abs.Sum := ⟨slices_ContainsFunc_Lstring_string__impl_areLines_1.P, slices_ContainsFunc_Lstring_string__impl_areLines_1.R, fun _ => Fn slices_ContainsFunc_Lstring_string__impl_areLines_1.E slices_ContainsFunc_Lstring_string__impl_areLines_1.T slices_ContainsFunc_Lstring_string__impl_areLines_1.C slices_ContainsFunc_Lstring_string__impl_areLines_1.P slices_ContainsFunc_Lstring_string__impl_areLines_1.R slices_ContainsFunc_Lstring_string__impl_areLines_1.X⟩
theorem slices_ContainsFunc_Lstring_string__impl_areLines_1.meets : Meets Tryd.prog 35 slices_ContainsFunc_Lstring_string__impl_areLines_1.S := meets_tab (S := slices_ContainsFunc_Lstring_string__impl_areLines_1.U) tabOk_all (AllMeets.cons slices_IndexFunc_Lstring_string__impl_areLines_1.meets AllMeets.nil) (AllStill.cons (fun _ _ _ => rfl) AllStill.nil) follows (by kernel_rfl : Tryd.prog.funcs[35]? = some Tryd.f35) (by kernel_rfl) (by kernel_rfl) (by kernel_rfl)
noncomputable def impl_areLines.C : Code := Tryd.f26.body.getD .skip
def impl_areLines.P : Par := (.cons (.val (.list .str)) .nil)
noncomputable def impl_areLines.U : SumTab := [(35, [36], slices_ContainsFunc_Lstring_string__impl_areLines_1.S)]
noncomputable def impl_areLines.E : Env := mkEnv TY AR impl_areLines.U
noncomputable def impl_areLines.T : Tab := fun k => look k []
def impl_areLines.R : List (Nat × Ty) := [(0, .bool)]
def impl_areLines.X : List ResultVar := [.tmp 2]
noncomputable def impl_areLines.f (l : List ByteArray) : Option (Bool) := Fn impl_areLines.E impl_areLines.T impl_areLines.C impl_areLines.P impl_areLines.R impl_areLines.X l
theorem impl_areLines.f_eq (l : List ByteArray) : impl_areLines.f l =
  (bif (decide ((l.length : Int) ≤ 40)) then ((slices_ContainsFunc_Lstring_string__impl_areLines_1.f l).bind fun y1 =>
   some (!y1)) else (some false)) := by kernel_rfl
noncomputable def impl_areLines.S : Abs.Sum := ⟨impl_areLines.P, impl_areLines.R, fun _ => Fn impl_areLines.E impl_areLines.T impl_areLines.C impl_areLines.P impl_areLines.R impl_areLines.X⟩
theorem impl_areLines.meets : Meets Tryd.prog 26 impl_areLines.S := meets_tab (S := impl_areLines.U) tabOk_all (AllMeets.cons slices_ContainsFunc_Lstring_string__impl_areLines_1.meets AllMeets.nil) (AllStill.cons (fun _ _ _ => rfl) AllStill.nil) follows (by kernel_rfl : Tryd.prog.funcs[26]? = some Tryd.f26) (by kernel_rfl) (by kernel_rfl) (by kernel_rfl)
noncomputable def internal_stringslite_HasSuffix.C : Code := Tryd.f45.body.getD .skip
def internal_stringslite_HasSuffix.P : Par := (.cons (.val .str) (.cons (.val .str) .nil))
noncomputable def internal_stringslite_HasSuffix.U : SumTab := []
noncomputable def internal_stringslite_HasSuffix.E : Env := mkEnv TY AR internal_stringslite_HasSuffix.U
noncomputable def internal_stringslite_HasSuffix.T : Tab := fun k => look k []
def internal_stringslite_HasSuffix.R : List (Nat × Ty) := [(0, .bool)]
def internal_stringslite_HasSuffix.X : List ResultVar := [.tmp 4]
noncomputable def internal_stringslite_HasSuffix.f (s : ByteArray) (suffix : ByteArray) : Option (Bool) := Fn internal_stringslite_HasSuffix.E internal_stringslite_HasSuffix.T internal_stringslite_HasSuffix.C internal_stringslite_HasSuffix.P internal_stringslite_HasSuffix.R internal_stringslite_HasSuffix.X (s, suffix)
theorem internal_stringslite_HasSuffix.f_eq (s : ByteArray) (suffix : ByteArray) : internal_stringslite_HasSuffix.f s suffix =
  (bif (decide ((s.size : Int) ≥ (suffix.size : Int))) then (bif ((decide (0 ≤ (w64 ((s.size : Int) - (suffix.size : Int))))) && (decide ((w64 ((s.size : Int) - (suffix.size : Int))) ≤ (s.size : Int)))) then (some ((s.extract ((w64 ((s.size : Int) - (suffix.size : Int)))).toNat s.size).toList == suffix.toList)) else none) else (some false)) := by kernel_rfl
noncomputable def internal_stringslite_HasSuffix.S : Abs.Sum := ⟨internal_stringslite_HasSuffix.P, internal_stringslite_HasSuffix.R, fun _ => Fn internal_stringslite_HasSuffix.E internal_stringslite_HasSuffix.T internal_stringslite_HasSuffix.C internal_stringslite_HasSuffix.P internal_stringslite_HasSuffix.R internal_stringslite_HasSuffix.X⟩
theorem internal_stringslite_HasSuffix.meets : Meets Tryd.prog 45 internal_stringslite_HasSuffix.S := meets_tab (S := internal_stringslite_HasSuffix.U) tabOk_all AllMeets.nil AllStill.nil follows (by kernel_rfl : Tryd.prog.funcs[45]? = some Tryd.f45) (by kernel_rfl) (by kernel_rfl) (by kernel_rfl)
noncomputable def strings_HasSuffix.C : Code := Tryd.f38.body.getD .skip
def strings_HasSuffix.P : Par := (.cons (.val .str) (.cons (.val .str) .nil))
noncomputable def strings_HasSuffix.U : SumTab := [(45, [], internal_stringslite_HasSuffix.S)]
noncomputable def strings_HasSuffix.E : Env := mkEnv TY AR strings_HasSuffix.U
noncomputable def strings_HasSuffix.T : Tab := fun k => look k []
def strings_HasSuffix.R : List (Nat × Ty) := [(0, .bool)]
def strings_HasSuffix.X : List ResultVar := [.tmp 4]
noncomputable def strings_HasSuffix.f (s : ByteArray) (suffix : ByteArray) : Option (Bool) := Fn strings_HasSuffix.E strings_HasSuffix.T strings_HasSuffix.C strings_HasSuffix.P strings_HasSuffix.R strings_HasSuffix.X (s, suffix)
theorem strings_HasSuffix.f_eq (s : ByteArray) (suffix : ByteArray) : strings_HasSuffix.f s suffix =
  ((internal_stringslite_HasSuffix.f s suffix).bind fun y1 =>
  some y1) := by kernel_rfl
noncomputable def strings_HasSuffix.S : Abs.Sum := ⟨strings_HasSuffix.P, strings_HasSuffix.R, fun _ => Fn strings_HasSuffix.E strings_HasSuffix.T strings_HasSuffix.C strings_HasSuffix.P strings_HasSuffix.R strings_HasSuffix.X⟩
theorem strings_HasSuffix.meets : Meets Tryd.prog 38 strings_HasSuffix.S := meets_tab (S := strings_HasSuffix.U) tabOk_all (AllMeets.cons internal_stringslite_HasSuffix.meets AllMeets.nil) (AllStill.cons (fun _ _ _ => rfl) AllStill.nil) follows (by kernel_rfl : Tryd.prog.funcs[38]? = some Tryd.f38) (by kernel_rfl) (by kernel_rfl) (by kernel_rfl)
noncomputable def impl_isEnded.C : Code := Tryd.f27.body.getD .skip
def impl_isEnded.P : Par := (.cons (.val .str) .nil)
noncomputable def impl_isEnded.U : SumTab := [(38, [], strings_HasSuffix.S)]
noncomputable def impl_isEnded.E : Env := mkEnv TY AR impl_isEnded.U
noncomputable def impl_isEnded.T : Tab := fun k => look k []
def impl_isEnded.R : List (Nat × Ty) := [(0, .bool)]
def impl_isEnded.X : List ResultVar := [.tmp 2]
noncomputable def impl_isEnded.f (line : ByteArray) : Option (Bool) := Fn impl_isEnded.E impl_isEnded.T impl_isEnded.C impl_isEnded.P impl_isEnded.R impl_isEnded.X line
theorem impl_isEnded.f_eq (line : ByteArray) : impl_isEnded.f line =
  ((strings_HasSuffix.f line (⟨#[10]⟩ : ByteArray)).bind fun y1 =>
  some y1) := by kernel_rfl
noncomputable def impl_isEnded.S : Abs.Sum := ⟨impl_isEnded.P, impl_isEnded.R, fun _ => Fn impl_isEnded.E impl_isEnded.T impl_isEnded.C impl_isEnded.P impl_isEnded.R impl_isEnded.X⟩
theorem impl_isEnded.meets : Meets Tryd.prog 27 impl_isEnded.S := meets_tab (S := impl_isEnded.U) tabOk_all (AllMeets.cons strings_HasSuffix.meets AllMeets.nil) (AllStill.cons (fun _ _ _ => rfl) AllStill.nil) follows (by kernel_rfl : Tryd.prog.funcs[27]? = some Tryd.f27) (by kernel_rfl) (by kernel_rfl) (by kernel_rfl)
noncomputable def impl_goodLines.C : Code := Tryd.f19.body.getD .skip
def impl_goodLines.P : Par := (.cons (.val (.list .str)) .nil)
noncomputable def impl_goodLines.U : SumTab := [(26, [], impl_areLines.S), (27, [], impl_isEnded.S)]
noncomputable def impl_goodLines.E : Env := mkEnv TY AR impl_goodLines.U
def impl_goodLines.D8 : CutD := ⟨[0, 8, 9, 10], (.cons (.val (.list .str)) (.cons (.val (.list .str)) (.cons (.val (.int .i64)) (.cons (.val (.int .i64)) .nil))))⟩
noncomputable def impl_goodLines.T : Tab := fun k => look k [(8, impl_goodLines.D8)]
def impl_goodLines.R : List (Nat × Ty) := [(0, .bool)]
def impl_goodLines.X : List ResultVar := [.tmp 2]
noncomputable def impl_goodLines.K := fin impl_goodLines.E ⟨impl_goodLines.P, impl_goodLines.R, fun _ _ => none⟩ impl_goodLines.X impl_goodLines.P.len 0
noncomputable def impl_goodLines.l8 (l : List ByteArray) (t8 : List ByteArray) (t9 : Int) (t10 : Int) : Option (Bool) := fixP impl_goodLines.E impl_goodLines.T impl_goodLines.C impl_goodLines.K 8 impl_goodLines.D8 (l, t8, t9, t10)
noncomputable def impl_goodLines.f (l : List ByteArray) : Option (Bool) := Fn impl_goodLines.E impl_goodLines.T impl_goodLines.C impl_goodLines.P impl_goodLines.R impl_goodLines.X l
theorem impl_goodLines.l8_eq (l : List ByteArray) (t8 : List ByteArray) (t9 : Int) (t10 : Int) : impl_goodLines.l8 l t8 t9 t10 =
  (bif (decide (t10 < t9)) then (bif ((decide (0 ≤ t10)) && (decide (t10 < (t8.length : Int)))) then (bif (decide (t10 < (w64 ((l.length : Int) - 1)))) then ((impl_isEnded.f (t8.getD (t10).toNat em)).bind fun y1 =>
     bif (!y1) then (some false) else
     (impl_goodLines.l8 l t8 t9 (w64 (t10 + 1)))) else
    (impl_goodLines.l8 l t8 t9 (w64 (t10 + 1)))) else none) else (some true)) :=
  (fixP_eq impl_goodLines.E impl_goodLines.T impl_goodLines.C impl_goodLines.K 8 impl_goodLines.D8 (l, t8, t9, t10)).trans (by kernel_rfl)
theorem impl_goodLines.f_eq (l : List ByteArray) : impl_goodLines.f l =
  ((impl_areLines.f l).bind fun y1 =>
  bif (!y1) then (some false) else
  (impl_goodLines.l8 l l (l.length : Int) 0)) := by kernel_rfl
noncomputable def impl_goodLines.S : Abs.Sum := ⟨impl_goodLines.P, impl_goodLines.R, fun _ => Fn impl_goodLines.E impl_goodLines.T impl_goodLines.C impl_goodLines.P impl_goodLines.R impl_goodLines.X⟩
theorem impl_goodLines.meets : Meets Tryd.prog 19 impl_goodLines.S := meets_tab (S := impl_goodLines.U) tabOk_all (AllMeets.cons impl_areLines.meets (AllMeets.cons impl_isEnded.meets AllMeets.nil)) (AllStill.cons (fun _ _ _ => rfl) (AllStill.cons (fun _ _ _ => rfl) AllStill.nil)) follows (by kernel_rfl : Tryd.prog.funcs[19]? = some Tryd.f19) (by kernel_rfl) (by kernel_rfl) (by kernel_rfl)
noncomputable def impl_goodFiles.C : Code := Tryd.f12.body.getD .skip
def impl_goodFiles.P : Par := (.cons (.val (.list (.pair .str (.one (.list .str))))) .nil)
noncomputable def impl_goodFiles.U : SumTab := [(18, [], impl_isName.S), (19, [], impl_goodLines.S)]
noncomputable def impl_goodFiles.E : Env := mkEnv TY AR impl_goodFiles.U
def impl_goodFiles.D4 : CutD := ⟨[0, 5, 6, 7], (.cons (.val (.list (.pair .str (.one (.list .str))))) (.cons (.val (.list (.pair .str (.one (.list .str))))) (.cons (.val (.int .i64)) (.cons (.val (.int .i64)) .nil))))⟩
noncomputable def impl_goodFiles.T : Tab := fun k => look k [(4, impl_goodFiles.D4)]
def impl_goodFiles.R : List (Nat × Ty) := [(0, .bool)]
def impl_goodFiles.X : List ResultVar := [.tmp 2]
noncomputable def impl_goodFiles.K := fin impl_goodFiles.E ⟨impl_goodFiles.P, impl_goodFiles.R, fun _ _ => none⟩ impl_goodFiles.X impl_goodFiles.P.len 0
noncomputable def impl_goodFiles.l4 (f : List (ByteArray × List ByteArray)) (t5 : List (ByteArray × List ByteArray)) (t6 : Int) (t7 : Int) : Option (Bool) := fixP impl_goodFiles.E impl_goodFiles.T impl_goodFiles.C impl_goodFiles.K 4 impl_goodFiles.D4 (f, t5, t6, t7)
noncomputable def impl_goodFiles.f (f : List (ByteArray × List ByteArray)) : Option (Bool) := Fn impl_goodFiles.E impl_goodFiles.T impl_goodFiles.C impl_goodFiles.P impl_goodFiles.R impl_goodFiles.X f
theorem impl_goodFiles.l4_eq (f : List (ByteArray × List ByteArray)) (t5 : List (ByteArray × List ByteArray)) (t6 : Int) (t7 : Int) : impl_goodFiles.l4 f t5 t6 t7 =
  (bif (decide (t7 < t6)) then (bif ((decide (0 ≤ t7)) && (decide (t7 < (t5.length : Int)))) then ((impl_isName.f (t5.getD (t7).toNat (em, ([] : List ByteArray))).1).bind fun y1 =>
    bif (!y1) then (some false) else
    ((impl_goodLines.f (t5.getD (t7).toNat (em, ([] : List ByteArray))).2).bind fun y2 =>
     bif (!y2) then (some false) else
     (bif (decide (t7 > 0)) then (bif ((decide (0 ≤ (w64 (t7 - 1)))) && (decide ((w64 (t7 - 1)) < (f.length : Int)))) then (bif ((Op.bytesLess (t5.getD (t7).toNat (em, ([] : List ByteArray))).1.toList (f.getD ((w64 (t7 - 1))).toNat (em, ([] : List ByteArray))).1.toList) || ((t5.getD (t7).toNat (em, ([] : List ByteArray))).1.toList == (f.getD ((w64 (t7 - 1))).toNat (em, ([] : List ByteArray))).1.toList)) then (some false) else
        (impl_goodFiles.l4 f t5 t6 (w64 (t7 + 1)))) else none) else
      (impl_goodFiles.l4 f t5 t6 (w64 (t7 + 1)))))) else none) else (some (decide ((f.length : Int) ≤ 8)))) :=
  (fixP_eq impl_goodFiles.E impl_goodFiles.T impl_goodFiles.C impl_goodFiles.K 4 impl_goodFiles.D4 (f, t5, t6, t7)).trans (by kernel_rfl)
theorem impl_goodFiles.f_eq (f : List (ByteArray × List ByteArray)) : impl_goodFiles.f f =
  (impl_goodFiles.l4 f f (f.length : Int) 0) := by kernel_rfl
noncomputable def impl_goodFiles.S : Abs.Sum := ⟨impl_goodFiles.P, impl_goodFiles.R, fun _ => Fn impl_goodFiles.E impl_goodFiles.T impl_goodFiles.C impl_goodFiles.P impl_goodFiles.R impl_goodFiles.X⟩
theorem impl_goodFiles.meets : Meets Tryd.prog 12 impl_goodFiles.S := meets_tab (S := impl_goodFiles.U) tabOk_all (AllMeets.cons impl_isName.meets (AllMeets.cons impl_goodLines.meets AllMeets.nil)) (AllStill.cons (fun _ _ _ => rfl) (AllStill.cons (fun _ _ _ => rfl) AllStill.nil)) follows (by kernel_rfl : Tryd.prog.funcs[12]? = some Tryd.f12) (by kernel_rfl) (by kernel_rfl) (by kernel_rfl)
noncomputable def impl_GoodFiles.C : Code := Tryd.f7.body.getD .skip
def impl_GoodFiles.P : Par := (.cons (.val (.list (.pair .str (.one (.list .str))))) .nil)
noncomputable def impl_GoodFiles.U : SumTab := [(12, [], impl_goodFiles.S)]
noncomputable def impl_GoodFiles.E : Env := mkEnv TY AR impl_GoodFiles.U
noncomputable def impl_GoodFiles.T : Tab := fun k => look k []
def impl_GoodFiles.R : List (Nat × Ty) := [(0, .bool)]
def impl_GoodFiles.X : List ResultVar := [.tmp 2]
noncomputable def impl_GoodFiles.f (f : List (ByteArray × List ByteArray)) : Option (Bool) := Fn impl_GoodFiles.E impl_GoodFiles.T impl_GoodFiles.C impl_GoodFiles.P impl_GoodFiles.R impl_GoodFiles.X f
theorem impl_GoodFiles.f_eq (f : List (ByteArray × List ByteArray)) : impl_GoodFiles.f f =
  ((impl_goodFiles.f f).bind fun y1 =>
  some y1) := by kernel_rfl
noncomputable def impl_GoodFiles.S : Abs.Sum := ⟨impl_GoodFiles.P, impl_GoodFiles.R, fun _ => Fn impl_GoodFiles.E impl_GoodFiles.T impl_GoodFiles.C impl_GoodFiles.P impl_GoodFiles.R impl_GoodFiles.X⟩
theorem impl_GoodFiles.meets : Meets Tryd.prog 7 impl_GoodFiles.S := meets_tab (S := impl_GoodFiles.U) tabOk_all (AllMeets.cons impl_goodFiles.meets AllMeets.nil) (AllStill.cons (fun _ _ _ => rfl) AllStill.nil) follows (by kernel_rfl : Tryd.prog.funcs[7]? = some Tryd.f7) (by kernel_rfl) (by kernel_rfl) (by kernel_rfl)
noncomputable def laws_eqStringS.C : Code := Tryd.f20.body.getD .skip
def laws_eqStringS.P : Par := (.cons (.val (.list .str)) (.cons (.val (.list .str)) .nil))
noncomputable def laws_eqStringS.U : SumTab := []
noncomputable def laws_eqStringS.E : Env := mkEnv TY AR laws_eqStringS.U
def laws_eqStringS.D8 : CutD := ⟨[0, 1, 5], (.cons (.val (.list .str)) (.cons (.val (.list .str)) (.cons (.val (.int .i64)) .nil)))⟩
noncomputable def laws_eqStringS.T : Tab := fun k => look k [(8, laws_eqStringS.D8)]
def laws_eqStringS.R : List (Nat × Ty) := [(0, .bool)]
def laws_eqStringS.X : List ResultVar := [.tmp 4]
noncomputable def laws_eqStringS.K := fin laws_eqStringS.E ⟨laws_eqStringS.P, laws_eqStringS.R, fun _ _ => none⟩ laws_eqStringS.X laws_eqStringS.P.len 0
noncomputable def laws_eqStringS.l8 (a : List ByteArray) (b : List ByteArray) (i : Int) : Option (Bool) := fixP laws_eqStringS.E laws_eqStringS.T laws_eqStringS.C laws_eqStringS.K 8 laws_eqStringS.D8 (a, b, i)
noncomputable def laws_eqStringS.f (a : List ByteArray) (b : List ByteArray) : Option (Bool) := Fn laws_eqStringS.E laws_eqStringS.T laws_eqStringS.C laws_eqStringS.P laws_eqStringS.R laws_eqStringS.X (a, b)
theorem laws_eqStringS.l8_eq (a : List ByteArray) (b : List ByteArray) (i : Int) : laws_eqStringS.l8 a b i =
  (bif (decide (i < (a.length : Int))) then (bif ((decide (0 ≤ i)) && (decide (i < (a.length : Int)))) then (bif ((decide (0 ≤ i)) && (decide (i < (b.length : Int)))) then (bif (!((a.getD (i).toNat em).toList == (b.getD (i).toNat em).toList)) then (some false) else
     (laws_eqStringS.l8 a b (w64 (i + 1)))) else none) else none) else (some true)) :=
  (fixP_eq laws_eqStringS.E laws_eqStringS.T laws_eqStringS.C laws_eqStringS.K 8 laws_eqStringS.D8 (a, b, i)).trans (by kernel_rfl)
theorem laws_eqStringS.f_eq (a : List ByteArray) (b : List ByteArray) : laws_eqStringS.f a b =
  (bif (!(decide ((a.length : Int) = (b.length : Int)))) then (some false) else
  (laws_eqStringS.l8 a b 0)) := by kernel_rfl
noncomputable def laws_eqStringS.S : Abs.Sum := ⟨laws_eqStringS.P, laws_eqStringS.R, fun _ => Fn laws_eqStringS.E laws_eqStringS.T laws_eqStringS.C laws_eqStringS.P laws_eqStringS.R laws_eqStringS.X⟩
theorem laws_eqStringS.meets : Meets Tryd.prog 20 laws_eqStringS.S := meets_tab (S := laws_eqStringS.U) tabOk_all AllMeets.nil AllStill.nil follows (by kernel_rfl : Tryd.prog.funcs[20]? = some Tryd.f20) (by kernel_rfl) (by kernel_rfl) (by kernel_rfl)
noncomputable def laws_eqFile.C : Code := Tryd.f13.body.getD .skip
def laws_eqFile.P : Par := (.cons (.val (.pair .str (.one (.list .str)))) (.cons (.val (.pair .str (.one (.list .str)))) .nil))
noncomputable def laws_eqFile.U : SumTab := [(20, [], laws_eqStringS.S)]
noncomputable def laws_eqFile.E : Env := mkEnv TY AR laws_eqFile.U
noncomputable def laws_eqFile.T : Tab := fun k => look k []
def laws_eqFile.R : List (Nat × Ty) := [(0, .bool)]
def laws_eqFile.X : List ResultVar := [.tmp 4]
noncomputable def laws_eqFile.f (a : ByteArray × List ByteArray) (b : ByteArray × List ByteArray) : Option (Bool) := Fn laws_eqFile.E laws_eqFile.T laws_eqFile.C laws_eqFile.P laws_eqFile.R laws_eqFile.X (a, b)
theorem laws_eqFile.f_eq (a : ByteArray × List ByteArray) (b : ByteArray × List ByteArray) : laws_eqFile.f a b =
  (bif (!(a.1.toList == b.1.toList)) then (some false) else
  ((laws_eqStringS.f a.2 b.2).bind fun y1 =>
   bif (!y1) then (some false) else (some true))) := by kernel_rfl
noncomputable def laws_eqFile.S : Abs.Sum := ⟨laws_eqFile.P, laws_eqFile.R, fun _ => Fn laws_eqFile.E laws_eqFile.T laws_eqFile.C laws_eqFile.P laws_eqFile.R laws_eqFile.X⟩
theorem laws_eqFile.meets : Meets Tryd.prog 13 laws_eqFile.S := meets_tab (S := laws_eqFile.U) tabOk_all (AllMeets.cons laws_eqStringS.meets AllMeets.nil) (AllStill.cons (fun _ _ _ => rfl) AllStill.nil) follows (by kernel_rfl : Tryd.prog.funcs[13]? = some Tryd.f13) (by kernel_rfl) (by kernel_rfl) (by kernel_rfl)
noncomputable def laws_eqFileS.C : Code := Tryd.f8.body.getD .skip
def laws_eqFileS.P : Par := (.cons (.val (.list (.pair .str (.one (.list .str))))) (.cons (.val (.list (.pair .str (.one (.list .str))))) .nil))
noncomputable def laws_eqFileS.U : SumTab := [(13, [], laws_eqFile.S)]
noncomputable def laws_eqFileS.E : Env := mkEnv TY AR laws_eqFileS.U
def laws_eqFileS.D8 : CutD := ⟨[0, 1, 5], (.cons (.val (.list (.pair .str (.one (.list .str))))) (.cons (.val (.list (.pair .str (.one (.list .str))))) (.cons (.val (.int .i64)) .nil)))⟩
noncomputable def laws_eqFileS.T : Tab := fun k => look k [(8, laws_eqFileS.D8)]
def laws_eqFileS.R : List (Nat × Ty) := [(0, .bool)]
def laws_eqFileS.X : List ResultVar := [.tmp 4]
noncomputable def laws_eqFileS.K := fin laws_eqFileS.E ⟨laws_eqFileS.P, laws_eqFileS.R, fun _ _ => none⟩ laws_eqFileS.X laws_eqFileS.P.len 0
noncomputable def laws_eqFileS.l8 (a : List (ByteArray × List ByteArray)) (b : List (ByteArray × List ByteArray)) (i : Int) : Option (Bool) := fixP laws_eqFileS.E laws_eqFileS.T laws_eqFileS.C laws_eqFileS.K 8 laws_eqFileS.D8 (a, b, i)
noncomputable def laws_eqFileS.f (a : List (ByteArray × List ByteArray)) (b : List (ByteArray × List ByteArray)) : Option (Bool) := Fn laws_eqFileS.E laws_eqFileS.T laws_eqFileS.C laws_eqFileS.P laws_eqFileS.R laws_eqFileS.X (a, b)
theorem laws_eqFileS.l8_eq (a : List (ByteArray × List ByteArray)) (b : List (ByteArray × List ByteArray)) (i : Int) : laws_eqFileS.l8 a b i =
  (bif (decide (i < (a.length : Int))) then (bif ((decide (0 ≤ i)) && (decide (i < (a.length : Int)))) then (bif ((decide (0 ≤ i)) && (decide (i < (b.length : Int)))) then ((laws_eqFile.f (a.getD (i).toNat (em, ([] : List ByteArray))) (b.getD (i).toNat (em, ([] : List ByteArray)))).bind fun y1 =>
     bif (!y1) then (some false) else
     (laws_eqFileS.l8 a b (w64 (i + 1)))) else none) else none) else (some true)) :=
  (fixP_eq laws_eqFileS.E laws_eqFileS.T laws_eqFileS.C laws_eqFileS.K 8 laws_eqFileS.D8 (a, b, i)).trans (by kernel_rfl)
theorem laws_eqFileS.f_eq (a : List (ByteArray × List ByteArray)) (b : List (ByteArray × List ByteArray)) : laws_eqFileS.f a b =
  (bif (!(decide ((a.length : Int) = (b.length : Int)))) then (some false) else
  (laws_eqFileS.l8 a b 0)) := by kernel_rfl
noncomputable def laws_eqFileS.S : Abs.Sum := ⟨laws_eqFileS.P, laws_eqFileS.R, fun _ => Fn laws_eqFileS.E laws_eqFileS.T laws_eqFileS.C laws_eqFileS.P laws_eqFileS.R laws_eqFileS.X⟩
theorem laws_eqFileS.meets : Meets Tryd.prog 8 laws_eqFileS.S := meets_tab (S := laws_eqFileS.U) tabOk_all (AllMeets.cons laws_eqFile.meets AllMeets.nil) (AllStill.cons (fun _ _ _ => rfl) AllStill.nil) follows (by kernel_rfl : Tryd.prog.funcs[8]? = some Tryd.f8) (by kernel_rfl) (by kernel_rfl) (by kernel_rfl)
noncomputable def laws_FnExactGoodFiles.C : Code := Tryd.f3.body.getD .skip
def laws_FnExactGoodFiles.P : Par := (.cons (.val (.list (.pair .str (.one (.list .str))))) .nil)
noncomputable def laws_FnExactGoodFiles.U : SumTab := [(4, [], laws_szFileS.S), (6, [], laws_toFileS.S), (5, [], spec_GoodFiles.S), (7, [], impl_GoodFiles.S), (8, [], laws_eqFileS.S)]
noncomputable def laws_FnExactGoodFiles.E : Env := mkEnv TY AR laws_FnExactGoodFiles.U
noncomputable def laws_FnExactGoodFiles.T : Tab := fun k => look k []
def laws_FnExactGoodFiles.R : List (Nat × Ty) := [(0, .bool)]
def laws_FnExactGoodFiles.X : List ResultVar := [.tmp 2]
noncomputable def laws_FnExactGoodFiles.f (aF : List (ByteArray × List ByteArray)) : Option (Bool) := Fn laws_FnExactGoodFiles.E laws_FnExactGoodFiles.T laws_FnExactGoodFiles.C laws_FnExactGoodFiles.P laws_FnExactGoodFiles.R laws_FnExactGoodFiles.X aF
theorem laws_FnExactGoodFiles.f_eq (aF : List (ByteArray × List ByteArray)) : laws_FnExactGoodFiles.f aF =
  ((laws_szFileS.f aF 1048576).bind fun y1 =>
  bif (decide (y1 < 0)) then (some true) else
  ((laws_toFileS.f aF).bind fun y2 =>
   (spec_GoodFiles.f y2).bind fun y3 =>
   (laws_toFileS.f aF).bind fun y4 =>
   (impl_GoodFiles.f y4).bind fun y5 =>
   bif (!(y5 == y3)) then (some false) else
   ((laws_toFileS.f aF).bind fun y6 =>
    (laws_eqFileS.f y4 y6).bind fun y7 =>
    bif (!y7) then (some false) else (some true)))) := by kernel_rfl
noncomputable def laws_FnExactGoodFiles.S : Abs.Sum := ⟨laws_FnExactGoodFiles.P, laws_FnExactGoodFiles.R, fun _ => Fn laws_FnExactGoodFiles.E laws_FnExactGoodFiles.T laws_FnExactGoodFiles.C laws_FnExactGoodFiles.P laws_FnExactGoodFiles.R laws_FnExactGoodFiles.X⟩
theorem laws_FnExactGoodFiles.meets : Meets Tryd.prog 3 laws_FnExactGoodFiles.S := meets_tab (S := laws_FnExactGoodFiles.U) tabOk_all (AllMeets.cons laws_szFileS.meets (AllMeets.cons laws_toFileS.meets (AllMeets.cons spec_GoodFiles.meets (AllMeets.cons impl_GoodFiles.meets (AllMeets.cons laws_eqFileS.meets AllMeets.nil))))) (AllStill.cons (fun _ _ _ => rfl) (AllStill.cons (fun _ _ _ => rfl) (AllStill.cons (fun _ _ _ => rfl) (AllStill.cons (fun _ _ _ => rfl) (AllStill.cons (fun _ _ _ => rfl) AllStill.nil))))) follows (by kernel_rfl : Tryd.prog.funcs[3]? = some Tryd.f3) (by kernel_rfl) (by kernel_rfl) (by kernel_rfl)
end Go.Abs.G
