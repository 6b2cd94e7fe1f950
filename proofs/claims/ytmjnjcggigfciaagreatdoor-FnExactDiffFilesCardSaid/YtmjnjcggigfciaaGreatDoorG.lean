import Derived.Test.YtmjnjcggigfciaaGreatDoorGB
set_option linter.unusedVariables false
set_option linter.unusedSimpArgs false
set_option linter.unusedSectionVars false
namespace Go.Abs.G
open Go Go.Abs Go.Proofs
noncomputable def laws_szStringS.C : Code := Tryz.f105.body.getD .skip
def laws_szStringS.P : Par := (.cons (.val (.list .str)) (.cons (.val (.int .i64)) .nil))
noncomputable def laws_szStringS.U : SumTab := []
noncomputable def laws_szStringS.E : Env := mkEnv TY AR laws_szStringS.U
def laws_szStringS.D10 : CutD := ⟨[0, 1, 5], (.cons (.val (.list .str)) (.cons (.val (.int .i64)) (.cons (.val (.int .i64)) .nil)))⟩
noncomputable def laws_szStringS.T : Tab := fun k => look k [(10, laws_szStringS.D10)]
def laws_szStringS.R : List (Nat × Ty) := [(0, .int .i64)]
def laws_szStringS.X : List ResultVar := [.tmp 4]
noncomputable def laws_szStringS.K := fin laws_szStringS.E ⟨laws_szStringS.P, laws_szStringS.R, fun _ _ => none⟩ laws_szStringS.X laws_szStringS.P.len 0
noncomputable def laws_szStringS.l10 (a : List ByteArray) (left : Int) (i : Int) : Option (Int) := fixP laws_szStringS.E laws_szStringS.T laws_szStringS.C laws_szStringS.K 10 laws_szStringS.D10 (a, left, i)
noncomputable def laws_szStringS.f (a : List ByteArray) (left : Int) : Option (Int) := Fn laws_szStringS.E laws_szStringS.T laws_szStringS.C laws_szStringS.P laws_szStringS.R laws_szStringS.X (a, left)
theorem laws_szStringS.l10_eq (a : List ByteArray) (left : Int) (i : Int) : laws_szStringS.l10 a left i =
  (bif (decide (i < (a.length : Int))) then (bif ((decide (0 ≤ i)) && (decide (i < (a.length : Int)))) then (bif (decide ((w64 (left - ((a.getD (i).toNat em).size : Int))) < 0)) then (some (-1)) else
    (laws_szStringS.l10 a (w64 (left - ((a.getD (i).toNat em).size : Int))) (w64 (i + 1)))) else none) else (some left)) :=
  (fixP_eq laws_szStringS.E laws_szStringS.T laws_szStringS.C laws_szStringS.K 10 laws_szStringS.D10 (a, left, i)).trans (by kernel_rfl)
theorem laws_szStringS.f_eq (a : List ByteArray) (left : Int) : laws_szStringS.f a left =
  (bif (decide ((w64 (left - (a.length : Int))) < 0)) then (some (-1)) else
  (laws_szStringS.l10 a (w64 (left - (a.length : Int))) 0)) := by kernel_rfl
noncomputable def laws_szStringS.S : Abs.Sum := ⟨laws_szStringS.P, laws_szStringS.R, fun _ => Fn laws_szStringS.E laws_szStringS.T laws_szStringS.C laws_szStringS.P laws_szStringS.R laws_szStringS.X⟩
theorem laws_szStringS.meets : Meets Tryz.prog 105 laws_szStringS.S := meets_tab (S := laws_szStringS.U) tabOk_all AllMeets.nil AllStill.nil follows (by kernel_rfl : Tryz.prog.funcs[105]? = some Tryz.f105) (by kernel_rfl) (by kernel_rfl) (by kernel_rfl)
noncomputable def laws_szFile.C : Code := Tryz.f42.body.getD .skip
def laws_szFile.P : Par := (.cons (.val (.pair .str (.one (.list .str)))) (.cons (.val (.int .i64)) .nil))
noncomputable def laws_szFile.U : SumTab := [(105, [], laws_szStringS.S)]
noncomputable def laws_szFile.E : Env := mkEnv TY AR laws_szFile.U
noncomputable def laws_szFile.T : Tab := fun k => look k []
def laws_szFile.R : List (Nat × Ty) := [(0, .int .i64)]
def laws_szFile.X : List ResultVar := [.tmp 4]
noncomputable def laws_szFile.f (a : ByteArray × List ByteArray) (left : Int) : Option (Int) := Fn laws_szFile.E laws_szFile.T laws_szFile.C laws_szFile.P laws_szFile.R laws_szFile.X (a, left)
theorem laws_szFile.f_eq (a : ByteArray × List ByteArray) (left : Int) : laws_szFile.f a left =
  (bif (decide ((w64 (left - (a.1.size : Int))) < 0)) then (some (-1)) else
  ((laws_szStringS.f a.2 (w64 (left - (a.1.size : Int)))).bind fun y1 =>
   bif (decide (y1 < 0)) then (some (-1)) else (some y1))) := by kernel_rfl
noncomputable def laws_szFile.S : Abs.Sum := ⟨laws_szFile.P, laws_szFile.R, fun _ => Fn laws_szFile.E laws_szFile.T laws_szFile.C laws_szFile.P laws_szFile.R laws_szFile.X⟩
theorem laws_szFile.meets : Meets Tryz.prog 42 laws_szFile.S := meets_tab (S := laws_szFile.U) tabOk_all (AllMeets.cons laws_szStringS.meets AllMeets.nil) (AllStill.cons (fun _ _ _ => rfl) AllStill.nil) follows (by kernel_rfl : Tryz.prog.funcs[42]? = some Tryz.f42) (by kernel_rfl) (by kernel_rfl) (by kernel_rfl)
noncomputable def laws_szFileS.C : Code := Tryz.f8.body.getD .skip
def laws_szFileS.P : Par := (.cons (.val (.list (.pair .str (.one (.list .str))))) (.cons (.val (.int .i64)) .nil))
noncomputable def laws_szFileS.U : SumTab := [(42, [], laws_szFile.S)]
noncomputable def laws_szFileS.E : Env := mkEnv TY AR laws_szFileS.U
def laws_szFileS.D10 : CutD := ⟨[0, 1, 5], (.cons (.val (.list (.pair .str (.one (.list .str))))) (.cons (.val (.int .i64)) (.cons (.val (.int .i64)) .nil)))⟩
noncomputable def laws_szFileS.T : Tab := fun k => look k [(10, laws_szFileS.D10)]
def laws_szFileS.R : List (Nat × Ty) := [(0, .int .i64)]
def laws_szFileS.X : List ResultVar := [.tmp 4]
noncomputable def laws_szFileS.K := fin laws_szFileS.E ⟨laws_szFileS.P, laws_szFileS.R, fun _ _ => none⟩ laws_szFileS.X laws_szFileS.P.len 0
noncomputable def laws_szFileS.l10 (a : List (ByteArray × List ByteArray)) (left : Int) (i : Int) : Option (Int) := fixP laws_szFileS.E laws_szFileS.T laws_szFileS.C laws_szFileS.K 10 laws_szFileS.D10 (a, left, i)
noncomputable def laws_szFileS.f (a : List (ByteArray × List ByteArray)) (left : Int) : Option (Int) := Fn laws_szFileS.E laws_szFileS.T laws_szFileS.C laws_szFileS.P laws_szFileS.R laws_szFileS.X (a, left)
theorem laws_szFileS.l10_eq (a : List (ByteArray × List ByteArray)) (left : Int) (i : Int) : laws_szFileS.l10 a left i =
  (bif (decide (i < (a.length : Int))) then (bif ((decide (0 ≤ i)) && (decide (i < (a.length : Int)))) then ((laws_szFile.f (a.getD (i).toNat (em, ([] : List ByteArray))) left).bind fun y1 =>
    bif (decide (y1 < 0)) then (some (-1)) else
    (laws_szFileS.l10 a y1 (w64 (i + 1)))) else none) else (some left)) :=
  (fixP_eq laws_szFileS.E laws_szFileS.T laws_szFileS.C laws_szFileS.K 10 laws_szFileS.D10 (a, left, i)).trans (by kernel_rfl)
theorem laws_szFileS.f_eq (a : List (ByteArray × List ByteArray)) (left : Int) : laws_szFileS.f a left =
  (bif (decide ((w64 (left - (a.length : Int))) < 0)) then (some (-1)) else
  (laws_szFileS.l10 a (w64 (left - (a.length : Int))) 0)) := by kernel_rfl
noncomputable def laws_szFileS.S : Abs.Sum := ⟨laws_szFileS.P, laws_szFileS.R, fun _ => Fn laws_szFileS.E laws_szFileS.T laws_szFileS.C laws_szFileS.P laws_szFileS.R laws_szFileS.X⟩
theorem laws_szFileS.meets : Meets Tryz.prog 8 laws_szFileS.S := meets_tab (S := laws_szFileS.U) tabOk_all (AllMeets.cons laws_szFile.meets AllMeets.nil) (AllStill.cons (fun _ _ _ => rfl) AllStill.nil) follows (by kernel_rfl : Tryz.prog.funcs[8]? = some Tryz.f8) (by kernel_rfl) (by kernel_rfl) (by kernel_rfl)
noncomputable def laws_toStringS.C : Code := Tryz.f111.body.getD .skip
def laws_toStringS.P : Par := (.cons (.val (.list .str)) .nil)
noncomputable def laws_toStringS.U : SumTab := []
noncomputable def laws_toStringS.E : Env := mkEnv TY AR laws_toStringS.U
def laws_toStringS.D6 : CutD := ⟨[0, 3, 4], (.cons (.val (.list .str)) (.cons (.own 9 .str) (.cons (.val (.int .i64)) .nil)))⟩
noncomputable def laws_toStringS.T : Tab := fun k => look k [(6, laws_toStringS.D6)]
def laws_toStringS.R : List (Nat × Ty) := [(9, .list .str)]
def laws_toStringS.X : List ResultVar := [.tmp 2]
noncomputable def laws_toStringS.K := fin laws_toStringS.E ⟨laws_toStringS.P, laws_toStringS.R, fun _ _ => none⟩ laws_toStringS.X laws_toStringS.P.len 0
noncomputable def laws_toStringS.l6 (a : List ByteArray) (out : List ByteArray) (i : Int) : Option ((List ByteArray)) := fixP laws_toStringS.E laws_toStringS.T laws_toStringS.C laws_toStringS.K 6 laws_toStringS.D6 (a, out, i)
noncomputable def laws_toStringS.f (a : List ByteArray) : Option ((List ByteArray)) := Fn laws_toStringS.E laws_toStringS.T laws_toStringS.C laws_toStringS.P laws_toStringS.R laws_toStringS.X a
theorem laws_toStringS.l6_eq (a : List ByteArray) (out : List ByteArray) (i : Int) : laws_toStringS.l6 a out i =
  (bif (decide (i < (a.length : Int))) then (bif ((decide (0 ≤ i)) && (decide (i < (a.length : Int)))) then (bif ((decide (0 ≤ i)) && (decide (i < (out.length : Int)))) then (laws_toStringS.l6 a (out.set (i).toNat (a.getD (i).toNat em)) (w64 (i + 1))) else none) else none) else (some out)) :=
  (fixP_eq laws_toStringS.E laws_toStringS.T laws_toStringS.C laws_toStringS.K 6 laws_toStringS.D6 (a, out, i)).trans (by kernel_rfl)
theorem laws_toStringS.f_eq (a : List ByteArray) : laws_toStringS.f a =
  (bif ((decide (0 ≤ (a.length : Int))) && (decide (((a.length : Int)).toNat ≤ room 16))) then (laws_toStringS.l6 a (List.replicate ((a.length : Int)).toNat em) 0) else none) := by kernel_rfl
noncomputable def laws_toStringS.S : Abs.Sum := ⟨laws_toStringS.P, laws_toStringS.R, fun _ => Fn laws_toStringS.E laws_toStringS.T laws_toStringS.C laws_toStringS.P laws_toStringS.R laws_toStringS.X⟩
theorem laws_toStringS.meets : Meets Tryz.prog 111 laws_toStringS.S := meets_tab (S := laws_toStringS.U) tabOk_all AllMeets.nil AllStill.nil follows (by kernel_rfl : Tryz.prog.funcs[111]? = some Tryz.f111) (by kernel_rfl) (by kernel_rfl) (by kernel_rfl)
noncomputable def laws_toFile.C : Code := Tryz.f49.body.getD .skip
def laws_toFile.P : Par := (.cons (.val (.pair .str (.one (.list .str)))) .nil)
noncomputable def laws_toFile.U : SumTab := [(111, [], laws_toStringS.S)]
noncomputable def laws_toFile.E : Env := mkEnv TY AR laws_toFile.U
noncomputable def laws_toFile.T : Tab := fun k => look k []
def laws_toFile.R : List (Nat × Ty) := [(9, .pair .str (.one (.list .str)))]
def laws_toFile.X : List ResultVar := [.cell 2 62]
noncomputable def laws_toFile.f (a : ByteArray × List ByteArray) : Option ((ByteArray × List ByteArray)) := Fn laws_toFile.E laws_toFile.T laws_toFile.C laws_toFile.P laws_toFile.R laws_toFile.X a
theorem laws_toFile.f_eq (a : ByteArray × List ByteArray) : laws_toFile.f a =
  ((laws_toStringS.f a.2).bind fun y1 =>
  some (a.1, y1)) := by kernel_rfl
noncomputable def laws_toFile.S : Abs.Sum := ⟨laws_toFile.P, laws_toFile.R, fun _ => Fn laws_toFile.E laws_toFile.T laws_toFile.C laws_toFile.P laws_toFile.R laws_toFile.X⟩
theorem laws_toFile.meets : Meets Tryz.prog 49 laws_toFile.S := meets_tab (S := laws_toFile.U) tabOk_all (AllMeets.cons laws_toStringS.meets AllMeets.nil) (AllStill.cons (fun _ _ _ => rfl) AllStill.nil) follows (by kernel_rfl : Tryz.prog.funcs[49]? = some Tryz.f49) (by kernel_rfl) (by kernel_rfl) (by kernel_rfl)
noncomputable def laws_toFileS.C : Code := Tryz.f10.body.getD .skip
def laws_toFileS.P : Par := (.cons (.val (.list (.pair .str (.one (.list .str))))) .nil)
noncomputable def laws_toFileS.U : SumTab := [(49, [], laws_toFile.S)]
noncomputable def laws_toFileS.E : Env := mkEnv TY AR laws_toFileS.U
def laws_toFileS.D6 : CutD := ⟨[0, 3, 4], (.cons (.val (.list (.pair .str (.one (.list .str))))) (.cons (.own 9 (.pair .str (.one (.list .str)))) (.cons (.val (.int .i64)) .nil)))⟩
noncomputable def laws_toFileS.T : Tab := fun k => look k [(6, laws_toFileS.D6)]
def laws_toFileS.R : List (Nat × Ty) := [(9, .list (.pair .str (.one (.list .str))))]
def laws_toFileS.X : List ResultVar := [.tmp 2]
noncomputable def laws_toFileS.K := fin laws_toFileS.E ⟨laws_toFileS.P, laws_toFileS.R, fun _ _ => none⟩ laws_toFileS.X laws_toFileS.P.len 0
noncomputable def laws_toFileS.l6 (a : List (ByteArray × List ByteArray)) (out : List (ByteArray × List ByteArray)) (i : Int) : Option ((List (ByteArray × List ByteArray))) := fixP laws_toFileS.E laws_toFileS.T laws_toFileS.C laws_toFileS.K 6 laws_toFileS.D6 (a, out, i)
noncomputable def laws_toFileS.f (a : List (ByteArray × List ByteArray)) : Option ((List (ByteArray × List ByteArray))) := Fn laws_toFileS.E laws_toFileS.T laws_toFileS.C laws_toFileS.P laws_toFileS.R laws_toFileS.X a
theorem laws_toFileS.l6_eq (a : List (ByteArray × List ByteArray)) (out : List (ByteArray × List ByteArray)) (i : Int) : laws_toFileS.l6 a out i =
  (bif (decide (i < (a.length : Int))) then (bif ((decide (0 ≤ i)) && (decide (i < (a.length : Int)))) then ((laws_toFile.f (a.getD (i).toNat (em, ([] : List ByteArray)))).bind fun y1 =>
    bif ((decide (0 ≤ i)) && (decide (i < (out.length : Int)))) then (laws_toFileS.l6 a (out.set (i).toNat (y1.1, y1.2)) (w64 (i + 1))) else none) else none) else (some out)) :=
  (fixP_eq laws_toFileS.E laws_toFileS.T laws_toFileS.C laws_toFileS.K 6 laws_toFileS.D6 (a, out, i)).trans (by kernel_rfl)
theorem laws_toFileS.f_eq (a : List (ByteArray × List ByteArray)) : laws_toFileS.f a =
  (bif ((decide (0 ≤ (a.length : Int))) && (decide (((a.length : Int)).toNat ≤ room 40))) then (laws_toFileS.l6 a (List.replicate ((a.length : Int)).toNat (em, ([] : List ByteArray))) 0) else none) := by kernel_rfl
noncomputable def laws_toFileS.S : Abs.Sum := ⟨laws_toFileS.P, laws_toFileS.R, fun _ => Fn laws_toFileS.E laws_toFileS.T laws_toFileS.C laws_toFileS.P laws_toFileS.R laws_toFileS.X⟩
theorem laws_toFileS.meets : Meets Tryz.prog 10 laws_toFileS.S := meets_tab (S := laws_toFileS.U) tabOk_all (AllMeets.cons laws_toFile.meets AllMeets.nil) (AllStill.cons (fun _ _ _ => rfl) AllStill.nil) follows (by kernel_rfl : Tryz.prog.funcs[10]? = some Tryz.f10) (by kernel_rfl) (by kernel_rfl) (by kernel_rfl)
noncomputable def spec_l1In.C : Code := Tryz.f44.body.getD .skip
def spec_l1In.P : Par := (.cons (.val (.int .i64)) (.cons (.val (.int .i64)) (.cons (.val (.int .i64)) .nil)))
noncomputable def spec_l1In.U : SumTab := []
noncomputable def spec_l1In.E : Env := mkEnv TY AR spec_l1In.U
noncomputable def spec_l1In.T : Tab := fun k => look k []
def spec_l1In.R : List (Nat × Ty) := [(0, .bool)]
def spec_l1In.X : List ResultVar := [.tmp 6]
noncomputable def spec_l1In.f (n : Int) (lo : Int) (hi : Int) : Option (Bool) := Fn spec_l1In.E spec_l1In.T spec_l1In.C spec_l1In.P spec_l1In.R spec_l1In.X (n, lo, hi)
theorem spec_l1In.f_eq (n : Int) (lo : Int) (hi : Int) : spec_l1In.f n lo hi =
  (bif (decide (n ≥ lo)) then (some (decide (n ≤ hi))) else (some false)) := by kernel_rfl
noncomputable def spec_l1In.S : Abs.Sum := ⟨spec_l1In.P, spec_l1In.R, fun _ => Fn spec_l1In.E spec_l1In.T spec_l1In.C spec_l1In.P spec_l1In.R spec_l1In.X⟩
theorem spec_l1In.meets : Meets Tryz.prog 44 spec_l1In.S := meets_tab (S := spec_l1In.U) tabOk_all AllMeets.nil AllStill.nil follows (by kernel_rfl : Tryz.prog.funcs[44]? = some Tryz.f44) (by kernel_rfl) (by kernel_rfl) (by kernel_rfl)
noncomputable def spec_l15Name.C : Code := Tryz.f106.body.getD .skip
def spec_l15Name.P : Par := (.cons (.val .str) .nil)
noncomputable def spec_l15Name.U : SumTab := [(44, [], spec_l1In.S)]
noncomputable def spec_l15Name.E : Env := mkEnv TY AR spec_l15Name.U
def spec_l15Name.D4 : CutD := ⟨[0, 3], (.cons (.val .str) (.cons (.val (.int .i64)) .nil))⟩
def spec_l15Name.D7 : CutD := ⟨[0, 3], (.cons (.val .str) (.cons (.val (.int .i64)) .nil))⟩
noncomputable def spec_l15Name.T : Tab := fun k => look k [(4, spec_l15Name.D4), (7, spec_l15Name.D7)]
def spec_l15Name.R : List (Nat × Ty) := [(0, .bool)]
def spec_l15Name.X : List ResultVar := [.tmp 2]
noncomputable def spec_l15Name.K := fin spec_l15Name.E ⟨spec_l15Name.P, spec_l15Name.R, fun _ _ => none⟩ spec_l15Name.X spec_l15Name.P.len 0
noncomputable def spec_l15Name.l4 (s : ByteArray) (i : Int) : Option (Bool) := fixP spec_l15Name.E spec_l15Name.T spec_l15Name.C spec_l15Name.K 4 spec_l15Name.D4 (s, i)
noncomputable def spec_l15Name.l7 (s : ByteArray) (i : Int) : Option (Bool) := fixP spec_l15Name.E spec_l15Name.T spec_l15Name.C spec_l15Name.K 7 spec_l15Name.D7 (s, i)
noncomputable def spec_l15Name.f (s : ByteArray) : Option (Bool) := Fn spec_l15Name.E spec_l15Name.T spec_l15Name.C spec_l15Name.P spec_l15Name.R spec_l15Name.X s
theorem spec_l15Name.l4_eq (s : ByteArray) (i : Int) : spec_l15Name.l4 s i =
  (bif (decide (i < (s.size : Int))) then (bif ((decide (0 ≤ i)) && (decide (i < (s.size : Int)))) then (bif (decide ((bt s i) < 97)) then (bif (decide ((bt s i) < 48)) then (bif (!(decide ((bt s i) = 46))) then (bif (!(decide ((bt s i) = 47))) then (some false) else
       (spec_l15Name.l7 s i)) else
      (spec_l15Name.l7 s i)) else
     (bif (decide ((bt s i) > 57)) then (bif (!(decide ((bt s i) = 46))) then (bif (!(decide ((bt s i) = 47))) then (some false) else
        (spec_l15Name.l7 s i)) else
       (spec_l15Name.l7 s i)) else
      (spec_l15Name.l7 s i))) else
    (bif (decide ((bt s i) > 122)) then (bif (decide ((bt s i) < 48)) then (bif (!(decide ((bt s i) = 46))) then (bif (!(decide ((bt s i) = 47))) then (some false) else
        (spec_l15Name.l7 s i)) else
       (spec_l15Name.l7 s i)) else
      (bif (decide ((bt s i) > 57)) then (bif (!(decide ((bt s i) = 46))) then (bif (!(decide ((bt s i) = 47))) then (some false) else
         (spec_l15Name.l7 s i)) else
        (spec_l15Name.l7 s i)) else
       (spec_l15Name.l7 s i))) else
     (spec_l15Name.l7 s i))) else none) else
  ((spec_l1In.f (s.size : Int) 1 12).bind fun y1 =>
   some y1)) :=
  (fixP_eq spec_l15Name.E spec_l15Name.T spec_l15Name.C spec_l15Name.K 4 spec_l15Name.D4 (s, i)).trans (by kernel_rfl)
theorem spec_l15Name.l7_eq (s : ByteArray) (i : Int) : spec_l15Name.l7 s i =
  (spec_l15Name.l4 s (w64 (i + 1))) :=
  (fixP_eq spec_l15Name.E spec_l15Name.T spec_l15Name.C spec_l15Name.K 7 spec_l15Name.D7 (s, i)).trans (by kernel_rfl)
theorem spec_l15Name.f_eq (s : ByteArray) : spec_l15Name.f s =
  (spec_l15Name.l4 s 0) := by kernel_rfl
noncomputable def spec_l15Name.S : Abs.Sum := ⟨spec_l15Name.P, spec_l15Name.R, fun _ => Fn spec_l15Name.E spec_l15Name.T spec_l15Name.C spec_l15Name.P spec_l15Name.R spec_l15Name.X⟩
theorem spec_l15Name.meets : Meets Tryz.prog 106 spec_l15Name.S := meets_tab (S := spec_l15Name.U) tabOk_all (AllMeets.cons spec_l1In.meets AllMeets.nil) (AllStill.cons (fun _ _ _ => rfl) AllStill.nil) follows (by kernel_rfl : Tryz.prog.funcs[106]? = some Tryz.f106) (by kernel_rfl) (by kernel_rfl) (by kernel_rfl)
noncomputable def spec_l1Line.C : Code := Tryz.f171.body.getD .skip
def spec_l1Line.P : Par := (.cons (.val .str) .nil)
noncomputable def spec_l1Line.U : SumTab := [(44, [], spec_l1In.S)]
noncomputable def spec_l1Line.E : Env := mkEnv TY AR spec_l1Line.U
def spec_l1Line.D4 : CutD := ⟨[0, 3], (.cons (.val .str) (.cons (.val (.int .i64)) .nil))⟩
noncomputable def spec_l1Line.T : Tab := fun k => look k [(4, spec_l1Line.D4)]
def spec_l1Line.R : List (Nat × Ty) := [(0, .bool)]
def spec_l1Line.X : List ResultVar := [.tmp 2]
noncomputable def spec_l1Line.K := fin spec_l1Line.E ⟨spec_l1Line.P, spec_l1Line.R, fun _ _ => none⟩ spec_l1Line.X spec_l1Line.P.len 0
noncomputable def spec_l1Line.l4 (s : ByteArray) (i : Int) : Option (Bool) := fixP spec_l1Line.E spec_l1Line.T spec_l1Line.C spec_l1Line.K 4 spec_l1Line.D4 (s, i)
noncomputable def spec_l1Line.f (s : ByteArray) : Option (Bool) := Fn spec_l1Line.E spec_l1Line.T spec_l1Line.C spec_l1Line.P spec_l1Line.R spec_l1Line.X s
theorem spec_l1Line.l4_eq (s : ByteArray) (i : Int) : spec_l1Line.l4 s i =
  (bif (decide (i < (w64 ((s.size : Int) - 1)))) then (bif ((decide (0 ≤ i)) && (decide (i < (s.size : Int)))) then (bif (decide ((bt s i) = 10)) then (some false) else
    (spec_l1Line.l4 s (w64 (i + 1)))) else none) else
  ((spec_l1In.f (s.size : Int) 1 30).bind fun y1 =>
   some y1)) :=
  (fixP_eq spec_l1Line.E spec_l1Line.T spec_l1Line.C spec_l1Line.K 4 spec_l1Line.D4 (s, i)).trans (by kernel_rfl)
theorem spec_l1Line.f_eq (s : ByteArray) : spec_l1Line.f s =
  (spec_l1Line.l4 s 0) := by kernel_rfl
noncomputable def spec_l1Line.S : Abs.Sum := ⟨spec_l1Line.P, spec_l1Line.R, fun _ => Fn spec_l1Line.E spec_l1Line.T spec_l1Line.C spec_l1Line.P spec_l1Line.R spec_l1Line.X⟩
theorem spec_l1Line.meets : Meets Tryz.prog 171 spec_l1Line.S := meets_tab (S := spec_l1Line.U) tabOk_all (AllMeets.cons spec_l1In.meets AllMeets.nil) (AllStill.cons (fun _ _ _ => rfl) AllStill.nil) follows (by kernel_rfl : Tryz.prog.funcs[171]? = some Tryz.f171) (by kernel_rfl) (by kernel_rfl) (by kernel_rfl)
noncomputable def spec_l1Ends.C : Code := Tryz.f139.body.getD .skip
def spec_l1Ends.P : Par := (.cons (.val .str) .nil)
noncomputable def spec_l1Ends.U : SumTab := []
noncomputable def spec_l1Ends.E : Env := mkEnv TY AR spec_l1Ends.U
noncomputable def spec_l1Ends.T : Tab := fun k => look k []
def spec_l1Ends.R : List (Nat × Ty) := [(0, .bool)]
def spec_l1Ends.X : List ResultVar := [.tmp 2]
noncomputable def spec_l1Ends.f (s : ByteArray) : Option (Bool) := Fn spec_l1Ends.E spec_l1Ends.T spec_l1Ends.C spec_l1Ends.P spec_l1Ends.R spec_l1Ends.X s
theorem spec_l1Ends.f_eq (s : ByteArray) : spec_l1Ends.f s =
  (bif ((decide (0 ≤ (w64 ((s.size : Int) - 1)))) && (decide ((w64 ((s.size : Int) - 1)) < (s.size : Int)))) then (some (decide ((bt s (w64 ((s.size : Int) - 1))) = 10))) else none) := by kernel_rfl
noncomputable def spec_l1Ends.S : Abs.Sum := ⟨spec_l1Ends.P, spec_l1Ends.R, fun _ => Fn spec_l1Ends.E spec_l1Ends.T spec_l1Ends.C spec_l1Ends.P spec_l1Ends.R spec_l1Ends.X⟩
theorem spec_l1Ends.meets : Meets Tryz.prog 139 spec_l1Ends.S := meets_tab (S := spec_l1Ends.U) tabOk_all AllMeets.nil AllStill.nil follows (by kernel_rfl : Tryz.prog.funcs[139]? = some Tryz.f139) (by kernel_rfl) (by kernel_rfl) (by kernel_rfl)
noncomputable def spec_l1Good.C : Code := Tryz.f107.body.getD .skip
def spec_l1Good.P : Par := (.cons (.val (.list .str)) .nil)
noncomputable def spec_l1Good.U : SumTab := [(171, [], spec_l1Line.S), (139, [], spec_l1Ends.S)]
noncomputable def spec_l1Good.E : Env := mkEnv TY AR spec_l1Good.U
def spec_l1Good.D4 : CutD := ⟨[0, 5, 6, 7], (.cons (.val (.list .str)) (.cons (.val (.list .str)) (.cons (.val (.int .i64)) (.cons (.val (.int .i64)) .nil))))⟩
noncomputable def spec_l1Good.T : Tab := fun k => look k [(4, spec_l1Good.D4)]
def spec_l1Good.R : List (Nat × Ty) := [(0, .bool)]
def spec_l1Good.X : List ResultVar := [.tmp 2]
noncomputable def spec_l1Good.K := fin spec_l1Good.E ⟨spec_l1Good.P, spec_l1Good.R, fun _ _ => none⟩ spec_l1Good.X spec_l1Good.P.len 0
noncomputable def spec_l1Good.l4 (l : List ByteArray) (t5 : List ByteArray) (t6 : Int) (t7 : Int) : Option (Bool) := fixP spec_l1Good.E spec_l1Good.T spec_l1Good.C spec_l1Good.K 4 spec_l1Good.D4 (l, t5, t6, t7)
noncomputable def spec_l1Good.f (l : List ByteArray) : Option (Bool) := Fn spec_l1Good.E spec_l1Good.T spec_l1Good.C spec_l1Good.P spec_l1Good.R spec_l1Good.X l
theorem spec_l1Good.l4_eq (l : List ByteArray) (t5 : List ByteArray) (t6 : Int) (t7 : Int) : spec_l1Good.l4 l t5 t6 t7 =
  (bif (decide (t7 < t6)) then (bif ((decide (0 ≤ t7)) && (decide (t7 < (t5.length : Int)))) then ((spec_l1Line.f (t5.getD (t7).toNat em)).bind fun y1 =>
    bif (!y1) then (some false) else
    (bif (decide (t7 < (w64 ((l.length : Int) - 1)))) then ((spec_l1Ends.f (t5.getD (t7).toNat em)).bind fun y2 =>
      bif (!y2) then (some false) else
      (spec_l1Good.l4 l t5 t6 (w64 (t7 + 1)))) else
     (spec_l1Good.l4 l t5 t6 (w64 (t7 + 1))))) else none) else (some (decide ((l.length : Int) ≤ 40)))) :=
  (fixP_eq spec_l1Good.E spec_l1Good.T spec_l1Good.C spec_l1Good.K 4 spec_l1Good.D4 (l, t5, t6, t7)).trans (by kernel_rfl)
theorem spec_l1Good.f_eq (l : List ByteArray) : spec_l1Good.f l =
  (spec_l1Good.l4 l l (l.length : Int) 0) := by kernel_rfl
noncomputable def spec_l1Good.S : Abs.Sum := ⟨spec_l1Good.P, spec_l1Good.R, fun _ => Fn spec_l1Good.E spec_l1Good.T spec_l1Good.C spec_l1Good.P spec_l1Good.R spec_l1Good.X⟩
theorem spec_l1Good.meets : Meets Tryz.prog 107 spec_l1Good.S := meets_tab (S := spec_l1Good.U) tabOk_all (AllMeets.cons spec_l1Line.meets (AllMeets.cons spec_l1Ends.meets AllMeets.nil)) (AllStill.cons (fun _ _ _ => rfl) (AllStill.cons (fun _ _ _ => rfl) AllStill.nil)) follows (by kernel_rfl : Tryz.prog.funcs[107]? = some Tryz.f107) (by kernel_rfl) (by kernel_rfl) (by kernel_rfl)
noncomputable def spec_l15Files.C : Code := Tryz.f43.body.getD .skip
def spec_l15Files.P : Par := (.cons (.val (.list (.pair .str (.one (.list .str))))) .nil)
noncomputable def spec_l15Files.U : SumTab := [(106, [], spec_l15Name.S), (107, [], spec_l1Good.S)]
noncomputable def spec_l15Files.E : Env := mkEnv TY AR spec_l15Files.U
def spec_l15Files.D4 : CutD := ⟨[0, 5, 6, 7], (.cons (.val (.list (.pair .str (.one (.list .str))))) (.cons (.val (.list (.pair .str (.one (.list .str))))) (.cons (.val (.int .i64)) (.cons (.val (.int .i64)) .nil))))⟩
noncomputable def spec_l15Files.T : Tab := fun k => look k [(4, spec_l15Files.D4)]
def spec_l15Files.R : List (Nat × Ty) := [(0, .bool)]
def spec_l15Files.X : List ResultVar := [.tmp 2]
noncomputable def spec_l15Files.K := fin spec_l15Files.E ⟨spec_l15Files.P, spec_l15Files.R, fun _ _ => none⟩ spec_l15Files.X spec_l15Files.P.len 0
noncomputable def spec_l15Files.l4 (f : List (ByteArray × List ByteArray)) (t5 : List (ByteArray × List ByteArray)) (t6 : Int) (t7 : Int) : Option (Bool) := fixP spec_l15Files.E spec_l15Files.T spec_l15Files.C spec_l15Files.K 4 spec_l15Files.D4 (f, t5, t6, t7)
noncomputable def spec_l15Files.f (f : List (ByteArray × List ByteArray)) : Option (Bool) := Fn spec_l15Files.E spec_l15Files.T spec_l15Files.C spec_l15Files.P spec_l15Files.R spec_l15Files.X f
theorem spec_l15Files.l4_eq (f : List (ByteArray × List ByteArray)) (t5 : List (ByteArray × List ByteArray)) (t6 : Int) (t7 : Int) : spec_l15Files.l4 f t5 t6 t7 =
  (bif (decide (t7 < t6)) then (bif ((decide (0 ≤ t7)) && (decide (t7 < (t5.length : Int)))) then ((spec_l15Name.f (t5.getD (t7).toNat (em, ([] : List ByteArray))).1).bind fun y1 =>
    bif (!y1) then (some false) else
    ((spec_l1Good.f (t5.getD (t7).toNat (em, ([] : List ByteArray))).2).bind fun y2 =>
     bif (!y2) then (some false) else
     (bif (decide (t7 > 0)) then (bif ((decide (0 ≤ (w64 (t7 - 1)))) && (decide ((w64 (t7 - 1)) < (f.length : Int)))) then (bif (!(Op.bytesLess (f.getD ((w64 (t7 - 1))).toNat (em, ([] : List ByteArray))).1.toList (t5.getD (t7).toNat (em, ([] : List ByteArray))).1.toList)) then (some false) else
        (spec_l15Files.l4 f t5 t6 (w64 (t7 + 1)))) else none) else
      (spec_l15Files.l4 f t5 t6 (w64 (t7 + 1)))))) else none) else (some (decide ((f.length : Int) ≤ 8)))) :=
  (fixP_eq spec_l15Files.E spec_l15Files.T spec_l15Files.C spec_l15Files.K 4 spec_l15Files.D4 (f, t5, t6, t7)).trans (by kernel_rfl)
theorem spec_l15Files.f_eq (f : List (ByteArray × List ByteArray)) : spec_l15Files.f f =
  (spec_l15Files.l4 f f (f.length : Int) 0) := by kernel_rfl
noncomputable def spec_l15Files.S : Abs.Sum := ⟨spec_l15Files.P, spec_l15Files.R, fun _ => Fn spec_l15Files.E spec_l15Files.T spec_l15Files.C spec_l15Files.P spec_l15Files.R spec_l15Files.X⟩
theorem spec_l15Files.meets : Meets Tryz.prog 43 spec_l15Files.S := meets_tab (S := spec_l15Files.U) tabOk_all (AllMeets.cons spec_l15Name.meets (AllMeets.cons spec_l1Good.meets AllMeets.nil)) (AllStill.cons (fun _ _ _ => rfl) (AllStill.cons (fun _ _ _ => rfl) AllStill.nil)) follows (by kernel_rfl : Tryz.prog.funcs[43]? = some Tryz.f43) (by kernel_rfl) (by kernel_rfl) (by kernel_rfl)
noncomputable def spec_l15At.C : Code := Tryz.f45.body.getD .skip
def spec_l15At.P : Par := (.cons (.val (.list (.pair .str (.one (.list .str))))) (.cons (.val .str) .nil))
noncomputable def spec_l15At.U : SumTab := []
noncomputable def spec_l15At.E : Env := mkEnv TY AR spec_l15At.U
def spec_l15At.D4 : CutD := ⟨[1, 7, 8, 9], (.cons (.val .str) (.cons (.val (.list (.pair .str (.one (.list .str))))) (.cons (.val (.int .i64)) (.cons (.val (.int .i64)) .nil))))⟩
noncomputable def spec_l15At.T : Tab := fun k => look k [(4, spec_l15At.D4)]
def spec_l15At.R : List (Nat × Ty) := [(0, .int .i64)]
def spec_l15At.X : List ResultVar := [.tmp 4]
noncomputable def spec_l15At.K := fin spec_l15At.E ⟨spec_l15At.P, spec_l15At.R, fun _ _ => none⟩ spec_l15At.X spec_l15At.P.len 0
noncomputable def spec_l15At.l4 (name : ByteArray) (t7 : List (ByteArray × List ByteArray)) (t8 : Int) (t9 : Int) : Option (Int) := fixP spec_l15At.E spec_l15At.T spec_l15At.C spec_l15At.K 4 spec_l15At.D4 (name, t7, t8, t9)
noncomputable def spec_l15At.f (f : List (ByteArray × List ByteArray)) (name : ByteArray) : Option (Int) := Fn spec_l15At.E spec_l15At.T spec_l15At.C spec_l15At.P spec_l15At.R spec_l15At.X (f, name)
theorem spec_l15At.l4_eq (name : ByteArray) (t7 : List (ByteArray × List ByteArray)) (t8 : Int) (t9 : Int) : spec_l15At.l4 name t7 t8 t9 =
  (bif (decide (t9 < t8)) then (bif ((decide (0 ≤ t9)) && (decide (t9 < (t7.length : Int)))) then (bif ((t7.getD (t9).toNat (em, ([] : List ByteArray))).1.toList == name.toList) then (some t9) else
    (spec_l15At.l4 name t7 t8 (w64 (t9 + 1)))) else none) else (some (-1))) :=
  (fixP_eq spec_l15At.E spec_l15At.T spec_l15At.C spec_l15At.K 4 spec_l15At.D4 (name, t7, t8, t9)).trans (by kernel_rfl)
theorem spec_l15At.f_eq (f : List (ByteArray × List ByteArray)) (name : ByteArray) : spec_l15At.f f name =
  (spec_l15At.l4 name f (f.length : Int) 0) := by kernel_rfl
noncomputable def spec_l15At.S : Abs.Sum := ⟨spec_l15At.P, spec_l15At.R, fun _ => Fn spec_l15At.E spec_l15At.T spec_l15At.C spec_l15At.P spec_l15At.R spec_l15At.X⟩
theorem spec_l15At.meets : Meets Tryz.prog 45 spec_l15At.S := meets_tab (S := spec_l15At.U) tabOk_all AllMeets.nil AllStill.nil follows (by kernel_rfl : Tryz.prog.funcs[45]? = some Tryz.f45) (by kernel_rfl) (by kernel_rfl) (by kernel_rfl)
noncomputable def spec_l1Most.C : Code := Tryz.f174.body.getD .skip
def spec_l1Most.P : Par := (.cons (.val (.int .i64)) (.cons (.val (.int .i64)) .nil))
noncomputable def spec_l1Most.U : SumTab := []
noncomputable def spec_l1Most.E : Env := mkEnv TY AR spec_l1Most.U
noncomputable def spec_l1Most.T : Tab := fun k => look k []
def spec_l1Most.R : List (Nat × Ty) := [(0, .int .i64)]
def spec_l1Most.X : List ResultVar := [.tmp 4]
noncomputable def spec_l1Most.f (a : Int) (b : Int) : Option (Int) := Fn spec_l1Most.E spec_l1Most.T spec_l1Most.C spec_l1Most.P spec_l1Most.R spec_l1Most.X (a, b)
theorem spec_l1Most.f_eq (a : Int) (b : Int) : spec_l1Most.f a b =
  (bif (decide (a > b)) then (some a) else (some b)) := by kernel_rfl
noncomputable def spec_l1Most.S : Abs.Sum := ⟨spec_l1Most.P, spec_l1Most.R, fun _ => Fn spec_l1Most.E spec_l1Most.T spec_l1Most.C spec_l1Most.P spec_l1Most.R spec_l1Most.X⟩
theorem spec_l1Most.meets : Meets Tryz.prog 174 spec_l1Most.S := meets_tab (S := spec_l1Most.U) tabOk_all AllMeets.nil AllStill.nil follows (by kernel_rfl : Tryz.prog.funcs[174]? = some Tryz.f174) (by kernel_rfl) (by kernel_rfl) (by kernel_rfl)
noncomputable def spec_l3Table.C : Code := Tryz.f237.body.getD .skip
def spec_l3Table.P : Par := (.cons (.val (.list .str)) (.cons (.val (.list .str)) .nil))
noncomputable def spec_l3Table.U : SumTab := [(174, [], spec_l1Most.S)]
noncomputable def spec_l3Table.E : Env := mkEnv TY AR spec_l3Table.U
def spec_l3Table.D6 : CutD := ⟨[0, 1, 5, 14, 15], (.cons (.val (.list .str)) (.cons (.val (.list .str)) (.cons (.own 9 (.list (.int .i64))) (.cons (.val (.int .i64)) (.cons (.val (.int .i64)) .nil)))))⟩
def spec_l3Table.D16 : CutD := ⟨[0, 1, 5, 7], (.cons (.val (.list .str)) (.cons (.val (.list .str)) (.cons (.own 9 (.list (.int .i64))) (.cons (.val (.int .i64)) .nil))))⟩
def spec_l3Table.D22 : CutD := ⟨[0, 1, 5, 7, 8], (.cons (.val (.list .str)) (.cons (.val (.list .str)) (.cons (.own 9 (.list (.int .i64))) (.cons (.val (.int .i64)) (.cons (.val (.int .i64)) .nil)))))⟩
noncomputable def spec_l3Table.T : Tab := fun k => look k [(6, spec_l3Table.D6), (16, spec_l3Table.D16), (22, spec_l3Table.D22)]
def spec_l3Table.R : List (Nat × Ty) := [(9, .list (.list (.int .i64)))]
def spec_l3Table.X : List ResultVar := [.tmp 4]
noncomputable def spec_l3Table.K := fin spec_l3Table.E ⟨spec_l3Table.P, spec_l3Table.R, fun _ _ => none⟩ spec_l3Table.X spec_l3Table.P.len 0
noncomputable def spec_l3Table.l6 (a : List ByteArray) (b : List ByteArray) (t : List (List Int)) (t14 : Int) (t15 : Int) : Option ((List (List Int))) := fixP spec_l3Table.E spec_l3Table.T spec_l3Table.C spec_l3Table.K 6 spec_l3Table.D6 (a, b, t, t14, t15)
noncomputable def spec_l3Table.l16 (a : List ByteArray) (b : List ByteArray) (t : List (List Int)) (i : Int) : Option ((List (List Int))) := fixP spec_l3Table.E spec_l3Table.T spec_l3Table.C spec_l3Table.K 16 spec_l3Table.D16 (a, b, t, i)
noncomputable def spec_l3Table.l22 (a : List ByteArray) (b : List ByteArray) (t : List (List Int)) (i : Int) (j : Int) : Option ((List (List Int))) := fixP spec_l3Table.E spec_l3Table.T spec_l3Table.C spec_l3Table.K 22 spec_l3Table.D22 (a, b, t, i, j)
noncomputable def spec_l3Table.f (a : List ByteArray) (b : List ByteArray) : Option ((List (List Int))) := Fn spec_l3Table.E spec_l3Table.T spec_l3Table.C spec_l3Table.P spec_l3Table.R spec_l3Table.X (a, b)
theorem spec_l3Table.l6_eq (a : List ByteArray) (b : List ByteArray) (t : List (List Int)) (t14 : Int) (t15 : Int) : spec_l3Table.l6 a b t t14 t15 =
  (bif (decide (t15 < t14)) then (bif ((decide (0 ≤ (w64 ((b.length : Int) + 1)))) && (decide (((w64 ((b.length : Int) + 1))).toNat ≤ room 8))) then (bif ((decide (0 ≤ t15)) && (decide (t15 < (t.length : Int)))) then (spec_l3Table.l6 a b (t.set (t15).toNat (List.replicate ((w64 ((b.length : Int) + 1))).toNat 0)) t14 (w64 (t15 + 1))) else none) else none) else
  (spec_l3Table.l16 a b t (w64 ((a.length : Int) - 1)))) :=
  (fixP_eq spec_l3Table.E spec_l3Table.T spec_l3Table.C spec_l3Table.K 6 spec_l3Table.D6 (a, b, t, t14, t15)).trans (by kernel_rfl)
theorem spec_l3Table.l16_eq (a : List ByteArray) (b : List ByteArray) (t : List (List Int)) (i : Int) : spec_l3Table.l16 a b t i =
  (bif (decide (i ≥ 0)) then (spec_l3Table.l22 a b t i (w64 ((b.length : Int) - 1))) else (some t)) :=
  (fixP_eq spec_l3Table.E spec_l3Table.T spec_l3Table.C spec_l3Table.K 16 spec_l3Table.D16 (a, b, t, i)).trans (by kernel_rfl)
theorem spec_l3Table.l22_eq (a : List ByteArray) (b : List ByteArray) (t : List (List Int)) (i : Int) (j : Int) : spec_l3Table.l22 a b t i j =
  (bif (decide (j ≥ 0)) then (bif ((decide (0 ≤ i)) && (decide (i < (t.length : Int)))) then (bif ((decide (0 ≤ (w64 (i + 1)))) && (decide ((w64 (i + 1)) < (t.length : Int)))) then (bif ((decide (0 ≤ j)) && (decide (j < ((t.getD ((w64 (i + 1))).toNat ([] : List Int)).length : Int)))) then (bif ((decide (0 ≤ i)) && (decide (i < (t.length : Int)))) then (bif ((decide (0 ≤ (w64 (j + 1)))) && (decide ((w64 (j + 1)) < ((t.getD (i).toNat ([] : List Int)).length : Int)))) then ((spec_l1Most.f ((t.getD ((w64 (i + 1))).toNat ([] : List Int)).getD (j).toNat 0) ((t.getD (i).toNat ([] : List Int)).getD ((w64 (j + 1))).toNat 0)).bind fun y1 =>
        bif ((decide (0 ≤ j)) && (decide (j < ((t.getD (i).toNat ([] : List Int)).length : Int)))) then (bif ((decide (0 ≤ i)) && (decide (i < (a.length : Int)))) then (bif ((decide (0 ≤ j)) && (decide (j < (b.length : Int)))) then (bif ((a.getD (i).toNat em).toList == (b.getD (j).toNat em).toList) then (bif ((decide (0 ≤ i)) && (decide (i < ((t.set (i).toNat ((t.getD (i).toNat ([] : List Int)).set (j).toNat y1)).length : Int)))) then (bif ((decide (0 ≤ i)) && (decide (i < ((t.set (i).toNat ((t.getD (i).toNat ([] : List Int)).set (j).toNat y1)).length : Int)))) then (bif ((decide (0 ≤ j)) && (decide (j < (((t.set (i).toNat ((t.getD (i).toNat ([] : List Int)).set (j).toNat y1)).getD (i).toNat ([] : List Int)).length : Int)))) then (bif ((decide (0 ≤ (w64 (i + 1)))) && (decide ((w64 (i + 1)) < ((t.set (i).toNat ((t.getD (i).toNat ([] : List Int)).set (j).toNat y1)).length : Int)))) then (bif ((decide (0 ≤ (w64 (j + 1)))) && (decide ((w64 (j + 1)) < (((t.set (i).toNat ((t.getD (i).toNat ([] : List Int)).set (j).toNat y1)).getD ((w64 (i + 1))).toNat ([] : List Int)).length : Int)))) then ((spec_l1Most.f (((t.set (i).toNat ((t.getD (i).toNat ([] : List Int)).set (j).toNat y1)).getD (i).toNat ([] : List Int)).getD (j).toNat 0) (w64 ((((t.set (i).toNat ((t.getD (i).toNat ([] : List Int)).set (j).toNat y1)).getD ((w64 (i + 1))).toNat ([] : List Int)).getD ((w64 (j + 1))).toNat 0) + 1))).bind fun y2 =>
                 bif ((decide (0 ≤ j)) && (decide (j < (((t.set (i).toNat ((t.getD (i).toNat ([] : List Int)).set (j).toNat y1)).getD (i).toNat ([] : List Int)).length : Int)))) then (spec_l3Table.l22 a b ((t.set (i).toNat ((t.getD (i).toNat ([] : List Int)).set (j).toNat y1)).set (i).toNat (((t.set (i).toNat ((t.getD (i).toNat ([] : List Int)).set (j).toNat y1)).getD (i).toNat ([] : List Int)).set (j).toNat y2)) i (w64 (j - 1))) else none) else none) else none) else none) else none) else none) else
           (spec_l3Table.l22 a b (t.set (i).toNat ((t.getD (i).toNat ([] : List Int)).set (j).toNat y1)) i (w64 (j - 1)))) else none) else none) else none) else none) else none) else none) else none) else none) else
  (spec_l3Table.l16 a b t (w64 (i - 1)))) :=
  (fixP_eq spec_l3Table.E spec_l3Table.T spec_l3Table.C spec_l3Table.K 22 spec_l3Table.D22 (a, b, t, i, j)).trans (by kernel_rfl)
theorem spec_l3Table.f_eq (a : List ByteArray) (b : List ByteArray) : spec_l3Table.f a b =
  (bif ((decide (0 ≤ (w64 ((a.length : Int) + 1)))) && (decide (((w64 ((a.length : Int) + 1))).toNat ≤ room 24))) then (spec_l3Table.l6 a b (List.replicate ((w64 ((a.length : Int) + 1))).toNat ([] : List Int)) ((List.replicate ((w64 ((a.length : Int) + 1))).toNat ([] : List Int)).length : Int) 0) else none) := by kernel_rfl
noncomputable def spec_l3Table.S : Abs.Sum := ⟨spec_l3Table.P, spec_l3Table.R, fun _ => Fn spec_l3Table.E spec_l3Table.T spec_l3Table.C spec_l3Table.P spec_l3Table.R spec_l3Table.X⟩
theorem spec_l3Table.meets : Meets Tryz.prog 237 spec_l3Table.S := meets_tab (S := spec_l3Table.U) tabOk_all (AllMeets.cons spec_l1Most.meets AllMeets.nil) (AllStill.cons (fun _ _ _ => rfl) AllStill.nil) follows (by kernel_rfl : Tryz.prog.funcs[237]? = some Tryz.f237) (by kernel_rfl) (by kernel_rfl) (by kernel_rfl)
noncomputable def spec_l3Pairs.C : Code := Tryz.f173.body.getD .skip
def spec_l3Pairs.P : Par := (.cons (.val (.list .str)) (.cons (.val (.list .str)) .nil))
noncomputable def spec_l3Pairs.U : SumTab := [(237, [], spec_l3Table.S)]
noncomputable def spec_l3Pairs.E : Env := mkEnv TY AR spec_l3Pairs.U
def spec_l3Pairs.D8 : CutD := ⟨[0, 1, 5, 6, 7, 8], (.cons (.val (.list .str)) (.cons (.val (.list .str)) (.cons (.own 8 (.list (.int .i64))) (.cons (.own 9 (.pair (.int .i64) (.one (.int .i64)))) (.cons (.val (.int .i64)) (.cons (.val (.int .i64)) .nil))))))⟩
def spec_l3Pairs.D14 : CutD := ⟨[0, 1, 5, 6, 7, 8, 9, 10, 11], (.cons (.val (.list .str)) (.cons (.val (.list .str)) (.cons (.own 8 (.list (.int .i64))) (.cons (.own 9 (.pair (.int .i64) (.one (.int .i64)))) (.cons (.val (.int .i64)) (.cons (.val (.int .i64)) (.cons (.val (.int .i64)) (.cons (.val (.int .i64)) (.cons (.val (.int .i64)) .nil)))))))))⟩
def spec_l3Pairs.D20 : CutD := ⟨[0, 1, 5, 6, 7, 8, 9, 10, 11, 12], (.cons (.val (.list .str)) (.cons (.val (.list .str)) (.cons (.own 8 (.list (.int .i64))) (.cons (.own 9 (.pair (.int .i64) (.one (.int .i64)))) (.cons (.val (.int .i64)) (.cons (.val (.int .i64)) (.cons (.val (.int .i64)) (.cons (.val (.int .i64)) (.cons (.val (.int .i64)) (.cons (.val (.int .i64)) .nil))))))))))⟩
noncomputable def spec_l3Pairs.T : Tab := fun k => look k [(8, spec_l3Pairs.D8), (14, spec_l3Pairs.D14), (20, spec_l3Pairs.D20)]
def spec_l3Pairs.R : List (Nat × Ty) := [(9, .list (.pair (.int .i64) (.one (.int .i64))))]
def spec_l3Pairs.X : List ResultVar := [.tmp 4]
noncomputable def spec_l3Pairs.K := fin spec_l3Pairs.E ⟨spec_l3Pairs.P, spec_l3Pairs.R, fun _ _ => none⟩ spec_l3Pairs.X spec_l3Pairs.P.len 0
noncomputable def spec_l3Pairs.l8 (a : List ByteArray) (b : List ByteArray) (t : List (List Int)) (out : List (Int × Int)) (i : Int) (j : Int) : Option ((List (Int × Int))) := fixP spec_l3Pairs.E spec_l3Pairs.T spec_l3Pairs.C spec_l3Pairs.K 8 spec_l3Pairs.D8 (a, b, t, out, i, j)
noncomputable def spec_l3Pairs.l14 (a : List ByteArray) (b : List ByteArray) (t : List (List Int)) (out : List (Int × Int)) (i : Int) (j : Int) (x : Int) (y : Int) (p : Int) : Option ((List (Int × Int))) := fixP spec_l3Pairs.E spec_l3Pairs.T spec_l3Pairs.C spec_l3Pairs.K 14 spec_l3Pairs.D14 (a, b, t, out, i, j, x, y, p)
noncomputable def spec_l3Pairs.l20 (a : List ByteArray) (b : List ByteArray) (t : List (List Int)) (out : List (Int × Int)) (i : Int) (j : Int) (x : Int) (y : Int) (p : Int) (q : Int) : Option ((List (Int × Int))) := fixP spec_l3Pairs.E spec_l3Pairs.T spec_l3Pairs.C spec_l3Pairs.K 20 spec_l3Pairs.D20 (a, b, t, out, i, j, x, y, p, q)
noncomputable def spec_l3Pairs.f (a : List ByteArray) (b : List ByteArray) : Option ((List (Int × Int))) := Fn spec_l3Pairs.E spec_l3Pairs.T spec_l3Pairs.C spec_l3Pairs.P spec_l3Pairs.R spec_l3Pairs.X (a, b)
theorem spec_l3Pairs.l8_eq (a : List ByteArray) (b : List ByteArray) (t : List (List Int)) (out : List (Int × Int)) (i : Int) (j : Int) : spec_l3Pairs.l8 a b t out i j =
  (bif ((decide (0 ≤ i)) && (decide (i < (t.length : Int)))) then (bif ((decide (0 ≤ j)) && (decide (j < ((t.getD (i).toNat ([] : List Int)).length : Int)))) then (bif (decide (((t.getD (i).toNat ([] : List Int)).getD (j).toNat 0) > 0)) then (spec_l3Pairs.l14 a b t out i j (a.length : Int) (b.length : Int) (w64 ((a.length : Int) - 1))) else (some out)) else none) else none) :=
  (fixP_eq spec_l3Pairs.E spec_l3Pairs.T spec_l3Pairs.C spec_l3Pairs.K 8 spec_l3Pairs.D8 (a, b, t, out, i, j)).trans (by kernel_rfl)
theorem spec_l3Pairs.l14_eq (a : List ByteArray) (b : List ByteArray) (t : List (List Int)) (out : List (Int × Int)) (i : Int) (j : Int) (x : Int) (y : Int) (p : Int) : spec_l3Pairs.l14 a b t out i j x y p =
  (bif (decide (p ≥ i)) then (spec_l3Pairs.l20 a b t out i j x y p (w64 ((b.length : Int) - 1))) else
  (bif (decide ((out.length + [(x, y)].length) ≤ room 16)) then (spec_l3Pairs.l8 a b t (out ++ [(x, y)]) (w64 (x + 1)) (w64 (y + 1))) else none)) :=
  (fixP_eq spec_l3Pairs.E spec_l3Pairs.T spec_l3Pairs.C spec_l3Pairs.K 14 spec_l3Pairs.D14 (a, b, t, out, i, j, x, y, p)).trans (by kernel_rfl)
theorem spec_l3Pairs.l20_eq (a : List ByteArray) (b : List ByteArray) (t : List (List Int)) (out : List (Int × Int)) (i : Int) (j : Int) (x : Int) (y : Int) (p : Int) (q : Int) : spec_l3Pairs.l20 a b t out i j x y p q =
  (bif (decide (q ≥ j)) then (bif ((decide (0 ≤ p)) && (decide (p < (a.length : Int)))) then (bif ((decide (0 ≤ q)) && (decide (q < (b.length : Int)))) then (bif ((a.getD (p).toNat em).toList == (b.getD (q).toNat em).toList) then (bif ((decide (0 ≤ (w64 (p + 1)))) && (decide ((w64 (p + 1)) < (t.length : Int)))) then (bif ((decide (0 ≤ (w64 (q + 1)))) && (decide ((w64 (q + 1)) < ((t.getD ((w64 (p + 1))).toNat ([] : List Int)).length : Int)))) then (bif ((decide (0 ≤ i)) && (decide (i < (t.length : Int)))) then (bif ((decide (0 ≤ j)) && (decide (j < ((t.getD (i).toNat ([] : List Int)).length : Int)))) then (bif (decide ((w64 (((t.getD ((w64 (p + 1))).toNat ([] : List Int)).getD ((w64 (q + 1))).toNat 0) + 1)) = ((t.getD (i).toNat ([] : List Int)).getD (j).toNat 0))) then (spec_l3Pairs.l20 a b t out i j p q p (w64 (q - 1))) else
          (spec_l3Pairs.l20 a b t out i j x y p (w64 (q - 1)))) else none) else none) else none) else none) else
     (spec_l3Pairs.l20 a b t out i j x y p (w64 (q - 1)))) else none) else none) else
  (spec_l3Pairs.l14 a b t out i j x y (w64 (p - 1)))) :=
  (fixP_eq spec_l3Pairs.E spec_l3Pairs.T spec_l3Pairs.C spec_l3Pairs.K 20 spec_l3Pairs.D20 (a, b, t, out, i, j, x, y, p, q)).trans (by kernel_rfl)
theorem spec_l3Pairs.f_eq (a : List ByteArray) (b : List ByteArray) : spec_l3Pairs.f a b =
  ((spec_l3Table.f a b).bind fun y1 =>
  spec_l3Pairs.l8 a b y1 ([] : List (Int × Int)) 0 0) := by kernel_rfl
noncomputable def spec_l3Pairs.S : Abs.Sum := ⟨spec_l3Pairs.P, spec_l3Pairs.R, fun _ => Fn spec_l3Pairs.E spec_l3Pairs.T spec_l3Pairs.C spec_l3Pairs.P spec_l3Pairs.R spec_l3Pairs.X⟩
theorem spec_l3Pairs.meets : Meets Tryz.prog 173 spec_l3Pairs.S := meets_tab (S := spec_l3Pairs.U) tabOk_all (AllMeets.cons spec_l3Table.meets AllMeets.nil) (AllStill.cons (fun _ _ _ => rfl) AllStill.nil) follows (by kernel_rfl : Tryz.prog.funcs[173]? = some Tryz.f173) (by kernel_rfl) (by kernel_rfl) (by kernel_rfl)
noncomputable def spec_l1OwnT.C : Code := Tryz.f68.body.getD .skip
def spec_l1OwnT.P : Par := (.cons (.val (.list .str)) .nil)
noncomputable def spec_l1OwnT.U : SumTab := []
noncomputable def spec_l1OwnT.E : Env := mkEnv TY AR spec_l1OwnT.U
noncomputable def spec_l1OwnT.T : Tab := fun k => look k []
def spec_l1OwnT.R : List (Nat × Ty) := [(9, .list .str)]
def spec_l1OwnT.X : List ResultVar := [.tmp 2]
noncomputable def spec_l1OwnT.f (l : List ByteArray) : Option ((List ByteArray)) := Fn spec_l1OwnT.E spec_l1OwnT.T spec_l1OwnT.C spec_l1OwnT.P spec_l1OwnT.R spec_l1OwnT.X l
theorem spec_l1OwnT.f_eq (l : List ByteArray) : spec_l1OwnT.f l =
  (bif (decide ((([] : List ByteArray).length + l.length) ≤ room 16)) then (some (([] : List ByteArray) ++ l)) else none) := by kernel_rfl
noncomputable def spec_l1OwnT.S : Abs.Sum := ⟨spec_l1OwnT.P, spec_l1OwnT.R, fun _ => Fn spec_l1OwnT.E spec_l1OwnT.T spec_l1OwnT.C spec_l1OwnT.P spec_l1OwnT.R spec_l1OwnT.X⟩
theorem spec_l1OwnT.meets : Meets Tryz.prog 68 spec_l1OwnT.S := meets_tab (S := spec_l1OwnT.U) tabOk_all AllMeets.nil AllStill.nil follows (by kernel_rfl : Tryz.prog.funcs[68]? = some Tryz.f68) (by kernel_rfl) (by kernel_rfl) (by kernel_rfl)
noncomputable def spec_l2Join.C : Code := Tryz.f172.body.getD .skip
def spec_l2Join.P : Par := (.cons (.val (.list .str)) (.cons (.val (.list .str)) (.cons (.own 5 (.pair (.int .i64) (.one (.int .i64)))) .nil)))
noncomputable def spec_l2Join.U : SumTab := [(68, [], spec_l1OwnT.S)]
noncomputable def spec_l2Join.E : Env := mkEnv TY AR spec_l2Join.U
def spec_l2Join.D8 : CutD := ⟨[1, 7, 8, 9, 19, 20, 21], (.cons (.val (.list .str)) (.cons (.own 9 (.pair (.int .i64) (.pair (.int .i64) (.one (.list .str))))) (.cons (.val (.int .i64)) (.cons (.val (.int .i64)) (.cons (.own 9 (.pair (.int .i64) (.one (.int .i64)))) (.cons (.val (.int .i64)) (.cons (.val (.int .i64)) .nil)))))))⟩
def spec_l2Join.D17 : CutD := ⟨[1, 7, 11, 19, 20, 21], (.cons (.val (.list .str)) (.cons (.own 9 (.pair (.int .i64) (.pair (.int .i64) (.one (.list .str))))) (.cons (.box 9 (.pair (.int .i64) (.one (.int .i64)))) (.cons (.own 9 (.pair (.int .i64) (.one (.int .i64)))) (.cons (.val (.int .i64)) (.cons (.val (.int .i64)) .nil))))))⟩
noncomputable def spec_l2Join.T : Tab := fun k => look k [(8, spec_l2Join.D8), (17, spec_l2Join.D17)]
def spec_l2Join.R : List (Nat × Ty) := [(9, .list (.pair (.int .i64) (.pair (.int .i64) (.one (.list .str)))))]
def spec_l2Join.X : List ResultVar := [.tmp 6]
noncomputable def spec_l2Join.K := fin spec_l2Join.E ⟨spec_l2Join.P, spec_l2Join.R, fun _ _ => none⟩ spec_l2Join.X spec_l2Join.P.len 0
noncomputable def spec_l2Join.l8 (last : List ByteArray) (out : List (Int × Int × List ByteArray)) (i : Int) (j : Int) (t19 : List (Int × Int)) (t20 : Int) (t21 : Int) : Option ((List (Int × Int × List ByteArray))) := fixP spec_l2Join.E spec_l2Join.T spec_l2Join.C spec_l2Join.K 8 spec_l2Join.D8 (last, out, i, j, t19, t20, t21)
noncomputable def spec_l2Join.l17 (last : List ByteArray) (out : List (Int × Int × List ByteArray)) (s : Int × Int) (t19 : List (Int × Int)) (t20 : Int) (t21 : Int) : Option ((List (Int × Int × List ByteArray))) := fixP spec_l2Join.E spec_l2Join.T spec_l2Join.C spec_l2Join.K 17 spec_l2Join.D17 (last, out, s, t19, t20, t21)
noncomputable def spec_l2Join.f (first : List ByteArray) (last : List ByteArray) (stay : List (Int × Int)) : Option ((List (Int × Int × List ByteArray))) := Fn spec_l2Join.E spec_l2Join.T spec_l2Join.C spec_l2Join.P spec_l2Join.R spec_l2Join.X (first, last, stay)
theorem spec_l2Join.l8_eq (last : List ByteArray) (out : List (Int × Int × List ByteArray)) (i : Int) (j : Int) (t19 : List (Int × Int)) (t20 : Int) (t21 : Int) : spec_l2Join.l8 last out i j t19 t20 t21 =
  (bif (decide (t21 < t20)) then (bif ((decide (0 ≤ t21)) && (decide (t21 < (t19.length : Int)))) then (bif (decide ((t19.getD (t21).toNat (0, 0)).1 > i)) then (bif ((decide (0 ≤ j)) && ((decide (j ≤ (t19.getD (t21).toNat (0, 0)).2)) && (decide ((t19.getD (t21).toNat (0, 0)).2 ≤ (last.length : Int))))) then ((spec_l1OwnT.f ((last.take ((t19.getD (t21).toNat (0, 0)).2).toNat).drop (j).toNat)).bind fun y1 =>
      bif (decide ((out.length + [(i, (w64 ((t19.getD (t21).toNat (0, 0)).1 - i)), y1)].length) ≤ room 40)) then (spec_l2Join.l17 last (out ++ [(i, (w64 ((t19.getD (t21).toNat (0, 0)).1 - i)), y1)]) (t19.getD (t21).toNat (0, 0)) t19 t20 t21) else none) else none) else
    (bif (decide ((t19.getD (t21).toNat (0, 0)).2 > j)) then (bif ((decide (0 ≤ j)) && ((decide (j ≤ (t19.getD (t21).toNat (0, 0)).2)) && (decide ((t19.getD (t21).toNat (0, 0)).2 ≤ (last.length : Int))))) then ((spec_l1OwnT.f ((last.take ((t19.getD (t21).toNat (0, 0)).2).toNat).drop (j).toNat)).bind fun y1 =>
       bif (decide ((out.length + [(i, (w64 ((t19.getD (t21).toNat (0, 0)).1 - i)), y1)].length) ≤ room 40)) then (spec_l2Join.l17 last (out ++ [(i, (w64 ((t19.getD (t21).toNat (0, 0)).1 - i)), y1)]) (t19.getD (t21).toNat (0, 0)) t19 t20 t21) else none) else none) else
     (spec_l2Join.l17 last out (t19.getD (t21).toNat (0, 0)) t19 t20 t21))) else none) else (some out)) :=
  (fixP_eq spec_l2Join.E spec_l2Join.T spec_l2Join.C spec_l2Join.K 8 spec_l2Join.D8 (last, out, i, j, t19, t20, t21)).trans (by kernel_rfl)
theorem spec_l2Join.l17_eq (last : List ByteArray) (out : List (Int × Int × List ByteArray)) (s : Int × Int) (t19 : List (Int × Int)) (t20 : Int) (t21 : Int) : spec_l2Join.l17 last out s t19 t20 t21 =
  (spec_l2Join.l8 last out (w64 (s.1 + 1)) (w64 (s.2 + 1)) t19 t20 (w64 (t21 + 1))) :=
  (fixP_eq spec_l2Join.E spec_l2Join.T spec_l2Join.C spec_l2Join.K 17 spec_l2Join.D17 (last, out, s, t19, t20, t21)).trans (by kernel_rfl)
theorem spec_l2Join.f_eq (first : List ByteArray) (last : List ByteArray) (stay : List (Int × Int)) : spec_l2Join.f first last stay =
  (bif (decide ((stay.length + [((first.length : Int), (last.length : Int))].length) ≤ room 16)) then (spec_l2Join.l8 last ([] : List (Int × Int × List ByteArray)) 0 0 (stay ++ [((first.length : Int), (last.length : Int))]) ((stay ++ [((first.length : Int), (last.length : Int))]).length : Int) 0) else none) := by kernel_rfl
noncomputable def spec_l2Join.S : Abs.Sum := ⟨spec_l2Join.P, spec_l2Join.R, fun _ => Fn spec_l2Join.E spec_l2Join.T spec_l2Join.C spec_l2Join.P spec_l2Join.R spec_l2Join.X⟩
theorem spec_l2Join.meets : Meets Tryz.prog 172 spec_l2Join.S := meets_tab (S := spec_l2Join.U) tabOk_all (AllMeets.cons spec_l1OwnT.meets AllMeets.nil) (AllStill.cons (fun _ _ _ => rfl) AllStill.nil) follows (by kernel_rfl : Tryz.prog.funcs[172]? = some Tryz.f172) (by kernel_rfl) (by kernel_rfl) (by kernel_rfl)
noncomputable def spec_l3Diff.C : Code := Tryz.f109.body.getD .skip
def spec_l3Diff.P : Par := (.cons (.val (.list .str)) (.cons (.val (.list .str)) .nil))
noncomputable def spec_l3Diff.U : SumTab := [(173, [], spec_l3Pairs.S), (172, [], spec_l2Join.S)]
noncomputable def spec_l3Diff.E : Env := mkEnv TY AR spec_l3Diff.U
noncomputable def spec_l3Diff.T : Tab := fun k => look k []
def spec_l3Diff.R : List (Nat × Ty) := [(9, .list (.pair (.int .i64) (.pair (.int .i64) (.one (.list .str)))))]
def spec_l3Diff.X : List ResultVar := [.tmp 4]
noncomputable def spec_l3Diff.f (a : List ByteArray) (b : List ByteArray) : Option ((List (Int × Int × List ByteArray))) := Fn spec_l3Diff.E spec_l3Diff.T spec_l3Diff.C spec_l3Diff.P spec_l3Diff.R spec_l3Diff.X (a, b)
theorem spec_l3Diff.f_eq (a : List ByteArray) (b : List ByteArray) : spec_l3Diff.f a b =
  ((spec_l3Pairs.f a b).bind fun y1 =>
  (spec_l2Join.f a b y1).bind fun y2 =>
  some y2) := by kernel_rfl
noncomputable def spec_l3Diff.S : Abs.Sum := ⟨spec_l3Diff.P, spec_l3Diff.R, fun _ => Fn spec_l3Diff.E spec_l3Diff.T spec_l3Diff.C spec_l3Diff.P spec_l3Diff.R spec_l3Diff.X⟩
theorem spec_l3Diff.meets : Meets Tryz.prog 109 spec_l3Diff.S := meets_tab (S := spec_l3Diff.U) tabOk_all (AllMeets.cons spec_l3Pairs.meets (AllMeets.cons spec_l2Join.meets AllMeets.nil)) (AllStill.cons (fun _ _ _ => rfl) (AllStill.cons (fun _ _ _ => rfl) AllStill.nil)) follows (by kernel_rfl : Tryz.prog.funcs[109]? = some Tryz.f109) (by kernel_rfl) (by kernel_rfl) (by kernel_rfl)
noncomputable def spec_l2Hunks.C : Code := Tryz.f108.body.getD .skip
def spec_l2Hunks.P : Par := (.cons (.val (.int .i64)) (.cons (.val (.list (.pair (.int .i64) (.pair (.int .i64) (.one (.list .str)))))) .nil))
noncomputable def spec_l2Hunks.U : SumTab := [(171, [], spec_l1Line.S), (44, [], spec_l1In.S)]
noncomputable def spec_l2Hunks.E : Env := mkEnv TY AR spec_l2Hunks.U
def spec_l2Hunks.D4 : CutD := ⟨[0, 1, 9, 10, 11], (.cons (.val (.int .i64)) (.cons (.val (.list (.pair (.int .i64) (.pair (.int .i64) (.one (.list .str)))))) (.cons (.val (.list (.pair (.int .i64) (.pair (.int .i64) (.one (.list .str)))))) (.cons (.val (.int .i64)) (.cons (.val (.int .i64)) .nil)))))⟩
def spec_l2Hunks.D13 : CutD := ⟨[0, 1, 6, 9, 10, 11], (.cons (.val (.int .i64)) (.cons (.val (.list (.pair (.int .i64) (.pair (.int .i64) (.one (.list .str)))))) (.cons (.box 0 (.pair (.int .i64) (.pair (.int .i64) (.one (.list .str))))) (.cons (.val (.list (.pair (.int .i64) (.pair (.int .i64) (.one (.list .str)))))) (.cons (.val (.int .i64)) (.cons (.val (.int .i64)) .nil))))))⟩
def spec_l2Hunks.D14 : CutD := ⟨[0, 1, 9, 10, 11, 77, 78, 79], (.cons (.val (.int .i64)) (.cons (.val (.list (.pair (.int .i64) (.pair (.int .i64) (.one (.list .str)))))) (.cons (.val (.list (.pair (.int .i64) (.pair (.int .i64) (.one (.list .str)))))) (.cons (.val (.int .i64)) (.cons (.val (.int .i64)) (.cons (.val (.list .str)) (.cons (.val (.int .i64)) (.cons (.val (.int .i64)) .nil))))))))⟩
noncomputable def spec_l2Hunks.T : Tab := fun k => look k [(4, spec_l2Hunks.D4), (13, spec_l2Hunks.D13), (14, spec_l2Hunks.D14)]
def spec_l2Hunks.R : List (Nat × Ty) := [(0, .bool)]
def spec_l2Hunks.X : List ResultVar := [.tmp 4]
noncomputable def spec_l2Hunks.K := fin spec_l2Hunks.E ⟨spec_l2Hunks.P, spec_l2Hunks.R, fun _ _ => none⟩ spec_l2Hunks.X spec_l2Hunks.P.len 0
noncomputable def spec_l2Hunks.l4 (many : Int) (h : List (Int × Int × List ByteArray)) (t9 : List (Int × Int × List ByteArray)) (t10 : Int) (t11 : Int) : Option (Bool) := fixP spec_l2Hunks.E spec_l2Hunks.T spec_l2Hunks.C spec_l2Hunks.K 4 spec_l2Hunks.D4 (many, h, t9, t10, t11)
noncomputable def spec_l2Hunks.l13 (many : Int) (h : List (Int × Int × List ByteArray)) (x : Int × Int × List ByteArray) (t9 : List (Int × Int × List ByteArray)) (t10 : Int) (t11 : Int) : Option (Bool) := fixP spec_l2Hunks.E spec_l2Hunks.T spec_l2Hunks.C spec_l2Hunks.K 13 spec_l2Hunks.D13 (many, h, x, t9, t10, t11)
noncomputable def spec_l2Hunks.l14 (many : Int) (h : List (Int × Int × List ByteArray)) (t9 : List (Int × Int × List ByteArray)) (t10 : Int) (t11 : Int) (t77 : List ByteArray) (t78 : Int) (t79 : Int) : Option (Bool) := fixP spec_l2Hunks.E spec_l2Hunks.T spec_l2Hunks.C spec_l2Hunks.K 14 spec_l2Hunks.D14 (many, h, t9, t10, t11, t77, t78, t79)
noncomputable def spec_l2Hunks.f (many : Int) (h : List (Int × Int × List ByteArray)) : Option (Bool) := Fn spec_l2Hunks.E spec_l2Hunks.T spec_l2Hunks.C spec_l2Hunks.P spec_l2Hunks.R spec_l2Hunks.X (many, h)
theorem spec_l2Hunks.l4_eq (many : Int) (h : List (Int × Int × List ByteArray)) (t9 : List (Int × Int × List ByteArray)) (t10 : Int) (t11 : Int) : spec_l2Hunks.l4 many h t9 t10 t11 =
  (bif (decide (t11 < t10)) then (bif ((decide (0 ≤ t11)) && (decide (t11 < (t9.length : Int)))) then (bif (decide ((t9.getD (t11).toNat (0, 0, ([] : List ByteArray))).1 < 0)) then (some false) else
    (bif (decide ((t9.getD (t11).toNat (0, 0, ([] : List ByteArray))).2.1 < 0)) then (some false) else
     (bif (decide ((t9.getD (t11).toNat (0, 0, ([] : List ByteArray))).2.1 > many)) then (some false) else
      (bif (decide ((t9.getD (t11).toNat (0, 0, ([] : List ByteArray))).1 > (w64 (many - (t9.getD (t11).toNat (0, 0, ([] : List ByteArray))).2.1)))) then (some false) else
       (bif (decide ((w64 ((t9.getD (t11).toNat (0, 0, ([] : List ByteArray))).2.1 + ((t9.getD (t11).toNat (0, 0, ([] : List ByteArray))).2.2.length : Int))) = 0)) then (some false) else
        (bif (decide (((t9.getD (t11).toNat (0, 0, ([] : List ByteArray))).2.2.length : Int) > 40)) then (some false) else
         (bif (decide (t11 > 0)) then (bif ((decide (0 ≤ (w64 (t11 - 1)))) && (decide ((w64 (t11 - 1)) < (h.length : Int)))) then (bif ((decide (0 ≤ (w64 (t11 - 1)))) && (decide ((w64 (t11 - 1)) < (h.length : Int)))) then (bif (decide ((t9.getD (t11).toNat (0, 0, ([] : List ByteArray))).1 ≤ (w64 ((h.getD ((w64 (t11 - 1))).toNat (0, 0, ([] : List ByteArray))).1 + (h.getD ((w64 (t11 - 1))).toNat (0, 0, ([] : List ByteArray))).2.1)))) then (some false) else
             (spec_l2Hunks.l13 many h (t9.getD (t11).toNat (0, 0, ([] : List ByteArray))) t9 t10 t11)) else none) else none) else
          (spec_l2Hunks.l13 many h (t9.getD (t11).toNat (0, 0, ([] : List ByteArray))) t9 t10 t11)))))))) else none) else
  (bif (decide ((h.length : Int) ≤ 20)) then ((spec_l1In.f many 0 40).bind fun y1 =>
    some y1) else (some false))) :=
  (fixP_eq spec_l2Hunks.E spec_l2Hunks.T spec_l2Hunks.C spec_l2Hunks.K 4 spec_l2Hunks.D4 (many, h, t9, t10, t11)).trans (by kernel_rfl)
theorem spec_l2Hunks.l13_eq (many : Int) (h : List (Int × Int × List ByteArray)) (x : Int × Int × List ByteArray) (t9 : List (Int × Int × List ByteArray)) (t10 : Int) (t11 : Int) : spec_l2Hunks.l13 many h x t9 t10 t11 =
  (spec_l2Hunks.l14 many h t9 t10 t11 x.2.2 (x.2.2.length : Int) 0) :=
  (fixP_eq spec_l2Hunks.E spec_l2Hunks.T spec_l2Hunks.C spec_l2Hunks.K 13 spec_l2Hunks.D13 (many, h, x, t9, t10, t11)).trans (by kernel_rfl)
theorem spec_l2Hunks.l14_eq (many : Int) (h : List (Int × Int × List ByteArray)) (t9 : List (Int × Int × List ByteArray)) (t10 : Int) (t11 : Int) (t77 : List ByteArray) (t78 : Int) (t79 : Int) : spec_l2Hunks.l14 many h t9 t10 t11 t77 t78 t79 =
  (bif (decide (t79 < t78)) then (bif ((decide (0 ≤ t79)) && (decide (t79 < (t77.length : Int)))) then ((spec_l1Line.f (t77.getD (t79).toNat em)).bind fun y1 =>
    bif (!y1) then (some false) else
    (spec_l2Hunks.l14 many h t9 t10 t11 t77 t78 (w64 (t79 + 1)))) else none) else
  (spec_l2Hunks.l4 many h t9 t10 (w64 (t11 + 1)))) :=
  (fixP_eq spec_l2Hunks.E spec_l2Hunks.T spec_l2Hunks.C spec_l2Hunks.K 14 spec_l2Hunks.D14 (many, h, t9, t10, t11, t77, t78, t79)).trans (by kernel_rfl)
theorem spec_l2Hunks.f_eq (many : Int) (h : List (Int × Int × List ByteArray)) : spec_l2Hunks.f many h =
  (spec_l2Hunks.l4 many h h (h.length : Int) 0) := by kernel_rfl
noncomputable def spec_l2Hunks.S : Abs.Sum := ⟨spec_l2Hunks.P, spec_l2Hunks.R, fun _ => Fn spec_l2Hunks.E spec_l2Hunks.T spec_l2Hunks.C spec_l2Hunks.P spec_l2Hunks.R spec_l2Hunks.X⟩
theorem spec_l2Hunks.meets : Meets Tryz.prog 108 spec_l2Hunks.S := meets_tab (S := spec_l2Hunks.U) tabOk_all (AllMeets.cons spec_l1Line.meets (AllMeets.cons spec_l1In.meets AllMeets.nil)) (AllStill.cons (fun _ _ _ => rfl) (AllStill.cons (fun _ _ _ => rfl) AllStill.nil)) follows (by kernel_rfl : Tryz.prog.funcs[108]? = some Tryz.f108) (by kernel_rfl) (by kernel_rfl) (by kernel_rfl)
noncomputable def spec_DiffHunks.C : Code := Tryz.f46.body.getD .skip
def spec_DiffHunks.P : Par := (.cons (.val (.list .str)) (.cons (.val (.list .str)) .nil))
noncomputable def spec_DiffHunks.U : SumTab := [(107, [], spec_l1Good.S), (109, [], spec_l3Diff.S), (108, [], spec_l2Hunks.S)]
noncomputable def spec_DiffHunks.E : Env := mkEnv TY AR spec_DiffHunks.U
def spec_DiffHunks.D7 : CutD := ⟨[0, 1], (.cons (.val (.list .str)) (.cons (.val (.list .str)) .nil))⟩
noncomputable def spec_DiffHunks.T : Tab := fun k => look k [(7, spec_DiffHunks.D7)]
def spec_DiffHunks.R : List (Nat × Ty) := [(9, .list (.pair (.int .i64) (.pair (.int .i64) (.one (.list .str))))), (0, .bool)]
def spec_DiffHunks.X : List ResultVar := [.tmp 4, .tmp 5]
noncomputable def spec_DiffHunks.K := fin spec_DiffHunks.E ⟨spec_DiffHunks.P, spec_DiffHunks.R, fun _ _ => none⟩ spec_DiffHunks.X spec_DiffHunks.P.len 0
noncomputable def spec_DiffHunks.l7 (a : List ByteArray) (b : List ByteArray) : Option ((List (Int × Int × List ByteArray)) × Bool) := fixP spec_DiffHunks.E spec_DiffHunks.T spec_DiffHunks.C spec_DiffHunks.K 7 spec_DiffHunks.D7 (a, b)
noncomputable def spec_DiffHunks.f (a : List ByteArray) (b : List ByteArray) : Option ((List (Int × Int × List ByteArray)) × Bool) := Fn spec_DiffHunks.E spec_DiffHunks.T spec_DiffHunks.C spec_DiffHunks.P spec_DiffHunks.R spec_DiffHunks.X (a, b)
theorem spec_DiffHunks.l7_eq (a : List ByteArray) (b : List ByteArray) : spec_DiffHunks.l7 a b =
  ((spec_l3Diff.f a b).bind fun y1 =>
  some (y1, true)) :=
  (fixP_eq spec_DiffHunks.E spec_DiffHunks.T spec_DiffHunks.C spec_DiffHunks.K 7 spec_DiffHunks.D7 (a, b)).trans (by kernel_rfl)
theorem spec_DiffHunks.f_eq (a : List ByteArray) (b : List ByteArray) : spec_DiffHunks.f a b =
  ((spec_l1Good.f a).bind fun y1 =>
  bif (!y1) then (some (([] : List (Int × Int × List ByteArray)), false)) else
  ((spec_l1Good.f b).bind fun y2 =>
   bif (!y2) then (some (([] : List (Int × Int × List ByteArray)), false)) else
   ((spec_l3Diff.f a b).bind fun y3 =>
    (spec_l2Hunks.f (a.length : Int) y3).bind fun y4 =>
    bif (!y4) then (some (([] : List (Int × Int × List ByteArray)), false)) else
    (spec_DiffHunks.l7 a b)))) := by kernel_rfl
noncomputable def spec_DiffHunks.S : Abs.Sum := ⟨spec_DiffHunks.P, spec_DiffHunks.R, fun _ => Fn spec_DiffHunks.E spec_DiffHunks.T spec_DiffHunks.C spec_DiffHunks.P spec_DiffHunks.R spec_DiffHunks.X⟩
theorem spec_DiffHunks.meets : Meets Tryz.prog 46 spec_DiffHunks.S := meets_tab (S := spec_DiffHunks.U) tabOk_all (AllMeets.cons spec_l1Good.meets (AllMeets.cons spec_l3Diff.meets (AllMeets.cons spec_l2Hunks.meets AllMeets.nil))) (AllStill.cons (fun _ _ _ => rfl) (AllStill.cons (fun _ _ _ => rfl) (AllStill.cons (fun _ _ _ => rfl) AllStill.nil))) follows (by kernel_rfl : Tryz.prog.funcs[46]? = some Tryz.f46) (by kernel_rfl) (by kernel_rfl) (by kernel_rfl)
noncomputable def spec_l6Rows.C : Code := Tryz.f175.body.getD .skip
def spec_l6Rows.P : Par := (.cons (.val (.int .i64)) (.cons (.val (.list .str)) .nil))
noncomputable def spec_l6Rows.U : SumTab := []
noncomputable def spec_l6Rows.E : Env := mkEnv TY AR spec_l6Rows.U
def spec_l6Rows.D6 : CutD := ⟨[0, 5, 8, 9, 10], (.cons (.val (.int .i64)) (.cons (.own 9 (.pair (.int .i64) (.one .str))) (.cons (.val (.list .str)) (.cons (.val (.int .i64)) (.cons (.val (.int .i64)) .nil)))))⟩
noncomputable def spec_l6Rows.T : Tab := fun k => look k [(6, spec_l6Rows.D6)]
def spec_l6Rows.R : List (Nat × Ty) := [(9, .list (.pair (.int .i64) (.one .str)))]
def spec_l6Rows.X : List ResultVar := [.tmp 4]
noncomputable def spec_l6Rows.K := fin spec_l6Rows.E ⟨spec_l6Rows.P, spec_l6Rows.R, fun _ _ => none⟩ spec_l6Rows.X spec_l6Rows.P.len 0
noncomputable def spec_l6Rows.l6 (kind : Int) (out : List (Int × ByteArray)) (t8 : List ByteArray) (t9 : Int) (t10 : Int) : Option ((List (Int × ByteArray))) := fixP spec_l6Rows.E spec_l6Rows.T spec_l6Rows.C spec_l6Rows.K 6 spec_l6Rows.D6 (kind, out, t8, t9, t10)
noncomputable def spec_l6Rows.f (kind : Int) (l : List ByteArray) : Option ((List (Int × ByteArray))) := Fn spec_l6Rows.E spec_l6Rows.T spec_l6Rows.C spec_l6Rows.P spec_l6Rows.R spec_l6Rows.X (kind, l)
theorem spec_l6Rows.l6_eq (kind : Int) (out : List (Int × ByteArray)) (t8 : List ByteArray) (t9 : Int) (t10 : Int) : spec_l6Rows.l6 kind out t8 t9 t10 =
  (bif (decide (t10 < t9)) then (bif ((decide (0 ≤ t10)) && (decide (t10 < (t8.length : Int)))) then (bif (decide ((out.length + [(kind, (t8.getD (t10).toNat em))].length) ≤ room 24)) then (spec_l6Rows.l6 kind (out ++ [(kind, (t8.getD (t10).toNat em))]) t8 t9 (w64 (t10 + 1))) else none) else none) else (some out)) :=
  (fixP_eq spec_l6Rows.E spec_l6Rows.T spec_l6Rows.C spec_l6Rows.K 6 spec_l6Rows.D6 (kind, out, t8, t9, t10)).trans (by kernel_rfl)
theorem spec_l6Rows.f_eq (kind : Int) (l : List ByteArray) : spec_l6Rows.f kind l =
  (spec_l6Rows.l6 kind ([] : List (Int × ByteArray)) l (l.length : Int) 0) := by kernel_rfl
noncomputable def spec_l6Rows.S : Abs.Sum := ⟨spec_l6Rows.P, spec_l6Rows.R, fun _ => Fn spec_l6Rows.E spec_l6Rows.T spec_l6Rows.C spec_l6Rows.P spec_l6Rows.R spec_l6Rows.X⟩
theorem spec_l6Rows.meets : Meets Tryz.prog 175 spec_l6Rows.S := meets_tab (S := spec_l6Rows.U) tabOk_all AllMeets.nil AllStill.nil follows (by kernel_rfl : Tryz.prog.funcs[175]? = some Tryz.f175) (by kernel_rfl) (by kernel_rfl) (by kernel_rfl)
noncomputable def spec_l1Least.C : Code := Tryz.f176.body.getD .skip
def spec_l1Least.P : Par := (.cons (.val (.int .i64)) (.cons (.val (.int .i64)) .nil))
noncomputable def spec_l1Least.U : SumTab := []
noncomputable def spec_l1Least.E : Env := mkEnv TY AR spec_l1Least.U
noncomputable def spec_l1Least.T : Tab := fun k => look k []
def spec_l1Least.R : List (Nat × Ty) := [(0, .int .i64)]
def spec_l1Least.X : List ResultVar := [.tmp 4]
noncomputable def spec_l1Least.f (a : Int) (b : Int) : Option (Int) := Fn spec_l1Least.E spec_l1Least.T spec_l1Least.C spec_l1Least.P spec_l1Least.R spec_l1Least.X (a, b)
theorem spec_l1Least.f_eq (a : Int) (b : Int) : spec_l1Least.f a b =
  (bif (decide (a < b)) then (some a) else (some b)) := by kernel_rfl
noncomputable def spec_l1Least.S : Abs.Sum := ⟨spec_l1Least.P, spec_l1Least.R, fun _ => Fn spec_l1Least.E spec_l1Least.T spec_l1Least.C spec_l1Least.P spec_l1Least.R spec_l1Least.X⟩
theorem spec_l1Least.meets : Meets Tryz.prog 176 spec_l1Least.S := meets_tab (S := spec_l1Least.U) tabOk_all AllMeets.nil AllStill.nil follows (by kernel_rfl : Tryz.prog.funcs[176]? = some Tryz.f176) (by kernel_rfl) (by kernel_rfl) (by kernel_rfl)
noncomputable def spec_l6One.C : Code := Tryz.f110.body.getD .skip
def spec_l6One.P : Par := (.cons (.val (.list .str)) (.cons (.val (.list (.pair (.int .i64) (.pair (.int .i64) (.one (.list .str)))))) (.cons (.val (.int .i64)) (.cons (.val (.int .i64)) .nil))))
noncomputable def spec_l6One.U : SumTab := [(174, [], spec_l1Most.S), (175, [], spec_l6Rows.S), (176, [], spec_l1Least.S)]
noncomputable def spec_l6One.E : Env := mkEnv TY AR spec_l6One.U
def spec_l6One.D12 : CutD := ⟨[0, 2, 8, 10, 11, 12, 35, 36, 37], (.cons (.val (.list .str)) (.cons (.val (.int .i64)) (.cons (.box 9 (.pair (.int .i64) (.pair (.int .i64) (.one (.list (.pair (.int .i64) (.one .str))))))) (.cons (.box 0 (.pair (.int .i64) (.pair (.int .i64) (.one (.list .str))))) (.cons (.box 9 (.pair (.int .i64) (.pair (.int .i64) (.one (.list (.pair (.int .i64) (.one .str))))))) (.cons (.val (.int .i64)) (.cons (.val (.list (.pair (.int .i64) (.pair (.int .i64) (.one (.list .str)))))) (.cons (.val (.int .i64)) (.cons (.val (.int .i64)) .nil)))))))))⟩
noncomputable def spec_l6One.T : Tab := fun k => look k [(12, spec_l6One.D12)]
def spec_l6One.R : List (Nat × Ty) := [(9, .pair (.int .i64) (.pair (.int .i64) (.one (.list (.pair (.int .i64) (.one .str))))))]
def spec_l6One.X : List ResultVar := [.cell 8 124]
noncomputable def spec_l6One.K := fin spec_l6One.E ⟨spec_l6One.P, spec_l6One.R, fun _ _ => none⟩ spec_l6One.X spec_l6One.P.len 0
noncomputable def spec_l6One.l12 (l : List ByteArray) (width : Int) (t8 : Int × Int × List (Int × ByteArray)) (last : Int × Int × List ByteArray) (g : Int × Int × List (Int × ByteArray)) (t12 : Int) (t35 : List (Int × Int × List ByteArray)) (t36 : Int) (t37 : Int) : Option ((Int × Int × List (Int × ByteArray))) := fixP spec_l6One.E spec_l6One.T spec_l6One.C spec_l6One.K 12 spec_l6One.D12 (l, width, t8, last, g, t12, t35, t36, t37)
noncomputable def spec_l6One.f (l : List ByteArray) (h : List (Int × Int × List ByteArray)) (width : Int) (more : Int) : Option ((Int × Int × List (Int × ByteArray))) := Fn spec_l6One.E spec_l6One.T spec_l6One.C spec_l6One.P spec_l6One.R spec_l6One.X (l, h, width, more)
theorem spec_l6One.l12_eq (l : List ByteArray) (width : Int) (t8 : Int × Int × List (Int × ByteArray)) (last : Int × Int × List ByteArray) (g : Int × Int × List (Int × ByteArray)) (t12 : Int) (t35 : List (Int × Int × List ByteArray)) (t36 : Int) (t37 : Int) : spec_l6One.l12 l width t8 last g t12 t35 t36 t37 =
  (bif (decide (t37 < t36)) then (bif ((decide (0 ≤ t37)) && (decide (t37 < (t35.length : Int)))) then (bif ((decide (0 ≤ t12)) && ((decide (t12 ≤ (t35.getD (t37).toNat (0, 0, ([] : List ByteArray))).1)) && (decide ((t35.getD (t37).toNat (0, 0, ([] : List ByteArray))).1 ≤ (l.length : Int))))) then ((spec_l6Rows.f 1 ((l.take ((t35.getD (t37).toNat (0, 0, ([] : List ByteArray))).1).toNat).drop (t12).toNat)).bind fun y1 =>
     bif (decide ((g.2.2.length + y1.length) ≤ room 24)) then (bif ((decide (0 ≤ (t35.getD (t37).toNat (0, 0, ([] : List ByteArray))).1)) && ((decide ((t35.getD (t37).toNat (0, 0, ([] : List ByteArray))).1 ≤ (w64 ((t35.getD (t37).toNat (0, 0, ([] : List ByteArray))).1 + (t35.getD (t37).toNat (0, 0, ([] : List ByteArray))).2.1)))) && (decide ((w64 ((t35.getD (t37).toNat (0, 0, ([] : List ByteArray))).1 + (t35.getD (t37).toNat (0, 0, ([] : List ByteArray))).2.1)) ≤ (l.length : Int))))) then ((spec_l6Rows.f 2 ((l.take ((w64 ((t35.getD (t37).toNat (0, 0, ([] : List ByteArray))).1 + (t35.getD (t37).toNat (0, 0, ([] : List ByteArray))).2.1))).toNat).drop ((t35.getD (t37).toNat (0, 0, ([] : List ByteArray))).1).toNat)).bind fun y2 =>
       bif (decide (((g.2.2 ++ y1).length + y2.length) ≤ room 24)) then ((spec_l6Rows.f 3 (t35.getD (t37).toNat (0, 0, ([] : List ByteArray))).2.2).bind fun y3 =>
        bif (decide ((((g.2.2 ++ y1) ++ y2).length + y3.length) ≤ room 24)) then (spec_l6One.l12 l width (t8.1, t8.2.1, t8.2.2) last (g.1, g.2.1, (((g.2.2 ++ y1) ++ y2) ++ y3)) (w64 ((t35.getD (t37).toNat (0, 0, ([] : List ByteArray))).1 + (t35.getD (t37).toNat (0, 0, ([] : List ByteArray))).2.1)) t35 t36 (w64 (t37 + 1))) else none) else none) else none) else none) else none) else none) else
  ((spec_l1Least.f (l.length : Int) (w64 ((w64 (last.1 + last.2.1)) + width))).bind fun y1 =>
   bif ((decide (0 ≤ t12)) && ((decide (t12 ≤ y1)) && (decide (y1 ≤ (l.length : Int))))) then ((spec_l6Rows.f 1 ((l.take (y1).toNat).drop (t12).toNat)).bind fun y2 =>
    bif (decide ((g.2.2.length + y2.length) ≤ room 24)) then (some (g.1, g.2.1, (g.2.2 ++ y2))) else none) else none)) :=
  (fixP_eq spec_l6One.E spec_l6One.T spec_l6One.C spec_l6One.K 12 spec_l6One.D12 (l, width, t8, last, g, t12, t35, t36, t37)).trans (by kernel_rfl)
theorem spec_l6One.f_eq (l : List ByteArray) (h : List (Int × Int × List ByteArray)) (width : Int) (more : Int) : spec_l6One.f l h width more =
  (bif (decide (0 < (h.length : Int))) then ((spec_l1Most.f 0 (w64 ((h.getD 0 (0, 0, ([] : List ByteArray))).1 - width))).bind fun y1 =>
   bif ((decide (0 ≤ (w64 ((h.length : Int) - 1)))) && (decide ((w64 ((h.length : Int) - 1)) < (h.length : Int)))) then (spec_l6One.l12 l width (0, 0, ([] : List (Int × ByteArray))) (h.getD ((w64 ((h.length : Int) - 1))).toNat (0, 0, ([] : List ByteArray))) (y1, (w64 (y1 + more)), ([] : List (Int × ByteArray))) y1 h (h.length : Int) 0) else none) else none) := by kernel_rfl
noncomputable def spec_l6One.S : Abs.Sum := ⟨spec_l6One.P, spec_l6One.R, fun _ => Fn spec_l6One.E spec_l6One.T spec_l6One.C spec_l6One.P spec_l6One.R spec_l6One.X⟩
theorem spec_l6One.meets : Meets Tryz.prog 110 spec_l6One.S := meets_tab (S := spec_l6One.U) tabOk_all (AllMeets.cons spec_l1Most.meets (AllMeets.cons spec_l6Rows.meets (AllMeets.cons spec_l1Least.meets AllMeets.nil))) (AllStill.cons (fun _ _ _ => rfl) (AllStill.cons (fun _ _ _ => rfl) (AllStill.cons (fun _ _ _ => rfl) AllStill.nil))) follows (by kernel_rfl : Tryz.prog.funcs[110]? = some Tryz.f110) (by kernel_rfl) (by kernel_rfl) (by kernel_rfl)
noncomputable def spec_l6Groups.C : Code := Tryz.f47.body.getD .skip
def spec_l6Groups.P : Par := (.cons (.val (.list .str)) (.cons (.val (.list (.pair (.int .i64) (.pair (.int .i64) (.one (.list .str)))))) (.cons (.val (.int .i64)) .nil)))
noncomputable def spec_l6Groups.U : SumTab := [(110, [], spec_l6One.S)]
noncomputable def spec_l6Groups.E : Env := mkEnv TY AR spec_l6Groups.U
def spec_l6Groups.D8 : CutD := ⟨[0, 1, 2, 7, 8, 9], (.cons (.val (.list .str)) (.cons (.val (.list (.pair (.int .i64) (.pair (.int .i64) (.one (.list .str)))))) (.cons (.val (.int .i64)) (.cons (.own 9 (.pair (.int .i64) (.pair (.int .i64) (.one (.list (.pair (.int .i64) (.one .str))))))) (.cons (.val (.int .i64)) (.cons (.val (.int .i64)) .nil))))))⟩
def spec_l6Groups.D12 : CutD := ⟨[0, 1, 2, 7, 8, 9, 10], (.cons (.val (.list .str)) (.cons (.val (.list (.pair (.int .i64) (.pair (.int .i64) (.one (.list .str)))))) (.cons (.val (.int .i64)) (.cons (.own 9 (.pair (.int .i64) (.pair (.int .i64) (.one (.list (.pair (.int .i64) (.one .str))))))) (.cons (.val (.int .i64)) (.cons (.val (.int .i64)) (.cons (.val (.int .i64)) .nil)))))))⟩
def spec_l6Groups.D17 : CutD := ⟨[0, 1, 2, 7, 8, 9, 10], (.cons (.val (.list .str)) (.cons (.val (.list (.pair (.int .i64) (.pair (.int .i64) (.one (.list .str)))))) (.cons (.val (.int .i64)) (.cons (.own 9 (.pair (.int .i64) (.pair (.int .i64) (.one (.list (.pair (.int .i64) (.one .str))))))) (.cons (.val (.int .i64)) (.cons (.val (.int .i64)) (.cons (.val (.int .i64)) .nil)))))))⟩
def spec_l6Groups.D20 : CutD := ⟨[0, 1, 2, 7, 8, 10, 63, 64, 65], (.cons (.val (.list .str)) (.cons (.val (.list (.pair (.int .i64) (.pair (.int .i64) (.one (.list .str)))))) (.cons (.val (.int .i64)) (.cons (.own 9 (.pair (.int .i64) (.pair (.int .i64) (.one (.list (.pair (.int .i64) (.one .str))))))) (.cons (.val (.int .i64)) (.cons (.val (.int .i64)) (.cons (.val (.list (.pair (.int .i64) (.pair (.int .i64) (.one (.list .str)))))) (.cons (.val (.int .i64)) (.cons (.val (.int .i64)) .nil)))))))))⟩
noncomputable def spec_l6Groups.T : Tab := fun k => look k [(8, spec_l6Groups.D8), (12, spec_l6Groups.D12), (17, spec_l6Groups.D17), (20, spec_l6Groups.D20)]
def spec_l6Groups.R : List (Nat × Ty) := [(9, .list (.pair (.int .i64) (.pair (.int .i64) (.one (.list (.pair (.int .i64) (.one .str)))))))]
def spec_l6Groups.X : List ResultVar := [.tmp 6]
noncomputable def spec_l6Groups.K := fin spec_l6Groups.E ⟨spec_l6Groups.P, spec_l6Groups.R, fun _ _ => none⟩ spec_l6Groups.X spec_l6Groups.P.len 0
noncomputable def spec_l6Groups.l8 (l : List ByteArray) (h : List (Int × Int × List ByteArray)) (width : Int) (out : List (Int × Int × List (Int × ByteArray))) (more : Int) (i : Int) : Option ((List (Int × Int × List (Int × ByteArray)))) := fixP spec_l6Groups.E spec_l6Groups.T spec_l6Groups.C spec_l6Groups.K 8 spec_l6Groups.D8 (l, h, width, out, more, i)
noncomputable def spec_l6Groups.l12 (l : List ByteArray) (h : List (Int × Int × List ByteArray)) (width : Int) (out : List (Int × Int × List (Int × ByteArray))) (more : Int) (i : Int) (j : Int) : Option ((List (Int × Int × List (Int × ByteArray)))) := fixP spec_l6Groups.E spec_l6Groups.T spec_l6Groups.C spec_l6Groups.K 12 spec_l6Groups.D12 (l, h, width, out, more, i, j)
noncomputable def spec_l6Groups.l17 (l : List ByteArray) (h : List (Int × Int × List ByteArray)) (width : Int) (out : List (Int × Int × List (Int × ByteArray))) (more : Int) (i : Int) (j : Int) : Option ((List (Int × Int × List (Int × ByteArray)))) := fixP spec_l6Groups.E spec_l6Groups.T spec_l6Groups.C spec_l6Groups.K 17 spec_l6Groups.D17 (l, h, width, out, more, i, j)
noncomputable def spec_l6Groups.l20 (l : List ByteArray) (h : List (Int × Int × List ByteArray)) (width : Int) (out : List (Int × Int × List (Int × ByteArray))) (more : Int) (j : Int) (t63 : List (Int × Int × List ByteArray)) (t64 : Int) (t65 : Int) : Option ((List (Int × Int × List (Int × ByteArray)))) := fixP spec_l6Groups.E spec_l6Groups.T spec_l6Groups.C spec_l6Groups.K 20 spec_l6Groups.D20 (l, h, width, out, more, j, t63, t64, t65)
noncomputable def spec_l6Groups.f (l : List ByteArray) (h : List (Int × Int × List ByteArray)) (width : Int) : Option ((List (Int × Int × List (Int × ByteArray)))) := Fn spec_l6Groups.E spec_l6Groups.T spec_l6Groups.C spec_l6Groups.P spec_l6Groups.R spec_l6Groups.X (l, h, width)
theorem spec_l6Groups.l8_eq (l : List ByteArray) (h : List (Int × Int × List ByteArray)) (width : Int) (out : List (Int × Int × List (Int × ByteArray))) (more : Int) (i : Int) : spec_l6Groups.l8 l h width out more i =
  (bif (decide (i < (h.length : Int))) then (spec_l6Groups.l12 l h width out more i (w64 (i + 1))) else (some out)) :=
  (fixP_eq spec_l6Groups.E spec_l6Groups.T spec_l6Groups.C spec_l6Groups.K 8 spec_l6Groups.D8 (l, h, width, out, more, i)).trans (by kernel_rfl)
theorem spec_l6Groups.l12_eq (l : List ByteArray) (h : List (Int × Int × List ByteArray)) (width : Int) (out : List (Int × Int × List (Int × ByteArray))) (more : Int) (i : Int) (j : Int) : spec_l6Groups.l12 l h width out more i j =
  (bif (decide (j < (h.length : Int))) then (bif ((decide (0 ≤ j)) && (decide (j < (h.length : Int)))) then (bif ((decide (0 ≤ (w64 (j - 1)))) && (decide ((w64 (j - 1)) < (h.length : Int)))) then (bif ((decide (0 ≤ (w64 (j - 1)))) && (decide ((w64 (j - 1)) < (h.length : Int)))) then (bif (decide ((w64 ((h.getD (j).toNat (0, 0, ([] : List ByteArray))).1 - (w64 ((h.getD ((w64 (j - 1))).toNat (0, 0, ([] : List ByteArray))).1 + (h.getD ((w64 (j - 1))).toNat (0, 0, ([] : List ByteArray))).2.1)))) ≤ (w64 (2 * width)))) then (spec_l6Groups.l12 l h width out more i (w64 (j + 1))) else
      (spec_l6Groups.l17 l h width out more i j)) else none) else none) else none) else
  (spec_l6Groups.l17 l h width out more i j)) :=
  (fixP_eq spec_l6Groups.E spec_l6Groups.T spec_l6Groups.C spec_l6Groups.K 12 spec_l6Groups.D12 (l, h, width, out, more, i, j)).trans (by kernel_rfl)
theorem spec_l6Groups.l17_eq (l : List ByteArray) (h : List (Int × Int × List ByteArray)) (width : Int) (out : List (Int × Int × List (Int × ByteArray))) (more : Int) (i : Int) (j : Int) : spec_l6Groups.l17 l h width out more i j =
  (bif ((decide (0 ≤ i)) && ((decide (i ≤ j)) && (decide (j ≤ (h.length : Int))))) then ((spec_l6One.f l ((h.take (j).toNat).drop (i).toNat) width more).bind fun y1 =>
   bif (decide ((out.length + [(y1.1, y1.2.1, y1.2.2)].length) ≤ room 40)) then (bif ((decide (0 ≤ i)) && ((decide (i ≤ j)) && (decide (j ≤ (h.length : Int))))) then (spec_l6Groups.l20 l h width (out ++ [(y1.1, y1.2.1, y1.2.2)]) more j ((h.take (j).toNat).drop (i).toNat) (((h.take (j).toNat).drop (i).toNat).length : Int) 0) else none) else none) else none) :=
  (fixP_eq spec_l6Groups.E spec_l6Groups.T spec_l6Groups.C spec_l6Groups.K 17 spec_l6Groups.D17 (l, h, width, out, more, i, j)).trans (by kernel_rfl)
theorem spec_l6Groups.l20_eq (l : List ByteArray) (h : List (Int × Int × List ByteArray)) (width : Int) (out : List (Int × Int × List (Int × ByteArray))) (more : Int) (j : Int) (t63 : List (Int × Int × List ByteArray)) (t64 : Int) (t65 : Int) : spec_l6Groups.l20 l h width out more j t63 t64 t65 =
  (bif (decide (t65 < t64)) then (bif ((decide (0 ≤ t65)) && (decide (t65 < (t63.length : Int)))) then (spec_l6Groups.l20 l h width out (w64 (more + (w64 (((t63.getD (t65).toNat (0, 0, ([] : List ByteArray))).2.2.length : Int) - (t63.getD (t65).toNat (0, 0, ([] : List ByteArray))).2.1)))) j t63 t64 (w64 (t65 + 1))) else none) else
  (spec_l6Groups.l8 l h width out more j)) :=
  (fixP_eq spec_l6Groups.E spec_l6Groups.T spec_l6Groups.C spec_l6Groups.K 20 spec_l6Groups.D20 (l, h, width, out, more, j, t63, t64, t65)).trans (by kernel_rfl)
theorem spec_l6Groups.f_eq (l : List ByteArray) (h : List (Int × Int × List ByteArray)) (width : Int) : spec_l6Groups.f l h width =
  (spec_l6Groups.l8 l h width ([] : List (Int × Int × List (Int × ByteArray))) 0 0) := by kernel_rfl
noncomputable def spec_l6Groups.S : Abs.Sum := ⟨spec_l6Groups.P, spec_l6Groups.R, fun _ => Fn spec_l6Groups.E spec_l6Groups.T spec_l6Groups.C spec_l6Groups.P spec_l6Groups.R spec_l6Groups.X⟩
theorem spec_l6Groups.meets : Meets Tryz.prog 47 spec_l6Groups.S := meets_tab (S := spec_l6Groups.U) tabOk_all (AllMeets.cons spec_l6One.meets AllMeets.nil) (AllStill.cons (fun _ _ _ => rfl) AllStill.nil) follows (by kernel_rfl : Tryz.prog.funcs[47]? = some Tryz.f47) (by kernel_rfl) (by kernel_rfl) (by kernel_rfl)
noncomputable def spec_l15Put.C : Code := Tryz.f48.body.getD .skip
def spec_l15Put.P : Par := (.cons (.val (.list (.pair .str (.pair (.int .i64) (.one (.list (.pair (.int .i64) (.pair (.int .i64) (.one (.list (.pair (.int .i64) (.one .str)))))))))))) (.cons (.agg (.cons (.val .str) (.cons (.val (.int .i64)) (.cons (.own 5 (.pair (.int .i64) (.pair (.int .i64) (.one (.list (.pair (.int .i64) (.one .str))))))) .nil)))) .nil))
noncomputable def spec_l15Put.U : SumTab := []
def spec_l15Put.Z : List (Nat × List Nat) := [(4, [3]), (1000035, [1])]
noncomputable def spec_l15Put.E : Env := mkEnvZ TY AR spec_l15Put.U spec_l15Put.Z
def spec_l15Put.D4 : CutD := ⟨[0, 3, 5], (.cons (.val (.list (.pair .str (.pair (.int .i64) (.one (.list (.pair (.int .i64) (.pair (.int .i64) (.one (.list (.pair (.int .i64) (.one .str)))))))))))) (.cons (.box 6 (.pair .str (.pair (.int .i64) (.one (.list (.pair (.int .i64) (.pair (.int .i64) (.one (.list (.pair (.int .i64) (.one .str))))))))))) (.cons (.val (.int .i64)) .nil)))⟩
def spec_l15Put.D9 : CutD := ⟨[0, 3, 5], (.cons (.val (.list (.pair .str (.pair (.int .i64) (.one (.list (.pair (.int .i64) (.pair (.int .i64) (.one (.list (.pair (.int .i64) (.one .str)))))))))))) (.cons (.box 6 (.pair .str (.pair (.int .i64) (.one (.list (.pair (.int .i64) (.pair (.int .i64) (.one (.list (.pair (.int .i64) (.one .str))))))))))) (.cons (.val (.int .i64)) .nil)))⟩
noncomputable def spec_l15Put.T : Tab := fun k => look k [(4, spec_l15Put.D4), (9, spec_l15Put.D9)]
def spec_l15Put.R : List (Nat × Ty) := [(1, .list (.pair .str (.pair (.int .i64) (.one (.list (.pair (.int .i64) (.pair (.int .i64) (.one (.list (.pair (.int .i64) (.one .str)))))))))))]
def spec_l15Put.X : List ResultVar := [.tmp 4]
noncomputable def spec_l15Put.K := fin spec_l15Put.E ⟨spec_l15Put.P, spec_l15Put.R, fun _ _ => none⟩ spec_l15Put.X spec_l15Put.P.len 0
noncomputable def spec_l15Put.l4 (d : List (ByteArray × Int × List (Int × Int × List (Int × ByteArray)))) (x : ByteArray × Int × List (Int × Int × List (Int × ByteArray))) (k : Int) : Option ((List (ByteArray × Int × List (Int × Int × List (Int × ByteArray))))) := fixP spec_l15Put.E spec_l15Put.T spec_l15Put.C spec_l15Put.K 4 spec_l15Put.D4 (d, x, k)
noncomputable def spec_l15Put.l9 (d : List (ByteArray × Int × List (Int × Int × List (Int × ByteArray)))) (x : ByteArray × Int × List (Int × Int × List (Int × ByteArray))) (k : Int) : Option ((List (ByteArray × Int × List (Int × Int × List (Int × ByteArray))))) := fixP spec_l15Put.E spec_l15Put.T spec_l15Put.C spec_l15Put.K 9 spec_l15Put.D9 (d, x, k)
noncomputable def spec_l15Put.f (d : List (ByteArray × Int × List (Int × Int × List (Int × ByteArray)))) (x_0 : ByteArray) (x_1 : Int) (x_2 : List (Int × Int × List (Int × ByteArray))) : Option ((List (ByteArray × Int × List (Int × Int × List (Int × ByteArray))))) := Fn spec_l15Put.E spec_l15Put.T spec_l15Put.C spec_l15Put.P spec_l15Put.R spec_l15Put.X (d, x_0, x_1, x_2)
theorem spec_l15Put.l4_eq (d : List (ByteArray × Int × List (Int × Int × List (Int × ByteArray)))) (x : ByteArray × Int × List (Int × Int × List (Int × ByteArray))) (k : Int) : spec_l15Put.l4 d x k =
  (bif (decide (k > 0)) then (bif ((decide (0 ≤ (w64 (k - 1)))) && (decide ((w64 (k - 1)) < (d.length : Int)))) then (bif ((!(Op.bytesLess (d.getD ((w64 (k - 1))).toNat (em, 0, ([] : List (Int × Int × List (Int × ByteArray))))).1.toList x.1.toList)) && (!((d.getD ((w64 (k - 1))).toNat (em, 0, ([] : List (Int × Int × List (Int × ByteArray))))).1.toList == x.1.toList))) then (spec_l15Put.l4 d (x.1, x.2.1, x.2.2) (w64 (k - 1))) else
    (spec_l15Put.l9 d (x.1, x.2.1, x.2.2) k)) else none) else
  (spec_l15Put.l9 d (x.1, x.2.1, x.2.2) k)) :=
  (fixP_eq spec_l15Put.E spec_l15Put.T spec_l15Put.C spec_l15Put.K 4 spec_l15Put.D4 (d, x, k)).trans (by kernel_rfl)
theorem spec_l15Put.l9_eq (d : List (ByteArray × Int × List (Int × Int × List (Int × ByteArray)))) (x : ByteArray × Int × List (Int × Int × List (Int × ByteArray))) (k : Int) : spec_l15Put.l9 d x k =
  (bif ((decide (0 ≤ k)) && (decide (k ≤ (d.length : Int)))) then (bif (decide ((([] : List (ByteArray × Int × List (Int × Int × List (Int × ByteArray)))).length + (d.drop (k).toNat).length) ≤ room 48)) then (bif ((decide (0 ≤ k)) && (decide (k ≤ (d.length : Int)))) then (bif (decide ((([] : List (ByteArray × Int × List (Int × Int × List (Int × ByteArray)))).length + (d.take (k).toNat).length) ≤ room 48)) then (bif (decide (((([] : List (ByteArray × Int × List (Int × Int × List (Int × ByteArray)))) ++ (d.take (k).toNat)).length + [(x.1, x.2.1, x.2.2)].length) ≤ room 48)) then (bif (decide ((((([] : List (ByteArray × Int × List (Int × Int × List (Int × ByteArray)))) ++ (d.take (k).toNat)) ++ [(x.1, x.2.1, x.2.2)]).length + (([] : List (ByteArray × Int × List (Int × Int × List (Int × ByteArray)))) ++ (d.drop (k).toNat)).length) ≤ room 48)) then (some (((([] : List (ByteArray × Int × List (Int × Int × List (Int × ByteArray)))) ++ (d.take (k).toNat)) ++ [(x.1, x.2.1, x.2.2)]) ++ (([] : List (ByteArray × Int × List (Int × Int × List (Int × ByteArray)))) ++ (d.drop (k).toNat)))) else none) else none) else none) else none) else none) else none) :=
  (fixP_eq spec_l15Put.E spec_l15Put.T spec_l15Put.C spec_l15Put.K 9 spec_l15Put.D9 (d, x, k)).trans (by kernel_rfl)
theorem spec_l15Put.f_eq (d : List (ByteArray × Int × List (Int × Int × List (Int × ByteArray)))) (x_0 : ByteArray) (x_1 : Int) (x_2 : List (Int × Int × List (Int × ByteArray))) : spec_l15Put.f d x_0 x_1 x_2 =
  (spec_l15Put.l4 d (x_0, x_1, x_2) (d.length : Int)) := by kernel_rfl
noncomputable def spec_l15Put.S : Abs.Sum := ⟨spec_l15Put.P, spec_l15Put.R, fun _ => Fn spec_l15Put.E spec_l15Put.T spec_l15Put.C spec_l15Put.P spec_l15Put.R spec_l15Put.X⟩
theorem spec_l15Put.meets : Meets Tryz.prog 48 spec_l15Put.S := meets_tabZ spec_l15Put.Z (S := spec_l15Put.U) tabOk_all AllMeets.nil AllStill.nil follows (by kernel_rfl : Tryz.prog.funcs[48]? = some Tryz.f48) (by kernel_rfl) (by kernel_rfl) (by kernel_rfl)
noncomputable def spec_DiffFiles.C : Code := Tryz.f9.body.getD .skip
def spec_DiffFiles.P : Par := (.cons (.own 5 (.pair .str (.one (.list .str)))) (.cons (.own 5 (.pair .str (.one (.list .str)))) (.cons (.val (.int .i64)) .nil)))
noncomputable def spec_DiffFiles.U : SumTab := [(43, [], spec_l15Files.S), (44, [], spec_l1In.S), (45, [], spec_l15At.S), (46, [], spec_DiffHunks.S), (47, [], spec_l6Groups.S), (48, [], spec_l15Put.S)]
def spec_DiffFiles.Z : List (Nat × List Nat) := [(0, [0, 1]), (20, [8]), (26, [8])]
noncomputable def spec_DiffFiles.E : Env := mkEnvZ TY AR spec_DiffFiles.U spec_DiffFiles.Z
def spec_DiffFiles.D7 : CutD := ⟨[0, 1, 2], (.cons (.val (.list (.pair .str (.one (.list .str))))) (.cons (.val (.list (.pair .str (.one (.list .str))))) (.cons (.val (.int .i64)) .nil)))⟩
def spec_DiffFiles.D10 : CutD := ⟨[0, 1, 2, 8, 33, 34, 35], (.cons (.val (.list (.pair .str (.one (.list .str))))) (.cons (.val (.list (.pair .str (.one (.list .str))))) (.cons (.val (.int .i64)) (.cons (.own 9 (.pair .str (.pair (.int .i64) (.one (.list (.pair (.int .i64) (.pair (.int .i64) (.one (.list (.pair (.int .i64) (.one .str))))))))))) (.cons (.val (.list (.pair .str (.one (.list .str))))) (.cons (.val (.int .i64)) (.cons (.val (.int .i64)) .nil)))))))⟩
def spec_DiffFiles.D27 : CutD := ⟨[0, 1, 2, 8, 10, 11, 12, 33, 34, 35], (.cons (.val (.list (.pair .str (.one (.list .str))))) (.cons (.val (.list (.pair .str (.one (.list .str))))) (.cons (.val (.int .i64)) (.cons (.own 9 (.pair .str (.pair (.int .i64) (.one (.list (.pair (.int .i64) (.pair (.int .i64) (.one (.list (.pair (.int .i64) (.one .str))))))))))) (.cons (.box 0 (.pair .str (.one (.list .str)))) (.cons (.box 9 (.pair .str (.pair (.int .i64) (.one (.list (.pair (.int .i64) (.pair (.int .i64) (.one (.list (.pair (.int .i64) (.one .str))))))))))) (.cons (.val (.list .str)) (.cons (.val (.list (.pair .str (.one (.list .str))))) (.cons (.val (.int .i64)) (.cons (.val (.int .i64)) .nil))))))))))⟩
def spec_DiffFiles.D42 : CutD := ⟨[0, 2, 8, 82, 83, 84], (.cons (.val (.list (.pair .str (.one (.list .str))))) (.cons (.val (.int .i64)) (.cons (.val (.list (.pair .str (.pair (.int .i64) (.one (.list (.pair (.int .i64) (.pair (.int .i64) (.one (.list (.pair (.int .i64) (.one .str)))))))))))) (.cons (.val (.list (.pair .str (.one (.list .str))))) (.cons (.val (.int .i64)) (.cons (.val (.int .i64)) .nil))))))⟩
noncomputable def spec_DiffFiles.T : Tab := fun k => look k [(7, spec_DiffFiles.D7), (10, spec_DiffFiles.D10), (27, spec_DiffFiles.D27), (42, spec_DiffFiles.D42)]
def spec_DiffFiles.R : List (Nat × Ty) := [(0, .list (.pair .str (.pair (.int .i64) (.one (.list (.pair (.int .i64) (.pair (.int .i64) (.one (.list (.pair (.int .i64) (.one .str))))))))))), (0, .bool)]
def spec_DiffFiles.X : List ResultVar := [.tmp 6, .tmp 7]
noncomputable def spec_DiffFiles.K := fin spec_DiffFiles.E ⟨spec_DiffFiles.P, spec_DiffFiles.R, fun _ _ => none⟩ spec_DiffFiles.X spec_DiffFiles.P.len 0
noncomputable def spec_DiffFiles.l7 (a : List (ByteArray × List ByteArray)) (b : List (ByteArray × List ByteArray)) (width : Int) : Option ((List (ByteArray × Int × List (Int × Int × List (Int × ByteArray)))) × Bool) := fixP spec_DiffFiles.E spec_DiffFiles.T spec_DiffFiles.C spec_DiffFiles.K 7 spec_DiffFiles.D7 (a, b, width)
noncomputable def spec_DiffFiles.l10 (a : List (ByteArray × List ByteArray)) (b : List (ByteArray × List ByteArray)) (width : Int) (out : List (ByteArray × Int × List (Int × Int × List (Int × ByteArray)))) (t33 : List (ByteArray × List ByteArray)) (t34 : Int) (t35 : Int) : Option ((List (ByteArray × Int × List (Int × Int × List (Int × ByteArray)))) × Bool) := fixP spec_DiffFiles.E spec_DiffFiles.T spec_DiffFiles.C spec_DiffFiles.K 10 spec_DiffFiles.D10 (a, b, width, out, t33, t34, t35)
noncomputable def spec_DiffFiles.l27 (a : List (ByteArray × List ByteArray)) (b : List (ByteArray × List ByteArray)) (width : Int) (out : List (ByteArray × Int × List (Int × Int × List (Int × ByteArray)))) (x : ByteArray × List ByteArray) (d : ByteArray × Int × List (Int × Int × List (Int × ByteArray))) (lines : List ByteArray) (t33 : List (ByteArray × List ByteArray)) (t34 : Int) (t35 : Int) : Option ((List (ByteArray × Int × List (Int × Int × List (Int × ByteArray)))) × Bool) := fixP spec_DiffFiles.E spec_DiffFiles.T spec_DiffFiles.C spec_DiffFiles.K 27 spec_DiffFiles.D27 (a, b, width, out, x, d, lines, t33, t34, t35)
noncomputable def spec_DiffFiles.l42 (a : List (ByteArray × List ByteArray)) (width : Int) (out : List (ByteArray × Int × List (Int × Int × List (Int × ByteArray)))) (t82 : List (ByteArray × List ByteArray)) (t83 : Int) (t84 : Int) : Option ((List (ByteArray × Int × List (Int × Int × List (Int × ByteArray)))) × Bool) := fixP spec_DiffFiles.E spec_DiffFiles.T spec_DiffFiles.C spec_DiffFiles.K 42 spec_DiffFiles.D42 (a, width, out, t82, t83, t84)
noncomputable def spec_DiffFiles.f (a : List (ByteArray × List ByteArray)) (b : List (ByteArray × List ByteArray)) (width : Int) : Option ((List (ByteArray × Int × List (Int × Int × List (Int × ByteArray)))) × Bool) := Fn spec_DiffFiles.E spec_DiffFiles.T spec_DiffFiles.C spec_DiffFiles.P spec_DiffFiles.R spec_DiffFiles.X (a, b, width)
theorem spec_DiffFiles.l7_eq (a : List (ByteArray × List ByteArray)) (b : List (ByteArray × List ByteArray)) (width : Int) : spec_DiffFiles.l7 a b width =
  (spec_DiffFiles.l10 a b width ([] : List (ByteArray × Int × List (Int × Int × List (Int × ByteArray)))) a (a.length : Int) 0) :=
  (fixP_eq spec_DiffFiles.E spec_DiffFiles.T spec_DiffFiles.C spec_DiffFiles.K 7 spec_DiffFiles.D7 (a, b, width)).trans (by kernel_rfl)
theorem spec_DiffFiles.l10_eq (a : List (ByteArray × List ByteArray)) (b : List (ByteArray × List ByteArray)) (width : Int) (out : List (ByteArray × Int × List (Int × Int × List (Int × ByteArray)))) (t33 : List (ByteArray × List ByteArray)) (t34 : Int) (t35 : Int) : spec_DiffFiles.l10 a b width out t33 t34 t35 =
  (bif (decide (t35 < t34)) then (bif ((decide (0 ≤ t35)) && (decide (t35 < (t33.length : Int)))) then ((spec_l15At.f b (t33.getD (t35).toNat (em, ([] : List ByteArray))).1).bind fun y1 =>
    bif (decide (y1 ≥ 0)) then (bif ((decide (0 ≤ y1)) && (decide (y1 < (b.length : Int)))) then (spec_DiffFiles.l27 a b width out (t33.getD (t35).toNat (em, ([] : List ByteArray))) ((t33.getD (t35).toNat (em, ([] : List ByteArray))).1, 3, ([] : List (Int × Int × List (Int × ByteArray)))) (b.getD (y1).toNat (em, ([] : List ByteArray))).2 t33 t34 t35) else none) else
    (spec_DiffFiles.l27 a b width out (t33.getD (t35).toNat (em, ([] : List ByteArray))) ((t33.getD (t35).toNat (em, ([] : List ByteArray))).1, 2, ([] : List (Int × Int × List (Int × ByteArray)))) ([] : List ByteArray) t33 t34 t35)) else none) else
  (spec_DiffFiles.l42 a width out b (b.length : Int) 0)) :=
  (fixP_eq spec_DiffFiles.E spec_DiffFiles.T spec_DiffFiles.C spec_DiffFiles.K 10 spec_DiffFiles.D10 (a, b, width, out, t33, t34, t35)).trans (by kernel_rfl)
theorem spec_DiffFiles.l27_eq (a : List (ByteArray × List ByteArray)) (b : List (ByteArray × List ByteArray)) (width : Int) (out : List (ByteArray × Int × List (Int × Int × List (Int × ByteArray)))) (x : ByteArray × List ByteArray) (d : ByteArray × Int × List (Int × Int × List (Int × ByteArray))) (lines : List ByteArray) (t33 : List (ByteArray × List ByteArray)) (t34 : Int) (t35 : Int) : spec_DiffFiles.l27 a b width out x d lines t33 t34 t35 =
  ((spec_DiffHunks.f x.2 lines).bind fun y1 =>
  bif (!y1.2) then (some (([] : List (ByteArray × Int × List (Int × Int × List (Int × ByteArray)))), false)) else
  ((spec_l6Groups.f x.2 y1.1 width).bind fun y2 =>
   bif (decide (d.2.1 = 2)) then (bif (decide ((out.length + [(d.1, d.2.1, y2)].length) ≤ room 48)) then (spec_DiffFiles.l10 a b width (out ++ [(d.1, d.2.1, y2)]) t33 t34 (w64 (t35 + 1))) else none) else
   (bif (decide ((y1.1.length : Int) > 0)) then (bif (decide ((out.length + [(d.1, d.2.1, y2)].length) ≤ room 48)) then (spec_DiffFiles.l10 a b width (out ++ [(d.1, d.2.1, y2)]) t33 t34 (w64 (t35 + 1))) else none) else
    (spec_DiffFiles.l10 a b width out t33 t34 (w64 (t35 + 1)))))) :=
  (fixP_eq spec_DiffFiles.E spec_DiffFiles.T spec_DiffFiles.C spec_DiffFiles.K 27 spec_DiffFiles.D27 (a, b, width, out, x, d, lines, t33, t34, t35)).trans (by kernel_rfl)
theorem spec_DiffFiles.l42_eq (a : List (ByteArray × List ByteArray)) (width : Int) (out : List (ByteArray × Int × List (Int × Int × List (Int × ByteArray)))) (t82 : List (ByteArray × List ByteArray)) (t83 : Int) (t84 : Int) : spec_DiffFiles.l42 a width out t82 t83 t84 =
  (bif (decide (t84 < t83)) then (bif ((decide (0 ≤ t84)) && (decide (t84 < (t82.length : Int)))) then ((spec_l15At.f a (t82.getD (t84).toNat (em, ([] : List ByteArray))).1).bind fun y1 =>
    bif (decide (y1 < 0)) then ((spec_DiffHunks.f ([] : List ByteArray) (t82.getD (t84).toNat (em, ([] : List ByteArray))).2).bind fun y2 =>
     (spec_l6Groups.f ([] : List ByteArray) y2.1 width).bind fun y3 =>
     (spec_l15Put.f out (t82.getD (t84).toNat (em, ([] : List ByteArray))).1 1 y3).bind fun y4 =>
     spec_DiffFiles.l42 a width y4 t82 t83 (w64 (t84 + 1))) else
    (spec_DiffFiles.l42 a width out t82 t83 (w64 (t84 + 1)))) else none) else (some (out, true))) :=
  (fixP_eq spec_DiffFiles.E spec_DiffFiles.T spec_DiffFiles.C spec_DiffFiles.K 42 spec_DiffFiles.D42 (a, width, out, t82, t83, t84)).trans (by kernel_rfl)
theorem spec_DiffFiles.f_eq (a : List (ByteArray × List ByteArray)) (b : List (ByteArray × List ByteArray)) (width : Int) : spec_DiffFiles.f a b width =
  ((spec_l15Files.f a).bind fun y1 =>
  bif (!y1) then (some (([] : List (ByteArray × Int × List (Int × Int × List (Int × ByteArray)))), false)) else
  ((spec_l15Files.f b).bind fun y2 =>
   bif (!y2) then (some (([] : List (ByteArray × Int × List (Int × Int × List (Int × ByteArray)))), false)) else
   ((spec_l1In.f width 0 20).bind fun y3 =>
    bif (!y3) then (some (([] : List (ByteArray × Int × List (Int × Int × List (Int × ByteArray)))), false)) else
    (spec_DiffFiles.l7 a b width)))) := by kernel_rfl
noncomputable def spec_DiffFiles.S : Abs.Sum := ⟨spec_DiffFiles.P, spec_DiffFiles.R, fun _ => Fn spec_DiffFiles.E spec_DiffFiles.T spec_DiffFiles.C spec_DiffFiles.P spec_DiffFiles.R spec_DiffFiles.X⟩
theorem spec_DiffFiles.meets : Meets Tryz.prog 9 spec_DiffFiles.S := meets_tabZ spec_DiffFiles.Z (S := spec_DiffFiles.U) tabOk_all (AllMeets.cons spec_l15Files.meets (AllMeets.cons spec_l1In.meets (AllMeets.cons spec_l15At.meets (AllMeets.cons spec_DiffHunks.meets (AllMeets.cons spec_l6Groups.meets (AllMeets.cons spec_l15Put.meets AllMeets.nil)))))) (AllStill.cons (fun _ _ _ => rfl) (AllStill.cons (fun _ _ _ => rfl) (AllStill.cons (fun _ _ _ => rfl) (AllStill.cons (fun _ _ _ => rfl) (AllStill.cons (fun _ _ _ => rfl) (AllStill.cons (fun _ _ _ => rfl) AllStill.nil)))))) follows (by kernel_rfl : Tryz.prog.funcs[9]? = some Tryz.f9) (by kernel_rfl) (by kernel_rfl) (by kernel_rfl)
noncomputable def impl_in.C : Code := Tryz.f114.body.getD .skip
def impl_in.P : Par := (.cons (.val (.int .i64)) (.cons (.val (.int .i64)) (.cons (.val (.int .i64)) .nil)))
noncomputable def impl_in.U : SumTab := []
noncomputable def impl_in.E : Env := mkEnv TY AR impl_in.U
noncomputable def impl_in.T : Tab := fun k => look k []
def impl_in.R : List (Nat × Ty) := [(0, .bool)]
def impl_in.X : List ResultVar := [.tmp 6]
noncomputable def impl_in.f (n : Int) (low : Int) (high : Int) : Option (Bool) := Fn impl_in.E impl_in.T impl_in.C impl_in.P impl_in.R impl_in.X (n, low, high)
theorem impl_in.f_eq (n : Int) (low : Int) (high : Int) : impl_in.f n low high =
  (bif (decide (n ≥ low)) then (some (decide (n ≤ high))) else (some false)) := by kernel_rfl
noncomputable def impl_in.S : Abs.Sum := ⟨impl_in.P, impl_in.R, fun _ => Fn impl_in.E impl_in.T impl_in.C impl_in.P impl_in.R impl_in.X⟩
theorem impl_in.meets : Meets Tryz.prog 114 impl_in.S := meets_tab (S := impl_in.U) tabOk_all AllMeets.nil AllStill.nil follows (by kernel_rfl : Tryz.prog.funcs[114]? = some Tryz.f114) (by kernel_rfl) (by kernel_rfl) (by kernel_rfl)
noncomputable def impl_isName.C : Code := Tryz.f112.body.getD .skip
def impl_isName.P : Par := (.cons (.val .str) .nil)
noncomputable def impl_isName.U : SumTab := [(114, [], impl_in.S), (177, [], strings_Trim.S)]
noncomputable def impl_isName.E : Env := mkEnv TY AR impl_isName.U
noncomputable def impl_isName.T : Tab := fun k => look k []
def impl_isName.R : List (Nat × Ty) := [(0, .bool)]
def impl_isName.X : List ResultVar := [.tmp 2]
noncomputable def impl_isName.f (s : ByteArray) : Option (Bool) := Fn impl_isName.E impl_isName.T impl_isName.C impl_isName.P impl_isName.R impl_isName.X s
theorem impl_isName.f_eq (s : ByteArray) : impl_isName.f s =
  ((impl_in.f (s.size : Int) 1 12).bind fun y1 =>
  bif y1 then ((strings_Trim.f s (⟨#[97, 98, 99, 100, 101, 102, 103, 104, 105, 106, 107, 108, 109, 110, 111, 112, 113, 114, 115, 116, 117, 118, 119, 120, 121, 122, 48, 49, 50, 51, 52, 53, 54, 55, 56, 57, 46, 47]⟩ : ByteArray)).bind fun y2 =>
   some (y2.toList == em.toList)) else (some false)) := by kernel_rfl
noncomputable def impl_isName.S : Abs.Sum := ⟨impl_isName.P, impl_isName.R, fun _ => Fn impl_isName.E impl_isName.T impl_isName.C impl_isName.P impl_isName.R impl_isName.X⟩
theorem impl_isName.meets : Meets Tryz.prog 112 impl_isName.S := meets_tab (S := impl_isName.U) tabOk_all (AllMeets.cons impl_in.meets (AllMeets.cons strings_Trim.meets AllMeets.nil)) (AllStill.cons (fun _ _ _ => rfl) (AllStill.cons (fun _ _ _ => rfl) AllStill.nil)) follows (by kernel_rfl : Tryz.prog.funcs[112]? = some Tryz.f112) (by kernel_rfl) (by kernel_rfl) (by kernel_rfl)
noncomputable def impl_isLine.C : Code := Tryz.f247.body.getD .skip
def impl_isLine.P : Par := (.cons (.val .str) .nil)
noncomputable def impl_isLine.U : SumTab := [(114, [], impl_in.S), (289, [], strings_Contains.S)]
noncomputable def impl_isLine.E : Env := mkEnv TY AR impl_isLine.U
noncomputable def impl_isLine.T : Tab := fun k => look k []
def impl_isLine.R : List (Nat × Ty) := [(0, .bool)]
def impl_isLine.X : List ResultVar := [.tmp 2]
noncomputable def impl_isLine.f (line : ByteArray) : Option (Bool) := Fn impl_isLine.E impl_isLine.T impl_isLine.C impl_isLine.P impl_isLine.R impl_isLine.X line
theorem impl_isLine.f_eq (line : ByteArray) : impl_isLine.f line =
  ((impl_in.f (line.size : Int) 1 30).bind fun y1 =>
  bif y1 then (bif ((decide (0 ≤ (w64 ((line.size : Int) - 1)))) && (decide ((w64 ((line.size : Int) - 1)) ≤ (line.size : Int)))) then ((strings_Contains.f (line.extract 0 ((w64 ((line.size : Int) - 1))).toNat) (⟨#[10]⟩ : ByteArray)).bind fun y2 =>
    some (!y2)) else none) else (some false)) := by kernel_rfl
noncomputable def impl_isLine.S : Abs.Sum := ⟨impl_isLine.P, impl_isLine.R, fun _ => Fn impl_isLine.E impl_isLine.T impl_isLine.C impl_isLine.P impl_isLine.R impl_isLine.X⟩
theorem impl_isLine.meets : Meets Tryz.prog 247 impl_isLine.S := meets_tab (S := impl_isLine.U) tabOk_all (AllMeets.cons impl_in.meets (AllMeets.cons strings_Contains.meets AllMeets.nil)) (AllStill.cons (fun _ _ _ => rfl) (AllStill.cons (fun _ _ _ => rfl) AllStill.nil)) follows (by kernel_rfl : Tryz.prog.funcs[247]? = some Tryz.f247) (by kernel_rfl) (by kernel_rfl) (by kernel_rfl)
noncomputable def impl_areLines_1.C : Code := Tryz.f246.body.getD .skip
def impl_areLines_1.P : Par := (.cons (.val .str) .nil)
noncomputable def impl_areLines_1.U : SumTab := [(247, [], impl_isLine.S)]
noncomputable def impl_areLines_1.E : Env := mkEnv TY AR impl_areLines_1.U
noncomputable def impl_areLines_1.T : Tab := fun k => look k []
def impl_areLines_1.R : List (Nat × Ty) := [(0, .bool)]
def impl_areLines_1.X : List ResultVar := [.tmp 2]
noncomputable def impl_areLines_1.f (line : ByteArray) : Option (Bool) := Fn impl_areLines_1.E impl_areLines_1.T impl_areLines_1.C impl_areLines_1.P impl_areLines_1.R impl_areLines_1.X line
theorem impl_areLines_1.f_eq (line : ByteArray) : impl_areLines_1.f line =
  ((impl_isLine.f line).bind fun y1 =>
  some (!y1)) := by kernel_rfl
noncomputable def impl_areLines_1.S : Abs.Sum := ⟨impl_areLines_1.P, impl_areLines_1.R, fun _ => Fn impl_areLines_1.E impl_areLines_1.T impl_areLines_1.C impl_areLines_1.P impl_areLines_1.R impl_areLines_1.X⟩
theorem impl_areLines_1.meets : Meets Tryz.prog 246 impl_areLines_1.S := meets_tab (S := impl_areLines_1.U) tabOk_all (AllMeets.cons impl_isLine.meets AllMeets.nil) (AllStill.cons (fun _ _ _ => rfl) AllStill.nil) follows (by kernel_rfl : Tryz.prog.funcs[246]? = some Tryz.f246) (by kernel_rfl) (by kernel_rfl) (by kernel_rfl)
noncomputable def slices_IndexFunc_Lstring_string__impl_areLines_1.C : Code := Tryz.f288.body.getD .skip
def slices_IndexFunc_Lstring_string__impl_areLines_1.P : Par := (.cons (.val (.list .str)) (.cons (.fn 246 .nil) .nil))
noncomputable def slices_IndexFunc_Lstring_string__impl_areLines_1.U : SumTab := [(246, [], impl_areLines_1.S)]
noncomputable def slices_IndexFunc_Lstring_string__impl_areLines_1.E : Env := mkEnv TY AR slices_IndexFunc_Lstring_string__impl_areLines_1.U
def slices_IndexFunc_Lstring_string__impl_areLines_1.D4 : CutD := ⟨[0, 1, 7, 8], (.cons (.val (.list .str)) (.cons (.fn 246 .nil) (.cons (.val (.int .i64)) (.cons (.val (.int .i64)) .nil))))⟩
noncomputable def slices_IndexFunc_Lstring_string__impl_areLines_1.T : Tab := fun k => look k [(4, slices_IndexFunc_Lstring_string__impl_areLines_1.D4)]
def slices_IndexFunc_Lstring_string__impl_areLines_1.R : List (Nat × Ty) := [(0, .int .i64)]
def slices_IndexFunc_Lstring_string__impl_areLines_1.X : List ResultVar := [.tmp 4]
noncomputable def slices_IndexFunc_Lstring_string__impl_areLines_1.K := fin slices_IndexFunc_Lstring_string__impl_areLines_1.E ⟨slices_IndexFunc_Lstring_string__impl_areLines_1.P, slices_IndexFunc_Lstring_string__impl_areLines_1.R, fun _ _ => none⟩ slices_IndexFunc_Lstring_string__impl_areLines_1.X slices_IndexFunc_Lstring_string__impl_areLines_1.P.len 0
noncomputable def slices_IndexFunc_Lstring_string__impl_areLines_1.l4 (s : List ByteArray) (t7 : Int) (t8 : Int) : Option (Int) := fixP slices_IndexFunc_Lstring_string__impl_areLines_1.E slices_IndexFunc_Lstring_string__impl_areLines_1.T slices_IndexFunc_Lstring_string__impl_areLines_1.C slices_IndexFunc_Lstring_string__impl_areLines_1.K 4 slices_IndexFunc_Lstring_string__impl_areLines_1.D4 (s, t7, t8)
noncomputable def slices_IndexFunc_Lstring_string__impl_areLines_1.f (s : List ByteArray) : Option (Int) := Fn slices_IndexFunc_Lstring_string__impl_areLines_1.E slices_IndexFunc_Lstring_string__impl_areLines_1.T slices_IndexFunc_Lstring_string__impl_areLines_1.C slices_IndexFunc_Lstring_string__impl_areLines_1.P slices_IndexFunc_Lstring_string__impl_areLines_1.R slices_IndexFunc_Lstring_string__impl_areLines_1.X s
theorem slices_IndexFunc_Lstring_string__impl_areLines_1.l4_eq (s : List ByteArray) (t7 : Int) (t8 : Int) : slices_IndexFunc_Lstring_string__impl_areLines_1.l4 s t7 t8 =
  (bif (decide (t8 < t7)) then (bif ((decide (0 ≤ t8)) && (decide (t8 < (s.length : Int)))) then ((impl_areLines_1.f (s.getD (t8).toNat em)).bind fun y1 =>
    bif y1 then (some t8) else
    (slices_IndexFunc_Lstring_string__impl_areLines_1.l4 s t7 (w64 (t8 + 1)))) else none) else (some (-1))) :=
  (fixP_eq slices_IndexFunc_Lstring_string__impl_areLines_1.E slices_IndexFunc_Lstring_string__impl_areLines_1.T slices_IndexFunc_Lstring_string__impl_areLines_1.C slices_IndexFunc_Lstring_string__impl_areLines_1.K 4 slices_IndexFunc_Lstring_string__impl_areLines_1.D4 (s, t7, t8)).trans (by kernel_rfl)
theorem slices_IndexFunc_Lstring_string__impl_areLines_1.f_eq (s : List ByteArray) : slices_IndexFunc_Lstring_string__impl_areLines_1.f s =
  (slices_IndexFunc_Lstring_string__impl_areLines_1.l4 s (s.length : Int) 0) := by kernel_rfl
noncomputable def slices_IndexFunc_Lstring_string__impl_areLines_1.S : Abs.Sum := ⟨slices_IndexFunc_Lstring_string__impl_areLines_1.P, slices_IndexFunc_Lstring_string__impl_areLines_1.R, fun _ => Fn slices_IndexFunc_Lstring_string__impl_areLines_1.E slices_IndexFunc_Lstring_string__impl_areLines_1.T slices_IndexFunc_Lstring_string__impl_areLines_1.C slices_IndexFunc_Lstring_string__impl_areLines_1.P slices_IndexFunc_Lstring_string__impl_areLines_1.R slices_IndexFunc_Lstring_string__impl_areLines_1.X⟩
theorem slices_IndexFunc_Lstring_string__impl_areLines_1.meets : Meets Tryz.prog 288 slices_IndexFunc_Lstring_string__impl_areLines_1.S := meets_tab (S := slices_IndexFunc_Lstring_string__impl_areLines_1.U) tabOk_all (AllMeets.cons impl_areLines_1.meets AllMeets.nil) (AllStill.cons (fun _ _ _ => rfl) AllStill.nil) follows (by kernel_rfl : Tryz.prog.funcs[288]? = some Tryz.f288) (by kernel_rfl) (by kernel_rfl) (by kernel_rfl)
noncomputable def slices_ContainsFunc_Lstring_string__impl_areLines_1.C : Code := Tryz.f245.body.getD .skip
def slices_ContainsFunc_Lstring_string__impl_areLines_1.P : Par := (.cons (.val (.list .str)) (.cons (.fn 246 .nil) .nil))
noncomputable def slices_ContainsFunc_Lstring_string__impl_areLines_1.U : SumTab := [(288, [246], slices_IndexFunc_Lstring_string__impl_areLines_1.S)]
noncomputable def slices_ContainsFunc_Lstring_string__impl_areLines_1.E : Env := mkEnv TY AR slices_ContainsFunc_Lstring_string__impl_areLines_1.U
noncomputable def slices_ContainsFunc_Lstring_string__impl_areLines_1.T : Tab := fun k => look k []
def slices_ContainsFunc_Lstring_string__impl_areLines_1.R : List (Nat × Ty) := [(0, .bool)]
def slices_ContainsFunc_Lstring_string__impl_areLines_1.X : List ResultVar := [.tmp 4]
noncomputable def slices_ContainsFunc_Lstring_string__impl_areLines_1.f (s : List ByteArray) : Option (Bool) := Fn slices_ContainsFunc_Lstring_string__impl_areLines_1.E slices_ContainsFunc_Lstring_string__impl_areLines_1.T slices_ContainsFunc_Lstring_string__impl_areLines_1.C slices_ContainsFunc_Lstring_string__impl_areLines_1.P slices_ContainsFunc_Lstring_string__impl_areLines_1.R slices_ContainsFunc_Lstring_string__impl_areLines_1.X s
theorem slices_ContainsFunc_Lstring_string__impl_areLines_1.f_eq (s : List ByteArray) : slices_ContainsFunc_Lstring_string__impl_areLines_1.f s =
  ((slices_IndexFunc_Lstring_string__impl_areLines_1.f s).bind fun y1 =>
  some (decide (y1 ≥ 0))) := by kernel_rfl
noncomputable def slices_ContainsFunc_Lstring_string__impl_areLines_1.S : Abs.Sum := ⟨slices_ContainsFunc_Lstring_string__impl_areLines_1.P, slices_ContainsFunc_Lstring_string__impl_areLines_1.R, fun _ => Fn slices_ContainsFunc_Lstring_string__impl_areLines_1.E slices_ContainsFunc_Lstring_string__impl_areLines_1.T slices_ContainsFunc_Lstring_string__impl_areLines_1.C slices_ContainsFunc_Lstring_string__impl_areLines_1.P slices_ContainsFunc_Lstring_string__impl_areLines_1.R slices_ContainsFunc_Lstring_string__impl_areLines_1.X⟩
theorem slices_ContainsFunc_Lstring_string__impl_areLines_1.meets : Meets Tryz.prog 245 slices_ContainsFunc_Lstring_string__impl_areLines_1.S := meets_tab (S := slices_ContainsFunc_Lstring_string__impl_areLines_1.U) tabOk_all (AllMeets.cons slices_IndexFunc_Lstring_string__impl_areLines_1.meets AllMeets.nil) (AllStill.cons (fun _ _ _ => rfl) AllStill.nil) follows (by kernel_rfl : Tryz.prog.funcs[245]? = some Tryz.f245) (by kernel_rfl) (by kernel_rfl) (by kernel_rfl)
noncomputable def impl_areLines.C : Code := Tryz.f178.body.getD .skip
def impl_areLines.P : Par := (.cons (.val (.list .str)) .nil)
noncomputable def impl_areLines.U : SumTab := [(245, [246], slices_ContainsFunc_Lstring_string__impl_areLines_1.S)]
noncomputable def impl_areLines.E : Env := mkEnv TY AR impl_areLines.U
noncomputable def impl_areLines.T : Tab := fun k => look k []
def impl_areLines.R : List (Nat × Ty) := [(0, .bool)]
def impl_areLines.X : List ResultVar := [.tmp 2]
noncomputable def impl_areLines.f (l : List ByteArray) : Option (Bool) := Fn impl_areLines.E impl_areLines.T impl_areLines.C impl_areLines.P impl_areLines.R impl_areLines.X l
theorem impl_areLines.f_eq (l : List ByteArray) : impl_areLines.f l =
  (bif (decide ((l.length : Int) ≤ 40)) then ((slices_ContainsFunc_Lstring_string__impl_areLines_1.f l).bind fun y1 =>
   some (!y1)) else (some false)) := by kernel_rfl
noncomputable def impl_areLines.S : Abs.Sum := ⟨impl_areLines.P, impl_areLines.R, fun _ => Fn impl_areLines.E impl_areLines.T impl_areLines.C impl_areLines.P impl_areLines.R impl_areLines.X⟩
theorem impl_areLines.meets : Meets Tryz.prog 178 impl_areLines.S := meets_tab (S := impl_areLines.U) tabOk_all (AllMeets.cons slices_ContainsFunc_Lstring_string__impl_areLines_1.meets AllMeets.nil) (AllStill.cons (fun _ _ _ => rfl) AllStill.nil) follows (by kernel_rfl : Tryz.prog.funcs[178]? = some Tryz.f178) (by kernel_rfl) (by kernel_rfl) (by kernel_rfl)
noncomputable def internal_stringslite_HasSuffix.C : Code := Tryz.f290.body.getD .skip
def internal_stringslite_HasSuffix.P : Par := (.cons (.val .str) (.cons (.val .str) .nil))
noncomputable def internal_stringslite_HasSuffix.U : SumTab := []
noncomputable def internal_stringslite_HasSuffix.E : Env := mkEnv TY AR internal_stringslite_HasSuffix.U
noncomputable def internal_stringslite_HasSuffix.T : Tab := fun k => look k []
def internal_stringslite_HasSuffix.R : List (Nat × Ty) := [(0, .bool)]
def internal_stringslite_HasSuffix.X : List ResultVar := [.tmp 4]
noncomputable def internal_stringslite_HasSuffix.f (s : ByteArray) (suffix : ByteArray) : Option (Bool) := Fn internal_stringslite_HasSuffix.E internal_stringslite_HasSuffix.T internal_stringslite_HasSuffix.C internal_stringslite_HasSuffix.P internal_stringslite_HasSuffix.R internal_stringslite_HasSuffix.X (s, suffix)
theorem internal_stringslite_HasSuffix.f_eq (s : ByteArray) (suffix : ByteArray) : internal_stringslite_HasSuffix.f s suffix =
  (bif (decide ((s.size : Int) ≥ (suffix.size : Int))) then (bif ((decide (0 ≤ (w64 ((s.size : Int) - (suffix.size : Int))))) && (decide ((w64 ((s.size : Int) - (suffix.size : Int))) ≤ (s.size : Int)))) then (some ((s.extract ((w64 ((s.size : Int) - (suffix.size : Int)))).toNat s.size).toList == suffix.toList)) else none) else (some false)) := by kernel_rfl
noncomputable def internal_stringslite_HasSuffix.S : Abs.Sum := ⟨internal_stringslite_HasSuffix.P, internal_stringslite_HasSuffix.R, fun _ => Fn internal_stringslite_HasSuffix.E internal_stringslite_HasSuffix.T internal_stringslite_HasSuffix.C internal_stringslite_HasSuffix.P internal_stringslite_HasSuffix.R internal_stringslite_HasSuffix.X⟩
theorem internal_stringslite_HasSuffix.meets : Meets Tryz.prog 290 internal_stringslite_HasSuffix.S := meets_tab (S := internal_stringslite_HasSuffix.U) tabOk_all AllMeets.nil AllStill.nil follows (by kernel_rfl : Tryz.prog.funcs[290]? = some Tryz.f290) (by kernel_rfl) (by kernel_rfl) (by kernel_rfl)
noncomputable def strings_HasSuffix.C : Code := Tryz.f248.body.getD .skip
def strings_HasSuffix.P : Par := (.cons (.val .str) (.cons (.val .str) .nil))
noncomputable def strings_HasSuffix.U : SumTab := [(290, [], internal_stringslite_HasSuffix.S)]
noncomputable def strings_HasSuffix.E : Env := mkEnv TY AR strings_HasSuffix.U
noncomputable def strings_HasSuffix.T : Tab := fun k => look k []
def strings_HasSuffix.R : List (Nat × Ty) := [(0, .bool)]
def strings_HasSuffix.X : List ResultVar := [.tmp 4]
noncomputable def strings_HasSuffix.f (s : ByteArray) (suffix : ByteArray) : Option (Bool) := Fn strings_HasSuffix.E strings_HasSuffix.T strings_HasSuffix.C strings_HasSuffix.P strings_HasSuffix.R strings_HasSuffix.X (s, suffix)
theorem strings_HasSuffix.f_eq (s : ByteArray) (suffix : ByteArray) : strings_HasSuffix.f s suffix =
  ((internal_stringslite_HasSuffix.f s suffix).bind fun y1 =>
  some y1) := by kernel_rfl
noncomputable def strings_HasSuffix.S : Abs.Sum := ⟨strings_HasSuffix.P, strings_HasSuffix.R, fun _ => Fn strings_HasSuffix.E strings_HasSuffix.T strings_HasSuffix.C strings_HasSuffix.P strings_HasSuffix.R strings_HasSuffix.X⟩
theorem strings_HasSuffix.meets : Meets Tryz.prog 248 strings_HasSuffix.S := meets_tab (S := strings_HasSuffix.U) tabOk_all (AllMeets.cons internal_stringslite_HasSuffix.meets AllMeets.nil) (AllStill.cons (fun _ _ _ => rfl) AllStill.nil) follows (by kernel_rfl : Tryz.prog.funcs[248]? = some Tryz.f248) (by kernel_rfl) (by kernel_rfl) (by kernel_rfl)
noncomputable def impl_isEnded.C : Code := Tryz.f179.body.getD .skip
def impl_isEnded.P : Par := (.cons (.val .str) .nil)
noncomputable def impl_isEnded.U : SumTab := [(248, [], strings_HasSuffix.S)]
noncomputable def impl_isEnded.E : Env := mkEnv TY AR impl_isEnded.U
noncomputable def impl_isEnded.T : Tab := fun k => look k []
def impl_isEnded.R : List (Nat × Ty) := [(0, .bool)]
def impl_isEnded.X : List ResultVar := [.tmp 2]
noncomputable def impl_isEnded.f (line : ByteArray) : Option (Bool) := Fn impl_isEnded.E impl_isEnded.T impl_isEnded.C impl_isEnded.P impl_isEnded.R impl_isEnded.X line
theorem impl_isEnded.f_eq (line : ByteArray) : impl_isEnded.f line =
  ((strings_HasSuffix.f line (⟨#[10]⟩ : ByteArray)).bind fun y1 =>
  some y1) := by kernel_rfl
noncomputable def impl_isEnded.S : Abs.Sum := ⟨impl_isEnded.P, impl_isEnded.R, fun _ => Fn impl_isEnded.E impl_isEnded.T impl_isEnded.C impl_isEnded.P impl_isEnded.R impl_isEnded.X⟩
theorem impl_isEnded.meets : Meets Tryz.prog 179 impl_isEnded.S := meets_tab (S := impl_isEnded.U) tabOk_all (AllMeets.cons strings_HasSuffix.meets AllMeets.nil) (AllStill.cons (fun _ _ _ => rfl) AllStill.nil) follows (by kernel_rfl : Tryz.prog.funcs[179]? = some Tryz.f179) (by kernel_rfl) (by kernel_rfl) (by kernel_rfl)
noncomputable def impl_goodLines.C : Code := Tryz.f113.body.getD .skip
def impl_goodLines.P : Par := (.cons (.val (.list .str)) .nil)
noncomputable def impl_goodLines.U : SumTab := [(178, [], impl_areLines.S), (179, [], impl_isEnded.S)]
noncomputable def impl_goodLines.E : Env := mkEnv TY AR impl_goodLines.U
def impl_goodLines.D8 : CutD := ⟨[0, 8, 9, 10], (.cons (.val (.list .str)) (.cons (.val (.list .str)) (.cons (.val (.int .i64)) (.cons (.val (.int .i64)) .nil))))⟩
noncomputable def impl_goodLines.T : Tab := fun k => look k [(8, impl_goodLines.D8)]
def impl_goodLines.R : List (Nat × Ty) := [(0, .bool)]
def impl_goodLines.X : List ResultVar := [.tmp 2]
noncomputable def impl_goodLines.K := fin impl_goodLines.E ⟨impl_goodLines.P, impl_goodLines.R, fun _ _ => none⟩ impl_goodLines.X impl_goodLines.P.len 0
noncomputable def impl_goodLines.l8 (l : List ByteArray) (t8 : List ByteArray) (t9 : Int) (t10 : Int) : Option (Bool) := fixP impl_goodLines.E impl_goodLines.T impl_goodLines.C impl_goodLines.K 8 impl_goodLines.D8 (l, t8, t9, t10)
noncomputable def impl_goodLines.f (l : List ByteArray) : Option (Bool) := Fn impl_goodLines.E impl_goodLines.T impl_goodLines.C impl_goodLines.P impl_goodLines.R impl_goodLines.X l
theorem impl_goodLines.l8_eq (l : List ByteArray) (t8 : List ByteArray) (t9 : Int) (t10 : Int) : impl_goodLines.l8 l t8 t9 t10 =
  (bif (decide (t10 < t9)) then (bif ((decide (0 ≤ t10)) && (decide (t10 < (t8.length : Int)))) then (bif (decide (t10 < (w64 ((l.length : Int) - 1)))) then ((impl_isEnded.f (t8.getD (t10).toNat em)).bind fun y1 =>
     bif (!y1) then (some false) else
     (impl_goodLines.l8 l t8 t9 (w64 (t10 + 1)))) else
    (impl_goodLines.l8 l t8 t9 (w64 (t10 + 1)))) else none) else (some true)) :=
  (fixP_eq impl_goodLines.E impl_goodLines.T impl_goodLines.C impl_goodLines.K 8 impl_goodLines.D8 (l, t8, t9, t10)).trans (by kernel_rfl)
theorem impl_goodLines.f_eq (l : List ByteArray) : impl_goodLines.f l =
  ((impl_areLines.f l).bind fun y1 =>
  bif (!y1) then (some false) else
  (impl_goodLines.l8 l l (l.length : Int) 0)) := by kernel_rfl
noncomputable def impl_goodLines.S : Abs.Sum := ⟨impl_goodLines.P, impl_goodLines.R, fun _ => Fn impl_goodLines.E impl_goodLines.T impl_goodLines.C impl_goodLines.P impl_goodLines.R impl_goodLines.X⟩
theorem impl_goodLines.meets : Meets Tryz.prog 113 impl_goodLines.S := meets_tab (S := impl_goodLines.U) tabOk_all (AllMeets.cons impl_areLines.meets (AllMeets.cons impl_isEnded.meets AllMeets.nil)) (AllStill.cons (fun _ _ _ => rfl) (AllStill.cons (fun _ _ _ => rfl) AllStill.nil)) follows (by kernel_rfl : Tryz.prog.funcs[113]? = some Tryz.f113) (by kernel_rfl) (by kernel_rfl) (by kernel_rfl)
noncomputable def impl_goodFiles.C : Code := Tryz.f50.body.getD .skip
def impl_goodFiles.P : Par := (.cons (.val (.list (.pair .str (.one (.list .str))))) .nil)
noncomputable def impl_goodFiles.U : SumTab := [(112, [], impl_isName.S), (113, [], impl_goodLines.S)]
noncomputable def impl_goodFiles.E : Env := mkEnv TY AR impl_goodFiles.U
def impl_goodFiles.D4 : CutD := ⟨[0, 5, 6, 7], (.cons (.val (.list (.pair .str (.one (.list .str))))) (.cons (.val (.list (.pair .str (.one (.list .str))))) (.cons (.val (.int .i64)) (.cons (.val (.int .i64)) .nil))))⟩
noncomputable def impl_goodFiles.T : Tab := fun k => look k [(4, impl_goodFiles.D4)]
def impl_goodFiles.R : List (Nat × Ty) := [(0, .bool)]
def impl_goodFiles.X : List ResultVar := [.tmp 2]
noncomputable def impl_goodFiles.K := fin impl_goodFiles.E ⟨impl_goodFiles.P, impl_goodFiles.R, fun _ _ => none⟩ impl_goodFiles.X impl_goodFiles.P.len 0
noncomputable def impl_goodFiles.l4 (f : List (ByteArray × List ByteArray)) (t5 : List (ByteArray × List ByteArray)) (t6 : Int) (t7 : Int) : Option (Bool) := fixP impl_goodFiles.E impl_goodFiles.T impl_goodFiles.C impl_goodFiles.K 4 impl_goodFiles.D4 (f, t5, t6, t7)
noncomputable def impl_goodFiles.f (f : List (ByteArray × List ByteArray)) : Option (Bool) := Fn impl_goodFiles.E impl_goodFiles.T impl_goodFiles.C impl_goodFiles.P impl_goodFiles.R impl_goodFiles.X f
theorem impl_goodFiles.l4_eq (f : List (ByteArray × List ByteArray)) (t5 : List (ByteArray × List ByteArray)) (t6 : Int) (t7 : Int) : impl_goodFiles.l4 f t5 t6 t7 =
  (bif (decide (t7 < t6)) then (bif ((decide (0 ≤ t7)) && (decide (t7 < (t5.length : Int)))) then ((impl_isName.f (t5.getD (t7).toNat (em, ([] : List ByteArray))).1).bind fun y1 =>
    bif (!y1) then (some false) else
    ((impl_goodLines.f (t5.getD (t7).toNat (em, ([] : List ByteArray))).2).bind fun y2 =>
     bif (!y2) then (some false) else
     (bif (decide (t7 > 0)) then (bif ((decide (0 ≤ (w64 (t7 - 1)))) && (decide ((w64 (t7 - 1)) < (f.length : Int)))) then (bif ((Op.bytesLess (t5.getD (t7).toNat (em, ([] : List ByteArray))).1.toList (f.getD ((w64 (t7 - 1))).toNat (em, ([] : List ByteArray))).1.toList) || ((t5.getD (t7).toNat (em, ([] : List ByteArray))).1.toList == (f.getD ((w64 (t7 - 1))).toNat (em, ([] : List ByteArray))).1.toList)) then (some false) else
        (impl_goodFiles.l4 f t5 t6 (w64 (t7 + 1)))) else none) else
      (impl_goodFiles.l4 f t5 t6 (w64 (t7 + 1)))))) else none) else (some (decide ((f.length : Int) ≤ 8)))) :=
  (fixP_eq impl_goodFiles.E impl_goodFiles.T impl_goodFiles.C impl_goodFiles.K 4 impl_goodFiles.D4 (f, t5, t6, t7)).trans (by kernel_rfl)
theorem impl_goodFiles.f_eq (f : List (ByteArray × List ByteArray)) : impl_goodFiles.f f =
  (impl_goodFiles.l4 f f (f.length : Int) 0) := by kernel_rfl
noncomputable def impl_goodFiles.S : Abs.Sum := ⟨impl_goodFiles.P, impl_goodFiles.R, fun _ => Fn impl_goodFiles.E impl_goodFiles.T impl_goodFiles.C impl_goodFiles.P impl_goodFiles.R impl_goodFiles.X⟩
theorem impl_goodFiles.meets : Meets Tryz.prog 50 impl_goodFiles.S := meets_tab (S := impl_goodFiles.U) tabOk_all (AllMeets.cons impl_isName.meets (AllMeets.cons impl_goodLines.meets AllMeets.nil)) (AllStill.cons (fun _ _ _ => rfl) (AllStill.cons (fun _ _ _ => rfl) AllStill.nil)) follows (by kernel_rfl : Tryz.prog.funcs[50]? = some Tryz.f50) (by kernel_rfl) (by kernel_rfl) (by kernel_rfl)
noncomputable def impl_isWidth.C : Code := Tryz.f51.body.getD .skip
def impl_isWidth.P : Par := (.cons (.val (.int .i64)) .nil)
noncomputable def impl_isWidth.U : SumTab := [(114, [], impl_in.S)]
noncomputable def impl_isWidth.E : Env := mkEnv TY AR impl_isWidth.U
noncomputable def impl_isWidth.T : Tab := fun k => look k []
def impl_isWidth.R : List (Nat × Ty) := [(0, .bool)]
def impl_isWidth.X : List ResultVar := [.tmp 2]
noncomputable def impl_isWidth.f (width : Int) : Option (Bool) := Fn impl_isWidth.E impl_isWidth.T impl_isWidth.C impl_isWidth.P impl_isWidth.R impl_isWidth.X width
theorem impl_isWidth.f_eq (width : Int) : impl_isWidth.f width =
  ((impl_in.f width 0 20).bind fun y1 =>
  some y1) := by kernel_rfl
noncomputable def impl_isWidth.S : Abs.Sum := ⟨impl_isWidth.P, impl_isWidth.R, fun _ => Fn impl_isWidth.E impl_isWidth.T impl_isWidth.C impl_isWidth.P impl_isWidth.R impl_isWidth.X⟩
theorem impl_isWidth.meets : Meets Tryz.prog 51 impl_isWidth.S := meets_tab (S := impl_isWidth.U) tabOk_all (AllMeets.cons impl_in.meets AllMeets.nil) (AllStill.cons (fun _ _ _ => rfl) AllStill.nil) follows (by kernel_rfl : Tryz.prog.funcs[51]? = some Tryz.f51) (by kernel_rfl) (by kernel_rfl) (by kernel_rfl)
noncomputable def impl_linesIn_1.C : Code := Tryz.f119.body.getD .skip
def impl_linesIn_1.P : Par := (.cons (.val (.pair .str (.one (.list .str)))) (.cons (.box 9 .str) .nil))
noncomputable def impl_linesIn_1.U : SumTab := []
noncomputable def impl_linesIn_1.E : Env := mkEnv TY AR impl_linesIn_1.U
noncomputable def impl_linesIn_1.T : Tab := fun k => look k []
def impl_linesIn_1.R : List (Nat × Ty) := [(0, .bool)]
def impl_linesIn_1.X : List ResultVar := [.tmp 3]
noncomputable def impl_linesIn_1.f (x : ByteArray × List ByteArray) (t1 : ByteArray) : Option (Bool × ByteArray) := Fn impl_linesIn_1.E impl_linesIn_1.T impl_linesIn_1.C impl_linesIn_1.P impl_linesIn_1.R impl_linesIn_1.X (x, t1)
theorem impl_linesIn_1.f_eq (x : ByteArray × List ByteArray) (t1 : ByteArray) : impl_linesIn_1.f x t1 =
  (some ((x.1.toList == t1.toList), t1)) := by kernel_rfl
noncomputable def impl_linesIn_1.S : Abs.Sum := ⟨impl_linesIn_1.P, impl_linesIn_1.R, fun _ => Fn impl_linesIn_1.E impl_linesIn_1.T impl_linesIn_1.C impl_linesIn_1.P impl_linesIn_1.R impl_linesIn_1.X⟩
theorem impl_linesIn_1.meets : Meets Tryz.prog 119 impl_linesIn_1.S := meets_tab (S := impl_linesIn_1.U) tabOk_all AllMeets.nil AllStill.nil follows (by kernel_rfl : Tryz.prog.funcs[119]? = some Tryz.f119) (by kernel_rfl) (by kernel_rfl) (by kernel_rfl)
noncomputable def slices_IndexFunc_Limpl_File_impl_File__impl_linesIn_1.C : Code := Tryz.f118.body.getD .skip
def slices_IndexFunc_Limpl_File_impl_File__impl_linesIn_1.P : Par := (.cons (.val (.list (.pair .str (.one (.list .str))))) (.cons (.fn 119 (.cons (.box 9 .str) .nil)) .nil))
noncomputable def slices_IndexFunc_Limpl_File_impl_File__impl_linesIn_1.U : SumTab := [(119, [], impl_linesIn_1.S)]
noncomputable def slices_IndexFunc_Limpl_File_impl_File__impl_linesIn_1.E : Env := mkEnv TY AR slices_IndexFunc_Limpl_File_impl_File__impl_linesIn_1.U
def slices_IndexFunc_Limpl_File_impl_File__impl_linesIn_1.D4 : CutD := ⟨[0, 1, 7, 8], (.cons (.val (.list (.pair .str (.one (.list .str))))) (.cons (.fn 119 (.cons (.box 9 .str) .nil)) (.cons (.val (.int .i64)) (.cons (.val (.int .i64)) .nil))))⟩
noncomputable def slices_IndexFunc_Limpl_File_impl_File__impl_linesIn_1.T : Tab := fun k => look k [(4, slices_IndexFunc_Limpl_File_impl_File__impl_linesIn_1.D4)]
def slices_IndexFunc_Limpl_File_impl_File__impl_linesIn_1.R : List (Nat × Ty) := [(0, .int .i64)]
def slices_IndexFunc_Limpl_File_impl_File__impl_linesIn_1.X : List ResultVar := [.tmp 4]
noncomputable def slices_IndexFunc_Limpl_File_impl_File__impl_linesIn_1.K := fin slices_IndexFunc_Limpl_File_impl_File__impl_linesIn_1.E ⟨slices_IndexFunc_Limpl_File_impl_File__impl_linesIn_1.P, slices_IndexFunc_Limpl_File_impl_File__impl_linesIn_1.R, fun _ _ => none⟩ slices_IndexFunc_Limpl_File_impl_File__impl_linesIn_1.X slices_IndexFunc_Limpl_File_impl_File__impl_linesIn_1.P.len 0
noncomputable def slices_IndexFunc_Limpl_File_impl_File__impl_linesIn_1.l4 (s : List (ByteArray × List ByteArray)) (f : ByteArray) (t7 : Int) (t8 : Int) : Option (Int × ByteArray) := fixP slices_IndexFunc_Limpl_File_impl_File__impl_linesIn_1.E slices_IndexFunc_Limpl_File_impl_File__impl_linesIn_1.T slices_IndexFunc_Limpl_File_impl_File__impl_linesIn_1.C slices_IndexFunc_Limpl_File_impl_File__impl_linesIn_1.K 4 slices_IndexFunc_Limpl_File_impl_File__impl_linesIn_1.D4 (s, f, t7, t8)
noncomputable def slices_IndexFunc_Limpl_File_impl_File__impl_linesIn_1.f (s : List (ByteArray × List ByteArray)) (f : ByteArray) : Option (Int × ByteArray) := Fn slices_IndexFunc_Limpl_File_impl_File__impl_linesIn_1.E slices_IndexFunc_Limpl_File_impl_File__impl_linesIn_1.T slices_IndexFunc_Limpl_File_impl_File__impl_linesIn_1.C slices_IndexFunc_Limpl_File_impl_File__impl_linesIn_1.P slices_IndexFunc_Limpl_File_impl_File__impl_linesIn_1.R slices_IndexFunc_Limpl_File_impl_File__impl_linesIn_1.X (s, f)
theorem slices_IndexFunc_Limpl_File_impl_File__impl_linesIn_1.l4_eq (s : List (ByteArray × List ByteArray)) (f : ByteArray) (t7 : Int) (t8 : Int) : slices_IndexFunc_Limpl_File_impl_File__impl_linesIn_1.l4 s f t7 t8 =
  (bif (decide (t8 < t7)) then (bif ((decide (0 ≤ t8)) && (decide (t8 < (s.length : Int)))) then ((impl_linesIn_1.f (s.getD (t8).toNat (em, ([] : List ByteArray))) f).bind fun y1 =>
    bif y1.1 then (some (t8, y1.2)) else
    (slices_IndexFunc_Limpl_File_impl_File__impl_linesIn_1.l4 s y1.2 t7 (w64 (t8 + 1)))) else none) else (some ((-1), f))) :=
  (fixP_eq slices_IndexFunc_Limpl_File_impl_File__impl_linesIn_1.E slices_IndexFunc_Limpl_File_impl_File__impl_linesIn_1.T slices_IndexFunc_Limpl_File_impl_File__impl_linesIn_1.C slices_IndexFunc_Limpl_File_impl_File__impl_linesIn_1.K 4 slices_IndexFunc_Limpl_File_impl_File__impl_linesIn_1.D4 (s, f, t7, t8)).trans (by kernel_rfl)
theorem slices_IndexFunc_Limpl_File_impl_File__impl_linesIn_1.f_eq (s : List (ByteArray × List ByteArray)) (f : ByteArray) : slices_IndexFunc_Limpl_File_impl_File__impl_linesIn_1.f s f =
  (slices_IndexFunc_Limpl_File_impl_File__impl_linesIn_1.l4 s f (s.length : Int) 0) := by kernel_rfl
noncomputable def slices_IndexFunc_Limpl_File_impl_File__impl_linesIn_1.S : Abs.Sum := ⟨slices_IndexFunc_Limpl_File_impl_File__impl_linesIn_1.P, slices_IndexFunc_Limpl_File_impl_File__impl_linesIn_1.R, fun _ => Fn slices_IndexFunc_Limpl_File_impl_File__impl_linesIn_1.E slices_IndexFunc_Limpl_File_impl_File__impl_linesIn_1.T slices_IndexFunc_Limpl_File_impl_File__impl_linesIn_1.C slices_IndexFunc_Limpl_File_impl_File__impl_linesIn_1.P slices_IndexFunc_Limpl_File_impl_File__impl_linesIn_1.R slices_IndexFunc_Limpl_File_impl_File__impl_linesIn_1.X⟩
theorem slices_IndexFunc_Limpl_File_impl_File__impl_linesIn_1.meets : Meets Tryz.prog 118 slices_IndexFunc_Limpl_File_impl_File__impl_linesIn_1.S := meets_tab (S := slices_IndexFunc_Limpl_File_impl_File__impl_linesIn_1.U) tabOk_all (AllMeets.cons impl_linesIn_1.meets AllMeets.nil) (AllStill.cons (fun _ _ _ => rfl) AllStill.nil) follows (by kernel_rfl : Tryz.prog.funcs[118]? = some Tryz.f118) (by kernel_rfl) (by kernel_rfl) (by kernel_rfl)
noncomputable def impl_linesIn.C : Code := Tryz.f55.body.getD .skip
def impl_linesIn.P : Par := (.cons (.val (.list (.pair .str (.one (.list .str))))) (.cons (.val .str) .nil))
noncomputable def impl_linesIn.U : SumTab := [(118, [119], slices_IndexFunc_Limpl_File_impl_File__impl_linesIn_1.S)]
noncomputable def impl_linesIn.E : Env := mkEnv TY AR impl_linesIn.U
noncomputable def impl_linesIn.T : Tab := fun k => look k []
def impl_linesIn.R : List (Nat × Ty) := [(0, .list .str), (0, .bool)]
def impl_linesIn.X : List ResultVar := [.tmp 4, .tmp 5]
noncomputable def impl_linesIn.f (f : List (ByteArray × List ByteArray)) (name : ByteArray) : Option ((List ByteArray) × Bool) := Fn impl_linesIn.E impl_linesIn.T impl_linesIn.C impl_linesIn.P impl_linesIn.R impl_linesIn.X (f, name)
theorem impl_linesIn.f_eq (f : List (ByteArray × List ByteArray)) (name : ByteArray) : impl_linesIn.f f name =
  ((slices_IndexFunc_Limpl_File_impl_File__impl_linesIn_1.f f name).bind fun y4 =>
  bif (decide (y4.1 < 0)) then (some (([] : List ByteArray), false)) else
  (bif ((decide (0 ≤ y4.1)) && (decide (y4.1 < (f.length : Int)))) then (some ((f.getD (y4.1).toNat (em, ([] : List ByteArray))).2, true)) else none)) := by kernel_rfl
noncomputable def impl_linesIn.S : Abs.Sum := ⟨impl_linesIn.P, impl_linesIn.R, fun _ => Fn impl_linesIn.E impl_linesIn.T impl_linesIn.C impl_linesIn.P impl_linesIn.R impl_linesIn.X⟩
theorem impl_linesIn.meets : Meets Tryz.prog 55 impl_linesIn.S := meets_tab (S := impl_linesIn.U) tabOk_all (AllMeets.cons slices_IndexFunc_Limpl_File_impl_File__impl_linesIn_1.meets AllMeets.nil) (AllStill.cons (fun _ _ _ => rfl) AllStill.nil) follows (by kernel_rfl : Tryz.prog.funcs[55]? = some Tryz.f55) (by kernel_rfl) (by kernel_rfl) (by kernel_rfl)
noncomputable def slices_Equal_Lstring_string.C : Code := Tryz.f56.body.getD .skip
def slices_Equal_Lstring_string.P : Par := (.cons (.val (.list .str)) (.cons (.val (.list .str)) .nil))
noncomputable def slices_Equal_Lstring_string.U : SumTab := []
noncomputable def slices_Equal_Lstring_string.E : Env := mkEnv TY AR slices_Equal_Lstring_string.U
def slices_Equal_Lstring_string.D8 : CutD := ⟨[0, 1, 12, 13], (.cons (.val (.list .str)) (.cons (.val (.list .str)) (.cons (.val (.int .i64)) (.cons (.val (.int .i64)) .nil))))⟩
noncomputable def slices_Equal_Lstring_string.T : Tab := fun k => look k [(8, slices_Equal_Lstring_string.D8)]
def slices_Equal_Lstring_string.R : List (Nat × Ty) := [(0, .bool)]
def slices_Equal_Lstring_string.X : List ResultVar := [.tmp 4]
noncomputable def slices_Equal_Lstring_string.K := fin slices_Equal_Lstring_string.E ⟨slices_Equal_Lstring_string.P, slices_Equal_Lstring_string.R, fun _ _ => none⟩ slices_Equal_Lstring_string.X slices_Equal_Lstring_string.P.len 0
noncomputable def slices_Equal_Lstring_string.l8 (s1 : List ByteArray) (s2 : List ByteArray) (t12 : Int) (t13 : Int) : Option (Bool) := fixP slices_Equal_Lstring_string.E slices_Equal_Lstring_string.T slices_Equal_Lstring_string.C slices_Equal_Lstring_string.K 8 slices_Equal_Lstring_string.D8 (s1, s2, t12, t13)
noncomputable def slices_Equal_Lstring_string.f (s1 : List ByteArray) (s2 : List ByteArray) : Option (Bool) := Fn slices_Equal_Lstring_string.E slices_Equal_Lstring_string.T slices_Equal_Lstring_string.C slices_Equal_Lstring_string.P slices_Equal_Lstring_string.R slices_Equal_Lstring_string.X (s1, s2)
theorem slices_Equal_Lstring_string.l8_eq (s1 : List ByteArray) (s2 : List ByteArray) (t12 : Int) (t13 : Int) : slices_Equal_Lstring_string.l8 s1 s2 t12 t13 =
  (bif (decide (t13 < t12)) then (bif ((decide (0 ≤ t13)) && (decide (t13 < (s1.length : Int)))) then (bif ((decide (0 ≤ t13)) && (decide (t13 < (s2.length : Int)))) then (bif (!((s1.getD (t13).toNat em).toList == (s2.getD (t13).toNat em).toList)) then (some false) else
     (slices_Equal_Lstring_string.l8 s1 s2 t12 (w64 (t13 + 1)))) else none) else none) else (some true)) :=
  (fixP_eq slices_Equal_Lstring_string.E slices_Equal_Lstring_string.T slices_Equal_Lstring_string.C slices_Equal_Lstring_string.K 8 slices_Equal_Lstring_string.D8 (s1, s2, t12, t13)).trans (by kernel_rfl)
theorem slices_Equal_Lstring_string.f_eq (s1 : List ByteArray) (s2 : List ByteArray) : slices_Equal_Lstring_string.f s1 s2 =
  (bif (!(decide ((s1.length : Int) = (s2.length : Int)))) then (some false) else
  (slices_Equal_Lstring_string.l8 s1 s2 (s1.length : Int) 0)) := by kernel_rfl
noncomputable def slices_Equal_Lstring_string.S : Abs.Sum := ⟨slices_Equal_Lstring_string.P, slices_Equal_Lstring_string.R, fun _ => Fn slices_Equal_Lstring_string.E slices_Equal_Lstring_string.T slices_Equal_Lstring_string.C slices_Equal_Lstring_string.P slices_Equal_Lstring_string.R slices_Equal_Lstring_string.X⟩
theorem slices_Equal_Lstring_string.meets : Meets Tryz.prog 56 slices_Equal_Lstring_string.S := meets_tab (S := slices_Equal_Lstring_string.U) tabOk_all AllMeets.nil AllStill.nil follows (by kernel_rfl : Tryz.prog.funcs[56]? = some Tryz.f56) (by kernel_rfl) (by kernel_rfl) (by kernel_rfl)
noncomputable def impl_common.C : Code := Tryz.f256.body.getD .skip
def impl_common.P : Par := (.cons (.val (.list .str)) (.cons (.val (.list .str)) .nil))
noncomputable def impl_common.U : SumTab := []
noncomputable def impl_common.E : Env := mkEnv TY AR impl_common.U
def impl_common.D8 : CutD := ⟨[0, 1, 5, 6], (.cons (.val (.list .str)) (.cons (.val (.list .str)) (.cons (.own 9 (.list (.int .i64))) (.cons (.val (.int .i64)) .nil))))⟩
def impl_common.D16 : CutD := ⟨[0, 1, 5, 6, 7], (.cons (.val (.list .str)) (.cons (.val (.list .str)) (.cons (.own 9 (.list (.int .i64))) (.cons (.val (.int .i64)) (.cons (.val (.int .i64)) .nil)))))⟩
noncomputable def impl_common.T : Tab := fun k => look k [(8, impl_common.D8), (16, impl_common.D16)]
def impl_common.R : List (Nat × Ty) := [(9, .list (.list (.int .i64)))]
def impl_common.X : List ResultVar := [.tmp 4]
noncomputable def impl_common.K := fin impl_common.E ⟨impl_common.P, impl_common.R, fun _ _ => none⟩ impl_common.X impl_common.P.len 0
noncomputable def impl_common.l8 (a : List ByteArray) (b : List ByteArray) (out : List (List Int)) (i : Int) : Option ((List (List Int))) := fixP impl_common.E impl_common.T impl_common.C impl_common.K 8 impl_common.D8 (a, b, out, i)
noncomputable def impl_common.l16 (a : List ByteArray) (b : List ByteArray) (out : List (List Int)) (i : Int) (j : Int) : Option ((List (List Int))) := fixP impl_common.E impl_common.T impl_common.C impl_common.K 16 impl_common.D16 (a, b, out, i, j)
noncomputable def impl_common.f (a : List ByteArray) (b : List ByteArray) : Option ((List (List Int))) := Fn impl_common.E impl_common.T impl_common.C impl_common.P impl_common.R impl_common.X (a, b)
theorem impl_common.l8_eq (a : List ByteArray) (b : List ByteArray) (out : List (List Int)) (i : Int) : impl_common.l8 a b out i =
  (bif (decide (i ≥ 0)) then (bif ((decide (0 ≤ (w64 ((b.length : Int) + 1)))) && (decide (((w64 ((b.length : Int) + 1))).toNat ≤ room 8))) then (bif ((decide (0 ≤ i)) && (decide (i < (out.length : Int)))) then (impl_common.l16 a b (out.set (i).toNat (List.replicate ((w64 ((b.length : Int) + 1))).toNat 0)) i (w64 ((b.length : Int) - 1))) else none) else none) else (some out)) :=
  (fixP_eq impl_common.E impl_common.T impl_common.C impl_common.K 8 impl_common.D8 (a, b, out, i)).trans (by kernel_rfl)
theorem impl_common.l16_eq (a : List ByteArray) (b : List ByteArray) (out : List (List Int)) (i : Int) (j : Int) : impl_common.l16 a b out i j =
  (bif (decide (j ≥ 0)) then (bif ((decide (0 ≤ i)) && (decide (i < (a.length : Int)))) then (bif ((decide (0 ≤ j)) && (decide (j < (b.length : Int)))) then (bif ((a.getD (i).toNat em).toList == (b.getD (j).toNat em).toList) then (bif ((decide (0 ≤ i)) && (decide (i < (out.length : Int)))) then (bif ((decide (0 ≤ (w64 (i + 1)))) && (decide ((w64 (i + 1)) < (out.length : Int)))) then (bif ((decide (0 ≤ (w64 (j + 1)))) && (decide ((w64 (j + 1)) < ((out.getD ((w64 (i + 1))).toNat ([] : List Int)).length : Int)))) then (bif ((decide (0 ≤ j)) && (decide (j < ((out.getD (i).toNat ([] : List Int)).length : Int)))) then (impl_common.l16 a b (out.set (i).toNat ((out.getD (i).toNat ([] : List Int)).set (j).toNat (w64 (((out.getD ((w64 (i + 1))).toNat ([] : List Int)).getD ((w64 (j + 1))).toNat 0) + 1)))) i (w64 (j - 1))) else none) else none) else none) else none) else
     (bif ((decide (0 ≤ i)) && (decide (i < (out.length : Int)))) then (bif ((decide (0 ≤ (w64 (i + 1)))) && (decide ((w64 (i + 1)) < (out.length : Int)))) then (bif ((decide (0 ≤ j)) && (decide (j < ((out.getD ((w64 (i + 1))).toNat ([] : List Int)).length : Int)))) then (bif ((decide (0 ≤ i)) && (decide (i < (out.length : Int)))) then (bif ((decide (0 ≤ (w64 (j + 1)))) && (decide ((w64 (j + 1)) < ((out.getD (i).toNat ([] : List Int)).length : Int)))) then (bif ((decide (0 ≤ j)) && (decide (j < ((out.getD (i).toNat ([] : List Int)).length : Int)))) then (impl_common.l16 a b (out.set (i).toNat ((out.getD (i).toNat ([] : List Int)).set (j).toNat (max ((out.getD ((w64 (i + 1))).toNat ([] : List Int)).getD (j).toNat 0) ((out.getD (i).toNat ([] : List Int)).getD ((w64 (j + 1))).toNat 0)))) i (w64 (j - 1))) else none) else none) else none) else none) else none) else none)) else none) else none) else
  (impl_common.l8 a b out (w64 (i - 1)))) :=
  (fixP_eq impl_common.E impl_common.T impl_common.C impl_common.K 16 impl_common.D16 (a, b, out, i, j)).trans (by kernel_rfl)
theorem impl_common.f_eq (a : List ByteArray) (b : List ByteArray) : impl_common.f a b =
  (bif ((decide (0 ≤ (w64 ((a.length : Int) + 1)))) && (decide (((w64 ((a.length : Int) + 1))).toNat ≤ room 24))) then (bif ((decide (0 ≤ (w64 ((b.length : Int) + 1)))) && (decide (((w64 ((b.length : Int) + 1))).toNat ≤ room 8))) then (bif ((decide (0 ≤ (a.length : Int))) && (decide ((a.length : Int) < ((List.replicate ((w64 ((a.length : Int) + 1))).toNat ([] : List Int)).length : Int)))) then (impl_common.l8 a b ((List.replicate ((w64 ((a.length : Int) + 1))).toNat ([] : List Int)).set ((a.length : Int)).toNat (List.replicate ((w64 ((b.length : Int) + 1))).toNat 0)) (w64 ((a.length : Int) - 1))) else none) else none) else none) := by kernel_rfl
noncomputable def impl_common.S : Abs.Sum := ⟨impl_common.P, impl_common.R, fun _ => Fn impl_common.E impl_common.T impl_common.C impl_common.P impl_common.R impl_common.X⟩
theorem impl_common.meets : Meets Tryz.prog 256 impl_common.S := meets_tab (S := impl_common.U) tabOk_all AllMeets.nil AllStill.nil follows (by kernel_rfl : Tryz.prog.funcs[256]? = some Tryz.f256) (by kernel_rfl) (by kernel_rfl) (by kernel_rfl)
noncomputable def impl_commonLines.C : Code := Tryz.f192.body.getD .skip
def impl_commonLines.P : Par := (.cons (.val (.list .str)) (.cons (.val (.list .str)) .nil))
noncomputable def impl_commonLines.U : SumTab := [(256, [], impl_common.S)]
noncomputable def impl_commonLines.E : Env := mkEnv TY AR impl_commonLines.U
def impl_commonLines.D8 : CutD := ⟨[0, 1, 5, 6, 7, 8, 21, 22], (.cons (.val (.list .str)) (.cons (.val (.list .str)) (.cons (.own 8 (.list (.int .i64))) (.cons (.own 9 (.list (.int .i64))) (.cons (.val (.int .i64)) (.cons (.val (.int .i64)) (.cons (.val (.int .i64)) (.cons (.val (.int .i64)) .nil))))))))⟩
def impl_commonLines.D14 : CutD := ⟨[0, 1, 5, 6, 7, 8, 9, 10, 21, 22], (.cons (.val (.list .str)) (.cons (.val (.list .str)) (.cons (.own 8 (.list (.int .i64))) (.cons (.own 9 (.list (.int .i64))) (.cons (.val (.int .i64)) (.cons (.val (.int .i64)) (.cons (.val (.int .i64)) (.cons (.val (.int .i64)) (.cons (.val (.int .i64)) (.cons (.val (.int .i64)) .nil))))))))))⟩
def impl_commonLines.D19 : CutD := ⟨[0, 1, 5, 6, 7, 8, 9, 10, 21, 22], (.cons (.val (.list .str)) (.cons (.val (.list .str)) (.cons (.own 8 (.list (.int .i64))) (.cons (.own 9 (.list (.int .i64))) (.cons (.val (.int .i64)) (.cons (.val (.int .i64)) (.cons (.val (.int .i64)) (.cons (.val (.int .i64)) (.cons (.val (.int .i64)) (.cons (.val (.int .i64)) .nil))))))))))⟩
noncomputable def impl_commonLines.T : Tab := fun k => look k [(8, impl_commonLines.D8), (14, impl_commonLines.D14), (19, impl_commonLines.D19)]
def impl_commonLines.R : List (Nat × Ty) := [(9, .list (.list (.int .i64)))]
def impl_commonLines.X : List ResultVar := [.tmp 4]
noncomputable def impl_commonLines.K := fin impl_commonLines.E ⟨impl_commonLines.P, impl_commonLines.R, fun _ _ => none⟩ impl_commonLines.X impl_commonLines.P.len 0
noncomputable def impl_commonLines.l8 (a : List ByteArray) (b : List ByteArray) (table : List (List Int)) (out : List (List Int)) (j : Int) (left : Int) (t21 : Int) (t22 : Int) : Option ((List (List Int))) := fixP impl_commonLines.E impl_commonLines.T impl_commonLines.C impl_commonLines.K 8 impl_commonLines.D8 (a, b, table, out, j, left, t21, t22)
noncomputable def impl_commonLines.l14 (a : List ByteArray) (b : List ByteArray) (table : List (List Int)) (out : List (List Int)) (j : Int) (left : Int) (i : Int) (k : Int) (t21 : Int) (t22 : Int) : Option ((List (List Int))) := fixP impl_commonLines.E impl_commonLines.T impl_commonLines.C impl_commonLines.K 14 impl_commonLines.D14 (a, b, table, out, j, left, i, k, t21, t22)
noncomputable def impl_commonLines.l19 (a : List ByteArray) (b : List ByteArray) (table : List (List Int)) (out : List (List Int)) (j : Int) (left : Int) (i : Int) (k : Int) (t21 : Int) (t22 : Int) : Option ((List (List Int))) := fixP impl_commonLines.E impl_commonLines.T impl_commonLines.C impl_commonLines.K 19 impl_commonLines.D19 (a, b, table, out, j, left, i, k, t21, t22)
noncomputable def impl_commonLines.f (a : List ByteArray) (b : List ByteArray) : Option ((List (List Int))) := Fn impl_commonLines.E impl_commonLines.T impl_commonLines.C impl_commonLines.P impl_commonLines.R impl_commonLines.X (a, b)
theorem impl_commonLines.l8_eq (a : List ByteArray) (b : List ByteArray) (table : List (List Int)) (out : List (List Int)) (j : Int) (left : Int) (t21 : Int) (t22 : Int) : impl_commonLines.l8 a b table out j left t21 t22 =
  (bif (decide (t22 < t21)) then (impl_commonLines.l14 a b table out j left t22 j t21 t22) else (some out)) :=
  (fixP_eq impl_commonLines.E impl_commonLines.T impl_commonLines.C impl_commonLines.K 8 impl_commonLines.D8 (a, b, table, out, j, left, t21, t22)).trans (by kernel_rfl)
theorem impl_commonLines.l14_eq (a : List ByteArray) (b : List ByteArray) (table : List (List Int)) (out : List (List Int)) (j : Int) (left : Int) (i : Int) (k : Int) (t21 : Int) (t22 : Int) : impl_commonLines.l14 a b table out j left i k t21 t22 =
  (bif (decide (k < (b.length : Int))) then (bif (decide (left > 0)) then (impl_commonLines.l19 a b table out j left i k t21 t22) else
   (impl_commonLines.l8 a b table out j left t21 (w64 (t22 + 1)))) else
  (impl_commonLines.l8 a b table out j left t21 (w64 (t22 + 1)))) :=
  (fixP_eq impl_commonLines.E impl_commonLines.T impl_commonLines.C impl_commonLines.K 14 impl_commonLines.D14 (a, b, table, out, j, left, i, k, t21, t22)).trans (by kernel_rfl)
theorem impl_commonLines.l19_eq (a : List ByteArray) (b : List ByteArray) (table : List (List Int)) (out : List (List Int)) (j : Int) (left : Int) (i : Int) (k : Int) (t21 : Int) (t22 : Int) : impl_commonLines.l19 a b table out j left i k t21 t22 =
  (bif ((decide (0 ≤ i)) && (decide (i < (a.length : Int)))) then (bif ((decide (0 ≤ k)) && (decide (k < (b.length : Int)))) then (bif ((a.getD (i).toNat em).toList == (b.getD (k).toNat em).toList) then (bif ((decide (0 ≤ (w64 (i + 1)))) && (decide ((w64 (i + 1)) < (table.length : Int)))) then (bif ((decide (0 ≤ (w64 (k + 1)))) && (decide ((w64 (k + 1)) < ((table.getD ((w64 (i + 1))).toNat ([] : List Int)).length : Int)))) then (bif (decide (((table.getD ((w64 (i + 1))).toNat ([] : List Int)).getD ((w64 (k + 1))).toNat 0) = (w64 (left - 1)))) then (bif (decide ((out.length + [[i, k]].length) ≤ room 24)) then (impl_commonLines.l8 a b table (out ++ [[i, k]]) (w64 (k + 1)) (w64 (left - 1)) t21 (w64 (t22 + 1))) else none) else
       (impl_commonLines.l14 a b table out j left i (w64 (k + 1)) t21 t22)) else none) else none) else
    (impl_commonLines.l14 a b table out j left i (w64 (k + 1)) t21 t22)) else none) else none) :=
  (fixP_eq impl_commonLines.E impl_commonLines.T impl_commonLines.C impl_commonLines.K 19 impl_commonLines.D19 (a, b, table, out, j, left, i, k, t21, t22)).trans (by kernel_rfl)
theorem impl_commonLines.f_eq (a : List ByteArray) (b : List ByteArray) : impl_commonLines.f a b =
  ((impl_common.f a b).bind fun y4 =>
  bif (decide (0 < (y4.length : Int))) then (bif (decide (0 < ((y4.getD 0 ([] : List Int)).length : Int))) then (impl_commonLines.l8 a b y4 ([] : List (List Int)) 0 ((y4.getD 0 ([] : List Int)).getD 0 0) (a.length : Int) 0) else none) else none) := by kernel_rfl
noncomputable def impl_commonLines.S : Abs.Sum := ⟨impl_commonLines.P, impl_commonLines.R, fun _ => Fn impl_commonLines.E impl_commonLines.T impl_commonLines.C impl_commonLines.P impl_commonLines.R impl_commonLines.X⟩
theorem impl_commonLines.meets : Meets Tryz.prog 192 impl_commonLines.S := meets_tab (S := impl_commonLines.U) tabOk_all (AllMeets.cons impl_common.meets AllMeets.nil) (AllStill.cons (fun _ _ _ => rfl) AllStill.nil) follows (by kernel_rfl : Tryz.prog.funcs[192]? = some Tryz.f192) (by kernel_rfl) (by kernel_rfl) (by kernel_rfl)
noncomputable def impl_between.C : Code := Tryz.f191.body.getD .skip
def impl_between.P : Par := (.cons (.val (.list .str)) (.cons (.val (.list .str)) (.cons (.val (.list (.list (.int .i64)))) .nil)))
noncomputable def impl_between.U : SumTab := [(255, [], slices_Clone_LLint_Lint.S), (71, [], slices_Clone_Lstring_string.S)]
noncomputable def impl_between.E : Env := mkEnv TY AR impl_between.U
def impl_between.D6 : CutD := ⟨[1, 7, 8, 9, 21, 22, 23], (.cons (.val (.list .str)) (.cons (.own 9 (.pair (.int .i64) (.pair (.int .i64) (.one (.list .str))))) (.cons (.val (.int .i64)) (.cons (.val (.int .i64)) (.cons (.own 0 (.list (.int .i64))) (.cons (.val (.int .i64)) (.cons (.val (.int .i64)) .nil)))))))⟩
def impl_between.D15 : CutD := ⟨[1, 7, 11, 21, 22, 23], (.cons (.val (.list .str)) (.cons (.own 9 (.pair (.int .i64) (.pair (.int .i64) (.one (.list .str))))) (.cons (.val (.list (.int .i64))) (.cons (.own 0 (.list (.int .i64))) (.cons (.val (.int .i64)) (.cons (.val (.int .i64)) .nil))))))⟩
noncomputable def impl_between.T : Tab := fun k => look k [(6, impl_between.D6), (15, impl_between.D15)]
def impl_between.R : List (Nat × Ty) := [(9, .list (.pair (.int .i64) (.pair (.int .i64) (.one (.list .str)))))]
def impl_between.X : List ResultVar := [.tmp 6]
noncomputable def impl_between.K := fin impl_between.E ⟨impl_between.P, impl_between.R, fun _ _ => none⟩ impl_between.X impl_between.P.len 0
noncomputable def impl_between.l6 (b : List ByteArray) (out : List (Int × Int × List ByteArray)) (i : Int) (j : Int) (t21 : List (List Int)) (t22 : Int) (t23 : Int) : Option ((List (Int × Int × List ByteArray))) := fixP impl_between.E impl_between.T impl_between.C impl_between.K 6 impl_between.D6 (b, out, i, j, t21, t22, t23)
noncomputable def impl_between.l15 (b : List ByteArray) (out : List (Int × Int × List ByteArray)) (p : List Int) (t21 : List (List Int)) (t22 : Int) (t23 : Int) : Option ((List (Int × Int × List ByteArray))) := fixP impl_between.E impl_between.T impl_between.C impl_between.K 15 impl_between.D15 (b, out, p, t21, t22, t23)
noncomputable def impl_between.f (a : List ByteArray) (b : List ByteArray) (pairs : List (List Int)) : Option ((List (Int × Int × List ByteArray))) := Fn impl_between.E impl_between.T impl_between.C impl_between.P impl_between.R impl_between.X (a, b, pairs)
theorem impl_between.l6_eq (b : List ByteArray) (out : List (Int × Int × List ByteArray)) (i : Int) (j : Int) (t21 : List (List Int)) (t22 : Int) (t23 : Int) : impl_between.l6 b out i j t21 t22 t23 =
  (bif (decide (t23 < t22)) then (bif ((decide (0 ≤ t23)) && (decide (t23 < (t21.length : Int)))) then (bif (decide (0 < ((t21.getD (t23).toNat ([] : List Int)).length : Int))) then (bif (decide (((t21.getD (t23).toNat ([] : List Int)).getD 0 0) > i)) then (bif (decide (0 < ((t21.getD (t23).toNat ([] : List Int)).length : Int))) then (bif (decide (1 < ((t21.getD (t23).toNat ([] : List Int)).length : Int))) then (bif ((decide (0 ≤ j)) && ((decide (j ≤ ((t21.getD (t23).toNat ([] : List Int)).getD 1 0))) && (decide (((t21.getD (t23).toNat ([] : List Int)).getD 1 0) ≤ (b.length : Int))))) then ((slices_Clone_Lstring_string.f ((b.take (((t21.getD (t23).toNat ([] : List Int)).getD 1 0)).toNat).drop (j).toNat)).bind fun y4 =>
         bif (decide ((out.length + [(i, (w64 (((t21.getD (t23).toNat ([] : List Int)).getD 0 0) - i)), y4)].length) ≤ room 40)) then (impl_between.l15 b (out ++ [(i, (w64 (((t21.getD (t23).toNat ([] : List Int)).getD 0 0) - i)), y4)]) (t21.getD (t23).toNat ([] : List Int)) t21 t22 t23) else none) else none) else none) else none) else
     (bif (decide (1 < ((t21.getD (t23).toNat ([] : List Int)).length : Int))) then (bif (decide (((t21.getD (t23).toNat ([] : List Int)).getD 1 0) > j)) then (bif (decide (0 < ((t21.getD (t23).toNat ([] : List Int)).length : Int))) then (bif (decide (1 < ((t21.getD (t23).toNat ([] : List Int)).length : Int))) then (bif ((decide (0 ≤ j)) && ((decide (j ≤ ((t21.getD (t23).toNat ([] : List Int)).getD 1 0))) && (decide (((t21.getD (t23).toNat ([] : List Int)).getD 1 0) ≤ (b.length : Int))))) then ((slices_Clone_Lstring_string.f ((b.take (((t21.getD (t23).toNat ([] : List Int)).getD 1 0)).toNat).drop (j).toNat)).bind fun y4 =>
           bif (decide ((out.length + [(i, (w64 (((t21.getD (t23).toNat ([] : List Int)).getD 0 0) - i)), y4)].length) ≤ room 40)) then (impl_between.l15 b (out ++ [(i, (w64 (((t21.getD (t23).toNat ([] : List Int)).getD 0 0) - i)), y4)]) (t21.getD (t23).toNat ([] : List Int)) t21 t22 t23) else none) else none) else none) else none) else
       (impl_between.l15 b out (t21.getD (t23).toNat ([] : List Int)) t21 t22 t23)) else none)) else none) else none) else (some out)) :=
  (fixP_eq impl_between.E impl_between.T impl_between.C impl_between.K 6 impl_between.D6 (b, out, i, j, t21, t22, t23)).trans (by kernel_rfl)
theorem impl_between.l15_eq (b : List ByteArray) (out : List (Int × Int × List ByteArray)) (p : List Int) (t21 : List (List Int)) (t22 : Int) (t23 : Int) : impl_between.l15 b out p t21 t22 t23 =
  (bif (decide (0 < (p.length : Int))) then (bif (decide (1 < (p.length : Int))) then (impl_between.l6 b out (w64 ((p.getD 0 0) + 1)) (w64 ((p.getD 1 0) + 1)) t21 t22 (w64 (t23 + 1))) else none) else none) :=
  (fixP_eq impl_between.E impl_between.T impl_between.C impl_between.K 15 impl_between.D15 (b, out, p, t21, t22, t23)).trans (by kernel_rfl)
theorem impl_between.f_eq (a : List ByteArray) (b : List ByteArray) (pairs : List (List Int)) : impl_between.f a b pairs =
  ((slices_Clone_LLint_Lint.f pairs).bind fun y4 =>
  bif (decide ((y4.length + [[(a.length : Int), (b.length : Int)]].length) ≤ room 24)) then (impl_between.l6 b ([] : List (Int × Int × List ByteArray)) 0 0 (y4 ++ [[(a.length : Int), (b.length : Int)]]) ((y4 ++ [[(a.length : Int), (b.length : Int)]]).length : Int) 0) else none) := by kernel_rfl
noncomputable def impl_between.S : Abs.Sum := ⟨impl_between.P, impl_between.R, fun _ => Fn impl_between.E impl_between.T impl_between.C impl_between.P impl_between.R impl_between.X⟩
theorem impl_between.meets : Meets Tryz.prog 191 impl_between.S := meets_tab (S := impl_between.U) tabOk_all (AllMeets.cons slices_Clone_LLint_Lint.meets (AllMeets.cons slices_Clone_Lstring_string.meets AllMeets.nil)) (AllStill.cons (fun _ _ _ => rfl) (AllStill.cons (fun _ _ _ => rfl) AllStill.nil)) follows (by kernel_rfl : Tryz.prog.funcs[191]? = some Tryz.f191) (by kernel_rfl) (by kernel_rfl) (by kernel_rfl)
noncomputable def impl_diff.C : Code := Tryz.f120.body.getD .skip
def impl_diff.P : Par := (.cons (.val (.list .str)) (.cons (.val (.list .str)) .nil))
noncomputable def impl_diff.U : SumTab := [(192, [], impl_commonLines.S), (191, [], impl_between.S)]
noncomputable def impl_diff.E : Env := mkEnv TY AR impl_diff.U
noncomputable def impl_diff.T : Tab := fun k => look k []
def impl_diff.R : List (Nat × Ty) := [(9, .list (.pair (.int .i64) (.pair (.int .i64) (.one (.list .str)))))]
def impl_diff.X : List ResultVar := [.tmp 4]
noncomputable def impl_diff.f (a : List ByteArray) (b : List ByteArray) : Option ((List (Int × Int × List ByteArray))) := Fn impl_diff.E impl_diff.T impl_diff.C impl_diff.P impl_diff.R impl_diff.X (a, b)
theorem impl_diff.f_eq (a : List ByteArray) (b : List ByteArray) : impl_diff.f a b =
  ((impl_commonLines.f a b).bind fun y4 =>
  (impl_between.f a b y4).bind fun y5 =>
  some y5) := by kernel_rfl
noncomputable def impl_diff.S : Abs.Sum := ⟨impl_diff.P, impl_diff.R, fun _ => Fn impl_diff.E impl_diff.T impl_diff.C impl_diff.P impl_diff.R impl_diff.X⟩
theorem impl_diff.meets : Meets Tryz.prog 120 impl_diff.S := meets_tab (S := impl_diff.U) tabOk_all (AllMeets.cons impl_commonLines.meets (AllMeets.cons impl_between.meets AllMeets.nil)) (AllStill.cons (fun _ _ _ => rfl) (AllStill.cons (fun _ _ _ => rfl) AllStill.nil)) follows (by kernel_rfl : Tryz.prog.funcs[120]? = some Tryz.f120) (by kernel_rfl) (by kernel_rfl) (by kernel_rfl)
noncomputable def impl_goodHunks.C : Code := Tryz.f121.body.getD .skip
def impl_goodHunks.P : Par := (.cons (.val (.int .i64)) (.cons (.val (.list (.pair (.int .i64) (.pair (.int .i64) (.one (.list .str)))))) .nil))
noncomputable def impl_goodHunks.U : SumTab := [(114, [], impl_in.S), (178, [], impl_areLines.S)]
noncomputable def impl_goodHunks.E : Env := mkEnv TY AR impl_goodHunks.U
def impl_goodHunks.D7 : CutD := ⟨[0, 1], (.cons (.val (.int .i64)) (.cons (.val (.list (.pair (.int .i64) (.pair (.int .i64) (.one (.list .str)))))) .nil))⟩
def impl_goodHunks.D8 : CutD := ⟨[0, 1, 15, 16, 17], (.cons (.val (.int .i64)) (.cons (.val (.list (.pair (.int .i64) (.pair (.int .i64) (.one (.list .str)))))) (.cons (.val (.list (.pair (.int .i64) (.pair (.int .i64) (.one (.list .str)))))) (.cons (.val (.int .i64)) (.cons (.val (.int .i64)) .nil)))))⟩
def impl_goodHunks.D17 : CutD := ⟨[0, 1, 5, 6, 15, 16, 17], (.cons (.val (.int .i64)) (.cons (.val (.list (.pair (.int .i64) (.pair (.int .i64) (.one (.list .str)))))) (.cons (.val (.int .i64)) (.cons (.box 0 (.pair (.int .i64) (.pair (.int .i64) (.one (.list .str))))) (.cons (.val (.list (.pair (.int .i64) (.pair (.int .i64) (.one (.list .str)))))) (.cons (.val (.int .i64)) (.cons (.val (.int .i64)) .nil)))))))⟩
noncomputable def impl_goodHunks.T : Tab := fun k => look k [(7, impl_goodHunks.D7), (8, impl_goodHunks.D8), (17, impl_goodHunks.D17)]
def impl_goodHunks.R : List (Nat × Ty) := [(0, .bool)]
def impl_goodHunks.X : List ResultVar := [.tmp 4]
noncomputable def impl_goodHunks.K := fin impl_goodHunks.E ⟨impl_goodHunks.P, impl_goodHunks.R, fun _ _ => none⟩ impl_goodHunks.X impl_goodHunks.P.len 0
noncomputable def impl_goodHunks.l7 (many : Int) (h : List (Int × Int × List ByteArray)) : Option (Bool) := fixP impl_goodHunks.E impl_goodHunks.T impl_goodHunks.C impl_goodHunks.K 7 impl_goodHunks.D7 (many, h)
noncomputable def impl_goodHunks.l8 (many : Int) (h : List (Int × Int × List ByteArray)) (t15 : List (Int × Int × List ByteArray)) (t16 : Int) (t17 : Int) : Option (Bool) := fixP impl_goodHunks.E impl_goodHunks.T impl_goodHunks.C impl_goodHunks.K 8 impl_goodHunks.D8 (many, h, t15, t16, t17)
noncomputable def impl_goodHunks.l17 (many : Int) (h : List (Int × Int × List ByteArray)) (i : Int) (x : Int × Int × List ByteArray) (t15 : List (Int × Int × List ByteArray)) (t16 : Int) (t17 : Int) : Option (Bool) := fixP impl_goodHunks.E impl_goodHunks.T impl_goodHunks.C impl_goodHunks.K 17 impl_goodHunks.D17 (many, h, i, x, t15, t16, t17)
noncomputable def impl_goodHunks.f (many : Int) (h : List (Int × Int × List ByteArray)) : Option (Bool) := Fn impl_goodHunks.E impl_goodHunks.T impl_goodHunks.C impl_goodHunks.P impl_goodHunks.R impl_goodHunks.X (many, h)
theorem impl_goodHunks.l7_eq (many : Int) (h : List (Int × Int × List ByteArray)) : impl_goodHunks.l7 many h =
  (impl_goodHunks.l8 many h h (h.length : Int) 0) :=
  (fixP_eq impl_goodHunks.E impl_goodHunks.T impl_goodHunks.C impl_goodHunks.K 7 impl_goodHunks.D7 (many, h)).trans (by kernel_rfl)
theorem impl_goodHunks.l8_eq (many : Int) (h : List (Int × Int × List ByteArray)) (t15 : List (Int × Int × List ByteArray)) (t16 : Int) (t17 : Int) : impl_goodHunks.l8 many h t15 t16 t17 =
  (bif (decide (t17 < t16)) then (bif ((decide (0 ≤ t17)) && (decide (t17 < (t15.length : Int)))) then ((impl_in.f (t15.getD (t17).toNat (0, 0, ([] : List ByteArray))).1 0 many).bind fun y4 =>
    bif (!y4) then (some false) else
    ((impl_in.f (t15.getD (t17).toNat (0, 0, ([] : List ByteArray))).2.1 0 (w64 (many - (t15.getD (t17).toNat (0, 0, ([] : List ByteArray))).1))).bind fun y5 =>
     bif (!y5) then (some false) else
     ((impl_areLines.f (t15.getD (t17).toNat (0, 0, ([] : List ByteArray))).2.2).bind fun y6 =>
      bif (!y6) then (some false) else
      (bif (decide ((t15.getD (t17).toNat (0, 0, ([] : List ByteArray))).2.1 = 0)) then (bif (decide (((t15.getD (t17).toNat (0, 0, ([] : List ByteArray))).2.2.length : Int) = 0)) then (some false) else
        (impl_goodHunks.l17 many h t17 (t15.getD (t17).toNat (0, 0, ([] : List ByteArray))) t15 t16 t17)) else
       (impl_goodHunks.l17 many h t17 (t15.getD (t17).toNat (0, 0, ([] : List ByteArray))) t15 t16 t17))))) else none) else (some true)) :=
  (fixP_eq impl_goodHunks.E impl_goodHunks.T impl_goodHunks.C impl_goodHunks.K 8 impl_goodHunks.D8 (many, h, t15, t16, t17)).trans (by kernel_rfl)
theorem impl_goodHunks.l17_eq (many : Int) (h : List (Int × Int × List ByteArray)) (i : Int) (x : Int × Int × List ByteArray) (t15 : List (Int × Int × List ByteArray)) (t16 : Int) (t17 : Int) : impl_goodHunks.l17 many h i x t15 t16 t17 =
  (bif (decide (i > 0)) then (bif ((decide (0 ≤ (w64 (i - 1)))) && (decide ((w64 (i - 1)) < (h.length : Int)))) then (bif ((decide (0 ≤ (w64 (i - 1)))) && (decide ((w64 (i - 1)) < (h.length : Int)))) then (bif (decide (x.1 ≤ (w64 ((h.getD ((w64 (i - 1))).toNat (0, 0, ([] : List ByteArray))).1 + (h.getD ((w64 (i - 1))).toNat (0, 0, ([] : List ByteArray))).2.1)))) then (some false) else
     (impl_goodHunks.l8 many h t15 t16 (w64 (t17 + 1)))) else none) else none) else
  (impl_goodHunks.l8 many h t15 t16 (w64 (t17 + 1)))) :=
  (fixP_eq impl_goodHunks.E impl_goodHunks.T impl_goodHunks.C impl_goodHunks.K 17 impl_goodHunks.D17 (many, h, i, x, t15, t16, t17)).trans (by kernel_rfl)
theorem impl_goodHunks.f_eq (many : Int) (h : List (Int × Int × List ByteArray)) : impl_goodHunks.f many h =
  ((impl_in.f many 0 40).bind fun y4 =>
  bif (!y4) then (some false) else
  (bif (decide ((h.length : Int) > 20)) then (some false) else
   (impl_goodHunks.l7 many h))) := by kernel_rfl
noncomputable def impl_goodHunks.S : Abs.Sum := ⟨impl_goodHunks.P, impl_goodHunks.R, fun _ => Fn impl_goodHunks.E impl_goodHunks.T impl_goodHunks.C impl_goodHunks.P impl_goodHunks.R impl_goodHunks.X⟩
theorem impl_goodHunks.meets : Meets Tryz.prog 121 impl_goodHunks.S := meets_tab (S := impl_goodHunks.U) tabOk_all (AllMeets.cons impl_in.meets (AllMeets.cons impl_areLines.meets AllMeets.nil)) (AllStill.cons (fun _ _ _ => rfl) (AllStill.cons (fun _ _ _ => rfl) AllStill.nil)) follows (by kernel_rfl : Tryz.prog.funcs[121]? = some Tryz.f121) (by kernel_rfl) (by kernel_rfl) (by kernel_rfl)
noncomputable def impl_DiffHunks.C : Code := Tryz.f57.body.getD .skip
def impl_DiffHunks.P : Par := (.cons (.val (.list .str)) (.cons (.val (.list .str)) .nil))
noncomputable def impl_DiffHunks.U : SumTab := [(113, [], impl_goodLines.S), (120, [], impl_diff.S), (121, [], impl_goodHunks.S)]
noncomputable def impl_DiffHunks.E : Env := mkEnv TY AR impl_DiffHunks.U
def impl_DiffHunks.D7 : CutD := ⟨[0, 1], (.cons (.val (.list .str)) (.cons (.val (.list .str)) .nil))⟩
noncomputable def impl_DiffHunks.T : Tab := fun k => look k [(7, impl_DiffHunks.D7)]
def impl_DiffHunks.R : List (Nat × Ty) := [(9, .list (.pair (.int .i64) (.pair (.int .i64) (.one (.list .str))))), (0, .bool)]
def impl_DiffHunks.X : List ResultVar := [.tmp 4, .tmp 5]
noncomputable def impl_DiffHunks.K := fin impl_DiffHunks.E ⟨impl_DiffHunks.P, impl_DiffHunks.R, fun _ _ => none⟩ impl_DiffHunks.X impl_DiffHunks.P.len 0
noncomputable def impl_DiffHunks.l7 (a : List ByteArray) (b : List ByteArray) : Option ((List (Int × Int × List ByteArray)) × Bool) := fixP impl_DiffHunks.E impl_DiffHunks.T impl_DiffHunks.C impl_DiffHunks.K 7 impl_DiffHunks.D7 (a, b)
noncomputable def impl_DiffHunks.f (a : List ByteArray) (b : List ByteArray) : Option ((List (Int × Int × List ByteArray)) × Bool) := Fn impl_DiffHunks.E impl_DiffHunks.T impl_DiffHunks.C impl_DiffHunks.P impl_DiffHunks.R impl_DiffHunks.X (a, b)
theorem impl_DiffHunks.l7_eq (a : List ByteArray) (b : List ByteArray) : impl_DiffHunks.l7 a b =
  ((impl_diff.f a b).bind fun y4 =>
  (impl_goodHunks.f (a.length : Int) y4).bind fun y5 =>
  bif (!y5) then (some (([] : List (Int × Int × List ByteArray)), false)) else (some (y4, true))) :=
  (fixP_eq impl_DiffHunks.E impl_DiffHunks.T impl_DiffHunks.C impl_DiffHunks.K 7 impl_DiffHunks.D7 (a, b)).trans (by kernel_rfl)
theorem impl_DiffHunks.f_eq (a : List ByteArray) (b : List ByteArray) : impl_DiffHunks.f a b =
  ((impl_goodLines.f a).bind fun y4 =>
  bif (!y4) then (some (([] : List (Int × Int × List ByteArray)), false)) else
  ((impl_goodLines.f b).bind fun y5 =>
   bif (!y5) then (some (([] : List (Int × Int × List ByteArray)), false)) else
   (impl_DiffHunks.l7 a b))) := by kernel_rfl
noncomputable def impl_DiffHunks.S : Abs.Sum := ⟨impl_DiffHunks.P, impl_DiffHunks.R, fun _ => Fn impl_DiffHunks.E impl_DiffHunks.T impl_DiffHunks.C impl_DiffHunks.P impl_DiffHunks.R impl_DiffHunks.X⟩
theorem impl_DiffHunks.meets : Meets Tryz.prog 57 impl_DiffHunks.S := meets_tab (S := impl_DiffHunks.U) tabOk_all (AllMeets.cons impl_goodLines.meets (AllMeets.cons impl_diff.meets (AllMeets.cons impl_goodHunks.meets AllMeets.nil))) (AllStill.cons (fun _ _ _ => rfl) (AllStill.cons (fun _ _ _ => rfl) (AllStill.cons (fun _ _ _ => rfl) AllStill.nil))) follows (by kernel_rfl : Tryz.prog.funcs[57]? = some Tryz.f57) (by kernel_rfl) (by kernel_rfl) (by kernel_rfl)
noncomputable def impl_groupsOf_1.C : Code := Tryz.f122.body.getD .skip
def impl_groupsOf_1.P : Par := (.cons (.val (.int .i64)) (.cons (.val (.list .str)) (.cons (.box 9 (.pair (.int .i64) (.pair (.int .i64) (.one (.list (.pair (.int .i64) (.one .str))))))) .nil)))
noncomputable def impl_groupsOf_1.U : SumTab := []
noncomputable def impl_groupsOf_1.E : Env := mkEnv TY AR impl_groupsOf_1.U
def impl_groupsOf_1.D2 : CutD := ⟨[0, 1, 2, 7, 8, 9], (.cons (.val (.int .i64)) (.cons (.val (.list .str)) (.cons (.box 9 (.pair (.int .i64) (.pair (.int .i64) (.one (.list (.pair (.int .i64) (.one .str))))))) (.cons (.val (.list .str)) (.cons (.val (.int .i64)) (.cons (.val (.int .i64)) .nil))))))⟩
noncomputable def impl_groupsOf_1.T : Tab := fun k => look k [(2, impl_groupsOf_1.D2)]
def impl_groupsOf_1.R : List (Nat × Ty) := []
def impl_groupsOf_1.X : List ResultVar := []
noncomputable def impl_groupsOf_1.K := fin impl_groupsOf_1.E ⟨impl_groupsOf_1.P, impl_groupsOf_1.R, fun _ _ => none⟩ impl_groupsOf_1.X impl_groupsOf_1.P.len 0
noncomputable def impl_groupsOf_1.l2 (kind : Int) (lines : List ByteArray) (t2 : Int × Int × List (Int × ByteArray)) (t7 : List ByteArray) (t8 : Int) (t9 : Int) : Option ((Int × Int × List (Int × ByteArray))) := fixP impl_groupsOf_1.E impl_groupsOf_1.T impl_groupsOf_1.C impl_groupsOf_1.K 2 impl_groupsOf_1.D2 (kind, lines, t2, t7, t8, t9)
noncomputable def impl_groupsOf_1.f (kind : Int) (lines : List ByteArray) (t2 : Int × Int × List (Int × ByteArray)) : Option ((Int × Int × List (Int × ByteArray))) := Fn impl_groupsOf_1.E impl_groupsOf_1.T impl_groupsOf_1.C impl_groupsOf_1.P impl_groupsOf_1.R impl_groupsOf_1.X (kind, lines, t2)
theorem impl_groupsOf_1.l2_eq (kind : Int) (lines : List ByteArray) (t2 : Int × Int × List (Int × ByteArray)) (t7 : List ByteArray) (t8 : Int) (t9 : Int) : impl_groupsOf_1.l2 kind lines t2 t7 t8 t9 =
  (bif (decide (t9 < t8)) then (bif ((decide (0 ≤ t9)) && (decide (t9 < (t7.length : Int)))) then (bif (decide ((t2.2.2.length + [(kind, (t7.getD (t9).toNat em))].length) ≤ room 24)) then (impl_groupsOf_1.l2 kind lines (t2.1, t2.2.1, (t2.2.2 ++ [(kind, (t7.getD (t9).toNat em))])) t7 t8 (w64 (t9 + 1))) else none) else none) else (some (t2.1, t2.2.1, t2.2.2))) :=
  (fixP_eq impl_groupsOf_1.E impl_groupsOf_1.T impl_groupsOf_1.C impl_groupsOf_1.K 2 impl_groupsOf_1.D2 (kind, lines, t2, t7, t8, t9)).trans (by kernel_rfl)
theorem impl_groupsOf_1.f_eq (kind : Int) (lines : List ByteArray) (t2 : Int × Int × List (Int × ByteArray)) : impl_groupsOf_1.f kind lines t2 =
  (impl_groupsOf_1.l2 kind lines (t2.1, t2.2.1, t2.2.2) lines (lines.length : Int) 0) := by kernel_rfl
noncomputable def impl_groupsOf_1.S : Abs.Sum := ⟨impl_groupsOf_1.P, impl_groupsOf_1.R, fun _ => Fn impl_groupsOf_1.E impl_groupsOf_1.T impl_groupsOf_1.C impl_groupsOf_1.P impl_groupsOf_1.R impl_groupsOf_1.X⟩
theorem impl_groupsOf_1.meets : Meets Tryz.prog 122 impl_groupsOf_1.S := meets_tab (S := impl_groupsOf_1.U) tabOk_all AllMeets.nil AllStill.nil follows (by kernel_rfl : Tryz.prog.funcs[122]? = some Tryz.f122) (by kernel_rfl) (by kernel_rfl) (by kernel_rfl)
noncomputable def impl_groupsOf.C : Code := Tryz.f58.body.getD .skip
def impl_groupsOf.P : Par := (.cons (.val (.list .str)) (.cons (.val (.list (.pair (.int .i64) (.pair (.int .i64) (.one (.list .str)))))) (.cons (.val (.int .i64)) .nil)))
noncomputable def impl_groupsOf.U : SumTab := [(122, [], impl_groupsOf_1.S)]
noncomputable def impl_groupsOf.E : Env := mkEnv TY AR impl_groupsOf.U
def impl_groupsOf.D6 : CutD := ⟨[0, 1, 2, 7, 8, 9], (.cons (.val (.list .str)) (.cons (.val (.list (.pair (.int .i64) (.pair (.int .i64) (.one (.list .str)))))) (.cons (.val (.int .i64)) (.cons (.own 9 (.pair (.int .i64) (.pair (.int .i64) (.one (.list (.pair (.int .i64) (.one .str))))))) (.cons (.val (.int .i64)) (.cons (.val (.int .i64)) .nil))))))⟩
def impl_groupsOf.D10 : CutD := ⟨[0, 1, 2, 7, 8, 9, 10], (.cons (.val (.list .str)) (.cons (.val (.list (.pair (.int .i64) (.pair (.int .i64) (.one (.list .str)))))) (.cons (.val (.int .i64)) (.cons (.own 9 (.pair (.int .i64) (.pair (.int .i64) (.one (.list (.pair (.int .i64) (.one .str))))))) (.cons (.val (.int .i64)) (.cons (.val (.int .i64)) (.cons (.val (.int .i64)) .nil)))))))⟩
def impl_groupsOf.D15 : CutD := ⟨[0, 1, 2, 7, 8, 9, 10], (.cons (.val (.list .str)) (.cons (.val (.list (.pair (.int .i64) (.pair (.int .i64) (.one (.list .str)))))) (.cons (.val (.int .i64)) (.cons (.own 9 (.pair (.int .i64) (.pair (.int .i64) (.one (.list (.pair (.int .i64) (.one .str))))))) (.cons (.val (.int .i64)) (.cons (.val (.int .i64)) (.cons (.val (.int .i64)) .nil)))))))⟩
def impl_groupsOf.D22 : CutD := ⟨[0, 1, 2, 7, 8, 9, 10, 11, 12, 14, 1104113], (.cons (.val (.list .str)) (.cons (.val (.list (.pair (.int .i64) (.pair (.int .i64) (.one (.list .str)))))) (.cons (.val (.int .i64)) (.cons (.own 9 (.pair (.int .i64) (.pair (.int .i64) (.one (.list (.pair (.int .i64) (.one .str))))))) (.cons (.val (.int .i64)) (.cons (.val (.int .i64)) (.cons (.val (.int .i64)) (.cons (.val (.int .i64)) (.cons (.val (.int .i64)) (.cons (.fn 122 (.cons (.box 9 (.pair (.int .i64) (.pair (.int .i64) (.one (.list (.pair (.int .i64) (.one .str))))))) .nil)) .nil))))))))))⟩
noncomputable def impl_groupsOf.T : Tab := fun k => look k [(6, impl_groupsOf.D6), (10, impl_groupsOf.D10), (15, impl_groupsOf.D15), (22, impl_groupsOf.D22)]
def impl_groupsOf.R : List (Nat × Ty) := [(9, .list (.pair (.int .i64) (.pair (.int .i64) (.one (.list (.pair (.int .i64) (.one .str)))))))]
def impl_groupsOf.X : List ResultVar := [.tmp 6]
noncomputable def impl_groupsOf.K := fin impl_groupsOf.E ⟨impl_groupsOf.P, impl_groupsOf.R, fun _ _ => none⟩ impl_groupsOf.X impl_groupsOf.P.len 0
noncomputable def impl_groupsOf.l6 (l : List ByteArray) (h : List (Int × Int × List ByteArray)) (width : Int) (out : List (Int × Int × List (Int × ByteArray))) (more : Int) (i : Int) : Option ((List (Int × Int × List (Int × ByteArray)))) := fixP impl_groupsOf.E impl_groupsOf.T impl_groupsOf.C impl_groupsOf.K 6 impl_groupsOf.D6 (l, h, width, out, more, i)
noncomputable def impl_groupsOf.l10 (l : List ByteArray) (h : List (Int × Int × List ByteArray)) (width : Int) (out : List (Int × Int × List (Int × ByteArray))) (more : Int) (i : Int) (last : Int) : Option ((List (Int × Int × List (Int × ByteArray)))) := fixP impl_groupsOf.E impl_groupsOf.T impl_groupsOf.C impl_groupsOf.K 10 impl_groupsOf.D10 (l, h, width, out, more, i, last)
noncomputable def impl_groupsOf.l15 (l : List ByteArray) (h : List (Int × Int × List ByteArray)) (width : Int) (out : List (Int × Int × List (Int × ByteArray))) (more : Int) (i : Int) (last : Int) : Option ((List (Int × Int × List (Int × ByteArray)))) := fixP impl_groupsOf.E impl_groupsOf.T impl_groupsOf.C impl_groupsOf.K 15 impl_groupsOf.D15 (l, h, width, out, more, i, last)
noncomputable def impl_groupsOf.l22 (l : List ByteArray) (h : List (Int × Int × List ByteArray)) (width : Int) (out : List (Int × Int × List (Int × ByteArray))) (more : Int) (i : Int) (last : Int) (t11 : Int) (t12 : Int) (row : Int × Int × List (Int × ByteArray)) : Option ((List (Int × Int × List (Int × ByteArray)))) := fixP impl_groupsOf.E impl_groupsOf.T impl_groupsOf.C impl_groupsOf.K 22 impl_groupsOf.D22 (l, h, width, out, more, i, last, t11, t12, row)
noncomputable def impl_groupsOf.f (l : List ByteArray) (h : List (Int × Int × List ByteArray)) (width : Int) : Option ((List (Int × Int × List (Int × ByteArray)))) := Fn impl_groupsOf.E impl_groupsOf.T impl_groupsOf.C impl_groupsOf.P impl_groupsOf.R impl_groupsOf.X (l, h, width)
theorem impl_groupsOf.l6_eq (l : List ByteArray) (h : List (Int × Int × List ByteArray)) (width : Int) (out : List (Int × Int × List (Int × ByteArray))) (more : Int) (i : Int) : impl_groupsOf.l6 l h width out more i =
  (bif (decide (i < (h.length : Int))) then (impl_groupsOf.l10 l h width out more i i) else (some out)) :=
  (fixP_eq impl_groupsOf.E impl_groupsOf.T impl_groupsOf.C impl_groupsOf.K 6 impl_groupsOf.D6 (l, h, width, out, more, i)).trans (by kernel_rfl)
theorem impl_groupsOf.l10_eq (l : List ByteArray) (h : List (Int × Int × List ByteArray)) (width : Int) (out : List (Int × Int × List (Int × ByteArray))) (more : Int) (i : Int) (last : Int) : impl_groupsOf.l10 l h width out more i last =
  (bif (decide ((w64 (last + 1)) < (h.length : Int))) then (bif ((decide (0 ≤ (w64 (last + 1)))) && (decide ((w64 (last + 1)) < (h.length : Int)))) then (bif ((decide (0 ≤ last)) && (decide (last < (h.length : Int)))) then (bif ((decide (0 ≤ last)) && (decide (last < (h.length : Int)))) then (bif (decide ((w64 ((h.getD ((w64 (last + 1))).toNat (0, 0, ([] : List ByteArray))).1 - (w64 ((h.getD (last).toNat (0, 0, ([] : List ByteArray))).1 + (h.getD (last).toNat (0, 0, ([] : List ByteArray))).2.1)))) ≤ (w64 (2 * width)))) then (impl_groupsOf.l10 l h width out more i (w64 (last + 1))) else
      (impl_groupsOf.l15 l h width out more i last)) else none) else none) else none) else
  (impl_groupsOf.l15 l h width out more i last)) :=
  (fixP_eq impl_groupsOf.E impl_groupsOf.T impl_groupsOf.C impl_groupsOf.K 10 impl_groupsOf.D10 (l, h, width, out, more, i, last)).trans (by kernel_rfl)
theorem impl_groupsOf.l15_eq (l : List ByteArray) (h : List (Int × Int × List ByteArray)) (width : Int) (out : List (Int × Int × List (Int × ByteArray))) (more : Int) (i : Int) (last : Int) : impl_groupsOf.l15 l h width out more i last =
  (bif ((decide (0 ≤ i)) && (decide (i < (h.length : Int)))) then (bif ((decide (0 ≤ last)) && (decide (last < (h.length : Int)))) then (bif ((decide (0 ≤ last)) && (decide (last < (h.length : Int)))) then (impl_groupsOf.l22 l h width out more i last (max (w64 ((h.getD (i).toNat (0, 0, ([] : List ByteArray))).1 - width)) 0) (min (w64 ((w64 ((h.getD (last).toNat (0, 0, ([] : List ByteArray))).1 + (h.getD (last).toNat (0, 0, ([] : List ByteArray))).2.1)) + width)) (l.length : Int)) ((max (w64 ((h.getD (i).toNat (0, 0, ([] : List ByteArray))).1 - width)) 0), (w64 ((max (w64 ((h.getD (i).toNat (0, 0, ([] : List ByteArray))).1 - width)) 0) + more)), ([] : List (Int × ByteArray)))) else none) else none) else none) :=
  (fixP_eq impl_groupsOf.E impl_groupsOf.T impl_groupsOf.C impl_groupsOf.K 15 impl_groupsOf.D15 (l, h, width, out, more, i, last)).trans (by kernel_rfl)
theorem impl_groupsOf.l22_eq (l : List ByteArray) (h : List (Int × Int × List ByteArray)) (width : Int) (out : List (Int × Int × List (Int × ByteArray))) (more : Int) (i : Int) (last : Int) (t11 : Int) (t12 : Int) (row : Int × Int × List (Int × ByteArray)) : impl_groupsOf.l22 l h width out more i last t11 t12 row =
  (bif (decide (i ≤ last)) then (bif ((decide (0 ≤ i)) && (decide (i < (h.length : Int)))) then (bif ((decide (0 ≤ t11)) && ((decide (t11 ≤ (h.getD (i).toNat (0, 0, ([] : List ByteArray))).1)) && (decide ((h.getD (i).toNat (0, 0, ([] : List ByteArray))).1 ≤ (l.length : Int))))) then ((impl_groupsOf_1.f 1 ((l.take ((h.getD (i).toNat (0, 0, ([] : List ByteArray))).1).toNat).drop (t11).toNat) (row.1, row.2.1, row.2.2)).bind fun y4 =>
     bif ((decide (0 ≤ (h.getD (i).toNat (0, 0, ([] : List ByteArray))).1)) && ((decide ((h.getD (i).toNat (0, 0, ([] : List ByteArray))).1 ≤ (w64 ((h.getD (i).toNat (0, 0, ([] : List ByteArray))).1 + (h.getD (i).toNat (0, 0, ([] : List ByteArray))).2.1)))) && (decide ((w64 ((h.getD (i).toNat (0, 0, ([] : List ByteArray))).1 + (h.getD (i).toNat (0, 0, ([] : List ByteArray))).2.1)) ≤ (l.length : Int))))) then ((impl_groupsOf_1.f 2 ((l.take ((w64 ((h.getD (i).toNat (0, 0, ([] : List ByteArray))).1 + (h.getD (i).toNat (0, 0, ([] : List ByteArray))).2.1))).toNat).drop ((h.getD (i).toNat (0, 0, ([] : List ByteArray))).1).toNat) (y4.1, y4.2.1, y4.2.2)).bind fun y5 =>
      (impl_groupsOf_1.f 3 (h.getD (i).toNat (0, 0, ([] : List ByteArray))).2.2 (y5.1, y5.2.1, y5.2.2)).bind fun y6 =>
      impl_groupsOf.l22 l h width out (w64 (more + (w64 (((h.getD (i).toNat (0, 0, ([] : List ByteArray))).2.2.length : Int) - (h.getD (i).toNat (0, 0, ([] : List ByteArray))).2.1)))) (w64 (i + 1)) last (w64 ((h.getD (i).toNat (0, 0, ([] : List ByteArray))).1 + (h.getD (i).toNat (0, 0, ([] : List ByteArray))).2.1)) t12 (y6.1, y6.2.1, y6.2.2)) else none) else none) else none) else
  (bif ((decide (0 ≤ t11)) && ((decide (t11 ≤ t12)) && (decide (t12 ≤ (l.length : Int))))) then ((impl_groupsOf_1.f 1 ((l.take (t12).toNat).drop (t11).toNat) (row.1, row.2.1, row.2.2)).bind fun y4 =>
    bif (decide ((out.length + [(y4.1, y4.2.1, y4.2.2)].length) ≤ room 40)) then (impl_groupsOf.l6 l h width (out ++ [(y4.1, y4.2.1, y4.2.2)]) more i) else none) else none)) :=
  (fixP_eq impl_groupsOf.E impl_groupsOf.T impl_groupsOf.C impl_groupsOf.K 22 impl_groupsOf.D22 (l, h, width, out, more, i, last, t11, t12, row)).trans (by kernel_rfl)
theorem impl_groupsOf.f_eq (l : List ByteArray) (h : List (Int × Int × List ByteArray)) (width : Int) : impl_groupsOf.f l h width =
  (impl_groupsOf.l6 l h width ([] : List (Int × Int × List (Int × ByteArray))) 0 0) := by kernel_rfl
noncomputable def impl_groupsOf.S : Abs.Sum := ⟨impl_groupsOf.P, impl_groupsOf.R, fun _ => Fn impl_groupsOf.E impl_groupsOf.T impl_groupsOf.C impl_groupsOf.P impl_groupsOf.R impl_groupsOf.X⟩
theorem impl_groupsOf.meets : Meets Tryz.prog 58 impl_groupsOf.S := meets_tab (S := impl_groupsOf.U) tabOk_all (AllMeets.cons impl_groupsOf_1.meets AllMeets.nil) (AllStill.cons (fun _ _ _ => rfl) AllStill.nil) follows (by kernel_rfl : Tryz.prog.funcs[58]? = some Tryz.f58) (by kernel_rfl) (by kernel_rfl) (by kernel_rfl)
noncomputable def impl_DiffFiles.C : Code := Tryz.f11.body.getD .skip
def impl_DiffFiles.P : Par := (.cons (.val (.list (.pair .str (.one (.list .str))))) (.cons (.val (.list (.pair .str (.one (.list .str))))) (.cons (.val (.int .i64)) .nil)))
noncomputable def impl_DiffFiles.U : SumTab := [(50, [], impl_goodFiles.S), (51, [], impl_isWidth.S), (52, [], slices_Concat_Limpl_File_impl_File.S), (53, [], slices_Sort_Lstring_string.S), (54, [], slices_Compact_Lstring_string.S), (55, [], impl_linesIn.S), (56, [], slices_Equal_Lstring_string.S), (57, [], impl_DiffHunks.S), (58, [], impl_groupsOf.S)]
def impl_DiffFiles.Z : List (Nat × List Nat) := [(1000037, [1])]
noncomputable def impl_DiffFiles.E : Env := mkEnvZ TY AR impl_DiffFiles.U impl_DiffFiles.Z
def impl_DiffFiles.D7 : CutD := ⟨[0, 1, 2], (.cons (.val (.list (.pair .str (.one (.list .str))))) (.cons (.val (.list (.pair .str (.one (.list .str))))) (.cons (.val (.int .i64)) .nil)))⟩
def impl_DiffFiles.D10 : CutD := ⟨[0, 1, 2, 8, 38, 39, 40], (.cons (.val (.list (.pair .str (.one (.list .str))))) (.cons (.val (.list (.pair .str (.one (.list .str))))) (.cons (.val (.int .i64)) (.cons (.own 9 .str) (.cons (.own 0 (.pair .str (.one (.list .str)))) (.cons (.val (.int .i64)) (.cons (.val (.int .i64)) .nil)))))))⟩
def impl_DiffFiles.D24 : CutD := ⟨[0, 1, 2, 11, 54, 55, 56], (.cons (.val (.list (.pair .str (.one (.list .str))))) (.cons (.val (.list (.pair .str (.one (.list .str))))) (.cons (.val (.int .i64)) (.cons (.own 9 (.pair .str (.pair (.int .i64) (.one (.list (.pair (.int .i64) (.pair (.int .i64) (.one (.list (.pair (.int .i64) (.one .str))))))))))) (.cons (.own 8 .str) (.cons (.val (.int .i64)) (.cons (.val (.int .i64)) .nil)))))))⟩
def impl_DiffFiles.D45 : CutD := ⟨[0, 1, 2, 11, 14, 16, 18, 54, 55, 56], (.cons (.val (.list (.pair .str (.one (.list .str))))) (.cons (.val (.list (.pair .str (.one (.list .str))))) (.cons (.val (.int .i64)) (.cons (.own 9 (.pair .str (.pair (.int .i64) (.one (.list (.pair (.int .i64) (.pair (.int .i64) (.one (.list (.pair (.int .i64) (.one .str))))))))))) (.cons (.val (.list .str)) (.cons (.val (.list .str)) (.cons (.box 9 (.pair .str (.pair (.int .i64) (.one (.list (.pair (.int .i64) (.pair (.int .i64) (.one (.list (.pair (.int .i64) (.one .str))))))))))) (.cons (.own 8 .str) (.cons (.val (.int .i64)) (.cons (.val (.int .i64)) .nil))))))))))⟩
noncomputable def impl_DiffFiles.T : Tab := fun k => look k [(7, impl_DiffFiles.D7), (10, impl_DiffFiles.D10), (24, impl_DiffFiles.D24), (45, impl_DiffFiles.D45)]
def impl_DiffFiles.R : List (Nat × Ty) := [(9, .list (.pair .str (.pair (.int .i64) (.one (.list (.pair (.int .i64) (.pair (.int .i64) (.one (.list (.pair (.int .i64) (.one .str))))))))))), (0, .bool)]
def impl_DiffFiles.X : List ResultVar := [.tmp 6, .tmp 7]
noncomputable def impl_DiffFiles.K := fin impl_DiffFiles.E ⟨impl_DiffFiles.P, impl_DiffFiles.R, fun _ _ => none⟩ impl_DiffFiles.X impl_DiffFiles.P.len 0
noncomputable def impl_DiffFiles.l7 (a : List (ByteArray × List ByteArray)) (b : List (ByteArray × List ByteArray)) (width : Int) : Option ((List (ByteArray × Int × List (Int × Int × List (Int × ByteArray)))) × Bool) := fixP impl_DiffFiles.E impl_DiffFiles.T impl_DiffFiles.C impl_DiffFiles.K 7 impl_DiffFiles.D7 (a, b, width)
noncomputable def impl_DiffFiles.l10 (a : List (ByteArray × List ByteArray)) (b : List (ByteArray × List ByteArray)) (width : Int) (names : List ByteArray) (t38 : List (ByteArray × List ByteArray)) (t39 : Int) (t40 : Int) : Option ((List (ByteArray × Int × List (Int × Int × List (Int × ByteArray)))) × Bool) := fixP impl_DiffFiles.E impl_DiffFiles.T impl_DiffFiles.C impl_DiffFiles.K 10 impl_DiffFiles.D10 (a, b, width, names, t38, t39, t40)
noncomputable def impl_DiffFiles.l24 (a : List (ByteArray × List ByteArray)) (b : List (ByteArray × List ByteArray)) (width : Int) (out : List (ByteArray × Int × List (Int × Int × List (Int × ByteArray)))) (t54 : List ByteArray) (t55 : Int) (t56 : Int) : Option ((List (ByteArray × Int × List (Int × Int × List (Int × ByteArray)))) × Bool) := fixP impl_DiffFiles.E impl_DiffFiles.T impl_DiffFiles.C impl_DiffFiles.K 24 impl_DiffFiles.D24 (a, b, width, out, t54, t55, t56)
noncomputable def impl_DiffFiles.l45 (a : List (ByteArray × List ByteArray)) (b : List (ByteArray × List ByteArray)) (width : Int) (out : List (ByteArray × Int × List (Int × Int × List (Int × ByteArray)))) (l : List ByteArray) (m : List ByteArray) (x : ByteArray × Int × List (Int × Int × List (Int × ByteArray))) (t54 : List ByteArray) (t55 : Int) (t56 : Int) : Option ((List (ByteArray × Int × List (Int × Int × List (Int × ByteArray)))) × Bool) := fixP impl_DiffFiles.E impl_DiffFiles.T impl_DiffFiles.C impl_DiffFiles.K 45 impl_DiffFiles.D45 (a, b, width, out, l, m, x, t54, t55, t56)
noncomputable def impl_DiffFiles.f (a : List (ByteArray × List ByteArray)) (b : List (ByteArray × List ByteArray)) (width : Int) : Option ((List (ByteArray × Int × List (Int × Int × List (Int × ByteArray)))) × Bool) := Fn impl_DiffFiles.E impl_DiffFiles.T impl_DiffFiles.C impl_DiffFiles.P impl_DiffFiles.R impl_DiffFiles.X (a, b, width)
theorem impl_DiffFiles.l7_eq (a : List (ByteArray × List ByteArray)) (b : List (ByteArray × List ByteArray)) (width : Int) : impl_DiffFiles.l7 a b width =
  ((slices_Concat_Limpl_File_impl_File.f [a, b]).bind fun y4 =>
  impl_DiffFiles.l10 a b width ([] : List ByteArray) y4 (y4.length : Int) 0) :=
  (fixP_eq impl_DiffFiles.E impl_DiffFiles.T impl_DiffFiles.C impl_DiffFiles.K 7 impl_DiffFiles.D7 (a, b, width)).trans (by kernel_rfl)
theorem impl_DiffFiles.l10_eq (a : List (ByteArray × List ByteArray)) (b : List (ByteArray × List ByteArray)) (width : Int) (names : List ByteArray) (t38 : List (ByteArray × List ByteArray)) (t39 : Int) (t40 : Int) : impl_DiffFiles.l10 a b width names t38 t39 t40 =
  (bif (decide (t40 < t39)) then (bif ((decide (0 ≤ t40)) && (decide (t40 < (t38.length : Int)))) then (bif (decide ((names.length + [(t38.getD (t40).toNat (em, ([] : List ByteArray))).1].length) ≤ room 16)) then (impl_DiffFiles.l10 a b width (names ++ [(t38.getD (t40).toNat (em, ([] : List ByteArray))).1]) t38 t39 (w64 (t40 + 1))) else none) else none) else
  ((slices_Sort_Lstring_string.f names).bind fun y4 =>
   (slices_Compact_Lstring_string.f y4).bind fun y5 =>
   impl_DiffFiles.l24 a b width ([] : List (ByteArray × Int × List (Int × Int × List (Int × ByteArray)))) y5 (y5.length : Int) 0)) :=
  (fixP_eq impl_DiffFiles.E impl_DiffFiles.T impl_DiffFiles.C impl_DiffFiles.K 10 impl_DiffFiles.D10 (a, b, width, names, t38, t39, t40)).trans (by kernel_rfl)
theorem impl_DiffFiles.l24_eq (a : List (ByteArray × List ByteArray)) (b : List (ByteArray × List ByteArray)) (width : Int) (out : List (ByteArray × Int × List (Int × Int × List (Int × ByteArray)))) (t54 : List ByteArray) (t55 : Int) (t56 : Int) : impl_DiffFiles.l24 a b width out t54 t55 t56 =
  (bif (decide (t56 < t55)) then (bif ((decide (0 ≤ t56)) && (decide (t56 < (t54.length : Int)))) then ((impl_linesIn.f a (t54.getD (t56).toNat em)).bind fun y4 =>
    (impl_linesIn.f b (t54.getD (t56).toNat em)).bind fun y5 =>
    bif (!y4.2) then (impl_DiffFiles.l45 a b width out y4.1 y5.1 ((t54.getD (t56).toNat em), 1, ([] : List (Int × Int × List (Int × ByteArray)))) t54 t55 t56) else
    (bif (!y5.2) then (impl_DiffFiles.l45 a b width out y4.1 y5.1 ((t54.getD (t56).toNat em), 2, ([] : List (Int × Int × List (Int × ByteArray)))) t54 t55 t56) else
     ((slices_Equal_Lstring_string.f y4.1 y5.1).bind fun y6 =>
      bif y6 then (impl_DiffFiles.l24 a b width out t54 t55 (w64 (t56 + 1))) else
      (impl_DiffFiles.l45 a b width out y4.1 y5.1 ((t54.getD (t56).toNat em), 3, ([] : List (Int × Int × List (Int × ByteArray)))) t54 t55 t56)))) else none) else (some (out, true))) :=
  (fixP_eq impl_DiffFiles.E impl_DiffFiles.T impl_DiffFiles.C impl_DiffFiles.K 24 impl_DiffFiles.D24 (a, b, width, out, t54, t55, t56)).trans (by kernel_rfl)
theorem impl_DiffFiles.l45_eq (a : List (ByteArray × List ByteArray)) (b : List (ByteArray × List ByteArray)) (width : Int) (out : List (ByteArray × Int × List (Int × Int × List (Int × ByteArray)))) (l : List ByteArray) (m : List ByteArray) (x : ByteArray × Int × List (Int × Int × List (Int × ByteArray))) (t54 : List ByteArray) (t55 : Int) (t56 : Int) : impl_DiffFiles.l45 a b width out l m x t54 t55 t56 =
  ((impl_DiffHunks.f l m).bind fun y4 =>
  bif (!y4.2) then (some (([] : List (ByteArray × Int × List (Int × Int × List (Int × ByteArray)))), false)) else
  ((impl_groupsOf.f l y4.1 width).bind fun y5 =>
   bif (decide ((out.length + [(x.1, x.2.1, y5)].length) ≤ room 48)) then (impl_DiffFiles.l24 a b width (out ++ [(x.1, x.2.1, y5)]) t54 t55 (w64 (t56 + 1))) else none)) :=
  (fixP_eq impl_DiffFiles.E impl_DiffFiles.T impl_DiffFiles.C impl_DiffFiles.K 45 impl_DiffFiles.D45 (a, b, width, out, l, m, x, t54, t55, t56)).trans (by kernel_rfl)
theorem impl_DiffFiles.f_eq (a : List (ByteArray × List ByteArray)) (b : List (ByteArray × List ByteArray)) (width : Int) : impl_DiffFiles.f a b width =
  ((impl_goodFiles.f a).bind fun y4 =>
  bif (!y4) then (some (([] : List (ByteArray × Int × List (Int × Int × List (Int × ByteArray)))), false)) else
  ((impl_goodFiles.f b).bind fun y5 =>
   bif (!y5) then (some (([] : List (ByteArray × Int × List (Int × Int × List (Int × ByteArray)))), false)) else
   ((impl_isWidth.f width).bind fun y6 =>
    bif (!y6) then (some (([] : List (ByteArray × Int × List (Int × Int × List (Int × ByteArray)))), false)) else
    (impl_DiffFiles.l7 a b width)))) := by kernel_rfl
noncomputable def impl_DiffFiles.S : Abs.Sum := ⟨impl_DiffFiles.P, impl_DiffFiles.R, fun _ => Fn impl_DiffFiles.E impl_DiffFiles.T impl_DiffFiles.C impl_DiffFiles.P impl_DiffFiles.R impl_DiffFiles.X⟩
theorem impl_DiffFiles.meets : Meets Tryz.prog 11 impl_DiffFiles.S := meets_tabZ impl_DiffFiles.Z (S := impl_DiffFiles.U) tabOk_all (AllMeets.cons impl_goodFiles.meets (AllMeets.cons impl_isWidth.meets (AllMeets.cons slices_Concat_Limpl_File_impl_File.meets (AllMeets.cons slices_Sort_Lstring_string.meets (AllMeets.cons slices_Compact_Lstring_string.meets (AllMeets.cons impl_linesIn.meets (AllMeets.cons slices_Equal_Lstring_string.meets (AllMeets.cons impl_DiffHunks.meets (AllMeets.cons impl_groupsOf.meets AllMeets.nil))))))))) (AllStill.cons (fun _ _ _ => rfl) (AllStill.cons (fun _ _ _ => rfl) (AllStill.cons (fun _ _ _ => rfl) (AllStill.cons (fun _ _ _ => rfl) (AllStill.cons (fun _ _ _ => rfl) (AllStill.cons (fun _ _ _ => rfl) (AllStill.cons (fun _ _ _ => rfl) (AllStill.cons (fun _ _ _ => rfl) (AllStill.cons (fun _ _ _ => rfl) AllStill.nil))))))))) follows (by kernel_rfl : Tryz.prog.funcs[11]? = some Tryz.f11) (by kernel_rfl) (by kernel_rfl) (by kernel_rfl)
noncomputable def laws_eqRow.C : Code := Tryz.f292.body.getD .skip
def laws_eqRow.P : Par := (.cons (.val (.pair (.int .i64) (.one .str))) (.cons (.val (.pair (.int .i64) (.one .str))) .nil))
noncomputable def laws_eqRow.U : SumTab := []
noncomputable def laws_eqRow.E : Env := mkEnv TY AR laws_eqRow.U
noncomputable def laws_eqRow.T : Tab := fun k => look k []
def laws_eqRow.R : List (Nat × Ty) := [(0, .bool)]
def laws_eqRow.X : List ResultVar := [.tmp 4]
noncomputable def laws_eqRow.f (a : Int × ByteArray) (b : Int × ByteArray) : Option (Bool) := Fn laws_eqRow.E laws_eqRow.T laws_eqRow.C laws_eqRow.P laws_eqRow.R laws_eqRow.X (a, b)
theorem laws_eqRow.f_eq (a : Int × ByteArray) (b : Int × ByteArray) : laws_eqRow.f a b =
  (bif (!(decide (a.1 = b.1))) then (some false) else
  (bif (!(a.2.toList == b.2.toList)) then (some false) else (some true))) := by kernel_rfl
noncomputable def laws_eqRow.S : Abs.Sum := ⟨laws_eqRow.P, laws_eqRow.R, fun _ => Fn laws_eqRow.E laws_eqRow.T laws_eqRow.C laws_eqRow.P laws_eqRow.R laws_eqRow.X⟩
theorem laws_eqRow.meets : Meets Tryz.prog 292 laws_eqRow.S := meets_tab (S := laws_eqRow.U) tabOk_all AllMeets.nil AllStill.nil follows (by kernel_rfl : Tryz.prog.funcs[292]? = some Tryz.f292) (by kernel_rfl) (by kernel_rfl) (by kernel_rfl)
noncomputable def laws_eqRowS.C : Code := Tryz.f257.body.getD .skip
def laws_eqRowS.P : Par := (.cons (.val (.list (.pair (.int .i64) (.one .str)))) (.cons (.val (.list (.pair (.int .i64) (.one .str)))) .nil))
noncomputable def laws_eqRowS.U : SumTab := [(292, [], laws_eqRow.S)]
noncomputable def laws_eqRowS.E : Env := mkEnv TY AR laws_eqRowS.U
def laws_eqRowS.D8 : CutD := ⟨[0, 1, 5], (.cons (.val (.list (.pair (.int .i64) (.one .str)))) (.cons (.val (.list (.pair (.int .i64) (.one .str)))) (.cons (.val (.int .i64)) .nil)))⟩
noncomputable def laws_eqRowS.T : Tab := fun k => look k [(8, laws_eqRowS.D8)]
def laws_eqRowS.R : List (Nat × Ty) := [(0, .bool)]
def laws_eqRowS.X : List ResultVar := [.tmp 4]
noncomputable def laws_eqRowS.K := fin laws_eqRowS.E ⟨laws_eqRowS.P, laws_eqRowS.R, fun _ _ => none⟩ laws_eqRowS.X laws_eqRowS.P.len 0
noncomputable def laws_eqRowS.l8 (a : List (Int × ByteArray)) (b : List (Int × ByteArray)) (i : Int) : Option (Bool) := fixP laws_eqRowS.E laws_eqRowS.T laws_eqRowS.C laws_eqRowS.K 8 laws_eqRowS.D8 (a, b, i)
noncomputable def laws_eqRowS.f (a : List (Int × ByteArray)) (b : List (Int × ByteArray)) : Option (Bool) := Fn laws_eqRowS.E laws_eqRowS.T laws_eqRowS.C laws_eqRowS.P laws_eqRowS.R laws_eqRowS.X (a, b)
theorem laws_eqRowS.l8_eq (a : List (Int × ByteArray)) (b : List (Int × ByteArray)) (i : Int) : laws_eqRowS.l8 a b i =
  (bif (decide (i < (a.length : Int))) then (bif ((decide (0 ≤ i)) && (decide (i < (a.length : Int)))) then (bif ((decide (0 ≤ i)) && (decide (i < (b.length : Int)))) then ((laws_eqRow.f (a.getD (i).toNat (0, em)) (b.getD (i).toNat (0, em))).bind fun y4 =>
     bif (!y4) then (some false) else
     (laws_eqRowS.l8 a b (w64 (i + 1)))) else none) else none) else (some true)) :=
  (fixP_eq laws_eqRowS.E laws_eqRowS.T laws_eqRowS.C laws_eqRowS.K 8 laws_eqRowS.D8 (a, b, i)).trans (by kernel_rfl)
theorem laws_eqRowS.f_eq (a : List (Int × ByteArray)) (b : List (Int × ByteArray)) : laws_eqRowS.f a b =
  (bif (!(decide ((a.length : Int) = (b.length : Int)))) then (some false) else
  (laws_eqRowS.l8 a b 0)) := by kernel_rfl
noncomputable def laws_eqRowS.S : Abs.Sum := ⟨laws_eqRowS.P, laws_eqRowS.R, fun _ => Fn laws_eqRowS.E laws_eqRowS.T laws_eqRowS.C laws_eqRowS.P laws_eqRowS.R laws_eqRowS.X⟩
theorem laws_eqRowS.meets : Meets Tryz.prog 257 laws_eqRowS.S := meets_tab (S := laws_eqRowS.U) tabOk_all (AllMeets.cons laws_eqRow.meets AllMeets.nil) (AllStill.cons (fun _ _ _ => rfl) AllStill.nil) follows (by kernel_rfl : Tryz.prog.funcs[257]? = some Tryz.f257) (by kernel_rfl) (by kernel_rfl) (by kernel_rfl)
noncomputable def laws_eqGroup.C : Code := Tryz.f193.body.getD .skip
def laws_eqGroup.P : Par := (.cons (.val (.pair (.int .i64) (.pair (.int .i64) (.one (.list (.pair (.int .i64) (.one .str))))))) (.cons (.val (.pair (.int .i64) (.pair (.int .i64) (.one (.list (.pair (.int .i64) (.one .str))))))) .nil))
noncomputable def laws_eqGroup.U : SumTab := [(257, [], laws_eqRowS.S)]
noncomputable def laws_eqGroup.E : Env := mkEnv TY AR laws_eqGroup.U
noncomputable def laws_eqGroup.T : Tab := fun k => look k []
def laws_eqGroup.R : List (Nat × Ty) := [(0, .bool)]
def laws_eqGroup.X : List ResultVar := [.tmp 4]
noncomputable def laws_eqGroup.f (a : Int × Int × List (Int × ByteArray)) (b : Int × Int × List (Int × ByteArray)) : Option (Bool) := Fn laws_eqGroup.E laws_eqGroup.T laws_eqGroup.C laws_eqGroup.P laws_eqGroup.R laws_eqGroup.X (a, b)
theorem laws_eqGroup.f_eq (a : Int × Int × List (Int × ByteArray)) (b : Int × Int × List (Int × ByteArray)) : laws_eqGroup.f a b =
  (bif (!(decide (a.1 = b.1))) then (some false) else
  (bif (!(decide (a.2.1 = b.2.1))) then (some false) else
   ((laws_eqRowS.f a.2.2 b.2.2).bind fun y4 =>
    bif (!y4) then (some false) else (some true)))) := by kernel_rfl
noncomputable def laws_eqGroup.S : Abs.Sum := ⟨laws_eqGroup.P, laws_eqGroup.R, fun _ => Fn laws_eqGroup.E laws_eqGroup.T laws_eqGroup.C laws_eqGroup.P laws_eqGroup.R laws_eqGroup.X⟩
theorem laws_eqGroup.meets : Meets Tryz.prog 193 laws_eqGroup.S := meets_tab (S := laws_eqGroup.U) tabOk_all (AllMeets.cons laws_eqRowS.meets AllMeets.nil) (AllStill.cons (fun _ _ _ => rfl) AllStill.nil) follows (by kernel_rfl : Tryz.prog.funcs[193]? = some Tryz.f193) (by kernel_rfl) (by kernel_rfl) (by kernel_rfl)
noncomputable def laws_eqGroupS.C : Code := Tryz.f123.body.getD .skip
def laws_eqGroupS.P : Par := (.cons (.val (.list (.pair (.int .i64) (.pair (.int .i64) (.one (.list (.pair (.int .i64) (.one .str)))))))) (.cons (.val (.list (.pair (.int .i64) (.pair (.int .i64) (.one (.list (.pair (.int .i64) (.one .str)))))))) .nil))
noncomputable def laws_eqGroupS.U : SumTab := [(193, [], laws_eqGroup.S)]
noncomputable def laws_eqGroupS.E : Env := mkEnv TY AR laws_eqGroupS.U
def laws_eqGroupS.D8 : CutD := ⟨[0, 1, 5], (.cons (.val (.list (.pair (.int .i64) (.pair (.int .i64) (.one (.list (.pair (.int .i64) (.one .str)))))))) (.cons (.val (.list (.pair (.int .i64) (.pair (.int .i64) (.one (.list (.pair (.int .i64) (.one .str)))))))) (.cons (.val (.int .i64)) .nil)))⟩
noncomputable def laws_eqGroupS.T : Tab := fun k => look k [(8, laws_eqGroupS.D8)]
def laws_eqGroupS.R : List (Nat × Ty) := [(0, .bool)]
def laws_eqGroupS.X : List ResultVar := [.tmp 4]
noncomputable def laws_eqGroupS.K := fin laws_eqGroupS.E ⟨laws_eqGroupS.P, laws_eqGroupS.R, fun _ _ => none⟩ laws_eqGroupS.X laws_eqGroupS.P.len 0
noncomputable def laws_eqGroupS.l8 (a : List (Int × Int × List (Int × ByteArray))) (b : List (Int × Int × List (Int × ByteArray))) (i : Int) : Option (Bool) := fixP laws_eqGroupS.E laws_eqGroupS.T laws_eqGroupS.C laws_eqGroupS.K 8 laws_eqGroupS.D8 (a, b, i)
noncomputable def laws_eqGroupS.f (a : List (Int × Int × List (Int × ByteArray))) (b : List (Int × Int × List (Int × ByteArray))) : Option (Bool) := Fn laws_eqGroupS.E laws_eqGroupS.T laws_eqGroupS.C laws_eqGroupS.P laws_eqGroupS.R laws_eqGroupS.X (a, b)
theorem laws_eqGroupS.l8_eq (a : List (Int × Int × List (Int × ByteArray))) (b : List (Int × Int × List (Int × ByteArray))) (i : Int) : laws_eqGroupS.l8 a b i =
  (bif (decide (i < (a.length : Int))) then (bif ((decide (0 ≤ i)) && (decide (i < (a.length : Int)))) then (bif ((decide (0 ≤ i)) && (decide (i < (b.length : Int)))) then ((laws_eqGroup.f (a.getD (i).toNat (0, 0, ([] : List (Int × ByteArray)))) (b.getD (i).toNat (0, 0, ([] : List (Int × ByteArray))))).bind fun y4 =>
     bif (!y4) then (some false) else
     (laws_eqGroupS.l8 a b (w64 (i + 1)))) else none) else none) else (some true)) :=
  (fixP_eq laws_eqGroupS.E laws_eqGroupS.T laws_eqGroupS.C laws_eqGroupS.K 8 laws_eqGroupS.D8 (a, b, i)).trans (by kernel_rfl)
theorem laws_eqGroupS.f_eq (a : List (Int × Int × List (Int × ByteArray))) (b : List (Int × Int × List (Int × ByteArray))) : laws_eqGroupS.f a b =
  (bif (!(decide ((a.length : Int) = (b.length : Int)))) then (some false) else
  (laws_eqGroupS.l8 a b 0)) := by kernel_rfl
noncomputable def laws_eqGroupS.S : Abs.Sum := ⟨laws_eqGroupS.P, laws_eqGroupS.R, fun _ => Fn laws_eqGroupS.E laws_eqGroupS.T laws_eqGroupS.C laws_eqGroupS.P laws_eqGroupS.R laws_eqGroupS.X⟩
theorem laws_eqGroupS.meets : Meets Tryz.prog 123 laws_eqGroupS.S := meets_tab (S := laws_eqGroupS.U) tabOk_all (AllMeets.cons laws_eqGroup.meets AllMeets.nil) (AllStill.cons (fun _ _ _ => rfl) AllStill.nil) follows (by kernel_rfl : Tryz.prog.funcs[123]? = some Tryz.f123) (by kernel_rfl) (by kernel_rfl) (by kernel_rfl)
noncomputable def laws_eqFileDiff.C : Code := Tryz.f59.body.getD .skip
def laws_eqFileDiff.P : Par := (.cons (.val (.pair .str (.pair (.int .i64) (.one (.list (.pair (.int .i64) (.pair (.int .i64) (.one (.list (.pair (.int .i64) (.one .str))))))))))) (.cons (.val (.pair .str (.pair (.int .i64) (.one (.list (.pair (.int .i64) (.pair (.int .i64) (.one (.list (.pair (.int .i64) (.one .str))))))))))) .nil))
noncomputable def laws_eqFileDiff.U : SumTab := [(123, [], laws_eqGroupS.S)]
noncomputable def laws_eqFileDiff.E : Env := mkEnv TY AR laws_eqFileDiff.U
noncomputable def laws_eqFileDiff.T : Tab := fun k => look k []
def laws_eqFileDiff.R : List (Nat × Ty) := [(0, .bool)]
def laws_eqFileDiff.X : List ResultVar := [.tmp 4]
noncomputable def laws_eqFileDiff.f (a : ByteArray × Int × List (Int × Int × List (Int × ByteArray))) (b : ByteArray × Int × List (Int × Int × List (Int × ByteArray))) : Option (Bool) := Fn laws_eqFileDiff.E laws_eqFileDiff.T laws_eqFileDiff.C laws_eqFileDiff.P laws_eqFileDiff.R laws_eqFileDiff.X (a, b)
theorem laws_eqFileDiff.f_eq (a : ByteArray × Int × List (Int × Int × List (Int × ByteArray))) (b : ByteArray × Int × List (Int × Int × List (Int × ByteArray))) : laws_eqFileDiff.f a b =
  (bif (!(a.1.toList == b.1.toList)) then (some false) else
  (bif (!(decide (a.2.1 = b.2.1))) then (some false) else
   ((laws_eqGroupS.f a.2.2 b.2.2).bind fun y4 =>
    bif (!y4) then (some false) else (some true)))) := by kernel_rfl
noncomputable def laws_eqFileDiff.S : Abs.Sum := ⟨laws_eqFileDiff.P, laws_eqFileDiff.R, fun _ => Fn laws_eqFileDiff.E laws_eqFileDiff.T laws_eqFileDiff.C laws_eqFileDiff.P laws_eqFileDiff.R laws_eqFileDiff.X⟩
theorem laws_eqFileDiff.meets : Meets Tryz.prog 59 laws_eqFileDiff.S := meets_tab (S := laws_eqFileDiff.U) tabOk_all (AllMeets.cons laws_eqGroupS.meets AllMeets.nil) (AllStill.cons (fun _ _ _ => rfl) AllStill.nil) follows (by kernel_rfl : Tryz.prog.funcs[59]? = some Tryz.f59) (by kernel_rfl) (by kernel_rfl) (by kernel_rfl)
noncomputable def laws_eqFileDiffS.C : Code := Tryz.f12.body.getD .skip
def laws_eqFileDiffS.P : Par := (.cons (.val (.list (.pair .str (.pair (.int .i64) (.one (.list (.pair (.int .i64) (.pair (.int .i64) (.one (.list (.pair (.int .i64) (.one .str)))))))))))) (.cons (.val (.list (.pair .str (.pair (.int .i64) (.one (.list (.pair (.int .i64) (.pair (.int .i64) (.one (.list (.pair (.int .i64) (.one .str)))))))))))) .nil))
noncomputable def laws_eqFileDiffS.U : SumTab := [(59, [], laws_eqFileDiff.S)]
noncomputable def laws_eqFileDiffS.E : Env := mkEnv TY AR laws_eqFileDiffS.U
def laws_eqFileDiffS.D8 : CutD := ⟨[0, 1, 5], (.cons (.val (.list (.pair .str (.pair (.int .i64) (.one (.list (.pair (.int .i64) (.pair (.int .i64) (.one (.list (.pair (.int .i64) (.one .str)))))))))))) (.cons (.val (.list (.pair .str (.pair (.int .i64) (.one (.list (.pair (.int .i64) (.pair (.int .i64) (.one (.list (.pair (.int .i64) (.one .str)))))))))))) (.cons (.val (.int .i64)) .nil)))⟩
noncomputable def laws_eqFileDiffS.T : Tab := fun k => look k [(8, laws_eqFileDiffS.D8)]
def laws_eqFileDiffS.R : List (Nat × Ty) := [(0, .bool)]
def laws_eqFileDiffS.X : List ResultVar := [.tmp 4]
noncomputable def laws_eqFileDiffS.K := fin laws_eqFileDiffS.E ⟨laws_eqFileDiffS.P, laws_eqFileDiffS.R, fun _ _ => none⟩ laws_eqFileDiffS.X laws_eqFileDiffS.P.len 0
noncomputable def laws_eqFileDiffS.l8 (a : List (ByteArray × Int × List (Int × Int × List (Int × ByteArray)))) (b : List (ByteArray × Int × List (Int × Int × List (Int × ByteArray)))) (i : Int) : Option (Bool) := fixP laws_eqFileDiffS.E laws_eqFileDiffS.T laws_eqFileDiffS.C laws_eqFileDiffS.K 8 laws_eqFileDiffS.D8 (a, b, i)
noncomputable def laws_eqFileDiffS.f (a : List (ByteArray × Int × List (Int × Int × List (Int × ByteArray)))) (b : List (ByteArray × Int × List (Int × Int × List (Int × ByteArray)))) : Option (Bool) := Fn laws_eqFileDiffS.E laws_eqFileDiffS.T laws_eqFileDiffS.C laws_eqFileDiffS.P laws_eqFileDiffS.R laws_eqFileDiffS.X (a, b)
theorem laws_eqFileDiffS.l8_eq (a : List (ByteArray × Int × List (Int × Int × List (Int × ByteArray)))) (b : List (ByteArray × Int × List (Int × Int × List (Int × ByteArray)))) (i : Int) : laws_eqFileDiffS.l8 a b i =
  (bif (decide (i < (a.length : Int))) then (bif ((decide (0 ≤ i)) && (decide (i < (a.length : Int)))) then (bif ((decide (0 ≤ i)) && (decide (i < (b.length : Int)))) then ((laws_eqFileDiff.f (a.getD (i).toNat (em, 0, ([] : List (Int × Int × List (Int × ByteArray))))) (b.getD (i).toNat (em, 0, ([] : List (Int × Int × List (Int × ByteArray)))))).bind fun y4 =>
     bif (!y4) then (some false) else
     (laws_eqFileDiffS.l8 a b (w64 (i + 1)))) else none) else none) else (some true)) :=
  (fixP_eq laws_eqFileDiffS.E laws_eqFileDiffS.T laws_eqFileDiffS.C laws_eqFileDiffS.K 8 laws_eqFileDiffS.D8 (a, b, i)).trans (by kernel_rfl)
theorem laws_eqFileDiffS.f_eq (a : List (ByteArray × Int × List (Int × Int × List (Int × ByteArray)))) (b : List (ByteArray × Int × List (Int × Int × List (Int × ByteArray)))) : laws_eqFileDiffS.f a b =
  (bif (!(decide ((a.length : Int) = (b.length : Int)))) then (some false) else
  (laws_eqFileDiffS.l8 a b 0)) := by kernel_rfl
noncomputable def laws_eqFileDiffS.S : Abs.Sum := ⟨laws_eqFileDiffS.P, laws_eqFileDiffS.R, fun _ => Fn laws_eqFileDiffS.E laws_eqFileDiffS.T laws_eqFileDiffS.C laws_eqFileDiffS.P laws_eqFileDiffS.R laws_eqFileDiffS.X⟩
theorem laws_eqFileDiffS.meets : Meets Tryz.prog 12 laws_eqFileDiffS.S := meets_tab (S := laws_eqFileDiffS.U) tabOk_all (AllMeets.cons laws_eqFileDiff.meets AllMeets.nil) (AllStill.cons (fun _ _ _ => rfl) AllStill.nil) follows (by kernel_rfl : Tryz.prog.funcs[12]? = some Tryz.f12) (by kernel_rfl) (by kernel_rfl) (by kernel_rfl)
noncomputable def laws_eqStringS.C : Code := Tryz.f124.body.getD .skip
def laws_eqStringS.P : Par := (.cons (.val (.list .str)) (.cons (.val (.list .str)) .nil))
noncomputable def laws_eqStringS.U : SumTab := []
noncomputable def laws_eqStringS.E : Env := mkEnv TY AR laws_eqStringS.U
def laws_eqStringS.D8 : CutD := ⟨[0, 1, 5], (.cons (.val (.list .str)) (.cons (.val (.list .str)) (.cons (.val (.int .i64)) .nil)))⟩
noncomputable def laws_eqStringS.T : Tab := fun k => look k [(8, laws_eqStringS.D8)]
def laws_eqStringS.R : List (Nat × Ty) := [(0, .bool)]
def laws_eqStringS.X : List ResultVar := [.tmp 4]
noncomputable def laws_eqStringS.K := fin laws_eqStringS.E ⟨laws_eqStringS.P, laws_eqStringS.R, fun _ _ => none⟩ laws_eqStringS.X laws_eqStringS.P.len 0
noncomputable def laws_eqStringS.l8 (a : List ByteArray) (b : List ByteArray) (i : Int) : Option (Bool) := fixP laws_eqStringS.E laws_eqStringS.T laws_eqStringS.C laws_eqStringS.K 8 laws_eqStringS.D8 (a, b, i)
noncomputable def laws_eqStringS.f (a : List ByteArray) (b : List ByteArray) : Option (Bool) := Fn laws_eqStringS.E laws_eqStringS.T laws_eqStringS.C laws_eqStringS.P laws_eqStringS.R laws_eqStringS.X (a, b)
theorem laws_eqStringS.l8_eq (a : List ByteArray) (b : List ByteArray) (i : Int) : laws_eqStringS.l8 a b i =
  (bif (decide (i < (a.length : Int))) then (bif ((decide (0 ≤ i)) && (decide (i < (a.length : Int)))) then (bif ((decide (0 ≤ i)) && (decide (i < (b.length : Int)))) then (bif (!((a.getD (i).toNat em).toList == (b.getD (i).toNat em).toList)) then (some false) else
     (laws_eqStringS.l8 a b (w64 (i + 1)))) else none) else none) else (some true)) :=
  (fixP_eq laws_eqStringS.E laws_eqStringS.T laws_eqStringS.C laws_eqStringS.K 8 laws_eqStringS.D8 (a, b, i)).trans (by kernel_rfl)
theorem laws_eqStringS.f_eq (a : List ByteArray) (b : List ByteArray) : laws_eqStringS.f a b =
  (bif (!(decide ((a.length : Int) = (b.length : Int)))) then (some false) else
  (laws_eqStringS.l8 a b 0)) := by kernel_rfl
noncomputable def laws_eqStringS.S : Abs.Sum := ⟨laws_eqStringS.P, laws_eqStringS.R, fun _ => Fn laws_eqStringS.E laws_eqStringS.T laws_eqStringS.C laws_eqStringS.P laws_eqStringS.R laws_eqStringS.X⟩
theorem laws_eqStringS.meets : Meets Tryz.prog 124 laws_eqStringS.S := meets_tab (S := laws_eqStringS.U) tabOk_all AllMeets.nil AllStill.nil follows (by kernel_rfl : Tryz.prog.funcs[124]? = some Tryz.f124) (by kernel_rfl) (by kernel_rfl) (by kernel_rfl)
noncomputable def laws_eqFile.C : Code := Tryz.f60.body.getD .skip
def laws_eqFile.P : Par := (.cons (.val (.pair .str (.one (.list .str)))) (.cons (.val (.pair .str (.one (.list .str)))) .nil))
noncomputable def laws_eqFile.U : SumTab := [(124, [], laws_eqStringS.S)]
noncomputable def laws_eqFile.E : Env := mkEnv TY AR laws_eqFile.U
noncomputable def laws_eqFile.T : Tab := fun k => look k []
def laws_eqFile.R : List (Nat × Ty) := [(0, .bool)]
def laws_eqFile.X : List ResultVar := [.tmp 4]
noncomputable def laws_eqFile.f (a : ByteArray × List ByteArray) (b : ByteArray × List ByteArray) : Option (Bool) := Fn laws_eqFile.E laws_eqFile.T laws_eqFile.C laws_eqFile.P laws_eqFile.R laws_eqFile.X (a, b)
theorem laws_eqFile.f_eq (a : ByteArray × List ByteArray) (b : ByteArray × List ByteArray) : laws_eqFile.f a b =
  (bif (!(a.1.toList == b.1.toList)) then (some false) else
  ((laws_eqStringS.f a.2 b.2).bind fun y4 =>
   bif (!y4) then (some false) else (some true))) := by kernel_rfl
noncomputable def laws_eqFile.S : Abs.Sum := ⟨laws_eqFile.P, laws_eqFile.R, fun _ => Fn laws_eqFile.E laws_eqFile.T laws_eqFile.C laws_eqFile.P laws_eqFile.R laws_eqFile.X⟩
theorem laws_eqFile.meets : Meets Tryz.prog 60 laws_eqFile.S := meets_tab (S := laws_eqFile.U) tabOk_all (AllMeets.cons laws_eqStringS.meets AllMeets.nil) (AllStill.cons (fun _ _ _ => rfl) AllStill.nil) follows (by kernel_rfl : Tryz.prog.funcs[60]? = some Tryz.f60) (by kernel_rfl) (by kernel_rfl) (by kernel_rfl)
noncomputable def laws_eqFileS.C : Code := Tryz.f13.body.getD .skip
def laws_eqFileS.P : Par := (.cons (.val (.list (.pair .str (.one (.list .str))))) (.cons (.val (.list (.pair .str (.one (.list .str))))) .nil))
noncomputable def laws_eqFileS.U : SumTab := [(60, [], laws_eqFile.S)]
noncomputable def laws_eqFileS.E : Env := mkEnv TY AR laws_eqFileS.U
def laws_eqFileS.D8 : CutD := ⟨[0, 1, 5], (.cons (.val (.list (.pair .str (.one (.list .str))))) (.cons (.val (.list (.pair .str (.one (.list .str))))) (.cons (.val (.int .i64)) .nil)))⟩
noncomputable def laws_eqFileS.T : Tab := fun k => look k [(8, laws_eqFileS.D8)]
def laws_eqFileS.R : List (Nat × Ty) := [(0, .bool)]
def laws_eqFileS.X : List ResultVar := [.tmp 4]
noncomputable def laws_eqFileS.K := fin laws_eqFileS.E ⟨laws_eqFileS.P, laws_eqFileS.R, fun _ _ => none⟩ laws_eqFileS.X laws_eqFileS.P.len 0
noncomputable def laws_eqFileS.l8 (a : List (ByteArray × List ByteArray)) (b : List (ByteArray × List ByteArray)) (i : Int) : Option (Bool) := fixP laws_eqFileS.E laws_eqFileS.T laws_eqFileS.C laws_eqFileS.K 8 laws_eqFileS.D8 (a, b, i)
noncomputable def laws_eqFileS.f (a : List (ByteArray × List ByteArray)) (b : List (ByteArray × List ByteArray)) : Option (Bool) := Fn laws_eqFileS.E laws_eqFileS.T laws_eqFileS.C laws_eqFileS.P laws_eqFileS.R laws_eqFileS.X (a, b)
theorem laws_eqFileS.l8_eq (a : List (ByteArray × List ByteArray)) (b : List (ByteArray × List ByteArray)) (i : Int) : laws_eqFileS.l8 a b i =
  (bif (decide (i < (a.length : Int))) then (bif ((decide (0 ≤ i)) && (decide (i < (a.length : Int)))) then (bif ((decide (0 ≤ i)) && (decide (i < (b.length : Int)))) then ((laws_eqFile.f (a.getD (i).toNat (em, ([] : List ByteArray))) (b.getD (i).toNat (em, ([] : List ByteArray)))).bind fun y4 =>
     bif (!y4) then (some false) else
     (laws_eqFileS.l8 a b (w64 (i + 1)))) else none) else none) else (some true)) :=
  (fixP_eq laws_eqFileS.E laws_eqFileS.T laws_eqFileS.C laws_eqFileS.K 8 laws_eqFileS.D8 (a, b, i)).trans (by kernel_rfl)
theorem laws_eqFileS.f_eq (a : List (ByteArray × List ByteArray)) (b : List (ByteArray × List ByteArray)) : laws_eqFileS.f a b =
  (bif (!(decide ((a.length : Int) = (b.length : Int)))) then (some false) else
  (laws_eqFileS.l8 a b 0)) := by kernel_rfl
noncomputable def laws_eqFileS.S : Abs.Sum := ⟨laws_eqFileS.P, laws_eqFileS.R, fun _ => Fn laws_eqFileS.E laws_eqFileS.T laws_eqFileS.C laws_eqFileS.P laws_eqFileS.R laws_eqFileS.X⟩
theorem laws_eqFileS.meets : Meets Tryz.prog 13 laws_eqFileS.S := meets_tab (S := laws_eqFileS.U) tabOk_all (AllMeets.cons laws_eqFile.meets AllMeets.nil) (AllStill.cons (fun _ _ _ => rfl) AllStill.nil) follows (by kernel_rfl : Tryz.prog.funcs[13]? = some Tryz.f13) (by kernel_rfl) (by kernel_rfl) (by kernel_rfl)
noncomputable def laws_markText.C : Code := Tryz.f61.body.getD .skip
def laws_markText.P : Par := (.cons (.val (.int .i64)) .nil)
noncomputable def laws_markText.U : SumTab := []
noncomputable def laws_markText.E : Env := mkEnv TY AR laws_markText.U
def laws_markText.D8 : CutD := ⟨[0, 3], (.cons (.val (.int .i64)) (.cons (.val .str) .nil))⟩
noncomputable def laws_markText.T : Tab := fun k => look k [(8, laws_markText.D8)]
def laws_markText.R : List (Nat × Ty) := [(0, .str)]
def laws_markText.X : List ResultVar := [.tmp 2]
noncomputable def laws_markText.K := fin laws_markText.E ⟨laws_markText.P, laws_markText.R, fun _ _ => none⟩ laws_markText.X laws_markText.P.len 0
noncomputable def laws_markText.l8 (k : Int) (out : ByteArray) : Option (ByteArray) := fixP laws_markText.E laws_markText.T laws_markText.C laws_markText.K 8 laws_markText.D8 (k, out)
noncomputable def laws_markText.f (k : Int) : Option (ByteArray) := Fn laws_markText.E laws_markText.T laws_markText.C laws_markText.P laws_markText.R laws_markText.X k
theorem laws_markText.l8_eq (k : Int) (out : ByteArray) : laws_markText.l8 k out =
  (bif (decide (k > 0)) then (bif (decide (((strOf [(IntKind.wrap .u8 (w64 (48 + (k.tmod 10))))]).size + out.size) ≤ 9223372036854775807)) then (laws_markText.l8 (w64 (k.tdiv 10)) ((strOf [(IntKind.wrap .u8 (w64 (48 + (k.tmod 10))))]) ++ out)) else none) else
  (bif (decide (((⟨#[109]⟩ : ByteArray).size + out.size) ≤ 9223372036854775807)) then (some ((⟨#[109]⟩ : ByteArray) ++ out)) else none)) :=
  (fixP_eq laws_markText.E laws_markText.T laws_markText.C laws_markText.K 8 laws_markText.D8 (k, out)).trans (by kernel_rfl)
theorem laws_markText.f_eq (k : Int) : laws_markText.f k =
  (bif (decide (k ≤ 0)) then (some (⟨#[109, 48]⟩ : ByteArray)) else
  (laws_markText.l8 k em)) := by kernel_rfl
noncomputable def laws_markText.S : Abs.Sum := ⟨laws_markText.P, laws_markText.R, fun _ => Fn laws_markText.E laws_markText.T laws_markText.C laws_markText.P laws_markText.R laws_markText.X⟩
theorem laws_markText.meets : Meets Tryz.prog 61 laws_markText.S := meets_tab (S := laws_markText.U) tabOk_all AllMeets.nil AllStill.nil follows (by kernel_rfl : Tryz.prog.funcs[61]? = some Tryz.f61) (by kernel_rfl) (by kernel_rfl) (by kernel_rfl)
noncomputable def laws_markStringS.C : Code := Tryz.f62.body.getD .skip
def laws_markStringS.P : Par := (.cons (.io 9 .str) (.cons (.val (.int .i64)) .nil))
noncomputable def laws_markStringS.U : SumTab := [(61, [], laws_markText.S)]
noncomputable def laws_markStringS.E : Env := mkEnv TY AR laws_markStringS.U
def laws_markStringS.D4 : CutD := ⟨[0, 1, 5], (.cons (.own 9 .str) (.cons (.val (.int .i64)) (.cons (.val (.int .i64)) .nil)))⟩
noncomputable def laws_markStringS.T : Tab := fun k => look k [(4, laws_markStringS.D4)]
def laws_markStringS.R : List (Nat × Ty) := [(0, .int .i64)]
def laws_markStringS.X : List ResultVar := [.tmp 4]
noncomputable def laws_markStringS.K := fin laws_markStringS.E ⟨laws_markStringS.P, laws_markStringS.R, fun _ _ => none⟩ laws_markStringS.X laws_markStringS.P.len 0
noncomputable def laws_markStringS.l4 (a : List ByteArray) (k : Int) (i : Int) : Option (Int × (List ByteArray)) := fixP laws_markStringS.E laws_markStringS.T laws_markStringS.C laws_markStringS.K 4 laws_markStringS.D4 (a, k, i)
noncomputable def laws_markStringS.f (a : List ByteArray) (k : Int) : Option (Int × (List ByteArray)) := Fn laws_markStringS.E laws_markStringS.T laws_markStringS.C laws_markStringS.P laws_markStringS.R laws_markStringS.X (a, k)
theorem laws_markStringS.l4_eq (a : List ByteArray) (k : Int) (i : Int) : laws_markStringS.l4 a k i =
  (bif (decide (i < (a.length : Int))) then ((laws_markText.f k).bind fun y4 =>
   bif ((decide (0 ≤ i)) && (decide (i < (a.length : Int)))) then (laws_markStringS.l4 (a.set (i).toNat y4) (w64 (k + 1)) (w64 (i + 1))) else none) else (some (k, a))) :=
  (fixP_eq laws_markStringS.E laws_markStringS.T laws_markStringS.C laws_markStringS.K 4 laws_markStringS.D4 (a, k, i)).trans (by kernel_rfl)
theorem laws_markStringS.f_eq (a : List ByteArray) (k : Int) : laws_markStringS.f a k =
  (laws_markStringS.l4 a k 0) := by kernel_rfl
noncomputable def laws_markStringS.S : Abs.Sum := ⟨laws_markStringS.P, laws_markStringS.R, fun _ => Fn laws_markStringS.E laws_markStringS.T laws_markStringS.C laws_markStringS.P laws_markStringS.R laws_markStringS.X⟩
theorem laws_markStringS.meets : Meets Tryz.prog 62 laws_markStringS.S := meets_tab (S := laws_markStringS.U) tabOk_all (AllMeets.cons laws_markText.meets AllMeets.nil) (AllStill.cons (fun _ _ _ => rfl) AllStill.nil) follows (by kernel_rfl : Tryz.prog.funcs[62]? = some Tryz.f62) (by kernel_rfl) (by kernel_rfl) (by kernel_rfl)
noncomputable def laws_markFileS.C : Code := Tryz.f14.body.getD .skip
def laws_markFileS.P : Par := (.cons (.io 9 (.pair .str (.one (.list .str)))) (.cons (.val (.int .i64)) .nil))
noncomputable def laws_markFileS.U : SumTab := [(61, [], laws_markText.S), (62, [], laws_markStringS.S)]
noncomputable def laws_markFileS.E : Env := mkEnv TY AR laws_markFileS.U
def laws_markFileS.D4 : CutD := ⟨[0, 1, 5], (.cons (.own 9 (.pair .str (.one (.list .str)))) (.cons (.val (.int .i64)) (.cons (.val (.int .i64)) .nil)))⟩
noncomputable def laws_markFileS.T : Tab := fun k => look k [(4, laws_markFileS.D4)]
def laws_markFileS.R : List (Nat × Ty) := [(0, .int .i64)]
def laws_markFileS.X : List ResultVar := [.tmp 4]
noncomputable def laws_markFileS.K := fin laws_markFileS.E ⟨laws_markFileS.P, laws_markFileS.R, fun _ _ => none⟩ laws_markFileS.X laws_markFileS.P.len 0
noncomputable def laws_markFileS.l4 (a : List (ByteArray × List ByteArray)) (k : Int) (i : Int) : Option (Int × (List (ByteArray × List ByteArray))) := fixP laws_markFileS.E laws_markFileS.T laws_markFileS.C laws_markFileS.K 4 laws_markFileS.D4 (a, k, i)
noncomputable def laws_markFileS.f (a : List (ByteArray × List ByteArray)) (k : Int) : Option (Int × (List (ByteArray × List ByteArray))) := Fn laws_markFileS.E laws_markFileS.T laws_markFileS.C laws_markFileS.P laws_markFileS.R laws_markFileS.X (a, k)
theorem laws_markFileS.l4_eq (a : List (ByteArray × List ByteArray)) (k : Int) (i : Int) : laws_markFileS.l4 a k i =
  (bif (decide (i < (a.length : Int))) then ((laws_markText.f k).bind fun y4 =>
   bif ((decide (0 ≤ i)) && (decide (i < (a.length : Int)))) then (bif ((decide (0 ≤ i)) && (decide (i < ((a.set (i).toNat (y4, (a.getD (i).toNat (em, ([] : List ByteArray))).2)).length : Int)))) then ((laws_markStringS.f ((a.set (i).toNat (y4, (a.getD (i).toNat (em, ([] : List ByteArray))).2)).getD (i).toNat (em, ([] : List ByteArray))).2 (w64 (k + 1))).bind fun y5 =>
     laws_markFileS.l4 ((a.set (i).toNat (y4, (a.getD (i).toNat (em, ([] : List ByteArray))).2)).set (i).toNat (((a.set (i).toNat (y4, (a.getD (i).toNat (em, ([] : List ByteArray))).2)).getD (i).toNat (em, ([] : List ByteArray))).1, y5.2)) y5.1 (w64 (i + 1))) else none) else none) else (some (k, a))) :=
  (fixP_eq laws_markFileS.E laws_markFileS.T laws_markFileS.C laws_markFileS.K 4 laws_markFileS.D4 (a, k, i)).trans (by kernel_rfl)
theorem laws_markFileS.f_eq (a : List (ByteArray × List ByteArray)) (k : Int) : laws_markFileS.f a k =
  (laws_markFileS.l4 a k 0) := by kernel_rfl
noncomputable def laws_markFileS.S : Abs.Sum := ⟨laws_markFileS.P, laws_markFileS.R, fun _ => Fn laws_markFileS.E laws_markFileS.T laws_markFileS.C laws_markFileS.P laws_markFileS.R laws_markFileS.X⟩
theorem laws_markFileS.meets : Meets Tryz.prog 14 laws_markFileS.S := meets_tab (S := laws_markFileS.U) tabOk_all (AllMeets.cons laws_markText.meets (AllMeets.cons laws_markStringS.meets AllMeets.nil)) (AllStill.cons (fun _ _ _ => rfl) (AllStill.cons (fun _ _ _ => rfl) AllStill.nil)) follows (by kernel_rfl : Tryz.prog.funcs[14]? = some Tryz.f14) (by kernel_rfl) (by kernel_rfl) (by kernel_rfl)
noncomputable def laws_markRowS.C : Code := Tryz.f125.body.getD .skip
def laws_markRowS.P : Par := (.cons (.io 9 (.pair (.int .i64) (.one .str))) (.cons (.val (.int .i64)) .nil))
noncomputable def laws_markRowS.U : SumTab := [(61, [], laws_markText.S)]
noncomputable def laws_markRowS.E : Env := mkEnv TY AR laws_markRowS.U
def laws_markRowS.D4 : CutD := ⟨[0, 1, 5], (.cons (.own 9 (.pair (.int .i64) (.one .str))) (.cons (.val (.int .i64)) (.cons (.val (.int .i64)) .nil)))⟩
noncomputable def laws_markRowS.T : Tab := fun k => look k [(4, laws_markRowS.D4)]
def laws_markRowS.R : List (Nat × Ty) := [(0, .int .i64)]
def laws_markRowS.X : List ResultVar := [.tmp 4]
noncomputable def laws_markRowS.K := fin laws_markRowS.E ⟨laws_markRowS.P, laws_markRowS.R, fun _ _ => none⟩ laws_markRowS.X laws_markRowS.P.len 0
noncomputable def laws_markRowS.l4 (a : List (Int × ByteArray)) (k : Int) (i : Int) : Option (Int × (List (Int × ByteArray))) := fixP laws_markRowS.E laws_markRowS.T laws_markRowS.C laws_markRowS.K 4 laws_markRowS.D4 (a, k, i)
noncomputable def laws_markRowS.f (a : List (Int × ByteArray)) (k : Int) : Option (Int × (List (Int × ByteArray))) := Fn laws_markRowS.E laws_markRowS.T laws_markRowS.C laws_markRowS.P laws_markRowS.R laws_markRowS.X (a, k)
theorem laws_markRowS.l4_eq (a : List (Int × ByteArray)) (k : Int) (i : Int) : laws_markRowS.l4 a k i =
  (bif (decide (i < (a.length : Int))) then (bif ((decide (0 ≤ i)) && (decide (i < (a.length : Int)))) then ((laws_markText.f (w64 (k + 1))).bind fun y4 =>
    bif ((decide (0 ≤ i)) && (decide (i < ((a.set (i).toNat (k, (a.getD (i).toNat (0, em)).2)).length : Int)))) then (laws_markRowS.l4 ((a.set (i).toNat (k, (a.getD (i).toNat (0, em)).2)).set (i).toNat (((a.set (i).toNat (k, (a.getD (i).toNat (0, em)).2)).getD (i).toNat (0, em)).1, y4)) (w64 ((w64 (k + 1)) + 1)) (w64 (i + 1))) else none) else none) else (some (k, a))) :=
  (fixP_eq laws_markRowS.E laws_markRowS.T laws_markRowS.C laws_markRowS.K 4 laws_markRowS.D4 (a, k, i)).trans (by kernel_rfl)
theorem laws_markRowS.f_eq (a : List (Int × ByteArray)) (k : Int) : laws_markRowS.f a k =
  (laws_markRowS.l4 a k 0) := by kernel_rfl
noncomputable def laws_markRowS.S : Abs.Sum := ⟨laws_markRowS.P, laws_markRowS.R, fun _ => Fn laws_markRowS.E laws_markRowS.T laws_markRowS.C laws_markRowS.P laws_markRowS.R laws_markRowS.X⟩
theorem laws_markRowS.meets : Meets Tryz.prog 125 laws_markRowS.S := meets_tab (S := laws_markRowS.U) tabOk_all (AllMeets.cons laws_markText.meets AllMeets.nil) (AllStill.cons (fun _ _ _ => rfl) AllStill.nil) follows (by kernel_rfl : Tryz.prog.funcs[125]? = some Tryz.f125) (by kernel_rfl) (by kernel_rfl) (by kernel_rfl)
noncomputable def laws_markGroupS.C : Code := Tryz.f63.body.getD .skip
def laws_markGroupS.P : Par := (.cons (.io 9 (.pair (.int .i64) (.pair (.int .i64) (.one (.list (.pair (.int .i64) (.one .str))))))) (.cons (.val (.int .i64)) .nil))
noncomputable def laws_markGroupS.U : SumTab := [(125, [], laws_markRowS.S)]
noncomputable def laws_markGroupS.E : Env := mkEnv TY AR laws_markGroupS.U
def laws_markGroupS.D4 : CutD := ⟨[0, 1, 5], (.cons (.own 9 (.pair (.int .i64) (.pair (.int .i64) (.one (.list (.pair (.int .i64) (.one .str))))))) (.cons (.val (.int .i64)) (.cons (.val (.int .i64)) .nil)))⟩
noncomputable def laws_markGroupS.T : Tab := fun k => look k [(4, laws_markGroupS.D4)]
def laws_markGroupS.R : List (Nat × Ty) := [(0, .int .i64)]
def laws_markGroupS.X : List ResultVar := [.tmp 4]
noncomputable def laws_markGroupS.K := fin laws_markGroupS.E ⟨laws_markGroupS.P, laws_markGroupS.R, fun _ _ => none⟩ laws_markGroupS.X laws_markGroupS.P.len 0
noncomputable def laws_markGroupS.l4 (a : List (Int × Int × List (Int × ByteArray))) (k : Int) (i : Int) : Option (Int × (List (Int × Int × List (Int × ByteArray)))) := fixP laws_markGroupS.E laws_markGroupS.T laws_markGroupS.C laws_markGroupS.K 4 laws_markGroupS.D4 (a, k, i)
noncomputable def laws_markGroupS.f (a : List (Int × Int × List (Int × ByteArray))) (k : Int) : Option (Int × (List (Int × Int × List (Int × ByteArray)))) := Fn laws_markGroupS.E laws_markGroupS.T laws_markGroupS.C laws_markGroupS.P laws_markGroupS.R laws_markGroupS.X (a, k)
theorem laws_markGroupS.l4_eq (a : List (Int × Int × List (Int × ByteArray))) (k : Int) (i : Int) : laws_markGroupS.l4 a k i =
  (bif (decide (i < (a.length : Int))) then (bif ((decide (0 ≤ i)) && (decide (i < (a.length : Int)))) then (bif ((decide (0 ≤ i)) && (decide (i < ((a.set (i).toNat (k, (a.getD (i).toNat (0, 0, ([] : List (Int × ByteArray)))).2)).length : Int)))) then (bif ((decide (0 ≤ i)) && (decide (i < (((a.set (i).toNat (k, (a.getD (i).toNat (0, 0, ([] : List (Int × ByteArray)))).2)).set (i).toNat (((a.set (i).toNat (k, (a.getD (i).toNat (0, 0, ([] : List (Int × ByteArray)))).2)).getD (i).toNat (0, 0, ([] : List (Int × ByteArray)))).1, (w64 (k + 1)), ((a.set (i).toNat (k, (a.getD (i).toNat (0, 0, ([] : List (Int × ByteArray)))).2)).getD (i).toNat (0, 0, ([] : List (Int × ByteArray)))).2.2)).length : Int)))) then ((laws_markRowS.f (((a.set (i).toNat (k, (a.getD (i).toNat (0, 0, ([] : List (Int × ByteArray)))).2)).set (i).toNat (((a.set (i).toNat (k, (a.getD (i).toNat (0, 0, ([] : List (Int × ByteArray)))).2)).getD (i).toNat (0, 0, ([] : List (Int × ByteArray)))).1, (w64 (k + 1)), ((a.set (i).toNat (k, (a.getD (i).toNat (0, 0, ([] : List (Int × ByteArray)))).2)).getD (i).toNat (0, 0, ([] : List (Int × ByteArray)))).2.2)).getD (i).toNat (0, 0, ([] : List (Int × ByteArray)))).2.2 (w64 ((w64 (k + 1)) + 1))).bind fun y4 =>
      laws_markGroupS.l4 (((a.set (i).toNat (k, (a.getD (i).toNat (0, 0, ([] : List (Int × ByteArray)))).2)).set (i).toNat (((a.set (i).toNat (k, (a.getD (i).toNat (0, 0, ([] : List (Int × ByteArray)))).2)).getD (i).toNat (0, 0, ([] : List (Int × ByteArray)))).1, (w64 (k + 1)), ((a.set (i).toNat (k, (a.getD (i).toNat (0, 0, ([] : List (Int × ByteArray)))).2)).getD (i).toNat (0, 0, ([] : List (Int × ByteArray)))).2.2)).set (i).toNat ((((a.set (i).toNat (k, (a.getD (i).toNat (0, 0, ([] : List (Int × ByteArray)))).2)).set (i).toNat (((a.set (i).toNat (k, (a.getD (i).toNat (0, 0, ([] : List (Int × ByteArray)))).2)).getD (i).toNat (0, 0, ([] : List (Int × ByteArray)))).1, (w64 (k + 1)), ((a.set (i).toNat (k, (a.getD (i).toNat (0, 0, ([] : List (Int × ByteArray)))).2)).getD (i).toNat (0, 0, ([] : List (Int × ByteArray)))).2.2)).getD (i).toNat (0, 0, ([] : List (Int × ByteArray)))).1, (((a.set (i).toNat (k, (a.getD (i).toNat (0, 0, ([] : List (Int × ByteArray)))).2)).set (i).toNat (((a.set (i).toNat (k, (a.getD (i).toNat (0, 0, ([] : List (Int × ByteArray)))).2)).getD (i).toNat (0, 0, ([] : List (Int × ByteArray)))).1, (w64 (k + 1)), ((a.set (i).toNat (k, (a.getD (i).toNat (0, 0, ([] : List (Int × ByteArray)))).2)).getD (i).toNat (0, 0, ([] : List (Int × ByteArray)))).2.2)).getD (i).toNat (0, 0, ([] : List (Int × ByteArray)))).2.1, y4.2)) y4.1 (w64 (i + 1))) else none) else none) else none) else (some (k, a))) :=
  (fixP_eq laws_markGroupS.E laws_markGroupS.T laws_markGroupS.C laws_markGroupS.K 4 laws_markGroupS.D4 (a, k, i)).trans (by kernel_rfl)
theorem laws_markGroupS.f_eq (a : List (Int × Int × List (Int × ByteArray))) (k : Int) : laws_markGroupS.f a k =
  (laws_markGroupS.l4 a k 0) := by kernel_rfl
noncomputable def laws_markGroupS.S : Abs.Sum := ⟨laws_markGroupS.P, laws_markGroupS.R, fun _ => Fn laws_markGroupS.E laws_markGroupS.T laws_markGroupS.C laws_markGroupS.P laws_markGroupS.R laws_markGroupS.X⟩
theorem laws_markGroupS.meets : Meets Tryz.prog 63 laws_markGroupS.S := meets_tab (S := laws_markGroupS.U) tabOk_all (AllMeets.cons laws_markRowS.meets AllMeets.nil) (AllStill.cons (fun _ _ _ => rfl) AllStill.nil) follows (by kernel_rfl : Tryz.prog.funcs[63]? = some Tryz.f63) (by kernel_rfl) (by kernel_rfl) (by kernel_rfl)
noncomputable def laws_markFileDiffS.C : Code := Tryz.f15.body.getD .skip
def laws_markFileDiffS.P : Par := (.cons (.io 9 (.pair .str (.pair (.int .i64) (.one (.list (.pair (.int .i64) (.pair (.int .i64) (.one (.list (.pair (.int .i64) (.one .str))))))))))) (.cons (.val (.int .i64)) .nil))
noncomputable def laws_markFileDiffS.U : SumTab := [(61, [], laws_markText.S), (63, [], laws_markGroupS.S)]
noncomputable def laws_markFileDiffS.E : Env := mkEnv TY AR laws_markFileDiffS.U
def laws_markFileDiffS.D4 : CutD := ⟨[0, 1, 5], (.cons (.own 9 (.pair .str (.pair (.int .i64) (.one (.list (.pair (.int .i64) (.pair (.int .i64) (.one (.list (.pair (.int .i64) (.one .str))))))))))) (.cons (.val (.int .i64)) (.cons (.val (.int .i64)) .nil)))⟩
noncomputable def laws_markFileDiffS.T : Tab := fun k => look k [(4, laws_markFileDiffS.D4)]
def laws_markFileDiffS.R : List (Nat × Ty) := [(0, .int .i64)]
def laws_markFileDiffS.X : List ResultVar := [.tmp 4]
noncomputable def laws_markFileDiffS.K := fin laws_markFileDiffS.E ⟨laws_markFileDiffS.P, laws_markFileDiffS.R, fun _ _ => none⟩ laws_markFileDiffS.X laws_markFileDiffS.P.len 0
noncomputable def laws_markFileDiffS.l4 (a : List (ByteArray × Int × List (Int × Int × List (Int × ByteArray)))) (k : Int) (i : Int) : Option (Int × (List (ByteArray × Int × List (Int × Int × List (Int × ByteArray))))) := fixP laws_markFileDiffS.E laws_markFileDiffS.T laws_markFileDiffS.C laws_markFileDiffS.K 4 laws_markFileDiffS.D4 (a, k, i)
noncomputable def laws_markFileDiffS.f (a : List (ByteArray × Int × List (Int × Int × List (Int × ByteArray)))) (k : Int) : Option (Int × (List (ByteArray × Int × List (Int × Int × List (Int × ByteArray))))) := Fn laws_markFileDiffS.E laws_markFileDiffS.T laws_markFileDiffS.C laws_markFileDiffS.P laws_markFileDiffS.R laws_markFileDiffS.X (a, k)
theorem laws_markFileDiffS.l4_eq (a : List (ByteArray × Int × List (Int × Int × List (Int × ByteArray)))) (k : Int) (i : Int) : laws_markFileDiffS.l4 a k i =
  (bif (decide (i < (a.length : Int))) then ((laws_markText.f k).bind fun y4 =>
   bif ((decide (0 ≤ i)) && (decide (i < (a.length : Int)))) then (bif ((decide (0 ≤ i)) && (decide (i < ((a.set (i).toNat (y4, (a.getD (i).toNat (em, 0, ([] : List (Int × Int × List (Int × ByteArray))))).2)).length : Int)))) then (bif ((decide (0 ≤ i)) && (decide (i < (((a.set (i).toNat (y4, (a.getD (i).toNat (em, 0, ([] : List (Int × Int × List (Int × ByteArray))))).2)).set (i).toNat (((a.set (i).toNat (y4, (a.getD (i).toNat (em, 0, ([] : List (Int × Int × List (Int × ByteArray))))).2)).getD (i).toNat (em, 0, ([] : List (Int × Int × List (Int × ByteArray))))).1, (w64 (k + 1)), ((a.set (i).toNat (y4, (a.getD (i).toNat (em, 0, ([] : List (Int × Int × List (Int × ByteArray))))).2)).getD (i).toNat (em, 0, ([] : List (Int × Int × List (Int × ByteArray))))).2.2)).length : Int)))) then ((laws_markGroupS.f (((a.set (i).toNat (y4, (a.getD (i).toNat (em, 0, ([] : List (Int × Int × List (Int × ByteArray))))).2)).set (i).toNat (((a.set (i).toNat (y4, (a.getD (i).toNat (em, 0, ([] : List (Int × Int × List (Int × ByteArray))))).2)).getD (i).toNat (em, 0, ([] : List (Int × Int × List (Int × ByteArray))))).1, (w64 (k + 1)), ((a.set (i).toNat (y4, (a.getD (i).toNat (em, 0, ([] : List (Int × Int × List (Int × ByteArray))))).2)).getD (i).toNat (em, 0, ([] : List (Int × Int × List (Int × ByteArray))))).2.2)).getD (i).toNat (em, 0, ([] : List (Int × Int × List (Int × ByteArray))))).2.2 (w64 ((w64 (k + 1)) + 1))).bind fun y5 =>
      laws_markFileDiffS.l4 (((a.set (i).toNat (y4, (a.getD (i).toNat (em, 0, ([] : List (Int × Int × List (Int × ByteArray))))).2)).set (i).toNat (((a.set (i).toNat (y4, (a.getD (i).toNat (em, 0, ([] : List (Int × Int × List (Int × ByteArray))))).2)).getD (i).toNat (em, 0, ([] : List (Int × Int × List (Int × ByteArray))))).1, (w64 (k + 1)), ((a.set (i).toNat (y4, (a.getD (i).toNat (em, 0, ([] : List (Int × Int × List (Int × ByteArray))))).2)).getD (i).toNat (em, 0, ([] : List (Int × Int × List (Int × ByteArray))))).2.2)).set (i).toNat ((((a.set (i).toNat (y4, (a.getD (i).toNat (em, 0, ([] : List (Int × Int × List (Int × ByteArray))))).2)).set (i).toNat (((a.set (i).toNat (y4, (a.getD (i).toNat (em, 0, ([] : List (Int × Int × List (Int × ByteArray))))).2)).getD (i).toNat (em, 0, ([] : List (Int × Int × List (Int × ByteArray))))).1, (w64 (k + 1)), ((a.set (i).toNat (y4, (a.getD (i).toNat (em, 0, ([] : List (Int × Int × List (Int × ByteArray))))).2)).getD (i).toNat (em, 0, ([] : List (Int × Int × List (Int × ByteArray))))).2.2)).getD (i).toNat (em, 0, ([] : List (Int × Int × List (Int × ByteArray))))).1, (((a.set (i).toNat (y4, (a.getD (i).toNat (em, 0, ([] : List (Int × Int × List (Int × ByteArray))))).2)).set (i).toNat (((a.set (i).toNat (y4, (a.getD (i).toNat (em, 0, ([] : List (Int × Int × List (Int × ByteArray))))).2)).getD (i).toNat (em, 0, ([] : List (Int × Int × List (Int × ByteArray))))).1, (w64 (k + 1)), ((a.set (i).toNat (y4, (a.getD (i).toNat (em, 0, ([] : List (Int × Int × List (Int × ByteArray))))).2)).getD (i).toNat (em, 0, ([] : List (Int × Int × List (Int × ByteArray))))).2.2)).getD (i).toNat (em, 0, ([] : List (Int × Int × List (Int × ByteArray))))).2.1, y5.2)) y5.1 (w64 (i + 1))) else none) else none) else none) else (some (k, a))) :=
  (fixP_eq laws_markFileDiffS.E laws_markFileDiffS.T laws_markFileDiffS.C laws_markFileDiffS.K 4 laws_markFileDiffS.D4 (a, k, i)).trans (by kernel_rfl)
theorem laws_markFileDiffS.f_eq (a : List (ByteArray × Int × List (Int × Int × List (Int × ByteArray)))) (k : Int) : laws_markFileDiffS.f a k =
  (laws_markFileDiffS.l4 a k 0) := by kernel_rfl
noncomputable def laws_markFileDiffS.S : Abs.Sum := ⟨laws_markFileDiffS.P, laws_markFileDiffS.R, fun _ => Fn laws_markFileDiffS.E laws_markFileDiffS.T laws_markFileDiffS.C laws_markFileDiffS.P laws_markFileDiffS.R laws_markFileDiffS.X⟩
theorem laws_markFileDiffS.meets : Meets Tryz.prog 15 laws_markFileDiffS.S := meets_tab (S := laws_markFileDiffS.U) tabOk_all (AllMeets.cons laws_markText.meets (AllMeets.cons laws_markGroupS.meets AllMeets.nil)) (AllStill.cons (fun _ _ _ => rfl) (AllStill.cons (fun _ _ _ => rfl) AllStill.nil)) follows (by kernel_rfl : Tryz.prog.funcs[15]? = some Tryz.f15) (by kernel_rfl) (by kernel_rfl) (by kernel_rfl)
noncomputable def laws_heldRowS.C : Code := Tryz.f126.body.getD .skip
def laws_heldRowS.P : Par := (.cons (.val (.list (.pair (.int .i64) (.one .str)))) (.cons (.val (.int .i64)) .nil))
noncomputable def laws_heldRowS.U : SumTab := [(61, [], laws_markText.S)]
noncomputable def laws_heldRowS.E : Env := mkEnv TY AR laws_heldRowS.U
def laws_heldRowS.D4 : CutD := ⟨[0, 1, 5], (.cons (.val (.list (.pair (.int .i64) (.one .str)))) (.cons (.val (.int .i64)) (.cons (.val (.int .i64)) .nil)))⟩
noncomputable def laws_heldRowS.T : Tab := fun k => look k [(4, laws_heldRowS.D4)]
def laws_heldRowS.R : List (Nat × Ty) := [(0, .int .i64)]
def laws_heldRowS.X : List ResultVar := [.tmp 4]
noncomputable def laws_heldRowS.K := fin laws_heldRowS.E ⟨laws_heldRowS.P, laws_heldRowS.R, fun _ _ => none⟩ laws_heldRowS.X laws_heldRowS.P.len 0
noncomputable def laws_heldRowS.l4 (a : List (Int × ByteArray)) (k : Int) (i : Int) : Option (Int) := fixP laws_heldRowS.E laws_heldRowS.T laws_heldRowS.C laws_heldRowS.K 4 laws_heldRowS.D4 (a, k, i)
noncomputable def laws_heldRowS.f (a : List (Int × ByteArray)) (k : Int) : Option (Int) := Fn laws_heldRowS.E laws_heldRowS.T laws_heldRowS.C laws_heldRowS.P laws_heldRowS.R laws_heldRowS.X (a, k)
theorem laws_heldRowS.l4_eq (a : List (Int × ByteArray)) (k : Int) (i : Int) : laws_heldRowS.l4 a k i =
  (bif (decide (i < (a.length : Int))) then (bif ((decide (0 ≤ i)) && (decide (i < (a.length : Int)))) then (bif (!(decide ((a.getD (i).toNat (0, em)).1 = k))) then (some (-1)) else
    (bif ((decide (0 ≤ i)) && (decide (i < (a.length : Int)))) then ((laws_markText.f (w64 (k + 1))).bind fun y4 =>
      bif (!((a.getD (i).toNat (0, em)).2.toList == y4.toList)) then (some (-1)) else
      (laws_heldRowS.l4 a (w64 ((w64 (k + 1)) + 1)) (w64 (i + 1)))) else none)) else none) else (some k)) :=
  (fixP_eq laws_heldRowS.E laws_heldRowS.T laws_heldRowS.C laws_heldRowS.K 4 laws_heldRowS.D4 (a, k, i)).trans (by kernel_rfl)
theorem laws_heldRowS.f_eq (a : List (Int × ByteArray)) (k : Int) : laws_heldRowS.f a k =
  (laws_heldRowS.l4 a k 0) := by kernel_rfl
noncomputable def laws_heldRowS.S : Abs.Sum := ⟨laws_heldRowS.P, laws_heldRowS.R, fun _ => Fn laws_heldRowS.E laws_heldRowS.T laws_heldRowS.C laws_heldRowS.P laws_heldRowS.R laws_heldRowS.X⟩
theorem laws_heldRowS.meets : Meets Tryz.prog 126 laws_heldRowS.S := meets_tab (S := laws_heldRowS.U) tabOk_all (AllMeets.cons laws_markText.meets AllMeets.nil) (AllStill.cons (fun _ _ _ => rfl) AllStill.nil) follows (by kernel_rfl : Tryz.prog.funcs[126]? = some Tryz.f126) (by kernel_rfl) (by kernel_rfl) (by kernel_rfl)
noncomputable def laws_heldGroupS.C : Code := Tryz.f64.body.getD .skip
def laws_heldGroupS.P : Par := (.cons (.val (.list (.pair (.int .i64) (.pair (.int .i64) (.one (.list (.pair (.int .i64) (.one .str)))))))) (.cons (.val (.int .i64)) .nil))
noncomputable def laws_heldGroupS.U : SumTab := [(126, [], laws_heldRowS.S)]
noncomputable def laws_heldGroupS.E : Env := mkEnv TY AR laws_heldGroupS.U
def laws_heldGroupS.D4 : CutD := ⟨[0, 1, 5], (.cons (.val (.list (.pair (.int .i64) (.pair (.int .i64) (.one (.list (.pair (.int .i64) (.one .str)))))))) (.cons (.val (.int .i64)) (.cons (.val (.int .i64)) .nil)))⟩
noncomputable def laws_heldGroupS.T : Tab := fun k => look k [(4, laws_heldGroupS.D4)]
def laws_heldGroupS.R : List (Nat × Ty) := [(0, .int .i64)]
def laws_heldGroupS.X : List ResultVar := [.tmp 4]
noncomputable def laws_heldGroupS.K := fin laws_heldGroupS.E ⟨laws_heldGroupS.P, laws_heldGroupS.R, fun _ _ => none⟩ laws_heldGroupS.X laws_heldGroupS.P.len 0
noncomputable def laws_heldGroupS.l4 (a : List (Int × Int × List (Int × ByteArray))) (k : Int) (i : Int) : Option (Int) := fixP laws_heldGroupS.E laws_heldGroupS.T laws_heldGroupS.C laws_heldGroupS.K 4 laws_heldGroupS.D4 (a, k, i)
noncomputable def laws_heldGroupS.f (a : List (Int × Int × List (Int × ByteArray))) (k : Int) : Option (Int) := Fn laws_heldGroupS.E laws_heldGroupS.T laws_heldGroupS.C laws_heldGroupS.P laws_heldGroupS.R laws_heldGroupS.X (a, k)
theorem laws_heldGroupS.l4_eq (a : List (Int × Int × List (Int × ByteArray))) (k : Int) (i : Int) : laws_heldGroupS.l4 a k i =
  (bif (decide (i < (a.length : Int))) then (bif ((decide (0 ≤ i)) && (decide (i < (a.length : Int)))) then (bif (!(decide ((a.getD (i).toNat (0, 0, ([] : List (Int × ByteArray)))).1 = k))) then (some (-1)) else
    (bif ((decide (0 ≤ i)) && (decide (i < (a.length : Int)))) then (bif (!(decide ((a.getD (i).toNat (0, 0, ([] : List (Int × ByteArray)))).2.1 = (w64 (k + 1))))) then (some (-1)) else
      (bif ((decide (0 ≤ i)) && (decide (i < (a.length : Int)))) then ((laws_heldRowS.f (a.getD (i).toNat (0, 0, ([] : List (Int × ByteArray)))).2.2 (w64 ((w64 (k + 1)) + 1))).bind fun y4 =>
        bif (decide (y4 < 0)) then (some (-1)) else
        (laws_heldGroupS.l4 a y4 (w64 (i + 1)))) else none)) else none)) else none) else (some k)) :=
  (fixP_eq laws_heldGroupS.E laws_heldGroupS.T laws_heldGroupS.C laws_heldGroupS.K 4 laws_heldGroupS.D4 (a, k, i)).trans (by kernel_rfl)
theorem laws_heldGroupS.f_eq (a : List (Int × Int × List (Int × ByteArray))) (k : Int) : laws_heldGroupS.f a k =
  (laws_heldGroupS.l4 a k 0) := by kernel_rfl
noncomputable def laws_heldGroupS.S : Abs.Sum := ⟨laws_heldGroupS.P, laws_heldGroupS.R, fun _ => Fn laws_heldGroupS.E laws_heldGroupS.T laws_heldGroupS.C laws_heldGroupS.P laws_heldGroupS.R laws_heldGroupS.X⟩
theorem laws_heldGroupS.meets : Meets Tryz.prog 64 laws_heldGroupS.S := meets_tab (S := laws_heldGroupS.U) tabOk_all (AllMeets.cons laws_heldRowS.meets AllMeets.nil) (AllStill.cons (fun _ _ _ => rfl) AllStill.nil) follows (by kernel_rfl : Tryz.prog.funcs[64]? = some Tryz.f64) (by kernel_rfl) (by kernel_rfl) (by kernel_rfl)
noncomputable def laws_heldFileDiffS.C : Code := Tryz.f16.body.getD .skip
def laws_heldFileDiffS.P : Par := (.cons (.val (.list (.pair .str (.pair (.int .i64) (.one (.list (.pair (.int .i64) (.pair (.int .i64) (.one (.list (.pair (.int .i64) (.one .str)))))))))))) (.cons (.val (.int .i64)) .nil))
noncomputable def laws_heldFileDiffS.U : SumTab := [(61, [], laws_markText.S), (64, [], laws_heldGroupS.S)]
noncomputable def laws_heldFileDiffS.E : Env := mkEnv TY AR laws_heldFileDiffS.U
def laws_heldFileDiffS.D4 : CutD := ⟨[0, 1, 5], (.cons (.val (.list (.pair .str (.pair (.int .i64) (.one (.list (.pair (.int .i64) (.pair (.int .i64) (.one (.list (.pair (.int .i64) (.one .str)))))))))))) (.cons (.val (.int .i64)) (.cons (.val (.int .i64)) .nil)))⟩
noncomputable def laws_heldFileDiffS.T : Tab := fun k => look k [(4, laws_heldFileDiffS.D4)]
def laws_heldFileDiffS.R : List (Nat × Ty) := [(0, .int .i64)]
def laws_heldFileDiffS.X : List ResultVar := [.tmp 4]
noncomputable def laws_heldFileDiffS.K := fin laws_heldFileDiffS.E ⟨laws_heldFileDiffS.P, laws_heldFileDiffS.R, fun _ _ => none⟩ laws_heldFileDiffS.X laws_heldFileDiffS.P.len 0
noncomputable def laws_heldFileDiffS.l4 (a : List (ByteArray × Int × List (Int × Int × List (Int × ByteArray)))) (k : Int) (i : Int) : Option (Int) := fixP laws_heldFileDiffS.E laws_heldFileDiffS.T laws_heldFileDiffS.C laws_heldFileDiffS.K 4 laws_heldFileDiffS.D4 (a, k, i)
noncomputable def laws_heldFileDiffS.f (a : List (ByteArray × Int × List (Int × Int × List (Int × ByteArray)))) (k : Int) : Option (Int) := Fn laws_heldFileDiffS.E laws_heldFileDiffS.T laws_heldFileDiffS.C laws_heldFileDiffS.P laws_heldFileDiffS.R laws_heldFileDiffS.X (a, k)
theorem laws_heldFileDiffS.l4_eq (a : List (ByteArray × Int × List (Int × Int × List (Int × ByteArray)))) (k : Int) (i : Int) : laws_heldFileDiffS.l4 a k i =
  (bif (decide (i < (a.length : Int))) then (bif ((decide (0 ≤ i)) && (decide (i < (a.length : Int)))) then ((laws_markText.f k).bind fun y4 =>
    bif (!((a.getD (i).toNat (em, 0, ([] : List (Int × Int × List (Int × ByteArray))))).1.toList == y4.toList)) then (some (-1)) else
    (bif ((decide (0 ≤ i)) && (decide (i < (a.length : Int)))) then (bif (!(decide ((a.getD (i).toNat (em, 0, ([] : List (Int × Int × List (Int × ByteArray))))).2.1 = (w64 (k + 1))))) then (some (-1)) else
      (bif ((decide (0 ≤ i)) && (decide (i < (a.length : Int)))) then ((laws_heldGroupS.f (a.getD (i).toNat (em, 0, ([] : List (Int × Int × List (Int × ByteArray))))).2.2 (w64 ((w64 (k + 1)) + 1))).bind fun y5 =>
        bif (decide (y5 < 0)) then (some (-1)) else
        (laws_heldFileDiffS.l4 a y5 (w64 (i + 1)))) else none)) else none)) else none) else (some k)) :=
  (fixP_eq laws_heldFileDiffS.E laws_heldFileDiffS.T laws_heldFileDiffS.C laws_heldFileDiffS.K 4 laws_heldFileDiffS.D4 (a, k, i)).trans (by kernel_rfl)
theorem laws_heldFileDiffS.f_eq (a : List (ByteArray × Int × List (Int × Int × List (Int × ByteArray)))) (k : Int) : laws_heldFileDiffS.f a k =
  (laws_heldFileDiffS.l4 a k 0) := by kernel_rfl
noncomputable def laws_heldFileDiffS.S : Abs.Sum := ⟨laws_heldFileDiffS.P, laws_heldFileDiffS.R, fun _ => Fn laws_heldFileDiffS.E laws_heldFileDiffS.T laws_heldFileDiffS.C laws_heldFileDiffS.P laws_heldFileDiffS.R laws_heldFileDiffS.X⟩
theorem laws_heldFileDiffS.meets : Meets Tryz.prog 16 laws_heldFileDiffS.S := meets_tab (S := laws_heldFileDiffS.U) tabOk_all (AllMeets.cons laws_markText.meets (AllMeets.cons laws_heldGroupS.meets AllMeets.nil)) (AllStill.cons (fun _ _ _ => rfl) (AllStill.cons (fun _ _ _ => rfl) AllStill.nil)) follows (by kernel_rfl : Tryz.prog.funcs[16]? = some Tryz.f16) (by kernel_rfl) (by kernel_rfl) (by kernel_rfl)
noncomputable def laws_FnExactDiffFiles.C : Code := Tryz.f3.body.getD .skip
def laws_FnExactDiffFiles.P : Par := (.cons (.val (.list (.pair .str (.one (.list .str))))) (.cons (.val (.list (.pair .str (.one (.list .str))))) (.cons (.val (.int .i64)) .nil)))
noncomputable def laws_FnExactDiffFiles.U : SumTab := [(8, [], laws_szFileS.S), (10, [], laws_toFileS.S), (9, [], spec_DiffFiles.S), (11, [], impl_DiffFiles.S), (12, [], laws_eqFileDiffS.S), (13, [], laws_eqFileS.S), (14, [], laws_markFileS.S), (15, [], laws_markFileDiffS.S), (16, [], laws_heldFileDiffS.S)]
noncomputable def laws_FnExactDiffFiles.E : Env := mkEnv TY AR laws_FnExactDiffFiles.U
def laws_FnExactDiffFiles.D29 : CutD := ⟨[0, 1, 2, 8, 9, 10, 11, 12, 13], (.cons (.val (.list (.pair .str (.one (.list .str))))) (.cons (.val (.list (.pair .str (.one (.list .str))))) (.cons (.val (.int .i64)) (.cons (.val (.list (.pair .str (.pair (.int .i64) (.one (.list (.pair (.int .i64) (.pair (.int .i64) (.one (.list (.pair (.int .i64) (.one .str)))))))))))) (.cons (.val .bool) (.cons (.own 8 (.pair .str (.one (.list .str)))) (.cons (.own 8 (.pair .str (.one (.list .str)))) (.cons (.own 8 (.pair .str (.pair (.int .i64) (.one (.list (.pair (.int .i64) (.pair (.int .i64) (.one (.list (.pair (.int .i64) (.one .str))))))))))) (.cons (.val .bool) .nil)))))))))⟩
def laws_FnExactDiffFiles.D47 : CutD := ⟨[0, 1, 2, 8, 9, 12], (.cons (.val (.list (.pair .str (.one (.list .str))))) (.cons (.val (.list (.pair .str (.one (.list .str))))) (.cons (.val (.int .i64)) (.cons (.val (.list (.pair .str (.pair (.int .i64) (.one (.list (.pair (.int .i64) (.pair (.int .i64) (.one (.list (.pair (.int .i64) (.one .str)))))))))))) (.cons (.val .bool) (.cons (.own 8 (.pair .str (.pair (.int .i64) (.one (.list (.pair (.int .i64) (.pair (.int .i64) (.one (.list (.pair (.int .i64) (.one .str))))))))))) .nil))))))⟩
def laws_FnExactDiffFiles.D69 : CutD := ⟨[12, 15], (.cons (.own 8 (.pair .str (.pair (.int .i64) (.one (.list (.pair (.int .i64) (.pair (.int .i64) (.one (.list (.pair (.int .i64) (.one .str))))))))))) (.cons (.val (.int .i64)) .nil))⟩
noncomputable def laws_FnExactDiffFiles.T : Tab := fun k => look k [(29, laws_FnExactDiffFiles.D29), (47, laws_FnExactDiffFiles.D47), (69, laws_FnExactDiffFiles.D69)]
def laws_FnExactDiffFiles.R : List (Nat × Ty) := [(0, .bool)]
def laws_FnExactDiffFiles.X : List ResultVar := [.tmp 6]
noncomputable def laws_FnExactDiffFiles.K := fin laws_FnExactDiffFiles.E ⟨laws_FnExactDiffFiles.P, laws_FnExactDiffFiles.R, fun _ _ => none⟩ laws_FnExactDiffFiles.X laws_FnExactDiffFiles.P.len 0
noncomputable def laws_FnExactDiffFiles.l29 (aA : List (ByteArray × List ByteArray)) (aB : List (ByteArray × List ByteArray)) (aWidth : Int) (w0 : List (ByteArray × Int × List (Int × Int × List (Int × ByteArray)))) (w1 : Bool) (x0 : List (ByteArray × List ByteArray)) (x1 : List (ByteArray × List ByteArray)) (g0 : List (ByteArray × Int × List (Int × Int × List (Int × ByteArray)))) (g1 : Bool) : Option (Bool) := fixP laws_FnExactDiffFiles.E laws_FnExactDiffFiles.T laws_FnExactDiffFiles.C laws_FnExactDiffFiles.K 29 laws_FnExactDiffFiles.D29 (aA, aB, aWidth, w0, w1, x0, x1, g0, g1)
noncomputable def laws_FnExactDiffFiles.l47 (aA : List (ByteArray × List ByteArray)) (aB : List (ByteArray × List ByteArray)) (aWidth : Int) (w0 : List (ByteArray × Int × List (Int × Int × List (Int × ByteArray)))) (w1 : Bool) (g0 : List (ByteArray × Int × List (Int × Int × List (Int × ByteArray)))) : Option (Bool) := fixP laws_FnExactDiffFiles.E laws_FnExactDiffFiles.T laws_FnExactDiffFiles.C laws_FnExactDiffFiles.K 47 laws_FnExactDiffFiles.D47 (aA, aB, aWidth, w0, w1, g0)
noncomputable def laws_FnExactDiffFiles.l69 (g0 : List (ByteArray × Int × List (Int × Int × List (Int × ByteArray)))) (m : Int) : Option (Bool) := fixP laws_FnExactDiffFiles.E laws_FnExactDiffFiles.T laws_FnExactDiffFiles.C laws_FnExactDiffFiles.K 69 laws_FnExactDiffFiles.D69 (g0, m)
noncomputable def laws_FnExactDiffFiles.f (aA : List (ByteArray × List ByteArray)) (aB : List (ByteArray × List ByteArray)) (aWidth : Int) : Option (Bool) := Fn laws_FnExactDiffFiles.E laws_FnExactDiffFiles.T laws_FnExactDiffFiles.C laws_FnExactDiffFiles.P laws_FnExactDiffFiles.R laws_FnExactDiffFiles.X (aA, aB, aWidth)
theorem laws_FnExactDiffFiles.l29_eq (aA : List (ByteArray × List ByteArray)) (aB : List (ByteArray × List ByteArray)) (aWidth : Int) (w0 : List (ByteArray × Int × List (Int × Int × List (Int × ByteArray)))) (w1 : Bool) (x0 : List (ByteArray × List ByteArray)) (x1 : List (ByteArray × List ByteArray)) (g0 : List (ByteArray × Int × List (Int × Int × List (Int × ByteArray)))) (g1 : Bool) : laws_FnExactDiffFiles.l29 aA aB aWidth w0 w1 x0 x1 g0 g1 =
  ((laws_toFileS.f aA).bind fun y4 =>
  (laws_eqFileS.f x0 y4).bind fun y5 =>
  bif (!y5) then (some false) else
  ((laws_toFileS.f aB).bind fun y6 =>
   (laws_eqFileS.f x1 y6).bind fun y7 =>
   bif (!y7) then (some false) else
   ((laws_markFileS.f x0 1).bind fun y8 =>
    (laws_markFileS.f x1 y8.1).bind fun y9 =>
    bif (decide (y9.1 < 0)) then (some false) else
    ((laws_eqFileDiffS.f g0 w0).bind fun y10 =>
     bif (!y10) then (some false) else
     (bif (!(g1 == w1)) then (some false) else
      (laws_FnExactDiffFiles.l47 aA aB aWidth w0 w1 g0)))))) :=
  (fixP_eq laws_FnExactDiffFiles.E laws_FnExactDiffFiles.T laws_FnExactDiffFiles.C laws_FnExactDiffFiles.K 29 laws_FnExactDiffFiles.D29 (aA, aB, aWidth, w0, w1, x0, x1, g0, g1)).trans (by kernel_rfl)
theorem laws_FnExactDiffFiles.l47_eq (aA : List (ByteArray × List ByteArray)) (aB : List (ByteArray × List ByteArray)) (aWidth : Int) (w0 : List (ByteArray × Int × List (Int × Int × List (Int × ByteArray)))) (w1 : Bool) (g0 : List (ByteArray × Int × List (Int × Int × List (Int × ByteArray)))) : laws_FnExactDiffFiles.l47 aA aB aWidth w0 w1 g0 =
  ((laws_markFileDiffS.f g0 1).bind fun y4 =>
  (laws_heldFileDiffS.f y4.2 1).bind fun y5 =>
  bif (decide (y5 < 0)) then (some false) else
  (bif (!(decide (y5 = y4.1))) then (some false) else
   ((laws_toFileS.f aA).bind fun y6 =>
    (laws_toFileS.f aB).bind fun y7 =>
    (impl_DiffFiles.f y6 y7 aWidth).bind fun y8 =>
    (laws_eqFileDiffS.f y8.1 w0).bind fun y9 =>
    bif (!y9) then (some false) else
    (bif (!(y8.2 == w1)) then (some false) else
     (laws_FnExactDiffFiles.l69 y4.2 y4.1))))) :=
  (fixP_eq laws_FnExactDiffFiles.E laws_FnExactDiffFiles.T laws_FnExactDiffFiles.C laws_FnExactDiffFiles.K 47 laws_FnExactDiffFiles.D47 (aA, aB, aWidth, w0, w1, g0)).trans (by kernel_rfl)
theorem laws_FnExactDiffFiles.l69_eq (g0 : List (ByteArray × Int × List (Int × Int × List (Int × ByteArray)))) (m : Int) : laws_FnExactDiffFiles.l69 g0 m =
  ((laws_heldFileDiffS.f g0 1).bind fun y4 =>
  bif (decide (y4 < 0)) then (some false) else
  (bif (!(decide (y4 = m))) then (some false) else (some true))) :=
  (fixP_eq laws_FnExactDiffFiles.E laws_FnExactDiffFiles.T laws_FnExactDiffFiles.C laws_FnExactDiffFiles.K 69 laws_FnExactDiffFiles.D69 (g0, m)).trans (by kernel_rfl)
theorem laws_FnExactDiffFiles.f_eq (aA : List (ByteArray × List ByteArray)) (aB : List (ByteArray × List ByteArray)) (aWidth : Int) : laws_FnExactDiffFiles.f aA aB aWidth =
  ((laws_szFileS.f aA 1048576).bind fun y4 =>
  bif (decide (y4 < 0)) then (some true) else
  ((laws_szFileS.f aB y4).bind fun y5 =>
   bif (decide (y5 < 0)) then (some true) else
   ((laws_toFileS.f aA).bind fun y6 =>
    (laws_toFileS.f aB).bind fun y7 =>
    (spec_DiffFiles.f y6 y7 aWidth).bind fun y8 =>
    (laws_toFileS.f aA).bind fun y9 =>
    (laws_toFileS.f aB).bind fun y10 =>
    (impl_DiffFiles.f y9 y10 aWidth).bind fun y11 =>
    (laws_eqFileDiffS.f y11.1 y8.1).bind fun y12 =>
    bif (!y12) then (some false) else
    (bif (!(y11.2 == y8.2)) then (some false) else
     (laws_FnExactDiffFiles.l29 aA aB aWidth y8.1 y8.2 y9 y10 y11.1 y11.2))))) := by kernel_rfl
noncomputable def laws_FnExactDiffFiles.S : Abs.Sum := ⟨laws_FnExactDiffFiles.P, laws_FnExactDiffFiles.R, fun _ => Fn laws_FnExactDiffFiles.E laws_FnExactDiffFiles.T laws_FnExactDiffFiles.C laws_FnExactDiffFiles.P laws_FnExactDiffFiles.R laws_FnExactDiffFiles.X⟩
theorem laws_FnExactDiffFiles.meets : Meets Tryz.prog 3 laws_FnExactDiffFiles.S := meets_tab (S := laws_FnExactDiffFiles.U) tabOk_all (AllMeets.cons laws_szFileS.meets (AllMeets.cons laws_toFileS.meets (AllMeets.cons spec_DiffFiles.meets (AllMeets.cons impl_DiffFiles.meets (AllMeets.cons laws_eqFileDiffS.meets (AllMeets.cons laws_eqFileS.meets (AllMeets.cons laws_markFileS.meets (AllMeets.cons laws_markFileDiffS.meets (AllMeets.cons laws_heldFileDiffS.meets AllMeets.nil))))))))) (AllStill.cons (fun _ _ _ => rfl) (AllStill.cons (fun _ _ _ => rfl) (AllStill.cons (fun _ _ _ => rfl) (AllStill.cons (fun _ _ _ => rfl) (AllStill.cons (fun _ _ _ => rfl) (AllStill.cons (fun _ _ _ => rfl) (AllStill.cons (fun _ _ _ => rfl) (AllStill.cons (fun _ _ _ => rfl) (AllStill.cons (fun _ _ _ => rfl) AllStill.nil))))))))) follows (by kernel_rfl : Tryz.prog.funcs[3]? = some Tryz.f3) (by kernel_rfl) (by kernel_rfl) (by kernel_rfl)
end Go.Abs.G
