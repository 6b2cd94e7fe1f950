import Derived.Test.YtafohchkacclpaaGB
set_option linter.unusedVariables false
namespace Go.Abs.GE
open Go Go.Abs Go.Proofs
noncomputable def laws_szStringS.C : Code := Try.f14.body.getD .skip
def laws_szStringS.P : Par := (.cons (.val (.list .str)) (.cons (.val (.int .i64)) .nil))
noncomputable def laws_szStringS.U : SumTab := []
noncomputable def laws_szStringS.E : Env := mkEnv TY AR laws_szStringS.U
def laws_szStringS.D10 : CutD := ⟨[0, 1, 5], (.cons (.val (.list .str)) (.cons (.val (.int .i64)) (.cons (.val (.int .i64)) .nil)))⟩
/-! laws_szStringS -/
noncomputable def laws_szStringS.T : Tab := fun k => look k [(10, laws_szStringS.D10)]
def laws_szStringS.R : List (Nat × Ty) := [(0, .int .i64)]
def laws_szStringS.X : List ResultVar := [.tmp 4]
noncomputable def laws_szStringS.K := fin laws_szStringS.E ⟨laws_szStringS.P, laws_szStringS.R, fun _ _ => none⟩ laws_szStringS.X laws_szStringS.P.len 0
noncomputable def laws_szStringS.l10 (a : List ByteArray) (left : Int) (i : Int) : Option (Int) := fixP laws_szStringS.E laws_szStringS.T laws_szStringS.C laws_szStringS.K 10 laws_szStringS.D10 (a, left, i)
noncomputable def laws_szStringS.f (a : List ByteArray) (left : Int) : Option (Int) := Fn laws_szStringS.E laws_szStringS.T laws_szStringS.C laws_szStringS.P laws_szStringS.R laws_szStringS.X (a, left)
theorem laws_szStringS.l10_eq (a : List ByteArray) (left : Int) (i : Int) : laws_szStringS.l10 a left i =
  (bif (decide (i < (a.length : Int))) then (bif ((decide (0 ≤ i)) && (decide (i < (a.length : Int)))) then (bif (decide ((w64 (left - ((a.getD (i).toNat em).size : Int))) < 0)) then (some (-1)) else
    (laws_szStringS.l10 a (w64 (left - ((a.getD (i).toNat em).size : Int))) (w64 (i + 1)))) else none) else (some left)) :=
  (fixP_eq laws_szStringS.E laws_szStringS.T laws_szStringS.C laws_szStringS.K 10 laws_szStringS.D10 (a, left, i)).trans (by kernel_rfl)
theorem laws_szStringS.f_eq (a : List ByteArray) (left : Int) : laws_szStringS.f a left =
  (bif (decide ((w64 (left - (a.length : Int))) < 0)) then (some (-1)) else
  (laws_szStringS.l10 a (w64 (left - (a.length : Int))) 0)) := by kernel_rfl
noncomputable def laws_szStringS.S : Abs.Sum := ⟨laws_szStringS.P, laws_szStringS.R, fun _ => Fn laws_szStringS.E laws_szStringS.T laws_szStringS.C laws_szStringS.P laws_szStringS.R laws_szStringS.X⟩
theorem laws_szStringS.meets : Meets Try.prog 14 laws_szStringS.S := meets_tab (S := laws_szStringS.U) tabOk_all AllMeets.nil AllStill.nil follows (by kernel_rfl : Try.prog.funcs[14]? = some Try.f14) (by kernel_rfl) (by kernel_rfl) (by kernel_rfl)
noncomputable def laws_szStringSS.C : Code := Try.f48.body.getD .skip
def laws_szStringSS.P : Par := (.cons (.val (.list (.list .str))) (.cons (.val (.int .i64)) .nil))
noncomputable def laws_szStringSS.U : SumTab := [(14, [], laws_szStringS.S)]
noncomputable def laws_szStringSS.E : Env := mkEnv TY AR laws_szStringSS.U
def laws_szStringSS.D10 : CutD := ⟨[0, 1, 5], (.cons (.val (.list (.list .str))) (.cons (.val (.int .i64)) (.cons (.val (.int .i64)) .nil)))⟩
/-! laws_szStringSS -/
noncomputable def laws_szStringSS.T : Tab := fun k => look k [(10, laws_szStringSS.D10)]
def laws_szStringSS.R : List (Nat × Ty) := [(0, .int .i64)]
def laws_szStringSS.X : List ResultVar := [.tmp 4]
noncomputable def laws_szStringSS.K := fin laws_szStringSS.E ⟨laws_szStringSS.P, laws_szStringSS.R, fun _ _ => none⟩ laws_szStringSS.X laws_szStringSS.P.len 0
noncomputable def laws_szStringSS.l10 (a : List (List ByteArray)) (left : Int) (i : Int) : Option (Int) := fixP laws_szStringSS.E laws_szStringSS.T laws_szStringSS.C laws_szStringSS.K 10 laws_szStringSS.D10 (a, left, i)
noncomputable def laws_szStringSS.f (a : List (List ByteArray)) (left : Int) : Option (Int) := Fn laws_szStringSS.E laws_szStringSS.T laws_szStringSS.C laws_szStringSS.P laws_szStringSS.R laws_szStringSS.X (a, left)
theorem laws_szStringSS.l10_eq (a : List (List ByteArray)) (left : Int) (i : Int) : laws_szStringSS.l10 a left i =
  (bif (decide (i < (a.length : Int))) then (bif ((decide (0 ≤ i)) && (decide (i < (a.length : Int)))) then ((laws_szStringS.f (a.getD (i).toNat ([] : List ByteArray)) left).bind fun y1 =>
    bif (decide (y1 < 0)) then (some (-1)) else
    (laws_szStringSS.l10 a y1 (w64 (i + 1)))) else none) else (some left)) :=
  (fixP_eq laws_szStringSS.E laws_szStringSS.T laws_szStringSS.C laws_szStringSS.K 10 laws_szStringSS.D10 (a, left, i)).trans (by kernel_rfl)
theorem laws_szStringSS.f_eq (a : List (List ByteArray)) (left : Int) : laws_szStringSS.f a left =
  (bif (decide ((w64 (left - (a.length : Int))) < 0)) then (some (-1)) else
  (laws_szStringSS.l10 a (w64 (left - (a.length : Int))) 0)) := by kernel_rfl
noncomputable def laws_szStringSS.S : Abs.Sum := ⟨laws_szStringSS.P, laws_szStringSS.R, fun _ => Fn laws_szStringSS.E laws_szStringSS.T laws_szStringSS.C laws_szStringSS.P laws_szStringSS.R laws_szStringSS.X⟩
theorem laws_szStringSS.meets : Meets Try.prog 48 laws_szStringSS.S := meets_tab (S := laws_szStringSS.U) tabOk_all (AllMeets.cons laws_szStringS.meets AllMeets.nil) (AllStill.cons (fun _ _ _ => rfl) AllStill.nil) follows (by kernel_rfl : Try.prog.funcs[48]? = some Try.f48) (by kernel_rfl) (by kernel_rfl) (by kernel_rfl)
noncomputable def laws_toStringS.C : Code := Try.f16.body.getD .skip
def laws_toStringS.P : Par := (.cons (.val (.list .str)) .nil)
noncomputable def laws_toStringS.U : SumTab := []
noncomputable def laws_toStringS.E : Env := mkEnv TY AR laws_toStringS.U
def laws_toStringS.D6 : CutD := ⟨[0, 3, 4], (.cons (.val (.list .str)) (.cons (.own 9 .str) (.cons (.val (.int .i64)) .nil)))⟩
/-! laws_toStringS -/
noncomputable def laws_toStringS.T : Tab := fun k => look k [(6, laws_toStringS.D6)]
def laws_toStringS.R : List (Nat × Ty) := [(9, .list .str)]
def laws_toStringS.X : List ResultVar := [.tmp 2]
noncomputable def laws_toStringS.K := fin laws_toStringS.E ⟨laws_toStringS.P, laws_toStringS.R, fun _ _ => none⟩ laws_toStringS.X laws_toStringS.P.len 0
noncomputable def laws_toStringS.l6 (a : List ByteArray) (out : List ByteArray) (i : Int) : Option ((List ByteArray)) := fixP laws_toStringS.E laws_toStringS.T laws_toStringS.C laws_toStringS.K 6 laws_toStringS.D6 (a, out, i)
noncomputable def laws_toStringS.f (a : List ByteArray) : Option ((List ByteArray)) := Fn laws_toStringS.E laws_toStringS.T laws_toStringS.C laws_toStringS.P laws_toStringS.R laws_toStringS.X a
theorem laws_toStringS.l6_eq (a : List ByteArray) (out : List ByteArray) (i : Int) : laws_toStringS.l6 a out i =
  (bif (decide (i < (a.length : Int))) then (bif ((decide (0 ≤ i)) && (decide (i < (a.length : Int)))) then (bif ((decide (0 ≤ i)) && (decide (i < (out.length : Int)))) then (laws_toStringS.l6 a (out.set (i).toNat (a.getD (i).toNat em)) (w64 (i + 1))) else none) else none) else (some out)) :=
  (fixP_eq laws_toStringS.E laws_toStringS.T laws_toStringS.C laws_toStringS.K 6 laws_toStringS.D6 (a, out, i)).trans (by kernel_rfl)
theorem laws_toStringS.f_eq (a : List ByteArray) : laws_toStringS.f a =
  (bif ((decide (0 ≤ (a.length : Int))) && (decide (((a.length : Int)).toNat ≤ room 16))) then (laws_toStringS.l6 a (List.replicate ((a.length : Int)).toNat em) 0) else none) := by kernel_rfl
noncomputable def laws_toStringS.S : Abs.Sum := ⟨laws_toStringS.P, laws_toStringS.R, fun _ => Fn laws_toStringS.E laws_toStringS.T laws_toStringS.C laws_toStringS.P laws_toStringS.R laws_toStringS.X⟩
theorem laws_toStringS.meets : Meets Try.prog 16 laws_toStringS.S := meets_tab (S := laws_toStringS.U) tabOk_all AllMeets.nil AllStill.nil follows (by kernel_rfl : Try.prog.funcs[16]? = some Try.f16) (by kernel_rfl) (by kernel_rfl) (by kernel_rfl)
noncomputable def laws_toStringSS.C : Code := Try.f50.body.getD .skip
def laws_toStringSS.P : Par := (.cons (.val (.list (.list .str))) .nil)
noncomputable def laws_toStringSS.U : SumTab := [(16, [], laws_toStringS.S)]
noncomputable def laws_toStringSS.E : Env := mkEnv TY AR laws_toStringSS.U
def laws_toStringSS.D6 : CutD := ⟨[0, 3, 4], (.cons (.val (.list (.list .str))) (.cons (.own 9 (.list .str)) (.cons (.val (.int .i64)) .nil)))⟩
/-! laws_toStringSS -/
noncomputable def laws_toStringSS.T : Tab := fun k => look k [(6, laws_toStringSS.D6)]
def laws_toStringSS.R : List (Nat × Ty) := [(9, .list (.list .str))]
def laws_toStringSS.X : List ResultVar := [.tmp 2]
noncomputable def laws_toStringSS.K := fin laws_toStringSS.E ⟨laws_toStringSS.P, laws_toStringSS.R, fun _ _ => none⟩ laws_toStringSS.X laws_toStringSS.P.len 0
noncomputable def laws_toStringSS.l6 (a : List (List ByteArray)) (out : List (List ByteArray)) (i : Int) : Option ((List (List ByteArray))) := fixP laws_toStringSS.E laws_toStringSS.T laws_toStringSS.C laws_toStringSS.K 6 laws_toStringSS.D6 (a, out, i)
noncomputable def laws_toStringSS.f (a : List (List ByteArray)) : Option ((List (List ByteArray))) := Fn laws_toStringSS.E laws_toStringSS.T laws_toStringSS.C laws_toStringSS.P laws_toStringSS.R laws_toStringSS.X a
theorem laws_toStringSS.l6_eq (a : List (List ByteArray)) (out : List (List ByteArray)) (i : Int) : laws_toStringSS.l6 a out i =
  (bif (decide (i < (a.length : Int))) then (bif ((decide (0 ≤ i)) && (decide (i < (a.length : Int)))) then ((laws_toStringS.f (a.getD (i).toNat ([] : List ByteArray))).bind fun y1 =>
    bif ((decide (0 ≤ i)) && (decide (i < (out.length : Int)))) then (laws_toStringSS.l6 a (out.set (i).toNat y1) (w64 (i + 1))) else none) else none) else (some out)) :=
  (fixP_eq laws_toStringSS.E laws_toStringSS.T laws_toStringSS.C laws_toStringSS.K 6 laws_toStringSS.D6 (a, out, i)).trans (by kernel_rfl)
theorem laws_toStringSS.f_eq (a : List (List ByteArray)) : laws_toStringSS.f a =
  (bif ((decide (0 ≤ (a.length : Int))) && (decide (((a.length : Int)).toNat ≤ room 24))) then (laws_toStringSS.l6 a (List.replicate ((a.length : Int)).toNat ([] : List ByteArray)) 0) else none) := by kernel_rfl
noncomputable def laws_toStringSS.S : Abs.Sum := ⟨laws_toStringSS.P, laws_toStringSS.R, fun _ => Fn laws_toStringSS.E laws_toStringSS.T laws_toStringSS.C laws_toStringSS.P laws_toStringSS.R laws_toStringSS.X⟩
theorem laws_toStringSS.meets : Meets Try.prog 50 laws_toStringSS.S := meets_tab (S := laws_toStringSS.U) tabOk_all (AllMeets.cons laws_toStringS.meets AllMeets.nil) (AllStill.cons (fun _ _ _ => rfl) AllStill.nil) follows (by kernel_rfl : Try.prog.funcs[50]? = some Try.f50) (by kernel_rfl) (by kernel_rfl) (by kernel_rfl)
noncomputable def spec_l1In.C : Code := Try.f94.body.getD .skip
def spec_l1In.P : Par := (.cons (.val (.int .i64)) (.cons (.val (.int .i64)) (.cons (.val (.int .i64)) .nil)))
noncomputable def spec_l1In.U : SumTab := []
noncomputable def spec_l1In.E : Env := mkEnv TY AR spec_l1In.U
/-! spec_l1In -/
noncomputable def spec_l1In.T : Tab := fun k => look k []
def spec_l1In.R : List (Nat × Ty) := [(0, .bool)]
def spec_l1In.X : List ResultVar := [.tmp 6]
noncomputable def spec_l1In.K := fin spec_l1In.E ⟨spec_l1In.P, spec_l1In.R, fun _ _ => none⟩ spec_l1In.X spec_l1In.P.len 0
noncomputable def spec_l1In.f (n : Int) (lo : Int) (hi : Int) : Option (Bool) := Fn spec_l1In.E spec_l1In.T spec_l1In.C spec_l1In.P spec_l1In.R spec_l1In.X (n, lo, hi)
theorem spec_l1In.f_eq (n : Int) (lo : Int) (hi : Int) : spec_l1In.f n lo hi =
  (bif (decide (n ≥ lo)) then (some (decide (n ≤ hi))) else (some false)) := by kernel_rfl
noncomputable def spec_l1In.S : Abs.Sum := ⟨spec_l1In.P, spec_l1In.R, fun _ => Fn spec_l1In.E spec_l1In.T spec_l1In.C spec_l1In.P spec_l1In.R spec_l1In.X⟩
theorem spec_l1In.meets : Meets Try.prog 94 spec_l1In.S := meets_tab (S := spec_l1In.U) tabOk_all AllMeets.nil AllStill.nil follows (by kernel_rfl : Try.prog.funcs[94]? = some Try.f94) (by kernel_rfl) (by kernel_rfl) (by kernel_rfl)
noncomputable def spec_l1Line.C : Code := Try.f76.body.getD .skip
def spec_l1Line.P : Par := (.cons (.val .str) .nil)
noncomputable def spec_l1Line.U : SumTab := [(94, [], spec_l1In.S)]
noncomputable def spec_l1Line.E : Env := mkEnv TY AR spec_l1Line.U
def spec_l1Line.D4 : CutD := ⟨[0, 3], (.cons (.val .str) (.cons (.val (.int .i64)) .nil))⟩
/-! spec_l1Line -/
noncomputable def spec_l1Line.T : Tab := fun k => look k [(4, spec_l1Line.D4)]
def spec_l1Line.R : List (Nat × Ty) := [(0, .bool)]
def spec_l1Line.X : List ResultVar := [.tmp 2]
noncomputable def spec_l1Line.K := fin spec_l1Line.E ⟨spec_l1Line.P, spec_l1Line.R, fun _ _ => none⟩ spec_l1Line.X spec_l1Line.P.len 0
noncomputable def spec_l1Line.l4 (s : ByteArray) (i : Int) : Option (Bool) := fixP spec_l1Line.E spec_l1Line.T spec_l1Line.C spec_l1Line.K 4 spec_l1Line.D4 (s, i)
noncomputable def spec_l1Line.f (s : ByteArray) : Option (Bool) := Fn spec_l1Line.E spec_l1Line.T spec_l1Line.C spec_l1Line.P spec_l1Line.R spec_l1Line.X s
theorem spec_l1Line.l4_eq (s : ByteArray) (i : Int) : spec_l1Line.l4 s i =
  (bif (decide (i < (w64 ((s.size : Int) - 1)))) then (bif ((decide (0 ≤ i)) && (decide (i < (s.size : Int)))) then (bif (decide ((bt s i) = 10)) then (some false) else
    (spec_l1Line.l4 s (w64 (i + 1)))) else none) else
  ((spec_l1In.f (s.size : Int) 1 30).bind fun y1 =>
   some y1)) :=
  (fixP_eq spec_l1Line.E spec_l1Line.T spec_l1Line.C spec_l1Line.K 4 spec_l1Line.D4 (s, i)).trans (by kernel_rfl)
theorem spec_l1Line.f_eq (s : ByteArray) : spec_l1Line.f s =
  (spec_l1Line.l4 s 0) := by kernel_rfl
noncomputable def spec_l1Line.S : Abs.Sum := ⟨spec_l1Line.P, spec_l1Line.R, fun _ => Fn spec_l1Line.E spec_l1Line.T spec_l1Line.C spec_l1Line.P spec_l1Line.R spec_l1Line.X⟩
theorem spec_l1Line.meets : Meets Try.prog 76 spec_l1Line.S := meets_tab (S := spec_l1Line.U) tabOk_all (AllMeets.cons spec_l1In.meets AllMeets.nil) (AllStill.cons (fun _ _ _ => rfl) AllStill.nil) follows (by kernel_rfl : Try.prog.funcs[76]? = some Try.f76) (by kernel_rfl) (by kernel_rfl) (by kernel_rfl)
noncomputable def spec_l1Ends.C : Code := Try.f132.body.getD .skip
def spec_l1Ends.P : Par := (.cons (.val .str) .nil)
noncomputable def spec_l1Ends.U : SumTab := []
noncomputable def spec_l1Ends.E : Env := mkEnv TY AR spec_l1Ends.U
/-! spec_l1Ends -/
noncomputable def spec_l1Ends.T : Tab := fun k => look k []
def spec_l1Ends.R : List (Nat × Ty) := [(0, .bool)]
def spec_l1Ends.X : List ResultVar := [.tmp 2]
noncomputable def spec_l1Ends.K := fin spec_l1Ends.E ⟨spec_l1Ends.P, spec_l1Ends.R, fun _ _ => none⟩ spec_l1Ends.X spec_l1Ends.P.len 0
noncomputable def spec_l1Ends.f (s : ByteArray) : Option (Bool) := Fn spec_l1Ends.E spec_l1Ends.T spec_l1Ends.C spec_l1Ends.P spec_l1Ends.R spec_l1Ends.X s
theorem spec_l1Ends.f_eq (s : ByteArray) : spec_l1Ends.f s =
  (bif ((decide (0 ≤ (w64 ((s.size : Int) - 1)))) && (decide ((w64 ((s.size : Int) - 1)) < (s.size : Int)))) then (some (decide ((bt s (w64 ((s.size : Int) - 1))) = 10))) else none) := by kernel_rfl
noncomputable def spec_l1Ends.S : Abs.Sum := ⟨spec_l1Ends.P, spec_l1Ends.R, fun _ => Fn spec_l1Ends.E spec_l1Ends.T spec_l1Ends.C spec_l1Ends.P spec_l1Ends.R spec_l1Ends.X⟩
theorem spec_l1Ends.meets : Meets Try.prog 132 spec_l1Ends.S := meets_tab (S := spec_l1Ends.U) tabOk_all AllMeets.nil AllStill.nil follows (by kernel_rfl : Try.prog.funcs[132]? = some Try.f132) (by kernel_rfl) (by kernel_rfl) (by kernel_rfl)
noncomputable def spec_l1Good.C : Code := Try.f75.body.getD .skip
def spec_l1Good.P : Par := (.cons (.val (.list .str)) .nil)
noncomputable def spec_l1Good.U : SumTab := [(76, [], spec_l1Line.S), (132, [], spec_l1Ends.S)]
noncomputable def spec_l1Good.E : Env := mkEnv TY AR spec_l1Good.U
def spec_l1Good.D4 : CutD := ⟨[0, 5, 6, 7], (.cons (.val (.list .str)) (.cons (.val (.list .str)) (.cons (.val (.int .i64)) (.cons (.val (.int .i64)) .nil))))⟩
/-! spec_l1Good -/
noncomputable def spec_l1Good.T : Tab := fun k => look k [(4, spec_l1Good.D4)]
def spec_l1Good.R : List (Nat × Ty) := [(0, .bool)]
def spec_l1Good.X : List ResultVar := [.tmp 2]
noncomputable def spec_l1Good.K := fin spec_l1Good.E ⟨spec_l1Good.P, spec_l1Good.R, fun _ _ => none⟩ spec_l1Good.X spec_l1Good.P.len 0
noncomputable def spec_l1Good.l4 (l : List ByteArray) (t5 : List ByteArray) (t6 : Int) (t7 : Int) : Option (Bool) := fixP spec_l1Good.E spec_l1Good.T spec_l1Good.C spec_l1Good.K 4 spec_l1Good.D4 (l, t5, t6, t7)
noncomputable def spec_l1Good.f (l : List ByteArray) : Option (Bool) := Fn spec_l1Good.E spec_l1Good.T spec_l1Good.C spec_l1Good.P spec_l1Good.R spec_l1Good.X l
theorem spec_l1Good.l4_eq (l : List ByteArray) (t5 : List ByteArray) (t6 : Int) (t7 : Int) : spec_l1Good.l4 l t5 t6 t7 =
  (bif (decide (t7 < t6)) then (bif ((decide (0 ≤ t7)) && (decide (t7 < (t5.length : Int)))) then ((spec_l1Line.f (t5.getD (t7).toNat em)).bind fun y1 =>
    bif (!y1) then (some false) else
    (bif (decide (t7 < (w64 ((l.length : Int) - 1)))) then ((spec_l1Ends.f (t5.getD (t7).toNat em)).bind fun y2 =>
      bif (!y2) then (some false) else
      (spec_l1Good.l4 l t5 t6 (w64 (t7 + 1)))) else
     (spec_l1Good.l4 l t5 t6 (w64 (t7 + 1))))) else none) else (some (decide ((l.length : Int) ≤ 40)))) :=
  (fixP_eq spec_l1Good.E spec_l1Good.T spec_l1Good.C spec_l1Good.K 4 spec_l1Good.D4 (l, t5, t6, t7)).trans (by kernel_rfl)
theorem spec_l1Good.f_eq (l : List ByteArray) : spec_l1Good.f l =
  (spec_l1Good.l4 l l (l.length : Int) 0) := by kernel_rfl
noncomputable def spec_l1Good.S : Abs.Sum := ⟨spec_l1Good.P, spec_l1Good.R, fun _ => Fn spec_l1Good.E spec_l1Good.T spec_l1Good.C spec_l1Good.P spec_l1Good.R spec_l1Good.X⟩
theorem spec_l1Good.meets : Meets Try.prog 75 spec_l1Good.S := meets_tab (S := spec_l1Good.U) tabOk_all (AllMeets.cons spec_l1Line.meets (AllMeets.cons spec_l1Ends.meets AllMeets.nil)) (AllStill.cons (fun _ _ _ => rfl) (AllStill.cons (fun _ _ _ => rfl) AllStill.nil)) follows (by kernel_rfl : Try.prog.funcs[75]? = some Try.f75) (by kernel_rfl) (by kernel_rfl) (by kernel_rfl)
noncomputable def spec_l12Good.C : Code := Try.f105.body.getD .skip
def spec_l12Good.P : Par := (.cons (.val (.list (.list .str))) .nil)
noncomputable def spec_l12Good.U : SumTab := [(75, [], spec_l1Good.S), (94, [], spec_l1In.S)]
noncomputable def spec_l12Good.E : Env := mkEnv TY AR spec_l12Good.U
def spec_l12Good.D4 : CutD := ⟨[0, 5, 6, 7], (.cons (.val (.list (.list .str))) (.cons (.val (.list (.list .str))) (.cons (.val (.int .i64)) (.cons (.val (.int .i64)) .nil))))⟩
/-! spec_l12Good -/
noncomputable def spec_l12Good.T : Tab := fun k => look k [(4, spec_l12Good.D4)]
def spec_l12Good.R : List (Nat × Ty) := [(0, .bool)]
def spec_l12Good.X : List ResultVar := [.tmp 2]
noncomputable def spec_l12Good.K := fin spec_l12Good.E ⟨spec_l12Good.P, spec_l12Good.R, fun _ _ => none⟩ spec_l12Good.X spec_l12Good.P.len 0
noncomputable def spec_l12Good.l4 (v : List (List ByteArray)) (t5 : List (List ByteArray)) (t6 : Int) (t7 : Int) : Option (Bool) := fixP spec_l12Good.E spec_l12Good.T spec_l12Good.C spec_l12Good.K 4 spec_l12Good.D4 (v, t5, t6, t7)
noncomputable def spec_l12Good.f (v : List (List ByteArray)) : Option (Bool) := Fn spec_l12Good.E spec_l12Good.T spec_l12Good.C spec_l12Good.P spec_l12Good.R spec_l12Good.X v
theorem spec_l12Good.l4_eq (v : List (List ByteArray)) (t5 : List (List ByteArray)) (t6 : Int) (t7 : Int) : spec_l12Good.l4 v t5 t6 t7 =
  (bif (decide (t7 < t6)) then (bif ((decide (0 ≤ t7)) && (decide (t7 < (t5.length : Int)))) then ((spec_l1Good.f (t5.getD (t7).toNat ([] : List ByteArray))).bind fun y1 =>
    bif (!y1) then (some false) else
    (spec_l12Good.l4 v t5 t6 (w64 (t7 + 1)))) else none) else
  ((spec_l1In.f (v.length : Int) 1 8).bind fun y1 =>
   some y1)) :=
  (fixP_eq spec_l12Good.E spec_l12Good.T spec_l12Good.C spec_l12Good.K 4 spec_l12Good.D4 (v, t5, t6, t7)).trans (by kernel_rfl)
theorem spec_l12Good.f_eq (v : List (List ByteArray)) : spec_l12Good.f v =
  (spec_l12Good.l4 v v (v.length : Int) 0) := by kernel_rfl
noncomputable def spec_l12Good.S : Abs.Sum := ⟨spec_l12Good.P, spec_l12Good.R, fun _ => Fn spec_l12Good.E spec_l12Good.T spec_l12Good.C spec_l12Good.P spec_l12Good.R spec_l12Good.X⟩
theorem spec_l12Good.meets : Meets Try.prog 105 spec_l12Good.S := meets_tab (S := spec_l12Good.U) tabOk_all (AllMeets.cons spec_l1Good.meets (AllMeets.cons spec_l1In.meets AllMeets.nil)) (AllStill.cons (fun _ _ _ => rfl) (AllStill.cons (fun _ _ _ => rfl) AllStill.nil)) follows (by kernel_rfl : Try.prog.funcs[105]? = some Try.f105) (by kernel_rfl) (by kernel_rfl) (by kernel_rfl)
noncomputable def spec_l1OwnT.C : Code := Try.f106.body.getD .skip
def spec_l1OwnT.P : Par := (.cons (.val (.list .str)) .nil)
noncomputable def spec_l1OwnT.U : SumTab := []
noncomputable def spec_l1OwnT.E : Env := mkEnv TY AR spec_l1OwnT.U
/-! spec_l1OwnT -/
noncomputable def spec_l1OwnT.T : Tab := fun k => look k []
def spec_l1OwnT.R : List (Nat × Ty) := [(9, .list .str)]
def spec_l1OwnT.X : List ResultVar := [.tmp 2]
noncomputable def spec_l1OwnT.K := fin spec_l1OwnT.E ⟨spec_l1OwnT.P, spec_l1OwnT.R, fun _ _ => none⟩ spec_l1OwnT.X spec_l1OwnT.P.len 0
noncomputable def spec_l1OwnT.f (l : List ByteArray) : Option ((List ByteArray)) := Fn spec_l1OwnT.E spec_l1OwnT.T spec_l1OwnT.C spec_l1OwnT.P spec_l1OwnT.R spec_l1OwnT.X l
theorem spec_l1OwnT.f_eq (l : List ByteArray) : spec_l1OwnT.f l =
  (bif (decide ((([] : List ByteArray).length + l.length) ≤ room 16)) then (some (([] : List ByteArray) ++ l)) else none) := by kernel_rfl
noncomputable def spec_l1OwnT.S : Abs.Sum := ⟨spec_l1OwnT.P, spec_l1OwnT.R, fun _ => Fn spec_l1OwnT.E spec_l1OwnT.T spec_l1OwnT.C spec_l1OwnT.P spec_l1OwnT.R spec_l1OwnT.X⟩
theorem spec_l1OwnT.meets : Meets Try.prog 106 spec_l1OwnT.S := meets_tab (S := spec_l1OwnT.U) tabOk_all AllMeets.nil AllStill.nil follows (by kernel_rfl : Try.prog.funcs[106]? = some Try.f106) (by kernel_rfl) (by kernel_rfl) (by kernel_rfl)
noncomputable def spec_l1Most.C : Code := Try.f175.body.getD .skip
def spec_l1Most.P : Par := (.cons (.val (.int .i64)) (.cons (.val (.int .i64)) .nil))
noncomputable def spec_l1Most.U : SumTab := []
noncomputable def spec_l1Most.E : Env := mkEnv TY AR spec_l1Most.U
/-! spec_l1Most -/
noncomputable def spec_l1Most.T : Tab := fun k => look k []
def spec_l1Most.R : List (Nat × Ty) := [(0, .int .i64)]
def spec_l1Most.X : List ResultVar := [.tmp 4]
noncomputable def spec_l1Most.K := fin spec_l1Most.E ⟨spec_l1Most.P, spec_l1Most.R, fun _ _ => none⟩ spec_l1Most.X spec_l1Most.P.len 0
noncomputable def spec_l1Most.f (a : Int) (b : Int) : Option (Int) := Fn spec_l1Most.E spec_l1Most.T spec_l1Most.C spec_l1Most.P spec_l1Most.R spec_l1Most.X (a, b)
theorem spec_l1Most.f_eq (a : Int) (b : Int) : spec_l1Most.f a b =
  (bif (decide (a > b)) then (some a) else (some b)) := by kernel_rfl
noncomputable def spec_l1Most.S : Abs.Sum := ⟨spec_l1Most.P, spec_l1Most.R, fun _ => Fn spec_l1Most.E spec_l1Most.T spec_l1Most.C spec_l1Most.P spec_l1Most.R spec_l1Most.X⟩
theorem spec_l1Most.meets : Meets Try.prog 175 spec_l1Most.S := meets_tab (S := spec_l1Most.U) tabOk_all AllMeets.nil AllStill.nil follows (by kernel_rfl : Try.prog.funcs[175]? = some Try.f175) (by kernel_rfl) (by kernel_rfl) (by kernel_rfl)
noncomputable def spec_l3Table.C : Code := Try.f164.body.getD .skip
def spec_l3Table.P : Par := (.cons (.val (.list .str)) (.cons (.val (.list .str)) .nil))
noncomputable def spec_l3Table.U : SumTab := [(175, [], spec_l1Most.S)]
noncomputable def spec_l3Table.E : Env := mkEnv TY AR spec_l3Table.U
def spec_l3Table.D6 : CutD := ⟨[0, 1, 5, 14, 15], (.cons (.val (.list .str)) (.cons (.val (.list .str)) (.cons (.own 9 (.list (.int .i64))) (.cons (.val (.int .i64)) (.cons (.val (.int .i64)) .nil)))))⟩
def spec_l3Table.D16 : CutD := ⟨[0, 1, 5, 7], (.cons (.val (.list .str)) (.cons (.val (.list .str)) (.cons (.own 9 (.list (.int .i64))) (.cons (.val (.int .i64)) .nil))))⟩
def spec_l3Table.D22 : CutD := ⟨[0, 1, 5, 7, 8], (.cons (.val (.list .str)) (.cons (.val (.list .str)) (.cons (.own 9 (.list (.int .i64))) (.cons (.val (.int .i64)) (.cons (.val (.int .i64)) .nil)))))⟩
/-! spec_l3Table -/
noncomputable def spec_l3Table.T : Tab := fun k => look k [(6, spec_l3Table.D6), (16, spec_l3Table.D16), (22, spec_l3Table.D22)]
def spec_l3Table.R : List (Nat × Ty) := [(9, .list (.list (.int .i64)))]
def spec_l3Table.X : List ResultVar := [.tmp 4]
noncomputable def spec_l3Table.K := fin spec_l3Table.E ⟨spec_l3Table.P, spec_l3Table.R, fun _ _ => none⟩ spec_l3Table.X spec_l3Table.P.len 0
noncomputable def spec_l3Table.l6 (a : List ByteArray) (b : List ByteArray) (t : List (List Int)) (t14 : Int) (t15 : Int) : Option ((List (List Int))) := fixP spec_l3Table.E spec_l3Table.T spec_l3Table.C spec_l3Table.K 6 spec_l3Table.D6 (a, b, t, t14, t15)
noncomputable def spec_l3Table.l16 (a : List ByteArray) (b : List ByteArray) (t : List (List Int)) (i : Int) : Option ((List (List Int))) := fixP spec_l3Table.E spec_l3Table.T spec_l3Table.C spec_l3Table.K 16 spec_l3Table.D16 (a, b, t, i)
noncomputable def spec_l3Table.l22 (a : List ByteArray) (b : List ByteArray) (t : List (List Int)) (i : Int) (j : Int) : Option ((List (List Int))) := fixP spec_l3Table.E spec_l3Table.T spec_l3Table.C spec_l3Table.K 22 spec_l3Table.D22 (a, b, t, i, j)
noncomputable def spec_l3Table.f (a : List ByteArray) (b : List ByteArray) : Option ((List (List Int))) := Fn spec_l3Table.E spec_l3Table.T spec_l3Table.C spec_l3Table.P spec_l3Table.R spec_l3Table.X (a, b)
theorem spec_l3Table.l6_eq (a : List ByteArray) (b : List ByteArray) (t : List (List Int)) (t14 : Int) (t15 : Int) : spec_l3Table.l6 a b t t14 t15 =
  (bif (decide (t15 < t14)) then (bif ((decide (0 ≤ (w64 ((b.length : Int) + 1)))) && (decide (((w64 ((b.length : Int) + 1))).toNat ≤ room 8))) then (bif ((decide (0 ≤ t15)) && (decide (t15 < (t.length : Int)))) then (spec_l3Table.l6 a b (t.set (t15).toNat (List.replicate ((w64 ((b.length : Int) + 1))).toNat 0)) t14 (w64 (t15 + 1))) else none) else none) else
  (spec_l3Table.l16 a b t (w64 ((a.length : Int) - 1)))) :=
  (fixP_eq spec_l3Table.E spec_l3Table.T spec_l3Table.C spec_l3Table.K 6 spec_l3Table.D6 (a, b, t, t14, t15)).trans (by kernel_rfl)
theorem spec_l3Table.l16_eq (a : List ByteArray) (b : List ByteArray) (t : List (List Int)) (i : Int) : spec_l3Table.l16 a b t i =
  (bif (decide (i ≥ 0)) then (spec_l3Table.l22 a b t i (w64 ((b.length : Int) - 1))) else (some t)) :=
  (fixP_eq spec_l3Table.E spec_l3Table.T spec_l3Table.C spec_l3Table.K 16 spec_l3Table.D16 (a, b, t, i)).trans (by kernel_rfl)
theorem spec_l3Table.l22_eq (a : List ByteArray) (b : List ByteArray) (t : List (List Int)) (i : Int) (j : Int) : spec_l3Table.l22 a b t i j =
  (bif (decide (j ≥ 0)) then (bif ((decide (0 ≤ i)) && (decide (i < (t.length : Int)))) then (bif ((decide (0 ≤ (w64 (i + 1)))) && (decide ((w64 (i + 1)) < (t.length : Int)))) then (bif ((decide (0 ≤ j)) && (decide (j < ((t.getD ((w64 (i + 1))).toNat ([] : List Int)).length : Int)))) then (bif ((decide (0 ≤ i)) && (decide (i < (t.length : Int)))) then (bif ((decide (0 ≤ (w64 (j + 1)))) && (decide ((w64 (j + 1)) < ((t.getD (i).toNat ([] : List Int)).length : Int)))) then ((spec_l1Most.f ((t.getD ((w64 (i + 1))).toNat ([] : List Int)).getD (j).toNat 0) ((t.getD (i).toNat ([] : List Int)).getD ((w64 (j + 1))).toNat 0)).bind fun y1 =>
        bif ((decide (0 ≤ j)) && (decide (j < ((t.getD (i).toNat ([] : List Int)).length : Int)))) then (bif ((decide (0 ≤ i)) && (decide (i < (a.length : Int)))) then (bif ((decide (0 ≤ j)) && (decide (j < (b.length : Int)))) then (bif ((a.getD (i).toNat em).toList == (b.getD (j).toNat em).toList) then (bif ((decide (0 ≤ i)) && (decide (i < ((t.set (i).toNat ((t.getD (i).toNat ([] : List Int)).set (j).toNat y1)).length : Int)))) then (bif ((decide (0 ≤ i)) && (decide (i < ((t.set (i).toNat ((t.getD (i).toNat ([] : List Int)).set (j).toNat y1)).length : Int)))) then (bif ((decide (0 ≤ j)) && (decide (j < (((t.set (i).toNat ((t.getD (i).toNat ([] : List Int)).set (j).toNat y1)).getD (i).toNat ([] : List Int)).length : Int)))) then (bif ((decide (0 ≤ (w64 (i + 1)))) && (decide ((w64 (i + 1)) < ((t.set (i).toNat ((t.getD (i).toNat ([] : List Int)).set (j).toNat y1)).length : Int)))) then (bif ((decide (0 ≤ (w64 (j + 1)))) && (decide ((w64 (j + 1)) < (((t.set (i).toNat ((t.getD (i).toNat ([] : List Int)).set (j).toNat y1)).getD ((w64 (i + 1))).toNat ([] : List Int)).length : Int)))) then ((spec_l1Most.f (((t.set (i).toNat ((t.getD (i).toNat ([] : List Int)).set (j).toNat y1)).getD (i).toNat ([] : List Int)).getD (j).toNat 0) (w64 ((((t.set (i).toNat ((t.getD (i).toNat ([] : List Int)).set (j).toNat y1)).getD ((w64 (i + 1))).toNat ([] : List Int)).getD ((w64 (j + 1))).toNat 0) + 1))).bind fun y2 =>
                 bif ((decide (0 ≤ j)) && (decide (j < (((t.set (i).toNat ((t.getD (i).toNat ([] : List Int)).set (j).toNat y1)).getD (i).toNat ([] : List Int)).length : Int)))) then (spec_l3Table.l22 a b ((t.set (i).toNat ((t.getD (i).toNat ([] : List Int)).set (j).toNat y1)).set (i).toNat (((t.set (i).toNat ((t.getD (i).toNat ([] : List Int)).set (j).toNat y1)).getD (i).toNat ([] : List Int)).set (j).toNat y2)) i (w64 (j - 1))) else none) else none) else none) else none) else none) else none) else
           (spec_l3Table.l22 a b (t.set (i).toNat ((t.getD (i).toNat ([] : List Int)).set (j).toNat y1)) i (w64 (j - 1)))) else none) else none) else none) else none) else none) else none) else none) else none) else
  (spec_l3Table.l16 a b t (w64 (i - 1)))) :=
  (fixP_eq spec_l3Table.E spec_l3Table.T spec_l3Table.C spec_l3Table.K 22 spec_l3Table.D22 (a, b, t, i, j)).trans (by kernel_rfl)
theorem spec_l3Table.f_eq (a : List ByteArray) (b : List ByteArray) : spec_l3Table.f a b =
  (bif ((decide (0 ≤ (w64 ((a.length : Int) + 1)))) && (decide (((w64 ((a.length : Int) + 1))).toNat ≤ room 24))) then (spec_l3Table.l6 a b (List.replicate ((w64 ((a.length : Int) + 1))).toNat ([] : List Int)) ((List.replicate ((w64 ((a.length : Int) + 1))).toNat ([] : List Int)).length : Int) 0) else none) := by kernel_rfl
noncomputable def spec_l3Table.S : Abs.Sum := ⟨spec_l3Table.P, spec_l3Table.R, fun _ => Fn spec_l3Table.E spec_l3Table.T spec_l3Table.C spec_l3Table.P spec_l3Table.R spec_l3Table.X⟩
theorem spec_l3Table.meets : Meets Try.prog 164 spec_l3Table.S := meets_tab (S := spec_l3Table.U) tabOk_all (AllMeets.cons spec_l1Most.meets AllMeets.nil) (AllStill.cons (fun _ _ _ => rfl) AllStill.nil) follows (by kernel_rfl : Try.prog.funcs[164]? = some Try.f164) (by kernel_rfl) (by kernel_rfl) (by kernel_rfl)
noncomputable def spec_l3Pairs.C : Code := Try.f140.body.getD .skip
def spec_l3Pairs.P : Par := (.cons (.val (.list .str)) (.cons (.val (.list .str)) .nil))
noncomputable def spec_l3Pairs.U : SumTab := [(164, [], spec_l3Table.S)]
noncomputable def spec_l3Pairs.E : Env := mkEnv TY AR spec_l3Pairs.U
def spec_l3Pairs.D8 : CutD := ⟨[0, 1, 5, 6, 7, 8], (.cons (.val (.list .str)) (.cons (.val (.list .str)) (.cons (.own 8 (.list (.int .i64))) (.cons (.own 9 (.pair (.int .i64) (.one (.int .i64)))) (.cons (.val (.int .i64)) (.cons (.val (.int .i64)) .nil))))))⟩
def spec_l3Pairs.D14 : CutD := ⟨[0, 1, 5, 6, 7, 8, 9, 10, 11], (.cons (.val (.list .str)) (.cons (.val (.list .str)) (.cons (.own 8 (.list (.int .i64))) (.cons (.own 9 (.pair (.int .i64) (.one (.int .i64)))) (.cons (.val (.int .i64)) (.cons (.val (.int .i64)) (.cons (.val (.int .i64)) (.cons (.val (.int .i64)) (.cons (.val (.int .i64)) .nil)))))))))⟩
def spec_l3Pairs.D20 : CutD := ⟨[0, 1, 5, 6, 7, 8, 9, 10, 11, 12], (.cons (.val (.list .str)) (.cons (.val (.list .str)) (.cons (.own 8 (.list (.int .i64))) (.cons (.own 9 (.pair (.int .i64) (.one (.int .i64)))) (.cons (.val (.int .i64)) (.cons (.val (.int .i64)) (.cons (.val (.int .i64)) (.cons (.val (.int .i64)) (.cons (.val (.int .i64)) (.cons (.val (.int .i64)) .nil))))))))))⟩
/-! spec_l3Pairs -/
noncomputable def spec_l3Pairs.T : Tab := fun k => look k [(8, spec_l3Pairs.D8), (14, spec_l3Pairs.D14), (20, spec_l3Pairs.D20)]
def spec_l3Pairs.R : List (Nat × Ty) := [(9, .list (.pair (.int .i64) (.one (.int .i64))))]
def spec_l3Pairs.X : List ResultVar := [.tmp 4]
noncomputable def spec_l3Pairs.K := fin spec_l3Pairs.E ⟨spec_l3Pairs.P, spec_l3Pairs.R, fun _ _ => none⟩ spec_l3Pairs.X spec_l3Pairs.P.len 0
noncomputable def spec_l3Pairs.l8 (a : List ByteArray) (b : List ByteArray) (t : List (List Int)) (out : List (Int × Int)) (i : Int) (j : Int) : Option ((List (Int × Int))) := fixP spec_l3Pairs.E spec_l3Pairs.T spec_l3Pairs.C spec_l3Pairs.K 8 spec_l3Pairs.D8 (a, b, t, out, i, j)
noncomputable def spec_l3Pairs.l14 (a : List ByteArray) (b : List ByteArray) (t : List (List Int)) (out : List (Int × Int)) (i : Int) (j : Int) (x : Int) (y : Int) (p : Int) : Option ((List (Int × Int))) := fixP spec_l3Pairs.E spec_l3Pairs.T spec_l3Pairs.C spec_l3Pairs.K 14 spec_l3Pairs.D14 (a, b, t, out, i, j, x, y, p)
noncomputable def spec_l3Pairs.l20 (a : List ByteArray) (b : List ByteArray) (t : List (List Int)) (out : List (Int × Int)) (i : Int) (j : Int) (x : Int) (y : Int) (p : Int) (q : Int) : Option ((List (Int × Int))) := fixP spec_l3Pairs.E spec_l3Pairs.T spec_l3Pairs.C spec_l3Pairs.K 20 spec_l3Pairs.D20 (a, b, t, out, i, j, x, y, p, q)
noncomputable def spec_l3Pairs.f (a : List ByteArray) (b : List ByteArray) : Option ((List (Int × Int))) := Fn spec_l3Pairs.E spec_l3Pairs.T spec_l3Pairs.C spec_l3Pairs.P spec_l3Pairs.R spec_l3Pairs.X (a, b)
theorem spec_l3Pairs.l8_eq (a : List ByteArray) (b : List ByteArray) (t : List (List Int)) (out : List (Int × Int)) (i : Int) (j : Int) : spec_l3Pairs.l8 a b t out i j =
  (bif ((decide (0 ≤ i)) && (decide (i < (t.length : Int)))) then (bif ((decide (0 ≤ j)) && (decide (j < ((t.getD (i).toNat ([] : List Int)).length : Int)))) then (bif (decide (((t.getD (i).toNat ([] : List Int)).getD (j).toNat 0) > 0)) then (spec_l3Pairs.l14 a b t out i j (a.length : Int) (b.length : Int) (w64 ((a.length : Int) - 1))) else (some out)) else none) else none) :=
  (fixP_eq spec_l3Pairs.E spec_l3Pairs.T spec_l3Pairs.C spec_l3Pairs.K 8 spec_l3Pairs.D8 (a, b, t, out, i, j)).trans (by kernel_rfl)
theorem spec_l3Pairs.l14_eq (a : List ByteArray) (b : List ByteArray) (t : List (List Int)) (out : List (Int × Int)) (i : Int) (j : Int) (x : Int) (y : Int) (p : Int) : spec_l3Pairs.l14 a b t out i j x y p =
  (bif (decide (p ≥ i)) then (spec_l3Pairs.l20 a b t out i j x y p (w64 ((b.length : Int) - 1))) else
  (bif (decide ((out.length + [(x, y)].length) ≤ room 16)) then (spec_l3Pairs.l8 a b t (out ++ [(x, y)]) (w64 (x + 1)) (w64 (y + 1))) else none)) :=
  (fixP_eq spec_l3Pairs.E spec_l3Pairs.T spec_l3Pairs.C spec_l3Pairs.K 14 spec_l3Pairs.D14 (a, b, t, out, i, j, x, y, p)).trans (by kernel_rfl)
theorem spec_l3Pairs.l20_eq (a : List ByteArray) (b : List ByteArray) (t : List (List Int)) (out : List (Int × Int)) (i : Int) (j : Int) (x : Int) (y : Int) (p : Int) (q : Int) : spec_l3Pairs.l20 a b t out i j x y p q =
  (bif (decide (q ≥ j)) then (bif ((decide (0 ≤ p)) && (decide (p < (a.length : Int)))) then (bif ((decide (0 ≤ q)) && (decide (q < (b.length : Int)))) then (bif ((a.getD (p).toNat em).toList == (b.getD (q).toNat em).toList) then (bif ((decide (0 ≤ (w64 (p + 1)))) && (decide ((w64 (p + 1)) < (t.length : Int)))) then (bif ((decide (0 ≤ (w64 (q + 1)))) && (decide ((w64 (q + 1)) < ((t.getD ((w64 (p + 1))).toNat ([] : List Int)).length : Int)))) then (bif ((decide (0 ≤ i)) && (decide (i < (t.length : Int)))) then (bif ((decide (0 ≤ j)) && (decide (j < ((t.getD (i).toNat ([] : List Int)).length : Int)))) then (bif (decide ((w64 (((t.getD ((w64 (p + 1))).toNat ([] : List Int)).getD ((w64 (q + 1))).toNat 0) + 1)) = ((t.getD (i).toNat ([] : List Int)).getD (j).toNat 0))) then (spec_l3Pairs.l20 a b t out i j p q p (w64 (q - 1))) else
          (spec_l3Pairs.l20 a b t out i j x y p (w64 (q - 1)))) else none) else none) else none) else none) else
     (spec_l3Pairs.l20 a b t out i j x y p (w64 (q - 1)))) else none) else none) else
  (spec_l3Pairs.l14 a b t out i j x y (w64 (p - 1)))) :=
  (fixP_eq spec_l3Pairs.E spec_l3Pairs.T spec_l3Pairs.C spec_l3Pairs.K 20 spec_l3Pairs.D20 (a, b, t, out, i, j, x, y, p, q)).trans (by kernel_rfl)
theorem spec_l3Pairs.f_eq (a : List ByteArray) (b : List ByteArray) : spec_l3Pairs.f a b =
  ((spec_l3Table.f a b).bind fun y1 =>
  spec_l3Pairs.l8 a b y1 ([] : List (Int × Int)) 0 0) := by kernel_rfl
noncomputable def spec_l3Pairs.S : Abs.Sum := ⟨spec_l3Pairs.P, spec_l3Pairs.R, fun _ => Fn spec_l3Pairs.E spec_l3Pairs.T spec_l3Pairs.C spec_l3Pairs.P spec_l3Pairs.R spec_l3Pairs.X⟩
theorem spec_l3Pairs.meets : Meets Try.prog 140 spec_l3Pairs.S := meets_tab (S := spec_l3Pairs.U) tabOk_all (AllMeets.cons spec_l3Table.meets AllMeets.nil) (AllStill.cons (fun _ _ _ => rfl) AllStill.nil) follows (by kernel_rfl : Try.prog.funcs[140]? = some Try.f140) (by kernel_rfl) (by kernel_rfl) (by kernel_rfl)
noncomputable def spec_l2Join.C : Code := Try.f139.body.getD .skip
def spec_l2Join.P : Par := (.cons (.val (.list .str)) (.cons (.val (.list .str)) (.cons (.own 5 (.pair (.int .i64) (.one (.int .i64)))) .nil)))
noncomputable def spec_l2Join.U : SumTab := [(106, [], spec_l1OwnT.S)]
noncomputable def spec_l2Join.E : Env := mkEnv TY AR spec_l2Join.U
def spec_l2Join.D8 : CutD := ⟨[1, 7, 8, 9, 19, 20, 21], (.cons (.val (.list .str)) (.cons (.own 9 (.pair (.int .i64) (.pair (.int .i64) (.one (.list .str))))) (.cons (.val (.int .i64)) (.cons (.val (.int .i64)) (.cons (.own 9 (.pair (.int .i64) (.one (.int .i64)))) (.cons (.val (.int .i64)) (.cons (.val (.int .i64)) .nil)))))))⟩
def spec_l2Join.D17 : CutD := ⟨[1, 7, 11, 19, 20, 21], (.cons (.val (.list .str)) (.cons (.own 9 (.pair (.int .i64) (.pair (.int .i64) (.one (.list .str))))) (.cons (.box 9 (.pair (.int .i64) (.one (.int .i64)))) (.cons (.own 9 (.pair (.int .i64) (.one (.int .i64)))) (.cons (.val (.int .i64)) (.cons (.val (.int .i64)) .nil))))))⟩
/-! spec_l2Join -/
noncomputable def spec_l2Join.T : Tab := fun k => look k [(8, spec_l2Join.D8), (17, spec_l2Join.D17)]
def spec_l2Join.R : List (Nat × Ty) := [(9, .list (.pair (.int .i64) (.pair (.int .i64) (.one (.list .str)))))]
def spec_l2Join.X : List ResultVar := [.tmp 6]
noncomputable def spec_l2Join.K := fin spec_l2Join.E ⟨spec_l2Join.P, spec_l2Join.R, fun _ _ => none⟩ spec_l2Join.X spec_l2Join.P.len 0
noncomputable def spec_l2Join.l8 (last : List ByteArray) (out : List (Int × Int × List ByteArray)) (i : Int) (j : Int) (t19 : List (Int × Int)) (t20 : Int) (t21 : Int) : Option ((List (Int × Int × List ByteArray))) := fixP spec_l2Join.E spec_l2Join.T spec_l2Join.C spec_l2Join.K 8 spec_l2Join.D8 (last, out, i, j, t19, t20, t21)
noncomputable def spec_l2Join.l17 (last : List ByteArray) (out : List (Int × Int × List ByteArray)) (s : Int × Int) (t19 : List (Int × Int)) (t20 : Int) (t21 : Int) : Option ((List (Int × Int × List ByteArray))) := fixP spec_l2Join.E spec_l2Join.T spec_l2Join.C spec_l2Join.K 17 spec_l2Join.D17 (last, out, s, t19, t20, t21)
noncomputable def spec_l2Join.f (first : List ByteArray) (last : List ByteArray) (stay : List (Int × Int)) : Option ((List (Int × Int × List ByteArray))) := Fn spec_l2Join.E spec_l2Join.T spec_l2Join.C spec_l2Join.P spec_l2Join.R spec_l2Join.X (first, last, stay)
theorem spec_l2Join.l8_eq (last : List ByteArray) (out : List (Int × Int × List ByteArray)) (i : Int) (j : Int) (t19 : List (Int × Int)) (t20 : Int) (t21 : Int) : spec_l2Join.l8 last out i j t19 t20 t21 =
  (bif (decide (t21 < t20)) then (bif ((decide (0 ≤ t21)) && (decide (t21 < (t19.length : Int)))) then (bif (decide ((t19.getD (t21).toNat (0, 0)).1 > i)) then (bif ((decide (0 ≤ j)) && ((decide (j ≤ (t19.getD (t21).toNat (0, 0)).2)) && (decide ((t19.getD (t21).toNat (0, 0)).2 ≤ (last.length : Int))))) then ((spec_l1OwnT.f ((last.take ((t19.getD (t21).toNat (0, 0)).2).toNat).drop (j).toNat)).bind fun y1 =>
      bif (decide ((out.length + [(i, (w64 ((t19.getD (t21).toNat (0, 0)).1 - i)), y1)].length) ≤ room 40)) then (spec_l2Join.l17 last (out ++ [(i, (w64 ((t19.getD (t21).toNat (0, 0)).1 - i)), y1)]) (t19.getD (t21).toNat (0, 0)) t19 t20 t21) else none) else none) else
    (bif (decide ((t19.getD (t21).toNat (0, 0)).2 > j)) then (bif ((decide (0 ≤ j)) && ((decide (j ≤ (t19.getD (t21).toNat (0, 0)).2)) && (decide ((t19.getD (t21).toNat (0, 0)).2 ≤ (last.length : Int))))) then ((spec_l1OwnT.f ((last.take ((t19.getD (t21).toNat (0, 0)).2).toNat).drop (j).toNat)).bind fun y1 =>
       bif (decide ((out.length + [(i, (w64 ((t19.getD (t21).toNat (0, 0)).1 - i)), y1)].length) ≤ room 40)) then (spec_l2Join.l17 last (out ++ [(i, (w64 ((t19.getD (t21).toNat (0, 0)).1 - i)), y1)]) (t19.getD (t21).toNat (0, 0)) t19 t20 t21) else none) else none) else
     (spec_l2Join.l17 last out (t19.getD (t21).toNat (0, 0)) t19 t20 t21))) else none) else (some out)) :=
  (fixP_eq spec_l2Join.E spec_l2Join.T spec_l2Join.C spec_l2Join.K 8 spec_l2Join.D8 (last, out, i, j, t19, t20, t21)).trans (by kernel_rfl)
theorem spec_l2Join.l17_eq (last : List ByteArray) (out : List (Int × Int × List ByteArray)) (s : Int × Int) (t19 : List (Int × Int)) (t20 : Int) (t21 : Int) : spec_l2Join.l17 last out s t19 t20 t21 =
  (spec_l2Join.l8 last out (w64 (s.1 + 1)) (w64 (s.2 + 1)) t19 t20 (w64 (t21 + 1))) :=
  (fixP_eq spec_l2Join.E spec_l2Join.T spec_l2Join.C spec_l2Join.K 17 spec_l2Join.D17 (last, out, s, t19, t20, t21)).trans (by kernel_rfl)
theorem spec_l2Join.f_eq (first : List ByteArray) (last : List ByteArray) (stay : List (Int × Int)) : spec_l2Join.f first last stay =
  (bif (decide ((stay.length + [((first.length : Int), (last.length : Int))].length) ≤ room 16)) then (spec_l2Join.l8 last ([] : List (Int × Int × List ByteArray)) 0 0 (stay ++ [((first.length : Int), (last.length : Int))]) ((stay ++ [((first.length : Int), (last.length : Int))]).length : Int) 0) else none) := by kernel_rfl
noncomputable def spec_l2Join.S : Abs.Sum := ⟨spec_l2Join.P, spec_l2Join.R, fun _ => Fn spec_l2Join.E spec_l2Join.T spec_l2Join.C spec_l2Join.P spec_l2Join.R spec_l2Join.X⟩
theorem spec_l2Join.meets : Meets Try.prog 139 spec_l2Join.S := meets_tab (S := spec_l2Join.U) tabOk_all (AllMeets.cons spec_l1OwnT.meets AllMeets.nil) (AllStill.cons (fun _ _ _ => rfl) AllStill.nil) follows (by kernel_rfl : Try.prog.funcs[139]? = some Try.f139) (by kernel_rfl) (by kernel_rfl) (by kernel_rfl)
noncomputable def spec_l3Diff.C : Code := Try.f82.body.getD .skip
def spec_l3Diff.P : Par := (.cons (.val (.list .str)) (.cons (.val (.list .str)) .nil))
noncomputable def spec_l3Diff.U : SumTab := [(140, [], spec_l3Pairs.S), (139, [], spec_l2Join.S)]
noncomputable def spec_l3Diff.E : Env := mkEnv TY AR spec_l3Diff.U
/-! spec_l3Diff -/
noncomputable def spec_l3Diff.T : Tab := fun k => look k []
def spec_l3Diff.R : List (Nat × Ty) := [(9, .list (.pair (.int .i64) (.pair (.int .i64) (.one (.list .str)))))]
def spec_l3Diff.X : List ResultVar := [.tmp 4]
noncomputable def spec_l3Diff.K := fin spec_l3Diff.E ⟨spec_l3Diff.P, spec_l3Diff.R, fun _ _ => none⟩ spec_l3Diff.X spec_l3Diff.P.len 0
noncomputable def spec_l3Diff.f (a : List ByteArray) (b : List ByteArray) : Option ((List (Int × Int × List ByteArray))) := Fn spec_l3Diff.E spec_l3Diff.T spec_l3Diff.C spec_l3Diff.P spec_l3Diff.R spec_l3Diff.X (a, b)
theorem spec_l3Diff.f_eq (a : List ByteArray) (b : List ByteArray) : spec_l3Diff.f a b =
  ((spec_l3Pairs.f a b).bind fun y1 =>
  (spec_l2Join.f a b y1).bind fun y2 =>
  some y2) := by kernel_rfl
noncomputable def spec_l3Diff.S : Abs.Sum := ⟨spec_l3Diff.P, spec_l3Diff.R, fun _ => Fn spec_l3Diff.E spec_l3Diff.T spec_l3Diff.C spec_l3Diff.P spec_l3Diff.R spec_l3Diff.X⟩
theorem spec_l3Diff.meets : Meets Try.prog 82 spec_l3Diff.S := meets_tab (S := spec_l3Diff.U) tabOk_all (AllMeets.cons spec_l3Pairs.meets (AllMeets.cons spec_l2Join.meets AllMeets.nil)) (AllStill.cons (fun _ _ _ => rfl) (AllStill.cons (fun _ _ _ => rfl) AllStill.nil)) follows (by kernel_rfl : Try.prog.funcs[82]? = some Try.f82) (by kernel_rfl) (by kernel_rfl) (by kernel_rfl)
noncomputable def spec_l2Hunks.C : Code := Try.f98.body.getD .skip
def spec_l2Hunks.P : Par := (.cons (.val (.int .i64)) (.cons (.val (.list (.pair (.int .i64) (.pair (.int .i64) (.one (.list .str)))))) .nil))
noncomputable def spec_l2Hunks.U : SumTab := [(76, [], spec_l1Line.S), (94, [], spec_l1In.S)]
noncomputable def spec_l2Hunks.E : Env := mkEnv TY AR spec_l2Hunks.U
def spec_l2Hunks.D4 : CutD := ⟨[0, 1, 9, 10, 11], (.cons (.val (.int .i64)) (.cons (.val (.list (.pair (.int .i64) (.pair (.int .i64) (.one (.list .str)))))) (.cons (.val (.list (.pair (.int .i64) (.pair (.int .i64) (.one (.list .str)))))) (.cons (.val (.int .i64)) (.cons (.val (.int .i64)) .nil)))))⟩
def spec_l2Hunks.D13 : CutD := ⟨[0, 1, 6, 9, 10, 11], (.cons (.val (.int .i64)) (.cons (.val (.list (.pair (.int .i64) (.pair (.int .i64) (.one (.list .str)))))) (.cons (.box 0 (.pair (.int .i64) (.pair (.int .i64) (.one (.list .str))))) (.cons (.val (.list (.pair (.int .i64) (.pair (.int .i64) (.one (.list .str)))))) (.cons (.val (.int .i64)) (.cons (.val (.int .i64)) .nil))))))⟩
def spec_l2Hunks.D14 : CutD := ⟨[0, 1, 9, 10, 11, 77, 78, 79], (.cons (.val (.int .i64)) (.cons (.val (.list (.pair (.int .i64) (.pair (.int .i64) (.one (.list .str)))))) (.cons (.val (.list (.pair (.int .i64) (.pair (.int .i64) (.one (.list .str)))))) (.cons (.val (.int .i64)) (.cons (.val (.int .i64)) (.cons (.val (.list .str)) (.cons (.val (.int .i64)) (.cons (.val (.int .i64)) .nil))))))))⟩
/-! spec_l2Hunks -/
noncomputable def spec_l2Hunks.T : Tab := fun k => look k [(4, spec_l2Hunks.D4), (13, spec_l2Hunks.D13), (14, spec_l2Hunks.D14)]
def spec_l2Hunks.R : List (Nat × Ty) := [(0, .bool)]
def spec_l2Hunks.X : List ResultVar := [.tmp 4]
noncomputable def spec_l2Hunks.K := fin spec_l2Hunks.E ⟨spec_l2Hunks.P, spec_l2Hunks.R, fun _ _ => none⟩ spec_l2Hunks.X spec_l2Hunks.P.len 0
noncomputable def spec_l2Hunks.l4 (many : Int) (h : List (Int × Int × List ByteArray)) (t9 : List (Int × Int × List ByteArray)) (t10 : Int) (t11 : Int) : Option (Bool) := fixP spec_l2Hunks.E spec_l2Hunks.T spec_l2Hunks.C spec_l2Hunks.K 4 spec_l2Hunks.D4 (many, h, t9, t10, t11)
noncomputable def spec_l2Hunks.l13 (many : Int) (h : List (Int × Int × List ByteArray)) (x : Int × Int × List ByteArray) (t9 : List (Int × Int × List ByteArray)) (t10 : Int) (t11 : Int) : Option (Bool) := fixP spec_l2Hunks.E spec_l2Hunks.T spec_l2Hunks.C spec_l2Hunks.K 13 spec_l2Hunks.D13 (many, h, x, t9, t10, t11)
noncomputable def spec_l2Hunks.l14 (many : Int) (h : List (Int × Int × List ByteArray)) (t9 : List (Int × Int × List ByteArray)) (t10 : Int) (t11 : Int) (t77 : List ByteArray) (t78 : Int) (t79 : Int) : Option (Bool) := fixP spec_l2Hunks.E spec_l2Hunks.T spec_l2Hunks.C spec_l2Hunks.K 14 spec_l2Hunks.D14 (many, h, t9, t10, t11, t77, t78, t79)
noncomputable def spec_l2Hunks.f (many : Int) (h : List (Int × Int × List ByteArray)) : Option (Bool) := Fn spec_l2Hunks.E spec_l2Hunks.T spec_l2Hunks.C spec_l2Hunks.P spec_l2Hunks.R spec_l2Hunks.X (many, h)
theorem spec_l2Hunks.l4_eq (many : Int) (h : List (Int × Int × List ByteArray)) (t9 : List (Int × Int × List ByteArray)) (t10 : Int) (t11 : Int) : spec_l2Hunks.l4 many h t9 t10 t11 =
  (bif (decide (t11 < t10)) then (bif ((decide (0 ≤ t11)) && (decide (t11 < (t9.length : Int)))) then (bif (decide ((t9.getD (t11).toNat (0, 0, ([] : List ByteArray))).1 < 0)) then (some false) else
    (bif (decide ((t9.getD (t11).toNat (0, 0, ([] : List ByteArray))).2.1 < 0)) then (some false) else
     (bif (decide ((t9.getD (t11).toNat (0, 0, ([] : List ByteArray))).2.1 > many)) then (some false) else
      (bif (decide ((t9.getD (t11).toNat (0, 0, ([] : List ByteArray))).1 > (w64 (many - (t9.getD (t11).toNat (0, 0, ([] : List ByteArray))).2.1)))) then (some false) else
       (bif (decide ((w64 ((t9.getD (t11).toNat (0, 0, ([] : List ByteArray))).2.1 + ((t9.getD (t11).toNat (0, 0, ([] : List ByteArray))).2.2.length : Int))) = 0)) then (some false) else
        (bif (decide (((t9.getD (t11).toNat (0, 0, ([] : List ByteArray))).2.2.length : Int) > 40)) then (some false) else
         (bif (decide (t11 > 0)) then (bif ((decide (0 ≤ (w64 (t11 - 1)))) && (decide ((w64 (t11 - 1)) < (h.length : Int)))) then (bif ((decide (0 ≤ (w64 (t11 - 1)))) && (decide ((w64 (t11 - 1)) < (h.length : Int)))) then (bif (decide ((t9.getD (t11).toNat (0, 0, ([] : List ByteArray))).1 ≤ (w64 ((h.getD ((w64 (t11 - 1))).toNat (0, 0, ([] : List ByteArray))).1 + (h.getD ((w64 (t11 - 1))).toNat (0, 0, ([] : List ByteArray))).2.1)))) then (some false) else
             (spec_l2Hunks.l13 many h (t9.getD (t11).toNat (0, 0, ([] : List ByteArray))) t9 t10 t11)) else none) else none) else
          (spec_l2Hunks.l13 many h (t9.getD (t11).toNat (0, 0, ([] : List ByteArray))) t9 t10 t11)))))))) else none) else
  (bif (decide ((h.length : Int) ≤ 20)) then ((spec_l1In.f many 0 40).bind fun y1 =>
    some y1) else (some false))) :=
  (fixP_eq spec_l2Hunks.E spec_l2Hunks.T spec_l2Hunks.C spec_l2Hunks.K 4 spec_l2Hunks.D4 (many, h, t9, t10, t11)).trans (by kernel_rfl)
theorem spec_l2Hunks.l13_eq (many : Int) (h : List (Int × Int × List ByteArray)) (x : Int × Int × List ByteArray) (t9 : List (Int × Int × List ByteArray)) (t10 : Int) (t11 : Int) : spec_l2Hunks.l13 many h x t9 t10 t11 =
  (spec_l2Hunks.l14 many h t9 t10 t11 x.2.2 (x.2.2.length : Int) 0) :=
  (fixP_eq spec_l2Hunks.E spec_l2Hunks.T spec_l2Hunks.C spec_l2Hunks.K 13 spec_l2Hunks.D13 (many, h, x, t9, t10, t11)).trans (by kernel_rfl)
theorem spec_l2Hunks.l14_eq (many : Int) (h : List (Int × Int × List ByteArray)) (t9 : List (Int × Int × List ByteArray)) (t10 : Int) (t11 : Int) (t77 : List ByteArray) (t78 : Int) (t79 : Int) : spec_l2Hunks.l14 many h t9 t10 t11 t77 t78 t79 =
  (bif (decide (t79 < t78)) then (bif ((decide (0 ≤ t79)) && (decide (t79 < (t77.length : Int)))) then ((spec_l1Line.f (t77.getD (t79).toNat em)).bind fun y1 =>
    bif (!y1) then (some false) else
    (spec_l2Hunks.l14 many h t9 t10 t11 t77 t78 (w64 (t79 + 1)))) else none) else
  (spec_l2Hunks.l4 many h t9 t10 (w64 (t11 + 1)))) :=
  (fixP_eq spec_l2Hunks.E spec_l2Hunks.T spec_l2Hunks.C spec_l2Hunks.K 14 spec_l2Hunks.D14 (many, h, t9, t10, t11, t77, t78, t79)).trans (by kernel_rfl)
theorem spec_l2Hunks.f_eq (many : Int) (h : List (Int × Int × List ByteArray)) : spec_l2Hunks.f many h =
  (spec_l2Hunks.l4 many h h (h.length : Int) 0) := by kernel_rfl
noncomputable def spec_l2Hunks.S : Abs.Sum := ⟨spec_l2Hunks.P, spec_l2Hunks.R, fun _ => Fn spec_l2Hunks.E spec_l2Hunks.T spec_l2Hunks.C spec_l2Hunks.P spec_l2Hunks.R spec_l2Hunks.X⟩
theorem spec_l2Hunks.meets : Meets Try.prog 98 spec_l2Hunks.S := meets_tab (S := spec_l2Hunks.U) tabOk_all (AllMeets.cons spec_l1Line.meets (AllMeets.cons spec_l1In.meets AllMeets.nil)) (AllStill.cons (fun _ _ _ => rfl) (AllStill.cons (fun _ _ _ => rfl) AllStill.nil)) follows (by kernel_rfl : Try.prog.funcs[98]? = some Try.f98) (by kernel_rfl) (by kernel_rfl) (by kernel_rfl)
noncomputable def spec_DiffHunks.C : Code := Try.f36.body.getD .skip
def spec_DiffHunks.P : Par := (.cons (.val (.list .str)) (.cons (.val (.list .str)) .nil))
noncomputable def spec_DiffHunks.U : SumTab := [(75, [], spec_l1Good.S), (82, [], spec_l3Diff.S), (98, [], spec_l2Hunks.S)]
noncomputable def spec_DiffHunks.E : Env := mkEnv TY AR spec_DiffHunks.U
def spec_DiffHunks.D7 : CutD := ⟨[0, 1], (.cons (.val (.list .str)) (.cons (.val (.list .str)) .nil))⟩
/-! spec_DiffHunks -/
noncomputable def spec_DiffHunks.T : Tab := fun k => look k [(7, spec_DiffHunks.D7)]
def spec_DiffHunks.R : List (Nat × Ty) := [(9, .list (.pair (.int .i64) (.pair (.int .i64) (.one (.list .str))))), (0, .bool)]
def spec_DiffHunks.X : List ResultVar := [.tmp 4, .tmp 5]
noncomputable def spec_DiffHunks.K := fin spec_DiffHunks.E ⟨spec_DiffHunks.P, spec_DiffHunks.R, fun _ _ => none⟩ spec_DiffHunks.X spec_DiffHunks.P.len 0
noncomputable def spec_DiffHunks.l7 (a : List ByteArray) (b : List ByteArray) : Option ((List (Int × Int × List ByteArray)) × Bool) := fixP spec_DiffHunks.E spec_DiffHunks.T spec_DiffHunks.C spec_DiffHunks.K 7 spec_DiffHunks.D7 (a, b)
noncomputable def spec_DiffHunks.f (a : List ByteArray) (b : List ByteArray) : Option ((List (Int × Int × List ByteArray)) × Bool) := Fn spec_DiffHunks.E spec_DiffHunks.T spec_DiffHunks.C spec_DiffHunks.P spec_DiffHunks.R spec_DiffHunks.X (a, b)
theorem spec_DiffHunks.l7_eq (a : List ByteArray) (b : List ByteArray) : spec_DiffHunks.l7 a b =
  ((spec_l3Diff.f a b).bind fun y1 =>
  some (y1, true)) :=
  (fixP_eq spec_DiffHunks.E spec_DiffHunks.T spec_DiffHunks.C spec_DiffHunks.K 7 spec_DiffHunks.D7 (a, b)).trans (by kernel_rfl)
theorem spec_DiffHunks.f_eq (a : List ByteArray) (b : List ByteArray) : spec_DiffHunks.f a b =
  ((spec_l1Good.f a).bind fun y1 =>
  bif (!y1) then (some (([] : List (Int × Int × List ByteArray)), false)) else
  ((spec_l1Good.f b).bind fun y2 =>
   bif (!y2) then (some (([] : List (Int × Int × List ByteArray)), false)) else
   ((spec_l3Diff.f a b).bind fun y3 =>
    (spec_l2Hunks.f (a.length : Int) y3).bind fun y4 =>
    bif (!y4) then (some (([] : List (Int × Int × List ByteArray)), false)) else
    (spec_DiffHunks.l7 a b)))) := by kernel_rfl
noncomputable def spec_DiffHunks.S : Abs.Sum := ⟨spec_DiffHunks.P, spec_DiffHunks.R, fun _ => Fn spec_DiffHunks.E spec_DiffHunks.T spec_DiffHunks.C spec_DiffHunks.P spec_DiffHunks.R spec_DiffHunks.X⟩
theorem spec_DiffHunks.meets : Meets Try.prog 36 spec_DiffHunks.S := meets_tab (S := spec_DiffHunks.U) tabOk_all (AllMeets.cons spec_l1Good.meets (AllMeets.cons spec_l3Diff.meets (AllMeets.cons spec_l2Hunks.meets AllMeets.nil))) (AllStill.cons (fun _ _ _ => rfl) (AllStill.cons (fun _ _ _ => rfl) (AllStill.cons (fun _ _ _ => rfl) AllStill.nil))) follows (by kernel_rfl : Try.prog.funcs[36]? = some Try.f36) (by kernel_rfl) (by kernel_rfl) (by kernel_rfl)
noncomputable def spec_SeriesOf.C : Code := Try.f49.body.getD .skip
def spec_SeriesOf.P : Par := (.cons (.val (.list (.list .str))) .nil)
noncomputable def spec_SeriesOf.U : SumTab := [(105, [], spec_l12Good.S), (106, [], spec_l1OwnT.S), (36, [], spec_DiffHunks.S)]
noncomputable def spec_SeriesOf.E : Env := mkEnv TY AR spec_SeriesOf.U
def spec_SeriesOf.D10 : CutD := ⟨[0, 2, 4, 5], (.cons (.val (.list (.list .str))) (.cons (.box 9 (.pair (.list .str) (.one (.list (.list (.pair (.int .i64) (.pair (.int .i64) (.one (.list .str))))))))) (.cons (.box 9 (.pair (.list .str) (.one (.list (.list (.pair (.int .i64) (.pair (.int .i64) (.one (.list .str))))))))) (.cons (.val (.int .i64)) .nil))))⟩
/-! spec_SeriesOf -/
noncomputable def spec_SeriesOf.T : Tab := fun k => look k [(10, spec_SeriesOf.D10)]
def spec_SeriesOf.R : List (Nat × Ty) := [(9, .pair (.list .str) (.one (.list (.list (.pair (.int .i64) (.pair (.int .i64) (.one (.list .str)))))))), (0, .bool)]
def spec_SeriesOf.X : List ResultVar := [.cell 2 68, .tmp 3]
noncomputable def spec_SeriesOf.K := fin spec_SeriesOf.E ⟨spec_SeriesOf.P, spec_SeriesOf.R, fun _ _ => none⟩ spec_SeriesOf.X spec_SeriesOf.P.len 0
noncomputable def spec_SeriesOf.l10 (v : List (List ByteArray)) (t2 : (List ByteArray) × List (List (Int × Int × List ByteArray))) (out : (List ByteArray) × List (List (Int × Int × List ByteArray))) (n : Int) : Option (((List ByteArray) × List (List (Int × Int × List ByteArray))) × Bool) := fixP spec_SeriesOf.E spec_SeriesOf.T spec_SeriesOf.C spec_SeriesOf.K 10 spec_SeriesOf.D10 (v, t2, out, n)
noncomputable def spec_SeriesOf.f (v : List (List ByteArray)) : Option (((List ByteArray) × List (List (Int × Int × List ByteArray))) × Bool) := Fn spec_SeriesOf.E spec_SeriesOf.T spec_SeriesOf.C spec_SeriesOf.P spec_SeriesOf.R spec_SeriesOf.X v
theorem spec_SeriesOf.l10_eq (v : List (List ByteArray)) (t2 : (List ByteArray) × List (List (Int × Int × List ByteArray))) (out : (List ByteArray) × List (List (Int × Int × List ByteArray))) (n : Int) : spec_SeriesOf.l10 v t2 out n =
  (bif (decide (n < (v.length : Int))) then (bif ((decide (0 ≤ (w64 (n - 1)))) && (decide ((w64 (n - 1)) < (v.length : Int)))) then (bif ((decide (0 ≤ n)) && (decide (n < (v.length : Int)))) then ((spec_DiffHunks.f (v.getD ((w64 (n - 1))).toNat ([] : List ByteArray)) (v.getD (n).toNat ([] : List ByteArray))).bind fun y1 =>
     bif (!y1.2) then (some ((([] : List ByteArray), ([] : List (List (Int × Int × List ByteArray)))), false)) else
     (bif (decide ((out.2.length + [y1.1].length) ≤ room 24)) then (spec_SeriesOf.l10 v (t2.1, t2.2) (out.1, (out.2 ++ [y1.1])) (w64 (n + 1))) else none)) else none) else none) else (some ((out.1, out.2), true))) :=
  (fixP_eq spec_SeriesOf.E spec_SeriesOf.T spec_SeriesOf.C spec_SeriesOf.K 10 spec_SeriesOf.D10 (v, t2, out, n)).trans (by kernel_rfl)
theorem spec_SeriesOf.f_eq (v : List (List ByteArray)) : spec_SeriesOf.f v =
  ((spec_l12Good.f v).bind fun y1 =>
  bif (!y1) then (some ((([] : List ByteArray), ([] : List (List (Int × Int × List ByteArray)))), false)) else
  (bif (decide (0 < (v.length : Int))) then ((spec_l1OwnT.f (v.getD 0 ([] : List ByteArray))).bind fun y2 =>
    spec_SeriesOf.l10 v (([] : List ByteArray), ([] : List (List (Int × Int × List ByteArray)))) (y2, ([] : List (List (Int × Int × List ByteArray)))) 1) else none)) := by kernel_rfl
noncomputable def spec_SeriesOf.S : Abs.Sum := ⟨spec_SeriesOf.P, spec_SeriesOf.R, fun _ => Fn spec_SeriesOf.E spec_SeriesOf.T spec_SeriesOf.C spec_SeriesOf.P spec_SeriesOf.R spec_SeriesOf.X⟩
theorem spec_SeriesOf.meets : Meets Try.prog 49 spec_SeriesOf.S := meets_tab (S := spec_SeriesOf.U) tabOk_all (AllMeets.cons spec_l12Good.meets (AllMeets.cons spec_l1OwnT.meets (AllMeets.cons spec_DiffHunks.meets AllMeets.nil))) (AllStill.cons (fun _ _ _ => rfl) (AllStill.cons (fun _ _ _ => rfl) (AllStill.cons (fun _ _ _ => rfl) AllStill.nil))) follows (by kernel_rfl : Try.prog.funcs[49]? = some Try.f49) (by kernel_rfl) (by kernel_rfl) (by kernel_rfl)
noncomputable def impl_in.C : Code := Try.f104.body.getD .skip
def impl_in.P : Par := (.cons (.val (.int .i64)) (.cons (.val (.int .i64)) (.cons (.val (.int .i64)) .nil)))
noncomputable def impl_in.U : SumTab := []
noncomputable def impl_in.E : Env := mkEnv TY AR impl_in.U
/-! impl_in -/
noncomputable def impl_in.T : Tab := fun k => look k []
def impl_in.R : List (Nat × Ty) := [(0, .bool)]
def impl_in.X : List ResultVar := [.tmp 6]
noncomputable def impl_in.K := fin impl_in.E ⟨impl_in.P, impl_in.R, fun _ _ => none⟩ impl_in.X impl_in.P.len 0
noncomputable def impl_in.f (n : Int) (low : Int) (high : Int) : Option (Bool) := Fn impl_in.E impl_in.T impl_in.C impl_in.P impl_in.R impl_in.X (n, low, high)
theorem impl_in.f_eq (n : Int) (low : Int) (high : Int) : impl_in.f n low high =
  (bif (decide (n ≥ low)) then (some (decide (n ≤ high))) else (some false)) := by kernel_rfl
noncomputable def impl_in.S : Abs.Sum := ⟨impl_in.P, impl_in.R, fun _ => Fn impl_in.E impl_in.T impl_in.C impl_in.P impl_in.R impl_in.X⟩
theorem impl_in.meets : Meets Try.prog 104 impl_in.S := meets_tab (S := impl_in.U) tabOk_all AllMeets.nil AllStill.nil follows (by kernel_rfl : Try.prog.funcs[104]? = some Try.f104) (by kernel_rfl) (by kernel_rfl) (by kernel_rfl)
noncomputable def impl_isLine.C : Code := Try.f137.body.getD .skip
def impl_isLine.P : Par := (.cons (.val .str) .nil)
noncomputable def impl_isLine.U : SumTab := [(104, [], impl_in.S), (170, [], strings_Contains.S)]
noncomputable def impl_isLine.E : Env := mkEnv TY AR impl_isLine.U
/-! impl_isLine -/
noncomputable def impl_isLine.T : Tab := fun k => look k []
def impl_isLine.R : List (Nat × Ty) := [(0, .bool)]
def impl_isLine.X : List ResultVar := [.tmp 2]
noncomputable def impl_isLine.K := fin impl_isLine.E ⟨impl_isLine.P, impl_isLine.R, fun _ _ => none⟩ impl_isLine.X impl_isLine.P.len 0
noncomputable def impl_isLine.f (line : ByteArray) : Option (Bool) := Fn impl_isLine.E impl_isLine.T impl_isLine.C impl_isLine.P impl_isLine.R impl_isLine.X line
theorem impl_isLine.f_eq (line : ByteArray) : impl_isLine.f line =
  ((impl_in.f (line.size : Int) 1 30).bind fun y1 =>
  bif y1 then (bif ((decide (0 ≤ (w64 ((line.size : Int) - 1)))) && (decide ((w64 ((line.size : Int) - 1)) ≤ (line.size : Int)))) then ((strings_Contains.f (line.extract 0 ((w64 ((line.size : Int) - 1))).toNat) (⟨#[10]⟩ : ByteArray)).bind fun y2 =>
    some (!y2)) else none) else (some false)) := by kernel_rfl
noncomputable def impl_isLine.S : Abs.Sum := ⟨impl_isLine.P, impl_isLine.R, fun _ => Fn impl_isLine.E impl_isLine.T impl_isLine.C impl_isLine.P impl_isLine.R impl_isLine.X⟩
theorem impl_isLine.meets : Meets Try.prog 137 impl_isLine.S := meets_tab (S := impl_isLine.U) tabOk_all (AllMeets.cons impl_in.meets (AllMeets.cons strings_Contains.meets AllMeets.nil)) (AllStill.cons (fun _ _ _ => rfl) (AllStill.cons (fun _ _ _ => rfl) AllStill.nil)) follows (by kernel_rfl : Try.prog.funcs[137]? = some Try.f137) (by kernel_rfl) (by kernel_rfl) (by kernel_rfl)
noncomputable def impl_areLines_1.C : Code := Try.f136.body.getD .skip
def impl_areLines_1.P : Par := (.cons (.val .str) .nil)
noncomputable def impl_areLines_1.U : SumTab := [(137, [], impl_isLine.S)]
noncomputable def impl_areLines_1.E : Env := mkEnv TY AR impl_areLines_1.U
/-! impl_areLines_1 -/
noncomputable def impl_areLines_1.T : Tab := fun k => look k []
def impl_areLines_1.R : List (Nat × Ty) := [(0, .bool)]
def impl_areLines_1.X : List ResultVar := [.tmp 2]
noncomputable def impl_areLines_1.K := fin impl_areLines_1.E ⟨impl_areLines_1.P, impl_areLines_1.R, fun _ _ => none⟩ impl_areLines_1.X impl_areLines_1.P.len 0
noncomputable def impl_areLines_1.f (line : ByteArray) : Option (Bool) := Fn impl_areLines_1.E impl_areLines_1.T impl_areLines_1.C impl_areLines_1.P impl_areLines_1.R impl_areLines_1.X line
theorem impl_areLines_1.f_eq (line : ByteArray) : impl_areLines_1.f line =
  ((impl_isLine.f line).bind fun y1 =>
  some (!y1)) := by kernel_rfl
noncomputable def impl_areLines_1.S : Abs.Sum := ⟨impl_areLines_1.P, impl_areLines_1.R, fun _ => Fn impl_areLines_1.E impl_areLines_1.T impl_areLines_1.C impl_areLines_1.P impl_areLines_1.R impl_areLines_1.X⟩
theorem impl_areLines_1.meets : Meets Try.prog 136 impl_areLines_1.S := meets_tab (S := impl_areLines_1.U) tabOk_all (AllMeets.cons impl_isLine.meets AllMeets.nil) (AllStill.cons (fun _ _ _ => rfl) AllStill.nil) follows (by kernel_rfl : Try.prog.funcs[136]? = some Try.f136) (by kernel_rfl) (by kernel_rfl) (by kernel_rfl)
noncomputable def slices_IndexFunc_string_string__impl_areLines_1.C : Code := Try.f169.body.getD .skip
def slices_IndexFunc_string_string__impl_areLines_1.P : Par := (.cons (.val (.list .str)) (.cons (.fn 136 .nil) .nil))
noncomputable def slices_IndexFunc_string_string__impl_areLines_1.U : SumTab := [(136, [], impl_areLines_1.S)]
noncomputable def slices_IndexFunc_string_string__impl_areLines_1.E : Env := mkEnv TY AR slices_IndexFunc_string_string__impl_areLines_1.U
def slices_IndexFunc_string_string__impl_areLines_1.D4 : CutD := ⟨[0, 1, 7, 8], (.cons (.val (.list .str)) (.cons (.fn 136 .nil) (.cons (.val (.int .i64)) (.cons (.val (.int .i64)) .nil))))⟩
/-! slices_IndexFunc_string_string__impl_areLines_1 -/
noncomputable def slices_IndexFunc_string_string__impl_areLines_1.T : Tab := fun k => look k [(4, slices_IndexFunc_string_string__impl_areLines_1.D4)]
def slices_IndexFunc_string_string__impl_areLines_1.R : List (Nat × Ty) := [(0, .int .i64)]
def slices_IndexFunc_string_string__impl_areLines_1.X : List ResultVar := [.tmp 4]
noncomputable def slices_IndexFunc_string_string__impl_areLines_1.K := fin slices_IndexFunc_string_string__impl_areLines_1.E ⟨slices_IndexFunc_string_string__impl_areLines_1.P, slices_IndexFunc_string_string__impl_areLines_1.R, fun _ _ => none⟩ slices_IndexFunc_string_string__impl_areLines_1.X slices_IndexFunc_string_string__impl_areLines_1.P.len 0
noncomputable def slices_IndexFunc_string_string__impl_areLines_1.l4 (s : List ByteArray) (t7 : Int) (t8 : Int) : Option (Int) := fixP slices_IndexFunc_string_string__impl_areLines_1.E slices_IndexFunc_string_string__impl_areLines_1.T slices_IndexFunc_string_string__impl_areLines_1.C slices_IndexFunc_string_string__impl_areLines_1.K 4 slices_IndexFunc_string_string__impl_areLines_1.D4 (s, t7, t8)
noncomputable def slices_IndexFunc_string_string__impl_areLines_1.f (s : List ByteArray) : Option (Int) := Fn slices_IndexFunc_string_string__impl_areLines_1.E slices_IndexFunc_string_string__impl_areLines_1.T slices_IndexFunc_string_string__impl_areLines_1.C slices_IndexFunc_string_string__impl_areLines_1.P slices_IndexFunc_string_string__impl_areLines_1.R slices_IndexFunc_string_string__impl_areLines_1.X s
theorem slices_IndexFunc_string_string__impl_areLines_1.l4_eq (s : List ByteArray) (t7 : Int) (t8 : Int) : slices_IndexFunc_string_string__impl_areLines_1.l4 s t7 t8 =
  (bif (decide (t8 < t7)) then (bif ((decide (0 ≤ t8)) && (decide (t8 < (s.length : Int)))) then ((impl_areLines_1.f (s.getD (t8).toNat em)).bind fun y1 =>
    bif y1 then (some t8) else
    (slices_IndexFunc_string_string__impl_areLines_1.l4 s t7 (w64 (t8 + 1)))) else none) else (some (-1))) :=
  (fixP_eq slices_IndexFunc_string_string__impl_areLines_1.E slices_IndexFunc_string_string__impl_areLines_1.T slices_IndexFunc_string_string__impl_areLines_1.C slices_IndexFunc_string_string__impl_areLines_1.K 4 slices_IndexFunc_string_string__impl_areLines_1.D4 (s, t7, t8)).trans (by kernel_rfl)
theorem slices_IndexFunc_string_string__impl_areLines_1.f_eq (s : List ByteArray) : slices_IndexFunc_string_string__impl_areLines_1.f s =
  (slices_IndexFunc_string_string__impl_areLines_1.l4 s (s.length : Int) 0) := by kernel_rfl
noncomputable def slices_IndexFunc_string_string__impl_areLines_1.S : Abs.Sum := ⟨slices_IndexFunc_string_string__impl_areLines_1.P, slices_IndexFunc_string_string__impl_areLines_1.R, fun _ => Fn slices_IndexFunc_string_string__impl_areLines_1.E slices_IndexFunc_string_string__impl_areLines_1.T slices_IndexFunc_string_string__impl_areLines_1.C slices_IndexFunc_string_string__impl_areLines_1.P slices_IndexFunc_string_string__impl_areLines_1.R slices_IndexFunc_string_string__impl_areLines_1.X⟩
theorem slices_IndexFunc_string_string__impl_areLines_1.meets : Meets Try.prog 169 slices_IndexFunc_string_string__impl_areLines_1.S := meets_tab (S := slices_IndexFunc_string_string__impl_areLines_1.U) tabOk_all (AllMeets.cons impl_areLines_1.meets AllMeets.nil) (AllStill.cons (fun _ _ _ => rfl) AllStill.nil) follows (by kernel_rfl : Try.prog.funcs[169]? = some Try.f169) (by kernel_rfl) (by kernel_rfl) (by kernel_rfl)
noncomputable def slices_ContainsFunc_string_string__impl_areLines_1.C : Code := Try.f135.body.getD .skip
def slices_ContainsFunc_string_string__impl_areLines_1.P : Par := (.cons (.val (.list .str)) (.cons (.fn 136 .nil) .nil))
noncomputable def slices_ContainsFunc_string_string__impl_areLines_1.U : SumTab := [(169, [136], slices_IndexFunc_string_string__impl_areLines_1.S)]
noncomputable def slices_ContainsFunc_string_string__impl_areLines_1.E : Env := mkEnv TY AR slices_ContainsFunc_string_string__impl_areLines_1.U
/-! slices_ContainsFunc_string_string__impl_areLines_1 -/
noncomputable def slices_ContainsFunc_string_string__impl_areLines_1.T : Tab := fun k => look k []
def slices_ContainsFunc_string_string__impl_areLines_1.R : List (Nat × Ty) := [(0, .bool)]
def slices_ContainsFunc_string_string__impl_areLines_1.X : List ResultVar := [.tmp 4]
noncomputable def slices_ContainsFunc_string_string__impl_areLines_1.K := fin slices_ContainsFunc_string_string__impl_areLines_1.E ⟨slices_ContainsFunc_string_string__impl_areLines_1.P, slices_ContainsFunc_string_string__impl_areLines_1.R, fun _ _ => none⟩ slices_ContainsFunc_string_string__impl_areLines_1.X slices_ContainsFunc_string_string__impl_areLines_1.P.len 0
noncomputable def slices_ContainsFunc_string_string__impl_areLines_1.f (s : List ByteArray) : Option (Bool) := Fn slices_ContainsFunc_string_string__impl_areLines_1.E slices_ContainsFunc_string_string__impl_areLines_1.T slices_ContainsFunc_string_string__impl_areLines_1.C slices_ContainsFunc_string_string__impl_areLines_1.P slices_ContainsFunc_string_string__impl_areLines_1.R slices_ContainsFunc_string_string__impl_areLines_1.X s
theorem slices_ContainsFunc_string_string__impl_areLines_1.f_eq (s : List ByteArray) : slices_ContainsFunc_string_string__impl_areLines_1.f s =
  ((slices_IndexFunc_string_string__impl_areLines_1.f s).bind fun y1 =>
  some (decide (y1 ≥ 0))) := by kernel_rfl
noncomputable def slices_ContainsFunc_string_string__impl_areLines_1.S : Abs.Sum := ⟨slices_ContainsFunc_string_string__impl_areLines_1.P, slices_ContainsFunc_string_string__impl_areLines_1.R, fun _ => Fn slices_ContainsFunc_string_string__impl_areLines_1.E slices_ContainsFunc_string_string__impl_areLines_1.T slices_ContainsFunc_string_string__impl_areLines_1.C slices_ContainsFunc_string_string__impl_areLines_1.P slices_ContainsFunc_string_string__impl_areLines_1.R slices_ContainsFunc_string_string__impl_areLines_1.X⟩
theorem slices_ContainsFunc_string_string__impl_areLines_1.meets : Meets Try.prog 135 slices_ContainsFunc_string_string__impl_areLines_1.S := meets_tab (S := slices_ContainsFunc_string_string__impl_areLines_1.U) tabOk_all (AllMeets.cons slices_IndexFunc_string_string__impl_areLines_1.meets AllMeets.nil) (AllStill.cons (fun _ _ _ => rfl) AllStill.nil) follows (by kernel_rfl : Try.prog.funcs[135]? = some Try.f135) (by kernel_rfl) (by kernel_rfl) (by kernel_rfl)
noncomputable def impl_areLines.C : Code := Try.f79.body.getD .skip
def impl_areLines.P : Par := (.cons (.val (.list .str)) .nil)
noncomputable def impl_areLines.U : SumTab := [(135, [136], slices_ContainsFunc_string_string__impl_areLines_1.S)]
noncomputable def impl_areLines.E : Env := mkEnv TY AR impl_areLines.U
/-! impl_areLines -/
noncomputable def impl_areLines.T : Tab := fun k => look k []
def impl_areLines.R : List (Nat × Ty) := [(0, .bool)]
def impl_areLines.X : List ResultVar := [.tmp 2]
noncomputable def impl_areLines.K := fin impl_areLines.E ⟨impl_areLines.P, impl_areLines.R, fun _ _ => none⟩ impl_areLines.X impl_areLines.P.len 0
noncomputable def impl_areLines.f (l : List ByteArray) : Option (Bool) := Fn impl_areLines.E impl_areLines.T impl_areLines.C impl_areLines.P impl_areLines.R impl_areLines.X l
theorem impl_areLines.f_eq (l : List ByteArray) : impl_areLines.f l =
  (bif (decide ((l.length : Int) ≤ 40)) then ((slices_ContainsFunc_string_string__impl_areLines_1.f l).bind fun y1 =>
   some (!y1)) else (some false)) := by kernel_rfl
noncomputable def impl_areLines.S : Abs.Sum := ⟨impl_areLines.P, impl_areLines.R, fun _ => Fn impl_areLines.E impl_areLines.T impl_areLines.C impl_areLines.P impl_areLines.R impl_areLines.X⟩
theorem impl_areLines.meets : Meets Try.prog 79 impl_areLines.S := meets_tab (S := impl_areLines.U) tabOk_all (AllMeets.cons slices_ContainsFunc_string_string__impl_areLines_1.meets AllMeets.nil) (AllStill.cons (fun _ _ _ => rfl) AllStill.nil) follows (by kernel_rfl : Try.prog.funcs[79]? = some Try.f79) (by kernel_rfl) (by kernel_rfl) (by kernel_rfl)
noncomputable def internal_stringslite_HasSuffix.C : Code := Try.f177.body.getD .skip
def internal_stringslite_HasSuffix.P : Par := (.cons (.val .str) (.cons (.val .str) .nil))
noncomputable def internal_stringslite_HasSuffix.U : SumTab := []
noncomputable def internal_stringslite_HasSuffix.E : Env := mkEnv TY AR internal_stringslite_HasSuffix.U
/-! internal_stringslite_HasSuffix -/
noncomputable def internal_stringslite_HasSuffix.T : Tab := fun k => look k []
def internal_stringslite_HasSuffix.R : List (Nat × Ty) := [(0, .bool)]
def internal_stringslite_HasSuffix.X : List ResultVar := [.tmp 4]
noncomputable def internal_stringslite_HasSuffix.K := fin internal_stringslite_HasSuffix.E ⟨internal_stringslite_HasSuffix.P, internal_stringslite_HasSuffix.R, fun _ _ => none⟩ internal_stringslite_HasSuffix.X internal_stringslite_HasSuffix.P.len 0
noncomputable def internal_stringslite_HasSuffix.f (s : ByteArray) (suffix : ByteArray) : Option (Bool) := Fn internal_stringslite_HasSuffix.E internal_stringslite_HasSuffix.T internal_stringslite_HasSuffix.C internal_stringslite_HasSuffix.P internal_stringslite_HasSuffix.R internal_stringslite_HasSuffix.X (s, suffix)
theorem internal_stringslite_HasSuffix.f_eq (s : ByteArray) (suffix : ByteArray) : internal_stringslite_HasSuffix.f s suffix =
  (bif (decide ((s.size : Int) ≥ (suffix.size : Int))) then (bif ((decide (0 ≤ (w64 ((s.size : Int) - (suffix.size : Int))))) && (decide ((w64 ((s.size : Int) - (suffix.size : Int))) ≤ (s.size : Int)))) then (some ((s.extract ((w64 ((s.size : Int) - (suffix.size : Int)))).toNat s.size).toList == suffix.toList)) else none) else (some false)) := by kernel_rfl
noncomputable def internal_stringslite_HasSuffix.S : Abs.Sum := ⟨internal_stringslite_HasSuffix.P, internal_stringslite_HasSuffix.R, fun _ => Fn internal_stringslite_HasSuffix.E internal_stringslite_HasSuffix.T internal_stringslite_HasSuffix.C internal_stringslite_HasSuffix.P internal_stringslite_HasSuffix.R internal_stringslite_HasSuffix.X⟩
theorem internal_stringslite_HasSuffix.meets : Meets Try.prog 177 internal_stringslite_HasSuffix.S := meets_tab (S := internal_stringslite_HasSuffix.U) tabOk_all AllMeets.nil AllStill.nil follows (by kernel_rfl : Try.prog.funcs[177]? = some Try.f177) (by kernel_rfl) (by kernel_rfl) (by kernel_rfl)
noncomputable def strings_HasSuffix.C : Code := Try.f168.body.getD .skip
def strings_HasSuffix.P : Par := (.cons (.val .str) (.cons (.val .str) .nil))
noncomputable def strings_HasSuffix.U : SumTab := [(177, [], internal_stringslite_HasSuffix.S)]
noncomputable def strings_HasSuffix.E : Env := mkEnv TY AR strings_HasSuffix.U
/-! strings_HasSuffix -/
noncomputable def strings_HasSuffix.T : Tab := fun k => look k []
def strings_HasSuffix.R : List (Nat × Ty) := [(0, .bool)]
def strings_HasSuffix.X : List ResultVar := [.tmp 4]
noncomputable def strings_HasSuffix.K := fin strings_HasSuffix.E ⟨strings_HasSuffix.P, strings_HasSuffix.R, fun _ _ => none⟩ strings_HasSuffix.X strings_HasSuffix.P.len 0
noncomputable def strings_HasSuffix.f (s : ByteArray) (suffix : ByteArray) : Option (Bool) := Fn strings_HasSuffix.E strings_HasSuffix.T strings_HasSuffix.C strings_HasSuffix.P strings_HasSuffix.R strings_HasSuffix.X (s, suffix)
theorem strings_HasSuffix.f_eq (s : ByteArray) (suffix : ByteArray) : strings_HasSuffix.f s suffix =
  ((internal_stringslite_HasSuffix.f s suffix).bind fun y1 =>
  some y1) := by kernel_rfl
noncomputable def strings_HasSuffix.S : Abs.Sum := ⟨strings_HasSuffix.P, strings_HasSuffix.R, fun _ => Fn strings_HasSuffix.E strings_HasSuffix.T strings_HasSuffix.C strings_HasSuffix.P strings_HasSuffix.R strings_HasSuffix.X⟩
theorem strings_HasSuffix.meets : Meets Try.prog 168 strings_HasSuffix.S := meets_tab (S := strings_HasSuffix.U) tabOk_all (AllMeets.cons internal_stringslite_HasSuffix.meets AllMeets.nil) (AllStill.cons (fun _ _ _ => rfl) AllStill.nil) follows (by kernel_rfl : Try.prog.funcs[168]? = some Try.f168) (by kernel_rfl) (by kernel_rfl) (by kernel_rfl)
noncomputable def impl_isEnded.C : Code := Try.f134.body.getD .skip
def impl_isEnded.P : Par := (.cons (.val .str) .nil)
noncomputable def impl_isEnded.U : SumTab := [(168, [], strings_HasSuffix.S)]
noncomputable def impl_isEnded.E : Env := mkEnv TY AR impl_isEnded.U
/-! impl_isEnded -/
noncomputable def impl_isEnded.T : Tab := fun k => look k []
def impl_isEnded.R : List (Nat × Ty) := [(0, .bool)]
def impl_isEnded.X : List ResultVar := [.tmp 2]
noncomputable def impl_isEnded.K := fin impl_isEnded.E ⟨impl_isEnded.P, impl_isEnded.R, fun _ _ => none⟩ impl_isEnded.X impl_isEnded.P.len 0
noncomputable def impl_isEnded.f (line : ByteArray) : Option (Bool) := Fn impl_isEnded.E impl_isEnded.T impl_isEnded.C impl_isEnded.P impl_isEnded.R impl_isEnded.X line
theorem impl_isEnded.f_eq (line : ByteArray) : impl_isEnded.f line =
  ((strings_HasSuffix.f line (⟨#[10]⟩ : ByteArray)).bind fun y1 =>
  some y1) := by kernel_rfl
noncomputable def impl_isEnded.S : Abs.Sum := ⟨impl_isEnded.P, impl_isEnded.R, fun _ => Fn impl_isEnded.E impl_isEnded.T impl_isEnded.C impl_isEnded.P impl_isEnded.R impl_isEnded.X⟩
theorem impl_isEnded.meets : Meets Try.prog 134 impl_isEnded.S := meets_tab (S := impl_isEnded.U) tabOk_all (AllMeets.cons strings_HasSuffix.meets AllMeets.nil) (AllStill.cons (fun _ _ _ => rfl) AllStill.nil) follows (by kernel_rfl : Try.prog.funcs[134]? = some Try.f134) (by kernel_rfl) (by kernel_rfl) (by kernel_rfl)
noncomputable def impl_goodLines.C : Code := Try.f78.body.getD .skip
def impl_goodLines.P : Par := (.cons (.val (.list .str)) .nil)
noncomputable def impl_goodLines.U : SumTab := [(79, [], impl_areLines.S), (134, [], impl_isEnded.S)]
noncomputable def impl_goodLines.E : Env := mkEnv TY AR impl_goodLines.U
def impl_goodLines.D8 : CutD := ⟨[0, 8, 9, 10], (.cons (.val (.list .str)) (.cons (.val (.list .str)) (.cons (.val (.int .i64)) (.cons (.val (.int .i64)) .nil))))⟩
/-! impl_goodLines -/
noncomputable def impl_goodLines.T : Tab := fun k => look k [(8, impl_goodLines.D8)]
def impl_goodLines.R : List (Nat × Ty) := [(0, .bool)]
def impl_goodLines.X : List ResultVar := [.tmp 2]
noncomputable def impl_goodLines.K := fin impl_goodLines.E ⟨impl_goodLines.P, impl_goodLines.R, fun _ _ => none⟩ impl_goodLines.X impl_goodLines.P.len 0
noncomputable def impl_goodLines.l8 (l : List ByteArray) (t8 : List ByteArray) (t9 : Int) (t10 : Int) : Option (Bool) := fixP impl_goodLines.E impl_goodLines.T impl_goodLines.C impl_goodLines.K 8 impl_goodLines.D8 (l, t8, t9, t10)
noncomputable def impl_goodLines.f (l : List ByteArray) : Option (Bool) := Fn impl_goodLines.E impl_goodLines.T impl_goodLines.C impl_goodLines.P impl_goodLines.R impl_goodLines.X l
theorem impl_goodLines.l8_eq (l : List ByteArray) (t8 : List ByteArray) (t9 : Int) (t10 : Int) : impl_goodLines.l8 l t8 t9 t10 =
  (bif (decide (t10 < t9)) then (bif ((decide (0 ≤ t10)) && (decide (t10 < (t8.length : Int)))) then (bif (decide (t10 < (w64 ((l.length : Int) - 1)))) then ((impl_isEnded.f (t8.getD (t10).toNat em)).bind fun y1 =>
     bif (!y1) then (some false) else
     (impl_goodLines.l8 l t8 t9 (w64 (t10 + 1)))) else
    (impl_goodLines.l8 l t8 t9 (w64 (t10 + 1)))) else none) else (some true)) :=
  (fixP_eq impl_goodLines.E impl_goodLines.T impl_goodLines.C impl_goodLines.K 8 impl_goodLines.D8 (l, t8, t9, t10)).trans (by kernel_rfl)
theorem impl_goodLines.f_eq (l : List ByteArray) : impl_goodLines.f l =
  ((impl_areLines.f l).bind fun y1 =>
  bif (!y1) then (some false) else
  (impl_goodLines.l8 l l (l.length : Int) 0)) := by kernel_rfl
noncomputable def impl_goodLines.S : Abs.Sum := ⟨impl_goodLines.P, impl_goodLines.R, fun _ => Fn impl_goodLines.E impl_goodLines.T impl_goodLines.C impl_goodLines.P impl_goodLines.R impl_goodLines.X⟩
theorem impl_goodLines.meets : Meets Try.prog 78 impl_goodLines.S := meets_tab (S := impl_goodLines.U) tabOk_all (AllMeets.cons impl_areLines.meets (AllMeets.cons impl_isEnded.meets AllMeets.nil)) (AllStill.cons (fun _ _ _ => rfl) (AllStill.cons (fun _ _ _ => rfl) AllStill.nil)) follows (by kernel_rfl : Try.prog.funcs[78]? = some Try.f78) (by kernel_rfl) (by kernel_rfl) (by kernel_rfl)
noncomputable def impl_areVersions_1.C : Code := Try.f151.body.getD .skip
def impl_areVersions_1.P : Par := (.cons (.val (.list .str)) .nil)
noncomputable def impl_areVersions_1.U : SumTab := [(78, [], impl_goodLines.S)]
noncomputable def impl_areVersions_1.E : Env := mkEnv TY AR impl_areVersions_1.U
/-! impl_areVersions_1 -/
noncomputable def impl_areVersions_1.T : Tab := fun k => look k []
def impl_areVersions_1.R : List (Nat × Ty) := [(0, .bool)]
def impl_areVersions_1.X : List ResultVar := [.tmp 2]
noncomputable def impl_areVersions_1.K := fin impl_areVersions_1.E ⟨impl_areVersions_1.P, impl_areVersions_1.R, fun _ _ => none⟩ impl_areVersions_1.X impl_areVersions_1.P.len 0
noncomputable def impl_areVersions_1.f (l : List ByteArray) : Option (Bool) := Fn impl_areVersions_1.E impl_areVersions_1.T impl_areVersions_1.C impl_areVersions_1.P impl_areVersions_1.R impl_areVersions_1.X l
theorem impl_areVersions_1.f_eq (l : List ByteArray) : impl_areVersions_1.f l =
  ((impl_goodLines.f l).bind fun y1 =>
  some (!y1)) := by kernel_rfl
noncomputable def impl_areVersions_1.S : Abs.Sum := ⟨impl_areVersions_1.P, impl_areVersions_1.R, fun _ => Fn impl_areVersions_1.E impl_areVersions_1.T impl_areVersions_1.C impl_areVersions_1.P impl_areVersions_1.R impl_areVersions_1.X⟩
theorem impl_areVersions_1.meets : Meets Try.prog 151 impl_areVersions_1.S := meets_tab (S := impl_areVersions_1.U) tabOk_all (AllMeets.cons impl_goodLines.meets AllMeets.nil) (AllStill.cons (fun _ _ _ => rfl) AllStill.nil) follows (by kernel_rfl : Try.prog.funcs[151]? = some Try.f151) (by kernel_rfl) (by kernel_rfl) (by kernel_rfl)
noncomputable def slices_IndexFunc_string_string_172__impl_areVersions_1.C : Code := Try.f172.body.getD .skip
def slices_IndexFunc_string_string_172__impl_areVersions_1.P : Par := (.cons (.val (.list (.list .str))) (.cons (.fn 151 .nil) .nil))
noncomputable def slices_IndexFunc_string_string_172__impl_areVersions_1.U : SumTab := [(151, [], impl_areVersions_1.S)]
noncomputable def slices_IndexFunc_string_string_172__impl_areVersions_1.E : Env := mkEnv TY AR slices_IndexFunc_string_string_172__impl_areVersions_1.U
def slices_IndexFunc_string_string_172__impl_areVersions_1.D4 : CutD := ⟨[0, 1, 7, 8], (.cons (.val (.list (.list .str))) (.cons (.fn 151 .nil) (.cons (.val (.int .i64)) (.cons (.val (.int .i64)) .nil))))⟩
/-! slices_IndexFunc_string_string_172__impl_areVersions_1 -/
noncomputable def slices_IndexFunc_string_string_172__impl_areVersions_1.T : Tab := fun k => look k [(4, slices_IndexFunc_string_string_172__impl_areVersions_1.D4)]
def slices_IndexFunc_string_string_172__impl_areVersions_1.R : List (Nat × Ty) := [(0, .int .i64)]
def slices_IndexFunc_string_string_172__impl_areVersions_1.X : List ResultVar := [.tmp 4]
noncomputable def slices_IndexFunc_string_string_172__impl_areVersions_1.K := fin slices_IndexFunc_string_string_172__impl_areVersions_1.E ⟨slices_IndexFunc_string_string_172__impl_areVersions_1.P, slices_IndexFunc_string_string_172__impl_areVersions_1.R, fun _ _ => none⟩ slices_IndexFunc_string_string_172__impl_areVersions_1.X slices_IndexFunc_string_string_172__impl_areVersions_1.P.len 0
noncomputable def slices_IndexFunc_string_string_172__impl_areVersions_1.l4 (s : List (List ByteArray)) (t7 : Int) (t8 : Int) : Option (Int) := fixP slices_IndexFunc_string_string_172__impl_areVersions_1.E slices_IndexFunc_string_string_172__impl_areVersions_1.T slices_IndexFunc_string_string_172__impl_areVersions_1.C slices_IndexFunc_string_string_172__impl_areVersions_1.K 4 slices_IndexFunc_string_string_172__impl_areVersions_1.D4 (s, t7, t8)
noncomputable def slices_IndexFunc_string_string_172__impl_areVersions_1.f (s : List (List ByteArray)) : Option (Int) := Fn slices_IndexFunc_string_string_172__impl_areVersions_1.E slices_IndexFunc_string_string_172__impl_areVersions_1.T slices_IndexFunc_string_string_172__impl_areVersions_1.C slices_IndexFunc_string_string_172__impl_areVersions_1.P slices_IndexFunc_string_string_172__impl_areVersions_1.R slices_IndexFunc_string_string_172__impl_areVersions_1.X s
theorem slices_IndexFunc_string_string_172__impl_areVersions_1.l4_eq (s : List (List ByteArray)) (t7 : Int) (t8 : Int) : slices_IndexFunc_string_string_172__impl_areVersions_1.l4 s t7 t8 =
  (bif (decide (t8 < t7)) then (bif ((decide (0 ≤ t8)) && (decide (t8 < (s.length : Int)))) then ((impl_areVersions_1.f (s.getD (t8).toNat ([] : List ByteArray))).bind fun y1 =>
    bif y1 then (some t8) else
    (slices_IndexFunc_string_string_172__impl_areVersions_1.l4 s t7 (w64 (t8 + 1)))) else none) else (some (-1))) :=
  (fixP_eq slices_IndexFunc_string_string_172__impl_areVersions_1.E slices_IndexFunc_string_string_172__impl_areVersions_1.T slices_IndexFunc_string_string_172__impl_areVersions_1.C slices_IndexFunc_string_string_172__impl_areVersions_1.K 4 slices_IndexFunc_string_string_172__impl_areVersions_1.D4 (s, t7, t8)).trans (by kernel_rfl)
theorem slices_IndexFunc_string_string_172__impl_areVersions_1.f_eq (s : List (List ByteArray)) : slices_IndexFunc_string_string_172__impl_areVersions_1.f s =
  (slices_IndexFunc_string_string_172__impl_areVersions_1.l4 s (s.length : Int) 0) := by kernel_rfl
noncomputable def slices_IndexFunc_string_string_172__impl_areVersions_1.S : Abs.Sum := ⟨slices_IndexFunc_string_string_172__impl_areVersions_1.P, slices_IndexFunc_string_string_172__impl_areVersions_1.R, fun _ => Fn slices_IndexFunc_string_string_172__impl_areVersions_1.E slices_IndexFunc_string_string_172__impl_areVersions_1.T slices_IndexFunc_string_string_172__impl_areVersions_1.C slices_IndexFunc_string_string_172__impl_areVersions_1.P slices_IndexFunc_string_string_172__impl_areVersions_1.R slices_IndexFunc_string_string_172__impl_areVersions_1.X⟩
theorem slices_IndexFunc_string_string_172__impl_areVersions_1.meets : Meets Try.prog 172 slices_IndexFunc_string_string_172__impl_areVersions_1.S := meets_tab (S := slices_IndexFunc_string_string_172__impl_areVersions_1.U) tabOk_all (AllMeets.cons impl_areVersions_1.meets AllMeets.nil) (AllStill.cons (fun _ _ _ => rfl) AllStill.nil) follows (by kernel_rfl : Try.prog.funcs[172]? = some Try.f172) (by kernel_rfl) (by kernel_rfl) (by kernel_rfl)
noncomputable def slices_ContainsFunc_string_string_150__impl_areVersions_1.C : Code := Try.f150.body.getD .skip
def slices_ContainsFunc_string_string_150__impl_areVersions_1.P : Par := (.cons (.val (.list (.list .str))) (.cons (.fn 151 .nil) .nil))
noncomputable def slices_ContainsFunc_string_string_150__impl_areVersions_1.U : SumTab := [(172, [151], slices_IndexFunc_string_string_172__impl_areVersions_1.S)]
noncomputable def slices_ContainsFunc_string_string_150__impl_areVersions_1.E : Env := mkEnv TY AR slices_ContainsFunc_string_string_150__impl_areVersions_1.U
/-! slices_ContainsFunc_string_string_150__impl_areVersions_1 -/
noncomputable def slices_ContainsFunc_string_string_150__impl_areVersions_1.T : Tab := fun k => look k []
def slices_ContainsFunc_string_string_150__impl_areVersions_1.R : List (Nat × Ty) := [(0, .bool)]
def slices_ContainsFunc_string_string_150__impl_areVersions_1.X : List ResultVar := [.tmp 4]
noncomputable def slices_ContainsFunc_string_string_150__impl_areVersions_1.K := fin slices_ContainsFunc_string_string_150__impl_areVersions_1.E ⟨slices_ContainsFunc_string_string_150__impl_areVersions_1.P, slices_ContainsFunc_string_string_150__impl_areVersions_1.R, fun _ _ => none⟩ slices_ContainsFunc_string_string_150__impl_areVersions_1.X slices_ContainsFunc_string_string_150__impl_areVersions_1.P.len 0
noncomputable def slices_ContainsFunc_string_string_150__impl_areVersions_1.f (s : List (List ByteArray)) : Option (Bool) := Fn slices_ContainsFunc_string_string_150__impl_areVersions_1.E slices_ContainsFunc_string_string_150__impl_areVersions_1.T slices_ContainsFunc_string_string_150__impl_areVersions_1.C slices_ContainsFunc_string_string_150__impl_areVersions_1.P slices_ContainsFunc_string_string_150__impl_areVersions_1.R slices_ContainsFunc_string_string_150__impl_areVersions_1.X s
theorem slices_ContainsFunc_string_string_150__impl_areVersions_1.f_eq (s : List (List ByteArray)) : slices_ContainsFunc_string_string_150__impl_areVersions_1.f s =
  ((slices_IndexFunc_string_string_172__impl_areVersions_1.f s).bind fun y1 =>
  some (decide (y1 ≥ 0))) := by kernel_rfl
noncomputable def slices_ContainsFunc_string_string_150__impl_areVersions_1.S : Abs.Sum := ⟨slices_ContainsFunc_string_string_150__impl_areVersions_1.P, slices_ContainsFunc_string_string_150__impl_areVersions_1.R, fun _ => Fn slices_ContainsFunc_string_string_150__impl_areVersions_1.E slices_ContainsFunc_string_string_150__impl_areVersions_1.T slices_ContainsFunc_string_string_150__impl_areVersions_1.C slices_ContainsFunc_string_string_150__impl_areVersions_1.P slices_ContainsFunc_string_string_150__impl_areVersions_1.R slices_ContainsFunc_string_string_150__impl_areVersions_1.X⟩
theorem slices_ContainsFunc_string_string_150__impl_areVersions_1.meets : Meets Try.prog 150 slices_ContainsFunc_string_string_150__impl_areVersions_1.S := meets_tab (S := slices_ContainsFunc_string_string_150__impl_areVersions_1.U) tabOk_all (AllMeets.cons slices_IndexFunc_string_string_172__impl_areVersions_1.meets AllMeets.nil) (AllStill.cons (fun _ _ _ => rfl) AllStill.nil) follows (by kernel_rfl : Try.prog.funcs[150]? = some Try.f150) (by kernel_rfl) (by kernel_rfl) (by kernel_rfl)
noncomputable def impl_areVersions.C : Code := Try.f107.body.getD .skip
def impl_areVersions.P : Par := (.cons (.val (.list (.list .str))) .nil)
noncomputable def impl_areVersions.U : SumTab := [(104, [], impl_in.S), (150, [151], slices_ContainsFunc_string_string_150__impl_areVersions_1.S)]
noncomputable def impl_areVersions.E : Env := mkEnv TY AR impl_areVersions.U
/-! impl_areVersions -/
noncomputable def impl_areVersions.T : Tab := fun k => look k []
def impl_areVersions.R : List (Nat × Ty) := [(0, .bool)]
def impl_areVersions.X : List ResultVar := [.tmp 2]
noncomputable def impl_areVersions.K := fin impl_areVersions.E ⟨impl_areVersions.P, impl_areVersions.R, fun _ _ => none⟩ impl_areVersions.X impl_areVersions.P.len 0
noncomputable def impl_areVersions.f (v : List (List ByteArray)) : Option (Bool) := Fn impl_areVersions.E impl_areVersions.T impl_areVersions.C impl_areVersions.P impl_areVersions.R impl_areVersions.X v
theorem impl_areVersions.f_eq (v : List (List ByteArray)) : impl_areVersions.f v =
  ((impl_in.f (v.length : Int) 1 8).bind fun y1 =>
  bif y1 then ((slices_ContainsFunc_string_string_150__impl_areVersions_1.f v).bind fun y2 =>
   some (!y2)) else (some false)) := by kernel_rfl
noncomputable def impl_areVersions.S : Abs.Sum := ⟨impl_areVersions.P, impl_areVersions.R, fun _ => Fn impl_areVersions.E impl_areVersions.T impl_areVersions.C impl_areVersions.P impl_areVersions.R impl_areVersions.X⟩
theorem impl_areVersions.meets : Meets Try.prog 107 impl_areVersions.S := meets_tab (S := impl_areVersions.U) tabOk_all (AllMeets.cons impl_in.meets (AllMeets.cons slices_ContainsFunc_string_string_150__impl_areVersions_1.meets AllMeets.nil)) (AllStill.cons (fun _ _ _ => rfl) (AllStill.cons (fun _ _ _ => rfl) AllStill.nil)) follows (by kernel_rfl : Try.prog.funcs[107]? = some Try.f107) (by kernel_rfl) (by kernel_rfl) (by kernel_rfl)
noncomputable def impl_common.C : Code := Try.f157.body.getD .skip
def impl_common.P : Par := (.cons (.val (.list .str)) (.cons (.val (.list .str)) .nil))
noncomputable def impl_common.U : SumTab := []
noncomputable def impl_common.E : Env := mkEnv TY AR impl_common.U
def impl_common.D8 : CutD := ⟨[0, 1, 5, 6], (.cons (.val (.list .str)) (.cons (.val (.list .str)) (.cons (.own 9 (.list (.int .i64))) (.cons (.val (.int .i64)) .nil))))⟩
def impl_common.D16 : CutD := ⟨[0, 1, 5, 6, 7], (.cons (.val (.list .str)) (.cons (.val (.list .str)) (.cons (.own 9 (.list (.int .i64))) (.cons (.val (.int .i64)) (.cons (.val (.int .i64)) .nil)))))⟩
/-! impl_common -/
noncomputable def impl_common.T : Tab := fun k => look k [(8, impl_common.D8), (16, impl_common.D16)]
def impl_common.R : List (Nat × Ty) := [(9, .list (.list (.int .i64)))]
def impl_common.X : List ResultVar := [.tmp 4]
noncomputable def impl_common.K := fin impl_common.E ⟨impl_common.P, impl_common.R, fun _ _ => none⟩ impl_common.X impl_common.P.len 0
noncomputable def impl_common.l8 (a : List ByteArray) (b : List ByteArray) (out : List (List Int)) (i : Int) : Option ((List (List Int))) := fixP impl_common.E impl_common.T impl_common.C impl_common.K 8 impl_common.D8 (a, b, out, i)
noncomputable def impl_common.l16 (a : List ByteArray) (b : List ByteArray) (out : List (List Int)) (i : Int) (j : Int) : Option ((List (List Int))) := fixP impl_common.E impl_common.T impl_common.C impl_common.K 16 impl_common.D16 (a, b, out, i, j)
noncomputable def impl_common.f (a : List ByteArray) (b : List ByteArray) : Option ((List (List Int))) := Fn impl_common.E impl_common.T impl_common.C impl_common.P impl_common.R impl_common.X (a, b)
theorem impl_common.l8_eq (a : List ByteArray) (b : List ByteArray) (out : List (List Int)) (i : Int) : impl_common.l8 a b out i =
  (bif (decide (i ≥ 0)) then (bif ((decide (0 ≤ (w64 ((b.length : Int) + 1)))) && (decide (((w64 ((b.length : Int) + 1))).toNat ≤ room 8))) then (bif ((decide (0 ≤ i)) && (decide (i < (out.length : Int)))) then (impl_common.l16 a b (out.set (i).toNat (List.replicate ((w64 ((b.length : Int) + 1))).toNat 0)) i (w64 ((b.length : Int) - 1))) else none) else none) else (some out)) :=
  (fixP_eq impl_common.E impl_common.T impl_common.C impl_common.K 8 impl_common.D8 (a, b, out, i)).trans (by kernel_rfl)
theorem impl_common.l16_eq (a : List ByteArray) (b : List ByteArray) (out : List (List Int)) (i : Int) (j : Int) : impl_common.l16 a b out i j =
  (bif (decide (j ≥ 0)) then (bif ((decide (0 ≤ i)) && (decide (i < (a.length : Int)))) then (bif ((decide (0 ≤ j)) && (decide (j < (b.length : Int)))) then (bif ((a.getD (i).toNat em).toList == (b.getD (j).toNat em).toList) then (bif ((decide (0 ≤ i)) && (decide (i < (out.length : Int)))) then (bif ((decide (0 ≤ (w64 (i + 1)))) && (decide ((w64 (i + 1)) < (out.length : Int)))) then (bif ((decide (0 ≤ (w64 (j + 1)))) && (decide ((w64 (j + 1)) < ((out.getD ((w64 (i + 1))).toNat ([] : List Int)).length : Int)))) then (bif ((decide (0 ≤ j)) && (decide (j < ((out.getD (i).toNat ([] : List Int)).length : Int)))) then (impl_common.l16 a b (out.set (i).toNat ((out.getD (i).toNat ([] : List Int)).set (j).toNat (w64 (((out.getD ((w64 (i + 1))).toNat ([] : List Int)).getD ((w64 (j + 1))).toNat 0) + 1)))) i (w64 (j - 1))) else none) else none) else none) else none) else
     (bif ((decide (0 ≤ i)) && (decide (i < (out.length : Int)))) then (bif ((decide (0 ≤ (w64 (i + 1)))) && (decide ((w64 (i + 1)) < (out.length : Int)))) then (bif ((decide (0 ≤ j)) && (decide (j < ((out.getD ((w64 (i + 1))).toNat ([] : List Int)).length : Int)))) then (bif ((decide (0 ≤ i)) && (decide (i < (out.length : Int)))) then (bif ((decide (0 ≤ (w64 (j + 1)))) && (decide ((w64 (j + 1)) < ((out.getD (i).toNat ([] : List Int)).length : Int)))) then (bif ((decide (0 ≤ j)) && (decide (j < ((out.getD (i).toNat ([] : List Int)).length : Int)))) then (impl_common.l16 a b (out.set (i).toNat ((out.getD (i).toNat ([] : List Int)).set (j).toNat (max ((out.getD ((w64 (i + 1))).toNat ([] : List Int)).getD (j).toNat 0) ((out.getD (i).toNat ([] : List Int)).getD ((w64 (j + 1))).toNat 0)))) i (w64 (j - 1))) else none) else none) else none) else none) else none) else none)) else none) else none) else
  (impl_common.l8 a b out (w64 (i - 1)))) :=
  (fixP_eq impl_common.E impl_common.T impl_common.C impl_common.K 16 impl_common.D16 (a, b, out, i, j)).trans (by kernel_rfl)
theorem impl_common.f_eq (a : List ByteArray) (b : List ByteArray) : impl_common.f a b =
  (bif ((decide (0 ≤ (w64 ((a.length : Int) + 1)))) && (decide (((w64 ((a.length : Int) + 1))).toNat ≤ room 24))) then (bif ((decide (0 ≤ (w64 ((b.length : Int) + 1)))) && (decide (((w64 ((b.length : Int) + 1))).toNat ≤ room 8))) then (bif ((decide (0 ≤ (a.length : Int))) && (decide ((a.length : Int) < ((List.replicate ((w64 ((a.length : Int) + 1))).toNat ([] : List Int)).length : Int)))) then (impl_common.l8 a b ((List.replicate ((w64 ((a.length : Int) + 1))).toNat ([] : List Int)).set ((a.length : Int)).toNat (List.replicate ((w64 ((b.length : Int) + 1))).toNat 0)) (w64 ((a.length : Int) - 1))) else none) else none) else none) := by kernel_rfl
noncomputable def impl_common.S : Abs.Sum := ⟨impl_common.P, impl_common.R, fun _ => Fn impl_common.E impl_common.T impl_common.C impl_common.P impl_common.R impl_common.X⟩
theorem impl_common.meets : Meets Try.prog 157 impl_common.S := meets_tab (S := impl_common.U) tabOk_all AllMeets.nil AllStill.nil follows (by kernel_rfl : Try.prog.funcs[157]? = some Try.f157) (by kernel_rfl) (by kernel_rfl) (by kernel_rfl)
noncomputable def impl_commonLines.C : Code := Try.f142.body.getD .skip
def impl_commonLines.P : Par := (.cons (.val (.list .str)) (.cons (.val (.list .str)) .nil))
noncomputable def impl_commonLines.U : SumTab := [(157, [], impl_common.S)]
noncomputable def impl_commonLines.E : Env := mkEnv TY AR impl_commonLines.U
def impl_commonLines.D8 : CutD := ⟨[0, 1, 5, 6, 7, 8, 21, 22], (.cons (.val (.list .str)) (.cons (.val (.list .str)) (.cons (.own 8 (.list (.int .i64))) (.cons (.own 9 (.list (.int .i64))) (.cons (.val (.int .i64)) (.cons (.val (.int .i64)) (.cons (.val (.int .i64)) (.cons (.val (.int .i64)) .nil))))))))⟩
def impl_commonLines.D14 : CutD := ⟨[0, 1, 5, 6, 7, 8, 9, 10, 21, 22], (.cons (.val (.list .str)) (.cons (.val (.list .str)) (.cons (.own 8 (.list (.int .i64))) (.cons (.own 9 (.list (.int .i64))) (.cons (.val (.int .i64)) (.cons (.val (.int .i64)) (.cons (.val (.int .i64)) (.cons (.val (.int .i64)) (.cons (.val (.int .i64)) (.cons (.val (.int .i64)) .nil))))))))))⟩
def impl_commonLines.D19 : CutD := ⟨[0, 1, 5, 6, 7, 8, 9, 10, 21, 22], (.cons (.val (.list .str)) (.cons (.val (.list .str)) (.cons (.own 8 (.list (.int .i64))) (.cons (.own 9 (.list (.int .i64))) (.cons (.val (.int .i64)) (.cons (.val (.int .i64)) (.cons (.val (.int .i64)) (.cons (.val (.int .i64)) (.cons (.val (.int .i64)) (.cons (.val (.int .i64)) .nil))))))))))⟩
/-! impl_commonLines -/
noncomputable def impl_commonLines.T : Tab := fun k => look k [(8, impl_commonLines.D8), (14, impl_commonLines.D14), (19, impl_commonLines.D19)]
def impl_commonLines.R : List (Nat × Ty) := [(9, .list (.list (.int .i64)))]
def impl_commonLines.X : List ResultVar := [.tmp 4]
noncomputable def impl_commonLines.K := fin impl_commonLines.E ⟨impl_commonLines.P, impl_commonLines.R, fun _ _ => none⟩ impl_commonLines.X impl_commonLines.P.len 0
noncomputable def impl_commonLines.l8 (a : List ByteArray) (b : List ByteArray) (table : List (List Int)) (out : List (List Int)) (j : Int) (left : Int) (t21 : Int) (t22 : Int) : Option ((List (List Int))) := fixP impl_commonLines.E impl_commonLines.T impl_commonLines.C impl_commonLines.K 8 impl_commonLines.D8 (a, b, table, out, j, left, t21, t22)
noncomputable def impl_commonLines.l14 (a : List ByteArray) (b : List ByteArray) (table : List (List Int)) (out : List (List Int)) (j : Int) (left : Int) (i : Int) (k : Int) (t21 : Int) (t22 : Int) : Option ((List (List Int))) := fixP impl_commonLines.E impl_commonLines.T impl_commonLines.C impl_commonLines.K 14 impl_commonLines.D14 (a, b, table, out, j, left, i, k, t21, t22)
noncomputable def impl_commonLines.l19 (a : List ByteArray) (b : List ByteArray) (table : List (List Int)) (out : List (List Int)) (j : Int) (left : Int) (i : Int) (k : Int) (t21 : Int) (t22 : Int) : Option ((List (List Int))) := fixP impl_commonLines.E impl_commonLines.T impl_commonLines.C impl_commonLines.K 19 impl_commonLines.D19 (a, b, table, out, j, left, i, k, t21, t22)
noncomputable def impl_commonLines.f (a : List ByteArray) (b : List ByteArray) : Option ((List (List Int))) := Fn impl_commonLines.E impl_commonLines.T impl_commonLines.C impl_commonLines.P impl_commonLines.R impl_commonLines.X (a, b)
theorem impl_commonLines.l8_eq (a : List ByteArray) (b : List ByteArray) (table : List (List Int)) (out : List (List Int)) (j : Int) (left : Int) (t21 : Int) (t22 : Int) : impl_commonLines.l8 a b table out j left t21 t22 =
  (bif (decide (t22 < t21)) then (impl_commonLines.l14 a b table out j left t22 j t21 t22) else (some out)) :=
  (fixP_eq impl_commonLines.E impl_commonLines.T impl_commonLines.C impl_commonLines.K 8 impl_commonLines.D8 (a, b, table, out, j, left, t21, t22)).trans (by kernel_rfl)
theorem impl_commonLines.l14_eq (a : List ByteArray) (b : List ByteArray) (table : List (List Int)) (out : List (List Int)) (j : Int) (left : Int) (i : Int) (k : Int) (t21 : Int) (t22 : Int) : impl_commonLines.l14 a b table out j left i k t21 t22 =
  (bif (decide (k < (b.length : Int))) then (bif (decide (left > 0)) then (impl_commonLines.l19 a b table out j left i k t21 t22) else
   (impl_commonLines.l8 a b table out j left t21 (w64 (t22 + 1)))) else
  (impl_commonLines.l8 a b table out j left t21 (w64 (t22 + 1)))) :=
  (fixP_eq impl_commonLines.E impl_commonLines.T impl_commonLines.C impl_commonLines.K 14 impl_commonLines.D14 (a, b, table, out, j, left, i, k, t21, t22)).trans (by kernel_rfl)
theorem impl_commonLines.l19_eq (a : List ByteArray) (b : List ByteArray) (table : List (List Int)) (out : List (List Int)) (j : Int) (left : Int) (i : Int) (k : Int) (t21 : Int) (t22 : Int) : impl_commonLines.l19 a b table out j left i k t21 t22 =
  (bif ((decide (0 ≤ i)) && (decide (i < (a.length : Int)))) then (bif ((decide (0 ≤ k)) && (decide (k < (b.length : Int)))) then (bif ((a.getD (i).toNat em).toList == (b.getD (k).toNat em).toList) then (bif ((decide (0 ≤ (w64 (i + 1)))) && (decide ((w64 (i + 1)) < (table.length : Int)))) then (bif ((decide (0 ≤ (w64 (k + 1)))) && (decide ((w64 (k + 1)) < ((table.getD ((w64 (i + 1))).toNat ([] : List Int)).length : Int)))) then (bif (decide (((table.getD ((w64 (i + 1))).toNat ([] : List Int)).getD ((w64 (k + 1))).toNat 0) = (w64 (left - 1)))) then (bif (decide ((out.length + [[i, k]].length) ≤ room 24)) then (impl_commonLines.l8 a b table (out ++ [[i, k]]) (w64 (k + 1)) (w64 (left - 1)) t21 (w64 (t22 + 1))) else none) else
       (impl_commonLines.l14 a b table out j left i (w64 (k + 1)) t21 t22)) else none) else none) else
    (impl_commonLines.l14 a b table out j left i (w64 (k + 1)) t21 t22)) else none) else none) :=
  (fixP_eq impl_commonLines.E impl_commonLines.T impl_commonLines.C impl_commonLines.K 19 impl_commonLines.D19 (a, b, table, out, j, left, i, k, t21, t22)).trans (by kernel_rfl)
theorem impl_commonLines.f_eq (a : List ByteArray) (b : List ByteArray) : impl_commonLines.f a b =
  ((impl_common.f a b).bind fun y1 =>
  bif (decide (0 < (y1.length : Int))) then (bif (decide (0 < ((y1.getD 0 ([] : List Int)).length : Int))) then (impl_commonLines.l8 a b y1 ([] : List (List Int)) 0 ((y1.getD 0 ([] : List Int)).getD 0 0) (a.length : Int) 0) else none) else none) := by kernel_rfl
noncomputable def impl_commonLines.S : Abs.Sum := ⟨impl_commonLines.P, impl_commonLines.R, fun _ => Fn impl_commonLines.E impl_commonLines.T impl_commonLines.C impl_commonLines.P impl_commonLines.R impl_commonLines.X⟩
theorem impl_commonLines.meets : Meets Try.prog 142 impl_commonLines.S := meets_tab (S := impl_commonLines.U) tabOk_all (AllMeets.cons impl_common.meets AllMeets.nil) (AllStill.cons (fun _ _ _ => rfl) AllStill.nil) follows (by kernel_rfl : Try.prog.funcs[142]? = some Try.f142) (by kernel_rfl) (by kernel_rfl) (by kernel_rfl)
noncomputable def impl_between.C : Code := Try.f141.body.getD .skip
def impl_between.P : Par := (.cons (.val (.list .str)) (.cons (.val (.list .str)) (.cons (.val (.list (.list (.int .i64)))) .nil)))
noncomputable def impl_between.U : SumTab := [(171, [], slices_Clone_int_int.S), (108, [], slices_Clone_string_string.S)]
noncomputable def impl_between.E : Env := mkEnv TY AR impl_between.U
def impl_between.D6 : CutD := ⟨[1, 7, 8, 9, 21, 22, 23], (.cons (.val (.list .str)) (.cons (.own 9 (.pair (.int .i64) (.pair (.int .i64) (.one (.list .str))))) (.cons (.val (.int .i64)) (.cons (.val (.int .i64)) (.cons (.own 0 (.list (.int .i64))) (.cons (.val (.int .i64)) (.cons (.val (.int .i64)) .nil)))))))⟩
def impl_between.D15 : CutD := ⟨[1, 7, 11, 21, 22, 23], (.cons (.val (.list .str)) (.cons (.own 9 (.pair (.int .i64) (.pair (.int .i64) (.one (.list .str))))) (.cons (.val (.list (.int .i64))) (.cons (.own 0 (.list (.int .i64))) (.cons (.val (.int .i64)) (.cons (.val (.int .i64)) .nil))))))⟩
/-! impl_between -/
noncomputable def impl_between.T : Tab := fun k => look k [(6, impl_between.D6), (15, impl_between.D15)]
def impl_between.R : List (Nat × Ty) := [(9, .list (.pair (.int .i64) (.pair (.int .i64) (.one (.list .str)))))]
def impl_between.X : List ResultVar := [.tmp 6]
noncomputable def impl_between.K := fin impl_between.E ⟨impl_between.P, impl_between.R, fun _ _ => none⟩ impl_between.X impl_between.P.len 0
noncomputable def impl_between.l6 (b : List ByteArray) (out : List (Int × Int × List ByteArray)) (i : Int) (j : Int) (t21 : List (List Int)) (t22 : Int) (t23 : Int) : Option ((List (Int × Int × List ByteArray))) := fixP impl_between.E impl_between.T impl_between.C impl_between.K 6 impl_between.D6 (b, out, i, j, t21, t22, t23)
noncomputable def impl_between.l15 (b : List ByteArray) (out : List (Int × Int × List ByteArray)) (p : List Int) (t21 : List (List Int)) (t22 : Int) (t23 : Int) : Option ((List (Int × Int × List ByteArray))) := fixP impl_between.E impl_between.T impl_between.C impl_between.K 15 impl_between.D15 (b, out, p, t21, t22, t23)
noncomputable def impl_between.f (a : List ByteArray) (b : List ByteArray) (pairs : List (List Int)) : Option ((List (Int × Int × List ByteArray))) := Fn impl_between.E impl_between.T impl_between.C impl_between.P impl_between.R impl_between.X (a, b, pairs)
theorem impl_between.l6_eq (b : List ByteArray) (out : List (Int × Int × List ByteArray)) (i : Int) (j : Int) (t21 : List (List Int)) (t22 : Int) (t23 : Int) : impl_between.l6 b out i j t21 t22 t23 =
  (bif (decide (t23 < t22)) then (bif ((decide (0 ≤ t23)) && (decide (t23 < (t21.length : Int)))) then (bif (decide (0 < ((t21.getD (t23).toNat ([] : List Int)).length : Int))) then (bif (decide (((t21.getD (t23).toNat ([] : List Int)).getD 0 0) > i)) then (bif (decide (0 < ((t21.getD (t23).toNat ([] : List Int)).length : Int))) then (bif (decide (1 < ((t21.getD (t23).toNat ([] : List Int)).length : Int))) then (bif ((decide (0 ≤ j)) && ((decide (j ≤ ((t21.getD (t23).toNat ([] : List Int)).getD 1 0))) && (decide (((t21.getD (t23).toNat ([] : List Int)).getD 1 0) ≤ (b.length : Int))))) then ((slices_Clone_string_string.f ((b.take (((t21.getD (t23).toNat ([] : List Int)).getD 1 0)).toNat).drop (j).toNat)).bind fun y1 =>
         bif (decide ((out.length + [(i, (w64 (((t21.getD (t23).toNat ([] : List Int)).getD 0 0) - i)), y1)].length) ≤ room 40)) then (impl_between.l15 b (out ++ [(i, (w64 (((t21.getD (t23).toNat ([] : List Int)).getD 0 0) - i)), y1)]) (t21.getD (t23).toNat ([] : List Int)) t21 t22 t23) else none) else none) else none) else none) else
     (bif (decide (1 < ((t21.getD (t23).toNat ([] : List Int)).length : Int))) then (bif (decide (((t21.getD (t23).toNat ([] : List Int)).getD 1 0) > j)) then (bif (decide (0 < ((t21.getD (t23).toNat ([] : List Int)).length : Int))) then (bif (decide (1 < ((t21.getD (t23).toNat ([] : List Int)).length : Int))) then (bif ((decide (0 ≤ j)) && ((decide (j ≤ ((t21.getD (t23).toNat ([] : List Int)).getD 1 0))) && (decide (((t21.getD (t23).toNat ([] : List Int)).getD 1 0) ≤ (b.length : Int))))) then ((slices_Clone_string_string.f ((b.take (((t21.getD (t23).toNat ([] : List Int)).getD 1 0)).toNat).drop (j).toNat)).bind fun y1 =>
           bif (decide ((out.length + [(i, (w64 (((t21.getD (t23).toNat ([] : List Int)).getD 0 0) - i)), y1)].length) ≤ room 40)) then (impl_between.l15 b (out ++ [(i, (w64 (((t21.getD (t23).toNat ([] : List Int)).getD 0 0) - i)), y1)]) (t21.getD (t23).toNat ([] : List Int)) t21 t22 t23) else none) else none) else none) else none) else
       (impl_between.l15 b out (t21.getD (t23).toNat ([] : List Int)) t21 t22 t23)) else none)) else none) else none) else (some out)) :=
  (fixP_eq impl_between.E impl_between.T impl_between.C impl_between.K 6 impl_between.D6 (b, out, i, j, t21, t22, t23)).trans (by kernel_rfl)
theorem impl_between.l15_eq (b : List ByteArray) (out : List (Int × Int × List ByteArray)) (p : List Int) (t21 : List (List Int)) (t22 : Int) (t23 : Int) : impl_between.l15 b out p t21 t22 t23 =
  (bif (decide (0 < (p.length : Int))) then (bif (decide (1 < (p.length : Int))) then (impl_between.l6 b out (w64 ((p.getD 0 0) + 1)) (w64 ((p.getD 1 0) + 1)) t21 t22 (w64 (t23 + 1))) else none) else none) :=
  (fixP_eq impl_between.E impl_between.T impl_between.C impl_between.K 15 impl_between.D15 (b, out, p, t21, t22, t23)).trans (by kernel_rfl)
theorem impl_between.f_eq (a : List ByteArray) (b : List ByteArray) (pairs : List (List Int)) : impl_between.f a b pairs =
  ((slices_Clone_int_int.f pairs).bind fun y1 =>
  bif (decide ((y1.length + [[(a.length : Int), (b.length : Int)]].length) ≤ room 24)) then (impl_between.l6 b ([] : List (Int × Int × List ByteArray)) 0 0 (y1 ++ [[(a.length : Int), (b.length : Int)]]) ((y1 ++ [[(a.length : Int), (b.length : Int)]]).length : Int) 0) else none) := by kernel_rfl
noncomputable def impl_between.S : Abs.Sum := ⟨impl_between.P, impl_between.R, fun _ => Fn impl_between.E impl_between.T impl_between.C impl_between.P impl_between.R impl_between.X⟩
theorem impl_between.meets : Meets Try.prog 141 impl_between.S := meets_tab (S := impl_between.U) tabOk_all (AllMeets.cons slices_Clone_int_int.meets (AllMeets.cons slices_Clone_string_string.meets AllMeets.nil)) (AllStill.cons (fun _ _ _ => rfl) (AllStill.cons (fun _ _ _ => rfl) AllStill.nil)) follows (by kernel_rfl : Try.prog.funcs[141]? = some Try.f141) (by kernel_rfl) (by kernel_rfl) (by kernel_rfl)
noncomputable def impl_diff.C : Code := Try.f83.body.getD .skip
def impl_diff.P : Par := (.cons (.val (.list .str)) (.cons (.val (.list .str)) .nil))
noncomputable def impl_diff.U : SumTab := [(142, [], impl_commonLines.S), (141, [], impl_between.S)]
noncomputable def impl_diff.E : Env := mkEnv TY AR impl_diff.U
/-! impl_diff -/
noncomputable def impl_diff.T : Tab := fun k => look k []
def impl_diff.R : List (Nat × Ty) := [(9, .list (.pair (.int .i64) (.pair (.int .i64) (.one (.list .str)))))]
def impl_diff.X : List ResultVar := [.tmp 4]
noncomputable def impl_diff.K := fin impl_diff.E ⟨impl_diff.P, impl_diff.R, fun _ _ => none⟩ impl_diff.X impl_diff.P.len 0
noncomputable def impl_diff.f (a : List ByteArray) (b : List ByteArray) : Option ((List (Int × Int × List ByteArray))) := Fn impl_diff.E impl_diff.T impl_diff.C impl_diff.P impl_diff.R impl_diff.X (a, b)
theorem impl_diff.f_eq (a : List ByteArray) (b : List ByteArray) : impl_diff.f a b =
  ((impl_commonLines.f a b).bind fun y1 =>
  (impl_between.f a b y1).bind fun y2 =>
  some y2) := by kernel_rfl
noncomputable def impl_diff.S : Abs.Sum := ⟨impl_diff.P, impl_diff.R, fun _ => Fn impl_diff.E impl_diff.T impl_diff.C impl_diff.P impl_diff.R impl_diff.X⟩
theorem impl_diff.meets : Meets Try.prog 83 impl_diff.S := meets_tab (S := impl_diff.U) tabOk_all (AllMeets.cons impl_commonLines.meets (AllMeets.cons impl_between.meets AllMeets.nil)) (AllStill.cons (fun _ _ _ => rfl) (AllStill.cons (fun _ _ _ => rfl) AllStill.nil)) follows (by kernel_rfl : Try.prog.funcs[83]? = some Try.f83) (by kernel_rfl) (by kernel_rfl) (by kernel_rfl)
noncomputable def impl_goodHunks.C : Code := Try.f99.body.getD .skip
def impl_goodHunks.P : Par := (.cons (.val (.int .i64)) (.cons (.val (.list (.pair (.int .i64) (.pair (.int .i64) (.one (.list .str)))))) .nil))
noncomputable def impl_goodHunks.U : SumTab := [(104, [], impl_in.S), (79, [], impl_areLines.S)]
noncomputable def impl_goodHunks.E : Env := mkEnv TY AR impl_goodHunks.U
def impl_goodHunks.D7 : CutD := ⟨[0, 1], (.cons (.val (.int .i64)) (.cons (.val (.list (.pair (.int .i64) (.pair (.int .i64) (.one (.list .str)))))) .nil))⟩
def impl_goodHunks.D8 : CutD := ⟨[0, 1, 15, 16, 17], (.cons (.val (.int .i64)) (.cons (.val (.list (.pair (.int .i64) (.pair (.int .i64) (.one (.list .str)))))) (.cons (.val (.list (.pair (.int .i64) (.pair (.int .i64) (.one (.list .str)))))) (.cons (.val (.int .i64)) (.cons (.val (.int .i64)) .nil)))))⟩
def impl_goodHunks.D17 : CutD := ⟨[0, 1, 5, 6, 15, 16, 17], (.cons (.val (.int .i64)) (.cons (.val (.list (.pair (.int .i64) (.pair (.int .i64) (.one (.list .str)))))) (.cons (.val (.int .i64)) (.cons (.box 0 (.pair (.int .i64) (.pair (.int .i64) (.one (.list .str))))) (.cons (.val (.list (.pair (.int .i64) (.pair (.int .i64) (.one (.list .str)))))) (.cons (.val (.int .i64)) (.cons (.val (.int .i64)) .nil)))))))⟩
/-! impl_goodHunks -/
noncomputable def impl_goodHunks.T : Tab := fun k => look k [(7, impl_goodHunks.D7), (8, impl_goodHunks.D8), (17, impl_goodHunks.D17)]
def impl_goodHunks.R : List (Nat × Ty) := [(0, .bool)]
def impl_goodHunks.X : List ResultVar := [.tmp 4]
noncomputable def impl_goodHunks.K := fin impl_goodHunks.E ⟨impl_goodHunks.P, impl_goodHunks.R, fun _ _ => none⟩ impl_goodHunks.X impl_goodHunks.P.len 0
noncomputable def impl_goodHunks.l7 (many : Int) (h : List (Int × Int × List ByteArray)) : Option (Bool) := fixP impl_goodHunks.E impl_goodHunks.T impl_goodHunks.C impl_goodHunks.K 7 impl_goodHunks.D7 (many, h)
noncomputable def impl_goodHunks.l8 (many : Int) (h : List (Int × Int × List ByteArray)) (t15 : List (Int × Int × List ByteArray)) (t16 : Int) (t17 : Int) : Option (Bool) := fixP impl_goodHunks.E impl_goodHunks.T impl_goodHunks.C impl_goodHunks.K 8 impl_goodHunks.D8 (many, h, t15, t16, t17)
noncomputable def impl_goodHunks.l17 (many : Int) (h : List (Int × Int × List ByteArray)) (i : Int) (x : Int × Int × List ByteArray) (t15 : List (Int × Int × List ByteArray)) (t16 : Int) (t17 : Int) : Option (Bool) := fixP impl_goodHunks.E impl_goodHunks.T impl_goodHunks.C impl_goodHunks.K 17 impl_goodHunks.D17 (many, h, i, x, t15, t16, t17)
noncomputable def impl_goodHunks.f (many : Int) (h : List (Int × Int × List ByteArray)) : Option (Bool) := Fn impl_goodHunks.E impl_goodHunks.T impl_goodHunks.C impl_goodHunks.P impl_goodHunks.R impl_goodHunks.X (many, h)
theorem impl_goodHunks.l7_eq (many : Int) (h : List (Int × Int × List ByteArray)) : impl_goodHunks.l7 many h =
  (impl_goodHunks.l8 many h h (h.length : Int) 0) :=
  (fixP_eq impl_goodHunks.E impl_goodHunks.T impl_goodHunks.C impl_goodHunks.K 7 impl_goodHunks.D7 (many, h)).trans (by kernel_rfl)
theorem impl_goodHunks.l8_eq (many : Int) (h : List (Int × Int × List ByteArray)) (t15 : List (Int × Int × List ByteArray)) (t16 : Int) (t17 : Int) : impl_goodHunks.l8 many h t15 t16 t17 =
  (bif (decide (t17 < t16)) then (bif ((decide (0 ≤ t17)) && (decide (t17 < (t15.length : Int)))) then ((impl_in.f (t15.getD (t17).toNat (0, 0, ([] : List ByteArray))).1 0 many).bind fun y1 =>
    bif (!y1) then (some false) else
    ((impl_in.f (t15.getD (t17).toNat (0, 0, ([] : List ByteArray))).2.1 0 (w64 (many - (t15.getD (t17).toNat (0, 0, ([] : List ByteArray))).1))).bind fun y2 =>
     bif (!y2) then (some false) else
     ((impl_areLines.f (t15.getD (t17).toNat (0, 0, ([] : List ByteArray))).2.2).bind fun y3 =>
      bif (!y3) then (some false) else
      (bif (decide ((t15.getD (t17).toNat (0, 0, ([] : List ByteArray))).2.1 = 0)) then (bif (decide (((t15.getD (t17).toNat (0, 0, ([] : List ByteArray))).2.2.length : Int) = 0)) then (some false) else
        (impl_goodHunks.l17 many h t17 (t15.getD (t17).toNat (0, 0, ([] : List ByteArray))) t15 t16 t17)) else
       (impl_goodHunks.l17 many h t17 (t15.getD (t17).toNat (0, 0, ([] : List ByteArray))) t15 t16 t17))))) else none) else (some true)) :=
  (fixP_eq impl_goodHunks.E impl_goodHunks.T impl_goodHunks.C impl_goodHunks.K 8 impl_goodHunks.D8 (many, h, t15, t16, t17)).trans (by kernel_rfl)
theorem impl_goodHunks.l17_eq (many : Int) (h : List (Int × Int × List ByteArray)) (i : Int) (x : Int × Int × List ByteArray) (t15 : List (Int × Int × List ByteArray)) (t16 : Int) (t17 : Int) : impl_goodHunks.l17 many h i x t15 t16 t17 =
  (bif (decide (i > 0)) then (bif ((decide (0 ≤ (w64 (i - 1)))) && (decide ((w64 (i - 1)) < (h.length : Int)))) then (bif ((decide (0 ≤ (w64 (i - 1)))) && (decide ((w64 (i - 1)) < (h.length : Int)))) then (bif (decide (x.1 ≤ (w64 ((h.getD ((w64 (i - 1))).toNat (0, 0, ([] : List ByteArray))).1 + (h.getD ((w64 (i - 1))).toNat (0, 0, ([] : List ByteArray))).2.1)))) then (some false) else
     (impl_goodHunks.l8 many h t15 t16 (w64 (t17 + 1)))) else none) else none) else
  (impl_goodHunks.l8 many h t15 t16 (w64 (t17 + 1)))) :=
  (fixP_eq impl_goodHunks.E impl_goodHunks.T impl_goodHunks.C impl_goodHunks.K 17 impl_goodHunks.D17 (many, h, i, x, t15, t16, t17)).trans (by kernel_rfl)
theorem impl_goodHunks.f_eq (many : Int) (h : List (Int × Int × List ByteArray)) : impl_goodHunks.f many h =
  ((impl_in.f many 0 40).bind fun y1 =>
  bif (!y1) then (some false) else
  (bif (decide ((h.length : Int) > 20)) then (some false) else
   (impl_goodHunks.l7 many h))) := by kernel_rfl
noncomputable def impl_goodHunks.S : Abs.Sum := ⟨impl_goodHunks.P, impl_goodHunks.R, fun _ => Fn impl_goodHunks.E impl_goodHunks.T impl_goodHunks.C impl_goodHunks.P impl_goodHunks.R impl_goodHunks.X⟩
theorem impl_goodHunks.meets : Meets Try.prog 99 impl_goodHunks.S := meets_tab (S := impl_goodHunks.U) tabOk_all (AllMeets.cons impl_in.meets (AllMeets.cons impl_areLines.meets AllMeets.nil)) (AllStill.cons (fun _ _ _ => rfl) (AllStill.cons (fun _ _ _ => rfl) AllStill.nil)) follows (by kernel_rfl : Try.prog.funcs[99]? = some Try.f99) (by kernel_rfl) (by kernel_rfl) (by kernel_rfl)
noncomputable def impl_DiffHunks.C : Code := Try.f37.body.getD .skip
def impl_DiffHunks.P : Par := (.cons (.val (.list .str)) (.cons (.val (.list .str)) .nil))
noncomputable def impl_DiffHunks.U : SumTab := [(78, [], impl_goodLines.S), (83, [], impl_diff.S), (99, [], impl_goodHunks.S)]
noncomputable def impl_DiffHunks.E : Env := mkEnv TY AR impl_DiffHunks.U
def impl_DiffHunks.D7 : CutD := ⟨[0, 1], (.cons (.val (.list .str)) (.cons (.val (.list .str)) .nil))⟩
/-! impl_DiffHunks -/
noncomputable def impl_DiffHunks.T : Tab := fun k => look k [(7, impl_DiffHunks.D7)]
def impl_DiffHunks.R : List (Nat × Ty) := [(9, .list (.pair (.int .i64) (.pair (.int .i64) (.one (.list .str))))), (0, .bool)]
def impl_DiffHunks.X : List ResultVar := [.tmp 4, .tmp 5]
noncomputable def impl_DiffHunks.K := fin impl_DiffHunks.E ⟨impl_DiffHunks.P, impl_DiffHunks.R, fun _ _ => none⟩ impl_DiffHunks.X impl_DiffHunks.P.len 0
noncomputable def impl_DiffHunks.l7 (a : List ByteArray) (b : List ByteArray) : Option ((List (Int × Int × List ByteArray)) × Bool) := fixP impl_DiffHunks.E impl_DiffHunks.T impl_DiffHunks.C impl_DiffHunks.K 7 impl_DiffHunks.D7 (a, b)
noncomputable def impl_DiffHunks.f (a : List ByteArray) (b : List ByteArray) : Option ((List (Int × Int × List ByteArray)) × Bool) := Fn impl_DiffHunks.E impl_DiffHunks.T impl_DiffHunks.C impl_DiffHunks.P impl_DiffHunks.R impl_DiffHunks.X (a, b)
theorem impl_DiffHunks.l7_eq (a : List ByteArray) (b : List ByteArray) : impl_DiffHunks.l7 a b =
  ((impl_diff.f a b).bind fun y1 =>
  (impl_goodHunks.f (a.length : Int) y1).bind fun y2 =>
  bif (!y2) then (some (([] : List (Int × Int × List ByteArray)), false)) else (some (y1, true))) :=
  (fixP_eq impl_DiffHunks.E impl_DiffHunks.T impl_DiffHunks.C impl_DiffHunks.K 7 impl_DiffHunks.D7 (a, b)).trans (by kernel_rfl)
theorem impl_DiffHunks.f_eq (a : List ByteArray) (b : List ByteArray) : impl_DiffHunks.f a b =
  ((impl_goodLines.f a).bind fun y1 =>
  bif (!y1) then (some (([] : List (Int × Int × List ByteArray)), false)) else
  ((impl_goodLines.f b).bind fun y2 =>
   bif (!y2) then (some (([] : List (Int × Int × List ByteArray)), false)) else
   (impl_DiffHunks.l7 a b))) := by kernel_rfl
noncomputable def impl_DiffHunks.S : Abs.Sum := ⟨impl_DiffHunks.P, impl_DiffHunks.R, fun _ => Fn impl_DiffHunks.E impl_DiffHunks.T impl_DiffHunks.C impl_DiffHunks.P impl_DiffHunks.R impl_DiffHunks.X⟩
theorem impl_DiffHunks.meets : Meets Try.prog 37 impl_DiffHunks.S := meets_tab (S := impl_DiffHunks.U) tabOk_all (AllMeets.cons impl_goodLines.meets (AllMeets.cons impl_diff.meets (AllMeets.cons impl_goodHunks.meets AllMeets.nil))) (AllStill.cons (fun _ _ _ => rfl) (AllStill.cons (fun _ _ _ => rfl) (AllStill.cons (fun _ _ _ => rfl) AllStill.nil))) follows (by kernel_rfl : Try.prog.funcs[37]? = some Try.f37) (by kernel_rfl) (by kernel_rfl) (by kernel_rfl)
noncomputable def impl_SeriesOf.C : Code := Try.f51.body.getD .skip
def impl_SeriesOf.P : Par := (.cons (.val (.list (.list .str))) .nil)
noncomputable def impl_SeriesOf.U : SumTab := [(107, [], impl_areVersions.S), (108, [], slices_Clone_string_string.S), (37, [], impl_DiffHunks.S)]
noncomputable def impl_SeriesOf.E : Env := mkEnv TY AR impl_SeriesOf.U
def impl_SeriesOf.D10 : CutD := ⟨[0, 2, 4, 5], (.cons (.val (.list (.list .str))) (.cons (.box 9 (.pair (.list .str) (.one (.list (.list (.pair (.int .i64) (.pair (.int .i64) (.one (.list .str))))))))) (.cons (.box 9 (.pair (.list .str) (.one (.list (.list (.pair (.int .i64) (.pair (.int .i64) (.one (.list .str))))))))) (.cons (.val (.int .i64)) .nil))))⟩
/-! impl_SeriesOf -/
noncomputable def impl_SeriesOf.T : Tab := fun k => look k [(10, impl_SeriesOf.D10)]
def impl_SeriesOf.R : List (Nat × Ty) := [(9, .pair (.list .str) (.one (.list (.list (.pair (.int .i64) (.pair (.int .i64) (.one (.list .str)))))))), (0, .bool)]
def impl_SeriesOf.X : List ResultVar := [.cell 2 68, .tmp 3]
noncomputable def impl_SeriesOf.K := fin impl_SeriesOf.E ⟨impl_SeriesOf.P, impl_SeriesOf.R, fun _ _ => none⟩ impl_SeriesOf.X impl_SeriesOf.P.len 0
noncomputable def impl_SeriesOf.l10 (v : List (List ByteArray)) (t2 : (List ByteArray) × List (List (Int × Int × List ByteArray))) (s : (List ByteArray) × List (List (Int × Int × List ByteArray))) (n : Int) : Option (((List ByteArray) × List (List (Int × Int × List ByteArray))) × Bool) := fixP impl_SeriesOf.E impl_SeriesOf.T impl_SeriesOf.C impl_SeriesOf.K 10 impl_SeriesOf.D10 (v, t2, s, n)
noncomputable def impl_SeriesOf.f (v : List (List ByteArray)) : Option (((List ByteArray) × List (List (Int × Int × List ByteArray))) × Bool) := Fn impl_SeriesOf.E impl_SeriesOf.T impl_SeriesOf.C impl_SeriesOf.P impl_SeriesOf.R impl_SeriesOf.X v
theorem impl_SeriesOf.l10_eq (v : List (List ByteArray)) (t2 : (List ByteArray) × List (List (Int × Int × List ByteArray))) (s : (List ByteArray) × List (List (Int × Int × List ByteArray))) (n : Int) : impl_SeriesOf.l10 v t2 s n =
  (bif (decide (n < (v.length : Int))) then (bif ((decide (0 ≤ (w64 (n - 1)))) && (decide ((w64 (n - 1)) < (v.length : Int)))) then (bif ((decide (0 ≤ n)) && (decide (n < (v.length : Int)))) then ((impl_DiffHunks.f (v.getD ((w64 (n - 1))).toNat ([] : List ByteArray)) (v.getD (n).toNat ([] : List ByteArray))).bind fun y1 =>
     bif (!y1.2) then (some ((([] : List ByteArray), ([] : List (List (Int × Int × List ByteArray)))), false)) else
     (bif (decide ((s.2.length + [y1.1].length) ≤ room 24)) then (impl_SeriesOf.l10 v (t2.1, t2.2) (s.1, (s.2 ++ [y1.1])) (w64 (n + 1))) else none)) else none) else none) else (some ((s.1, s.2), true))) :=
  (fixP_eq impl_SeriesOf.E impl_SeriesOf.T impl_SeriesOf.C impl_SeriesOf.K 10 impl_SeriesOf.D10 (v, t2, s, n)).trans (by kernel_rfl)
theorem impl_SeriesOf.f_eq (v : List (List ByteArray)) : impl_SeriesOf.f v =
  ((impl_areVersions.f v).bind fun y1 =>
  bif (!y1) then (some ((([] : List ByteArray), ([] : List (List (Int × Int × List ByteArray)))), false)) else
  (bif (decide (0 < (v.length : Int))) then ((slices_Clone_string_string.f (v.getD 0 ([] : List ByteArray))).bind fun y2 =>
    impl_SeriesOf.l10 v (([] : List ByteArray), ([] : List (List (Int × Int × List ByteArray)))) (y2, ([] : List (List (Int × Int × List ByteArray)))) 1) else none)) := by kernel_rfl
noncomputable def impl_SeriesOf.S : Abs.Sum := ⟨impl_SeriesOf.P, impl_SeriesOf.R, fun _ => Fn impl_SeriesOf.E impl_SeriesOf.T impl_SeriesOf.C impl_SeriesOf.P impl_SeriesOf.R impl_SeriesOf.X⟩
theorem impl_SeriesOf.meets : Meets Try.prog 51 impl_SeriesOf.S := meets_tab (S := impl_SeriesOf.U) tabOk_all (AllMeets.cons impl_areVersions.meets (AllMeets.cons slices_Clone_string_string.meets (AllMeets.cons impl_DiffHunks.meets AllMeets.nil))) (AllStill.cons (fun _ _ _ => rfl) (AllStill.cons (fun _ _ _ => rfl) (AllStill.cons (fun _ _ _ => rfl) AllStill.nil))) follows (by kernel_rfl : Try.prog.funcs[51]? = some Try.f51) (by kernel_rfl) (by kernel_rfl) (by kernel_rfl)
noncomputable def laws_eqStringS.C : Code := Try.f19.body.getD .skip
def laws_eqStringS.P : Par := (.cons (.val (.list .str)) (.cons (.val (.list .str)) .nil))
noncomputable def laws_eqStringS.U : SumTab := []
noncomputable def laws_eqStringS.E : Env := mkEnv TY AR laws_eqStringS.U
def laws_eqStringS.D8 : CutD := ⟨[0, 1, 5], (.cons (.val (.list .str)) (.cons (.val (.list .str)) (.cons (.val (.int .i64)) .nil)))⟩
/-! laws_eqStringS -/
noncomputable def laws_eqStringS.T : Tab := fun k => look k [(8, laws_eqStringS.D8)]
def laws_eqStringS.R : List (Nat × Ty) := [(0, .bool)]
def laws_eqStringS.X : List ResultVar := [.tmp 4]
noncomputable def laws_eqStringS.K := fin laws_eqStringS.E ⟨laws_eqStringS.P, laws_eqStringS.R, fun _ _ => none⟩ laws_eqStringS.X laws_eqStringS.P.len 0
noncomputable def laws_eqStringS.l8 (a : List ByteArray) (b : List ByteArray) (i : Int) : Option (Bool) := fixP laws_eqStringS.E laws_eqStringS.T laws_eqStringS.C laws_eqStringS.K 8 laws_eqStringS.D8 (a, b, i)
noncomputable def laws_eqStringS.f (a : List ByteArray) (b : List ByteArray) : Option (Bool) := Fn laws_eqStringS.E laws_eqStringS.T laws_eqStringS.C laws_eqStringS.P laws_eqStringS.R laws_eqStringS.X (a, b)
theorem laws_eqStringS.l8_eq (a : List ByteArray) (b : List ByteArray) (i : Int) : laws_eqStringS.l8 a b i =
  (bif (decide (i < (a.length : Int))) then (bif ((decide (0 ≤ i)) && (decide (i < (a.length : Int)))) then (bif ((decide (0 ≤ i)) && (decide (i < (b.length : Int)))) then (bif (!((a.getD (i).toNat em).toList == (b.getD (i).toNat em).toList)) then (some false) else
     (laws_eqStringS.l8 a b (w64 (i + 1)))) else none) else none) else (some true)) :=
  (fixP_eq laws_eqStringS.E laws_eqStringS.T laws_eqStringS.C laws_eqStringS.K 8 laws_eqStringS.D8 (a, b, i)).trans (by kernel_rfl)
theorem laws_eqStringS.f_eq (a : List ByteArray) (b : List ByteArray) : laws_eqStringS.f a b =
  (bif (!(decide ((a.length : Int) = (b.length : Int)))) then (some false) else
  (laws_eqStringS.l8 a b 0)) := by kernel_rfl
noncomputable def laws_eqStringS.S : Abs.Sum := ⟨laws_eqStringS.P, laws_eqStringS.R, fun _ => Fn laws_eqStringS.E laws_eqStringS.T laws_eqStringS.C laws_eqStringS.P laws_eqStringS.R laws_eqStringS.X⟩
theorem laws_eqStringS.meets : Meets Try.prog 19 laws_eqStringS.S := meets_tab (S := laws_eqStringS.U) tabOk_all AllMeets.nil AllStill.nil follows (by kernel_rfl : Try.prog.funcs[19]? = some Try.f19) (by kernel_rfl) (by kernel_rfl) (by kernel_rfl)
noncomputable def laws_eqHunk.C : Code := Try.f100.body.getD .skip
def laws_eqHunk.P : Par := (.cons (.val (.pair (.int .i64) (.pair (.int .i64) (.one (.list .str))))) (.cons (.val (.pair (.int .i64) (.pair (.int .i64) (.one (.list .str))))) .nil))
noncomputable def laws_eqHunk.U : SumTab := [(19, [], laws_eqStringS.S)]
noncomputable def laws_eqHunk.E : Env := mkEnv TY AR laws_eqHunk.U
/-! laws_eqHunk -/
noncomputable def laws_eqHunk.T : Tab := fun k => look k []
def laws_eqHunk.R : List (Nat × Ty) := [(0, .bool)]
def laws_eqHunk.X : List ResultVar := [.tmp 4]
noncomputable def laws_eqHunk.K := fin laws_eqHunk.E ⟨laws_eqHunk.P, laws_eqHunk.R, fun _ _ => none⟩ laws_eqHunk.X laws_eqHunk.P.len 0
noncomputable def laws_eqHunk.f (a : Int × Int × List ByteArray) (b : Int × Int × List ByteArray) : Option (Bool) := Fn laws_eqHunk.E laws_eqHunk.T laws_eqHunk.C laws_eqHunk.P laws_eqHunk.R laws_eqHunk.X (a, b)
theorem laws_eqHunk.f_eq (a : Int × Int × List ByteArray) (b : Int × Int × List ByteArray) : laws_eqHunk.f a b =
  (bif (!(decide (a.1 = b.1))) then (some false) else
  (bif (!(decide (a.2.1 = b.2.1))) then (some false) else
   ((laws_eqStringS.f a.2.2 b.2.2).bind fun y1 =>
    bif (!y1) then (some false) else (some true)))) := by kernel_rfl
noncomputable def laws_eqHunk.S : Abs.Sum := ⟨laws_eqHunk.P, laws_eqHunk.R, fun _ => Fn laws_eqHunk.E laws_eqHunk.T laws_eqHunk.C laws_eqHunk.P laws_eqHunk.R laws_eqHunk.X⟩
theorem laws_eqHunk.meets : Meets Try.prog 100 laws_eqHunk.S := meets_tab (S := laws_eqHunk.U) tabOk_all (AllMeets.cons laws_eqStringS.meets AllMeets.nil) (AllStill.cons (fun _ _ _ => rfl) AllStill.nil) follows (by kernel_rfl : Try.prog.funcs[100]? = some Try.f100) (by kernel_rfl) (by kernel_rfl) (by kernel_rfl)
noncomputable def laws_eqHunkS.C : Code := Try.f38.body.getD .skip
def laws_eqHunkS.P : Par := (.cons (.val (.list (.pair (.int .i64) (.pair (.int .i64) (.one (.list .str)))))) (.cons (.val (.list (.pair (.int .i64) (.pair (.int .i64) (.one (.list .str)))))) .nil))
noncomputable def laws_eqHunkS.U : SumTab := [(100, [], laws_eqHunk.S)]
noncomputable def laws_eqHunkS.E : Env := mkEnv TY AR laws_eqHunkS.U
def laws_eqHunkS.D8 : CutD := ⟨[0, 1, 5], (.cons (.val (.list (.pair (.int .i64) (.pair (.int .i64) (.one (.list .str)))))) (.cons (.val (.list (.pair (.int .i64) (.pair (.int .i64) (.one (.list .str)))))) (.cons (.val (.int .i64)) .nil)))⟩
/-! laws_eqHunkS -/
noncomputable def laws_eqHunkS.T : Tab := fun k => look k [(8, laws_eqHunkS.D8)]
def laws_eqHunkS.R : List (Nat × Ty) := [(0, .bool)]
def laws_eqHunkS.X : List ResultVar := [.tmp 4]
noncomputable def laws_eqHunkS.K := fin laws_eqHunkS.E ⟨laws_eqHunkS.P, laws_eqHunkS.R, fun _ _ => none⟩ laws_eqHunkS.X laws_eqHunkS.P.len 0
noncomputable def laws_eqHunkS.l8 (a : List (Int × Int × List ByteArray)) (b : List (Int × Int × List ByteArray)) (i : Int) : Option (Bool) := fixP laws_eqHunkS.E laws_eqHunkS.T laws_eqHunkS.C laws_eqHunkS.K 8 laws_eqHunkS.D8 (a, b, i)
noncomputable def laws_eqHunkS.f (a : List (Int × Int × List ByteArray)) (b : List (Int × Int × List ByteArray)) : Option (Bool) := Fn laws_eqHunkS.E laws_eqHunkS.T laws_eqHunkS.C laws_eqHunkS.P laws_eqHunkS.R laws_eqHunkS.X (a, b)
theorem laws_eqHunkS.l8_eq (a : List (Int × Int × List ByteArray)) (b : List (Int × Int × List ByteArray)) (i : Int) : laws_eqHunkS.l8 a b i =
  (bif (decide (i < (a.length : Int))) then (bif ((decide (0 ≤ i)) && (decide (i < (a.length : Int)))) then (bif ((decide (0 ≤ i)) && (decide (i < (b.length : Int)))) then ((laws_eqHunk.f (a.getD (i).toNat (0, 0, ([] : List ByteArray))) (b.getD (i).toNat (0, 0, ([] : List ByteArray)))).bind fun y1 =>
     bif (!y1) then (some false) else
     (laws_eqHunkS.l8 a b (w64 (i + 1)))) else none) else none) else (some true)) :=
  (fixP_eq laws_eqHunkS.E laws_eqHunkS.T laws_eqHunkS.C laws_eqHunkS.K 8 laws_eqHunkS.D8 (a, b, i)).trans (by kernel_rfl)
theorem laws_eqHunkS.f_eq (a : List (Int × Int × List ByteArray)) (b : List (Int × Int × List ByteArray)) : laws_eqHunkS.f a b =
  (bif (!(decide ((a.length : Int) = (b.length : Int)))) then (some false) else
  (laws_eqHunkS.l8 a b 0)) := by kernel_rfl
noncomputable def laws_eqHunkS.S : Abs.Sum := ⟨laws_eqHunkS.P, laws_eqHunkS.R, fun _ => Fn laws_eqHunkS.E laws_eqHunkS.T laws_eqHunkS.C laws_eqHunkS.P laws_eqHunkS.R laws_eqHunkS.X⟩
theorem laws_eqHunkS.meets : Meets Try.prog 38 laws_eqHunkS.S := meets_tab (S := laws_eqHunkS.U) tabOk_all (AllMeets.cons laws_eqHunk.meets AllMeets.nil) (AllStill.cons (fun _ _ _ => rfl) AllStill.nil) follows (by kernel_rfl : Try.prog.funcs[38]? = some Try.f38) (by kernel_rfl) (by kernel_rfl) (by kernel_rfl)
noncomputable def laws_eqHunkSS.C : Code := Try.f109.body.getD .skip
def laws_eqHunkSS.P : Par := (.cons (.val (.list (.list (.pair (.int .i64) (.pair (.int .i64) (.one (.list .str))))))) (.cons (.val (.list (.list (.pair (.int .i64) (.pair (.int .i64) (.one (.list .str))))))) .nil))
noncomputable def laws_eqHunkSS.U : SumTab := [(38, [], laws_eqHunkS.S)]
noncomputable def laws_eqHunkSS.E : Env := mkEnv TY AR laws_eqHunkSS.U
def laws_eqHunkSS.D8 : CutD := ⟨[0, 1, 5], (.cons (.val (.list (.list (.pair (.int .i64) (.pair (.int .i64) (.one (.list .str))))))) (.cons (.val (.list (.list (.pair (.int .i64) (.pair (.int .i64) (.one (.list .str))))))) (.cons (.val (.int .i64)) .nil)))⟩
/-! laws_eqHunkSS -/
noncomputable def laws_eqHunkSS.T : Tab := fun k => look k [(8, laws_eqHunkSS.D8)]
def laws_eqHunkSS.R : List (Nat × Ty) := [(0, .bool)]
def laws_eqHunkSS.X : List ResultVar := [.tmp 4]
noncomputable def laws_eqHunkSS.K := fin laws_eqHunkSS.E ⟨laws_eqHunkSS.P, laws_eqHunkSS.R, fun _ _ => none⟩ laws_eqHunkSS.X laws_eqHunkSS.P.len 0
noncomputable def laws_eqHunkSS.l8 (a : List (List (Int × Int × List ByteArray))) (b : List (List (Int × Int × List ByteArray))) (i : Int) : Option (Bool) := fixP laws_eqHunkSS.E laws_eqHunkSS.T laws_eqHunkSS.C laws_eqHunkSS.K 8 laws_eqHunkSS.D8 (a, b, i)
noncomputable def laws_eqHunkSS.f (a : List (List (Int × Int × List ByteArray))) (b : List (List (Int × Int × List ByteArray))) : Option (Bool) := Fn laws_eqHunkSS.E laws_eqHunkSS.T laws_eqHunkSS.C laws_eqHunkSS.P laws_eqHunkSS.R laws_eqHunkSS.X (a, b)
theorem laws_eqHunkSS.l8_eq (a : List (List (Int × Int × List ByteArray))) (b : List (List (Int × Int × List ByteArray))) (i : Int) : laws_eqHunkSS.l8 a b i =
  (bif (decide (i < (a.length : Int))) then (bif ((decide (0 ≤ i)) && (decide (i < (a.length : Int)))) then (bif ((decide (0 ≤ i)) && (decide (i < (b.length : Int)))) then ((laws_eqHunkS.f (a.getD (i).toNat ([] : List (Int × Int × List ByteArray))) (b.getD (i).toNat ([] : List (Int × Int × List ByteArray)))).bind fun y1 =>
     bif (!y1) then (some false) else
     (laws_eqHunkSS.l8 a b (w64 (i + 1)))) else none) else none) else (some true)) :=
  (fixP_eq laws_eqHunkSS.E laws_eqHunkSS.T laws_eqHunkSS.C laws_eqHunkSS.K 8 laws_eqHunkSS.D8 (a, b, i)).trans (by kernel_rfl)
theorem laws_eqHunkSS.f_eq (a : List (List (Int × Int × List ByteArray))) (b : List (List (Int × Int × List ByteArray))) : laws_eqHunkSS.f a b =
  (bif (!(decide ((a.length : Int) = (b.length : Int)))) then (some false) else
  (laws_eqHunkSS.l8 a b 0)) := by kernel_rfl
noncomputable def laws_eqHunkSS.S : Abs.Sum := ⟨laws_eqHunkSS.P, laws_eqHunkSS.R, fun _ => Fn laws_eqHunkSS.E laws_eqHunkSS.T laws_eqHunkSS.C laws_eqHunkSS.P laws_eqHunkSS.R laws_eqHunkSS.X⟩
theorem laws_eqHunkSS.meets : Meets Try.prog 109 laws_eqHunkSS.S := meets_tab (S := laws_eqHunkSS.U) tabOk_all (AllMeets.cons laws_eqHunkS.meets AllMeets.nil) (AllStill.cons (fun _ _ _ => rfl) AllStill.nil) follows (by kernel_rfl : Try.prog.funcs[109]? = some Try.f109) (by kernel_rfl) (by kernel_rfl) (by kernel_rfl)
noncomputable def laws_eqSeries.C : Code := Try.f52.body.getD .skip
def laws_eqSeries.P : Par := (.cons (.val (.pair (.list .str) (.one (.list (.list (.pair (.int .i64) (.pair (.int .i64) (.one (.list .str))))))))) (.cons (.val (.pair (.list .str) (.one (.list (.list (.pair (.int .i64) (.pair (.int .i64) (.one (.list .str))))))))) .nil))
noncomputable def laws_eqSeries.U : SumTab := [(19, [], laws_eqStringS.S), (109, [], laws_eqHunkSS.S)]
noncomputable def laws_eqSeries.E : Env := mkEnv TY AR laws_eqSeries.U
/-! laws_eqSeries -/
noncomputable def laws_eqSeries.T : Tab := fun k => look k []
def laws_eqSeries.R : List (Nat × Ty) := [(0, .bool)]
def laws_eqSeries.X : List ResultVar := [.tmp 4]
noncomputable def laws_eqSeries.K := fin laws_eqSeries.E ⟨laws_eqSeries.P, laws_eqSeries.R, fun _ _ => none⟩ laws_eqSeries.X laws_eqSeries.P.len 0
noncomputable def laws_eqSeries.f (a : (List ByteArray) × List (List (Int × Int × List ByteArray))) (b : (List ByteArray) × List (List (Int × Int × List ByteArray))) : Option (Bool) := Fn laws_eqSeries.E laws_eqSeries.T laws_eqSeries.C laws_eqSeries.P laws_eqSeries.R laws_eqSeries.X (a, b)
theorem laws_eqSeries.f_eq (a : (List ByteArray) × List (List (Int × Int × List ByteArray))) (b : (List ByteArray) × List (List (Int × Int × List ByteArray))) : laws_eqSeries.f a b =
  ((laws_eqStringS.f a.1 b.1).bind fun y1 =>
  bif (!y1) then (some false) else
  ((laws_eqHunkSS.f a.2 b.2).bind fun y2 =>
   bif (!y2) then (some false) else (some true))) := by kernel_rfl
noncomputable def laws_eqSeries.S : Abs.Sum := ⟨laws_eqSeries.P, laws_eqSeries.R, fun _ => Fn laws_eqSeries.E laws_eqSeries.T laws_eqSeries.C laws_eqSeries.P laws_eqSeries.R laws_eqSeries.X⟩
theorem laws_eqSeries.meets : Meets Try.prog 52 laws_eqSeries.S := meets_tab (S := laws_eqSeries.U) tabOk_all (AllMeets.cons laws_eqStringS.meets (AllMeets.cons laws_eqHunkSS.meets AllMeets.nil)) (AllStill.cons (fun _ _ _ => rfl) (AllStill.cons (fun _ _ _ => rfl) AllStill.nil)) follows (by kernel_rfl : Try.prog.funcs[52]? = some Try.f52) (by kernel_rfl) (by kernel_rfl) (by kernel_rfl)
noncomputable def laws_eqStringSS.C : Code := Try.f53.body.getD .skip
def laws_eqStringSS.P : Par := (.cons (.val (.list (.list .str))) (.cons (.val (.list (.list .str))) .nil))
noncomputable def laws_eqStringSS.U : SumTab := [(19, [], laws_eqStringS.S)]
noncomputable def laws_eqStringSS.E : Env := mkEnv TY AR laws_eqStringSS.U
def laws_eqStringSS.D8 : CutD := ⟨[0, 1, 5], (.cons (.val (.list (.list .str))) (.cons (.val (.list (.list .str))) (.cons (.val (.int .i64)) .nil)))⟩
/-! laws_eqStringSS -/
noncomputable def laws_eqStringSS.T : Tab := fun k => look k [(8, laws_eqStringSS.D8)]
def laws_eqStringSS.R : List (Nat × Ty) := [(0, .bool)]
def laws_eqStringSS.X : List ResultVar := [.tmp 4]
noncomputable def laws_eqStringSS.K := fin laws_eqStringSS.E ⟨laws_eqStringSS.P, laws_eqStringSS.R, fun _ _ => none⟩ laws_eqStringSS.X laws_eqStringSS.P.len 0
noncomputable def laws_eqStringSS.l8 (a : List (List ByteArray)) (b : List (List ByteArray)) (i : Int) : Option (Bool) := fixP laws_eqStringSS.E laws_eqStringSS.T laws_eqStringSS.C laws_eqStringSS.K 8 laws_eqStringSS.D8 (a, b, i)
noncomputable def laws_eqStringSS.f (a : List (List ByteArray)) (b : List (List ByteArray)) : Option (Bool) := Fn laws_eqStringSS.E laws_eqStringSS.T laws_eqStringSS.C laws_eqStringSS.P laws_eqStringSS.R laws_eqStringSS.X (a, b)
theorem laws_eqStringSS.l8_eq (a : List (List ByteArray)) (b : List (List ByteArray)) (i : Int) : laws_eqStringSS.l8 a b i =
  (bif (decide (i < (a.length : Int))) then (bif ((decide (0 ≤ i)) && (decide (i < (a.length : Int)))) then (bif ((decide (0 ≤ i)) && (decide (i < (b.length : Int)))) then ((laws_eqStringS.f (a.getD (i).toNat ([] : List ByteArray)) (b.getD (i).toNat ([] : List ByteArray))).bind fun y1 =>
     bif (!y1) then (some false) else
     (laws_eqStringSS.l8 a b (w64 (i + 1)))) else none) else none) else (some true)) :=
  (fixP_eq laws_eqStringSS.E laws_eqStringSS.T laws_eqStringSS.C laws_eqStringSS.K 8 laws_eqStringSS.D8 (a, b, i)).trans (by kernel_rfl)
theorem laws_eqStringSS.f_eq (a : List (List ByteArray)) (b : List (List ByteArray)) : laws_eqStringSS.f a b =
  (bif (!(decide ((a.length : Int) = (b.length : Int)))) then (some false) else
  (laws_eqStringSS.l8 a b 0)) := by kernel_rfl
noncomputable def laws_eqStringSS.S : Abs.Sum := ⟨laws_eqStringSS.P, laws_eqStringSS.R, fun _ => Fn laws_eqStringSS.E laws_eqStringSS.T laws_eqStringSS.C laws_eqStringSS.P laws_eqStringSS.R laws_eqStringSS.X⟩
theorem laws_eqStringSS.meets : Meets Try.prog 53 laws_eqStringSS.S := meets_tab (S := laws_eqStringSS.U) tabOk_all (AllMeets.cons laws_eqStringS.meets AllMeets.nil) (AllStill.cons (fun _ _ _ => rfl) AllStill.nil) follows (by kernel_rfl : Try.prog.funcs[53]? = some Try.f53) (by kernel_rfl) (by kernel_rfl) (by kernel_rfl)
noncomputable def laws_markText.C : Code := Try.f81.body.getD .skip
def laws_markText.P : Par := (.cons (.val (.int .i64)) .nil)
noncomputable def laws_markText.U : SumTab := []
noncomputable def laws_markText.E : Env := mkEnv TY AR laws_markText.U
def laws_markText.D8 : CutD := ⟨[0, 3], (.cons (.val (.int .i64)) (.cons (.val .str) .nil))⟩
/-! laws_markText -/
noncomputable def laws_markText.T : Tab := fun k => look k [(8, laws_markText.D8)]
def laws_markText.R : List (Nat × Ty) := [(0, .str)]
def laws_markText.X : List ResultVar := [.tmp 2]
noncomputable def laws_markText.K := fin laws_markText.E ⟨laws_markText.P, laws_markText.R, fun _ _ => none⟩ laws_markText.X laws_markText.P.len 0
noncomputable def laws_markText.l8 (k : Int) (out : ByteArray) : Option (ByteArray) := fixP laws_markText.E laws_markText.T laws_markText.C laws_markText.K 8 laws_markText.D8 (k, out)
noncomputable def laws_markText.f (k : Int) : Option (ByteArray) := Fn laws_markText.E laws_markText.T laws_markText.C laws_markText.P laws_markText.R laws_markText.X k
theorem laws_markText.l8_eq (k : Int) (out : ByteArray) : laws_markText.l8 k out =
  (bif (decide (k > 0)) then (bif (decide (((strOf [(IntKind.wrap .u8 (w64 (48 + (k.tmod 10))))]).size + out.size) ≤ 9223372036854775807)) then (laws_markText.l8 (w64 (k.tdiv 10)) ((strOf [(IntKind.wrap .u8 (w64 (48 + (k.tmod 10))))]) ++ out)) else none) else
  (bif (decide (((⟨#[109]⟩ : ByteArray).size + out.size) ≤ 9223372036854775807)) then (some ((⟨#[109]⟩ : ByteArray) ++ out)) else none)) :=
  (fixP_eq laws_markText.E laws_markText.T laws_markText.C laws_markText.K 8 laws_markText.D8 (k, out)).trans (by kernel_rfl)
theorem laws_markText.f_eq (k : Int) : laws_markText.f k =
  (bif (decide (k ≤ 0)) then (some (⟨#[109, 48]⟩ : ByteArray)) else
  (laws_markText.l8 k em)) := by kernel_rfl
noncomputable def laws_markText.S : Abs.Sum := ⟨laws_markText.P, laws_markText.R, fun _ => Fn laws_markText.E laws_markText.T laws_markText.C laws_markText.P laws_markText.R laws_markText.X⟩
theorem laws_markText.meets : Meets Try.prog 81 laws_markText.S := meets_tab (S := laws_markText.U) tabOk_all AllMeets.nil AllStill.nil follows (by kernel_rfl : Try.prog.funcs[81]? = some Try.f81) (by kernel_rfl) (by kernel_rfl) (by kernel_rfl)
noncomputable def laws_markStringS.C : Code := Try.f20.body.getD .skip
def laws_markStringS.P : Par := (.cons (.io 9 .str) (.cons (.val (.int .i64)) .nil))
noncomputable def laws_markStringS.U : SumTab := [(81, [], laws_markText.S)]
noncomputable def laws_markStringS.E : Env := mkEnv TY AR laws_markStringS.U
def laws_markStringS.D4 : CutD := ⟨[0, 1, 5], (.cons (.own 9 .str) (.cons (.val (.int .i64)) (.cons (.val (.int .i64)) .nil)))⟩
/-! laws_markStringS -/
noncomputable def laws_markStringS.T : Tab := fun k => look k [(4, laws_markStringS.D4)]
def laws_markStringS.R : List (Nat × Ty) := [(0, .int .i64)]
def laws_markStringS.X : List ResultVar := [.tmp 4]
noncomputable def laws_markStringS.K := fin laws_markStringS.E ⟨laws_markStringS.P, laws_markStringS.R, fun _ _ => none⟩ laws_markStringS.X laws_markStringS.P.len 0
noncomputable def laws_markStringS.l4 (a : List ByteArray) (k : Int) (i : Int) : Option (Int × (List ByteArray)) := fixP laws_markStringS.E laws_markStringS.T laws_markStringS.C laws_markStringS.K 4 laws_markStringS.D4 (a, k, i)
noncomputable def laws_markStringS.f (a : List ByteArray) (k : Int) : Option (Int × (List ByteArray)) := Fn laws_markStringS.E laws_markStringS.T laws_markStringS.C laws_markStringS.P laws_markStringS.R laws_markStringS.X (a, k)
theorem laws_markStringS.l4_eq (a : List ByteArray) (k : Int) (i : Int) : laws_markStringS.l4 a k i =
  (bif (decide (i < (a.length : Int))) then ((laws_markText.f k).bind fun y1 =>
   bif ((decide (0 ≤ i)) && (decide (i < (a.length : Int)))) then (laws_markStringS.l4 (a.set (i).toNat y1) (w64 (k + 1)) (w64 (i + 1))) else none) else (some (k, a))) :=
  (fixP_eq laws_markStringS.E laws_markStringS.T laws_markStringS.C laws_markStringS.K 4 laws_markStringS.D4 (a, k, i)).trans (by kernel_rfl)
theorem laws_markStringS.f_eq (a : List ByteArray) (k : Int) : laws_markStringS.f a k =
  (laws_markStringS.l4 a k 0) := by kernel_rfl
noncomputable def laws_markStringS.S : Abs.Sum := ⟨laws_markStringS.P, laws_markStringS.R, fun _ => Fn laws_markStringS.E laws_markStringS.T laws_markStringS.C laws_markStringS.P laws_markStringS.R laws_markStringS.X⟩
theorem laws_markStringS.meets : Meets Try.prog 20 laws_markStringS.S := meets_tab (S := laws_markStringS.U) tabOk_all (AllMeets.cons laws_markText.meets AllMeets.nil) (AllStill.cons (fun _ _ _ => rfl) AllStill.nil) follows (by kernel_rfl : Try.prog.funcs[20]? = some Try.f20) (by kernel_rfl) (by kernel_rfl) (by kernel_rfl)
noncomputable def laws_markStringSS.C : Code := Try.f54.body.getD .skip
def laws_markStringSS.P : Par := (.cons (.io 9 (.list .str)) (.cons (.val (.int .i64)) .nil))
noncomputable def laws_markStringSS.U : SumTab := [(20, [], laws_markStringS.S)]
noncomputable def laws_markStringSS.E : Env := mkEnv TY AR laws_markStringSS.U
def laws_markStringSS.D4 : CutD := ⟨[0, 1, 5], (.cons (.own 9 (.list .str)) (.cons (.val (.int .i64)) (.cons (.val (.int .i64)) .nil)))⟩
/-! laws_markStringSS -/
noncomputable def laws_markStringSS.T : Tab := fun k => look k [(4, laws_markStringSS.D4)]
def laws_markStringSS.R : List (Nat × Ty) := [(0, .int .i64)]
def laws_markStringSS.X : List ResultVar := [.tmp 4]
noncomputable def laws_markStringSS.K := fin laws_markStringSS.E ⟨laws_markStringSS.P, laws_markStringSS.R, fun _ _ => none⟩ laws_markStringSS.X laws_markStringSS.P.len 0
noncomputable def laws_markStringSS.l4 (a : List (List ByteArray)) (k : Int) (i : Int) : Option (Int × (List (List ByteArray))) := fixP laws_markStringSS.E laws_markStringSS.T laws_markStringSS.C laws_markStringSS.K 4 laws_markStringSS.D4 (a, k, i)
noncomputable def laws_markStringSS.f (a : List (List ByteArray)) (k : Int) : Option (Int × (List (List ByteArray))) := Fn laws_markStringSS.E laws_markStringSS.T laws_markStringSS.C laws_markStringSS.P laws_markStringSS.R laws_markStringSS.X (a, k)
theorem laws_markStringSS.l4_eq (a : List (List ByteArray)) (k : Int) (i : Int) : laws_markStringSS.l4 a k i =
  (bif (decide (i < (a.length : Int))) then (bif ((decide (0 ≤ i)) && (decide (i < (a.length : Int)))) then ((laws_markStringS.f (a.getD (i).toNat ([] : List ByteArray)) k).bind fun y1 =>
    laws_markStringSS.l4 (a.set (i).toNat y1.2) y1.1 (w64 (i + 1))) else none) else (some (k, a))) :=
  (fixP_eq laws_markStringSS.E laws_markStringSS.T laws_markStringSS.C laws_markStringSS.K 4 laws_markStringSS.D4 (a, k, i)).trans (by kernel_rfl)
theorem laws_markStringSS.f_eq (a : List (List ByteArray)) (k : Int) : laws_markStringSS.f a k =
  (laws_markStringSS.l4 a k 0) := by kernel_rfl
noncomputable def laws_markStringSS.S : Abs.Sum := ⟨laws_markStringSS.P, laws_markStringSS.R, fun _ => Fn laws_markStringSS.E laws_markStringSS.T laws_markStringSS.C laws_markStringSS.P laws_markStringSS.R laws_markStringSS.X⟩
theorem laws_markStringSS.meets : Meets Try.prog 54 laws_markStringSS.S := meets_tab (S := laws_markStringSS.U) tabOk_all (AllMeets.cons laws_markStringS.meets AllMeets.nil) (AllStill.cons (fun _ _ _ => rfl) AllStill.nil) follows (by kernel_rfl : Try.prog.funcs[54]? = some Try.f54) (by kernel_rfl) (by kernel_rfl) (by kernel_rfl)
noncomputable def laws_markHunkS.C : Code := Try.f39.body.getD .skip
def laws_markHunkS.P : Par := (.cons (.io 9 (.pair (.int .i64) (.pair (.int .i64) (.one (.list .str))))) (.cons (.val (.int .i64)) .nil))
noncomputable def laws_markHunkS.U : SumTab := [(20, [], laws_markStringS.S)]
noncomputable def laws_markHunkS.E : Env := mkEnv TY AR laws_markHunkS.U
def laws_markHunkS.D4 : CutD := ⟨[0, 1, 5], (.cons (.own 9 (.pair (.int .i64) (.pair (.int .i64) (.one (.list .str))))) (.cons (.val (.int .i64)) (.cons (.val (.int .i64)) .nil)))⟩
/-! laws_markHunkS -/
noncomputable def laws_markHunkS.T : Tab := fun k => look k [(4, laws_markHunkS.D4)]
def laws_markHunkS.R : List (Nat × Ty) := [(0, .int .i64)]
def laws_markHunkS.X : List ResultVar := [.tmp 4]
noncomputable def laws_markHunkS.K := fin laws_markHunkS.E ⟨laws_markHunkS.P, laws_markHunkS.R, fun _ _ => none⟩ laws_markHunkS.X laws_markHunkS.P.len 0
noncomputable def laws_markHunkS.l4 (a : List (Int × Int × List ByteArray)) (k : Int) (i : Int) : Option (Int × (List (Int × Int × List ByteArray))) := fixP laws_markHunkS.E laws_markHunkS.T laws_markHunkS.C laws_markHunkS.K 4 laws_markHunkS.D4 (a, k, i)
noncomputable def laws_markHunkS.f (a : List (Int × Int × List ByteArray)) (k : Int) : Option (Int × (List (Int × Int × List ByteArray))) := Fn laws_markHunkS.E laws_markHunkS.T laws_markHunkS.C laws_markHunkS.P laws_markHunkS.R laws_markHunkS.X (a, k)
theorem laws_markHunkS.l4_eq (a : List (Int × Int × List ByteArray)) (k : Int) (i : Int) : laws_markHunkS.l4 a k i =
  (bif (decide (i < (a.length : Int))) then (bif ((decide (0 ≤ i)) && (decide (i < (a.length : Int)))) then (bif ((decide (0 ≤ i)) && (decide (i < ((a.set (i).toNat (k, (a.getD (i).toNat (0, 0, ([] : List ByteArray))).2)).length : Int)))) then (bif ((decide (0 ≤ i)) && (decide (i < (((a.set (i).toNat (k, (a.getD (i).toNat (0, 0, ([] : List ByteArray))).2)).set (i).toNat (((a.set (i).toNat (k, (a.getD (i).toNat (0, 0, ([] : List ByteArray))).2)).getD (i).toNat (0, 0, ([] : List ByteArray))).1, (w64 (k + 1)), ((a.set (i).toNat (k, (a.getD (i).toNat (0, 0, ([] : List ByteArray))).2)).getD (i).toNat (0, 0, ([] : List ByteArray))).2.2)).length : Int)))) then ((laws_markStringS.f (((a.set (i).toNat (k, (a.getD (i).toNat (0, 0, ([] : List ByteArray))).2)).set (i).toNat (((a.set (i).toNat (k, (a.getD (i).toNat (0, 0, ([] : List ByteArray))).2)).getD (i).toNat (0, 0, ([] : List ByteArray))).1, (w64 (k + 1)), ((a.set (i).toNat (k, (a.getD (i).toNat (0, 0, ([] : List ByteArray))).2)).getD (i).toNat (0, 0, ([] : List ByteArray))).2.2)).getD (i).toNat (0, 0, ([] : List ByteArray))).2.2 (w64 ((w64 (k + 1)) + 1))).bind fun y1 =>
      laws_markHunkS.l4 (((a.set (i).toNat (k, (a.getD (i).toNat (0, 0, ([] : List ByteArray))).2)).set (i).toNat (((a.set (i).toNat (k, (a.getD (i).toNat (0, 0, ([] : List ByteArray))).2)).getD (i).toNat (0, 0, ([] : List ByteArray))).1, (w64 (k + 1)), ((a.set (i).toNat (k, (a.getD (i).toNat (0, 0, ([] : List ByteArray))).2)).getD (i).toNat (0, 0, ([] : List ByteArray))).2.2)).set (i).toNat ((((a.set (i).toNat (k, (a.getD (i).toNat (0, 0, ([] : List ByteArray))).2)).set (i).toNat (((a.set (i).toNat (k, (a.getD (i).toNat (0, 0, ([] : List ByteArray))).2)).getD (i).toNat (0, 0, ([] : List ByteArray))).1, (w64 (k + 1)), ((a.set (i).toNat (k, (a.getD (i).toNat (0, 0, ([] : List ByteArray))).2)).getD (i).toNat (0, 0, ([] : List ByteArray))).2.2)).getD (i).toNat (0, 0, ([] : List ByteArray))).1, (((a.set (i).toNat (k, (a.getD (i).toNat (0, 0, ([] : List ByteArray))).2)).set (i).toNat (((a.set (i).toNat (k, (a.getD (i).toNat (0, 0, ([] : List ByteArray))).2)).getD (i).toNat (0, 0, ([] : List ByteArray))).1, (w64 (k + 1)), ((a.set (i).toNat (k, (a.getD (i).toNat (0, 0, ([] : List ByteArray))).2)).getD (i).toNat (0, 0, ([] : List ByteArray))).2.2)).getD (i).toNat (0, 0, ([] : List ByteArray))).2.1, y1.2)) y1.1 (w64 (i + 1))) else none) else none) else none) else (some (k, a))) :=
  (fixP_eq laws_markHunkS.E laws_markHunkS.T laws_markHunkS.C laws_markHunkS.K 4 laws_markHunkS.D4 (a, k, i)).trans (by kernel_rfl)
theorem laws_markHunkS.f_eq (a : List (Int × Int × List ByteArray)) (k : Int) : laws_markHunkS.f a k =
  (laws_markHunkS.l4 a k 0) := by kernel_rfl
noncomputable def laws_markHunkS.S : Abs.Sum := ⟨laws_markHunkS.P, laws_markHunkS.R, fun _ => Fn laws_markHunkS.E laws_markHunkS.T laws_markHunkS.C laws_markHunkS.P laws_markHunkS.R laws_markHunkS.X⟩
theorem laws_markHunkS.meets : Meets Try.prog 39 laws_markHunkS.S := meets_tab (S := laws_markHunkS.U) tabOk_all (AllMeets.cons laws_markStringS.meets AllMeets.nil) (AllStill.cons (fun _ _ _ => rfl) AllStill.nil) follows (by kernel_rfl : Try.prog.funcs[39]? = some Try.f39) (by kernel_rfl) (by kernel_rfl) (by kernel_rfl)
noncomputable def laws_markHunkSS.C : Code := Try.f110.body.getD .skip
def laws_markHunkSS.P : Par := (.cons (.io 9 (.list (.pair (.int .i64) (.pair (.int .i64) (.one (.list .str)))))) (.cons (.val (.int .i64)) .nil))
noncomputable def laws_markHunkSS.U : SumTab := [(39, [], laws_markHunkS.S)]
noncomputable def laws_markHunkSS.E : Env := mkEnv TY AR laws_markHunkSS.U
def laws_markHunkSS.D4 : CutD := ⟨[0, 1, 5], (.cons (.own 9 (.list (.pair (.int .i64) (.pair (.int .i64) (.one (.list .str)))))) (.cons (.val (.int .i64)) (.cons (.val (.int .i64)) .nil)))⟩
/-! laws_markHunkSS -/
noncomputable def laws_markHunkSS.T : Tab := fun k => look k [(4, laws_markHunkSS.D4)]
def laws_markHunkSS.R : List (Nat × Ty) := [(0, .int .i64)]
def laws_markHunkSS.X : List ResultVar := [.tmp 4]
noncomputable def laws_markHunkSS.K := fin laws_markHunkSS.E ⟨laws_markHunkSS.P, laws_markHunkSS.R, fun _ _ => none⟩ laws_markHunkSS.X laws_markHunkSS.P.len 0
noncomputable def laws_markHunkSS.l4 (a : List (List (Int × Int × List ByteArray))) (k : Int) (i : Int) : Option (Int × (List (List (Int × Int × List ByteArray)))) := fixP laws_markHunkSS.E laws_markHunkSS.T laws_markHunkSS.C laws_markHunkSS.K 4 laws_markHunkSS.D4 (a, k, i)
noncomputable def laws_markHunkSS.f (a : List (List (Int × Int × List ByteArray))) (k : Int) : Option (Int × (List (List (Int × Int × List ByteArray)))) := Fn laws_markHunkSS.E laws_markHunkSS.T laws_markHunkSS.C laws_markHunkSS.P laws_markHunkSS.R laws_markHunkSS.X (a, k)
theorem laws_markHunkSS.l4_eq (a : List (List (Int × Int × List ByteArray))) (k : Int) (i : Int) : laws_markHunkSS.l4 a k i =
  (bif (decide (i < (a.length : Int))) then (bif ((decide (0 ≤ i)) && (decide (i < (a.length : Int)))) then ((laws_markHunkS.f (a.getD (i).toNat ([] : List (Int × Int × List ByteArray))) k).bind fun y1 =>
    laws_markHunkSS.l4 (a.set (i).toNat y1.2) y1.1 (w64 (i + 1))) else none) else (some (k, a))) :=
  (fixP_eq laws_markHunkSS.E laws_markHunkSS.T laws_markHunkSS.C laws_markHunkSS.K 4 laws_markHunkSS.D4 (a, k, i)).trans (by kernel_rfl)
theorem laws_markHunkSS.f_eq (a : List (List (Int × Int × List ByteArray))) (k : Int) : laws_markHunkSS.f a k =
  (laws_markHunkSS.l4 a k 0) := by kernel_rfl
noncomputable def laws_markHunkSS.S : Abs.Sum := ⟨laws_markHunkSS.P, laws_markHunkSS.R, fun _ => Fn laws_markHunkSS.E laws_markHunkSS.T laws_markHunkSS.C laws_markHunkSS.P laws_markHunkSS.R laws_markHunkSS.X⟩
theorem laws_markHunkSS.meets : Meets Try.prog 110 laws_markHunkSS.S := meets_tab (S := laws_markHunkSS.U) tabOk_all (AllMeets.cons laws_markHunkS.meets AllMeets.nil) (AllStill.cons (fun _ _ _ => rfl) AllStill.nil) follows (by kernel_rfl : Try.prog.funcs[110]? = some Try.f110) (by kernel_rfl) (by kernel_rfl) (by kernel_rfl)
noncomputable def laws_markSeries.C : Code := Try.f55.body.getD .skip
def laws_markSeries.P : Par := (.cons (.agg (.cons (.io 9 .str) (.cons (.io 9 (.list (.pair (.int .i64) (.pair (.int .i64) (.one (.list .str)))))) .nil))) (.cons (.val (.int .i64)) .nil))
noncomputable def laws_markSeries.U : SumTab := [(20, [], laws_markStringS.S), (110, [], laws_markHunkSS.S)]
noncomputable def laws_markSeries.E : Env := mkEnv TY AR laws_markSeries.U
/-! laws_markSeries -/
noncomputable def laws_markSeries.T : Tab := fun k => look k []
def laws_markSeries.R : List (Nat × Ty) := [(0, .int .i64)]
def laws_markSeries.X : List ResultVar := [.tmp 4]
noncomputable def laws_markSeries.K := fin laws_markSeries.E ⟨laws_markSeries.P, laws_markSeries.R, fun _ _ => none⟩ laws_markSeries.X laws_markSeries.P.len 0
noncomputable def laws_markSeries.f (a_0 : List ByteArray) (a_1 : List (List (Int × Int × List ByteArray))) (k : Int) : Option (Int × (List ByteArray) × (List (List (Int × Int × List ByteArray)))) := Fn laws_markSeries.E laws_markSeries.T laws_markSeries.C laws_markSeries.P laws_markSeries.R laws_markSeries.X (a_0, a_1, k)
theorem laws_markSeries.f_eq (a_0 : List ByteArray) (a_1 : List (List (Int × Int × List ByteArray))) (k : Int) : laws_markSeries.f a_0 a_1 k =
  ((laws_markStringS.f a_0 k).bind fun y1 =>
  (laws_markHunkSS.f a_1 y1.1).bind fun y2 =>
  some (y2.1, y1.2, y2.2)) := by kernel_rfl
noncomputable def laws_markSeries.S : Abs.Sum := ⟨laws_markSeries.P, laws_markSeries.R, fun _ => Fn laws_markSeries.E laws_markSeries.T laws_markSeries.C laws_markSeries.P laws_markSeries.R laws_markSeries.X⟩
theorem laws_markSeries.meets : Meets Try.prog 55 laws_markSeries.S := meets_tab (S := laws_markSeries.U) tabOk_all (AllMeets.cons laws_markStringS.meets (AllMeets.cons laws_markHunkSS.meets AllMeets.nil)) (AllStill.cons (fun _ _ _ => rfl) (AllStill.cons (fun _ _ _ => rfl) AllStill.nil)) follows (by kernel_rfl : Try.prog.funcs[55]? = some Try.f55) (by kernel_rfl) (by kernel_rfl) (by kernel_rfl)
noncomputable def laws_heldStringS.C : Code := Try.f101.body.getD .skip
def laws_heldStringS.P : Par := (.cons (.val (.list .str)) (.cons (.val (.int .i64)) .nil))
noncomputable def laws_heldStringS.U : SumTab := [(81, [], laws_markText.S)]
noncomputable def laws_heldStringS.E : Env := mkEnv TY AR laws_heldStringS.U
def laws_heldStringS.D4 : CutD := ⟨[0, 1, 5], (.cons (.val (.list .str)) (.cons (.val (.int .i64)) (.cons (.val (.int .i64)) .nil)))⟩
/-! laws_heldStringS -/
noncomputable def laws_heldStringS.T : Tab := fun k => look k [(4, laws_heldStringS.D4)]
def laws_heldStringS.R : List (Nat × Ty) := [(0, .int .i64)]
def laws_heldStringS.X : List ResultVar := [.tmp 4]
noncomputable def laws_heldStringS.K := fin laws_heldStringS.E ⟨laws_heldStringS.P, laws_heldStringS.R, fun _ _ => none⟩ laws_heldStringS.X laws_heldStringS.P.len 0
noncomputable def laws_heldStringS.l4 (a : List ByteArray) (k : Int) (i : Int) : Option (Int) := fixP laws_heldStringS.E laws_heldStringS.T laws_heldStringS.C laws_heldStringS.K 4 laws_heldStringS.D4 (a, k, i)
noncomputable def laws_heldStringS.f (a : List ByteArray) (k : Int) : Option (Int) := Fn laws_heldStringS.E laws_heldStringS.T laws_heldStringS.C laws_heldStringS.P laws_heldStringS.R laws_heldStringS.X (a, k)
theorem laws_heldStringS.l4_eq (a : List ByteArray) (k : Int) (i : Int) : laws_heldStringS.l4 a k i =
  (bif (decide (i < (a.length : Int))) then (bif ((decide (0 ≤ i)) && (decide (i < (a.length : Int)))) then ((laws_markText.f k).bind fun y1 =>
    bif (!((a.getD (i).toNat em).toList == y1.toList)) then (some (-1)) else
    (laws_heldStringS.l4 a (w64 (k + 1)) (w64 (i + 1)))) else none) else (some k)) :=
  (fixP_eq laws_heldStringS.E laws_heldStringS.T laws_heldStringS.C laws_heldStringS.K 4 laws_heldStringS.D4 (a, k, i)).trans (by kernel_rfl)
theorem laws_heldStringS.f_eq (a : List ByteArray) (k : Int) : laws_heldStringS.f a k =
  (laws_heldStringS.l4 a k 0) := by kernel_rfl
noncomputable def laws_heldStringS.S : Abs.Sum := ⟨laws_heldStringS.P, laws_heldStringS.R, fun _ => Fn laws_heldStringS.E laws_heldStringS.T laws_heldStringS.C laws_heldStringS.P laws_heldStringS.R laws_heldStringS.X⟩
theorem laws_heldStringS.meets : Meets Try.prog 101 laws_heldStringS.S := meets_tab (S := laws_heldStringS.U) tabOk_all (AllMeets.cons laws_markText.meets AllMeets.nil) (AllStill.cons (fun _ _ _ => rfl) AllStill.nil) follows (by kernel_rfl : Try.prog.funcs[101]? = some Try.f101) (by kernel_rfl) (by kernel_rfl) (by kernel_rfl)
noncomputable def laws_heldHunkS.C : Code := Try.f40.body.getD .skip
def laws_heldHunkS.P : Par := (.cons (.val (.list (.pair (.int .i64) (.pair (.int .i64) (.one (.list .str)))))) (.cons (.val (.int .i64)) .nil))
noncomputable def laws_heldHunkS.U : SumTab := [(101, [], laws_heldStringS.S)]
noncomputable def laws_heldHunkS.E : Env := mkEnv TY AR laws_heldHunkS.U
def laws_heldHunkS.D4 : CutD := ⟨[0, 1, 5], (.cons (.val (.list (.pair (.int .i64) (.pair (.int .i64) (.one (.list .str)))))) (.cons (.val (.int .i64)) (.cons (.val (.int .i64)) .nil)))⟩
/-! laws_heldHunkS -/
noncomputable def laws_heldHunkS.T : Tab := fun k => look k [(4, laws_heldHunkS.D4)]
def laws_heldHunkS.R : List (Nat × Ty) := [(0, .int .i64)]
def laws_heldHunkS.X : List ResultVar := [.tmp 4]
noncomputable def laws_heldHunkS.K := fin laws_heldHunkS.E ⟨laws_heldHunkS.P, laws_heldHunkS.R, fun _ _ => none⟩ laws_heldHunkS.X laws_heldHunkS.P.len 0
noncomputable def laws_heldHunkS.l4 (a : List (Int × Int × List ByteArray)) (k : Int) (i : Int) : Option (Int) := fixP laws_heldHunkS.E laws_heldHunkS.T laws_heldHunkS.C laws_heldHunkS.K 4 laws_heldHunkS.D4 (a, k, i)
noncomputable def laws_heldHunkS.f (a : List (Int × Int × List ByteArray)) (k : Int) : Option (Int) := Fn laws_heldHunkS.E laws_heldHunkS.T laws_heldHunkS.C laws_heldHunkS.P laws_heldHunkS.R laws_heldHunkS.X (a, k)
theorem laws_heldHunkS.l4_eq (a : List (Int × Int × List ByteArray)) (k : Int) (i : Int) : laws_heldHunkS.l4 a k i =
  (bif (decide (i < (a.length : Int))) then (bif ((decide (0 ≤ i)) && (decide (i < (a.length : Int)))) then (bif (!(decide ((a.getD (i).toNat (0, 0, ([] : List ByteArray))).1 = k))) then (some (-1)) else
    (bif ((decide (0 ≤ i)) && (decide (i < (a.length : Int)))) then (bif (!(decide ((a.getD (i).toNat (0, 0, ([] : List ByteArray))).2.1 = (w64 (k + 1))))) then (some (-1)) else
      (bif ((decide (0 ≤ i)) && (decide (i < (a.length : Int)))) then ((laws_heldStringS.f (a.getD (i).toNat (0, 0, ([] : List ByteArray))).2.2 (w64 ((w64 (k + 1)) + 1))).bind fun y1 =>
        bif (decide (y1 < 0)) then (some (-1)) else
        (laws_heldHunkS.l4 a y1 (w64 (i + 1)))) else none)) else none)) else none) else (some k)) :=
  (fixP_eq laws_heldHunkS.E laws_heldHunkS.T laws_heldHunkS.C laws_heldHunkS.K 4 laws_heldHunkS.D4 (a, k, i)).trans (by kernel_rfl)
theorem laws_heldHunkS.f_eq (a : List (Int × Int × List ByteArray)) (k : Int) : laws_heldHunkS.f a k =
  (laws_heldHunkS.l4 a k 0) := by kernel_rfl
noncomputable def laws_heldHunkS.S : Abs.Sum := ⟨laws_heldHunkS.P, laws_heldHunkS.R, fun _ => Fn laws_heldHunkS.E laws_heldHunkS.T laws_heldHunkS.C laws_heldHunkS.P laws_heldHunkS.R laws_heldHunkS.X⟩
theorem laws_heldHunkS.meets : Meets Try.prog 40 laws_heldHunkS.S := meets_tab (S := laws_heldHunkS.U) tabOk_all (AllMeets.cons laws_heldStringS.meets AllMeets.nil) (AllStill.cons (fun _ _ _ => rfl) AllStill.nil) follows (by kernel_rfl : Try.prog.funcs[40]? = some Try.f40) (by kernel_rfl) (by kernel_rfl) (by kernel_rfl)
noncomputable def laws_heldHunkSS.C : Code := Try.f111.body.getD .skip
def laws_heldHunkSS.P : Par := (.cons (.val (.list (.list (.pair (.int .i64) (.pair (.int .i64) (.one (.list .str))))))) (.cons (.val (.int .i64)) .nil))
noncomputable def laws_heldHunkSS.U : SumTab := [(40, [], laws_heldHunkS.S)]
noncomputable def laws_heldHunkSS.E : Env := mkEnv TY AR laws_heldHunkSS.U
def laws_heldHunkSS.D4 : CutD := ⟨[0, 1, 5], (.cons (.val (.list (.list (.pair (.int .i64) (.pair (.int .i64) (.one (.list .str))))))) (.cons (.val (.int .i64)) (.cons (.val (.int .i64)) .nil)))⟩
/-! laws_heldHunkSS -/
noncomputable def laws_heldHunkSS.T : Tab := fun k => look k [(4, laws_heldHunkSS.D4)]
def laws_heldHunkSS.R : List (Nat × Ty) := [(0, .int .i64)]
def laws_heldHunkSS.X : List ResultVar := [.tmp 4]
noncomputable def laws_heldHunkSS.K := fin laws_heldHunkSS.E ⟨laws_heldHunkSS.P, laws_heldHunkSS.R, fun _ _ => none⟩ laws_heldHunkSS.X laws_heldHunkSS.P.len 0
noncomputable def laws_heldHunkSS.l4 (a : List (List (Int × Int × List ByteArray))) (k : Int) (i : Int) : Option (Int) := fixP laws_heldHunkSS.E laws_heldHunkSS.T laws_heldHunkSS.C laws_heldHunkSS.K 4 laws_heldHunkSS.D4 (a, k, i)
noncomputable def laws_heldHunkSS.f (a : List (List (Int × Int × List ByteArray))) (k : Int) : Option (Int) := Fn laws_heldHunkSS.E laws_heldHunkSS.T laws_heldHunkSS.C laws_heldHunkSS.P laws_heldHunkSS.R laws_heldHunkSS.X (a, k)
theorem laws_heldHunkSS.l4_eq (a : List (List (Int × Int × List ByteArray))) (k : Int) (i : Int) : laws_heldHunkSS.l4 a k i =
  (bif (decide (i < (a.length : Int))) then (bif ((decide (0 ≤ i)) && (decide (i < (a.length : Int)))) then ((laws_heldHunkS.f (a.getD (i).toNat ([] : List (Int × Int × List ByteArray))) k).bind fun y1 =>
    bif (decide (y1 < 0)) then (some (-1)) else
    (laws_heldHunkSS.l4 a y1 (w64 (i + 1)))) else none) else (some k)) :=
  (fixP_eq laws_heldHunkSS.E laws_heldHunkSS.T laws_heldHunkSS.C laws_heldHunkSS.K 4 laws_heldHunkSS.D4 (a, k, i)).trans (by kernel_rfl)
theorem laws_heldHunkSS.f_eq (a : List (List (Int × Int × List ByteArray))) (k : Int) : laws_heldHunkSS.f a k =
  (laws_heldHunkSS.l4 a k 0) := by kernel_rfl
noncomputable def laws_heldHunkSS.S : Abs.Sum := ⟨laws_heldHunkSS.P, laws_heldHunkSS.R, fun _ => Fn laws_heldHunkSS.E laws_heldHunkSS.T laws_heldHunkSS.C laws_heldHunkSS.P laws_heldHunkSS.R laws_heldHunkSS.X⟩
theorem laws_heldHunkSS.meets : Meets Try.prog 111 laws_heldHunkSS.S := meets_tab (S := laws_heldHunkSS.U) tabOk_all (AllMeets.cons laws_heldHunkS.meets AllMeets.nil) (AllStill.cons (fun _ _ _ => rfl) AllStill.nil) follows (by kernel_rfl : Try.prog.funcs[111]? = some Try.f111) (by kernel_rfl) (by kernel_rfl) (by kernel_rfl)
noncomputable def laws_heldSeries.C : Code := Try.f56.body.getD .skip
def laws_heldSeries.P : Par := (.cons (.val (.pair (.list .str) (.one (.list (.list (.pair (.int .i64) (.pair (.int .i64) (.one (.list .str))))))))) (.cons (.val (.int .i64)) .nil))
noncomputable def laws_heldSeries.U : SumTab := [(101, [], laws_heldStringS.S), (111, [], laws_heldHunkSS.S)]
noncomputable def laws_heldSeries.E : Env := mkEnv TY AR laws_heldSeries.U
/-! laws_heldSeries -/
noncomputable def laws_heldSeries.T : Tab := fun k => look k []
def laws_heldSeries.R : List (Nat × Ty) := [(0, .int .i64)]
def laws_heldSeries.X : List ResultVar := [.tmp 4]
noncomputable def laws_heldSeries.K := fin laws_heldSeries.E ⟨laws_heldSeries.P, laws_heldSeries.R, fun _ _ => none⟩ laws_heldSeries.X laws_heldSeries.P.len 0
noncomputable def laws_heldSeries.f (a : (List ByteArray) × List (List (Int × Int × List ByteArray))) (k : Int) : Option (Int) := Fn laws_heldSeries.E laws_heldSeries.T laws_heldSeries.C laws_heldSeries.P laws_heldSeries.R laws_heldSeries.X (a, k)
theorem laws_heldSeries.f_eq (a : (List ByteArray) × List (List (Int × Int × List ByteArray))) (k : Int) : laws_heldSeries.f a k =
  ((laws_heldStringS.f a.1 k).bind fun y1 =>
  bif (decide (y1 < 0)) then (some (-1)) else
  ((laws_heldHunkSS.f a.2 y1).bind fun y2 =>
   bif (decide (y2 < 0)) then (some (-1)) else (some y2))) := by kernel_rfl
noncomputable def laws_heldSeries.S : Abs.Sum := ⟨laws_heldSeries.P, laws_heldSeries.R, fun _ => Fn laws_heldSeries.E laws_heldSeries.T laws_heldSeries.C laws_heldSeries.P laws_heldSeries.R laws_heldSeries.X⟩
theorem laws_heldSeries.meets : Meets Try.prog 56 laws_heldSeries.S := meets_tab (S := laws_heldSeries.U) tabOk_all (AllMeets.cons laws_heldStringS.meets (AllMeets.cons laws_heldHunkSS.meets AllMeets.nil)) (AllStill.cons (fun _ _ _ => rfl) (AllStill.cons (fun _ _ _ => rfl) AllStill.nil)) follows (by kernel_rfl : Try.prog.funcs[56]? = some Try.f56) (by kernel_rfl) (by kernel_rfl) (by kernel_rfl)
noncomputable def laws_FnExactSeriesOf.C : Code := Try.f10.body.getD .skip
def laws_FnExactSeriesOf.P : Par := (.cons (.val (.list (.list .str))) .nil)
noncomputable def laws_FnExactSeriesOf.U : SumTab := [(48, [], laws_szStringSS.S), (50, [], laws_toStringSS.S), (49, [], spec_SeriesOf.S), (51, [], impl_SeriesOf.S), (52, [], laws_eqSeries.S), (53, [], laws_eqStringSS.S), (54, [], laws_markStringSS.S), (55, [], laws_markSeries.S), (56, [], laws_heldSeries.S)]
noncomputable def laws_FnExactSeriesOf.E : Env := mkEnv TY AR laws_FnExactSeriesOf.U
def laws_FnExactSeriesOf.D21 : CutD := ⟨[0, 4, 5, 6, 7, 8], (.cons (.val (.list (.list .str))) (.cons (.box 9 (.pair (.list .str) (.one (.list (.list (.pair (.int .i64) (.pair (.int .i64) (.one (.list .str))))))))) (.cons (.val .bool) (.cons (.own 8 (.list .str)) (.cons (.box 9 (.pair (.list .str) (.one (.list (.list (.pair (.int .i64) (.pair (.int .i64) (.one (.list .str))))))))) (.cons (.val .bool) .nil))))))⟩
def laws_FnExactSeriesOf.D33 : CutD := ⟨[0, 4, 5, 7], (.cons (.val (.list (.list .str))) (.cons (.box 9 (.pair (.list .str) (.one (.list (.list (.pair (.int .i64) (.pair (.int .i64) (.one (.list .str))))))))) (.cons (.val .bool) (.cons (.box 9 (.pair (.list .str) (.one (.list (.list (.pair (.int .i64) (.pair (.int .i64) (.one (.list .str))))))))) .nil))))⟩
def laws_FnExactSeriesOf.D55 : CutD := ⟨[7, 10], (.cons (.box 9 (.pair (.list .str) (.one (.list (.list (.pair (.int .i64) (.pair (.int .i64) (.one (.list .str))))))))) (.cons (.val (.int .i64)) .nil))⟩
/-! laws_FnExactSeriesOf -/
noncomputable def laws_FnExactSeriesOf.T : Tab := fun k => look k [(21, laws_FnExactSeriesOf.D21), (33, laws_FnExactSeriesOf.D33), (55, laws_FnExactSeriesOf.D55)]
def laws_FnExactSeriesOf.R : List (Nat × Ty) := [(0, .bool)]
def laws_FnExactSeriesOf.X : List ResultVar := [.tmp 2]
noncomputable def laws_FnExactSeriesOf.K := fin laws_FnExactSeriesOf.E ⟨laws_FnExactSeriesOf.P, laws_FnExactSeriesOf.R, fun _ _ => none⟩ laws_FnExactSeriesOf.X laws_FnExactSeriesOf.P.len 0
noncomputable def laws_FnExactSeriesOf.l21 (aV : List (List ByteArray)) (w0 : (List ByteArray) × List (List (Int × Int × List ByteArray))) (w1 : Bool) (x0 : List (List ByteArray)) (g0 : (List ByteArray) × List (List (Int × Int × List ByteArray))) (g1 : Bool) : Option (Bool) := fixP laws_FnExactSeriesOf.E laws_FnExactSeriesOf.T laws_FnExactSeriesOf.C laws_FnExactSeriesOf.K 21 laws_FnExactSeriesOf.D21 (aV, w0, w1, x0, g0, g1)
noncomputable def laws_FnExactSeriesOf.l33 (aV : List (List ByteArray)) (w0 : (List ByteArray) × List (List (Int × Int × List ByteArray))) (w1 : Bool) (g0 : (List ByteArray) × List (List (Int × Int × List ByteArray))) : Option (Bool) := fixP laws_FnExactSeriesOf.E laws_FnExactSeriesOf.T laws_FnExactSeriesOf.C laws_FnExactSeriesOf.K 33 laws_FnExactSeriesOf.D33 (aV, w0, w1, g0)
noncomputable def laws_FnExactSeriesOf.l55 (g0 : (List ByteArray) × List (List (Int × Int × List ByteArray))) (m : Int) : Option (Bool) := fixP laws_FnExactSeriesOf.E laws_FnExactSeriesOf.T laws_FnExactSeriesOf.C laws_FnExactSeriesOf.K 55 laws_FnExactSeriesOf.D55 (g0, m)
noncomputable def laws_FnExactSeriesOf.f (aV : List (List ByteArray)) : Option (Bool) := Fn laws_FnExactSeriesOf.E laws_FnExactSeriesOf.T laws_FnExactSeriesOf.C laws_FnExactSeriesOf.P laws_FnExactSeriesOf.R laws_FnExactSeriesOf.X aV
theorem laws_FnExactSeriesOf.l21_eq (aV : List (List ByteArray)) (w0 : (List ByteArray) × List (List (Int × Int × List ByteArray))) (w1 : Bool) (x0 : List (List ByteArray)) (g0 : (List ByteArray) × List (List (Int × Int × List ByteArray))) (g1 : Bool) : laws_FnExactSeriesOf.l21 aV w0 w1 x0 g0 g1 =
  ((laws_toStringSS.f aV).bind fun y1 =>
  (laws_eqStringSS.f x0 y1).bind fun y2 =>
  bif (!y2) then (some false) else
  ((laws_markStringSS.f x0 1).bind fun y3 =>
   bif (decide (y3.1 < 0)) then (some false) else
   ((laws_eqSeries.f (g0.1, g0.2) (w0.1, w0.2)).bind fun y4 =>
    bif (!y4) then (some false) else
    (bif (!(g1 == w1)) then (some false) else
     (laws_FnExactSeriesOf.l33 aV (w0.1, w0.2) w1 (g0.1, g0.2)))))) :=
  (fixP_eq laws_FnExactSeriesOf.E laws_FnExactSeriesOf.T laws_FnExactSeriesOf.C laws_FnExactSeriesOf.K 21 laws_FnExactSeriesOf.D21 (aV, w0, w1, x0, g0, g1)).trans (by kernel_rfl)
theorem laws_FnExactSeriesOf.l33_eq (aV : List (List ByteArray)) (w0 : (List ByteArray) × List (List (Int × Int × List ByteArray))) (w1 : Bool) (g0 : (List ByteArray) × List (List (Int × Int × List ByteArray))) : laws_FnExactSeriesOf.l33 aV w0 w1 g0 =
  ((laws_markSeries.f g0.1 g0.2 1).bind fun y1 =>
  (laws_heldSeries.f (y1.2.1, y1.2.2) 1).bind fun y2 =>
  bif (decide (y2 < 0)) then (some false) else
  (bif (!(decide (y2 = y1.1))) then (some false) else
   ((laws_toStringSS.f aV).bind fun y3 =>
    (impl_SeriesOf.f y3).bind fun y4 =>
    (laws_eqSeries.f (y4.1.1, y4.1.2) (w0.1, w0.2)).bind fun y5 =>
    bif (!y5) then (some false) else
    (bif (!(y4.2 == w1)) then (some false) else
     (laws_FnExactSeriesOf.l55 (y1.2.1, y1.2.2) y1.1))))) :=
  (fixP_eq laws_FnExactSeriesOf.E laws_FnExactSeriesOf.T laws_FnExactSeriesOf.C laws_FnExactSeriesOf.K 33 laws_FnExactSeriesOf.D33 (aV, w0, w1, g0)).trans (by kernel_rfl)
theorem laws_FnExactSeriesOf.l55_eq (g0 : (List ByteArray) × List (List (Int × Int × List ByteArray))) (m : Int) : laws_FnExactSeriesOf.l55 g0 m =
  ((laws_heldSeries.f (g0.1, g0.2) 1).bind fun y1 =>
  bif (decide (y1 < 0)) then (some false) else
  (bif (!(decide (y1 = m))) then (some false) else (some true))) :=
  (fixP_eq laws_FnExactSeriesOf.E laws_FnExactSeriesOf.T laws_FnExactSeriesOf.C laws_FnExactSeriesOf.K 55 laws_FnExactSeriesOf.D55 (g0, m)).trans (by kernel_rfl)
theorem laws_FnExactSeriesOf.f_eq (aV : List (List ByteArray)) : laws_FnExactSeriesOf.f aV =
  ((laws_szStringSS.f aV 1048576).bind fun y1 =>
  bif (decide (y1 < 0)) then (some true) else
  ((laws_toStringSS.f aV).bind fun y2 =>
   (spec_SeriesOf.f y2).bind fun y3 =>
   (laws_toStringSS.f aV).bind fun y4 =>
   (impl_SeriesOf.f y4).bind fun y5 =>
   (laws_eqSeries.f (y5.1.1, y5.1.2) (y3.1.1, y3.1.2)).bind fun y6 =>
   bif (!y6) then (some false) else
   (bif (!(y5.2 == y3.2)) then (some false) else
    (laws_FnExactSeriesOf.l21 aV (y3.1.1, y3.1.2) y3.2 y4 (y5.1.1, y5.1.2) y5.2)))) := by kernel_rfl
noncomputable def laws_FnExactSeriesOf.S : Abs.Sum := ⟨laws_FnExactSeriesOf.P, laws_FnExactSeriesOf.R, fun _ => Fn laws_FnExactSeriesOf.E laws_FnExactSeriesOf.T laws_FnExactSeriesOf.C laws_FnExactSeriesOf.P laws_FnExactSeriesOf.R laws_FnExactSeriesOf.X⟩
theorem laws_FnExactSeriesOf.meets : Meets Try.prog 10 laws_FnExactSeriesOf.S := meets_tab (S := laws_FnExactSeriesOf.U) tabOk_all (AllMeets.cons laws_szStringSS.meets (AllMeets.cons laws_toStringSS.meets (AllMeets.cons spec_SeriesOf.meets (AllMeets.cons impl_SeriesOf.meets (AllMeets.cons laws_eqSeries.meets (AllMeets.cons laws_eqStringSS.meets (AllMeets.cons laws_markStringSS.meets (AllMeets.cons laws_markSeries.meets (AllMeets.cons laws_heldSeries.meets AllMeets.nil))))))))) (AllStill.cons (fun _ _ _ => rfl) (AllStill.cons (fun _ _ _ => rfl) (AllStill.cons (fun _ _ _ => rfl) (AllStill.cons (fun _ _ _ => rfl) (AllStill.cons (fun _ _ _ => rfl) (AllStill.cons (fun _ _ _ => rfl) (AllStill.cons (fun _ _ _ => rfl) (AllStill.cons (fun _ _ _ => rfl) (AllStill.cons (fun _ _ _ => rfl) AllStill.nil))))))))) follows (by kernel_rfl : Try.prog.funcs[10]? = some Try.f10) (by kernel_rfl) (by kernel_rfl) (by kernel_rfl)
end Go.Abs.GE
